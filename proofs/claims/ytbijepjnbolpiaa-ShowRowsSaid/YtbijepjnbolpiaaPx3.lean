/- Written by a program of this session: the functions that the laws reach, what each comes to, and each law as it is stated, for every input. No condition. -/
import Derived.Test.YtbijepjnbolpiaaPx0
import Derived.Test.YtbijepjnbolpiaaPx2
namespace Go.Proofs.Ytbijepjnbolpiaa.P
open Go.RowKit Go.Proofs.YtbijepjnbolpiaaW.PrintWords Go.Proofs.YtbijepjnbolpiaaW.PrintLast Go.Proofs.YtbijepjnbolpiaaW.PrintMore
attribute [local go_sem] max2_int min2_int max_two min_two max_three min_three max_four min_four   -- for this text's walks alone
set_option linter.unusedVariables false
set_option linter.unusedSimpArgs false
def arr_good.f (a0 : Int) : Option (Bool) := if a0 ≥ 0 then (if a0 ≤ 1114111 then (if a0 < 55296 then (some true) else (some (decide (a0 > 57343)))) else (some false)) else (some false)
set_option maxHeartbeats 8000000 in
set_option maxRecDepth 100000 in
theorem arr_good.calls (a0 : Int) (r : Bool) (w : World) (h : arr_good.f a0 = some r) :
  Calls Try.prog 29 #[.int .i64 a0] w fun e w' => e = .returned (.bool r) ∧ Drawn0 w w' := by
 have H : (if a0 ≥ 0 then (if a0 ≤ 1114111 then (if a0 < 55296 then (some true) else (some (decide (a0 > 57343)))) else (some false)) else (some false)) = some r := h
 clear h
 by_cases c2 : a0 ≥ 0
 ·rw [if_pos c2] at H
  have c2b0 : decide (0 ≤ a0) = true := decide_eq_true c2
  clear c2
  by_cases c3 : a0 ≤ 1114111
  ·rw [if_pos c3] at H
   have c3b0 := decide_eq_true c3
   clear c3
   by_cases c4 : a0 < 55296
   ·rw [if_pos c4] at H
    have c4b0 := decide_eq_true c4
    clear c4
    obtain rfl := Option.some.inj H
    go_enter Try.func29, Try.ntmps29
    go_wp2
    go_ret
    exact ⟨rfl, by repeat (first | exact Drawn0.refl _ | apply Drawn0.step)⟩
   ·rw [if_neg c4] at H
    have c4b0 := decide_eq_false c4
    clear c4
    obtain rfl := Option.some.inj H
    go_enter Try.func29, Try.ntmps29
    go_wp2
    go_ret
    exact ⟨rfl, by repeat (first | exact Drawn0.refl _ | apply Drawn0.step)⟩
  ·rw [if_neg c3] at H
   have c3b0 := decide_eq_false c3
   clear c3
   obtain rfl := Option.some.inj H
   go_enter Try.func29, Try.ntmps29
   go_wp2
   go_ret
   exact ⟨rfl, by repeat (first | exact Drawn0.refl _ | apply Drawn0.step)⟩
 ·rw [if_neg c2] at H
  have c2b0 : decide (0 ≤ a0) = false := decide_eq_false c2
  clear c2
  obtain rfl := Option.some.inj H
  go_enter Try.func29, Try.ntmps29
  go_wp2
  go_ret
  exact ⟨rfl, by repeat (first | exact Drawn0.refl _ | apply Drawn0.step)⟩
mutual
def arr_check.l0 : Nat → Int → List Int → Int → Int → List Int → List (S40) → Option (Int)
 | 0, _, _, _, _, _, _ => none
 | k + 1, x1, x27, x28, x29, x120000, x120001 => if x29 < x28 then (if 0 ≤ x29 then (if x29 < (x27.length : Int) then (if (rd x27 x29) > 16384 then (some 12) else (arr_check.l0 k x1 x27 x28 (wrap64 (x29 + 1)) x120000 x120001)) else (none)) else (none)) else (arr_check.l1 k x1 x120001 (x120001.length : Int) 0)
def arr_check.l1 : Nat → Int → List (S40) → Int → Int → Option (Int)
 | 0, _, _, _, _ => none
 | k + 1, x1, x37, x38, x39 => if x39 < x38 then (if 0 ≤ x39 then (if x39 < (x37.length : Int) then (if ((rd_T40 x37 x39).f0) = 2 then (if ((rd_T40 x37 x39).f1) = 0 then (arr_check.j2 k x1 x37 x38 x39 ((((rd_T40 x37 x39).f2).length : Int) == 1) ((rd_T40 x37 x39).f0) ((rd_T40 x37 x39).f1) ((rd_T40 x37 x39).f2)) else (arr_check.j2 k x1 x37 x38 x39 false ((rd_T40 x37 x39).f0) ((rd_T40 x37 x39).f1) ((rd_T40 x37 x39).f2))) else (arr_check.j2 k x1 x37 x38 x39 false ((rd_T40 x37 x39).f0) ((rd_T40 x37 x39).f1) ((rd_T40 x37 x39).f2))) else (none)) else (none)) else (some 0)
def arr_check.j2 : Nat → Int → List (S40) → Int → Int → Bool → Int → Int → List (S25) → Option (Int)
 | 0, _, _, _, _, _, _, _, _ => none
 | k + 1, x1, x37, x38, x39, x43, x125000, x125001, x125002 => if x43 = true then (if x1 ≥ 8 then (some 15) else (if 0 < (x125002.length : Int) then ((arr_check.f k ((rd_T25 x125002 0).f0) ((rd_T25 x125002 0).f1) (wrap64 (x1 + 1))).bind fun t126 => (if t126 = 0 then (arr_check.l1 k x1 x37 x38 (wrap64 (x39 + 1))) else (some t126))) else (none))) else (if (x125002.length : Int) > 0 then (some 1) else (if x125000 = 0 then (arr_check.l1 k x1 x37 x38 (wrap64 (x39 + 1))) else (if x125000 = 1 then ((arr_good.f x125001).bind fun t127 => (if t127 = true then (arr_check.l1 k x1 x37 x38 (wrap64 (x39 + 1))) else (some 1))) else (some 1))))
def arr_check.f : Nat → List Int → List (S40) → Int → Option (Int)
 | 0, _, _, _ => none
 | k + 1, l0_0, l0_1, a1 => (arr_Size.f k l0_0).bind fun bt120 => (if bt120.2 = 0 then (if bt120.1 = (l0_1.length : Int) then (arr_check.l0 k a1 l0_0 (l0_0.length : Int) 0 l0_0 l0_1) else (some 1)) else (some bt120.2))
end
theorem arr_check.mono_l : ∀ k, (∀ y0 y1 y2, LeO (arr_check.f k y0 y1 y2) (arr_check.f (k + 1) y0 y1 y2)) ∧ (∀ y0 y1 y2 y3 y4 y5, LeO (arr_check.l0 k y0 y1 y2 y3 y4 y5) (arr_check.l0 (k + 1) y0 y1 y2 y3 y4 y5)) ∧ (∀ y0 y1 y2 y3, LeO (arr_check.l1 k y0 y1 y2 y3) (arr_check.l1 (k + 1) y0 y1 y2 y3)) ∧ (∀ y0 y1 y2 y3 y4 y5 y6 y7, LeO (arr_check.j2 k y0 y1 y2 y3 y4 y5 y6 y7) (arr_check.j2 (k + 1) y0 y1 y2 y3 y4 y5 y6 y7))
 | 0 => ⟨fun _ _ _ r h => by simp [arr_check.f] at h, fun _ _ _ _ _ _ r h => by simp [arr_check.l0] at h, fun _ _ _ _ r h => by simp [arr_check.l1] at h, fun _ _ _ _ _ _ _ _ r h => by simp [arr_check.j2] at h⟩
 | k + 1 => by
  obtain ⟨ih0, ih1, ih2, ih3⟩ := arr_check.mono_l k
  refine ⟨?_, ?_, ?_, ?_⟩
  ·intro y0 y1 y2
   unfold arr_check.f
   repeat' first
   | (with_reducible exact ih0 _ _ _)
   | (with_reducible exact ih1 _ _ _ _ _ _)
   | (with_reducible exact ih2 _ _ _ _)
   | (with_reducible exact ih3 _ _ _ _ _ _ _ _)
   | (with_reducible exact arr_Size.mono _ _)
   | (with_reducible exact LeO.refl _)
   | (with_reducible exact LeO.none _)
   | (with_reducible refine LeO.ite ?_ ?_)
   | (with_reducible refine LeO.bind ?_ (fun _ => ?_))




   | exact arr_Size.mono _ _



  ·intro y0 y1 y2 y3 y4 y5
   unfold arr_check.l0
   repeat' first
   | (with_reducible exact ih0 _ _ _)
   | (with_reducible exact ih1 _ _ _ _ _ _)
   | (with_reducible exact ih2 _ _ _ _)
   | (with_reducible exact ih3 _ _ _ _ _ _ _ _)
   | (with_reducible exact arr_Size.mono _ _)
   | (with_reducible exact LeO.refl _)
   | (with_reducible exact LeO.none _)
   | (with_reducible refine LeO.ite ?_ ?_)
   | (with_reducible refine LeO.bind ?_ (fun _ => ?_))




   | exact arr_Size.mono _ _



  ·intro y0 y1 y2 y3
   unfold arr_check.l1
   repeat' first
   | (with_reducible exact ih0 _ _ _)
   | (with_reducible exact ih1 _ _ _ _ _ _)
   | (with_reducible exact ih2 _ _ _ _)
   | (with_reducible exact ih3 _ _ _ _ _ _ _ _)
   | (with_reducible exact arr_Size.mono _ _)
   | (with_reducible exact LeO.refl _)
   | (with_reducible exact LeO.none _)
   | (with_reducible refine LeO.ite ?_ ?_)
   | (with_reducible refine LeO.bind ?_ (fun _ => ?_))




   | exact arr_Size.mono _ _



  ·intro y0 y1 y2 y3 y4 y5 y6 y7
   unfold arr_check.j2
   repeat' first
   | (with_reducible exact ih0 _ _ _)
   | (with_reducible exact ih1 _ _ _ _ _ _)
   | (with_reducible exact ih2 _ _ _ _)
   | (with_reducible exact ih3 _ _ _ _ _ _ _ _)
   | (with_reducible exact arr_Size.mono _ _)
   | (with_reducible exact LeO.refl _)
   | (with_reducible exact LeO.none _)
   | (with_reducible refine LeO.ite ?_ ?_)
   | (with_reducible refine LeO.bind ?_ (fun _ => ?_))




   | exact arr_Size.mono _ _
theorem arr_check.mono : ∀ a0 a1 a2 k, LeO (arr_check.f k a0 a1 a2) (arr_check.f (k + 1) a0 a1 a2) := by
 intro a0 a1 a2 k
 obtain ⟨ih0, ih1, ih2, ih3⟩ := arr_check.mono_l k
 exact ih0 a0 a1 a2
set_option maxHeartbeats 8000000 in
set_option maxRecDepth 100000 in
theorem arr_check.calls (k : Nat) : ∀ (A0_0 : Option Addr) (c0_0 : Nat) (l0_0 : List Int) (A0_1 : Option Addr) (c0_1 : Nat) (l0_1 : List (S40)) (a1 : Int) (r : Int) (w : World) (hr0_0 : Kd.C (Kd.int .i64) w A0_0 l0_0.length l0_0) (hc0_0 : l0_0.length ≤ c0_0) (hr0_1 : Kd.C k40 w A0_1 l0_1.length l0_1) (hc0_1 : l0_1.length ≤ c0_1) (h : arr_check.f k l0_0 l0_1 a1 = some r),
  Calls Try.prog 19 #[.agg #[.slice A0_0 l0_0.length c0_0, .slice A0_1 l0_1.length c0_1], .int .i64 a1] w fun e w' => e = .returned (.int .i64 r) ∧ Below w.heap.size w w' := by
 induction k using Nat.strongRecOn with
 | _ k ih =>
 intro A0_0 c0_0 l0_0 A0_1 c0_1 l0_1 a1 r w hr0_0 hc0_0 hr0_1 hc0_1 h
 cases k with
 | zero => exact absurd h (by simp [arr_check.f])
 | succ k =>
 simp only [arr_check.f] at h
 have hu25 := Try.underlying25
 have hu40 := Try.underlying40
 have HR0_0 := gA hr0_0
 have HC0_0 := gA hc0_0
 clear hr0_0 hc0_0
 have HR0_1 := gA hr0_1
 have HC0_1 := gA hc0_1
 clear hr0_1 hc0_1
 have HB := gA (Below.refl w.heap.size w)
 have H : ((arr_Size.f k l0_0).bind fun bt120 => (if bt120.2 = 0 then (if bt120.1 = (l0_1.length : Int) then (arr_check.l0 k a1 l0_0 (l0_0.length : Int) 0 l0_0 l0_1) else (some 1)) else (some bt120.2))) = some r := h
 clear h
 replace H := Option.bind_eq_some_iff.mp H
 obtain ⟨⟨t120, t121⟩, A30, H⟩ := H
 replace H : (if t121 = 0 then (if t120 = (l0_1.length : Int) then (arr_check.l0 k a1 l0_0 (l0_0.length : Int) 0 l0_0 l0_1) else (some 1)) else (some t121)) = some r := H
 have A3 := gA A30
 clear A30
 by_cases c4 : t121 = 0
 ·rw [if_pos c4] at H
  have c4b0 : (t121 == 0) = true := beq_iff_eq.mpr c4
  have c4b1 : (t121 != 0) = false := bne_eq_false_iff_eq.mpr c4
  clear c4
  by_cases c5 : t120 = (l0_1.length : Int)
  ·rw [if_pos c5] at H
   have c5b0 : (t120 == (l0_1.length : Int)) = true := beq_iff_eq.mpr c5
   have c5b1 : (t120 != (l0_1.length : Int)) = false := bne_eq_false_iff_eq.mpr c5
   clear c5
   have H' := gA H
   clear H
   go_enter Try.func19, Try.ntmps19
   go_wp2_with (first | ((with_reducible refine gate_dst (N := 2) rfl ?_); (try (refine gate_guard (by rfl) ?_; dsimp only)); refine box_event ?hg (N := 2) ?hd (cs := #[.slice A0_0 l0_0.length c0_0, .slice A0_1 l0_1.length c0_1]) (t := 25) ?hr ?_; (case hd => rfl); (case hg => rfl); (case hr => first | (go_simp; done) | (go_simp; rfl)); intro gb119 hg w6 hbox hb; have BK119 := gA (hbox); have GW119 := gA ((by rw [hg]; exact (below_size (gB HB)) : w.heap.size ≤ gb119)); have GE119 := gA ((by rw [hg]; exact (below_size (gB HB)) : w.heap.size ≤ gb119)); replace HB := gA (below_step (gB HB) hb); clear hb hbox hg; obtain ⟨hcz7_0, hcz7_1, hfz7_0, hfz7_1⟩ := gz2 BK119) | ((with_reducible refine gate_callee (f := 28) rfl ?_); refine goesL_ (some 15) rfl rfl Try.func28 (by kernel_rfl) rfl #[.slice A0_0 l0_0.length c0_0] rfl (by (try simp only [List.map_toArray, List.map_cons, List.map_nil]); first | done | rfl | (simp only [List.length_drop, List.length_take]; rfl)) ?_; (with_reducible refine (arr_Size.calls k _ _ l0_0 t120 t121 _ ?side1 ?side2 A3.out).mono ?_); (case side1 => exact gC HR0_0 HB); (case side2 => exact HC0_0.out); rintro e w' ⟨rfl, ⟨nd, rfl⟩⟩; refine ⟨_, rfl, ?_⟩))
   go_loopg [29] k (fun kq v29 w' => ∃ (x29_1 : Int), v29 = .int .i64 x29_1 ∧ Aside0 (arr_check.l0 kq a1 l0_0 (l0_0.length : Int) x29_1 l0_0 l0_1 = some r) ∧ Aside0 (kq ≤ k) ∧ Aside0 (w'.heap[gb119]? = some (.cells #[(.slice A0_0 l0_0.length c0_0), (.slice A0_1 l0_1.length c0_1)] 25 (0, 0))) ∧ Aside0 (Below w.heap.size w w'))
   case atStart => exact ⟨(0), (rfl), H', ⟨Nat.le_refl _⟩, ⟨gK BK119⟩, ⟨by repeat first | exact gB HB | refine below_set ?_ GE119.out⟩⟩
   case round =>
    clear H'
    try clear c1
    try clear c2
    try clear p2
    try clear c4
    try clear c4b0
    try clear c4b1
    try clear c5
    try clear c5b0
    try clear c5b1
    try clear hcz7_0
    try clear hcz7_1
    try clear hfz7_0
    try clear hfz7_1
    obtain ⟨x29_1, rfl, HA, HK1, BK119, HB⟩ := hrel
    cases gk with
    | zero => exact absurd HA.out (by simp [arr_check.l0])
    | succ k1 =>
     have H := HA.out; clear HA
     simp only [arr_check.l0] at H
     by_cases c8 : x29_1 < (l0_0.length : Int)
     ·rw [if_pos c8] at H
      have c8b0 := decide_eq_true c8
      clear c8
      obtain ⟨c9, H⟩ := iS H
      have c9b0 := decide_eq_true c9
      clear c9
      obtain ⟨c10, H⟩ := iS H
      have c10b0 := decide_eq_true c10
      clear c10
      by_cases c11 : (rd l0_0 x29_1) > 16384
      ·rw [if_pos c11] at H
       have c11b0 : decide (16384 < (rd l0_0 x29_1)) = true := decide_eq_true c11
       clear c11
       obtain rfl := Option.some.inj H
       have p122 : 0 ≤ (x29_1 : Int) := of_decide_eq_true (by assumption)
       have q122 : x29_1 < (l0_0.length : Int) := of_decide_eq_true (by assumption)
       obtain ⟨ad122, e122, hx122_0⟩ := Kd.at_int HR0_0.out x29_1 p122 q122
       cases e122
       replace hx122_0 := (HB.out.cell (World.block_lt_of_cell? w _ hx122_0)).trans hx122_0
       replace p122 := eq_true p122
       replace q122 := eq_true q122
       go_wp2
       go_ret
       exact ⟨rfl, by repeat first | exact gB HB | refine below_set ?_ GE119.out⟩
      ·rw [if_neg c11] at H
       have c11b0 : decide (16384 < (rd l0_0 x29_1)) = false := decide_eq_false c11
       clear c11
       have H' := gA H
       clear H
       have p122 : 0 ≤ (x29_1 : Int) := of_decide_eq_true (by assumption)
       have q122 : x29_1 < (l0_0.length : Int) := of_decide_eq_true (by assumption)
       obtain ⟨ad122, e122, hx122_0⟩ := Kd.at_int HR0_0.out x29_1 p122 q122
       cases e122
       replace hx122_0 := (HB.out.cell (World.block_lt_of_cell? w _ hx122_0)).trans hx122_0
       replace p122 := eq_true p122
       replace q122 := eq_true q122
       go_wp2
       go_roundg k1
       case measure => have := HK1.out; omega
       case rel => exact ⟨(wrap64 (x29_1 + 1)), (rfl), H', ⟨by have := HK1.out; omega⟩, ⟨gK BK119⟩, ⟨by repeat first | exact gB HB | refine below_set ?_ GE119.out⟩⟩
     ·rw [if_neg c8] at H
      have c8b0 := decide_eq_false c8
      clear c8
      have H' := gA H
      clear H
      obtain ⟨hcz12_0, hcz12_1, hfz12_0, hfz12_1⟩ := gz2 BK119
      go_wp2
      go_loopg [39] k1 (fun kq v39 w' => ∃ (x39_2 : Int), v39 = .int .i64 x39_2 ∧ Aside0 (arr_check.l1 kq a1 l0_1 (l0_1.length : Int) x39_2 = some r) ∧ Aside0 (kq ≤ k1) ∧ Aside0 (w'.heap[gb119]? = some (.cells #[(.slice A0_0 l0_0.length c0_0), (.slice A0_1 l0_1.length c0_1)] 25 (0, 0))) ∧ Aside0 (Below w.heap.size w w'))
      case atStart => exact ⟨(0), (rfl), H', ⟨Nat.le_refl _⟩, ⟨gK BK119⟩, ⟨by repeat first | exact gB HB | refine below_set ?_ GE119.out⟩⟩
      case round =>
       clear H'
       try clear c1
       try clear p1
       try clear q1
       try clear hx1
       try clear c2
       try clear p2
       try clear c4
       try clear c4b0
       try clear c4b1
       try clear c5
       try clear c5b0
       try clear c5b1
       try clear p6
       try clear c8
       try clear c8b0
       try clear c9
       try clear c9b0
       try clear c10
       try clear c10b0
       try clear c11
       try clear c11b0
       try clear p12
       try clear q12
       try clear hx12
       try clear hcz12_0
       try clear hcz12_1
       try clear hcz7_0
       try clear hcz7_1
       try clear hfz12_0
       try clear hfz12_1
       try clear hfz7_0
       try clear hfz7_1
       try clear hx122_0
       try clear p122
       try clear p2
       try clear q122
       obtain ⟨x39_2, rfl, HA, HK2, BK119, HB⟩ := hrel
       cases gk with
       | zero => exact absurd HA.out (by simp [arr_check.l1])
       | succ k2 =>
        have H := HA.out; clear HA
        simp only [arr_check.l1] at H
        by_cases c13 : x39_2 < (l0_1.length : Int)
        ·rw [if_pos c13] at H
         have c13b0 := decide_eq_true c13
         clear c13
         obtain ⟨c14, H⟩ := iS H
         have c14b0 := decide_eq_true c14
         clear c14
         obtain ⟨c15, H⟩ := iS H
         have c15b0 := decide_eq_true c15
         clear c15
         have HC16 := gA H
         clear H
         have p123 : 0 ≤ (x39_2 : Int) := of_decide_eq_true (by assumption)
         have q123 : x39_2 < (l0_1.length : Int) := of_decide_eq_true (by assumption)
         obtain ⟨ad123, A123_2, c123_2, e123, hx123_0, hx123_1, hx123_2, hl123_2, hi123_2⟩ := at_T40 HR0_1.out x39_2 p123 q123
         cases e123
         replace hx123_0 := (HB.out.cell (World.block_lt_of_cell? w _ hx123_0)).trans hx123_0
         replace hx123_1 := (HB.out.cell (World.block_lt_of_cell? w _ hx123_1)).trans hx123_1
         replace hx123_2 := (HB.out.cell (World.block_lt_of_cell? w _ hx123_2)).trans hx123_2
         have HR123_2 := gA hi123_2
         have HC123_2 := gA hl123_2
         clear hi123_2 hl123_2
         replace p123 := eq_true p123
         replace q123 := eq_true q123
         go_upto_region 15 with (first | ((with_reducible refine gate_dst (N := 10) rfl ?_); (try (refine gate_guard (by rfl) ?_; dsimp only)); refine box_event ?hg (N := 10) ?hd (cs := #[.int .i64 0, .int .i64 0, .slice none 0 0]) (t := 40) ?hr ?_; (case hd => rfl); (case hg => rfl); (case hr => first | (go_simp; done) | (go_simp; rfl)); intro gb124 hg w17 hbox hb; have BK124 := gA (hbox); have GW124 := gA ((by rw [hg]; exact (below_size (gB HB)) : w.heap.size ≤ gb124)); have GE124 := gA ((by rw [hg]; exact (below_size (gB HB)) : w.heap.size ≤ gb124)); replace HB := gA (below_step (gB HB) hb); have NB119_124 := gA ((by rw [hg]; exact Nat.ne_of_lt (blk_lt (gK BK119)) : gb119 ≠ gb124)); have NB124_119 := gA ((by rw [hg]; exact Nat.ne_of_gt (blk_lt (gK BK119)) : gb124 ≠ gb119)); replace BK119 := gA (blk_below (gK BK119) hb); clear hb hbox hg; have hnb18 := NB124_119.out; have hnc18 := NB119_124.out; obtain ⟨hcz19_0, hcz19_1, hcz19_2, hfz19_0, hfz19_1, hfz19_2⟩ := gz3 BK124))
         (try simp only [Act.put, List.setIfInBounds_toArray, List.set_cons_zero, List.set_cons_succ])
         go_cut [43] (fun v43 wc => ∃ (kq : Nat) (x43_15 : Bool), v43 = .bool x43_15 ∧ Aside0 (arr_check.j2 kq a1 l0_1 (l0_1.length : Int) x39_2 x43_15 ((rd_T40 l0_1 x39_2).f0) ((rd_T40 l0_1 x39_2).f1) ((rd_T40 l0_1 x39_2).f2) = some r) ∧ Aside0 (kq ≤ k2) ∧ Aside0 (wc.heap[gb119]? = some (.cells #[(.slice A0_0 l0_0.length c0_0), (.slice (some ad123) l0_1.length c0_1)] 25 (0, 0))) ∧ Aside0 (wc.heap[gb124]? = some (.cells #[.int .i64 ((rd_T40 l0_1 x39_2).f0), .int .i64 ((rd_T40 l0_1 x39_2).f1), (.slice A123_2 ((rd_T40 l0_1 x39_2).f2).length c123_2)] 40 (0, 0))) ∧ Aside0 (Below w.heap.size w wc))
         case first =>
          have H := HC16.out; clear HC16
          by_cases c20 : ((rd_T40 l0_1 x39_2).f0) = 2
          ·rw [if_pos c20] at H
           have c20b0 : (((rd_T40 l0_1 x39_2).f0) == 2) = true := beq_iff_eq.mpr c20
           have c20b1 : (((rd_T40 l0_1 x39_2).f0) != 2) = false := bne_eq_false_iff_eq.mpr c20
           clear c20
           (first | rw [c20b0] | rw [c20b1] | (simp only [i64_w, i32_w]; rw [c20b0]) | skip)
           by_cases c21 : ((rd_T40 l0_1 x39_2).f1) = 0
           ·rw [if_pos c21] at H
            have c21b0 : (((rd_T40 l0_1 x39_2).f1) == 0) = true := beq_iff_eq.mpr c21
            have c21b1 : (((rd_T40 l0_1 x39_2).f1) != 0) = false := bne_eq_false_iff_eq.mpr c21
            clear c21
            have H' := gA H
            clear H
            have hnb22 := NB124_119.out
            have hnc22 := NB119_124.out
            obtain ⟨hcz23_0, hcz23_1, hcz23_2, hfz23_0, hfz23_1, hfz23_2⟩ := gz3 BK124
            go_wp2
            all_goals (go_meet; (case rel => exact ⟨_, (((((rd_T40 l0_1 x39_2).f2).length : Int) == 1)), (by first | rfl | (simp; done) | (simp [*]; done) | (exfalso; simp_all; done) | (exfalso; simp_all; omega)), H', ⟨by have := HK1.out; have := HK2.out; first | omega | exact Nat.le_refl _⟩, ⟨by (with_reducible repeat (first | refine blk_drewN ?_ _ | refine blk_drew ?_ | refine blk_alloc ?_ _)); refine blk_far ?_ NB119_124.out _; (with_reducible repeat (first | refine blk_drewN ?_ _ | refine blk_drew ?_ | refine blk_alloc ?_ _)); refine blk_far ?_ NB119_124.out _; (with_reducible repeat (first | refine blk_drewN ?_ _ | refine blk_drew ?_ | refine blk_alloc ?_ _)); refine blk_far ?_ NB119_124.out _; exact gK BK119⟩, ⟨by (with_reducible repeat (first | refine blk_drewN ?_ _ | refine blk_drew ?_ | refine blk_alloc ?_ _)); refine blk_put (cs := #[.int .i64 ((rd_T40 l0_1 x39_2).f0), .int .i64 ((rd_T40 l0_1 x39_2).f1), .slice none 0 0]) ?_ 2 _ rfl; (with_reducible repeat (first | refine blk_drewN ?_ _ | refine blk_drew ?_ | refine blk_alloc ?_ _)); refine blk_put (cs := #[.int .i64 ((rd_T40 l0_1 x39_2).f0), .int .i64 0, .slice none 0 0]) ?_ 1 _ rfl; (with_reducible repeat (first | refine blk_drewN ?_ _ | refine blk_drew ?_ | refine blk_alloc ?_ _)); refine blk_put (cs := #[.int .i64 0, .int .i64 0, .slice none 0 0]) ?_ 0 _ rfl; exact gK BK124⟩, ⟨by repeat first | exact gB HB | refine below_set ?_ GE119.out | refine below_set ?_ GE124.out⟩⟩))
           ·rw [if_neg c21] at H
            have c21b0 : (((rd_T40 l0_1 x39_2).f1) == 0) = false := beq_eq_false_iff_ne.mpr c21
            have c21b1 : (((rd_T40 l0_1 x39_2).f1) != 0) = true := bne_iff_ne.mpr c21
            have H' := gA H
            clear H
            have hnb24 := NB124_119.out
            have hnc24 := NB119_124.out
            obtain ⟨hcz25_0, hcz25_1, hcz25_2, hfz25_0, hfz25_1, hfz25_2⟩ := gz3 BK124
            go_wp2
            all_goals (go_meet; (case rel => exact ⟨_, (false), (by first | rfl | (simp; done) | (simp [*]; done) | (exfalso; simp_all; done) | (exfalso; simp_all; omega)), H', ⟨by have := HK1.out; have := HK2.out; first | omega | exact Nat.le_refl _⟩, ⟨by (with_reducible repeat (first | refine blk_drewN ?_ _ | refine blk_drew ?_ | refine blk_alloc ?_ _)); refine blk_far ?_ NB119_124.out _; (with_reducible repeat (first | refine blk_drewN ?_ _ | refine blk_drew ?_ | refine blk_alloc ?_ _)); refine blk_far ?_ NB119_124.out _; (with_reducible repeat (first | refine blk_drewN ?_ _ | refine blk_drew ?_ | refine blk_alloc ?_ _)); refine blk_far ?_ NB119_124.out _; exact gK BK119⟩, ⟨by (with_reducible repeat (first | refine blk_drewN ?_ _ | refine blk_drew ?_ | refine blk_alloc ?_ _)); refine blk_put (cs := #[.int .i64 ((rd_T40 l0_1 x39_2).f0), .int .i64 ((rd_T40 l0_1 x39_2).f1), .slice none 0 0]) ?_ 2 _ rfl; (with_reducible repeat (first | refine blk_drewN ?_ _ | refine blk_drew ?_ | refine blk_alloc ?_ _)); refine blk_put (cs := #[.int .i64 ((rd_T40 l0_1 x39_2).f0), .int .i64 0, .slice none 0 0]) ?_ 1 _ rfl; (with_reducible repeat (first | refine blk_drewN ?_ _ | refine blk_drew ?_ | refine blk_alloc ?_ _)); refine blk_put (cs := #[.int .i64 0, .int .i64 0, .slice none 0 0]) ?_ 0 _ rfl; exact gK BK124⟩, ⟨by repeat first | exact gB HB | refine below_set ?_ GE119.out | refine below_set ?_ GE124.out⟩⟩))
          ·rw [if_neg c20] at H
           have c20b0 : (((rd_T40 l0_1 x39_2).f0) == 2) = false := beq_eq_false_iff_ne.mpr c20
           have c20b1 : (((rd_T40 l0_1 x39_2).f0) != 2) = true := bne_iff_ne.mpr c20
           (first | rw [c20b0] | rw [c20b1] | (simp only [i64_w, i32_w]; rw [c20b0]) | skip)
           have H' := gA H
           clear H
           have hnb26 := NB124_119.out
           have hnc26 := NB119_124.out
           obtain ⟨hcz27_0, hcz27_1, hcz27_2, hfz27_0, hfz27_1, hfz27_2⟩ := gz3 BK124
           go_wp2
           all_goals (go_meet; (case rel => exact ⟨_, (false), (by first | rfl | (simp; done) | (simp [*]; done) | (exfalso; simp_all; done) | (exfalso; simp_all; omega)), H', ⟨by have := HK1.out; have := HK2.out; first | omega | exact Nat.le_refl _⟩, ⟨by (with_reducible repeat (first | refine blk_drewN ?_ _ | refine blk_drew ?_ | refine blk_alloc ?_ _)); refine blk_far ?_ NB119_124.out _; (with_reducible repeat (first | refine blk_drewN ?_ _ | refine blk_drew ?_ | refine blk_alloc ?_ _)); refine blk_far ?_ NB119_124.out _; (with_reducible repeat (first | refine blk_drewN ?_ _ | refine blk_drew ?_ | refine blk_alloc ?_ _)); refine blk_far ?_ NB119_124.out _; exact gK BK119⟩, ⟨by (with_reducible repeat (first | refine blk_drewN ?_ _ | refine blk_drew ?_ | refine blk_alloc ?_ _)); refine blk_put (cs := #[.int .i64 ((rd_T40 l0_1 x39_2).f0), .int .i64 ((rd_T40 l0_1 x39_2).f1), .slice none 0 0]) ?_ 2 _ rfl; (with_reducible repeat (first | refine blk_drewN ?_ _ | refine blk_drew ?_ | refine blk_alloc ?_ _)); refine blk_put (cs := #[.int .i64 ((rd_T40 l0_1 x39_2).f0), .int .i64 0, .slice none 0 0]) ?_ 1 _ rfl; (with_reducible repeat (first | refine blk_drewN ?_ _ | refine blk_drew ?_ | refine blk_alloc ?_ _)); refine blk_put (cs := #[.int .i64 0, .int .i64 0, .slice none 0 0]) ?_ 0 _ rfl; exact gK BK124⟩, ⟨by repeat first | exact gB HB | refine below_set ?_ GE119.out | refine below_set ?_ GE124.out⟩⟩))
         case rest =>
          clear HC16
          try clear c1
          try clear p1
          try clear q1
          try clear hx1
          try clear c2
          try clear p2
          try clear c4
          try clear c4b0
          try clear c4b1
          try clear c5
          try clear c5b0
          try clear c5b1
          try clear p6
          try clear c8
          try clear c8b0
          try clear c9
          try clear c9b0
          try clear c10
          try clear c10b0
          try clear c11
          try clear c11b0
          try clear c12
          try clear p12
          try clear q12
          try clear hx12
          try clear c13
          try clear c13b0
          try clear c14
          try clear c14b0
          try clear c15
          try clear c15b0
          try clear c18
          try clear c19
          try clear c20
          try clear c20b0
          try clear c20b1
          try clear c21
          try clear c21b0
          try clear c21b1
          try clear c22
          try clear c24
          try clear c26
          try clear hcz12_0
          try clear hcz12_1
          try clear hcz19_0
          try clear hcz19_1
          try clear hcz19_2
          try clear hcz23_0
          try clear hcz23_1
          try clear hcz23_2
          try clear hcz25_0
          try clear hcz25_1
          try clear hcz25_2
          try clear hcz27_0
          try clear hcz27_1
          try clear hcz27_2
          try clear hcz7_0
          try clear hcz7_1
          try clear hfz12_0
          try clear hfz12_1
          try clear hfz19_0
          try clear hfz19_1
          try clear hfz19_2
          try clear hfz23_0
          try clear hfz23_1
          try clear hfz23_2
          try clear hfz25_0
          try clear hfz25_1
          try clear hfz25_2
          try clear hfz27_0
          try clear hfz27_1
          try clear hfz27_2
          try clear hfz7_0
          try clear hfz7_1
          try clear hx122_0
          try clear hx123_0
          try clear hx123_1
          try clear hx123_2
          try clear p1
          try clear p12
          try clear p122
          try clear p123
          try clear p2
          try clear p6
          try clear q1
          try clear q12
          try clear q122
          try clear q123
          obtain ⟨kq, x43_15, rfl, HA, HJ15, BK119, BK124, HB⟩ := hcut
          cases kq with
          | zero => exact absurd HA.out (by simp [arr_check.j2])
          | succ kj15 =>
           have H := HA.out; clear HA
           simp only [arr_check.j2] at H
           by_cases c28 : x43_15 = true
           ·subst c28
            have H1 : (if a1 ≥ 8 then (some 15) else (if 0 < (((rd_T40 l0_1 x39_2).f2).length : Int) then ((arr_check.f kj15 ((rd_T25 ((rd_T40 l0_1 x39_2).f2) 0).f0) ((rd_T25 ((rd_T40 l0_1 x39_2).f2) 0).f1) (wrap64 (a1 + 1))).bind fun t126 => (if t126 = 0 then (arr_check.l1 kj15 a1 l0_1 (l0_1.length : Int) (wrap64 (x39_2 + 1))) else (some t126))) else (none))) = some r := by rw [if_pos rfl] at H; exact H
            clear H; have H := H1; clear H1
            by_cases c29 : a1 ≥ 8
            ·rw [if_pos c29] at H
             have c29b0 : decide (8 ≤ a1) = true := decide_eq_true c29
             clear c29
             obtain rfl := Option.some.inj H
             go_wp2
             go_ret
             exact ⟨rfl, by repeat first | exact gB HB | refine below_set ?_ GE119.out | refine below_set ?_ GE124.out⟩
            ·rw [if_neg c29] at H
             have c29b0 : decide (8 ≤ a1) = false := decide_eq_false c29
             clear c29
             obtain ⟨c30, H⟩ := iS H
             have c30b0 := decide_eq_true c30
             have c30b1 : decide (0 < ((rd_T40 l0_1 x39_2).f2).length) = true := decide_eq_true (by omega)
             clear c30
             replace H := Option.bind_eq_some_iff.mp H
             obtain ⟨t126, A310, H⟩ := H
             replace H : (if t126 = 0 then (arr_check.l1 kj15 a1 l0_1 (l0_1.length : Int) (wrap64 (x39_2 + 1))) else (some t126)) = some r := H
             have A31 := gA A310
             clear A310
             by_cases c32 : t126 = 0
             ·rw [if_pos c32] at H
              have c32b0 : (t126 == 0) = true := beq_iff_eq.mpr c32
              have c32b1 : (t126 != 0) = false := bne_eq_false_iff_eq.mpr c32
              clear c32
              have H' := gA H
              clear H
              have hnb33 := NB124_119.out
              have hnc33 := NB119_124.out
              obtain ⟨hcz34_0, hcz34_1, hcz34_2, hfz34_0, hfz34_1, hfz34_2⟩ := gz3 BK124
              have p125 : 0 ≤ (0 : Int) := (by omega)
              have q125 : 0 < (((rd_T40 l0_1 x39_2).f2).length : Int) := of_decide_eq_true (by assumption)
              obtain ⟨ad125, A125_0, c125_0, A125_1, c125_1, e125, hx125_0, hx125_1, hl125_0, hi125_0, hl125_1, hi125_1⟩ := at_T25 HR123_2.out 0 p125 q125
              cases e125
              have qi125 : (0 < ((rd_T40 l0_1 x39_2).f2).length) = True := eq_true (by omega)
              (try rw [show ((0 : Int)).toNat = 0 from rfl] at hx125_0)
              (try rw [show 0 * 2 = 0 from rfl] at hx125_0)
              (try rw [Addr.add_zero'] at hx125_0)
              (try rw [show ((0 : Int)).toNat = 0 from rfl] at hx125_1)
              (try rw [show 0 * 2 = 0 from rfl] at hx125_1)
              (try rw [Addr.add_zero'] at hx125_1)
              replace hx125_0 := (HB.out.cell (World.block_lt_of_cell? w _ hx125_0)).trans hx125_0
              replace hx125_1 := (HB.out.cell (World.block_lt_of_cell? w _ hx125_1)).trans hx125_1
              have HR125_0 := gA hi125_0
              have HC125_0 := gA hl125_0
              clear hi125_0 hl125_0
              have HR125_1 := gA hi125_1
              have HC125_1 := gA hl125_1
              clear hi125_1 hl125_1
              replace p125 := eq_true p125
              replace q125 := eq_true q125
              go_wp2_with (first | ((with_reducible refine gate_callee (f := 19) rfl ?_); refine goesL_ (some 66) rfl rfl Try.func19 (by kernel_rfl) rfl #[.agg #[.slice A125_0 ((rd_T25 ((rd_T40 l0_1 x39_2).f2) 0).f0).length c125_0, .slice A125_1 ((rd_T25 ((rd_T40 l0_1 x39_2).f2) 0).f1).length c125_1], .int .i64 (wrap64 (a1 + 1))] rfl (by (try simp only [List.map_toArray, List.map_cons, List.map_nil]); first | done | rfl | (simp only [List.length_drop, List.length_take]; rfl)) ?_; (with_reducible refine (ih kj15 (by have := HK1.out; have := HK2.out; have := HJ15.out; omega) _ _ ((rd_T25 ((rd_T40 l0_1 x39_2).f2) 0).f0) _ _ ((rd_T25 ((rd_T40 l0_1 x39_2).f2) 0).f1) (wrap64 (a1 + 1)) t126 _ ?side1 ?side2 ?side3 ?side4 A31.out).mono ?_); (case side1 => exact gC HR125_0 HB); (case side2 => exact HC125_0.out); (case side3 => exact gC HR125_1 HB); (case side4 => exact HC125_1.out); rintro e w35 ⟨rfl, hb⟩; refine ⟨_, rfl, ?_⟩; replace BK119 := gA (blk_below (gK BK119) hb); replace BK124 := gA (blk_below (gK BK124) hb); replace HB := gA (below_step (gB HB) hb); (try clear hb)))
              go_roundg kj15
              case measure => have := HK1.out; have := HK2.out; have := HJ15.out; omega
              case rel => exact ⟨(wrap64 (x39_2 + 1)), (rfl), H', ⟨by have := HK1.out; have := HK2.out; have := HJ15.out; omega⟩, ⟨gK BK119⟩, ⟨gB HB⟩⟩
             ·rw [if_neg c32] at H
              have c32b0 : (t126 == 0) = false := beq_eq_false_iff_ne.mpr c32
              have c32b1 : (t126 != 0) = true := bne_iff_ne.mpr c32
              obtain rfl := Option.some.inj H
              have hnb36 := NB124_119.out
              have hnc36 := NB119_124.out
              obtain ⟨hcz37_0, hcz37_1, hcz37_2, hfz37_0, hfz37_1, hfz37_2⟩ := gz3 BK124
              have p125 : 0 ≤ (0 : Int) := (by omega)
              have q125 : 0 < (((rd_T40 l0_1 x39_2).f2).length : Int) := of_decide_eq_true (by assumption)
              obtain ⟨ad125, A125_0, c125_0, A125_1, c125_1, e125, hx125_0, hx125_1, hl125_0, hi125_0, hl125_1, hi125_1⟩ := at_T25 HR123_2.out 0 p125 q125
              cases e125
              have qi125 : (0 < ((rd_T40 l0_1 x39_2).f2).length) = True := eq_true (by omega)
              (try rw [show ((0 : Int)).toNat = 0 from rfl] at hx125_0)
              (try rw [show 0 * 2 = 0 from rfl] at hx125_0)
              (try rw [Addr.add_zero'] at hx125_0)
              (try rw [show ((0 : Int)).toNat = 0 from rfl] at hx125_1)
              (try rw [show 0 * 2 = 0 from rfl] at hx125_1)
              (try rw [Addr.add_zero'] at hx125_1)
              replace hx125_0 := (HB.out.cell (World.block_lt_of_cell? w _ hx125_0)).trans hx125_0
              replace hx125_1 := (HB.out.cell (World.block_lt_of_cell? w _ hx125_1)).trans hx125_1
              have HR125_0 := gA hi125_0
              have HC125_0 := gA hl125_0
              clear hi125_0 hl125_0
              have HR125_1 := gA hi125_1
              have HC125_1 := gA hl125_1
              clear hi125_1 hl125_1
              replace p125 := eq_true p125
              replace q125 := eq_true q125
              go_wp2_with (first | ((with_reducible refine gate_callee (f := 19) rfl ?_); refine goesL_ (some 66) rfl rfl Try.func19 (by kernel_rfl) rfl #[.agg #[.slice A125_0 ((rd_T25 ((rd_T40 l0_1 x39_2).f2) 0).f0).length c125_0, .slice A125_1 ((rd_T25 ((rd_T40 l0_1 x39_2).f2) 0).f1).length c125_1], .int .i64 (wrap64 (a1 + 1))] rfl (by (try simp only [List.map_toArray, List.map_cons, List.map_nil]); first | done | rfl | (simp only [List.length_drop, List.length_take]; rfl)) ?_; (with_reducible refine (ih kj15 (by have := HK1.out; have := HK2.out; have := HJ15.out; omega) _ _ ((rd_T25 ((rd_T40 l0_1 x39_2).f2) 0).f0) _ _ ((rd_T25 ((rd_T40 l0_1 x39_2).f2) 0).f1) (wrap64 (a1 + 1)) t126 _ ?side1 ?side2 ?side3 ?side4 A31.out).mono ?_); (case side1 => exact gC HR125_0 HB); (case side2 => exact HC125_0.out); (case side3 => exact gC HR125_1 HB); (case side4 => exact HC125_1.out); rintro e w38 ⟨rfl, hb⟩; refine ⟨_, rfl, ?_⟩; replace BK119 := gA (blk_below (gK BK119) hb); replace BK124 := gA (blk_below (gK BK124) hb); replace HB := gA (below_step (gB HB) hb); (try clear hb)))
              go_ret
              exact ⟨rfl, by repeat first | exact gB HB | refine below_set ?_ GE119.out | refine below_set ?_ GE124.out⟩
           ·replace c28 := Bool.eq_false_iff.mpr c28
            subst c28
            have H1 : (if (((rd_T40 l0_1 x39_2).f2).length : Int) > 0 then (some 1) else (if ((rd_T40 l0_1 x39_2).f0) = 0 then (arr_check.l1 kj15 a1 l0_1 (l0_1.length : Int) (wrap64 (x39_2 + 1))) else (if ((rd_T40 l0_1 x39_2).f0) = 1 then ((arr_good.f ((rd_T40 l0_1 x39_2).f1)).bind fun t127 => (if t127 = true then (arr_check.l1 kj15 a1 l0_1 (l0_1.length : Int) (wrap64 (x39_2 + 1))) else (some 1))) else (some 1)))) = some r := by rw [if_neg (show ¬ (false = true) by decide)] at H; exact H
            clear H; have H := H1; clear H1
            by_cases c39 : (((rd_T40 l0_1 x39_2).f2).length : Int) > 0
            ·rw [if_pos c39] at H
             have c39b0 : decide (0 < (((rd_T40 l0_1 x39_2).f2).length : Int)) = true := decide_eq_true c39
             have c39b1 : decide (0 < ((rd_T40 l0_1 x39_2).f2).length) = true := decide_eq_true (by omega)
             clear c39
             obtain rfl := Option.some.inj H
             have hnb40 := NB124_119.out
             have hnc40 := NB119_124.out
             obtain ⟨hcz41_0, hcz41_1, hcz41_2, hfz41_0, hfz41_1, hfz41_2⟩ := gz3 BK124
             go_wp2
             go_ret
             exact ⟨rfl, by repeat first | exact gB HB | refine below_set ?_ GE119.out | refine below_set ?_ GE124.out⟩
            ·rw [if_neg c39] at H
             have c39b0 : decide (0 < (((rd_T40 l0_1 x39_2).f2).length : Int)) = false := decide_eq_false c39
             have c39b1 : decide (0 < ((rd_T40 l0_1 x39_2).f2).length) = false := decide_eq_false (by omega)
             clear c39
             by_cases c42 : ((rd_T40 l0_1 x39_2).f0) = 0
             ·rw [if_pos c42] at H
              have c42b0 : (((rd_T40 l0_1 x39_2).f0) == 0) = true := beq_iff_eq.mpr c42
              have c42b1 : (((rd_T40 l0_1 x39_2).f0) != 0) = false := bne_eq_false_iff_eq.mpr c42
              clear c42
              have H' := gA H
              clear H
              have hnb43 := NB124_119.out
              have hnc43 := NB119_124.out
              obtain ⟨hcz44_0, hcz44_1, hcz44_2, hfz44_0, hfz44_1, hfz44_2⟩ := gz3 BK124
              go_wp2
              go_roundg kj15
              case measure => have := HK1.out; have := HK2.out; have := HJ15.out; omega
              case rel => exact ⟨(wrap64 (x39_2 + 1)), (rfl), H', ⟨by have := HK1.out; have := HK2.out; have := HJ15.out; omega⟩, ⟨gK BK119⟩, ⟨gB HB⟩⟩
             ·rw [if_neg c42] at H
              have c42b0 : (((rd_T40 l0_1 x39_2).f0) == 0) = false := beq_eq_false_iff_ne.mpr c42
              have c42b1 : (((rd_T40 l0_1 x39_2).f0) != 0) = true := bne_iff_ne.mpr c42
              by_cases c45 : ((rd_T40 l0_1 x39_2).f0) = 1
              ·rw [if_pos c45] at H
               have c45b0 : (((rd_T40 l0_1 x39_2).f0) == 1) = true := beq_iff_eq.mpr c45
               have c45b1 : (((rd_T40 l0_1 x39_2).f0) != 1) = false := bne_eq_false_iff_eq.mpr c45
               clear c45
               replace H := Option.bind_eq_some_iff.mp H
               obtain ⟨t127, A460, H⟩ := H
               replace H : (if t127 = true then (arr_check.l1 kj15 a1 l0_1 (l0_1.length : Int) (wrap64 (x39_2 + 1))) else (some 1)) = some r := H
               have A46 := gA A460
               clear A460
               by_cases c47 : t127 = true
               ·subst c47
                have H1 : (arr_check.l1 kj15 a1 l0_1 (l0_1.length : Int) (wrap64 (x39_2 + 1))) = some r := by rw [if_pos rfl] at H; exact H
                clear H; have H := H1; clear H1
                have H' := gA H
                clear H
                have hnb48 := NB124_119.out
                have hnc48 := NB119_124.out
                obtain ⟨hcz49_0, hcz49_1, hcz49_2, hfz49_0, hfz49_1, hfz49_2⟩ := gz3 BK124
                go_wp2_with (first | (go_at_call 29; (with_reducible refine (arr_good.calls ((rd_T40 l0_1 x39_2).f1) true _ A46.out).mono ?_); rintro e w' ⟨rfl, ⟨nd, rfl⟩⟩))
                go_roundg kj15
                case measure => have := HK1.out; have := HK2.out; have := HJ15.out; omega
                case rel => exact ⟨(wrap64 (x39_2 + 1)), (rfl), H', ⟨by have := HK1.out; have := HK2.out; have := HJ15.out; omega⟩, ⟨gK BK119⟩, ⟨gB HB⟩⟩
               ·replace c47 := Bool.eq_false_iff.mpr c47
                subst c47
                have H1 : (some 1) = some r := by rw [if_neg (show ¬ (false = true) by decide)] at H; exact H
                clear H; have H := H1; clear H1
                obtain rfl := Option.some.inj H
                have hnb50 := NB124_119.out
                have hnc50 := NB119_124.out
                obtain ⟨hcz51_0, hcz51_1, hcz51_2, hfz51_0, hfz51_1, hfz51_2⟩ := gz3 BK124
                go_wp2_with (first | (go_at_call 29; (with_reducible refine (arr_good.calls ((rd_T40 l0_1 x39_2).f1) false _ A46.out).mono ?_); rintro e w' ⟨rfl, ⟨nd, rfl⟩⟩))
                go_ret
                exact ⟨rfl, by repeat first | exact gB HB | refine below_set ?_ GE119.out | refine below_set ?_ GE124.out⟩
              ·rw [if_neg c45] at H
               have c45b0 : (((rd_T40 l0_1 x39_2).f0) == 1) = false := beq_eq_false_iff_ne.mpr c45
               have c45b1 : (((rd_T40 l0_1 x39_2).f0) != 1) = true := bne_iff_ne.mpr c45
               obtain rfl := Option.some.inj H
               have hnb52 := NB124_119.out
               have hnc52 := NB119_124.out
               obtain ⟨hcz53_0, hcz53_1, hcz53_2, hfz53_0, hfz53_1, hfz53_2⟩ := gz3 BK124
               go_wp2
               go_ret
               exact ⟨rfl, by repeat first | exact gB HB | refine below_set ?_ GE119.out | refine below_set ?_ GE124.out⟩
        ·rw [if_neg c13] at H
         have c13b0 := decide_eq_false c13
         clear c13
         obtain rfl := Option.some.inj H
         go_wp2
         go_ret
         exact ⟨rfl, by repeat first | exact gB HB | refine below_set ?_ GE119.out⟩
  ·rw [if_neg c5] at H
   have c5b0 : (t120 == (l0_1.length : Int)) = false := beq_eq_false_iff_ne.mpr c5
   have c5b1 : (t120 != (l0_1.length : Int)) = true := bne_iff_ne.mpr c5
   obtain rfl := Option.some.inj H
   go_enter Try.func19, Try.ntmps19
   go_wp2_with (first | ((with_reducible refine gate_dst (N := 2) rfl ?_); (try (refine gate_guard (by rfl) ?_; dsimp only)); refine box_event ?hg (N := 2) ?hd (cs := #[.slice A0_0 l0_0.length c0_0, .slice A0_1 l0_1.length c0_1]) (t := 25) ?hr ?_; (case hd => rfl); (case hg => rfl); (case hr => first | (go_simp; done) | (go_simp; rfl)); intro gb119 hg w54 hbox hb; have BK119 := gA (hbox); have GW119 := gA ((by rw [hg]; exact (below_size (gB HB)) : w.heap.size ≤ gb119)); have GE119 := gA ((by rw [hg]; exact (below_size (gB HB)) : w.heap.size ≤ gb119)); replace HB := gA (below_step (gB HB) hb); clear hb hbox hg; obtain ⟨hcz55_0, hcz55_1, hfz55_0, hfz55_1⟩ := gz2 BK119) | ((with_reducible refine gate_callee (f := 28) rfl ?_); refine goesL_ (some 15) rfl rfl Try.func28 (by kernel_rfl) rfl #[.slice A0_0 l0_0.length c0_0] rfl (by (try simp only [List.map_toArray, List.map_cons, List.map_nil]); first | done | rfl | (simp only [List.length_drop, List.length_take]; rfl)) ?_; (with_reducible refine (arr_Size.calls k _ _ l0_0 t120 t121 _ ?side1 ?side2 A3.out).mono ?_); (case side1 => exact gC HR0_0 HB); (case side2 => exact HC0_0.out); rintro e w' ⟨rfl, ⟨nd, rfl⟩⟩; refine ⟨_, rfl, ?_⟩))
   go_ret
   exact ⟨rfl, by repeat first | exact gB HB | refine below_set ?_ GE119.out⟩
 ·rw [if_neg c4] at H
  have c4b0 : (t121 == 0) = false := beq_eq_false_iff_ne.mpr c4
  have c4b1 : (t121 != 0) = true := bne_iff_ne.mpr c4
  obtain rfl := Option.some.inj H
  go_enter Try.func19, Try.ntmps19
  go_wp2_with (first | ((with_reducible refine gate_dst (N := 2) rfl ?_); (try (refine gate_guard (by rfl) ?_; dsimp only)); refine box_event ?hg (N := 2) ?hd (cs := #[.slice A0_0 l0_0.length c0_0, .slice A0_1 l0_1.length c0_1]) (t := 25) ?hr ?_; (case hd => rfl); (case hg => rfl); (case hr => first | (go_simp; done) | (go_simp; rfl)); intro gb119 hg w56 hbox hb; have BK119 := gA (hbox); have GW119 := gA ((by rw [hg]; exact (below_size (gB HB)) : w.heap.size ≤ gb119)); have GE119 := gA ((by rw [hg]; exact (below_size (gB HB)) : w.heap.size ≤ gb119)); replace HB := gA (below_step (gB HB) hb); clear hb hbox hg; obtain ⟨hcz57_0, hcz57_1, hfz57_0, hfz57_1⟩ := gz2 BK119) | ((with_reducible refine gate_callee (f := 28) rfl ?_); refine goesL_ (some 15) rfl rfl Try.func28 (by kernel_rfl) rfl #[.slice A0_0 l0_0.length c0_0] rfl (by (try simp only [List.map_toArray, List.map_cons, List.map_nil]); first | done | rfl | (simp only [List.length_drop, List.length_take]; rfl)) ?_; (with_reducible refine (arr_Size.calls k _ _ l0_0 t120 t121 _ ?side1 ?side2 A3.out).mono ?_); (case side1 => exact gC HR0_0 HB); (case side2 => exact HC0_0.out); rintro e w' ⟨rfl, ⟨nd, rfl⟩⟩; refine ⟨_, rfl, ?_⟩))
  go_ret
  exact ⟨rfl, by repeat first | exact gB HB | refine below_set ?_ GE119.out⟩
def arr_Check.f (k : Nat) (l0_0 : List Int) (l0_1 : List (S40)) : Option (Int) := (arr_check.f k l0_0 l0_1 0).bind fun t129 => (some t129)
theorem arr_Check.mono : ∀ a0 a1 k, LeO (arr_Check.f k a0 a1) (arr_Check.f (k + 1) a0 a1) := by
 intro a0 a1 k
 unfold arr_Check.f
 repeat' first
   | (with_reducible exact arr_check.mono _ _ _ _)
   | (with_reducible exact LeO.refl _)
   | (with_reducible exact LeO.none _)
   | (with_reducible refine LeO.ite ?_ ?_)
   | (with_reducible refine LeO.bind ?_ (fun _ => ?_))
   | exact arr_check.mono _ _ _ _
set_option maxHeartbeats 8000000 in
set_option maxRecDepth 100000 in
theorem arr_Check.calls (k : Nat) (A0_0 : Option Addr) (c0_0 : Nat) (l0_0 : List Int) (A0_1 : Option Addr) (c0_1 : Nat) (l0_1 : List (S40)) (r : Int) (w : World) (hr0_0 : Kd.C (Kd.int .i64) w A0_0 l0_0.length l0_0) (hc0_0 : l0_0.length ≤ c0_0) (hr0_1 : Kd.C k40 w A0_1 l0_1.length l0_1) (hc0_1 : l0_1.length ≤ c0_1) (h : arr_Check.f k l0_0 l0_1 = some r) :
  Calls Try.prog 14 #[.agg #[.slice A0_0 l0_0.length c0_0, .slice A0_1 l0_1.length c0_1]] w fun e w' => e = .returned (.int .i64 r) ∧ Below w.heap.size w w' := by
 have hu25 := Try.underlying25
 have HR0_0 := gA hr0_0
 have HC0_0 := gA hc0_0
 clear hr0_0 hc0_0
 have HR0_1 := gA hr0_1
 have HC0_1 := gA hc0_1
 clear hr0_1 hc0_1
 have HB := gA (Below.refl w.heap.size w)
 have H : ((arr_check.f k l0_0 l0_1 0).bind fun t129 => (some t129)) = some r := h
 clear h
 replace H := Option.bind_eq_some_iff.mp H
 obtain ⟨t129, A20, H⟩ := H
 replace H : (some t129) = some r := H
 have A2 := gA A20
 clear A20
 obtain rfl := Option.some.inj H
 go_enter Try.func14, Try.ntmps14
 go_wp2_with (first | ((with_reducible refine gate_dst (N := 1) rfl ?_); refine box_event ?hg (N := 1) ?hd (cs := #[.slice A0_0 l0_0.length c0_0, .slice A0_1 l0_1.length c0_1]) (t := 25) ?hr ?_; (case hd => rfl); (case hg => rfl); (case hr => first | (go_simp; done) | (go_simp; rfl)); intro gb128 hg w3 hbox hb; have BK128 := gA (hbox); have GW128 := gA ((by rw [hg]; exact (below_size (gB HB)) : w.heap.size ≤ gb128)); have GE128 := gA ((by rw [hg]; exact (below_size (gB HB)) : w.heap.size ≤ gb128)); replace HB := gA (below_step (gB HB) hb); clear hb hbox hg; obtain ⟨hcz4_0, hcz4_1, hfz4_0, hfz4_1⟩ := gz2 BK128) | ((with_reducible refine gate_callee (f := 19) rfl ?_); refine goesL_ (some 4) rfl rfl Try.func19 (by kernel_rfl) rfl #[.agg #[.slice A0_0 l0_0.length c0_0, .slice A0_1 l0_1.length c0_1], .int .i64 0] rfl (by (try simp only [List.map_toArray, List.map_cons, List.map_nil]); first | done | rfl | (simp only [List.length_drop, List.length_take]; rfl)) ?_; (with_reducible refine (arr_check.calls k _ _ l0_0 _ _ l0_1 0 t129 _ ?side1 ?side2 ?side3 ?side4 A2.out).mono ?_); (case side1 => exact gC HR0_0 HB); (case side2 => exact HC0_0.out); (case side3 => exact gC HR0_1 HB); (case side4 => exact HC0_1.out); rintro e w5 ⟨rfl, hb⟩; refine ⟨_, rfl, ?_⟩; replace BK128 := gA (blk_below (gK BK128) hb); replace HB := gA (below_step (gB HB) hb); (try clear hb)))
 go_ret
 exact ⟨rfl, by repeat first | exact gB HB | refine below_set ?_ GE128.out⟩
def spell_digits.d : Nat → Int → ByteArray
 | 0, _ => ⟨#[]⟩
 | k + 1, n => (if n < 10 then ⟨#[]⟩ else spell_digits.d k (n / 10)) ++ Utf8.encode (48 + n % 10)
def spell_digits.f (a0 : Int) : Option ByteArray := if 0 ≤ a0 ∧ a0 ≤ 18446744073709551615 then some (spell_digits.d 20 a0) else none
theorem spell_digits.enc (n : Int) (h0 : 0 ≤ n) (h1 : n < 10) : Utf8.encode (48 + n) = ⟨#[UInt8.ofNat (48 + n).toNat]⟩ := by
 have hv : Utf8.valid (48 + n) = true := by unfold Utf8.valid; simp; omega
 have hl : (48 + n).toNat < 128 := by omega
 unfold Utf8.encode
 simp [hv, hl]
theorem spell_digits.one (n : Int) : (Utf8.encode (48 + n % 10)).size = 1 := by rw [spell_digits.enc _ (by omega) (by omega)]; rfl
theorem spell_digits.le : ∀ k n, (spell_digits.d k n).size ≤ k
 | 0, _ => Nat.le_refl _
 | k + 1, n => by
  have h := spell_digits.le k (n / 10)
  simp only [spell_digits.d]
  rw [ByteArray.size_append, spell_digits.one]
  split
  ·show 0 + 1 ≤ k + 1; omega
  ·omega
set_option maxHeartbeats 2000000 in
set_option maxRecDepth 100000 in
theorem spell_digits.walk : ∀ (k : Nat) (n : Int) (w : World), 0 ≤ n → n < 10 ^ k → n ≤ 18446744073709551615 → 0 < k → k ≤ 20 →
  Calls Try.prog 42 #[.int .u64 n] w fun e w' => e = .returned (.string (spell_digits.d k n)) ∧ w' = w := by
 intro k
 induction k with
 | zero => intro n w _ _ _ h _; omega
 | succ k ih =>
  intro n w h0 h1 h2 hk hk2
  have HT := Aside0.mk hk2
  clear hk hk2
  have HI := Aside0.mk ih
  have HP := Aside0.mk h1
  clear ih h1
  by_cases hc : n < 10
  ·have hg : ¬ 10 ≤ n := by omega
   have HV : Aside0 (spell_digits.d (k + 1) n = (⟨#[]⟩ : ByteArray) ++ Utf8.encode (48 + n % 10)) := ⟨by simp only [spell_digits.d]; rw [if_pos hc]⟩
   have hs : ¬ 9223372036854775807 < (Utf8.encode (48 + n % 10)).size := by rw [spell_digits.one]; decide
   go_enter Try.func42, Try.ntmps42
   go_wp2
   go_ret
   exact ⟨congrArg (fun s => Ending.returned (.string s)) HV.out.symm, rfl⟩
  ·have hg : 10 ≤ n := by omega
   have HV : Aside0 (spell_digits.d (k + 1) n = spell_digits.d k (n / 10) ++ Utf8.encode (48 + n % 10)) := ⟨by simp only [spell_digits.d]; rw [if_neg hc]⟩
   have HK : Aside0 (0 < k ∧ n / 10 < 10 ^ k) := ⟨by
    have := HP.out
    rw [Int.pow_succ] at this
    refine ⟨?_, by omega⟩
    rcases Nat.eq_zero_or_pos k with hz | hz
    ·subst hz; omega
    ·exact hz⟩
   have hs : ¬ 9223372036854775807 < (spell_digits.d k (n / 10)).size + (Utf8.encode (48 + n % 10)).size := by rw [spell_digits.one]; have := spell_digits.le k (n / 10); have := HT.out; omega
   go_enter Try.func42, Try.ntmps42
   go_wp2_with (go_at_call 42; (with_reducible refine (HI.out _ _ (by omega) HK.out.2 (by omega) HK.out.1 (by have := HT.out; omega)).mono ?_); rintro e w1 ⟨rfl, rfl⟩)
   go_ret
   exact ⟨congrArg (fun s => Ending.returned (.string s)) HV.out.symm, rfl⟩
theorem spell_digits.calls (a0 : Int) (r : ByteArray) (w : World) (h : spell_digits.f a0 = some r) :
  Calls Try.prog 42 #[.int .u64 a0] w fun e w' => e = .returned (.string r) ∧ Below w.heap.size w w' := by
 unfold spell_digits.f at h
 by_cases hc : 0 ≤ a0 ∧ a0 ≤ 18446744073709551615
 ·rw [if_pos hc] at h
  obtain rfl := Option.some.inj h
  refine (spell_digits.walk 20 a0 w hc.1 (by have := hc.2; omega) hc.2 (by decide) (by decide)).mono ?_
  rintro e w' ⟨he, rfl⟩
  exact ⟨he, Below.refl _ _⟩
 ·rw [if_neg hc] at h
  cases h
def spell_Number.f (a0 : Int) (a1 : ByteArray) : Option (ByteArray) := if a0 < 0 then ((spell_digits.f (IntKind.u64.wrap (-(IntKind.u64.wrap (a0))))).bind fun t130 => (if a1.size + t130.size ≤ 9223372036854775807 then (some (a1 ++ t130)) else (none))) else ((spell_digits.f (IntKind.u64.wrap (a0))).bind fun t131 => (some t131))
set_option maxHeartbeats 8000000 in
set_option maxRecDepth 100000 in
theorem spell_Number.calls (a0 : Int) (a1 : ByteArray) (r : ByteArray) (w : World) (h : spell_Number.f a0 a1 = some r) :
  Calls Try.prog 30 #[.int .i64 a0, .string a1] w fun e w' => e = .returned (.string r) ∧ Below w.heap.size w w' := by
 have HB := gA (Below.refl w.heap.size w)
 have H : (if a0 < 0 then ((spell_digits.f (IntKind.u64.wrap (-(IntKind.u64.wrap (a0))))).bind fun t130 => (if a1.size + t130.size ≤ 9223372036854775807 then (some (a1 ++ t130)) else (none))) else ((spell_digits.f (IntKind.u64.wrap (a0))).bind fun t131 => (some t131))) = some r := h
 clear h
 by_cases c3 : a0 < 0
 ·rw [if_pos c3] at H
  have c3b0 := decide_eq_true c3
  clear c3
  replace H := Option.bind_eq_some_iff.mp H
  obtain ⟨t130, A40, H⟩ := H
  replace H : (if a1.size + t130.size ≤ 9223372036854775807 then (some (a1 ++ t130)) else (none)) = some r := H
  have A4 := gA A40
  clear A40
  obtain ⟨c5, H⟩ := iS H
  have c5b0 := eq_true c5
  have c5b1 := decide_eq_true c5
  try have c5b2 : (9223372036854775807 < a1.size + t130.size) = False := eq_false (Nat.not_lt.2 c5)
  obtain rfl := Option.some.inj H
  go_enter Try.func30, Try.ntmps30
  go_wp2_with (first | ((with_reducible refine gate_callee (f := 42) rfl ?_); refine goesL_ (some 11) rfl rfl Try.func42 (by kernel_rfl) rfl #[.int .u64 (IntKind.u64.wrap (-(IntKind.u64.wrap (a0))))] rfl (by (try simp only [List.map_toArray, List.map_cons, List.map_nil]); first | done | rfl | (simp only [List.length_drop, List.length_take]; rfl)) ?_; (with_reducible refine (spell_digits.calls (IntKind.u64.wrap (-(IntKind.u64.wrap (a0)))) t130 _ A4.out).mono ?_); rintro e w6 ⟨rfl, hb⟩; refine ⟨_, rfl, ?_⟩; replace HB := gA (below_step (gB HB) hb); (try clear hb)))
  go_ret
  exact ⟨rfl, gB HB⟩
 ·rw [if_neg c3] at H
  have c3b0 := decide_eq_false c3
  clear c3
  replace H := Option.bind_eq_some_iff.mp H
  obtain ⟨t131, A70, H⟩ := H
  replace H : (some t131) = some r := H
  have A7 := gA A70
  clear A70
  obtain rfl := Option.some.inj H
  go_enter Try.func30, Try.ntmps30
  go_wp2_with (first | ((with_reducible refine gate_callee (f := 42) rfl ?_); refine goesL_ (some 15) rfl rfl Try.func42 (by kernel_rfl) rfl #[.int .u64 (IntKind.u64.wrap (a0))] rfl (by (try simp only [List.map_toArray, List.map_cons, List.map_nil]); first | done | rfl | (simp only [List.length_drop, List.length_take]; rfl)) ?_; (with_reducible refine (spell_digits.calls (IntKind.u64.wrap (a0)) t131 _ A7.out).mono ?_); rintro e w8 ⟨rfl, hb⟩; refine ⟨_, rfl, ?_⟩; replace HB := gA (below_step (gB HB) hb); (try clear hb)))
  go_ret
  exact ⟨rfl, gB HB⟩
def show_minus.f (a0 : Int) : Option (ByteArray) := if a0 = 0 then (some (⟨#[194, 175]⟩ : ByteArray)) else (if a0 = 1 then (some (⟨#[95]⟩ : ByteArray)) else (some (⟨#[45]⟩ : ByteArray)))
set_option maxHeartbeats 8000000 in
set_option maxRecDepth 100000 in
theorem show_minus.calls (a0 : Int) (r : ByteArray) (w : World) (h : show_minus.f a0 = some r) :
  Calls Try.prog 31 #[.int .i64 a0] w fun e w' => e = .returned (.string r) ∧ Drawn0 w w' := by
 have H : (if a0 = 0 then (some (⟨#[194, 175]⟩ : ByteArray)) else (if a0 = 1 then (some (⟨#[95]⟩ : ByteArray)) else (some (⟨#[45]⟩ : ByteArray)))) = some r := h
 clear h
 by_cases c2 : a0 = 0
 ·rw [if_pos c2] at H
  have c2b0 : (a0 == 0) = true := beq_iff_eq.mpr c2
  have c2b1 : (a0 != 0) = false := bne_eq_false_iff_eq.mpr c2
  clear c2
  obtain rfl := Option.some.inj H
  go_enter Try.func31, Try.ntmps31
  go_wp2
  go_ret
  exact ⟨rfl, by repeat (first | exact Drawn0.refl _ | apply Drawn0.step)⟩
 ·rw [if_neg c2] at H
  have c2b0 : (a0 == 0) = false := beq_eq_false_iff_ne.mpr c2
  have c2b1 : (a0 != 0) = true := bne_iff_ne.mpr c2
  by_cases c3 : a0 = 1
  ·rw [if_pos c3] at H
   have c3b0 : (a0 == 1) = true := beq_iff_eq.mpr c3
   have c3b1 : (a0 != 1) = false := bne_eq_false_iff_eq.mpr c3
   clear c3
   obtain rfl := Option.some.inj H
   go_enter Try.func31, Try.ntmps31
   go_wp2
   go_ret
   exact ⟨rfl, by repeat (first | exact Drawn0.refl _ | apply Drawn0.step)⟩
  ·rw [if_neg c3] at H
   have c3b0 : (a0 == 1) = false := beq_eq_false_iff_ne.mpr c3
   have c3b1 : (a0 != 1) = true := bne_iff_ne.mpr c3
   obtain rfl := Option.some.inj H
   go_enter Try.func31, Try.ntmps31
   go_wp2
   go_ret
   exact ⟨rfl, by repeat (first | exact Drawn0.refl _ | apply Drawn0.step)⟩
end Go.Proofs.Ytbijepjnbolpiaa.P
