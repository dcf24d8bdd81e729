/- Written by a program of this session: the functions that the laws reach, what each comes to, and each law as it is stated, for every input. No condition. -/
import Derived.Test.YtbijepjnbolpiaaPx0
import Derived.Test.YtbijepjnbolpiaaPx1
namespace Go.Proofs.Ytbijepjnbolpiaa.P
open Go.RowKit Go.Proofs.YtbijepjnbolpiaaW.PrintWords Go.Proofs.YtbijepjnbolpiaaW.PrintLast Go.Proofs.YtbijepjnbolpiaaW.PrintMore
attribute [local go_sem] max2_int min2_int max_two min_two max_three min_three max_four min_four   -- for this text's walks alone
set_option linter.unusedVariables false
set_option linter.unusedSimpArgs false
mutual
def triglyphlaw27_light.l0 : Nat → Int → Int → List Int → List (S40) → Option (Bool)
 | 0, _, _, _, _ => none
 | k + 1, x3, x4, x109000, x109001 => if x4 < (x109000.length : Int) then (triglyphlaw27_light.j1 k x3 x4 (decide (x4 < 10)) x109000 x109001) else (triglyphlaw27_light.j1 k x3 x4 false x109000 x109001)
def triglyphlaw27_light.j1 : Nat → Int → Int → Bool → List Int → List (S40) → Option (Bool)
 | 0, _, _, _, _, _ => none
 | k + 1, x3, x4, x14, x109000, x109001 => if x14 = true then (if 0 ≤ x4 then (if x4 < (x109000.length : Int) then (if (rd x109000 x4) > 2000 then (some false) else (if (rd x109000 x4) > 1 then (if (wrap64 (x3 * (rd x109000 x4))) > 2000 then (some false) else (triglyphlaw27_light.l0 k (wrap64 (x3 * (rd x109000 x4))) (wrap64 (x4 + 1)) x109000 x109001)) else (if x3 > 2000 then (some false) else (triglyphlaw27_light.l0 k x3 (wrap64 (x4 + 1)) x109000 x109001)))) else (none)) else (none)) else ((triglyphref03_Weight.f k x109000 x109001 1000).bind fun t112 => (if t112 > 1000 then (some false) else (triglyphlaw27_light.l1 k 0 x109000 x109001)))
def triglyphlaw27_light.l1 : Nat → Int → List Int → List (S40) → Option (Bool)
 | 0, _, _, _ => none
 | k + 1, x5, x109000, x109001 => if x5 < (x109001.length : Int) then (if 0 ≤ x5 then (if (((rd_T40 x109001 x5).f2).length : Int) = 1 then (if 0 < (((rd_T40 x109001 x5).f2).length : Int) then ((triglyphlaw27_light.f k ((rd_T25 ((rd_T40 x109001 x5).f2) 0).f0) ((rd_T25 ((rd_T40 x109001 x5).f2) 0).f1)).bind fun t116 => (if t116 = true then (triglyphlaw27_light.l1 k (wrap64 (x5 + 1)) x109000 x109001) else (some false))) else (none)) else (triglyphlaw27_light.l1 k (wrap64 (x5 + 1)) x109000 x109001)) else (none)) else (some true)
def triglyphlaw27_light.f : Nat → List Int → List (S40) → Option (Bool)
 | 0, _, _ => none
 | k + 1, l0_0, l0_1 => triglyphlaw27_light.l0 k 1 0 l0_0 l0_1
end
theorem triglyphlaw27_light.mono_l : ∀ k, (∀ y0 y1, LeO (triglyphlaw27_light.f k y0 y1) (triglyphlaw27_light.f (k + 1) y0 y1)) ∧ (∀ y0 y1 y2 y3, LeO (triglyphlaw27_light.l0 k y0 y1 y2 y3) (triglyphlaw27_light.l0 (k + 1) y0 y1 y2 y3)) ∧ (∀ y0 y1 y2 y3 y4, LeO (triglyphlaw27_light.j1 k y0 y1 y2 y3 y4) (triglyphlaw27_light.j1 (k + 1) y0 y1 y2 y3 y4)) ∧ (∀ y0 y1 y2, LeO (triglyphlaw27_light.l1 k y0 y1 y2) (triglyphlaw27_light.l1 (k + 1) y0 y1 y2))
 | 0 => ⟨fun _ _ r h => by simp [triglyphlaw27_light.f] at h, fun _ _ _ _ r h => by simp [triglyphlaw27_light.l0] at h, fun _ _ _ _ _ r h => by simp [triglyphlaw27_light.j1] at h, fun _ _ _ r h => by simp [triglyphlaw27_light.l1] at h⟩
 | k + 1 => by
  obtain ⟨ih0, ih1, ih2, ih3⟩ := triglyphlaw27_light.mono_l k
  refine ⟨?_, ?_, ?_, ?_⟩
  ·intro y0 y1
   unfold triglyphlaw27_light.f
   repeat' first
   | (with_reducible exact ih0 _ _)
   | (with_reducible exact ih1 _ _ _ _)
   | (with_reducible exact ih2 _ _ _ _ _)
   | (with_reducible exact ih3 _ _ _)
   | (with_reducible exact triglyphref03_Weight.mono _ _ _ _)
   | (with_reducible exact LeO.refl _)
   | (with_reducible exact LeO.none _)
   | (with_reducible refine LeO.ite ?_ ?_)
   | (with_reducible refine LeO.bind ?_ (fun _ => ?_))




   | exact triglyphref03_Weight.mono _ _ _ _



  ·intro y0 y1 y2 y3
   unfold triglyphlaw27_light.l0
   repeat' first
   | (with_reducible exact ih0 _ _)
   | (with_reducible exact ih1 _ _ _ _)
   | (with_reducible exact ih2 _ _ _ _ _)
   | (with_reducible exact ih3 _ _ _)
   | (with_reducible exact triglyphref03_Weight.mono _ _ _ _)
   | (with_reducible exact LeO.refl _)
   | (with_reducible exact LeO.none _)
   | (with_reducible refine LeO.ite ?_ ?_)
   | (with_reducible refine LeO.bind ?_ (fun _ => ?_))




   | exact triglyphref03_Weight.mono _ _ _ _



  ·intro y0 y1 y2 y3 y4
   unfold triglyphlaw27_light.j1
   repeat' first
   | (with_reducible exact ih0 _ _)
   | (with_reducible exact ih1 _ _ _ _)
   | (with_reducible exact ih2 _ _ _ _ _)
   | (with_reducible exact ih3 _ _ _)
   | (with_reducible exact triglyphref03_Weight.mono _ _ _ _)
   | (with_reducible exact LeO.refl _)
   | (with_reducible exact LeO.none _)
   | (with_reducible refine LeO.ite ?_ ?_)
   | (with_reducible refine LeO.bind ?_ (fun _ => ?_))




   | exact triglyphref03_Weight.mono _ _ _ _



  ·intro y0 y1 y2
   unfold triglyphlaw27_light.l1
   repeat' first
   | (with_reducible exact ih0 _ _)
   | (with_reducible exact ih1 _ _ _ _)
   | (with_reducible exact ih2 _ _ _ _ _)
   | (with_reducible exact ih3 _ _ _)
   | (with_reducible exact triglyphref03_Weight.mono _ _ _ _)
   | (with_reducible exact LeO.refl _)
   | (with_reducible exact LeO.none _)
   | (with_reducible refine LeO.ite ?_ ?_)
   | (with_reducible refine LeO.bind ?_ (fun _ => ?_))




   | exact triglyphref03_Weight.mono _ _ _ _
theorem triglyphlaw27_light.mono : ∀ a0 a1 k, LeO (triglyphlaw27_light.f k a0 a1) (triglyphlaw27_light.f (k + 1) a0 a1) := by
 intro a0 a1 k
 obtain ⟨ih0, ih1, ih2, ih3⟩ := triglyphlaw27_light.mono_l k
 exact ih0 a0 a1
set_option maxHeartbeats 8000000 in
set_option maxRecDepth 100000 in
theorem triglyphlaw27_light.calls (k : Nat) : ∀ (A0_0 : Option Addr) (c0_0 : Nat) (l0_0 : List Int) (A0_1 : Option Addr) (c0_1 : Nat) (l0_1 : List (S40)) (r : Bool) (w : World) (hr0_0 : Kd.C (Kd.int .i64) w A0_0 l0_0.length l0_0) (hc0_0 : l0_0.length ≤ c0_0) (hr0_1 : Kd.C k40 w A0_1 l0_1.length l0_1) (hc0_1 : l0_1.length ≤ c0_1) (h : triglyphlaw27_light.f k l0_0 l0_1 = some r),
  Calls Try.prog 6 #[.agg #[.slice A0_0 l0_0.length c0_0, .slice A0_1 l0_1.length c0_1]] w fun e w' => e = .returned (.bool r) ∧ Below w.heap.size w w' := by
 induction k using Nat.strongRecOn with
 | _ k ih =>
 intro A0_0 c0_0 l0_0 A0_1 c0_1 l0_1 r w hr0_0 hc0_0 hr0_1 hc0_1 h
 cases k with
 | zero => exact absurd h (by simp [triglyphlaw27_light.f])
 | succ k =>
 simp only [triglyphlaw27_light.f] at h
 have hu25 := Try.underlying25
 have HR0_0 := gA hr0_0
 have HC0_0 := gA hc0_0
 clear hr0_0 hc0_0
 have HR0_1 := gA hr0_1
 have HC0_1 := gA hc0_1
 clear hr0_1 hc0_1
 have HB := gA (Below.refl w.heap.size w)
 have H : (triglyphlaw27_light.l0 k 1 0 l0_0 l0_1) = some r := h
 clear h
 have H' := gA H
 clear H
 go_enter Try.func6, Try.ntmps6
 go_wp2_with (first | ((with_reducible refine gate_dst (N := 1) rfl ?_); refine box_event ?hg (N := 1) ?hd (cs := #[.slice A0_0 l0_0.length c0_0, .slice A0_1 l0_1.length c0_1]) (t := 25) ?hr ?_; (case hd => rfl); (case hg => rfl); (case hr => first | (go_simp; done) | (go_simp; rfl)); intro gb108 hg w2 hbox hb; have BK108 := gA (hbox); have GW108 := gA ((by rw [hg]; exact (below_size (gB HB)) : w.heap.size ≤ gb108)); have GE108 := gA ((by rw [hg]; exact (below_size (gB HB)) : w.heap.size ≤ gb108)); replace HB := gA (below_step (gB HB) hb); clear hb hbox hg))
 go_loopg [3, 4] k (fun kq v3 v4 w' => ∃ (x3_1 : Int) (x4_1 : Int), v3 = .int .i64 x3_1 ∧ v4 = .int .i64 x4_1 ∧ Aside0 (triglyphlaw27_light.l0 kq x3_1 x4_1 l0_0 l0_1 = some r) ∧ Aside0 (kq ≤ k) ∧ Aside0 (w'.heap[gb108]? = some (.cells #[(.slice A0_0 l0_0.length c0_0), (.slice A0_1 l0_1.length c0_1)] 25 (0, 0))) ∧ Aside0 (Below w.heap.size w w'))
 case atStart => exact ⟨(1), (0), (rfl), (rfl), H', ⟨Nat.le_refl _⟩, ⟨gK BK108⟩, ⟨by repeat first | exact gB HB | refine below_set ?_ GE108.out⟩⟩
 case round =>
  clear H'
  try clear p2
  obtain ⟨x3_1, x4_1, rfl, rfl, HA, HK1, BK108, HB⟩ := hrel
  cases gk with
  | zero => exact absurd HA.out (by simp [triglyphlaw27_light.l0])
  | succ k1 =>
   have H := HA.out; clear HA
   simp only [triglyphlaw27_light.l0] at H
   have HC3 := gA H
   clear H
   go_upto_region 3 with (fail)
   go_cut [14] (fun v14 wc => ∃ (kq : Nat) (x14_2 : Bool), v14 = .bool x14_2 ∧ Aside0 (triglyphlaw27_light.j1 kq x3_1 x4_1 x14_2 l0_0 l0_1 = some r) ∧ Aside0 (kq ≤ k1) ∧ Aside0 (wc.heap[gb108]? = some (.cells #[(.slice A0_0 l0_0.length c0_0), (.slice A0_1 l0_1.length c0_1)] 25 (0, 0))) ∧ Aside0 (Below w.heap.size w wc))
   case first =>
    have H := HC3.out; clear HC3
    by_cases c4 : x4_1 < (l0_0.length : Int)
    ·rw [if_pos c4] at H
     have c4b0 := decide_eq_true c4
     clear c4
     (first | rw [c4b0] | (simp only [i64_w, i32_w]; rw [c4b0]) | skip)
     have H' := gA H
     clear H
     obtain ⟨hcz5_0, hcz5_1, hfz5_0, hfz5_1⟩ := gz2 BK108
     go_wp2
     all_goals (go_meet; (case rel => exact ⟨_, (decide (x4_1 < 10)), (by first | rfl | (simp; done) | (simp [*]; done) | (exfalso; simp_all; done) | (exfalso; simp_all; omega)), H', ⟨by have := HK1.out; first | omega | exact Nat.le_refl _⟩, ⟨gK BK108⟩, ⟨gB HB⟩⟩))
    ·rw [if_neg c4] at H
     have c4b0 := decide_eq_false c4
     clear c4
     (first | rw [c4b0] | (simp only [i64_w, i32_w]; rw [c4b0]) | skip)
     have H' := gA H
     clear H
     obtain ⟨hcz6_0, hcz6_1, hfz6_0, hfz6_1⟩ := gz2 BK108
     go_wp2
     all_goals (go_meet; (case rel => exact ⟨_, (false), (by first | rfl | (simp; done) | (simp [*]; done) | (exfalso; simp_all; done) | (exfalso; simp_all; omega)), H', ⟨by have := HK1.out; first | omega | exact Nat.le_refl _⟩, ⟨gK BK108⟩, ⟨gB HB⟩⟩))
   case rest =>
    clear HC3
    try clear p2
    try clear c4
    try clear c4b0
    try clear c6
    try clear hcz5_0
    try clear hcz5_1
    try clear hcz6_0
    try clear hcz6_1
    try clear hfz5_0
    try clear hfz5_1
    try clear hfz6_0
    try clear hfz6_1
    try clear p2
    obtain ⟨kq, x14_2, rfl, HA, HJ2, BK108, HB⟩ := hcut
    cases kq with
    | zero => exact absurd HA.out (by simp [triglyphlaw27_light.j1])
    | succ kj2 =>
     have H := HA.out; clear HA
     simp only [triglyphlaw27_light.j1] at H
     by_cases c7 : x14_2 = true
     ·subst c7
      have H1 : (if 0 ≤ x4_1 then (if x4_1 < (l0_0.length : Int) then (if (rd l0_0 x4_1) > 2000 then (some false) else (if (rd l0_0 x4_1) > 1 then (if (wrap64 (x3_1 * (rd l0_0 x4_1))) > 2000 then (some false) else (triglyphlaw27_light.l0 kj2 (wrap64 (x3_1 * (rd l0_0 x4_1))) (wrap64 (x4_1 + 1)) l0_0 l0_1)) else (if x3_1 > 2000 then (some false) else (triglyphlaw27_light.l0 kj2 x3_1 (wrap64 (x4_1 + 1)) l0_0 l0_1)))) else (none)) else (none)) = some r := by rw [if_pos rfl] at H; exact H
      clear H; have H := H1; clear H1
      obtain ⟨c8, H⟩ := iS H
      have c8b0 := decide_eq_true c8
      clear c8
      obtain ⟨c9, H⟩ := iS H
      have c9b0 := decide_eq_true c9
      clear c9
      by_cases c10 : (rd l0_0 x4_1) > 2000
      ·rw [if_pos c10] at H
       have c10b0 : decide (2000 < (rd l0_0 x4_1)) = true := decide_eq_true c10
       clear c10
       obtain rfl := Option.some.inj H
       obtain ⟨hcz11_0, hcz11_1, hfz11_0, hfz11_1⟩ := gz2 BK108
       have p109 : 0 ≤ (x4_1 : Int) := of_decide_eq_true (by assumption)
       have q109 : x4_1 < (l0_0.length : Int) := of_decide_eq_true (by assumption)
       obtain ⟨ad109, e109, hx109_0⟩ := Kd.at_int HR0_0.out x4_1 p109 q109
       cases e109
       replace hx109_0 := (HB.out.cell (World.block_lt_of_cell? w _ hx109_0)).trans hx109_0
       replace p109 := eq_true p109
       replace q109 := eq_true q109
       go_wp2
       go_ret
       exact ⟨rfl, by repeat first | exact gB HB | refine below_set ?_ GE108.out⟩
      ·rw [if_neg c10] at H
       have c10b0 : decide (2000 < (rd l0_0 x4_1)) = false := decide_eq_false c10
       clear c10
       by_cases c12 : (rd l0_0 x4_1) > 1
       ·rw [if_pos c12] at H
        have c12b0 : decide (1 < (rd l0_0 x4_1)) = true := decide_eq_true c12
        clear c12
        by_cases c13 : (wrap64 (x3_1 * (rd l0_0 x4_1))) > 2000
        ·rw [if_pos c13] at H
         have c13b0 : decide (2000 < (wrap64 (x3_1 * (rd l0_0 x4_1)))) = true := decide_eq_true c13
         clear c13
         obtain rfl := Option.some.inj H
         obtain ⟨hcz14_0, hcz14_1, hfz14_0, hfz14_1⟩ := gz2 BK108
         have p109 : 0 ≤ (x4_1 : Int) := of_decide_eq_true (by assumption)
         have q109 : x4_1 < (l0_0.length : Int) := of_decide_eq_true (by assumption)
         obtain ⟨ad109, e109, hx109_0⟩ := Kd.at_int HR0_0.out x4_1 p109 q109
         cases e109
         replace hx109_0 := (HB.out.cell (World.block_lt_of_cell? w _ hx109_0)).trans hx109_0
         replace p109 := eq_true p109
         replace q109 := eq_true q109
         have p110 : 0 ≤ (x4_1 : Int) := of_decide_eq_true (by assumption)
         have q110 : x4_1 < (l0_0.length : Int) := of_decide_eq_true (by assumption)
         obtain ⟨ad110, e110, hx110_0⟩ := Kd.at_int HR0_0.out x4_1 p110 q110
         obtain rfl : ad109 = ad110 := (by injection e110)
         replace hx110_0 := (HB.out.cell (World.block_lt_of_cell? w _ hx110_0)).trans hx110_0
         replace p110 := eq_true p110
         replace q110 := eq_true q110
         have p111 : 0 ≤ (x4_1 : Int) := of_decide_eq_true (by assumption)
         have q111 : x4_1 < (l0_0.length : Int) := of_decide_eq_true (by assumption)
         obtain ⟨ad111, e111, hx111_0⟩ := Kd.at_int HR0_0.out x4_1 p111 q111
         obtain rfl : ad109 = ad111 := (by injection e111)
         replace hx111_0 := (HB.out.cell (World.block_lt_of_cell? w _ hx111_0)).trans hx111_0
         replace p111 := eq_true p111
         replace q111 := eq_true q111
         go_wp2
         go_ret
         exact ⟨rfl, by repeat first | exact gB HB | refine below_set ?_ GE108.out⟩
        ·rw [if_neg c13] at H
         have c13b0 : decide (2000 < (wrap64 (x3_1 * (rd l0_0 x4_1)))) = false := decide_eq_false c13
         clear c13
         have H' := gA H
         clear H
         obtain ⟨hcz15_0, hcz15_1, hfz15_0, hfz15_1⟩ := gz2 BK108
         have p109 : 0 ≤ (x4_1 : Int) := of_decide_eq_true (by assumption)
         have q109 : x4_1 < (l0_0.length : Int) := of_decide_eq_true (by assumption)
         obtain ⟨ad109, e109, hx109_0⟩ := Kd.at_int HR0_0.out x4_1 p109 q109
         cases e109
         replace hx109_0 := (HB.out.cell (World.block_lt_of_cell? w _ hx109_0)).trans hx109_0
         replace p109 := eq_true p109
         replace q109 := eq_true q109
         have p110 : 0 ≤ (x4_1 : Int) := of_decide_eq_true (by assumption)
         have q110 : x4_1 < (l0_0.length : Int) := of_decide_eq_true (by assumption)
         obtain ⟨ad110, e110, hx110_0⟩ := Kd.at_int HR0_0.out x4_1 p110 q110
         obtain rfl : ad109 = ad110 := (by injection e110)
         replace hx110_0 := (HB.out.cell (World.block_lt_of_cell? w _ hx110_0)).trans hx110_0
         replace p110 := eq_true p110
         replace q110 := eq_true q110
         have p111 : 0 ≤ (x4_1 : Int) := of_decide_eq_true (by assumption)
         have q111 : x4_1 < (l0_0.length : Int) := of_decide_eq_true (by assumption)
         obtain ⟨ad111, e111, hx111_0⟩ := Kd.at_int HR0_0.out x4_1 p111 q111
         obtain rfl : ad109 = ad111 := (by injection e111)
         replace hx111_0 := (HB.out.cell (World.block_lt_of_cell? w _ hx111_0)).trans hx111_0
         replace p111 := eq_true p111
         replace q111 := eq_true q111
         go_wp2
         go_roundg kj2
         case measure => have := HK1.out; have := HJ2.out; omega
         case rel => exact ⟨(wrap64 (x3_1 * (rd l0_0 x4_1))), (wrap64 (x4_1 + 1)), (rfl), (rfl), H', ⟨by have := HK1.out; have := HJ2.out; omega⟩, ⟨gK BK108⟩, ⟨gB HB⟩⟩
       ·rw [if_neg c12] at H
        have c12b0 : decide (1 < (rd l0_0 x4_1)) = false := decide_eq_false c12
        clear c12
        by_cases c16 : x3_1 > 2000
        ·rw [if_pos c16] at H
         have c16b0 : decide (2000 < x3_1) = true := decide_eq_true c16
         clear c16
         obtain rfl := Option.some.inj H
         obtain ⟨hcz17_0, hcz17_1, hfz17_0, hfz17_1⟩ := gz2 BK108
         have p109 : 0 ≤ (x4_1 : Int) := of_decide_eq_true (by assumption)
         have q109 : x4_1 < (l0_0.length : Int) := of_decide_eq_true (by assumption)
         obtain ⟨ad109, e109, hx109_0⟩ := Kd.at_int HR0_0.out x4_1 p109 q109
         cases e109
         replace hx109_0 := (HB.out.cell (World.block_lt_of_cell? w _ hx109_0)).trans hx109_0
         replace p109 := eq_true p109
         replace q109 := eq_true q109
         have p110 : 0 ≤ (x4_1 : Int) := of_decide_eq_true (by assumption)
         have q110 : x4_1 < (l0_0.length : Int) := of_decide_eq_true (by assumption)
         obtain ⟨ad110, e110, hx110_0⟩ := Kd.at_int HR0_0.out x4_1 p110 q110
         obtain rfl : ad109 = ad110 := (by injection e110)
         replace hx110_0 := (HB.out.cell (World.block_lt_of_cell? w _ hx110_0)).trans hx110_0
         replace p110 := eq_true p110
         replace q110 := eq_true q110
         go_wp2
         go_ret
         exact ⟨rfl, by repeat first | exact gB HB | refine below_set ?_ GE108.out⟩
        ·rw [if_neg c16] at H
         have c16b0 : decide (2000 < x3_1) = false := decide_eq_false c16
         clear c16
         have H' := gA H
         clear H
         obtain ⟨hcz18_0, hcz18_1, hfz18_0, hfz18_1⟩ := gz2 BK108
         have p109 : 0 ≤ (x4_1 : Int) := of_decide_eq_true (by assumption)
         have q109 : x4_1 < (l0_0.length : Int) := of_decide_eq_true (by assumption)
         obtain ⟨ad109, e109, hx109_0⟩ := Kd.at_int HR0_0.out x4_1 p109 q109
         cases e109
         replace hx109_0 := (HB.out.cell (World.block_lt_of_cell? w _ hx109_0)).trans hx109_0
         replace p109 := eq_true p109
         replace q109 := eq_true q109
         have p110 : 0 ≤ (x4_1 : Int) := of_decide_eq_true (by assumption)
         have q110 : x4_1 < (l0_0.length : Int) := of_decide_eq_true (by assumption)
         obtain ⟨ad110, e110, hx110_0⟩ := Kd.at_int HR0_0.out x4_1 p110 q110
         obtain rfl : ad109 = ad110 := (by injection e110)
         replace hx110_0 := (HB.out.cell (World.block_lt_of_cell? w _ hx110_0)).trans hx110_0
         replace p110 := eq_true p110
         replace q110 := eq_true q110
         go_wp2
         go_roundg kj2
         case measure => have := HK1.out; have := HJ2.out; omega
         case rel => exact ⟨(x3_1), (wrap64 (x4_1 + 1)), (rfl), (rfl), H', ⟨by have := HK1.out; have := HJ2.out; omega⟩, ⟨gK BK108⟩, ⟨gB HB⟩⟩
     ·replace c7 := Bool.eq_false_iff.mpr c7
      subst c7
      have H1 : ((triglyphref03_Weight.f kj2 l0_0 l0_1 1000).bind fun t112 => (if t112 > 1000 then (some false) else (triglyphlaw27_light.l1 kj2 0 l0_0 l0_1))) = some r := by rw [if_neg (show ¬ (false = true) by decide)] at H; exact H
      clear H; have H := H1; clear H1
      replace H := Option.bind_eq_some_iff.mp H
      obtain ⟨t112, A190, H⟩ := H
      replace H : (if t112 > 1000 then (some false) else (triglyphlaw27_light.l1 kj2 0 l0_0 l0_1)) = some r := H
      have A19 := gA A190
      clear A190
      by_cases c20 : t112 > 1000
      ·rw [if_pos c20] at H
       have c20b0 : decide (1000 < t112) = true := decide_eq_true c20
       clear c20
       obtain rfl := Option.some.inj H
       obtain ⟨hcz21_0, hcz21_1, hfz21_0, hfz21_1⟩ := gz2 BK108
       go_wp2_with (first | ((with_reducible refine gate_callee (f := 13) rfl ?_); refine goesL_ (some 39) rfl rfl Try.func13 (by kernel_rfl) rfl #[.agg #[.slice A0_0 l0_0.length c0_0, .slice A0_1 l0_1.length c0_1], .int .i64 1000] rfl (by (try simp only [List.map_toArray, List.map_cons, List.map_nil]); first | done | rfl | (simp only [List.length_drop, List.length_take]; rfl)) ?_; (with_reducible refine (triglyphref03_Weight.calls kj2 _ _ l0_0 _ _ l0_1 1000 t112 _ ?side1 ?side2 ?side3 ?side4 A19.out).mono ?_); (case side1 => exact gC HR0_0 HB); (case side2 => exact HC0_0.out); (case side3 => exact gC HR0_1 HB); (case side4 => exact HC0_1.out); rintro e w22 ⟨rfl, hb⟩; refine ⟨_, rfl, ?_⟩; replace BK108 := gA (blk_below (gK BK108) hb); replace HB := gA (below_step (gB HB) hb); (try clear hb)))
       go_ret
       exact ⟨rfl, by repeat first | exact gB HB | refine below_set ?_ GE108.out⟩
      ·rw [if_neg c20] at H
       have c20b0 : decide (1000 < t112) = false := decide_eq_false c20
       clear c20
       have H' := gA H
       clear H
       obtain ⟨hcz23_0, hcz23_1, hfz23_0, hfz23_1⟩ := gz2 BK108
       go_wp2_with (first | ((with_reducible refine gate_callee (f := 13) rfl ?_); refine goesL_ (some 39) rfl rfl Try.func13 (by kernel_rfl) rfl #[.agg #[.slice A0_0 l0_0.length c0_0, .slice A0_1 l0_1.length c0_1], .int .i64 1000] rfl (by (try simp only [List.map_toArray, List.map_cons, List.map_nil]); first | done | rfl | (simp only [List.length_drop, List.length_take]; rfl)) ?_; (with_reducible refine (triglyphref03_Weight.calls kj2 _ _ l0_0 _ _ l0_1 1000 t112 _ ?side1 ?side2 ?side3 ?side4 A19.out).mono ?_); (case side1 => exact gC HR0_0 HB); (case side2 => exact HC0_0.out); (case side3 => exact gC HR0_1 HB); (case side4 => exact HC0_1.out); rintro e w24 ⟨rfl, hb⟩; refine ⟨_, rfl, ?_⟩; replace BK108 := gA (blk_below (gK BK108) hb); replace HB := gA (below_step (gB HB) hb); (try clear hb)))
       go_loopg [5] kj2 (fun kq v5 w' => ∃ (x5_3 : Int), v5 = .int .i64 x5_3 ∧ Aside0 (triglyphlaw27_light.l1 kq x5_3 l0_0 l0_1 = some r) ∧ Aside0 (kq ≤ kj2) ∧ Aside0 (w'.heap[gb108]? = some (.cells #[(.slice A0_0 l0_0.length c0_0), (.slice A0_1 l0_1.length c0_1)] 25 (0, 0))) ∧ Aside0 (Below w.heap.size w w'))
       case atStart => exact ⟨(0), (rfl), H', ⟨Nat.le_refl _⟩, ⟨gK BK108⟩, ⟨by repeat first | exact gB HB | refine below_set ?_ GE108.out⟩⟩
       case round =>
        clear H'
        try clear c1
        try clear p1
        try clear q1
        try clear hx1
        try clear c2
        try clear p2
        try clear c4
        try clear c4b0
        try clear c6
        try clear p6
        try clear c7
        try clear c8
        try clear c8b0
        try clear c9
        try clear c9b0
        try clear c10
        try clear c10b0
        try clear p10
        try clear q10
        try clear hx10
        try clear p11
        try clear q11
        try clear hx11
        try clear c12
        try clear c12b0
        try clear c13
        try clear c13b0
        try clear c16
        try clear c16b0
        try clear c20
        try clear c20b0
        try clear hcz11_0
        try clear hcz11_1
        try clear hcz14_0
        try clear hcz14_1
        try clear hcz15_0
        try clear hcz15_1
        try clear hcz17_0
        try clear hcz17_1
        try clear hcz18_0
        try clear hcz18_1
        try clear hcz21_0
        try clear hcz21_1
        try clear hcz23_0
        try clear hcz23_1
        try clear hcz5_0
        try clear hcz5_1
        try clear hcz6_0
        try clear hcz6_1
        try clear hfz11_0
        try clear hfz11_1
        try clear hfz14_0
        try clear hfz14_1
        try clear hfz15_0
        try clear hfz15_1
        try clear hfz17_0
        try clear hfz17_1
        try clear hfz18_0
        try clear hfz18_1
        try clear hfz21_0
        try clear hfz21_1
        try clear hfz23_0
        try clear hfz23_1
        try clear hfz5_0
        try clear hfz5_1
        try clear hfz6_0
        try clear hfz6_1
        try clear hx109_0
        try clear hx110_0
        try clear hx111_0
        try clear p109
        try clear p110
        try clear p111
        try clear p2
        try clear q109
        try clear q110
        try clear q111
        obtain ⟨x5_3, rfl, HA, HK3, BK108, HB⟩ := hrel
        cases gk with
        | zero => exact absurd HA.out (by simp [triglyphlaw27_light.l1])
        | succ k3 =>
         have H := HA.out; clear HA
         simp only [triglyphlaw27_light.l1] at H
         by_cases c25 : x5_3 < (l0_1.length : Int)
         ·rw [if_pos c25] at H
          have c25b0 := decide_eq_true c25
          clear c25
          obtain ⟨c26, H⟩ := iS H
          have c26b0 := decide_eq_true c26
          clear c26
          by_cases c27 : (((rd_T40 l0_1 x5_3).f2).length : Int) = 1
          ·rw [if_pos c27] at H
           have c27b0 : ((((rd_T40 l0_1 x5_3).f2).length : Int) == 1) = true := beq_iff_eq.mpr c27
           have c27b1 : ((((rd_T40 l0_1 x5_3).f2).length : Int) != 1) = false := bne_eq_false_iff_eq.mpr c27
           clear c27
           obtain ⟨c28, H⟩ := iS H
           have c28b0 := decide_eq_true c28
           have c28b1 : decide (0 < ((rd_T40 l0_1 x5_3).f2).length) = true := decide_eq_true (by omega)
           clear c28
           replace H := Option.bind_eq_some_iff.mp H
           obtain ⟨t116, A290, H⟩ := H
           replace H : (if t116 = true then (triglyphlaw27_light.l1 k3 (wrap64 (x5_3 + 1)) l0_0 l0_1) else (some false)) = some r := H
           have A29 := gA A290
           clear A290
           by_cases c30 : t116 = true
           ·subst c30
            have H1 : (triglyphlaw27_light.l1 k3 (wrap64 (x5_3 + 1)) l0_0 l0_1) = some r := by rw [if_pos rfl] at H; exact H
            clear H; have H := H1; clear H1
            have H' := gA H
            clear H
            obtain ⟨hcz31_0, hcz31_1, hfz31_0, hfz31_1⟩ := gz2 BK108
            have p113 : 0 ≤ (x5_3 : Int) := of_decide_eq_true (by assumption)
            have q113 : x5_3 < (l0_1.length : Int) := of_decide_eq_true (by assumption)
            obtain ⟨ad113, A113_2, c113_2, e113, hx113_0, hx113_1, hx113_2, hl113_2, hi113_2⟩ := at_T40 HR0_1.out x5_3 p113 q113
            cases e113
            replace hx113_0 := (HB.out.cell (World.block_lt_of_cell? w _ hx113_0)).trans hx113_0
            replace hx113_1 := (HB.out.cell (World.block_lt_of_cell? w _ hx113_1)).trans hx113_1
            replace hx113_2 := (HB.out.cell (World.block_lt_of_cell? w _ hx113_2)).trans hx113_2
            have HR113_2 := gA hi113_2
            have HC113_2 := gA hl113_2
            clear hi113_2 hl113_2
            replace p113 := eq_true p113
            replace q113 := eq_true q113
            have p114 : 0 ≤ (x5_3 : Int) := of_decide_eq_true (by assumption)
            have q114 : x5_3 < (l0_1.length : Int) := of_decide_eq_true (by assumption)
            obtain ⟨ad114, A114_2, c114_2, e114, hx114_0, hx114_1, hx114_2, hl114_2, hi114_2⟩ := at_T40 HR0_1.out x5_3 p114 q114
            obtain rfl : ad113 = ad114 := (by injection e114)
            replace hx114_0 := (HB.out.cell (World.block_lt_of_cell? w _ hx114_0)).trans hx114_0
            replace hx114_1 := (HB.out.cell (World.block_lt_of_cell? w _ hx114_1)).trans hx114_1
            replace hx114_2 := (HB.out.cell (World.block_lt_of_cell? w _ hx114_2)).trans hx114_2
            have HR114_2 := gA hi114_2
            have HC114_2 := gA hl114_2
            clear hi114_2 hl114_2
            replace p114 := eq_true p114
            replace q114 := eq_true q114
            have ea_ := Option.some.inj (hx113_2.symm.trans hx114_2)
            injection ea_ with ea_ en_ ec_
            subst ea_
            subst ec_
            clear en_
            have p115 : 0 ≤ (0 : Int) := (by omega)
            have q115 : 0 < (((rd_T40 l0_1 x5_3).f2).length : Int) := of_decide_eq_true (by assumption)
            obtain ⟨ad115, A115_0, c115_0, A115_1, c115_1, e115, hx115_0, hx115_1, hl115_0, hi115_0, hl115_1, hi115_1⟩ := at_T25 HR114_2.out 0 p115 q115
            cases e115
            have qi115 : (0 < ((rd_T40 l0_1 x5_3).f2).length) = True := eq_true (by omega)
            (try rw [show ((0 : Int)).toNat = 0 from rfl] at hx115_0)
            (try rw [show 0 * 2 = 0 from rfl] at hx115_0)
            (try rw [Addr.add_zero'] at hx115_0)
            (try rw [show ((0 : Int)).toNat = 0 from rfl] at hx115_1)
            (try rw [show 0 * 2 = 0 from rfl] at hx115_1)
            (try rw [Addr.add_zero'] at hx115_1)
            replace hx115_0 := (HB.out.cell (World.block_lt_of_cell? w _ hx115_0)).trans hx115_0
            replace hx115_1 := (HB.out.cell (World.block_lt_of_cell? w _ hx115_1)).trans hx115_1
            have HR115_0 := gA hi115_0
            have HC115_0 := gA hl115_0
            clear hi115_0 hl115_0
            have HR115_1 := gA hi115_1
            have HC115_1 := gA hl115_1
            clear hi115_1 hl115_1
            replace p115 := eq_true p115
            replace q115 := eq_true q115
            go_wp2_with (first | (go_at_call 6; (with_reducible refine (ih k3 (by have := HK1.out; have := HJ2.out; have := HK3.out; omega) _ _ ((rd_T25 ((rd_T40 l0_1 x5_3).f2) 0).f0) _ _ ((rd_T25 ((rd_T40 l0_1 x5_3).f2) 0).f1) true _ ?side1 ?side2 ?side3 ?side4 A29.out).mono ?_); (case side1 => exact gC HR115_0 HB); (case side2 => exact HC115_0.out); (case side3 => exact gC HR115_1 HB); (case side4 => exact HC115_1.out); rintro e w32 ⟨rfl, hb⟩; replace BK108 := gA (blk_below (gK BK108) hb); replace HB := gA (below_step (gB HB) hb); (try clear hb)))
            go_roundg k3
            case measure => have := HK1.out; have := HJ2.out; have := HK3.out; omega
            case rel => exact ⟨(wrap64 (x5_3 + 1)), (rfl), H', ⟨by have := HK1.out; have := HJ2.out; have := HK3.out; omega⟩, ⟨gK BK108⟩, ⟨gB HB⟩⟩
           ·replace c30 := Bool.eq_false_iff.mpr c30
            subst c30
            have H1 : (some false) = some r := by rw [if_neg (show ¬ (false = true) by decide)] at H; exact H
            clear H; have H := H1; clear H1
            obtain rfl := Option.some.inj H
            obtain ⟨hcz33_0, hcz33_1, hfz33_0, hfz33_1⟩ := gz2 BK108
            have p113 : 0 ≤ (x5_3 : Int) := of_decide_eq_true (by assumption)
            have q113 : x5_3 < (l0_1.length : Int) := of_decide_eq_true (by assumption)
            obtain ⟨ad113, A113_2, c113_2, e113, hx113_0, hx113_1, hx113_2, hl113_2, hi113_2⟩ := at_T40 HR0_1.out x5_3 p113 q113
            cases e113
            replace hx113_0 := (HB.out.cell (World.block_lt_of_cell? w _ hx113_0)).trans hx113_0
            replace hx113_1 := (HB.out.cell (World.block_lt_of_cell? w _ hx113_1)).trans hx113_1
            replace hx113_2 := (HB.out.cell (World.block_lt_of_cell? w _ hx113_2)).trans hx113_2
            have HR113_2 := gA hi113_2
            have HC113_2 := gA hl113_2
            clear hi113_2 hl113_2
            replace p113 := eq_true p113
            replace q113 := eq_true q113
            have p114 : 0 ≤ (x5_3 : Int) := of_decide_eq_true (by assumption)
            have q114 : x5_3 < (l0_1.length : Int) := of_decide_eq_true (by assumption)
            obtain ⟨ad114, A114_2, c114_2, e114, hx114_0, hx114_1, hx114_2, hl114_2, hi114_2⟩ := at_T40 HR0_1.out x5_3 p114 q114
            obtain rfl : ad113 = ad114 := (by injection e114)
            replace hx114_0 := (HB.out.cell (World.block_lt_of_cell? w _ hx114_0)).trans hx114_0
            replace hx114_1 := (HB.out.cell (World.block_lt_of_cell? w _ hx114_1)).trans hx114_1
            replace hx114_2 := (HB.out.cell (World.block_lt_of_cell? w _ hx114_2)).trans hx114_2
            have HR114_2 := gA hi114_2
            have HC114_2 := gA hl114_2
            clear hi114_2 hl114_2
            replace p114 := eq_true p114
            replace q114 := eq_true q114
            have ea_ := Option.some.inj (hx113_2.symm.trans hx114_2)
            injection ea_ with ea_ en_ ec_
            subst ea_
            subst ec_
            clear en_
            have p115 : 0 ≤ (0 : Int) := (by omega)
            have q115 : 0 < (((rd_T40 l0_1 x5_3).f2).length : Int) := of_decide_eq_true (by assumption)
            obtain ⟨ad115, A115_0, c115_0, A115_1, c115_1, e115, hx115_0, hx115_1, hl115_0, hi115_0, hl115_1, hi115_1⟩ := at_T25 HR114_2.out 0 p115 q115
            cases e115
            have qi115 : (0 < ((rd_T40 l0_1 x5_3).f2).length) = True := eq_true (by omega)
            (try rw [show ((0 : Int)).toNat = 0 from rfl] at hx115_0)
            (try rw [show 0 * 2 = 0 from rfl] at hx115_0)
            (try rw [Addr.add_zero'] at hx115_0)
            (try rw [show ((0 : Int)).toNat = 0 from rfl] at hx115_1)
            (try rw [show 0 * 2 = 0 from rfl] at hx115_1)
            (try rw [Addr.add_zero'] at hx115_1)
            replace hx115_0 := (HB.out.cell (World.block_lt_of_cell? w _ hx115_0)).trans hx115_0
            replace hx115_1 := (HB.out.cell (World.block_lt_of_cell? w _ hx115_1)).trans hx115_1
            have HR115_0 := gA hi115_0
            have HC115_0 := gA hl115_0
            clear hi115_0 hl115_0
            have HR115_1 := gA hi115_1
            have HC115_1 := gA hl115_1
            clear hi115_1 hl115_1
            replace p115 := eq_true p115
            replace q115 := eq_true q115
            go_wp2_with (first | (go_at_call 6; (with_reducible refine (ih k3 (by have := HK1.out; have := HJ2.out; have := HK3.out; omega) _ _ ((rd_T25 ((rd_T40 l0_1 x5_3).f2) 0).f0) _ _ ((rd_T25 ((rd_T40 l0_1 x5_3).f2) 0).f1) false _ ?side1 ?side2 ?side3 ?side4 A29.out).mono ?_); (case side1 => exact gC HR115_0 HB); (case side2 => exact HC115_0.out); (case side3 => exact gC HR115_1 HB); (case side4 => exact HC115_1.out); rintro e w34 ⟨rfl, hb⟩; replace BK108 := gA (blk_below (gK BK108) hb); replace HB := gA (below_step (gB HB) hb); (try clear hb)))
            go_ret
            exact ⟨rfl, by repeat first | exact gB HB | refine below_set ?_ GE108.out⟩
          ·rw [if_neg c27] at H
           have c27b0 : ((((rd_T40 l0_1 x5_3).f2).length : Int) == 1) = false := beq_eq_false_iff_ne.mpr c27
           have c27b1 : ((((rd_T40 l0_1 x5_3).f2).length : Int) != 1) = true := bne_iff_ne.mpr c27
           have H' := gA H
           clear H
           obtain ⟨hcz35_0, hcz35_1, hfz35_0, hfz35_1⟩ := gz2 BK108
           have p113 : 0 ≤ (x5_3 : Int) := of_decide_eq_true (by assumption)
           have q113 : x5_3 < (l0_1.length : Int) := of_decide_eq_true (by assumption)
           obtain ⟨ad113, A113_2, c113_2, e113, hx113_0, hx113_1, hx113_2, hl113_2, hi113_2⟩ := at_T40 HR0_1.out x5_3 p113 q113
           cases e113
           replace hx113_0 := (HB.out.cell (World.block_lt_of_cell? w _ hx113_0)).trans hx113_0
           replace hx113_1 := (HB.out.cell (World.block_lt_of_cell? w _ hx113_1)).trans hx113_1
           replace hx113_2 := (HB.out.cell (World.block_lt_of_cell? w _ hx113_2)).trans hx113_2
           have HR113_2 := gA hi113_2
           have HC113_2 := gA hl113_2
           clear hi113_2 hl113_2
           replace p113 := eq_true p113
           replace q113 := eq_true q113
           go_wp2
           go_roundg k3
           case measure => have := HK1.out; have := HJ2.out; have := HK3.out; omega
           case rel => exact ⟨(wrap64 (x5_3 + 1)), (rfl), H', ⟨by have := HK1.out; have := HJ2.out; have := HK3.out; omega⟩, ⟨gK BK108⟩, ⟨gB HB⟩⟩
         ·rw [if_neg c25] at H
          have c25b0 := decide_eq_false c25
          clear c25
          obtain rfl := Option.some.inj H
          obtain ⟨hcz36_0, hcz36_1, hfz36_0, hfz36_1⟩ := gz2 BK108
          go_wp2
          go_ret
          exact ⟨rfl, by repeat first | exact gB HB | refine below_set ?_ GE108.out⟩
mutual
def arr_Size.l0 : Nat → List Int → Int → Bool → List Int → Int → Int → Option (Int × Int)
 | 0, _, _, _, _, _, _ => none
 | k + 1, x0, x4, x5, x13, x14, x15 => if x15 < x14 then (if 0 ≤ x15 then (if x15 < (x13.length : Int) then (if (rd x13 x15) < 0 then (some (0, 1)) else (if x5 = true then (arr_Size.l0 k x0 x4 true x13 x14 (wrap64 (x15 + 1))) else (arr_Size.l0 k x0 x4 ((rd x13 x15) == 0) x13 x14 (wrap64 (x15 + 1))))) else (none)) else (none)) else (if x5 = true then (some (0, 0)) else (arr_Size.l1 k x4 x0 (x0.length : Int) 0))
def arr_Size.l1 : Nat → Int → List Int → Int → Int → Option (Int × Int)
 | 0, _, _, _, _ => none
 | k + 1, x4, x28, x29, x30 => if x30 < x29 then (if 0 ≤ x30 then (if x30 < (x28.length : Int) then (if x4 = 0 then (none) else (if (rd x28 x30) > (wrap64 (Int.tdiv (16384 : Int) x4)) then (some (0, 12)) else (arr_Size.l1 k (wrap64 (x4 * (rd x28 x30))) x28 x29 (wrap64 (x30 + 1))))) else (none)) else (none)) else (some (x4, 0))
end
def arr_Size.f (k : Nat) (l0 : List Int) : Option (Int × Int) := if (l0.length : Int) > 8 then (some (0, 6)) else (arr_Size.l0 k l0 1 false l0 (l0.length : Int) 0)
theorem arr_Size.mono_l : ∀ k, (∀ y0 y1 y2 y3 y4 y5, LeO (arr_Size.l0 k y0 y1 y2 y3 y4 y5) (arr_Size.l0 (k + 1) y0 y1 y2 y3 y4 y5)) ∧ (∀ y0 y1 y2 y3, LeO (arr_Size.l1 k y0 y1 y2 y3) (arr_Size.l1 (k + 1) y0 y1 y2 y3))
 | 0 => ⟨fun _ _ _ _ _ _ r h => by simp [arr_Size.l0] at h, fun _ _ _ _ r h => by simp [arr_Size.l1] at h⟩
 | k + 1 => by
  obtain ⟨ih0, ih1⟩ := arr_Size.mono_l k
  refine ⟨?_, ?_⟩
  ·intro y0 y1 y2 y3 y4 y5
   unfold arr_Size.l0
   repeat' first
   | (with_reducible exact ih0 _ _ _ _ _ _)
   | (with_reducible exact ih1 _ _ _ _)
   | (with_reducible exact LeO.refl _)
   | (with_reducible exact LeO.none _)
   | (with_reducible refine LeO.ite ?_ ?_)
   | (with_reducible refine LeO.bind ?_ (fun _ => ?_))





  ·intro y0 y1 y2 y3
   unfold arr_Size.l1
   repeat' first
   | (with_reducible exact ih0 _ _ _ _ _ _)
   | (with_reducible exact ih1 _ _ _ _)
   | (with_reducible exact LeO.refl _)
   | (with_reducible exact LeO.none _)
   | (with_reducible refine LeO.ite ?_ ?_)
   | (with_reducible refine LeO.bind ?_ (fun _ => ?_))
theorem arr_Size.mono : ∀ a0 k, LeO (arr_Size.f k a0) (arr_Size.f (k + 1) a0) := by
 intro a0 k
 obtain ⟨ih0, ih1⟩ := arr_Size.mono_l k
 unfold arr_Size.f
 repeat' first
   | (with_reducible exact ih0 _ _ _ _ _ _)
   | (with_reducible exact ih1 _ _ _ _)
   | (with_reducible exact LeO.refl _)
   | (with_reducible exact LeO.none _)
   | (with_reducible refine LeO.ite ?_ ?_)
   | (with_reducible refine LeO.bind ?_ (fun _ => ?_))
set_option maxHeartbeats 8000000 in
set_option maxRecDepth 100000 in
theorem arr_Size.calls (k : Nat) (A0 : Option Addr) (c0 : Nat) (l0 : List Int) (r1 : Int) (r2 : Int) (w : World) (hr0 : Kd.C (Kd.int .i64) w A0 l0.length l0) (hc0 : l0.length ≤ c0) (h : arr_Size.f k l0 = some (r1, r2)) :
  Calls Try.prog 28 #[.slice A0 l0.length c0] w fun e w' => e = .returned (.tuple #[.int .i64 r1, .int .i64 r2]) ∧ Drawn0 w w' := by
 have HR0 := gA hr0
 have HC0 := gA hc0
 clear hr0 hc0
 have H : (if (l0.length : Int) > 8 then (some (0, 6)) else (arr_Size.l0 k l0 1 false l0 (l0.length : Int) 0)) = some (r1, r2) := h
 clear h
 by_cases c2 : (l0.length : Int) > 8
 ·rw [if_pos c2] at H
  have c2b0 : decide (8 < (l0.length : Int)) = true := decide_eq_true c2
  have c2b1 : decide (8 < l0.length) = true := decide_eq_true (by omega)
  clear c2
  simp only [Option.some.injEq, Prod.mk.injEq] at H
  obtain ⟨rfl, rfl⟩ := H
  go_enter Try.func28, Try.ntmps28
  go_wp2
  go_ret2
  exact ⟨rfl, by repeat (first | exact Drawn0.refl _ | apply Drawn0.step)⟩
 ·rw [if_neg c2] at H
  have c2b0 : decide (8 < (l0.length : Int)) = false := decide_eq_false c2
  have c2b1 : decide (8 < l0.length) = false := decide_eq_false (by omega)
  clear c2
  have H' := gA H
  clear H
  go_enter Try.func28, Try.ntmps28
  go_wp2
  go_loopg [5, 15] k (fun kq v5 v15 w' => ∃ (x5_1 : Bool) (x15_1 : Int), v5 = .bool x5_1 ∧ v15 = .int .i64 x15_1 ∧ Aside0 (arr_Size.l0 kq l0 1 x5_1 l0 (l0.length : Int) x15_1 = some (r1, r2)) ∧ Aside0 (kq ≤ k) ∧ Drawn0 w w')
  case atStart => exact ⟨(false), (0), (rfl), (rfl), H', ⟨Nat.le_refl _⟩, by repeat (first | exact Drawn0.refl _ | apply Drawn0.step)⟩
  case round =>
   clear H'
   try clear c2
   try clear c2b0
   try clear c2b1
   try clear p2
   obtain ⟨x5_1, x15_1, rfl, rfl, HA, HK1, ⟨m1, rfl⟩⟩ := hrel
   cases gk with
   | zero => exact absurd HA.out (by simp [arr_Size.l0])
   | succ k1 =>
    have H := HA.out; clear HA
    simp only [arr_Size.l0] at H
    by_cases c3 : x15_1 < (l0.length : Int)
    ·rw [if_pos c3] at H
     have c3b0 := decide_eq_true c3
     clear c3
     obtain ⟨c4, H⟩ := iS H
     have c4b0 := decide_eq_true c4
     clear c4
     obtain ⟨c5, H⟩ := iS H
     have c5b0 := decide_eq_true c5
     clear c5
     by_cases c6 : (rd l0 x15_1) < 0
     ·rw [if_pos c6] at H
      have c6b0 := decide_eq_true c6
      clear c6
      simp only [Option.some.injEq, Prod.mk.injEq] at H
      obtain ⟨rfl, rfl⟩ := H
      have p117 : 0 ≤ (x15_1 : Int) := of_decide_eq_true (by assumption)
      have q117 : x15_1 < (l0.length : Int) := of_decide_eq_true (by assumption)
      obtain ⟨ad117, e117, hx117_0⟩ := Kd.at_int HR0.out x15_1 p117 q117
      cases e117
      replace p117 := eq_true p117
      replace q117 := eq_true q117
      go_wp2
      go_ret2
      exact ⟨rfl, by repeat (first | exact Drawn0.refl _ | apply Drawn0.step)⟩
     ·rw [if_neg c6] at H
      have c6b0 := decide_eq_false c6
      clear c6
      by_cases c7 : x5_1 = true
      ·subst c7
       have H1 : (arr_Size.l0 k1 l0 1 true l0 (l0.length : Int) (wrap64 (x15_1 + 1))) = some (r1, r2) := by rw [if_pos rfl] at H; exact H
       clear H; have H := H1; clear H1
       have H' := gA H
       clear H
       have p117 : 0 ≤ (x15_1 : Int) := of_decide_eq_true (by assumption)
       have q117 : x15_1 < (l0.length : Int) := of_decide_eq_true (by assumption)
       obtain ⟨ad117, e117, hx117_0⟩ := Kd.at_int HR0.out x15_1 p117 q117
       cases e117
       replace p117 := eq_true p117
       replace q117 := eq_true q117
       go_wp2
       go_roundg k1
       case measure => have := HK1.out; omega
       case rel => exact ⟨(true), (wrap64 (x15_1 + 1)), (rfl), (rfl), H', ⟨by have := HK1.out; omega⟩, by repeat (first | exact Drawn0.refl _ | apply Drawn0.step)⟩
      ·replace c7 := Bool.eq_false_iff.mpr c7
       subst c7
       have H1 : (arr_Size.l0 k1 l0 1 ((rd l0 x15_1) == 0) l0 (l0.length : Int) (wrap64 (x15_1 + 1))) = some (r1, r2) := by rw [if_neg (show ¬ (false = true) by decide)] at H; exact H
       clear H; have H := H1; clear H1
       have H' := gA H
       clear H
       have p117 : 0 ≤ (x15_1 : Int) := of_decide_eq_true (by assumption)
       have q117 : x15_1 < (l0.length : Int) := of_decide_eq_true (by assumption)
       obtain ⟨ad117, e117, hx117_0⟩ := Kd.at_int HR0.out x15_1 p117 q117
       cases e117
       replace p117 := eq_true p117
       replace q117 := eq_true q117
       go_wp2
       go_roundg k1
       case measure => have := HK1.out; omega
       case rel => exact ⟨(((rd l0 x15_1) == 0)), (wrap64 (x15_1 + 1)), (rfl), (rfl), H', ⟨by have := HK1.out; omega⟩, by repeat (first | exact Drawn0.refl _ | apply Drawn0.step)⟩
    ·rw [if_neg c3] at H
     have c3b0 := decide_eq_false c3
     clear c3
     by_cases c8 : x5_1 = true
     ·subst c8
      have H1 : (some (0, 0)) = some (r1, r2) := by rw [if_pos rfl] at H; exact H
      clear H; have H := H1; clear H1
      simp only [Option.some.injEq, Prod.mk.injEq] at H
      obtain ⟨rfl, rfl⟩ := H
      go_wp2
      go_ret2
      exact ⟨rfl, by repeat (first | exact Drawn0.refl _ | apply Drawn0.step)⟩
     ·replace c8 := Bool.eq_false_iff.mpr c8
      subst c8
      have H1 : (arr_Size.l1 k1 1 l0 (l0.length : Int) 0) = some (r1, r2) := by rw [if_neg (show ¬ (false = true) by decide)] at H; exact H
      clear H; have H := H1; clear H1
      have H' := gA H
      clear H
      go_wp2
      go_loopg [4, 30] k1 (fun kq v4 v30 w' => ∃ (x4_2 : Int) (x30_2 : Int), v4 = .int .i64 x4_2 ∧ v30 = .int .i64 x30_2 ∧ Aside0 (arr_Size.l1 kq x4_2 l0 (l0.length : Int) x30_2 = some (r1, r2)) ∧ Aside0 (kq ≤ k1) ∧ Drawn0 w w')
      case atStart => exact ⟨(1), (0), (rfl), (rfl), H', ⟨Nat.le_refl _⟩, by repeat (first | exact Drawn0.refl _ | apply Drawn0.step)⟩
      case round =>
       clear H'
       try clear p1
       try clear q1
       try clear hx1
       try clear c2
       try clear c2b0
       try clear c2b1
       try clear p2
       try clear c3
       try clear c3b0
       try clear c4
       try clear c4b0
       try clear c5
       try clear c5b0
       try clear c6
       try clear c6b0
       try clear p6
       try clear c7
       try clear c8
       try clear hx117_0
       try clear p117
       try clear p2
       try clear q117
       obtain ⟨x4_2, x30_2, rfl, rfl, HA, HK2, ⟨m2, rfl⟩⟩ := hrel
       cases gk with
       | zero => exact absurd HA.out (by simp [arr_Size.l1])
       | succ k2 =>
        have H := HA.out; clear HA
        simp only [arr_Size.l1] at H
        by_cases c9 : x30_2 < (l0.length : Int)
        ·rw [if_pos c9] at H
         have c9b0 := decide_eq_true c9
         clear c9
         obtain ⟨c10, H⟩ := iS H
         have c10b0 := decide_eq_true c10
         clear c10
         obtain ⟨c11, H⟩ := iS H
         have c11b0 := decide_eq_true c11
         clear c11
         obtain ⟨c12, H⟩ := iN H
         have c12b0 : (x4_2 == 0) = false := beq_eq_false_iff_ne.mpr c12
         have c12b1 : (x4_2 != 0) = true := bne_iff_ne.mpr c12
         by_cases c13 : (rd l0 x30_2) > (wrap64 (Int.tdiv (16384 : Int) x4_2))
         ·rw [if_pos c13] at H
          have c13b0 : decide ((wrap64 (Int.tdiv (16384 : Int) x4_2)) < (rd l0 x30_2)) = true := decide_eq_true c13
          clear c13
          simp only [Option.some.injEq, Prod.mk.injEq] at H
          obtain ⟨rfl, rfl⟩ := H
          have p118 : 0 ≤ (x30_2 : Int) := of_decide_eq_true (by assumption)
          have q118 : x30_2 < (l0.length : Int) := of_decide_eq_true (by assumption)
          obtain ⟨ad118, e118, hx118_0⟩ := Kd.at_int HR0.out x30_2 p118 q118
          cases e118
          replace p118 := eq_true p118
          replace q118 := eq_true q118
          go_wp2
          go_ret2
          exact ⟨rfl, by repeat (first | exact Drawn0.refl _ | apply Drawn0.step)⟩
         ·rw [if_neg c13] at H
          have c13b0 : decide ((wrap64 (Int.tdiv (16384 : Int) x4_2)) < (rd l0 x30_2)) = false := decide_eq_false c13
          clear c13
          have H' := gA H
          clear H
          have p118 : 0 ≤ (x30_2 : Int) := of_decide_eq_true (by assumption)
          have q118 : x30_2 < (l0.length : Int) := of_decide_eq_true (by assumption)
          obtain ⟨ad118, e118, hx118_0⟩ := Kd.at_int HR0.out x30_2 p118 q118
          cases e118
          replace p118 := eq_true p118
          replace q118 := eq_true q118
          go_wp2
          go_roundg k2
          case measure => have := HK1.out; have := HK2.out; omega
          case rel => exact ⟨(wrap64 (x4_2 * (rd l0 x30_2))), (wrap64 (x30_2 + 1)), (rfl), (rfl), H', ⟨by have := HK1.out; have := HK2.out; omega⟩, by repeat (first | exact Drawn0.refl _ | apply Drawn0.step)⟩
        ·rw [if_neg c9] at H
         have c9b0 := decide_eq_false c9
         clear c9
         simp only [Option.some.injEq, Prod.mk.injEq] at H
         obtain ⟨rfl, rfl⟩ := H
         go_wp2
         go_ret2
         exact ⟨rfl, by repeat (first | exact Drawn0.refl _ | apply Drawn0.step)⟩
end Go.Proofs.Ytbijepjnbolpiaa.P
