/- Written by a program of this session: the functions that the laws reach, what each comes to, and each law as it is stated, for every input. No condition. -/
import Derived.Test.YtfblidojoepcpaaPx0
namespace Go.Proofs.Ytfblidojoepcpaa.P
open Go.RowKit Go.Proofs.YtfblidojoepcpaaW.PrintWords Go.Proofs.YtfblidojoepcpaaW.PrintLast Go.Proofs.YtfblidojoepcpaaW.PrintMore
attribute [local go_sem] max2_int min2_int max_two min_two max_three min_three max_four min_four   -- for this text's walks alone
set_option linter.unusedVariables false
set_option linter.unusedSimpArgs false
mutual
def triglyphref03_weight.l0 : Nat → Int → Int → Int → Int → List Int → List (S52) → Option (Int)
 | 0, _, _, _, _, _, _ => none
 | k + 1, x1, x2, x7, x8, x135000, x135001 => if x8 < (x135001.length : Int) then (triglyphref03_weight.j1 k x1 x2 x7 x8 (decide (x7 ≤ x1)) x135000 x135001) else (triglyphref03_weight.j1 k x1 x2 x7 x8 false x135000 x135001)
def triglyphref03_weight.j1 : Nat → Int → Int → Int → Int → Bool → List Int → List (S52) → Option (Int)
 | 0, _, _, _, _, _, _, _ => none
 | k + 1, x1, x2, x7, x8, x26, x135000, x135001 => if x26 = true then (triglyphref03_weight.l1 k x1 x2 x7 x8 0 x135000 x135001) else (some x7)
def triglyphref03_weight.l1 : Nat → Int → Int → Int → Int → Int → List Int → List (S52) → Option (Int)
 | 0, _, _, _, _, _, _, _ => none
 | k + 1, x1, x2, x7, x8, x9, x135000, x135001 => if 0 ≤ x8 then (if x8 < (x135001.length : Int) then (if x9 < (((rd_T52 x135001 x8).f2).length : Int) then (triglyphref03_weight.j3 k x1 x2 x7 x8 x9 (decide (x7 ≤ x1)) x135000 x135001) else (triglyphref03_weight.j3 k x1 x2 x7 x8 x9 false x135000 x135001)) else (none)) else (none)
def triglyphref03_weight.j3 : Nat → Int → Int → Int → Int → Int → Bool → List Int → List (S52) → Option (Int)
 | 0, _, _, _, _, _, _, _, _ => none
 | k + 1, x1, x2, x7, x8, x9, x42, x135000, x135001 => if x42 = true then (if x2 = 0 then (some (wrap64 (x1 + 1))) else (if 0 ≤ x8 then (if x8 < (x135001.length : Int) then (if 0 ≤ x9 then (if x9 < (((rd_T52 x135001 x8).f2).length : Int) then ((triglyphref03_weight.f k ((rd_T25 ((rd_T52 x135001 x8).f2) x9).f0) ((rd_T25 ((rd_T52 x135001 x8).f2) x9).f1) (wrap64 (x1 - x7)) (wrap64 (x2 - 1))).bind fun t138 => (triglyphref03_weight.l1 k x1 x2 (wrap64 ((wrap64 (x7 + 1)) + t138)) x8 (wrap64 (x9 + 1)) x135000 x135001)) else (none)) else (none)) else (none)) else (none))) else (triglyphref03_weight.l0 k x1 x2 x7 (wrap64 (x8 + 1)) x135000 x135001)
def triglyphref03_weight.f : Nat → List Int → List (S52) → Int → Int → Option (Int)
 | 0, _, _, _, _ => none
 | k + 1, l0_0, l0_1, a1, a2 => triglyphref03_weight.l0 k a1 a2 (wrap64 ((l0_1.length : Int) + (l0_0.length : Int))) 0 l0_0 l0_1
end
theorem triglyphref03_weight.mono_l : ∀ k, (∀ y0 y1 y2 y3, LeO (triglyphref03_weight.f k y0 y1 y2 y3) (triglyphref03_weight.f (k + 1) y0 y1 y2 y3)) ∧ (∀ y0 y1 y2 y3 y4 y5, LeO (triglyphref03_weight.l0 k y0 y1 y2 y3 y4 y5) (triglyphref03_weight.l0 (k + 1) y0 y1 y2 y3 y4 y5)) ∧ (∀ y0 y1 y2 y3 y4 y5 y6, LeO (triglyphref03_weight.j1 k y0 y1 y2 y3 y4 y5 y6) (triglyphref03_weight.j1 (k + 1) y0 y1 y2 y3 y4 y5 y6)) ∧ (∀ y0 y1 y2 y3 y4 y5 y6, LeO (triglyphref03_weight.l1 k y0 y1 y2 y3 y4 y5 y6) (triglyphref03_weight.l1 (k + 1) y0 y1 y2 y3 y4 y5 y6)) ∧ (∀ y0 y1 y2 y3 y4 y5 y6 y7, LeO (triglyphref03_weight.j3 k y0 y1 y2 y3 y4 y5 y6 y7) (triglyphref03_weight.j3 (k + 1) y0 y1 y2 y3 y4 y5 y6 y7))
 | 0 => ⟨fun _ _ _ _ r h => by simp [triglyphref03_weight.f] at h, fun _ _ _ _ _ _ r h => by simp [triglyphref03_weight.l0] at h, fun _ _ _ _ _ _ _ r h => by simp [triglyphref03_weight.j1] at h, fun _ _ _ _ _ _ _ r h => by simp [triglyphref03_weight.l1] at h, fun _ _ _ _ _ _ _ _ r h => by simp [triglyphref03_weight.j3] at h⟩
 | k + 1 => by
  obtain ⟨ih0, ih1, ih2, ih3, ih4⟩ := triglyphref03_weight.mono_l k
  refine ⟨?_, ?_, ?_, ?_, ?_⟩
  ·intro y0 y1 y2 y3
   unfold triglyphref03_weight.f
   repeat' first
   | (with_reducible exact ih0 _ _ _ _)
   | (with_reducible exact ih1 _ _ _ _ _ _)
   | (with_reducible exact ih2 _ _ _ _ _ _ _)
   | (with_reducible exact ih3 _ _ _ _ _ _ _)
   | (with_reducible exact ih4 _ _ _ _ _ _ _ _)
   | (with_reducible exact LeO.refl _)
   | (with_reducible exact LeO.none _)
   | (with_reducible refine LeO.ite ?_ ?_)
   | (with_reducible refine LeO.bind ?_ (fun _ => ?_))








  ·intro y0 y1 y2 y3 y4 y5
   unfold triglyphref03_weight.l0
   repeat' first
   | (with_reducible exact ih0 _ _ _ _)
   | (with_reducible exact ih1 _ _ _ _ _ _)
   | (with_reducible exact ih2 _ _ _ _ _ _ _)
   | (with_reducible exact ih3 _ _ _ _ _ _ _)
   | (with_reducible exact ih4 _ _ _ _ _ _ _ _)
   | (with_reducible exact LeO.refl _)
   | (with_reducible exact LeO.none _)
   | (with_reducible refine LeO.ite ?_ ?_)
   | (with_reducible refine LeO.bind ?_ (fun _ => ?_))








  ·intro y0 y1 y2 y3 y4 y5 y6
   unfold triglyphref03_weight.j1
   repeat' first
   | (with_reducible exact ih0 _ _ _ _)
   | (with_reducible exact ih1 _ _ _ _ _ _)
   | (with_reducible exact ih2 _ _ _ _ _ _ _)
   | (with_reducible exact ih3 _ _ _ _ _ _ _)
   | (with_reducible exact ih4 _ _ _ _ _ _ _ _)
   | (with_reducible exact LeO.refl _)
   | (with_reducible exact LeO.none _)
   | (with_reducible refine LeO.ite ?_ ?_)
   | (with_reducible refine LeO.bind ?_ (fun _ => ?_))








  ·intro y0 y1 y2 y3 y4 y5 y6
   unfold triglyphref03_weight.l1
   repeat' first
   | (with_reducible exact ih0 _ _ _ _)
   | (with_reducible exact ih1 _ _ _ _ _ _)
   | (with_reducible exact ih2 _ _ _ _ _ _ _)
   | (with_reducible exact ih3 _ _ _ _ _ _ _)
   | (with_reducible exact ih4 _ _ _ _ _ _ _ _)
   | (with_reducible exact LeO.refl _)
   | (with_reducible exact LeO.none _)
   | (with_reducible refine LeO.ite ?_ ?_)
   | (with_reducible refine LeO.bind ?_ (fun _ => ?_))








  ·intro y0 y1 y2 y3 y4 y5 y6 y7
   unfold triglyphref03_weight.j3
   repeat' first
   | (with_reducible exact ih0 _ _ _ _)
   | (with_reducible exact ih1 _ _ _ _ _ _)
   | (with_reducible exact ih2 _ _ _ _ _ _ _)
   | (with_reducible exact ih3 _ _ _ _ _ _ _)
   | (with_reducible exact ih4 _ _ _ _ _ _ _ _)
   | (with_reducible exact LeO.refl _)
   | (with_reducible exact LeO.none _)
   | (with_reducible refine LeO.ite ?_ ?_)
   | (with_reducible refine LeO.bind ?_ (fun _ => ?_))
theorem triglyphref03_weight.mono : ∀ a0 a1 a2 a3 k, LeO (triglyphref03_weight.f k a0 a1 a2 a3) (triglyphref03_weight.f (k + 1) a0 a1 a2 a3) := by
 intro a0 a1 a2 a3 k
 obtain ⟨ih0, ih1, ih2, ih3, ih4⟩ := triglyphref03_weight.mono_l k
 exact ih0 a0 a1 a2 a3
set_option maxHeartbeats 8000000 in
set_option maxRecDepth 100000 in
theorem triglyphref03_weight.calls (k : Nat) : ∀ (A0_0 : Option Addr) (c0_0 : Nat) (l0_0 : List Int) (A0_1 : Option Addr) (c0_1 : Nat) (l0_1 : List (S52)) (a1 : Int) (a2 : Int) (r : Int) (w : World) (hr0_0 : Kd.C (Kd.int .i64) w A0_0 l0_0.length l0_0) (hc0_0 : l0_0.length ≤ c0_0) (hr0_1 : Kd.C k52 w A0_1 l0_1.length l0_1) (hc0_1 : l0_1.length ≤ c0_1) (h : triglyphref03_weight.f k l0_0 l0_1 a1 a2 = some r),
  Calls Try.prog 27 #[.agg #[.slice A0_0 l0_0.length c0_0, .slice A0_1 l0_1.length c0_1], .int .i64 a1, .int .i64 a2] w fun e w' => e = .returned (.int .i64 r) ∧ Below w.heap.size w w' := by
 induction k using Nat.strongRecOn with
 | _ k ih =>
 intro A0_0 c0_0 l0_0 A0_1 c0_1 l0_1 a1 a2 r w hr0_0 hc0_0 hr0_1 hc0_1 h
 cases k with
 | zero => exact absurd h (by simp [triglyphref03_weight.f])
 | succ k =>
 simp only [triglyphref03_weight.f] at h
 have hu25 := Try.underlying25
 have HR0_0 := gA hr0_0
 have HC0_0 := gA hc0_0
 clear hr0_0 hc0_0
 have HR0_1 := gA hr0_1
 have HC0_1 := gA hc0_1
 clear hr0_1 hc0_1
 have HB := gA (Below.refl w.heap.size w)
 have H : (triglyphref03_weight.l0 k a1 a2 (wrap64 ((l0_1.length : Int) + (l0_0.length : Int))) 0 l0_0 l0_1) = some r := h
 clear h
 have H' := gA H
 clear H
 go_enter Try.func27, Try.ntmps27
 go_wp2_with (first | ((with_reducible refine gate_dst (N := 3) rfl ?_); refine box_event ?hg (N := 3) ?hd (cs := #[.slice A0_0 l0_0.length c0_0, .slice A0_1 l0_1.length c0_1]) (t := 25) ?hr ?_; (case hd => rfl); (case hg => rfl); (case hr => first | (go_simp; done) | (go_simp; rfl)); intro gb134 hg w4 hbox hb; have BK134 := gA (hbox); have GW134 := gA ((by rw [hg]; exact (below_size (gB HB)) : w.heap.size ≤ gb134)); have GE134 := gA ((by rw [hg]; exact (below_size (gB HB)) : w.heap.size ≤ gb134)); replace HB := gA (below_step (gB HB) hb); clear hb hbox hg; obtain ⟨hcz5_0, hcz5_1, hfz5_0, hfz5_1⟩ := gz2 BK134))
 go_loopg [7, 8] k (fun kq v7 v8 w' => ∃ (x7_1 : Int) (x8_1 : Int), v7 = .int .i64 x7_1 ∧ v8 = .int .i64 x8_1 ∧ Aside0 (triglyphref03_weight.l0 kq a1 a2 x7_1 x8_1 l0_0 l0_1 = some r) ∧ Aside0 (kq ≤ k) ∧ Aside0 (w'.heap[gb134]? = some (.cells #[(.slice A0_0 l0_0.length c0_0), (.slice A0_1 l0_1.length c0_1)] 25 (0, 0))) ∧ Aside0 (Below w.heap.size w w'))
 case atStart => exact ⟨(wrap64 ((l0_1.length : Int) + (l0_0.length : Int))), (0), (rfl), (rfl), H', ⟨Nat.le_refl _⟩, ⟨gK BK134⟩, ⟨by repeat first | exact gB HB | refine below_set ?_ GE134.out⟩⟩
 case round =>
  clear H'
  try clear c2
  try clear p2
  try clear hcz5_0
  try clear hcz5_1
  try clear hfz5_0
  try clear hfz5_1
  obtain ⟨x7_1, x8_1, rfl, rfl, HA, HK1, BK134, HB⟩ := hrel
  cases gk with
  | zero => exact absurd HA.out (by simp [triglyphref03_weight.l0])
  | succ k1 =>
   have H := HA.out; clear HA
   simp only [triglyphref03_weight.l0] at H
   have HC6 := gA H
   clear H
   go_upto_region 3 with (fail)
   go_cut [26] (fun v26 wc => ∃ (kq : Nat) (x26_5 : Bool), v26 = .bool x26_5 ∧ Aside0 (triglyphref03_weight.j1 kq a1 a2 x7_1 x8_1 x26_5 l0_0 l0_1 = some r) ∧ Aside0 (kq ≤ k1) ∧ Aside0 (wc.heap[gb134]? = some (.cells #[(.slice A0_0 l0_0.length c0_0), (.slice A0_1 l0_1.length c0_1)] 25 (0, 0))) ∧ Aside0 (Below w.heap.size w wc))
   case first =>
    have H := HC6.out; clear HC6
    by_cases c7 : x8_1 < (l0_1.length : Int)
    ·rw [if_pos c7] at H
     have c7b0 := decide_eq_true c7
     clear c7
     (first | rw [c7b0] | (simp only [i64_w, i32_w]; rw [c7b0]) | skip)
     have H' := gA H
     clear H
     obtain ⟨hcz8_0, hcz8_1, hfz8_0, hfz8_1⟩ := gz2 BK134
     go_wp2
     all_goals (go_meet; (case rel => exact ⟨_, (decide (x7_1 ≤ a1)), (by first | rfl | (simp; done) | (simp [*]; done) | (exfalso; simp_all; done) | (exfalso; simp_all; omega)), H', ⟨by have := HK1.out; first | omega | exact Nat.le_refl _⟩, ⟨gK BK134⟩, ⟨gB HB⟩⟩))
    ·rw [if_neg c7] at H
     have c7b0 := decide_eq_false c7
     clear c7
     (first | rw [c7b0] | (simp only [i64_w, i32_w]; rw [c7b0]) | skip)
     have H' := gA H
     clear H
     obtain ⟨hcz9_0, hcz9_1, hfz9_0, hfz9_1⟩ := gz2 BK134
     go_wp2
     all_goals (go_meet; (case rel => exact ⟨_, (false), (by first | rfl | (simp; done) | (simp [*]; done) | (exfalso; simp_all; done) | (exfalso; simp_all; omega)), H', ⟨by have := HK1.out; first | omega | exact Nat.le_refl _⟩, ⟨gK BK134⟩, ⟨gB HB⟩⟩))
   case rest =>
    clear HC6
    try clear c2
    try clear p2
    try clear p6
    try clear c7
    try clear c7b0
    try clear hcz5_0
    try clear hcz5_1
    try clear hcz8_0
    try clear hcz8_1
    try clear hcz9_0
    try clear hcz9_1
    try clear hfz5_0
    try clear hfz5_1
    try clear hfz8_0
    try clear hfz8_1
    try clear hfz9_0
    try clear hfz9_1
    try clear p2
    obtain ⟨kq, x26_5, rfl, HA, HJ5, BK134, HB⟩ := hcut
    cases kq with
    | zero => exact absurd HA.out (by simp [triglyphref03_weight.j1])
    | succ kj5 =>
     have H := HA.out; clear HA
     simp only [triglyphref03_weight.j1] at H
     by_cases c10 : x26_5 = true
     ·subst c10
      have H1 : (triglyphref03_weight.l1 kj5 a1 a2 x7_1 x8_1 0 l0_0 l0_1) = some r := by rw [if_pos rfl] at H; exact H
      clear H; have H := H1; clear H1
      have H' := gA H
      clear H
      go_wp2
      go_loopg [7, 9] kj5 (fun kq v7 v9 w' => ∃ (x7_3 : Int) (x9_3 : Int), v7 = .int .i64 x7_3 ∧ v9 = .int .i64 x9_3 ∧ Aside0 (triglyphref03_weight.l1 kq a1 a2 x7_3 x8_1 x9_3 l0_0 l0_1 = some r) ∧ Aside0 (kq ≤ kj5) ∧ Aside0 (w'.heap[gb134]? = some (.cells #[(.slice A0_0 l0_0.length c0_0), (.slice A0_1 l0_1.length c0_1)] 25 (0, 0))) ∧ Aside0 (Below w.heap.size w w'))
      case atStart => exact ⟨(x7_1), (0), (rfl), (rfl), H', ⟨Nat.le_refl _⟩, ⟨gK BK134⟩, ⟨by repeat first | exact gB HB | refine below_set ?_ GE134.out⟩⟩
      case round =>
       clear H'
       try clear c1
       try clear c2
       try clear p2
       try clear p6
       try clear c7
       try clear c7b0
       try clear c10
       try clear hcz5_0
       try clear hcz5_1
       try clear hcz8_0
       try clear hcz8_1
       try clear hcz9_0
       try clear hcz9_1
       try clear hfz5_0
       try clear hfz5_1
       try clear hfz8_0
       try clear hfz8_1
       try clear hfz9_0
       try clear hfz9_1
       try clear p2
       try clear p6
       obtain ⟨x7_3, x9_3, rfl, rfl, HA, HK3, BK134, HB⟩ := hrel
       cases gk with
       | zero => exact absurd HA.out (by simp [triglyphref03_weight.l1])
       | succ k3 =>
        have H := HA.out; clear HA
        simp only [triglyphref03_weight.l1] at H
        have HC11 := gA H
        clear H
        go_upto_region 6 with (fail)
        go_cut [42] (fun v42 wc => ∃ (kq : Nat) (x42_10 : Bool), v42 = .bool x42_10 ∧ Aside0 (triglyphref03_weight.j3 kq a1 a2 x7_3 x8_1 x9_3 x42_10 l0_0 l0_1 = some r) ∧ Aside0 (kq ≤ k3) ∧ Aside0 (wc.heap[gb134]? = some (.cells #[(.slice A0_0 l0_0.length c0_0), (.slice A0_1 l0_1.length c0_1)] 25 (0, 0))) ∧ Aside0 (Below w.heap.size w wc))
        case first =>
         have H := HC11.out; clear HC11
         obtain ⟨c12, H⟩ := iS H
         have c12b0 := decide_eq_true c12
         clear c12
         (first | rw [c12b0] | (simp only [i64_w, i32_w]; rw [c12b0]) | skip)
         obtain ⟨c13, H⟩ := iS H
         have c13b0 := decide_eq_true c13
         clear c13
         by_cases c14 : x9_3 < (((rd_T52 l0_1 x8_1).f2).length : Int)
         ·rw [if_pos c14] at H
          have c14b0 := decide_eq_true c14
          clear c14
          have H' := gA H
          clear H
          obtain ⟨hcz15_0, hcz15_1, hfz15_0, hfz15_1⟩ := gz2 BK134
          have p135 : 0 ≤ (x8_1 : Int) := of_decide_eq_true (by assumption)
          have q135 : x8_1 < (l0_1.length : Int) := of_decide_eq_true (by assumption)
          obtain ⟨ad135, A135_2, c135_2, e135, hx135_0, hx135_1, hx135_2, hl135_2, hi135_2⟩ := at_T52 HR0_1.out x8_1 p135 q135
          cases e135
          replace hx135_0 := (HB.out.cell (World.block_lt_of_cell? w _ hx135_0)).trans hx135_0
          replace hx135_1 := (HB.out.cell (World.block_lt_of_cell? w _ hx135_1)).trans hx135_1
          replace hx135_2 := (HB.out.cell (World.block_lt_of_cell? w _ hx135_2)).trans hx135_2
          have HR135_2 := gA hi135_2
          have HC135_2 := gA hl135_2
          clear hi135_2 hl135_2
          replace p135 := eq_true p135
          replace q135 := eq_true q135
          go_wp2
          all_goals (go_meet; (case rel => exact ⟨_, (decide (x7_3 ≤ a1)), (by first | rfl | (simp; done) | (simp [*]; done) | (exfalso; simp_all; done) | (exfalso; simp_all; omega)), H', ⟨by have := HK1.out; have := HJ5.out; have := HK3.out; first | omega | exact Nat.le_refl _⟩, ⟨gK BK134⟩, ⟨gB HB⟩⟩))
         ·rw [if_neg c14] at H
          have c14b0 := decide_eq_false c14
          clear c14
          have H' := gA H
          clear H
          obtain ⟨hcz16_0, hcz16_1, hfz16_0, hfz16_1⟩ := gz2 BK134
          have p135 : 0 ≤ (x8_1 : Int) := of_decide_eq_true (by assumption)
          have q135 : x8_1 < (l0_1.length : Int) := of_decide_eq_true (by assumption)
          obtain ⟨ad135, A135_2, c135_2, e135, hx135_0, hx135_1, hx135_2, hl135_2, hi135_2⟩ := at_T52 HR0_1.out x8_1 p135 q135
          cases e135
          replace hx135_0 := (HB.out.cell (World.block_lt_of_cell? w _ hx135_0)).trans hx135_0
          replace hx135_1 := (HB.out.cell (World.block_lt_of_cell? w _ hx135_1)).trans hx135_1
          replace hx135_2 := (HB.out.cell (World.block_lt_of_cell? w _ hx135_2)).trans hx135_2
          have HR135_2 := gA hi135_2
          have HC135_2 := gA hl135_2
          clear hi135_2 hl135_2
          replace p135 := eq_true p135
          replace q135 := eq_true q135
          go_wp2
          all_goals (go_meet; (case rel => exact ⟨_, (false), (by first | rfl | (simp; done) | (simp [*]; done) | (exfalso; simp_all; done) | (exfalso; simp_all; omega)), H', ⟨by have := HK1.out; have := HJ5.out; have := HK3.out; first | omega | exact Nat.le_refl _⟩, ⟨gK BK134⟩, ⟨gB HB⟩⟩))
        case rest =>
         clear HC11
         try clear c1
         try clear p1
         try clear q1
         try clear hx1
         try clear c2
         try clear p2
         try clear p6
         try clear c7
         try clear c7b0
         try clear c10
         try clear c12
         try clear c12b0
         try clear c13
         try clear c13b0
         try clear p13
         try clear q13
         try clear hx13
         try clear c14
         try clear c14b0
         try clear hcz15_0
         try clear hcz15_1
         try clear hcz16_0
         try clear hcz16_1
         try clear hcz5_0
         try clear hcz5_1
         try clear hcz8_0
         try clear hcz8_1
         try clear hcz9_0
         try clear hcz9_1
         try clear hfz15_0
         try clear hfz15_1
         try clear hfz16_0
         try clear hfz16_1
         try clear hfz5_0
         try clear hfz5_1
         try clear hfz8_0
         try clear hfz8_1
         try clear hfz9_0
         try clear hfz9_1
         try clear hx135_0
         try clear hx135_1
         try clear hx135_2
         try clear p135
         try clear p2
         try clear p6
         try clear q135
         obtain ⟨kq, x42_10, rfl, HA, HJ10, BK134, HB⟩ := hcut
         cases kq with
         | zero => exact absurd HA.out (by simp [triglyphref03_weight.j3])
         | succ kj10 =>
          have H := HA.out; clear HA
          simp only [triglyphref03_weight.j3] at H
          by_cases c17 : x42_10 = true
          ·subst c17
           have H1 : (if a2 = 0 then (some (wrap64 (a1 + 1))) else (if 0 ≤ x8_1 then (if x8_1 < (l0_1.length : Int) then (if 0 ≤ x9_3 then (if x9_3 < (((rd_T52 l0_1 x8_1).f2).length : Int) then ((triglyphref03_weight.f kj10 ((rd_T25 ((rd_T52 l0_1 x8_1).f2) x9_3).f0) ((rd_T25 ((rd_T52 l0_1 x8_1).f2) x9_3).f1) (wrap64 (a1 - x7_3)) (wrap64 (a2 - 1))).bind fun t138 => (triglyphref03_weight.l1 kj10 a1 a2 (wrap64 ((wrap64 (x7_3 + 1)) + t138)) x8_1 (wrap64 (x9_3 + 1)) l0_0 l0_1)) else (none)) else (none)) else (none)) else (none))) = some r := by rw [if_pos rfl] at H; exact H
           clear H; have H := H1; clear H1
           by_cases c18 : a2 = 0
           ·rw [if_pos c18] at H
            have c18b0 : (a2 == 0) = true := beq_iff_eq.mpr c18
            have c18b1 : (a2 != 0) = false := bne_eq_false_iff_eq.mpr c18
            clear c18
            obtain rfl := Option.some.inj H
            go_wp2
            go_ret
            exact ⟨rfl, by repeat first | exact gB HB | refine below_set ?_ GE134.out⟩
           ·rw [if_neg c18] at H
            have c18b0 : (a2 == 0) = false := beq_eq_false_iff_ne.mpr c18
            have c18b1 : (a2 != 0) = true := bne_iff_ne.mpr c18
            obtain ⟨c19, H⟩ := iS H
            have c19b0 := decide_eq_true c19
            clear c19
            obtain ⟨c20, H⟩ := iS H
            have c20b0 := decide_eq_true c20
            clear c20
            obtain ⟨c21, H⟩ := iS H
            have c21b0 := decide_eq_true c21
            clear c21
            obtain ⟨c22, H⟩ := iS H
            have c22b0 := decide_eq_true c22
            clear c22
            replace H := Option.bind_eq_some_iff.mp H
            obtain ⟨t138, A230, H⟩ := H
            replace H : (triglyphref03_weight.l1 kj10 a1 a2 (wrap64 ((wrap64 (x7_3 + 1)) + t138)) x8_1 (wrap64 (x9_3 + 1)) l0_0 l0_1) = some r := H
            have A23 := gA A230
            clear A230
            have H' := gA H
            clear H
            obtain ⟨hcz24_0, hcz24_1, hfz24_0, hfz24_1⟩ := gz2 BK134
            have p136 : 0 ≤ (x8_1 : Int) := of_decide_eq_true (by assumption)
            have q136 : x8_1 < (l0_1.length : Int) := of_decide_eq_true (by assumption)
            obtain ⟨ad136, A136_2, c136_2, e136, hx136_0, hx136_1, hx136_2, hl136_2, hi136_2⟩ := at_T52 HR0_1.out x8_1 p136 q136
            cases e136
            replace hx136_0 := (HB.out.cell (World.block_lt_of_cell? w _ hx136_0)).trans hx136_0
            replace hx136_1 := (HB.out.cell (World.block_lt_of_cell? w _ hx136_1)).trans hx136_1
            replace hx136_2 := (HB.out.cell (World.block_lt_of_cell? w _ hx136_2)).trans hx136_2
            have HR136_2 := gA hi136_2
            have HC136_2 := gA hl136_2
            clear hi136_2 hl136_2
            replace p136 := eq_true p136
            replace q136 := eq_true q136
            have p137 : 0 ≤ (x9_3 : Int) := of_decide_eq_true (by assumption)
            have q137 : x9_3 < (((rd_T52 l0_1 x8_1).f2).length : Int) := of_decide_eq_true (by assumption)
            obtain ⟨ad137, A137_0, c137_0, A137_1, c137_1, e137, hx137_0, hx137_1, hl137_0, hi137_0, hl137_1, hi137_1⟩ := at_T25 HR136_2.out x9_3 p137 q137
            cases e137
            replace hx137_0 := (HB.out.cell (World.block_lt_of_cell? w _ hx137_0)).trans hx137_0
            replace hx137_1 := (HB.out.cell (World.block_lt_of_cell? w _ hx137_1)).trans hx137_1
            have HR137_0 := gA hi137_0
            have HC137_0 := gA hl137_0
            clear hi137_0 hl137_0
            have HR137_1 := gA hi137_1
            have HC137_1 := gA hl137_1
            clear hi137_1 hl137_1
            replace p137 := eq_true p137
            replace q137 := eq_true q137
            go_wp2_with (first | ((with_reducible refine gate_callee (f := 27) rfl ?_); refine goesL_ (some 65) rfl rfl Try.func27 (by kernel_rfl) rfl #[.agg #[.slice A137_0 ((rd_T25 ((rd_T52 l0_1 x8_1).f2) x9_3).f0).length c137_0, .slice A137_1 ((rd_T25 ((rd_T52 l0_1 x8_1).f2) x9_3).f1).length c137_1], .int .i64 (wrap64 (a1 - x7_3)), .int .i64 (wrap64 (a2 - 1))] rfl (by (try simp only [List.map_toArray, List.map_cons, List.map_nil]); first | done | rfl | (simp only [List.length_drop, List.length_take]; rfl)) ?_; (with_reducible refine (ih kj10 (by have := HK1.out; have := HJ5.out; have := HK3.out; have := HJ10.out; omega) _ _ ((rd_T25 ((rd_T52 l0_1 x8_1).f2) x9_3).f0) _ _ ((rd_T25 ((rd_T52 l0_1 x8_1).f2) x9_3).f1) (wrap64 (a1 - x7_3)) (wrap64 (a2 - 1)) t138 _ ?side1 ?side2 ?side3 ?side4 A23.out).mono ?_); (case side1 => exact gC HR137_0 HB); (case side2 => exact HC137_0.out); (case side3 => exact gC HR137_1 HB); (case side4 => exact HC137_1.out); rintro e w25 ⟨rfl, hb⟩; refine ⟨_, rfl, ?_⟩; replace BK134 := gA (blk_below (gK BK134) hb); replace HB := gA (below_step (gB HB) hb); (try clear hb)))
            go_roundg kj10
            case measure => have := HK1.out; have := HJ5.out; have := HK3.out; have := HJ10.out; omega
            case rel => exact ⟨(wrap64 ((wrap64 (x7_3 + 1)) + t138)), (wrap64 (x9_3 + 1)), (rfl), (rfl), H', ⟨by have := HK1.out; have := HJ5.out; have := HK3.out; have := HJ10.out; omega⟩, ⟨gK BK134⟩, ⟨gB HB⟩⟩
          ·replace c17 := Bool.eq_false_iff.mpr c17
           subst c17
           have H1 : (triglyphref03_weight.l0 kj10 a1 a2 x7_3 (wrap64 (x8_1 + 1)) l0_0 l0_1) = some r := by rw [if_neg (show ¬ (false = true) by decide)] at H; exact H
           clear H; have H := H1; clear H1
           have H' := gA H
           clear H
           go_wp2
           go_roundg kj10
           case measure => have := HK1.out; have := HJ5.out; have := HK3.out; have := HJ10.out; omega
           case rel => exact ⟨(x7_3), (wrap64 (x8_1 + 1)), (rfl), (rfl), H', ⟨by have := HK1.out; have := HJ5.out; have := HK3.out; have := HJ10.out; omega⟩, ⟨gK BK134⟩, ⟨gB HB⟩⟩
     ·replace c10 := Bool.eq_false_iff.mpr c10
      subst c10
      have H1 : (some x7_1) = some r := by rw [if_neg (show ¬ (false = true) by decide)] at H; exact H
      clear H; have H := H1; clear H1
      obtain rfl := Option.some.inj H
      go_wp2
      go_ret
      exact ⟨rfl, by repeat first | exact gB HB | refine below_set ?_ GE134.out⟩
def triglyphref03_Weight.f (k : Nat) (l0_0 : List Int) (l0_1 : List (S52)) (a1 : Int) : Option (Int) := (triglyphref03_weight.f k l0_0 l0_1 a1 16).bind fun t140 => (some t140)
theorem triglyphref03_Weight.mono : ∀ a0 a1 a2 k, LeO (triglyphref03_Weight.f k a0 a1 a2) (triglyphref03_Weight.f (k + 1) a0 a1 a2) := by
 intro a0 a1 a2 k
 unfold triglyphref03_Weight.f
 repeat' first
   | (with_reducible exact triglyphref03_weight.mono _ _ _ _ _)
   | (with_reducible exact LeO.refl _)
   | (with_reducible exact LeO.none _)
   | (with_reducible refine LeO.ite ?_ ?_)
   | (with_reducible refine LeO.bind ?_ (fun _ => ?_))
   | exact triglyphref03_weight.mono _ _ _ _ _
set_option maxHeartbeats 8000000 in
set_option maxRecDepth 100000 in
theorem triglyphref03_Weight.calls (k : Nat) (A0_0 : Option Addr) (c0_0 : Nat) (l0_0 : List Int) (A0_1 : Option Addr) (c0_1 : Nat) (l0_1 : List (S52)) (a1 : Int) (r : Int) (w : World) (hr0_0 : Kd.C (Kd.int .i64) w A0_0 l0_0.length l0_0) (hc0_0 : l0_0.length ≤ c0_0) (hr0_1 : Kd.C k52 w A0_1 l0_1.length l0_1) (hc0_1 : l0_1.length ≤ c0_1) (h : triglyphref03_Weight.f k l0_0 l0_1 a1 = some r) :
  Calls Try.prog 7 #[.agg #[.slice A0_0 l0_0.length c0_0, .slice A0_1 l0_1.length c0_1], .int .i64 a1] w fun e w' => e = .returned (.int .i64 r) ∧ Below w.heap.size w w' := by
 have hu25 := Try.underlying25
 have HR0_0 := gA hr0_0
 have HC0_0 := gA hc0_0
 clear hr0_0 hc0_0
 have HR0_1 := gA hr0_1
 have HC0_1 := gA hc0_1
 clear hr0_1 hc0_1
 have HB := gA (Below.refl w.heap.size w)
 have H : ((triglyphref03_weight.f k l0_0 l0_1 a1 16).bind fun t140 => (some t140)) = some r := h
 clear h
 replace H := Option.bind_eq_some_iff.mp H
 obtain ⟨t140, A30, H⟩ := H
 replace H : (some t140) = some r := H
 have A3 := gA A30
 clear A30
 obtain rfl := Option.some.inj H
 go_enter Try.func7, Try.ntmps7
 go_wp2_with (first | ((with_reducible refine gate_dst (N := 2) rfl ?_); refine box_event ?hg (N := 2) ?hd (cs := #[.slice A0_0 l0_0.length c0_0, .slice A0_1 l0_1.length c0_1]) (t := 25) ?hr ?_; (case hd => rfl); (case hg => rfl); (case hr => first | (go_simp; done) | (go_simp; rfl)); intro gb139 hg w4 hbox hb; have BK139 := gA (hbox); have GW139 := gA ((by rw [hg]; exact (below_size (gB HB)) : w.heap.size ≤ gb139)); have GE139 := gA ((by rw [hg]; exact (below_size (gB HB)) : w.heap.size ≤ gb139)); replace HB := gA (below_step (gB HB) hb); clear hb hbox hg; obtain ⟨hcz5_0, hcz5_1, hfz5_0, hfz5_1⟩ := gz2 BK139) | ((with_reducible refine gate_callee (f := 27) rfl ?_); refine goesL_ (some 7) rfl rfl Try.func27 (by kernel_rfl) rfl #[.agg #[.slice A0_0 l0_0.length c0_0, .slice A0_1 l0_1.length c0_1], .int .i64 a1, .int .i64 16] rfl (by (try simp only [List.map_toArray, List.map_cons, List.map_nil]); first | done | rfl | (simp only [List.length_drop, List.length_take]; rfl)) ?_; (with_reducible refine (triglyphref03_weight.calls k _ _ l0_0 _ _ l0_1 a1 16 t140 _ ?side1 ?side2 ?side3 ?side4 A3.out).mono ?_); (case side1 => exact gC HR0_0 HB); (case side2 => exact HC0_0.out); (case side3 => exact gC HR0_1 HB); (case side4 => exact HC0_1.out); rintro e w6 ⟨rfl, hb⟩; refine ⟨_, rfl, ?_⟩; replace BK139 := gA (blk_below (gK BK139) hb); replace HB := gA (below_step (gB HB) hb); (try clear hb)))
 go_ret
 exact ⟨rfl, by repeat first | exact gB HB | refine below_set ?_ GE139.out⟩
mutual
def triglyphref10_weight.l0 : Nat → Int → Int → Int → Int → Int → Int → ByteArray → List Int → List (S52) → List (S34) → Int → Option (Int)
 | 0, _, _, _, _, _, _, _, _, _, _, _ => none
 | k + 1, x1, x2, x7, x8, x142000, x142001, x142002, x142003, x142004, x142005, x142006 => if x8 < (x142005.length : Int) then (triglyphref10_weight.j1 k x1 x2 x7 x8 (decide (x7 ≤ x1)) x142000 x142001 x142002 x142003 x142004 x142005 x142006) else (triglyphref10_weight.j1 k x1 x2 x7 x8 false x142000 x142001 x142002 x142003 x142004 x142005 x142006)
def triglyphref10_weight.j1 : Nat → Int → Int → Int → Int → Bool → Int → Int → ByteArray → List Int → List (S52) → List (S34) → Int → Option (Int)
 | 0, _, _, _, _, _, _, _, _, _, _, _, _ => none
 | k + 1, x1, x2, x7, x8, x23, x142000, x142001, x142002, x142003, x142004, x142005, x142006 => if x23 = true then (if x2 = 0 then (some (wrap64 (x1 + 1))) else (if 0 ≤ x8 then (if x8 < (x142005.length : Int) then ((triglyphref10_weight.f k ((rd_T34 x142005 x8).f0) ((rd_T34 x142005 x8).f1) ((rd_T34 x142005 x8).f2) ((rd_T34 x142005 x8).f3.f0) ((rd_T34 x142005 x8).f3.f1) ((rd_T34 x142005 x8).f4) ((rd_T34 x142005 x8).f5) (wrap64 (x1 - x7)) (wrap64 (x2 - 1))).bind fun t144 => (triglyphref10_weight.l0 k x1 x2 (wrap64 (x7 + t144)) (wrap64 (x8 + 1)) x142000 x142001 x142002 x142003 x142004 x142005 x142006)) else (none)) else (none))) else (some x7)
def triglyphref10_weight.f : Nat → Int → Int → ByteArray → List Int → List (S52) → List (S34) → Int → Int → Int → Option (Int)
 | 0, _, _, _, _, _, _, _, _, _ => none
 | k + 1, a0_0, a0_1, a0_2, l0_3, l0_4, l0_5, a0_6, a1, a2 => (triglyphref03_Weight.f k l0_3 l0_4 a1).bind fun t142 => (triglyphref10_weight.l0 k a1 a2 (wrap64 (1 + t142)) 0 a0_0 a0_1 a0_2 l0_3 l0_4 l0_5 a0_6)
end
theorem triglyphref10_weight.mono_l : ∀ k, (∀ y0 y1 y2 y3 y4 y5 y6 y7 y8, LeO (triglyphref10_weight.f k y0 y1 y2 y3 y4 y5 y6 y7 y8) (triglyphref10_weight.f (k + 1) y0 y1 y2 y3 y4 y5 y6 y7 y8)) ∧ (∀ y0 y1 y2 y3 y4 y5 y6 y7 y8 y9 y10, LeO (triglyphref10_weight.l0 k y0 y1 y2 y3 y4 y5 y6 y7 y8 y9 y10) (triglyphref10_weight.l0 (k + 1) y0 y1 y2 y3 y4 y5 y6 y7 y8 y9 y10)) ∧ (∀ y0 y1 y2 y3 y4 y5 y6 y7 y8 y9 y10 y11, LeO (triglyphref10_weight.j1 k y0 y1 y2 y3 y4 y5 y6 y7 y8 y9 y10 y11) (triglyphref10_weight.j1 (k + 1) y0 y1 y2 y3 y4 y5 y6 y7 y8 y9 y10 y11))
 | 0 => ⟨fun _ _ _ _ _ _ _ _ _ r h => by simp [triglyphref10_weight.f] at h, fun _ _ _ _ _ _ _ _ _ _ _ r h => by simp [triglyphref10_weight.l0] at h, fun _ _ _ _ _ _ _ _ _ _ _ _ r h => by simp [triglyphref10_weight.j1] at h⟩
 | k + 1 => by
  obtain ⟨ih0, ih1, ih2⟩ := triglyphref10_weight.mono_l k
  refine ⟨?_, ?_, ?_⟩
  ·intro y0 y1 y2 y3 y4 y5 y6 y7 y8
   unfold triglyphref10_weight.f
   repeat' first
   | (with_reducible exact ih0 _ _ _ _ _ _ _ _ _)
   | (with_reducible exact ih1 _ _ _ _ _ _ _ _ _ _ _)
   | (with_reducible exact ih2 _ _ _ _ _ _ _ _ _ _ _ _)
   | (with_reducible exact triglyphref03_Weight.mono _ _ _ _)
   | (with_reducible exact LeO.refl _)
   | (with_reducible exact LeO.none _)
   | (with_reducible refine LeO.ite ?_ ?_)
   | (with_reducible refine LeO.bind ?_ (fun _ => ?_))



   | exact triglyphref03_Weight.mono _ _ _ _



  ·intro y0 y1 y2 y3 y4 y5 y6 y7 y8 y9 y10
   unfold triglyphref10_weight.l0
   repeat' first
   | (with_reducible exact ih0 _ _ _ _ _ _ _ _ _)
   | (with_reducible exact ih1 _ _ _ _ _ _ _ _ _ _ _)
   | (with_reducible exact ih2 _ _ _ _ _ _ _ _ _ _ _ _)
   | (with_reducible exact triglyphref03_Weight.mono _ _ _ _)
   | (with_reducible exact LeO.refl _)
   | (with_reducible exact LeO.none _)
   | (with_reducible refine LeO.ite ?_ ?_)
   | (with_reducible refine LeO.bind ?_ (fun _ => ?_))



   | exact triglyphref03_Weight.mono _ _ _ _



  ·intro y0 y1 y2 y3 y4 y5 y6 y7 y8 y9 y10 y11
   unfold triglyphref10_weight.j1
   repeat' first
   | (with_reducible exact ih0 _ _ _ _ _ _ _ _ _)
   | (with_reducible exact ih1 _ _ _ _ _ _ _ _ _ _ _)
   | (with_reducible exact ih2 _ _ _ _ _ _ _ _ _ _ _ _)
   | (with_reducible exact triglyphref03_Weight.mono _ _ _ _)
   | (with_reducible exact LeO.refl _)
   | (with_reducible exact LeO.none _)
   | (with_reducible refine LeO.ite ?_ ?_)
   | (with_reducible refine LeO.bind ?_ (fun _ => ?_))



   | exact triglyphref03_Weight.mono _ _ _ _
theorem triglyphref10_weight.mono : ∀ a0 a1 a2 a3 a4 a5 a6 a7 a8 k, LeO (triglyphref10_weight.f k a0 a1 a2 a3 a4 a5 a6 a7 a8) (triglyphref10_weight.f (k + 1) a0 a1 a2 a3 a4 a5 a6 a7 a8) := by
 intro a0 a1 a2 a3 a4 a5 a6 a7 a8 k
 obtain ⟨ih0, ih1, ih2⟩ := triglyphref10_weight.mono_l k
 exact ih0 a0 a1 a2 a3 a4 a5 a6 a7 a8
set_option maxHeartbeats 8000000 in
set_option maxRecDepth 100000 in
theorem triglyphref10_weight.calls (k : Nat) : ∀ (a0_0 : Int) (a0_1 : Int) (a0_2 : ByteArray) (A0_3 : Option Addr) (c0_3 : Nat) (l0_3 : List Int) (A0_4 : Option Addr) (c0_4 : Nat) (l0_4 : List (S52)) (A0_5 : Option Addr) (c0_5 : Nat) (l0_5 : List (S34)) (a0_6 : Int) (a1 : Int) (a2 : Int) (r : Int) (w : World) (hr0_3 : Kd.C (Kd.int .i64) w A0_3 l0_3.length l0_3) (hc0_3 : l0_3.length ≤ c0_3) (hr0_4 : Kd.C k52 w A0_4 l0_4.length l0_4) (hc0_4 : l0_4.length ≤ c0_4) (hr0_5 : Kd.C k34 w A0_5 l0_5.length l0_5) (hc0_5 : l0_5.length ≤ c0_5) (h : triglyphref10_weight.f k a0_0 a0_1 a0_2 l0_3 l0_4 l0_5 a0_6 a1 a2 = some r),
  Calls Try.prog 40 #[.agg #[.int .i64 a0_0, .int .i64 a0_1, .string a0_2, .slice A0_3 l0_3.length c0_3, .slice A0_4 l0_4.length c0_4, .slice A0_5 l0_5.length c0_5, .int .i64 a0_6], .int .i64 a1, .int .i64 a2] w fun e w' => e = .returned (.int .i64 r) ∧ Below w.heap.size w w' := by
 induction k using Nat.strongRecOn with
 | _ k ih =>
 intro a0_0 a0_1 a0_2 A0_3 c0_3 l0_3 A0_4 c0_4 l0_4 A0_5 c0_5 l0_5 a0_6 a1 a2 r w hr0_3 hc0_3 hr0_4 hc0_4 hr0_5 hc0_5 h
 cases k with
 | zero => exact absurd h (by simp [triglyphref10_weight.f])
 | succ k =>
 simp only [triglyphref10_weight.f] at h
 have hu34 := Try.underlying34
 have hu25 := Try.underlying25
 have HR0_3 := gA hr0_3
 have HC0_3 := gA hc0_3
 clear hr0_3 hc0_3
 have HR0_4 := gA hr0_4
 have HC0_4 := gA hc0_4
 clear hr0_4 hc0_4
 have HR0_5 := gA hr0_5
 have HC0_5 := gA hc0_5
 clear hr0_5 hc0_5
 have HB := gA (Below.refl w.heap.size w)
 have H : ((triglyphref03_Weight.f k l0_3 l0_4 a1).bind fun t142 => (triglyphref10_weight.l0 k a1 a2 (wrap64 (1 + t142)) 0 a0_0 a0_1 a0_2 l0_3 l0_4 l0_5 a0_6)) = some r := h
 clear h
 replace H := Option.bind_eq_some_iff.mp H
 obtain ⟨t142, A40, H⟩ := H
 replace H : (triglyphref10_weight.l0 k a1 a2 (wrap64 (1 + t142)) 0 a0_0 a0_1 a0_2 l0_3 l0_4 l0_5 a0_6) = some r := H
 have A4 := gA A40
 clear A40
 have H' := gA H
 clear H
 go_enter Try.func40, Try.ntmps40
 go_wp2_with (first | ((with_reducible refine gate_dst (N := 3) rfl ?_); refine box_event ?hg (N := 3) ?hd (cs := #[.int .i64 a0_0, .int .i64 a0_1, .string a0_2, .slice A0_3 l0_3.length c0_3, .slice A0_4 l0_4.length c0_4, .slice A0_5 l0_5.length c0_5, .int .i64 a0_6]) (t := 34) ?hr ?_; (case hd => rfl); (case hg => rfl); (case hr => first | (go_simp; done) | (go_simp; rfl)); intro gb141 hg w5 hbox hb; have BK141 := gA (hbox); have GW141 := gA ((by rw [hg]; exact (below_size (gB HB)) : w.heap.size ≤ gb141)); have GE141 := gA ((by rw [hg]; exact (below_size (gB HB)) : w.heap.size ≤ gb141)); replace HB := gA (below_step (gB HB) hb); clear hb hbox hg; have hcz6_0 := gz BK141 0 rfl; have hcz6_1 := gz BK141 1 rfl; have hcz6_2 := gz BK141 2 rfl; have hcz6_3 := gz BK141 3 rfl; have hcz6_4 := gz BK141 4 rfl; have hcz6_5 := gz BK141 5 rfl; have hcz6_6 := gz BK141 6 rfl; have hfz6_0 := blk_frozen BK141.out 0; have hfz6_1 := blk_frozen BK141.out 1; have hfz6_2 := blk_frozen BK141.out 2; have hfz6_3 := blk_frozen BK141.out 3; have hfz6_4 := blk_frozen BK141.out 4; have hfz6_5 := blk_frozen BK141.out 5; have hfz6_6 := blk_frozen BK141.out 6) | ((with_reducible refine gate_callee (f := 7) rfl ?_); refine goesL_ (some 12) rfl rfl Try.func7 (by kernel_rfl) rfl #[.agg #[.slice A0_3 l0_3.length c0_3, .slice A0_4 l0_4.length c0_4], .int .i64 a1] rfl (by (try simp only [List.map_toArray, List.map_cons, List.map_nil]); first | done | rfl | (simp only [List.length_drop, List.length_take]; rfl)) ?_; (with_reducible refine (triglyphref03_Weight.calls k _ _ l0_3 _ _ l0_4 a1 t142 _ ?side1 ?side2 ?side3 ?side4 A4.out).mono ?_); (case side1 => exact gC HR0_3 HB); (case side2 => exact HC0_3.out); (case side3 => exact gC HR0_4 HB); (case side4 => exact HC0_4.out); rintro e w7 ⟨rfl, hb⟩; refine ⟨_, rfl, ?_⟩; replace BK141 := gA (blk_below (gK BK141) hb); replace HB := gA (below_step (gB HB) hb); (try clear hb)))
 go_loopg [7, 8] k (fun kq v7 v8 w' => ∃ (x7_1 : Int) (x8_1 : Int), v7 = .int .i64 x7_1 ∧ v8 = .int .i64 x8_1 ∧ Aside0 (triglyphref10_weight.l0 kq a1 a2 x7_1 x8_1 a0_0 a0_1 a0_2 l0_3 l0_4 l0_5 a0_6 = some r) ∧ Aside0 (kq ≤ k) ∧ Aside0 (w'.heap[gb141]? = some (.cells #[.int .i64 a0_0, .int .i64 a0_1, .string a0_2, (.slice A0_3 l0_3.length c0_3), (.slice A0_4 l0_4.length c0_4), (.slice A0_5 l0_5.length c0_5), .int .i64 a0_6] 34 (0, 0))) ∧ Aside0 (Below w.heap.size w w'))
 case atStart => exact ⟨(wrap64 (1 + t142)), (0), (rfl), (rfl), H', ⟨Nat.le_refl _⟩, ⟨gK BK141⟩, ⟨by repeat first | exact gB HB | refine below_set ?_ GE141.out⟩⟩
 case round =>
  clear H'
  try clear p2
  try clear c4
  try clear p6
  try clear c7
  try clear hcz6_0
  try clear hcz6_1
  try clear hcz6_2
  try clear hcz6_3
  try clear hcz6_4
  try clear hcz6_5
  try clear hcz6_6
  try clear hfz6_0
  try clear hfz6_1
  try clear hfz6_2
  try clear hfz6_3
  try clear hfz6_4
  try clear hfz6_5
  try clear hfz6_6
  obtain ⟨x7_1, x8_1, rfl, rfl, HA, HK1, BK141, HB⟩ := hrel
  cases gk with
  | zero => exact absurd HA.out (by simp [triglyphref10_weight.l0])
  | succ k1 =>
   have H := HA.out; clear HA
   simp only [triglyphref10_weight.l0] at H
   have HC8 := gA H
   clear H
   go_upto_region 3 with (fail)
   go_cut [23] (fun v23 wc => ∃ (kq : Nat) (x23_7 : Bool), v23 = .bool x23_7 ∧ Aside0 (triglyphref10_weight.j1 kq a1 a2 x7_1 x8_1 x23_7 a0_0 a0_1 a0_2 l0_3 l0_4 l0_5 a0_6 = some r) ∧ Aside0 (kq ≤ k1) ∧ Aside0 (wc.heap[gb141]? = some (.cells #[.int .i64 a0_0, .int .i64 a0_1, .string a0_2, (.slice A0_3 l0_3.length c0_3), (.slice A0_4 l0_4.length c0_4), (.slice A0_5 l0_5.length c0_5), .int .i64 a0_6] 34 (0, 0))) ∧ Aside0 (Below w.heap.size w wc))
   case first =>
    have H := HC8.out; clear HC8
    by_cases c9 : x8_1 < (l0_5.length : Int)
    ·rw [if_pos c9] at H
     have c9b0 := decide_eq_true c9
     clear c9
     (first | rw [c9b0] | (simp only [i64_w, i32_w]; rw [c9b0]) | skip)
     have H' := gA H
     clear H
     have hcz10_0 := gz BK141 0 rfl
     have hcz10_1 := gz BK141 1 rfl
     have hcz10_2 := gz BK141 2 rfl
     have hcz10_3 := gz BK141 3 rfl
     have hcz10_4 := gz BK141 4 rfl
     have hcz10_5 := gz BK141 5 rfl
     have hcz10_6 := gz BK141 6 rfl
     have hfz10_0 := blk_frozen BK141.out 0
     have hfz10_1 := blk_frozen BK141.out 1
     have hfz10_2 := blk_frozen BK141.out 2
     have hfz10_3 := blk_frozen BK141.out 3
     have hfz10_4 := blk_frozen BK141.out 4
     have hfz10_5 := blk_frozen BK141.out 5
     have hfz10_6 := blk_frozen BK141.out 6
     go_wp2
     all_goals (go_meet; (case rel => exact ⟨_, (decide (x7_1 ≤ a1)), (by first | rfl | (simp; done) | (simp [*]; done) | (exfalso; simp_all; done) | (exfalso; simp_all; omega)), H', ⟨by have := HK1.out; first | omega | exact Nat.le_refl _⟩, ⟨gK BK141⟩, ⟨gB HB⟩⟩))
    ·rw [if_neg c9] at H
     have c9b0 := decide_eq_false c9
     clear c9
     (first | rw [c9b0] | (simp only [i64_w, i32_w]; rw [c9b0]) | skip)
     have H' := gA H
     clear H
     have hcz11_0 := gz BK141 0 rfl
     have hcz11_1 := gz BK141 1 rfl
     have hcz11_2 := gz BK141 2 rfl
     have hcz11_3 := gz BK141 3 rfl
     have hcz11_4 := gz BK141 4 rfl
     have hcz11_5 := gz BK141 5 rfl
     have hcz11_6 := gz BK141 6 rfl
     have hfz11_0 := blk_frozen BK141.out 0
     have hfz11_1 := blk_frozen BK141.out 1
     have hfz11_2 := blk_frozen BK141.out 2
     have hfz11_3 := blk_frozen BK141.out 3
     have hfz11_4 := blk_frozen BK141.out 4
     have hfz11_5 := blk_frozen BK141.out 5
     have hfz11_6 := blk_frozen BK141.out 6
     go_wp2
     all_goals (go_meet; (case rel => exact ⟨_, (false), (by first | rfl | (simp; done) | (simp [*]; done) | (exfalso; simp_all; done) | (exfalso; simp_all; omega)), H', ⟨by have := HK1.out; first | omega | exact Nat.le_refl _⟩, ⟨gK BK141⟩, ⟨gB HB⟩⟩))
   case rest =>
    clear HC8
    try clear p2
    try clear c4
    try clear p6
    try clear c7
    try clear c9
    try clear c9b0
    try clear hcz10_0
    try clear hcz10_1
    try clear hcz10_2
    try clear hcz10_3
    try clear hcz10_4
    try clear hcz10_5
    try clear hcz10_6
    try clear hcz11_0
    try clear hcz11_1
    try clear hcz11_2
    try clear hcz11_3
    try clear hcz11_4
    try clear hcz11_5
    try clear hcz11_6
    try clear hcz6_0
    try clear hcz6_1
    try clear hcz6_2
    try clear hcz6_3
    try clear hcz6_4
    try clear hcz6_5
    try clear hcz6_6
    try clear hfz10_0
    try clear hfz10_1
    try clear hfz10_2
    try clear hfz10_3
    try clear hfz10_4
    try clear hfz10_5
    try clear hfz10_6
    try clear hfz11_0
    try clear hfz11_1
    try clear hfz11_2
    try clear hfz11_3
    try clear hfz11_4
    try clear hfz11_5
    try clear hfz11_6
    try clear hfz6_0
    try clear hfz6_1
    try clear hfz6_2
    try clear hfz6_3
    try clear hfz6_4
    try clear hfz6_5
    try clear hfz6_6
    try clear p2
    try clear p6
    obtain ⟨kq, x23_7, rfl, HA, HJ7, BK141, HB⟩ := hcut
    cases kq with
    | zero => exact absurd HA.out (by simp [triglyphref10_weight.j1])
    | succ kj7 =>
     have H := HA.out; clear HA
     simp only [triglyphref10_weight.j1] at H
     by_cases c12 : x23_7 = true
     ·subst c12
      have H1 : (if a2 = 0 then (some (wrap64 (a1 + 1))) else (if 0 ≤ x8_1 then (if x8_1 < (l0_5.length : Int) then ((triglyphref10_weight.f kj7 ((rd_T34 l0_5 x8_1).f0) ((rd_T34 l0_5 x8_1).f1) ((rd_T34 l0_5 x8_1).f2) ((rd_T34 l0_5 x8_1).f3.f0) ((rd_T34 l0_5 x8_1).f3.f1) ((rd_T34 l0_5 x8_1).f4) ((rd_T34 l0_5 x8_1).f5) (wrap64 (a1 - x7_1)) (wrap64 (a2 - 1))).bind fun t144 => (triglyphref10_weight.l0 kj7 a1 a2 (wrap64 (x7_1 + t144)) (wrap64 (x8_1 + 1)) a0_0 a0_1 a0_2 l0_3 l0_4 l0_5 a0_6)) else (none)) else (none))) = some r := by rw [if_pos rfl] at H; exact H
      clear H; have H := H1; clear H1
      by_cases c13 : a2 = 0
      ·rw [if_pos c13] at H
       have c13b0 : (a2 == 0) = true := beq_iff_eq.mpr c13
       have c13b1 : (a2 != 0) = false := bne_eq_false_iff_eq.mpr c13
       clear c13
       obtain rfl := Option.some.inj H
       go_wp2
       go_ret
       exact ⟨rfl, by repeat first | exact gB HB | refine below_set ?_ GE141.out⟩
      ·rw [if_neg c13] at H
       have c13b0 : (a2 == 0) = false := beq_eq_false_iff_ne.mpr c13
       have c13b1 : (a2 != 0) = true := bne_iff_ne.mpr c13
       obtain ⟨c14, H⟩ := iS H
       have c14b0 := decide_eq_true c14
       clear c14
       obtain ⟨c15, H⟩ := iS H
       have c15b0 := decide_eq_true c15
       clear c15
       replace H := Option.bind_eq_some_iff.mp H
       obtain ⟨t144, A160, H⟩ := H
       replace H : (triglyphref10_weight.l0 kj7 a1 a2 (wrap64 (x7_1 + t144)) (wrap64 (x8_1 + 1)) a0_0 a0_1 a0_2 l0_3 l0_4 l0_5 a0_6) = some r := H
       have A16 := gA A160
       clear A160
       have H' := gA H
       clear H
       have hcz17_0 := gz BK141 0 rfl
       have hcz17_1 := gz BK141 1 rfl
       have hcz17_2 := gz BK141 2 rfl
       have hcz17_3 := gz BK141 3 rfl
       have hcz17_4 := gz BK141 4 rfl
       have hcz17_5 := gz BK141 5 rfl
       have hcz17_6 := gz BK141 6 rfl
       have hfz17_0 := blk_frozen BK141.out 0
       have hfz17_1 := blk_frozen BK141.out 1
       have hfz17_2 := blk_frozen BK141.out 2
       have hfz17_3 := blk_frozen BK141.out 3
       have hfz17_4 := blk_frozen BK141.out 4
       have hfz17_5 := blk_frozen BK141.out 5
       have hfz17_6 := blk_frozen BK141.out 6
       have p143 : 0 ≤ (x8_1 : Int) := of_decide_eq_true (by assumption)
       have q143 : x8_1 < (l0_5.length : Int) := of_decide_eq_true (by assumption)
       obtain ⟨ad143, A143_3, c143_3, A143_4, c143_4, A143_5, c143_5, e143, hx143_0, hx143_1, hx143_2, hx143_3, hx143_4, hx143_5, hx143_6, hl143_3, hi143_3, hl143_4, hi143_4, hl143_5, hi143_5⟩ := at_T34 HR0_5.out x8_1 p143 q143
       cases e143
       replace hx143_0 := (HB.out.cell (World.block_lt_of_cell? w _ hx143_0)).trans hx143_0
       replace hx143_1 := (HB.out.cell (World.block_lt_of_cell? w _ hx143_1)).trans hx143_1
       replace hx143_2 := (HB.out.cell (World.block_lt_of_cell? w _ hx143_2)).trans hx143_2
       replace hx143_3 := (HB.out.cell (World.block_lt_of_cell? w _ hx143_3)).trans hx143_3
       replace hx143_4 := (HB.out.cell (World.block_lt_of_cell? w _ hx143_4)).trans hx143_4
       replace hx143_5 := (HB.out.cell (World.block_lt_of_cell? w _ hx143_5)).trans hx143_5
       replace hx143_6 := (HB.out.cell (World.block_lt_of_cell? w _ hx143_6)).trans hx143_6
       have HR143_3 := gA hi143_3
       have HC143_3 := gA hl143_3
       clear hi143_3 hl143_3
       have HR143_4 := gA hi143_4
       have HC143_4 := gA hl143_4
       clear hi143_4 hl143_4
       have HR143_5 := gA hi143_5
       have HC143_5 := gA hl143_5
       clear hi143_5 hl143_5
       replace p143 := eq_true p143
       replace q143 := eq_true q143
       go_wp2_with (first | ((with_reducible refine gate_callee (f := 40) rfl ?_); refine goesL_ (some 41) rfl rfl Try.func40 (by kernel_rfl) rfl #[.agg #[.int .i64 ((rd_T34 l0_5 x8_1).f0), .int .i64 ((rd_T34 l0_5 x8_1).f1), .string ((rd_T34 l0_5 x8_1).f2), .slice A143_3 ((rd_T34 l0_5 x8_1).f3.f0).length c143_3, .slice A143_4 ((rd_T34 l0_5 x8_1).f3.f1).length c143_4, .slice A143_5 ((rd_T34 l0_5 x8_1).f4).length c143_5, .int .i64 ((rd_T34 l0_5 x8_1).f5)], .int .i64 (wrap64 (a1 - x7_1)), .int .i64 (wrap64 (a2 - 1))] rfl (by (try simp only [List.map_toArray, List.map_cons, List.map_nil]); first | done | rfl | (simp only [List.length_drop, List.length_take]; rfl)) ?_; (with_reducible refine (ih kj7 (by have := HK1.out; have := HJ7.out; omega) ((rd_T34 l0_5 x8_1).f0) ((rd_T34 l0_5 x8_1).f1) ((rd_T34 l0_5 x8_1).f2) _ _ ((rd_T34 l0_5 x8_1).f3.f0) _ _ ((rd_T34 l0_5 x8_1).f3.f1) _ _ ((rd_T34 l0_5 x8_1).f4) ((rd_T34 l0_5 x8_1).f5) (wrap64 (a1 - x7_1)) (wrap64 (a2 - 1)) t144 _ ?side1 ?side2 ?side3 ?side4 ?side5 ?side6 A16.out).mono ?_); (case side1 => exact gC HR143_3 HB); (case side2 => exact HC143_3.out); (case side3 => exact gC HR143_4 HB); (case side4 => exact HC143_4.out); (case side5 => exact gC HR143_5 HB); (case side6 => exact HC143_5.out); rintro e w18 ⟨rfl, hb⟩; refine ⟨_, rfl, ?_⟩; replace BK141 := gA (blk_below (gK BK141) hb); replace HB := gA (below_step (gB HB) hb); (try clear hb)))
       go_roundg kj7
       case measure => have := HK1.out; have := HJ7.out; omega
       case rel => exact ⟨(wrap64 (x7_1 + t144)), (wrap64 (x8_1 + 1)), (rfl), (rfl), H', ⟨by have := HK1.out; have := HJ7.out; omega⟩, ⟨gK BK141⟩, ⟨gB HB⟩⟩
     ·replace c12 := Bool.eq_false_iff.mpr c12
      subst c12
      have H1 : (some x7_1) = some r := by rw [if_neg (show ¬ (false = true) by decide)] at H; exact H
      clear H; have H := H1; clear H1
      obtain rfl := Option.some.inj H
      go_wp2
      go_ret
      exact ⟨rfl, by repeat first | exact gB HB | refine below_set ?_ GE141.out⟩
def triglyphref10_Weight.f (k : Nat) (a0_0 : Int) (a0_1 : Int) (a0_2 : ByteArray) (l0_3 : List Int) (l0_4 : List (S52)) (l0_5 : List (S34)) (a0_6 : Int) (a1 : Int) : Option (Int) := (triglyphref10_weight.f k a0_0 a0_1 a0_2 l0_3 l0_4 l0_5 a0_6 a1 40).bind fun t146 => (some t146)
theorem triglyphref10_Weight.mono : ∀ a0 a1 a2 a3 a4 a5 a6 a7 k, LeO (triglyphref10_Weight.f k a0 a1 a2 a3 a4 a5 a6 a7) (triglyphref10_Weight.f (k + 1) a0 a1 a2 a3 a4 a5 a6 a7) := by
 intro a0 a1 a2 a3 a4 a5 a6 a7 k
 unfold triglyphref10_Weight.f
 repeat' first
   | (with_reducible exact triglyphref10_weight.mono _ _ _ _ _ _ _ _ _ _)
   | (with_reducible exact LeO.refl _)
   | (with_reducible exact LeO.none _)
   | (with_reducible refine LeO.ite ?_ ?_)
   | (with_reducible refine LeO.bind ?_ (fun _ => ?_))
   | exact triglyphref10_weight.mono _ _ _ _ _ _ _ _ _ _
set_option maxHeartbeats 8000000 in
set_option maxRecDepth 100000 in
theorem triglyphref10_Weight.calls (k : Nat) (a0_0 : Int) (a0_1 : Int) (a0_2 : ByteArray) (A0_3 : Option Addr) (c0_3 : Nat) (l0_3 : List Int) (A0_4 : Option Addr) (c0_4 : Nat) (l0_4 : List (S52)) (A0_5 : Option Addr) (c0_5 : Nat) (l0_5 : List (S34)) (a0_6 : Int) (a1 : Int) (r : Int) (w : World) (hr0_3 : Kd.C (Kd.int .i64) w A0_3 l0_3.length l0_3) (hc0_3 : l0_3.length ≤ c0_3) (hr0_4 : Kd.C k52 w A0_4 l0_4.length l0_4) (hc0_4 : l0_4.length ≤ c0_4) (hr0_5 : Kd.C k34 w A0_5 l0_5.length l0_5) (hc0_5 : l0_5.length ≤ c0_5) (h : triglyphref10_Weight.f k a0_0 a0_1 a0_2 l0_3 l0_4 l0_5 a0_6 a1 = some r) :
  Calls Try.prog 33 #[.agg #[.int .i64 a0_0, .int .i64 a0_1, .string a0_2, .slice A0_3 l0_3.length c0_3, .slice A0_4 l0_4.length c0_4, .slice A0_5 l0_5.length c0_5, .int .i64 a0_6], .int .i64 a1] w fun e w' => e = .returned (.int .i64 r) ∧ Below w.heap.size w w' := by
 have hu34 := Try.underlying34
 have HR0_3 := gA hr0_3
 have HC0_3 := gA hc0_3
 clear hr0_3 hc0_3
 have HR0_4 := gA hr0_4
 have HC0_4 := gA hc0_4
 clear hr0_4 hc0_4
 have HR0_5 := gA hr0_5
 have HC0_5 := gA hc0_5
 clear hr0_5 hc0_5
 have HB := gA (Below.refl w.heap.size w)
 have H : ((triglyphref10_weight.f k a0_0 a0_1 a0_2 l0_3 l0_4 l0_5 a0_6 a1 40).bind fun t146 => (some t146)) = some r := h
 clear h
 replace H := Option.bind_eq_some_iff.mp H
 obtain ⟨t146, A30, H⟩ := H
 replace H : (some t146) = some r := H
 have A3 := gA A30
 clear A30
 obtain rfl := Option.some.inj H
 go_enter Try.func33, Try.ntmps33
 go_wp2_with (first | ((with_reducible refine gate_dst (N := 2) rfl ?_); refine box_event ?hg (N := 2) ?hd (cs := #[.int .i64 a0_0, .int .i64 a0_1, .string a0_2, .slice A0_3 l0_3.length c0_3, .slice A0_4 l0_4.length c0_4, .slice A0_5 l0_5.length c0_5, .int .i64 a0_6]) (t := 34) ?hr ?_; (case hd => rfl); (case hg => rfl); (case hr => first | (go_simp; done) | (go_simp; rfl)); intro gb145 hg w4 hbox hb; have BK145 := gA (hbox); have GW145 := gA ((by rw [hg]; exact (below_size (gB HB)) : w.heap.size ≤ gb145)); have GE145 := gA ((by rw [hg]; exact (below_size (gB HB)) : w.heap.size ≤ gb145)); replace HB := gA (below_step (gB HB) hb); clear hb hbox hg; have hcz5_0 := gz BK145 0 rfl; have hcz5_1 := gz BK145 1 rfl; have hcz5_2 := gz BK145 2 rfl; have hcz5_3 := gz BK145 3 rfl; have hcz5_4 := gz BK145 4 rfl; have hcz5_5 := gz BK145 5 rfl; have hcz5_6 := gz BK145 6 rfl; have hfz5_0 := blk_frozen BK145.out 0; have hfz5_1 := blk_frozen BK145.out 1; have hfz5_2 := blk_frozen BK145.out 2; have hfz5_3 := blk_frozen BK145.out 3; have hfz5_4 := blk_frozen BK145.out 4; have hfz5_5 := blk_frozen BK145.out 5; have hfz5_6 := blk_frozen BK145.out 6) | ((with_reducible refine gate_callee (f := 40) rfl ?_); refine goesL_ (some 7) rfl rfl Try.func40 (by kernel_rfl) rfl #[.agg #[.int .i64 a0_0, .int .i64 a0_1, .string a0_2, .slice A0_3 l0_3.length c0_3, .slice A0_4 l0_4.length c0_4, .slice A0_5 l0_5.length c0_5, .int .i64 a0_6], .int .i64 a1, .int .i64 40] rfl (by (try simp only [List.map_toArray, List.map_cons, List.map_nil]); first | done | rfl | (simp only [List.length_drop, List.length_take]; rfl)) ?_; (with_reducible refine (triglyphref10_weight.calls k a0_0 a0_1 a0_2 _ _ l0_3 _ _ l0_4 _ _ l0_5 a0_6 a1 40 t146 _ ?side1 ?side2 ?side3 ?side4 ?side5 ?side6 A3.out).mono ?_); (case side1 => exact gC HR0_3 HB); (case side2 => exact HC0_3.out); (case side3 => exact gC HR0_4 HB); (case side4 => exact HC0_4.out); (case side5 => exact gC HR0_5 HB); (case side6 => exact HC0_5.out); rintro e w6 ⟨rfl, hb⟩; refine ⟨_, rfl, ?_⟩; replace BK145 := gA (blk_below (gK BK145) hb); replace HB := gA (below_step (gB HB) hb); (try clear hb)))
 go_ret
 exact ⟨rfl, by repeat first | exact gB HB | refine below_set ?_ GE145.out⟩
def triglyphlaw10_light.f (k : Nat) (a0_0 : Int) (a0_1 : Int) (a0_2 : ByteArray) (l0_3 : List Int) (l0_4 : List (S52)) (l0_5 : List (S34)) (a0_6 : Int) : Option (Bool) := (triglyphref10_Weight.f k a0_0 a0_1 a0_2 l0_3 l0_4 l0_5 a0_6 3000).bind fun t148 => (some (decide (t148 ≤ 3000)))
theorem triglyphlaw10_light.mono : ∀ a0 a1 a2 a3 a4 a5 a6 k, LeO (triglyphlaw10_light.f k a0 a1 a2 a3 a4 a5 a6) (triglyphlaw10_light.f (k + 1) a0 a1 a2 a3 a4 a5 a6) := by
 intro a0 a1 a2 a3 a4 a5 a6 k
 unfold triglyphlaw10_light.f
 repeat' first
   | (with_reducible exact triglyphref10_Weight.mono _ _ _ _ _ _ _ _ _)
   | (with_reducible exact LeO.refl _)
   | (with_reducible exact LeO.none _)
   | (with_reducible refine LeO.ite ?_ ?_)
   | (with_reducible refine LeO.bind ?_ (fun _ => ?_))
   | exact triglyphref10_Weight.mono _ _ _ _ _ _ _ _ _
set_option maxHeartbeats 8000000 in
set_option maxRecDepth 100000 in
theorem triglyphlaw10_light.calls (k : Nat) (a0_0 : Int) (a0_1 : Int) (a0_2 : ByteArray) (A0_3 : Option Addr) (c0_3 : Nat) (l0_3 : List Int) (A0_4 : Option Addr) (c0_4 : Nat) (l0_4 : List (S52)) (A0_5 : Option Addr) (c0_5 : Nat) (l0_5 : List (S34)) (a0_6 : Int) (r : Bool) (w : World) (hr0_3 : Kd.C (Kd.int .i64) w A0_3 l0_3.length l0_3) (hc0_3 : l0_3.length ≤ c0_3) (hr0_4 : Kd.C k52 w A0_4 l0_4.length l0_4) (hc0_4 : l0_4.length ≤ c0_4) (hr0_5 : Kd.C k34 w A0_5 l0_5.length l0_5) (hc0_5 : l0_5.length ≤ c0_5) (h : triglyphlaw10_light.f k a0_0 a0_1 a0_2 l0_3 l0_4 l0_5 a0_6 = some r) :
  Calls Try.prog 15 #[.agg #[.int .i64 a0_0, .int .i64 a0_1, .string a0_2, .slice A0_3 l0_3.length c0_3, .slice A0_4 l0_4.length c0_4, .slice A0_5 l0_5.length c0_5, .int .i64 a0_6]] w fun e w' => e = .returned (.bool r) ∧ Below w.heap.size w w' := by
 have hu34 := Try.underlying34
 have HR0_3 := gA hr0_3
 have HC0_3 := gA hc0_3
 clear hr0_3 hc0_3
 have HR0_4 := gA hr0_4
 have HC0_4 := gA hc0_4
 clear hr0_4 hc0_4
 have HR0_5 := gA hr0_5
 have HC0_5 := gA hc0_5
 clear hr0_5 hc0_5
 have HB := gA (Below.refl w.heap.size w)
 have H : ((triglyphref10_Weight.f k a0_0 a0_1 a0_2 l0_3 l0_4 l0_5 a0_6 3000).bind fun t148 => (some (decide (t148 ≤ 3000)))) = some r := h
 clear h
 replace H := Option.bind_eq_some_iff.mp H
 obtain ⟨t148, A20, H⟩ := H
 replace H : (some (decide (t148 ≤ 3000))) = some r := H
 have A2 := gA A20
 clear A20
 obtain rfl := Option.some.inj H
 go_enter Try.func15, Try.ntmps15
 go_wp2_with (first | ((with_reducible refine gate_dst (N := 1) rfl ?_); refine box_event ?hg (N := 1) ?hd (cs := #[.int .i64 a0_0, .int .i64 a0_1, .string a0_2, .slice A0_3 l0_3.length c0_3, .slice A0_4 l0_4.length c0_4, .slice A0_5 l0_5.length c0_5, .int .i64 a0_6]) (t := 34) ?hr ?_; (case hd => rfl); (case hg => rfl); (case hr => first | (go_simp; done) | (go_simp; rfl)); intro gb147 hg w3 hbox hb; have BK147 := gA (hbox); have GW147 := gA ((by rw [hg]; exact (below_size (gB HB)) : w.heap.size ≤ gb147)); have GE147 := gA ((by rw [hg]; exact (below_size (gB HB)) : w.heap.size ≤ gb147)); replace HB := gA (below_step (gB HB) hb); clear hb hbox hg; have hcz4_0 := gz BK147 0 rfl; have hcz4_1 := gz BK147 1 rfl; have hcz4_2 := gz BK147 2 rfl; have hcz4_3 := gz BK147 3 rfl; have hcz4_4 := gz BK147 4 rfl; have hcz4_5 := gz BK147 5 rfl; have hcz4_6 := gz BK147 6 rfl; have hfz4_0 := blk_frozen BK147.out 0; have hfz4_1 := blk_frozen BK147.out 1; have hfz4_2 := blk_frozen BK147.out 2; have hfz4_3 := blk_frozen BK147.out 3; have hfz4_4 := blk_frozen BK147.out 4; have hfz4_5 := blk_frozen BK147.out 5; have hfz4_6 := blk_frozen BK147.out 6) | ((with_reducible refine gate_callee (f := 33) rfl ?_); refine goesL_ (some 4) rfl rfl Try.func33 (by kernel_rfl) rfl #[.agg #[.int .i64 a0_0, .int .i64 a0_1, .string a0_2, .slice A0_3 l0_3.length c0_3, .slice A0_4 l0_4.length c0_4, .slice A0_5 l0_5.length c0_5, .int .i64 a0_6], .int .i64 3000] rfl (by (try simp only [List.map_toArray, List.map_cons, List.map_nil]); first | done | rfl | (simp only [List.length_drop, List.length_take]; rfl)) ?_; (with_reducible refine (triglyphref10_Weight.calls k a0_0 a0_1 a0_2 _ _ l0_3 _ _ l0_4 _ _ l0_5 a0_6 3000 t148 _ ?side1 ?side2 ?side3 ?side4 ?side5 ?side6 A2.out).mono ?_); (case side1 => exact gC HR0_3 HB); (case side2 => exact HC0_3.out); (case side3 => exact gC HR0_4 HB); (case side4 => exact HC0_4.out); (case side5 => exact gC HR0_5 HB); (case side6 => exact HC0_5.out); rintro e w5 ⟨rfl, hb⟩; refine ⟨_, rfl, ?_⟩; replace BK147 := gA (blk_below (gK BK147) hb); replace HB := gA (below_step (gB HB) hb); (try clear hb)))
 go_ret
 exact ⟨rfl, by repeat first | exact gB HB | refine below_set ?_ GE147.out⟩
end Go.Proofs.Ytfblidojoepcpaa.P
