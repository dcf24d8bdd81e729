/- Written by a program of this session: the functions that the laws reach, what each comes to, and each law as it is stated, for every input. No condition. -/
import Derived.Test.YtahgfebdjjfkhaaPx0
namespace Go.Proofs.Ytahgfebdjjfkhaa.P
open Go.RowKit Go.Proofs.YtahgfebdjjfkhaaW.PrintWords Go.Proofs.YtahgfebdjjfkhaaW.PrintLast Go.Proofs.YtahgfebdjjfkhaaW.PrintMore
attribute [local go_sem] max2_int min2_int max_two min_two max_three min_three max_four min_four   -- for this text's walks alone
set_option linter.unusedVariables false
set_option linter.unusedSimpArgs false
mutual
def triglyphref03_weight.l0 : Nat → Int → Int → Int → Int → List Int → List (S43) → Option (Int)
 | 0, _, _, _, _, _, _ => none
 | k + 1, x1, x2, x7, x8, x102000, x102001 => if x8 < (x102001.length : Int) then (triglyphref03_weight.j1 k x1 x2 x7 x8 (decide (x7 ≤ x1)) x102000 x102001) else (triglyphref03_weight.j1 k x1 x2 x7 x8 false x102000 x102001)
def triglyphref03_weight.j1 : Nat → Int → Int → Int → Int → Bool → List Int → List (S43) → Option (Int)
 | 0, _, _, _, _, _, _, _ => none
 | k + 1, x1, x2, x7, x8, x26, x102000, x102001 => if x26 = true then (triglyphref03_weight.l1 k x1 x2 x7 x8 0 x102000 x102001) else (some x7)
def triglyphref03_weight.l1 : Nat → Int → Int → Int → Int → Int → List Int → List (S43) → Option (Int)
 | 0, _, _, _, _, _, _, _ => none
 | k + 1, x1, x2, x7, x8, x9, x102000, x102001 => if 0 ≤ x8 then (if x8 < (x102001.length : Int) then (if x9 < (((rd_T43 x102001 x8).f2).length : Int) then (triglyphref03_weight.j3 k x1 x2 x7 x8 x9 (decide (x7 ≤ x1)) x102000 x102001) else (triglyphref03_weight.j3 k x1 x2 x7 x8 x9 false x102000 x102001)) else (none)) else (none)
def triglyphref03_weight.j3 : Nat → Int → Int → Int → Int → Int → Bool → List Int → List (S43) → Option (Int)
 | 0, _, _, _, _, _, _, _, _ => none
 | k + 1, x1, x2, x7, x8, x9, x42, x102000, x102001 => if x42 = true then (if x2 = 0 then (some (wrap64 (x1 + 1))) else (if 0 ≤ x8 then (if x8 < (x102001.length : Int) then (if 0 ≤ x9 then (if x9 < (((rd_T43 x102001 x8).f2).length : Int) then ((triglyphref03_weight.f k ((rd_T25 ((rd_T43 x102001 x8).f2) x9).f0) ((rd_T25 ((rd_T43 x102001 x8).f2) x9).f1) (wrap64 (x1 - x7)) (wrap64 (x2 - 1))).bind fun t105 => (triglyphref03_weight.l1 k x1 x2 (wrap64 ((wrap64 (x7 + 1)) + t105)) x8 (wrap64 (x9 + 1)) x102000 x102001)) else (none)) else (none)) else (none)) else (none))) else (triglyphref03_weight.l0 k x1 x2 x7 (wrap64 (x8 + 1)) x102000 x102001)
def triglyphref03_weight.f : Nat → List Int → List (S43) → Int → Int → Option (Int)
 | 0, _, _, _, _ => none
 | k + 1, l0_0, l0_1, a1, a2 => triglyphref03_weight.l0 k a1 a2 (wrap64 ((l0_1.length : Int) + (l0_0.length : Int))) 0 l0_0 l0_1
end
theorem triglyphref03_weight.mono_l : ∀ k, (∀ y0 y1 y2 y3, LeO (triglyphref03_weight.f k y0 y1 y2 y3) (triglyphref03_weight.f (k + 1) y0 y1 y2 y3)) ∧ (∀ y0 y1 y2 y3 y4 y5, LeO (triglyphref03_weight.l0 k y0 y1 y2 y3 y4 y5) (triglyphref03_weight.l0 (k + 1) y0 y1 y2 y3 y4 y5)) ∧ (∀ y0 y1 y2 y3 y4 y5 y6, LeO (triglyphref03_weight.j1 k y0 y1 y2 y3 y4 y5 y6) (triglyphref03_weight.j1 (k + 1) y0 y1 y2 y3 y4 y5 y6)) ∧ (∀ y0 y1 y2 y3 y4 y5 y6, LeO (triglyphref03_weight.l1 k y0 y1 y2 y3 y4 y5 y6) (triglyphref03_weight.l1 (k + 1) y0 y1 y2 y3 y4 y5 y6)) ∧ (∀ y0 y1 y2 y3 y4 y5 y6 y7, LeO (triglyphref03_weight.j3 k y0 y1 y2 y3 y4 y5 y6 y7) (triglyphref03_weight.j3 (k + 1) y0 y1 y2 y3 y4 y5 y6 y7))
 | 0 => ⟨fun _ _ _ _ r h => by simp [triglyphref03_weight.f] at h, fun _ _ _ _ _ _ r h => by simp [triglyphref03_weight.l0] at h, fun _ _ _ _ _ _ _ r h => by simp [triglyphref03_weight.j1] at h, fun _ _ _ _ _ _ _ r h => by simp [triglyphref03_weight.l1] at h, fun _ _ _ _ _ _ _ _ r h => by simp [triglyphref03_weight.j3] at h⟩
 | k + 1 => by
  obtain ⟨ih0, ih1, ih2, ih3, ih4⟩ := triglyphref03_weight.mono_l k
  refine ⟨?_, ?_, ?_, ?_, ?_⟩
  ·intro y0 y1 y2 y3
   unfold triglyphref03_weight.f
   repeat' first
   | (with_reducible exact ih0 _ _ _ _)
   | (with_reducible exact ih1 _ _ _ _ _ _)
   | (with_reducible exact ih2 _ _ _ _ _ _ _)
   | (with_reducible exact ih3 _ _ _ _ _ _ _)
   | (with_reducible exact ih4 _ _ _ _ _ _ _ _)
   | (with_reducible exact LeO.refl _)
   | (with_reducible exact LeO.none _)
   | (with_reducible refine LeO.ite ?_ ?_)
   | (with_reducible refine LeO.bind ?_ (fun _ => ?_))








  ·intro y0 y1 y2 y3 y4 y5
   unfold triglyphref03_weight.l0
   repeat' first
   | (with_reducible exact ih0 _ _ _ _)
   | (with_reducible exact ih1 _ _ _ _ _ _)
   | (with_reducible exact ih2 _ _ _ _ _ _ _)
   | (with_reducible exact ih3 _ _ _ _ _ _ _)
   | (with_reducible exact ih4 _ _ _ _ _ _ _ _)
   | (with_reducible exact LeO.refl _)
   | (with_reducible exact LeO.none _)
   | (with_reducible refine LeO.ite ?_ ?_)
   | (with_reducible refine LeO.bind ?_ (fun _ => ?_))








  ·intro y0 y1 y2 y3 y4 y5 y6
   unfold triglyphref03_weight.j1
   repeat' first
   | (with_reducible exact ih0 _ _ _ _)
   | (with_reducible exact ih1 _ _ _ _ _ _)
   | (with_reducible exact ih2 _ _ _ _ _ _ _)
   | (with_reducible exact ih3 _ _ _ _ _ _ _)
   | (with_reducible exact ih4 _ _ _ _ _ _ _ _)
   | (with_reducible exact LeO.refl _)
   | (with_reducible exact LeO.none _)
   | (with_reducible refine LeO.ite ?_ ?_)
   | (with_reducible refine LeO.bind ?_ (fun _ => ?_))








  ·intro y0 y1 y2 y3 y4 y5 y6
   unfold triglyphref03_weight.l1
   repeat' first
   | (with_reducible exact ih0 _ _ _ _)
   | (with_reducible exact ih1 _ _ _ _ _ _)
   | (with_reducible exact ih2 _ _ _ _ _ _ _)
   | (with_reducible exact ih3 _ _ _ _ _ _ _)
   | (with_reducible exact ih4 _ _ _ _ _ _ _ _)
   | (with_reducible exact LeO.refl _)
   | (with_reducible exact LeO.none _)
   | (with_reducible refine LeO.ite ?_ ?_)
   | (with_reducible refine LeO.bind ?_ (fun _ => ?_))








  ·intro y0 y1 y2 y3 y4 y5 y6 y7
   unfold triglyphref03_weight.j3
   repeat' first
   | (with_reducible exact ih0 _ _ _ _)
   | (with_reducible exact ih1 _ _ _ _ _ _)
   | (with_reducible exact ih2 _ _ _ _ _ _ _)
   | (with_reducible exact ih3 _ _ _ _ _ _ _)
   | (with_reducible exact ih4 _ _ _ _ _ _ _ _)
   | (with_reducible exact LeO.refl _)
   | (with_reducible exact LeO.none _)
   | (with_reducible refine LeO.ite ?_ ?_)
   | (with_reducible refine LeO.bind ?_ (fun _ => ?_))
theorem triglyphref03_weight.mono : ∀ a0 a1 a2 a3 k, LeO (triglyphref03_weight.f k a0 a1 a2 a3) (triglyphref03_weight.f (k + 1) a0 a1 a2 a3) := by
 intro a0 a1 a2 a3 k
 obtain ⟨ih0, ih1, ih2, ih3, ih4⟩ := triglyphref03_weight.mono_l k
 exact ih0 a0 a1 a2 a3
set_option maxHeartbeats 8000000 in
set_option maxRecDepth 100000 in
theorem triglyphref03_weight.calls (k : Nat) : ∀ (A0_0 : Option Addr) (c0_0 : Nat) (l0_0 : List Int) (A0_1 : Option Addr) (c0_1 : Nat) (l0_1 : List (S43)) (a1 : Int) (a2 : Int) (r : Int) (w : World) (hr0_0 : Kd.C (Kd.int .i64) w A0_0 l0_0.length l0_0) (hc0_0 : l0_0.length ≤ c0_0) (hr0_1 : Kd.C k43 w A0_1 l0_1.length l0_1) (hc0_1 : l0_1.length ≤ c0_1) (h : triglyphref03_weight.f k l0_0 l0_1 a1 a2 = some r),
  Calls Try.prog 51 #[.agg #[.slice A0_0 l0_0.length c0_0, .slice A0_1 l0_1.length c0_1], .int .i64 a1, .int .i64 a2] w fun e w' => e = .returned (.int .i64 r) ∧ Below w.heap.size w w' := by
 induction k using Nat.strongRecOn with
 | _ k ih =>
 intro A0_0 c0_0 l0_0 A0_1 c0_1 l0_1 a1 a2 r w hr0_0 hc0_0 hr0_1 hc0_1 h
 cases k with
 | zero => exact absurd h (by simp [triglyphref03_weight.f])
 | succ k =>
 simp only [triglyphref03_weight.f] at h
 have hu25 := Try.underlying25
 have HR0_0 := gA hr0_0
 have HC0_0 := gA hc0_0
 clear hr0_0 hc0_0
 have HR0_1 := gA hr0_1
 have HC0_1 := gA hc0_1
 clear hr0_1 hc0_1
 have HB := gA (Below.refl w.heap.size w)
 have H : (triglyphref03_weight.l0 k a1 a2 (wrap64 ((l0_1.length : Int) + (l0_0.length : Int))) 0 l0_0 l0_1) = some r := h
 clear h
 have H' := gA H
 clear H
 go_enter Try.func51, Try.ntmps51
 go_wp2_with (first | ((with_reducible refine gate_dst (N := 3) rfl ?_); refine box_event ?hg (N := 3) ?hd (cs := #[.slice A0_0 l0_0.length c0_0, .slice A0_1 l0_1.length c0_1]) (t := 25) ?hr ?_; (case hd => rfl); (case hg => rfl); (case hr => first | (go_simp; done) | (go_simp; rfl)); intro gb101 hg w4 hbox hb; have BK101 := gA (hbox); have GW101 := gA ((by rw [hg]; exact (below_size (gB HB)) : w.heap.size ≤ gb101)); have GE101 := gA ((by rw [hg]; exact (below_size (gB HB)) : w.heap.size ≤ gb101)); replace HB := gA (below_step (gB HB) hb); clear hb hbox hg; obtain ⟨hcz5_0, hcz5_1, hfz5_0, hfz5_1⟩ := gz2 BK101))
 go_loopg [7, 8] k (fun kq v7 v8 w' => ∃ (x7_1 : Int) (x8_1 : Int), v7 = .int .i64 x7_1 ∧ v8 = .int .i64 x8_1 ∧ Aside0 (triglyphref03_weight.l0 kq a1 a2 x7_1 x8_1 l0_0 l0_1 = some r) ∧ Aside0 (kq ≤ k) ∧ Aside0 (w'.heap[gb101]? = some (.cells #[(.slice A0_0 l0_0.length c0_0), (.slice A0_1 l0_1.length c0_1)] 25 (0, 0))) ∧ Aside0 (Below w.heap.size w w'))
 case atStart => exact ⟨(wrap64 ((l0_1.length : Int) + (l0_0.length : Int))), (0), (rfl), (rfl), H', ⟨Nat.le_refl _⟩, ⟨gK BK101⟩, ⟨by repeat first | exact gB HB | refine below_set ?_ GE101.out⟩⟩
 case round =>
  clear H'
  try clear p2
  try clear c5
  try clear hcz5_0
  try clear hcz5_1
  try clear hfz5_0
  try clear hfz5_1
  obtain ⟨x7_1, x8_1, rfl, rfl, HA, HK1, BK101, HB⟩ := hrel
  cases gk with
  | zero => exact absurd HA.out (by simp [triglyphref03_weight.l0])
  | succ k1 =>
   have H := HA.out; clear HA
   simp only [triglyphref03_weight.l0] at H
   have HC6 := gA H
   clear H
   go_upto_region 3 with (fail)
   go_cut [26] (fun v26 wc => ∃ (kq : Nat) (x26_5 : Bool), v26 = .bool x26_5 ∧ Aside0 (triglyphref03_weight.j1 kq a1 a2 x7_1 x8_1 x26_5 l0_0 l0_1 = some r) ∧ Aside0 (kq ≤ k1) ∧ Aside0 (wc.heap[gb101]? = some (.cells #[(.slice A0_0 l0_0.length c0_0), (.slice A0_1 l0_1.length c0_1)] 25 (0, 0))) ∧ Aside0 (Below w.heap.size w wc))
   case first =>
    have H := HC6.out; clear HC6
    by_cases c7 : x8_1 < (l0_1.length : Int)
    ·rw [if_pos c7] at H
     have c7b0 := decide_eq_true c7
     clear c7
     (first | rw [c7b0] | (simp only [i64_w, i32_w]; rw [c7b0]) | skip)
     have H' := gA H
     clear H
     obtain ⟨hcz8_0, hcz8_1, hfz8_0, hfz8_1⟩ := gz2 BK101
     go_wp2
     all_goals (go_meet; (case rel => exact ⟨_, (decide (x7_1 ≤ a1)), (by first | rfl | (simp; done) | (simp [*]; done) | (exfalso; simp_all; done) | (exfalso; simp_all; omega)), H', ⟨by have := HK1.out; first | omega | exact Nat.le_refl _⟩, ⟨gK BK101⟩, ⟨gB HB⟩⟩))
    ·rw [if_neg c7] at H
     have c7b0 := decide_eq_false c7
     clear c7
     (first | rw [c7b0] | (simp only [i64_w, i32_w]; rw [c7b0]) | skip)
     have H' := gA H
     clear H
     obtain ⟨hcz9_0, hcz9_1, hfz9_0, hfz9_1⟩ := gz2 BK101
     go_wp2
     all_goals (go_meet; (case rel => exact ⟨_, (false), (by first | rfl | (simp; done) | (simp [*]; done) | (exfalso; simp_all; done) | (exfalso; simp_all; omega)), H', ⟨by have := HK1.out; first | omega | exact Nat.le_refl _⟩, ⟨gK BK101⟩, ⟨gB HB⟩⟩))
   case rest =>
    clear HC6
    try clear p2
    try clear c5
    try clear p6
    try clear c7
    try clear c7b0
    try clear hcz5_0
    try clear hcz5_1
    try clear hcz8_0
    try clear hcz8_1
    try clear hcz9_0
    try clear hcz9_1
    try clear hfz5_0
    try clear hfz5_1
    try clear hfz8_0
    try clear hfz8_1
    try clear hfz9_0
    try clear hfz9_1
    try clear p2
    obtain ⟨kq, x26_5, rfl, HA, HJ5, BK101, HB⟩ := hcut
    cases kq with
    | zero => exact absurd HA.out (by simp [triglyphref03_weight.j1])
    | succ kj5 =>
     have H := HA.out; clear HA
     simp only [triglyphref03_weight.j1] at H
     by_cases c10 : x26_5 = true
     ·subst c10
      have H1 : (triglyphref03_weight.l1 kj5 a1 a2 x7_1 x8_1 0 l0_0 l0_1) = some r := by rw [if_pos rfl] at H; exact H
      clear H; have H := H1; clear H1
      have H' := gA H
      clear H
      go_wp2
      go_loopg [7, 9] kj5 (fun kq v7 v9 w' => ∃ (x7_3 : Int) (x9_3 : Int), v7 = .int .i64 x7_3 ∧ v9 = .int .i64 x9_3 ∧ Aside0 (triglyphref03_weight.l1 kq a1 a2 x7_3 x8_1 x9_3 l0_0 l0_1 = some r) ∧ Aside0 (kq ≤ kj5) ∧ Aside0 (w'.heap[gb101]? = some (.cells #[(.slice A0_0 l0_0.length c0_0), (.slice A0_1 l0_1.length c0_1)] 25 (0, 0))) ∧ Aside0 (Below w.heap.size w w'))
      case atStart => exact ⟨(x7_1), (0), (rfl), (rfl), H', ⟨Nat.le_refl _⟩, ⟨gK BK101⟩, ⟨by repeat first | exact gB HB | refine below_set ?_ GE101.out⟩⟩
      case round =>
       clear H'
       try clear c1
       try clear p2
       try clear c5
       try clear p6
       try clear c7
       try clear c7b0
       try clear c10
       try clear hcz5_0
       try clear hcz5_1
       try clear hcz8_0
       try clear hcz8_1
       try clear hcz9_0
       try clear hcz9_1
       try clear hfz5_0
       try clear hfz5_1
       try clear hfz8_0
       try clear hfz8_1
       try clear hfz9_0
       try clear hfz9_1
       try clear p2
       try clear p6
       obtain ⟨x7_3, x9_3, rfl, rfl, HA, HK3, BK101, HB⟩ := hrel
       cases gk with
       | zero => exact absurd HA.out (by simp [triglyphref03_weight.l1])
       | succ k3 =>
        have H := HA.out; clear HA
        simp only [triglyphref03_weight.l1] at H
        have HC11 := gA H
        clear H
        go_upto_region 6 with (fail)
        go_cut [42] (fun v42 wc => ∃ (kq : Nat) (x42_10 : Bool), v42 = .bool x42_10 ∧ Aside0 (triglyphref03_weight.j3 kq a1 a2 x7_3 x8_1 x9_3 x42_10 l0_0 l0_1 = some r) ∧ Aside0 (kq ≤ k3) ∧ Aside0 (wc.heap[gb101]? = some (.cells #[(.slice A0_0 l0_0.length c0_0), (.slice A0_1 l0_1.length c0_1)] 25 (0, 0))) ∧ Aside0 (Below w.heap.size w wc))
        case first =>
         have H := HC11.out; clear HC11
         obtain ⟨c12, H⟩ := iS H
         have c12b0 := decide_eq_true c12
         clear c12
         (first | rw [c12b0] | (simp only [i64_w, i32_w]; rw [c12b0]) | skip)
         obtain ⟨c13, H⟩ := iS H
         have c13b0 := decide_eq_true c13
         clear c13
         by_cases c14 : x9_3 < (((rd_T43 l0_1 x8_1).f2).length : Int)
         ·rw [if_pos c14] at H
          have c14b0 := decide_eq_true c14
          clear c14
          have H' := gA H
          clear H
          obtain ⟨hcz15_0, hcz15_1, hfz15_0, hfz15_1⟩ := gz2 BK101
          have p102 : 0 ≤ (x8_1 : Int) := of_decide_eq_true (by assumption)
          have q102 : x8_1 < (l0_1.length : Int) := of_decide_eq_true (by assumption)
          obtain ⟨ad102, A102_2, c102_2, e102, hx102_0, hx102_1, hx102_2, hl102_2, hi102_2⟩ := at_T43 HR0_1.out x8_1 p102 q102
          cases e102
          replace hx102_0 := (HB.out.cell (World.block_lt_of_cell? w _ hx102_0)).trans hx102_0
          replace hx102_1 := (HB.out.cell (World.block_lt_of_cell? w _ hx102_1)).trans hx102_1
          replace hx102_2 := (HB.out.cell (World.block_lt_of_cell? w _ hx102_2)).trans hx102_2
          have HR102_2 := gA hi102_2
          have HC102_2 := gA hl102_2
          clear hi102_2 hl102_2
          replace p102 := eq_true p102
          replace q102 := eq_true q102
          go_wp2
          all_goals (go_meet; (case rel => exact ⟨_, (decide (x7_3 ≤ a1)), (by first | rfl | (simp; done) | (simp [*]; done) | (exfalso; simp_all; done) | (exfalso; simp_all; omega)), H', ⟨by have := HK1.out; have := HJ5.out; have := HK3.out; first | omega | exact Nat.le_refl _⟩, ⟨gK BK101⟩, ⟨gB HB⟩⟩))
         ·rw [if_neg c14] at H
          have c14b0 := decide_eq_false c14
          clear c14
          have H' := gA H
          clear H
          obtain ⟨hcz16_0, hcz16_1, hfz16_0, hfz16_1⟩ := gz2 BK101
          have p102 : 0 ≤ (x8_1 : Int) := of_decide_eq_true (by assumption)
          have q102 : x8_1 < (l0_1.length : Int) := of_decide_eq_true (by assumption)
          obtain ⟨ad102, A102_2, c102_2, e102, hx102_0, hx102_1, hx102_2, hl102_2, hi102_2⟩ := at_T43 HR0_1.out x8_1 p102 q102
          cases e102
          replace hx102_0 := (HB.out.cell (World.block_lt_of_cell? w _ hx102_0)).trans hx102_0
          replace hx102_1 := (HB.out.cell (World.block_lt_of_cell? w _ hx102_1)).trans hx102_1
          replace hx102_2 := (HB.out.cell (World.block_lt_of_cell? w _ hx102_2)).trans hx102_2
          have HR102_2 := gA hi102_2
          have HC102_2 := gA hl102_2
          clear hi102_2 hl102_2
          replace p102 := eq_true p102
          replace q102 := eq_true q102
          go_wp2
          all_goals (go_meet; (case rel => exact ⟨_, (false), (by first | rfl | (simp; done) | (simp [*]; done) | (exfalso; simp_all; done) | (exfalso; simp_all; omega)), H', ⟨by have := HK1.out; have := HJ5.out; have := HK3.out; first | omega | exact Nat.le_refl _⟩, ⟨gK BK101⟩, ⟨gB HB⟩⟩))
        case rest =>
         clear HC11
         try clear c1
         try clear p1
         try clear q1
         try clear hx1
         try clear p2
         try clear c5
         try clear p6
         try clear c7
         try clear c7b0
         try clear c10
         try clear p10
         try clear q10
         try clear hx10
         try clear c12
         try clear c12b0
         try clear c13
         try clear c13b0
         try clear c14
         try clear c14b0
         try clear hcz15_0
         try clear hcz15_1
         try clear hcz16_0
         try clear hcz16_1
         try clear hcz5_0
         try clear hcz5_1
         try clear hcz8_0
         try clear hcz8_1
         try clear hcz9_0
         try clear hcz9_1
         try clear hfz15_0
         try clear hfz15_1
         try clear hfz16_0
         try clear hfz16_1
         try clear hfz5_0
         try clear hfz5_1
         try clear hfz8_0
         try clear hfz8_1
         try clear hfz9_0
         try clear hfz9_1
         try clear hx102_0
         try clear hx102_1
         try clear hx102_2
         try clear p102
         try clear p2
         try clear p6
         try clear q102
         obtain ⟨kq, x42_10, rfl, HA, HJ10, BK101, HB⟩ := hcut
         cases kq with
         | zero => exact absurd HA.out (by simp [triglyphref03_weight.j3])
         | succ kj10 =>
          have H := HA.out; clear HA
          simp only [triglyphref03_weight.j3] at H
          by_cases c17 : x42_10 = true
          ·subst c17
           have H1 : (if a2 = 0 then (some (wrap64 (a1 + 1))) else (if 0 ≤ x8_1 then (if x8_1 < (l0_1.length : Int) then (if 0 ≤ x9_3 then (if x9_3 < (((rd_T43 l0_1 x8_1).f2).length : Int) then ((triglyphref03_weight.f kj10 ((rd_T25 ((rd_T43 l0_1 x8_1).f2) x9_3).f0) ((rd_T25 ((rd_T43 l0_1 x8_1).f2) x9_3).f1) (wrap64 (a1 - x7_3)) (wrap64 (a2 - 1))).bind fun t105 => (triglyphref03_weight.l1 kj10 a1 a2 (wrap64 ((wrap64 (x7_3 + 1)) + t105)) x8_1 (wrap64 (x9_3 + 1)) l0_0 l0_1)) else (none)) else (none)) else (none)) else (none))) = some r := by rw [if_pos rfl] at H; exact H
           clear H; have H := H1; clear H1
           by_cases c18 : a2 = 0
           ·rw [if_pos c18] at H
            have c18b0 : (a2 == 0) = true := beq_iff_eq.mpr c18
            have c18b1 : (a2 != 0) = false := bne_eq_false_iff_eq.mpr c18
            clear c18
            obtain rfl := Option.some.inj H
            go_wp2
            go_ret
            exact ⟨rfl, by repeat first | exact gB HB | refine below_set ?_ GE101.out⟩
           ·rw [if_neg c18] at H
            have c18b0 : (a2 == 0) = false := beq_eq_false_iff_ne.mpr c18
            have c18b1 : (a2 != 0) = true := bne_iff_ne.mpr c18
            obtain ⟨c19, H⟩ := iS H
            have c19b0 := decide_eq_true c19
            clear c19
            obtain ⟨c20, H⟩ := iS H
            have c20b0 := decide_eq_true c20
            clear c20
            obtain ⟨c21, H⟩ := iS H
            have c21b0 := decide_eq_true c21
            clear c21
            obtain ⟨c22, H⟩ := iS H
            have c22b0 := decide_eq_true c22
            clear c22
            replace H := Option.bind_eq_some_iff.mp H
            obtain ⟨t105, A230, H⟩ := H
            replace H : (triglyphref03_weight.l1 kj10 a1 a2 (wrap64 ((wrap64 (x7_3 + 1)) + t105)) x8_1 (wrap64 (x9_3 + 1)) l0_0 l0_1) = some r := H
            have A23 := gA A230
            clear A230
            have H' := gA H
            clear H
            obtain ⟨hcz24_0, hcz24_1, hfz24_0, hfz24_1⟩ := gz2 BK101
            have p103 : 0 ≤ (x8_1 : Int) := of_decide_eq_true (by assumption)
            have q103 : x8_1 < (l0_1.length : Int) := of_decide_eq_true (by assumption)
            obtain ⟨ad103, A103_2, c103_2, e103, hx103_0, hx103_1, hx103_2, hl103_2, hi103_2⟩ := at_T43 HR0_1.out x8_1 p103 q103
            cases e103
            replace hx103_0 := (HB.out.cell (World.block_lt_of_cell? w _ hx103_0)).trans hx103_0
            replace hx103_1 := (HB.out.cell (World.block_lt_of_cell? w _ hx103_1)).trans hx103_1
            replace hx103_2 := (HB.out.cell (World.block_lt_of_cell? w _ hx103_2)).trans hx103_2
            have HR103_2 := gA hi103_2
            have HC103_2 := gA hl103_2
            clear hi103_2 hl103_2
            replace p103 := eq_true p103
            replace q103 := eq_true q103
            have p104 : 0 ≤ (x9_3 : Int) := of_decide_eq_true (by assumption)
            have q104 : x9_3 < (((rd_T43 l0_1 x8_1).f2).length : Int) := of_decide_eq_true (by assumption)
            obtain ⟨ad104, A104_0, c104_0, A104_1, c104_1, e104, hx104_0, hx104_1, hl104_0, hi104_0, hl104_1, hi104_1⟩ := at_T25 HR103_2.out x9_3 p104 q104
            cases e104
            replace hx104_0 := (HB.out.cell (World.block_lt_of_cell? w _ hx104_0)).trans hx104_0
            replace hx104_1 := (HB.out.cell (World.block_lt_of_cell? w _ hx104_1)).trans hx104_1
            have HR104_0 := gA hi104_0
            have HC104_0 := gA hl104_0
            clear hi104_0 hl104_0
            have HR104_1 := gA hi104_1
            have HC104_1 := gA hl104_1
            clear hi104_1 hl104_1
            replace p104 := eq_true p104
            replace q104 := eq_true q104
            go_wp2_with (first | ((with_reducible refine gate_callee (f := 51) rfl ?_); refine goesL_ (some 65) rfl rfl Try.func51 (by kernel_rfl) rfl #[.agg #[.slice A104_0 ((rd_T25 ((rd_T43 l0_1 x8_1).f2) x9_3).f0).length c104_0, .slice A104_1 ((rd_T25 ((rd_T43 l0_1 x8_1).f2) x9_3).f1).length c104_1], .int .i64 (wrap64 (a1 - x7_3)), .int .i64 (wrap64 (a2 - 1))] rfl (by (try simp only [List.map_toArray, List.map_cons, List.map_nil]); first | done | rfl | (simp only [List.length_drop, List.length_take]; rfl)) ?_; (with_reducible refine (ih kj10 (by have := HK1.out; have := HJ5.out; have := HK3.out; have := HJ10.out; omega) _ _ ((rd_T25 ((rd_T43 l0_1 x8_1).f2) x9_3).f0) _ _ ((rd_T25 ((rd_T43 l0_1 x8_1).f2) x9_3).f1) (wrap64 (a1 - x7_3)) (wrap64 (a2 - 1)) t105 _ ?side1 ?side2 ?side3 ?side4 A23.out).mono ?_); (case side1 => exact gC HR104_0 HB); (case side2 => exact HC104_0.out); (case side3 => exact gC HR104_1 HB); (case side4 => exact HC104_1.out); rintro e w25 ⟨rfl, hb⟩; refine ⟨_, rfl, ?_⟩; replace BK101 := gA (blk_below (gK BK101) hb); replace HB := gA (below_step (gB HB) hb); (try clear hb)))
            go_roundg kj10
            case measure => have := HK1.out; have := HJ5.out; have := HK3.out; have := HJ10.out; omega
            case rel => exact ⟨(wrap64 ((wrap64 (x7_3 + 1)) + t105)), (wrap64 (x9_3 + 1)), (rfl), (rfl), H', ⟨by have := HK1.out; have := HJ5.out; have := HK3.out; have := HJ10.out; omega⟩, ⟨gK BK101⟩, ⟨gB HB⟩⟩
          ·replace c17 := Bool.eq_false_iff.mpr c17
           subst c17
           have H1 : (triglyphref03_weight.l0 kj10 a1 a2 x7_3 (wrap64 (x8_1 + 1)) l0_0 l0_1) = some r := by rw [if_neg (show ¬ (false = true) by decide)] at H; exact H
           clear H; have H := H1; clear H1
           have H' := gA H
           clear H
           go_wp2
           go_roundg kj10
           case measure => have := HK1.out; have := HJ5.out; have := HK3.out; have := HJ10.out; omega
           case rel => exact ⟨(x7_3), (wrap64 (x8_1 + 1)), (rfl), (rfl), H', ⟨by have := HK1.out; have := HJ5.out; have := HK3.out; have := HJ10.out; omega⟩, ⟨gK BK101⟩, ⟨gB HB⟩⟩
     ·replace c10 := Bool.eq_false_iff.mpr c10
      subst c10
      have H1 : (some x7_1) = some r := by rw [if_neg (show ¬ (false = true) by decide)] at H; exact H
      clear H; have H := H1; clear H1
      obtain rfl := Option.some.inj H
      go_wp2
      go_ret
      exact ⟨rfl, by repeat first | exact gB HB | refine below_set ?_ GE101.out⟩
def triglyphref03_Weight.f (k : Nat) (l0_0 : List Int) (l0_1 : List (S43)) (a1 : Int) : Option (Int) := (triglyphref03_weight.f k l0_0 l0_1 a1 16).bind fun t107 => (some t107)
theorem triglyphref03_Weight.mono : ∀ a0 a1 a2 k, LeO (triglyphref03_Weight.f k a0 a1 a2) (triglyphref03_Weight.f (k + 1) a0 a1 a2) := by
 intro a0 a1 a2 k
 unfold triglyphref03_Weight.f
 repeat' first
   | (with_reducible exact triglyphref03_weight.mono _ _ _ _ _)
   | (with_reducible exact LeO.refl _)
   | (with_reducible exact LeO.none _)
   | (with_reducible refine LeO.ite ?_ ?_)
   | (with_reducible refine LeO.bind ?_ (fun _ => ?_))
   | exact triglyphref03_weight.mono _ _ _ _ _
set_option maxHeartbeats 8000000 in
set_option maxRecDepth 100000 in
theorem triglyphref03_Weight.calls (k : Nat) (A0_0 : Option Addr) (c0_0 : Nat) (l0_0 : List Int) (A0_1 : Option Addr) (c0_1 : Nat) (l0_1 : List (S43)) (a1 : Int) (r : Int) (w : World) (hr0_0 : Kd.C (Kd.int .i64) w A0_0 l0_0.length l0_0) (hc0_0 : l0_0.length ≤ c0_0) (hr0_1 : Kd.C k43 w A0_1 l0_1.length l0_1) (hc0_1 : l0_1.length ≤ c0_1) (h : triglyphref03_Weight.f k l0_0 l0_1 a1 = some r) :
  Calls Try.prog 24 #[.agg #[.slice A0_0 l0_0.length c0_0, .slice A0_1 l0_1.length c0_1], .int .i64 a1] w fun e w' => e = .returned (.int .i64 r) ∧ Below w.heap.size w w' := by
 have hu25 := Try.underlying25
 have HR0_0 := gA hr0_0
 have HC0_0 := gA hc0_0
 clear hr0_0 hc0_0
 have HR0_1 := gA hr0_1
 have HC0_1 := gA hc0_1
 clear hr0_1 hc0_1
 have HB := gA (Below.refl w.heap.size w)
 have H : ((triglyphref03_weight.f k l0_0 l0_1 a1 16).bind fun t107 => (some t107)) = some r := h
 clear h
 replace H := Option.bind_eq_some_iff.mp H
 obtain ⟨t107, A30, H⟩ := H
 replace H : (some t107) = some r := H
 have A3 := gA A30
 clear A30
 obtain rfl := Option.some.inj H
 go_enter Try.func24, Try.ntmps24
 go_wp2_with (first | ((with_reducible refine gate_dst (N := 2) rfl ?_); refine box_event ?hg (N := 2) ?hd (cs := #[.slice A0_0 l0_0.length c0_0, .slice A0_1 l0_1.length c0_1]) (t := 25) ?hr ?_; (case hd => rfl); (case hg => rfl); (case hr => first | (go_simp; done) | (go_simp; rfl)); intro gb106 hg w4 hbox hb; have BK106 := gA (hbox); have GW106 := gA ((by rw [hg]; exact (below_size (gB HB)) : w.heap.size ≤ gb106)); have GE106 := gA ((by rw [hg]; exact (below_size (gB HB)) : w.heap.size ≤ gb106)); replace HB := gA (below_step (gB HB) hb); clear hb hbox hg; obtain ⟨hcz5_0, hcz5_1, hfz5_0, hfz5_1⟩ := gz2 BK106) | ((with_reducible refine gate_callee (f := 51) rfl ?_); refine goesL_ (some 7) rfl rfl Try.func51 (by kernel_rfl) rfl #[.agg #[.slice A0_0 l0_0.length c0_0, .slice A0_1 l0_1.length c0_1], .int .i64 a1, .int .i64 16] rfl (by (try simp only [List.map_toArray, List.map_cons, List.map_nil]); first | done | rfl | (simp only [List.length_drop, List.length_take]; rfl)) ?_; (with_reducible refine (triglyphref03_weight.calls k _ _ l0_0 _ _ l0_1 a1 16 t107 _ ?side1 ?side2 ?side3 ?side4 A3.out).mono ?_); (case side1 => exact gC HR0_0 HB); (case side2 => exact HC0_0.out); (case side3 => exact gC HR0_1 HB); (case side4 => exact HC0_1.out); rintro e w6 ⟨rfl, hb⟩; refine ⟨_, rfl, ?_⟩; replace BK106 := gA (blk_below (gK BK106) hb); replace HB := gA (below_step (gB HB) hb); (try clear hb)))
 go_ret
 exact ⟨rfl, by repeat first | exact gB HB | refine below_set ?_ GE106.out⟩
def triglyphlaw08_light.f (k : Nat) (l0_0 : List Int) (l0_1 : List (S43)) : Option (Bool) := (triglyphref03_Weight.f k l0_0 l0_1 300).bind fun t109 => (some (decide (t109 ≤ 300)))
theorem triglyphlaw08_light.mono : ∀ a0 a1 k, LeO (triglyphlaw08_light.f k a0 a1) (triglyphlaw08_light.f (k + 1) a0 a1) := by
 intro a0 a1 k
 unfold triglyphlaw08_light.f
 repeat' first
   | (with_reducible exact triglyphref03_Weight.mono _ _ _ _)
   | (with_reducible exact LeO.refl _)
   | (with_reducible exact LeO.none _)
   | (with_reducible refine LeO.ite ?_ ?_)
   | (with_reducible refine LeO.bind ?_ (fun _ => ?_))
   | exact triglyphref03_Weight.mono _ _ _ _
set_option maxHeartbeats 8000000 in
set_option maxRecDepth 100000 in
theorem triglyphlaw08_light.calls (k : Nat) (A0_0 : Option Addr) (c0_0 : Nat) (l0_0 : List Int) (A0_1 : Option Addr) (c0_1 : Nat) (l0_1 : List (S43)) (r : Bool) (w : World) (hr0_0 : Kd.C (Kd.int .i64) w A0_0 l0_0.length l0_0) (hc0_0 : l0_0.length ≤ c0_0) (hr0_1 : Kd.C k43 w A0_1 l0_1.length l0_1) (hc0_1 : l0_1.length ≤ c0_1) (h : triglyphlaw08_light.f k l0_0 l0_1 = some r) :
  Calls Try.prog 9 #[.agg #[.slice A0_0 l0_0.length c0_0, .slice A0_1 l0_1.length c0_1]] w fun e w' => e = .returned (.bool r) ∧ Below w.heap.size w w' := by
 have hu25 := Try.underlying25
 have HR0_0 := gA hr0_0
 have HC0_0 := gA hc0_0
 clear hr0_0 hc0_0
 have HR0_1 := gA hr0_1
 have HC0_1 := gA hc0_1
 clear hr0_1 hc0_1
 have HB := gA (Below.refl w.heap.size w)
 have H : ((triglyphref03_Weight.f k l0_0 l0_1 300).bind fun t109 => (some (decide (t109 ≤ 300)))) = some r := h
 clear h
 replace H := Option.bind_eq_some_iff.mp H
 obtain ⟨t109, A20, H⟩ := H
 replace H : (some (decide (t109 ≤ 300))) = some r := H
 have A2 := gA A20
 clear A20
 obtain rfl := Option.some.inj H
 go_enter Try.func9, Try.ntmps9
 go_wp2_with (first | ((with_reducible refine gate_dst (N := 1) rfl ?_); refine box_event ?hg (N := 1) ?hd (cs := #[.slice A0_0 l0_0.length c0_0, .slice A0_1 l0_1.length c0_1]) (t := 25) ?hr ?_; (case hd => rfl); (case hg => rfl); (case hr => first | (go_simp; done) | (go_simp; rfl)); intro gb108 hg w3 hbox hb; have BK108 := gA (hbox); have GW108 := gA ((by rw [hg]; exact (below_size (gB HB)) : w.heap.size ≤ gb108)); have GE108 := gA ((by rw [hg]; exact (below_size (gB HB)) : w.heap.size ≤ gb108)); replace HB := gA (below_step (gB HB) hb); clear hb hbox hg; obtain ⟨hcz4_0, hcz4_1, hfz4_0, hfz4_1⟩ := gz2 BK108) | ((with_reducible refine gate_callee (f := 24) rfl ?_); refine goesL_ (some 4) rfl rfl Try.func24 (by kernel_rfl) rfl #[.agg #[.slice A0_0 l0_0.length c0_0, .slice A0_1 l0_1.length c0_1], .int .i64 300] rfl (by (try simp only [List.map_toArray, List.map_cons, List.map_nil]); first | done | rfl | (simp only [List.length_drop, List.length_take]; rfl)) ?_; (with_reducible refine (triglyphref03_Weight.calls k _ _ l0_0 _ _ l0_1 300 t109 _ ?side1 ?side2 ?side3 ?side4 A2.out).mono ?_); (case side1 => exact gC HR0_0 HB); (case side2 => exact HC0_0.out); (case side3 => exact gC HR0_1 HB); (case side4 => exact HC0_1.out); rintro e w5 ⟨rfl, hb⟩; refine ⟨_, rfl, ?_⟩; replace BK108 := gA (blk_below (gK BK108) hb); replace HB := gA (below_step (gB HB) hb); (try clear hb)))
 go_ret
 exact ⟨rfl, by repeat first | exact gB HB | refine below_set ?_ GE108.out⟩
mutual
def triglyphlaw08_narrow.l0 : Nat → Int → Int → List Int → List (S43) → Option (Bool)
 | 0, _, _, _, _ => none
 | k + 1, x3, x4, x111000, x111001 => if x4 < (x111000.length : Int) then (triglyphlaw08_narrow.j1 k x3 x4 (decide (x4 < 20)) x111000 x111001) else (triglyphlaw08_narrow.j1 k x3 x4 false x111000 x111001)
def triglyphlaw08_narrow.j1 : Nat → Int → Int → Bool → List Int → List (S43) → Option (Bool)
 | 0, _, _, _, _, _ => none
 | k + 1, x3, x4, x13, x111000, x111001 => if x13 = true then (if 0 ≤ x4 then (if x4 < (x111000.length : Int) then (if (rd x111000 x4) > 400 then (some false) else (if (rd x111000 x4) > 1 then (if (wrap64 (x3 * (rd x111000 x4))) > 4000 then (some false) else (triglyphlaw08_narrow.l0 k (wrap64 (x3 * (rd x111000 x4))) (wrap64 (x4 + 1)) x111000 x111001)) else (if x3 > 4000 then (some false) else (triglyphlaw08_narrow.l0 k x3 (wrap64 (x4 + 1)) x111000 x111001)))) else (none)) else (none)) else (some true)
end
def triglyphlaw08_narrow.f (k : Nat) (l0_0 : List Int) (l0_1 : List (S43)) : Option (Bool) := triglyphlaw08_narrow.l0 k 1 0 l0_0 l0_1
theorem triglyphlaw08_narrow.mono_l : ∀ k, (∀ y0 y1 y2 y3, LeO (triglyphlaw08_narrow.l0 k y0 y1 y2 y3) (triglyphlaw08_narrow.l0 (k + 1) y0 y1 y2 y3)) ∧ (∀ y0 y1 y2 y3 y4, LeO (triglyphlaw08_narrow.j1 k y0 y1 y2 y3 y4) (triglyphlaw08_narrow.j1 (k + 1) y0 y1 y2 y3 y4))
 | 0 => ⟨fun _ _ _ _ r h => by simp [triglyphlaw08_narrow.l0] at h, fun _ _ _ _ _ r h => by simp [triglyphlaw08_narrow.j1] at h⟩
 | k + 1 => by
  obtain ⟨ih0, ih1⟩ := triglyphlaw08_narrow.mono_l k
  refine ⟨?_, ?_⟩
  ·intro y0 y1 y2 y3
   unfold triglyphlaw08_narrow.l0
   repeat' first
   | (with_reducible exact ih0 _ _ _ _)
   | (with_reducible exact ih1 _ _ _ _ _)
   | (with_reducible exact LeO.refl _)
   | (with_reducible exact LeO.none _)
   | (with_reducible refine LeO.ite ?_ ?_)
   | (with_reducible refine LeO.bind ?_ (fun _ => ?_))





  ·intro y0 y1 y2 y3 y4
   unfold triglyphlaw08_narrow.j1
   repeat' first
   | (with_reducible exact ih0 _ _ _ _)
   | (with_reducible exact ih1 _ _ _ _ _)
   | (with_reducible exact LeO.refl _)
   | (with_reducible exact LeO.none _)
   | (with_reducible refine LeO.ite ?_ ?_)
   | (with_reducible refine LeO.bind ?_ (fun _ => ?_))
theorem triglyphlaw08_narrow.mono : ∀ a0 a1 k, LeO (triglyphlaw08_narrow.f k a0 a1) (triglyphlaw08_narrow.f (k + 1) a0 a1) := by
 intro a0 a1 k
 obtain ⟨ih0, ih1⟩ := triglyphlaw08_narrow.mono_l k
 unfold triglyphlaw08_narrow.f
 repeat' first
   | (with_reducible exact ih0 _ _ _ _)
   | (with_reducible exact ih1 _ _ _ _ _)
   | (with_reducible exact LeO.refl _)
   | (with_reducible exact LeO.none _)
   | (with_reducible refine LeO.ite ?_ ?_)
   | (with_reducible refine LeO.bind ?_ (fun _ => ?_))
set_option maxHeartbeats 8000000 in
set_option maxRecDepth 100000 in
theorem triglyphlaw08_narrow.calls (k : Nat) (A0_0 : Option Addr) (c0_0 : Nat) (l0_0 : List Int) (A0_1 : Option Addr) (c0_1 : Nat) (l0_1 : List (S43)) (r : Bool) (w : World) (hr0_0 : Kd.C (Kd.int .i64) w A0_0 l0_0.length l0_0) (hc0_0 : l0_0.length ≤ c0_0) (hr0_1 : Kd.C k43 w A0_1 l0_1.length l0_1) (hc0_1 : l0_1.length ≤ c0_1) (h : triglyphlaw08_narrow.f k l0_0 l0_1 = some r) :
  Calls Try.prog 10 #[.agg #[.slice A0_0 l0_0.length c0_0, .slice A0_1 l0_1.length c0_1]] w fun e w' => e = .returned (.bool r) ∧ Below w.heap.size w w' := by
 have hu25 := Try.underlying25
 have HR0_0 := gA hr0_0
 have HC0_0 := gA hc0_0
 clear hr0_0 hc0_0
 have HR0_1 := gA hr0_1
 have HC0_1 := gA hc0_1
 clear hr0_1 hc0_1
 have HB := gA (Below.refl w.heap.size w)
 have H : (triglyphlaw08_narrow.l0 k 1 0 l0_0 l0_1) = some r := h
 clear h
 have H' := gA H
 clear H
 go_enter Try.func10, Try.ntmps10
 go_wp2_with (first | ((with_reducible refine gate_dst (N := 1) rfl ?_); refine box_event ?hg (N := 1) ?hd (cs := #[.slice A0_0 l0_0.length c0_0, .slice A0_1 l0_1.length c0_1]) (t := 25) ?hr ?_; (case hd => rfl); (case hg => rfl); (case hr => first | (go_simp; done) | (go_simp; rfl)); intro gb110 hg w2 hbox hb; have BK110 := gA (hbox); have GW110 := gA ((by rw [hg]; exact (below_size (gB HB)) : w.heap.size ≤ gb110)); have GE110 := gA ((by rw [hg]; exact (below_size (gB HB)) : w.heap.size ≤ gb110)); replace HB := gA (below_step (gB HB) hb); clear hb hbox hg))
 go_loopg [3, 4] k (fun kq v3 v4 w' => ∃ (x3_1 : Int) (x4_1 : Int), v3 = .int .i64 x3_1 ∧ v4 = .int .i64 x4_1 ∧ Aside0 (triglyphlaw08_narrow.l0 kq x3_1 x4_1 l0_0 l0_1 = some r) ∧ Aside0 (kq ≤ k) ∧ Aside0 (w'.heap[gb110]? = some (.cells #[(.slice A0_0 l0_0.length c0_0), (.slice A0_1 l0_1.length c0_1)] 25 (0, 0))) ∧ Aside0 (Below w.heap.size w w'))
 case atStart => exact ⟨(1), (0), (rfl), (rfl), H', ⟨Nat.le_refl _⟩, ⟨gK BK110⟩, ⟨by repeat first | exact gB HB | refine below_set ?_ GE110.out⟩⟩
 case round =>
  clear H'
  try clear c1
  try clear p2
  obtain ⟨x3_1, x4_1, rfl, rfl, HA, HK1, BK110, HB⟩ := hrel
  cases gk with
  | zero => exact absurd HA.out (by simp [triglyphlaw08_narrow.l0])
  | succ k1 =>
   have H := HA.out; clear HA
   simp only [triglyphlaw08_narrow.l0] at H
   have HC3 := gA H
   clear H
   go_upto_region 3 with (fail)
   go_cut [13] (fun v13 wc => ∃ (kq : Nat) (x13_2 : Bool), v13 = .bool x13_2 ∧ Aside0 (triglyphlaw08_narrow.j1 kq x3_1 x4_1 x13_2 l0_0 l0_1 = some r) ∧ Aside0 (kq ≤ k1) ∧ Aside0 (wc.heap[gb110]? = some (.cells #[(.slice A0_0 l0_0.length c0_0), (.slice A0_1 l0_1.length c0_1)] 25 (0, 0))) ∧ Aside0 (Below w.heap.size w wc))
   case first =>
    have H := HC3.out; clear HC3
    by_cases c4 : x4_1 < (l0_0.length : Int)
    ·rw [if_pos c4] at H
     have c4b0 := decide_eq_true c4
     clear c4
     (first | rw [c4b0] | (simp only [i64_w, i32_w]; rw [c4b0]) | skip)
     have H' := gA H
     clear H
     obtain ⟨hcz5_0, hcz5_1, hfz5_0, hfz5_1⟩ := gz2 BK110
     go_wp2
     all_goals (go_meet; (case rel => exact ⟨_, (decide (x4_1 < 20)), (by first | rfl | (simp; done) | (simp [*]; done) | (exfalso; simp_all; done) | (exfalso; simp_all; omega)), H', ⟨by have := HK1.out; first | omega | exact Nat.le_refl _⟩, ⟨gK BK110⟩, ⟨gB HB⟩⟩))
    ·rw [if_neg c4] at H
     have c4b0 := decide_eq_false c4
     clear c4
     (first | rw [c4b0] | (simp only [i64_w, i32_w]; rw [c4b0]) | skip)
     have H' := gA H
     clear H
     obtain ⟨hcz6_0, hcz6_1, hfz6_0, hfz6_1⟩ := gz2 BK110
     go_wp2
     all_goals (go_meet; (case rel => exact ⟨_, (false), (by first | rfl | (simp; done) | (simp [*]; done) | (exfalso; simp_all; done) | (exfalso; simp_all; omega)), H', ⟨by have := HK1.out; first | omega | exact Nat.le_refl _⟩, ⟨gK BK110⟩, ⟨gB HB⟩⟩))
   case rest =>
    clear HC3
    try clear c1
    try clear p2
    try clear c4
    try clear c4b0
    try clear hcz5_0
    try clear hcz5_1
    try clear hcz6_0
    try clear hcz6_1
    try clear hfz5_0
    try clear hfz5_1
    try clear hfz6_0
    try clear hfz6_1
    try clear p2
    obtain ⟨kq, x13_2, rfl, HA, HJ2, BK110, HB⟩ := hcut
    cases kq with
    | zero => exact absurd HA.out (by simp [triglyphlaw08_narrow.j1])
    | succ kj2 =>
     have H := HA.out; clear HA
     simp only [triglyphlaw08_narrow.j1] at H
     by_cases c7 : x13_2 = true
     ·subst c7
      have H1 : (if 0 ≤ x4_1 then (if x4_1 < (l0_0.length : Int) then (if (rd l0_0 x4_1) > 400 then (some false) else (if (rd l0_0 x4_1) > 1 then (if (wrap64 (x3_1 * (rd l0_0 x4_1))) > 4000 then (some false) else (triglyphlaw08_narrow.l0 kj2 (wrap64 (x3_1 * (rd l0_0 x4_1))) (wrap64 (x4_1 + 1)) l0_0 l0_1)) else (if x3_1 > 4000 then (some false) else (triglyphlaw08_narrow.l0 kj2 x3_1 (wrap64 (x4_1 + 1)) l0_0 l0_1)))) else (none)) else (none)) = some r := by rw [if_pos rfl] at H; exact H
      clear H; have H := H1; clear H1
      obtain ⟨c8, H⟩ := iS H
      have c8b0 := decide_eq_true c8
      clear c8
      obtain ⟨c9, H⟩ := iS H
      have c9b0 := decide_eq_true c9
      clear c9
      by_cases c10 : (rd l0_0 x4_1) > 400
      ·rw [if_pos c10] at H
       have c10b0 : decide (400 < (rd l0_0 x4_1)) = true := decide_eq_true c10
       clear c10
       obtain rfl := Option.some.inj H
       obtain ⟨hcz11_0, hcz11_1, hfz11_0, hfz11_1⟩ := gz2 BK110
       have p111 : 0 ≤ (x4_1 : Int) := of_decide_eq_true (by assumption)
       have q111 : x4_1 < (l0_0.length : Int) := of_decide_eq_true (by assumption)
       obtain ⟨ad111, e111, hx111_0⟩ := Kd.at_int HR0_0.out x4_1 p111 q111
       cases e111
       replace hx111_0 := (HB.out.cell (World.block_lt_of_cell? w _ hx111_0)).trans hx111_0
       replace p111 := eq_true p111
       replace q111 := eq_true q111
       go_wp2
       go_ret
       exact ⟨rfl, by repeat first | exact gB HB | refine below_set ?_ GE110.out⟩
      ·rw [if_neg c10] at H
       have c10b0 : decide (400 < (rd l0_0 x4_1)) = false := decide_eq_false c10
       clear c10
       by_cases c12 : (rd l0_0 x4_1) > 1
       ·rw [if_pos c12] at H
        have c12b0 : decide (1 < (rd l0_0 x4_1)) = true := decide_eq_true c12
        clear c12
        by_cases c13 : (wrap64 (x3_1 * (rd l0_0 x4_1))) > 4000
        ·rw [if_pos c13] at H
         have c13b0 : decide (4000 < (wrap64 (x3_1 * (rd l0_0 x4_1)))) = true := decide_eq_true c13
         clear c13
         obtain rfl := Option.some.inj H
         obtain ⟨hcz14_0, hcz14_1, hfz14_0, hfz14_1⟩ := gz2 BK110
         have p111 : 0 ≤ (x4_1 : Int) := of_decide_eq_true (by assumption)
         have q111 : x4_1 < (l0_0.length : Int) := of_decide_eq_true (by assumption)
         obtain ⟨ad111, e111, hx111_0⟩ := Kd.at_int HR0_0.out x4_1 p111 q111
         cases e111
         replace hx111_0 := (HB.out.cell (World.block_lt_of_cell? w _ hx111_0)).trans hx111_0
         replace p111 := eq_true p111
         replace q111 := eq_true q111
         have p112 : 0 ≤ (x4_1 : Int) := of_decide_eq_true (by assumption)
         have q112 : x4_1 < (l0_0.length : Int) := of_decide_eq_true (by assumption)
         obtain ⟨ad112, e112, hx112_0⟩ := Kd.at_int HR0_0.out x4_1 p112 q112
         obtain rfl : ad111 = ad112 := (by injection e112)
         replace hx112_0 := (HB.out.cell (World.block_lt_of_cell? w _ hx112_0)).trans hx112_0
         replace p112 := eq_true p112
         replace q112 := eq_true q112
         have p113 : 0 ≤ (x4_1 : Int) := of_decide_eq_true (by assumption)
         have q113 : x4_1 < (l0_0.length : Int) := of_decide_eq_true (by assumption)
         obtain ⟨ad113, e113, hx113_0⟩ := Kd.at_int HR0_0.out x4_1 p113 q113
         obtain rfl : ad111 = ad113 := (by injection e113)
         replace hx113_0 := (HB.out.cell (World.block_lt_of_cell? w _ hx113_0)).trans hx113_0
         replace p113 := eq_true p113
         replace q113 := eq_true q113
         go_wp2
         go_ret
         exact ⟨rfl, by repeat first | exact gB HB | refine below_set ?_ GE110.out⟩
        ·rw [if_neg c13] at H
         have c13b0 : decide (4000 < (wrap64 (x3_1 * (rd l0_0 x4_1)))) = false := decide_eq_false c13
         clear c13
         have H' := gA H
         clear H
         obtain ⟨hcz15_0, hcz15_1, hfz15_0, hfz15_1⟩ := gz2 BK110
         have p111 : 0 ≤ (x4_1 : Int) := of_decide_eq_true (by assumption)
         have q111 : x4_1 < (l0_0.length : Int) := of_decide_eq_true (by assumption)
         obtain ⟨ad111, e111, hx111_0⟩ := Kd.at_int HR0_0.out x4_1 p111 q111
         cases e111
         replace hx111_0 := (HB.out.cell (World.block_lt_of_cell? w _ hx111_0)).trans hx111_0
         replace p111 := eq_true p111
         replace q111 := eq_true q111
         have p112 : 0 ≤ (x4_1 : Int) := of_decide_eq_true (by assumption)
         have q112 : x4_1 < (l0_0.length : Int) := of_decide_eq_true (by assumption)
         obtain ⟨ad112, e112, hx112_0⟩ := Kd.at_int HR0_0.out x4_1 p112 q112
         obtain rfl : ad111 = ad112 := (by injection e112)
         replace hx112_0 := (HB.out.cell (World.block_lt_of_cell? w _ hx112_0)).trans hx112_0
         replace p112 := eq_true p112
         replace q112 := eq_true q112
         have p113 : 0 ≤ (x4_1 : Int) := of_decide_eq_true (by assumption)
         have q113 : x4_1 < (l0_0.length : Int) := of_decide_eq_true (by assumption)
         obtain ⟨ad113, e113, hx113_0⟩ := Kd.at_int HR0_0.out x4_1 p113 q113
         obtain rfl : ad111 = ad113 := (by injection e113)
         replace hx113_0 := (HB.out.cell (World.block_lt_of_cell? w _ hx113_0)).trans hx113_0
         replace p113 := eq_true p113
         replace q113 := eq_true q113
         go_wp2
         go_roundg kj2
         case measure => have := HK1.out; have := HJ2.out; omega
         case rel => exact ⟨(wrap64 (x3_1 * (rd l0_0 x4_1))), (wrap64 (x4_1 + 1)), (rfl), (rfl), H', ⟨by have := HK1.out; have := HJ2.out; omega⟩, ⟨gK BK110⟩, ⟨gB HB⟩⟩
       ·rw [if_neg c12] at H
        have c12b0 : decide (1 < (rd l0_0 x4_1)) = false := decide_eq_false c12
        clear c12
        by_cases c16 : x3_1 > 4000
        ·rw [if_pos c16] at H
         have c16b0 : decide (4000 < x3_1) = true := decide_eq_true c16
         clear c16
         obtain rfl := Option.some.inj H
         obtain ⟨hcz17_0, hcz17_1, hfz17_0, hfz17_1⟩ := gz2 BK110
         have p111 : 0 ≤ (x4_1 : Int) := of_decide_eq_true (by assumption)
         have q111 : x4_1 < (l0_0.length : Int) := of_decide_eq_true (by assumption)
         obtain ⟨ad111, e111, hx111_0⟩ := Kd.at_int HR0_0.out x4_1 p111 q111
         cases e111
         replace hx111_0 := (HB.out.cell (World.block_lt_of_cell? w _ hx111_0)).trans hx111_0
         replace p111 := eq_true p111
         replace q111 := eq_true q111
         have p112 : 0 ≤ (x4_1 : Int) := of_decide_eq_true (by assumption)
         have q112 : x4_1 < (l0_0.length : Int) := of_decide_eq_true (by assumption)
         obtain ⟨ad112, e112, hx112_0⟩ := Kd.at_int HR0_0.out x4_1 p112 q112
         obtain rfl : ad111 = ad112 := (by injection e112)
         replace hx112_0 := (HB.out.cell (World.block_lt_of_cell? w _ hx112_0)).trans hx112_0
         replace p112 := eq_true p112
         replace q112 := eq_true q112
         go_wp2
         go_ret
         exact ⟨rfl, by repeat first | exact gB HB | refine below_set ?_ GE110.out⟩
        ·rw [if_neg c16] at H
         have c16b0 : decide (4000 < x3_1) = false := decide_eq_false c16
         clear c16
         have H' := gA H
         clear H
         obtain ⟨hcz18_0, hcz18_1, hfz18_0, hfz18_1⟩ := gz2 BK110
         have p111 : 0 ≤ (x4_1 : Int) := of_decide_eq_true (by assumption)
         have q111 : x4_1 < (l0_0.length : Int) := of_decide_eq_true (by assumption)
         obtain ⟨ad111, e111, hx111_0⟩ := Kd.at_int HR0_0.out x4_1 p111 q111
         cases e111
         replace hx111_0 := (HB.out.cell (World.block_lt_of_cell? w _ hx111_0)).trans hx111_0
         replace p111 := eq_true p111
         replace q111 := eq_true q111
         have p112 : 0 ≤ (x4_1 : Int) := of_decide_eq_true (by assumption)
         have q112 : x4_1 < (l0_0.length : Int) := of_decide_eq_true (by assumption)
         obtain ⟨ad112, e112, hx112_0⟩ := Kd.at_int HR0_0.out x4_1 p112 q112
         obtain rfl : ad111 = ad112 := (by injection e112)
         replace hx112_0 := (HB.out.cell (World.block_lt_of_cell? w _ hx112_0)).trans hx112_0
         replace p112 := eq_true p112
         replace q112 := eq_true q112
         go_wp2
         go_roundg kj2
         case measure => have := HK1.out; have := HJ2.out; omega
         case rel => exact ⟨(x3_1), (wrap64 (x4_1 + 1)), (rfl), (rfl), H', ⟨by have := HK1.out; have := HJ2.out; omega⟩, ⟨gK BK110⟩, ⟨gB HB⟩⟩
     ·replace c7 := Bool.eq_false_iff.mpr c7
      subst c7
      have H1 : (some true) = some r := by rw [if_neg (show ¬ (false = true) by decide)] at H; exact H
      clear H; have H := H1; clear H1
      obtain rfl := Option.some.inj H
      go_wp2
      go_ret
      exact ⟨rfl, by repeat first | exact gB HB | refine below_set ?_ GE110.out⟩
end Go.Proofs.Ytahgfebdjjfkhaa.P
