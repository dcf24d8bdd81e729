/- Written by a program of this session: the functions that the laws reach, what each comes to, and each law as it is stated, for every input. No condition. -/
import Derived.Test.YteamkcgkhcalhaaPx0
namespace Go.Proofs.Yteamkcgkhcalhaa.P
open Go.RowKit Go.Proofs.YteamkcgkhcalhaaW.PrintWords Go.Proofs.YteamkcgkhcalhaaW.PrintLast Go.Proofs.YteamkcgkhcalhaaW.PrintMore
attribute [local go_sem] max2_int min2_int max_two min_two max_three min_three max_four min_four   -- for this text's walks alone
set_option linter.unusedVariables false
set_option linter.unusedSimpArgs false
mutual
def triglyphref03_weight.l0 : Nat → Int → Int → Int → Int → List Int → List (S60) → Option (Int)
 | 0, _, _, _, _, _, _ => none
 | k + 1, x1, x2, x7, x8, x203000, x203001 => if x8 < (x203001.length : Int) then (triglyphref03_weight.j1 k x1 x2 x7 x8 (decide (x7 ≤ x1)) x203000 x203001) else (triglyphref03_weight.j1 k x1 x2 x7 x8 false x203000 x203001)
def triglyphref03_weight.j1 : Nat → Int → Int → Int → Int → Bool → List Int → List (S60) → Option (Int)
 | 0, _, _, _, _, _, _, _ => none
 | k + 1, x1, x2, x7, x8, x26, x203000, x203001 => if x26 = true then (triglyphref03_weight.l1 k x1 x2 x7 x8 0 x203000 x203001) else (some x7)
def triglyphref03_weight.l1 : Nat → Int → Int → Int → Int → Int → List Int → List (S60) → Option (Int)
 | 0, _, _, _, _, _, _, _ => none
 | k + 1, x1, x2, x7, x8, x9, x203000, x203001 => if 0 ≤ x8 then (if x8 < (x203001.length : Int) then (if x9 < (((rd_T60 x203001 x8).f2).length : Int) then (triglyphref03_weight.j3 k x1 x2 x7 x8 x9 (decide (x7 ≤ x1)) x203000 x203001) else (triglyphref03_weight.j3 k x1 x2 x7 x8 x9 false x203000 x203001)) else (none)) else (none)
def triglyphref03_weight.j3 : Nat → Int → Int → Int → Int → Int → Bool → List Int → List (S60) → Option (Int)
 | 0, _, _, _, _, _, _, _, _ => none
 | k + 1, x1, x2, x7, x8, x9, x42, x203000, x203001 => if x42 = true then (if x2 = 0 then (some (wrap64 (x1 + 1))) else (if 0 ≤ x8 then (if x8 < (x203001.length : Int) then (if 0 ≤ x9 then (if x9 < (((rd_T60 x203001 x8).f2).length : Int) then ((triglyphref03_weight.f k ((rd_T28 ((rd_T60 x203001 x8).f2) x9).f0) ((rd_T28 ((rd_T60 x203001 x8).f2) x9).f1) (wrap64 (x1 - x7)) (wrap64 (x2 - 1))).bind fun t206 => (triglyphref03_weight.l1 k x1 x2 (wrap64 ((wrap64 (x7 + 1)) + t206)) x8 (wrap64 (x9 + 1)) x203000 x203001)) else (none)) else (none)) else (none)) else (none))) else (triglyphref03_weight.l0 k x1 x2 x7 (wrap64 (x8 + 1)) x203000 x203001)
def triglyphref03_weight.f : Nat → List Int → List (S60) → Int → Int → Option (Int)
 | 0, _, _, _, _ => none
 | k + 1, l0_0, l0_1, a1, a2 => triglyphref03_weight.l0 k a1 a2 (wrap64 ((l0_1.length : Int) + (l0_0.length : Int))) 0 l0_0 l0_1
end
theorem triglyphref03_weight.mono_l : ∀ k, (∀ y0 y1 y2 y3, LeO (triglyphref03_weight.f k y0 y1 y2 y3) (triglyphref03_weight.f (k + 1) y0 y1 y2 y3)) ∧ (∀ y0 y1 y2 y3 y4 y5, LeO (triglyphref03_weight.l0 k y0 y1 y2 y3 y4 y5) (triglyphref03_weight.l0 (k + 1) y0 y1 y2 y3 y4 y5)) ∧ (∀ y0 y1 y2 y3 y4 y5 y6, LeO (triglyphref03_weight.j1 k y0 y1 y2 y3 y4 y5 y6) (triglyphref03_weight.j1 (k + 1) y0 y1 y2 y3 y4 y5 y6)) ∧ (∀ y0 y1 y2 y3 y4 y5 y6, LeO (triglyphref03_weight.l1 k y0 y1 y2 y3 y4 y5 y6) (triglyphref03_weight.l1 (k + 1) y0 y1 y2 y3 y4 y5 y6)) ∧ (∀ y0 y1 y2 y3 y4 y5 y6 y7, LeO (triglyphref03_weight.j3 k y0 y1 y2 y3 y4 y5 y6 y7) (triglyphref03_weight.j3 (k + 1) y0 y1 y2 y3 y4 y5 y6 y7))
 | 0 => ⟨fun _ _ _ _ r h => by simp [triglyphref03_weight.f] at h, fun _ _ _ _ _ _ r h => by simp [triglyphref03_weight.l0] at h, fun _ _ _ _ _ _ _ r h => by simp [triglyphref03_weight.j1] at h, fun _ _ _ _ _ _ _ r h => by simp [triglyphref03_weight.l1] at h, fun _ _ _ _ _ _ _ _ r h => by simp [triglyphref03_weight.j3] at h⟩
 | k + 1 => by
  obtain ⟨ih0, ih1, ih2, ih3, ih4⟩ := triglyphref03_weight.mono_l k
  refine ⟨?_, ?_, ?_, ?_, ?_⟩
  ·intro y0 y1 y2 y3
   unfold triglyphref03_weight.f
   repeat' first
   | (with_reducible exact ih0 _ _ _ _)
   | (with_reducible exact ih1 _ _ _ _ _ _)
   | (with_reducible exact ih2 _ _ _ _ _ _ _)
   | (with_reducible exact ih3 _ _ _ _ _ _ _)
   | (with_reducible exact ih4 _ _ _ _ _ _ _ _)
   | (with_reducible exact LeO.refl _)
   | (with_reducible exact LeO.none _)
   | (with_reducible refine LeO.ite ?_ ?_)
   | (with_reducible refine LeO.bind ?_ (fun _ => ?_))








  ·intro y0 y1 y2 y3 y4 y5
   unfold triglyphref03_weight.l0
   repeat' first
   | (with_reducible exact ih0 _ _ _ _)
   | (with_reducible exact ih1 _ _ _ _ _ _)
   | (with_reducible exact ih2 _ _ _ _ _ _ _)
   | (with_reducible exact ih3 _ _ _ _ _ _ _)
   | (with_reducible exact ih4 _ _ _ _ _ _ _ _)
   | (with_reducible exact LeO.refl _)
   | (with_reducible exact LeO.none _)
   | (with_reducible refine LeO.ite ?_ ?_)
   | (with_reducible refine LeO.bind ?_ (fun _ => ?_))








  ·intro y0 y1 y2 y3 y4 y5 y6
   unfold triglyphref03_weight.j1
   repeat' first
   | (with_reducible exact ih0 _ _ _ _)
   | (with_reducible exact ih1 _ _ _ _ _ _)
   | (with_reducible exact ih2 _ _ _ _ _ _ _)
   | (with_reducible exact ih3 _ _ _ _ _ _ _)
   | (with_reducible exact ih4 _ _ _ _ _ _ _ _)
   | (with_reducible exact LeO.refl _)
   | (with_reducible exact LeO.none _)
   | (with_reducible refine LeO.ite ?_ ?_)
   | (with_reducible refine LeO.bind ?_ (fun _ => ?_))








  ·intro y0 y1 y2 y3 y4 y5 y6
   unfold triglyphref03_weight.l1
   repeat' first
   | (with_reducible exact ih0 _ _ _ _)
   | (with_reducible exact ih1 _ _ _ _ _ _)
   | (with_reducible exact ih2 _ _ _ _ _ _ _)
   | (with_reducible exact ih3 _ _ _ _ _ _ _)
   | (with_reducible exact ih4 _ _ _ _ _ _ _ _)
   | (with_reducible exact LeO.refl _)
   | (with_reducible exact LeO.none _)
   | (with_reducible refine LeO.ite ?_ ?_)
   | (with_reducible refine LeO.bind ?_ (fun _ => ?_))








  ·intro y0 y1 y2 y3 y4 y5 y6 y7
   unfold triglyphref03_weight.j3
   repeat' first
   | (with_reducible exact ih0 _ _ _ _)
   | (with_reducible exact ih1 _ _ _ _ _ _)
   | (with_reducible exact ih2 _ _ _ _ _ _ _)
   | (with_reducible exact ih3 _ _ _ _ _ _ _)
   | (with_reducible exact ih4 _ _ _ _ _ _ _ _)
   | (with_reducible exact LeO.refl _)
   | (with_reducible exact LeO.none _)
   | (with_reducible refine LeO.ite ?_ ?_)
   | (with_reducible refine LeO.bind ?_ (fun _ => ?_))
theorem triglyphref03_weight.mono : ∀ a0 a1 a2 a3 k, LeO (triglyphref03_weight.f k a0 a1 a2 a3) (triglyphref03_weight.f (k + 1) a0 a1 a2 a3) := by
 intro a0 a1 a2 a3 k
 obtain ⟨ih0, ih1, ih2, ih3, ih4⟩ := triglyphref03_weight.mono_l k
 exact ih0 a0 a1 a2 a3
set_option maxHeartbeats 8000000 in
set_option maxRecDepth 100000 in
theorem triglyphref03_weight.calls (k : Nat) : ∀ (A0_0 : Option Addr) (c0_0 : Nat) (l0_0 : List Int) (A0_1 : Option Addr) (c0_1 : Nat) (l0_1 : List (S60)) (a1 : Int) (a2 : Int) (r : Int) (w : World) (hr0_0 : Kd.C (Kd.int .i64) w A0_0 l0_0.length l0_0) (hc0_0 : l0_0.length ≤ c0_0) (hr0_1 : Kd.C k60 w A0_1 l0_1.length l0_1) (hc0_1 : l0_1.length ≤ c0_1) (h : triglyphref03_weight.f k l0_0 l0_1 a1 a2 = some r),
  Calls Try.prog 20 #[.agg #[.slice A0_0 l0_0.length c0_0, .slice A0_1 l0_1.length c0_1], .int .i64 a1, .int .i64 a2] w fun e w' => e = .returned (.int .i64 r) ∧ Below w.heap.size w w' := by
 induction k using Nat.strongRecOn with
 | _ k ih =>
 intro A0_0 c0_0 l0_0 A0_1 c0_1 l0_1 a1 a2 r w hr0_0 hc0_0 hr0_1 hc0_1 h
 cases k with
 | zero => exact absurd h (by simp [triglyphref03_weight.f])
 | succ k =>
 simp only [triglyphref03_weight.f] at h
 have hu28 := Try.underlying28
 have HR0_0 := gA hr0_0
 have HC0_0 := gA hc0_0
 clear hr0_0 hc0_0
 have HR0_1 := gA hr0_1
 have HC0_1 := gA hc0_1
 clear hr0_1 hc0_1
 have HB := gA (Below.refl w.heap.size w)
 have H : (triglyphref03_weight.l0 k a1 a2 (wrap64 ((l0_1.length : Int) + (l0_0.length : Int))) 0 l0_0 l0_1) = some r := h
 clear h
 have H' := gA H
 clear H
 go_enter Try.func20, Try.ntmps20
 go_wp2_with (first | ((with_reducible refine gate_dst (N := 3) rfl ?_); refine box_event ?hg (N := 3) ?hd (cs := #[.slice A0_0 l0_0.length c0_0, .slice A0_1 l0_1.length c0_1]) (t := 28) ?hr ?_; (case hd => rfl); (case hg => rfl); (case hr => first | (go_simp; done) | (go_simp; rfl)); intro gb202 hg w4 hbox hb; have BK202 := gA (hbox); have GW202 := gA ((by rw [hg]; exact (below_size (gB HB)) : w.heap.size ≤ gb202)); have GE202 := gA ((by rw [hg]; exact (below_size (gB HB)) : w.heap.size ≤ gb202)); replace HB := gA (below_step (gB HB) hb); clear hb hbox hg; obtain ⟨hcz5_0, hcz5_1, hfz5_0, hfz5_1⟩ := gz2 BK202))
 go_loopg [7, 8] k (fun kq v7 v8 w' => ∃ (x7_1 : Int) (x8_1 : Int), v7 = .int .i64 x7_1 ∧ v8 = .int .i64 x8_1 ∧ Aside0 (triglyphref03_weight.l0 kq a1 a2 x7_1 x8_1 l0_0 l0_1 = some r) ∧ Aside0 (kq ≤ k) ∧ Aside0 (w'.heap[gb202]? = some (.cells #[(.slice A0_0 l0_0.length c0_0), (.slice A0_1 l0_1.length c0_1)] 28 (0, 0))) ∧ Aside0 (Below w.heap.size w w'))
 case atStart => exact ⟨(wrap64 ((l0_1.length : Int) + (l0_0.length : Int))), (0), (rfl), (rfl), H', ⟨Nat.le_refl _⟩, ⟨gK BK202⟩, ⟨by repeat first | exact gB HB | refine below_set ?_ GE202.out⟩⟩
 case round =>
  clear H'
  try clear c2
  try clear p2
  try clear hcz5_0
  try clear hcz5_1
  try clear hfz5_0
  try clear hfz5_1
  obtain ⟨x7_1, x8_1, rfl, rfl, HA, HK1, BK202, HB⟩ := hrel
  cases gk with
  | zero => exact absurd HA.out (by simp [triglyphref03_weight.l0])
  | succ k1 =>
   have H := HA.out; clear HA
   simp only [triglyphref03_weight.l0] at H
   have HC6 := gA H
   clear H
   go_upto_region 3 with (fail)
   go_cut [26] (fun v26 wc => ∃ (kq : Nat) (x26_5 : Bool), v26 = .bool x26_5 ∧ Aside0 (triglyphref03_weight.j1 kq a1 a2 x7_1 x8_1 x26_5 l0_0 l0_1 = some r) ∧ Aside0 (kq ≤ k1) ∧ Aside0 (wc.heap[gb202]? = some (.cells #[(.slice A0_0 l0_0.length c0_0), (.slice A0_1 l0_1.length c0_1)] 28 (0, 0))) ∧ Aside0 (Below w.heap.size w wc))
   case first =>
    have H := HC6.out; clear HC6
    by_cases c7 : x8_1 < (l0_1.length : Int)
    ·rw [if_pos c7] at H
     have c7b0 := decide_eq_true c7
     clear c7
     (first | rw [c7b0] | (simp only [i64_w, i32_w]; rw [c7b0]) | skip)
     have H' := gA H
     clear H
     obtain ⟨hcz8_0, hcz8_1, hfz8_0, hfz8_1⟩ := gz2 BK202
     go_wp2
     all_goals (go_meet; (case rel => exact ⟨_, (decide (x7_1 ≤ a1)), (by first | rfl | (simp; done) | (simp [*]; done) | (exfalso; simp_all; done) | (exfalso; simp_all; omega)), H', ⟨by have := HK1.out; first | omega | exact Nat.le_refl _⟩, ⟨gK BK202⟩, ⟨gB HB⟩⟩))
    ·rw [if_neg c7] at H
     have c7b0 := decide_eq_false c7
     clear c7
     (first | rw [c7b0] | (simp only [i64_w, i32_w]; rw [c7b0]) | skip)
     have H' := gA H
     clear H
     obtain ⟨hcz9_0, hcz9_1, hfz9_0, hfz9_1⟩ := gz2 BK202
     go_wp2
     all_goals (go_meet; (case rel => exact ⟨_, (false), (by first | rfl | (simp; done) | (simp [*]; done) | (exfalso; simp_all; done) | (exfalso; simp_all; omega)), H', ⟨by have := HK1.out; first | omega | exact Nat.le_refl _⟩, ⟨gK BK202⟩, ⟨gB HB⟩⟩))
   case rest =>
    clear HC6
    try clear c2
    try clear p2
    try clear p6
    try clear c7
    try clear c7b0
    try clear hcz5_0
    try clear hcz5_1
    try clear hcz8_0
    try clear hcz8_1
    try clear hcz9_0
    try clear hcz9_1
    try clear hfz5_0
    try clear hfz5_1
    try clear hfz8_0
    try clear hfz8_1
    try clear hfz9_0
    try clear hfz9_1
    try clear p2
    obtain ⟨kq, x26_5, rfl, HA, HJ5, BK202, HB⟩ := hcut
    cases kq with
    | zero => exact absurd HA.out (by simp [triglyphref03_weight.j1])
    | succ kj5 =>
     have H := HA.out; clear HA
     simp only [triglyphref03_weight.j1] at H
     by_cases c10 : x26_5 = true
     ·subst c10
      have H1 : (triglyphref03_weight.l1 kj5 a1 a2 x7_1 x8_1 0 l0_0 l0_1) = some r := by rw [if_pos rfl] at H; exact H
      clear H; have H := H1; clear H1
      have H' := gA H
      clear H
      go_wp2
      go_loopg [7, 9] kj5 (fun kq v7 v9 w' => ∃ (x7_3 : Int) (x9_3 : Int), v7 = .int .i64 x7_3 ∧ v9 = .int .i64 x9_3 ∧ Aside0 (triglyphref03_weight.l1 kq a1 a2 x7_3 x8_1 x9_3 l0_0 l0_1 = some r) ∧ Aside0 (kq ≤ kj5) ∧ Aside0 (w'.heap[gb202]? = some (.cells #[(.slice A0_0 l0_0.length c0_0), (.slice A0_1 l0_1.length c0_1)] 28 (0, 0))) ∧ Aside0 (Below w.heap.size w w'))
      case atStart => exact ⟨(x7_1), (0), (rfl), (rfl), H', ⟨Nat.le_refl _⟩, ⟨gK BK202⟩, ⟨by repeat first | exact gB HB | refine below_set ?_ GE202.out⟩⟩
      case round =>
       clear H'
       try clear c1
       try clear c2
       try clear p2
       try clear p6
       try clear c7
       try clear c7b0
       try clear c10
       try clear hcz5_0
       try clear hcz5_1
       try clear hcz8_0
       try clear hcz8_1
       try clear hcz9_0
       try clear hcz9_1
       try clear hfz5_0
       try clear hfz5_1
       try clear hfz8_0
       try clear hfz8_1
       try clear hfz9_0
       try clear hfz9_1
       try clear p2
       try clear p6
       obtain ⟨x7_3, x9_3, rfl, rfl, HA, HK3, BK202, HB⟩ := hrel
       cases gk with
       | zero => exact absurd HA.out (by simp [triglyphref03_weight.l1])
       | succ k3 =>
        have H := HA.out; clear HA
        simp only [triglyphref03_weight.l1] at H
        have HC11 := gA H
        clear H
        go_upto_region 6 with (fail)
        go_cut [42] (fun v42 wc => ∃ (kq : Nat) (x42_10 : Bool), v42 = .bool x42_10 ∧ Aside0 (triglyphref03_weight.j3 kq a1 a2 x7_3 x8_1 x9_3 x42_10 l0_0 l0_1 = some r) ∧ Aside0 (kq ≤ k3) ∧ Aside0 (wc.heap[gb202]? = some (.cells #[(.slice A0_0 l0_0.length c0_0), (.slice A0_1 l0_1.length c0_1)] 28 (0, 0))) ∧ Aside0 (Below w.heap.size w wc))
        case first =>
         have H := HC11.out; clear HC11
         obtain ⟨c12, H⟩ := iS H
         have c12b0 := decide_eq_true c12
         clear c12
         (first | rw [c12b0] | (simp only [i64_w, i32_w]; rw [c12b0]) | skip)
         obtain ⟨c13, H⟩ := iS H
         have c13b0 := decide_eq_true c13
         clear c13
         by_cases c14 : x9_3 < (((rd_T60 l0_1 x8_1).f2).length : Int)
         ·rw [if_pos c14] at H
          have c14b0 := decide_eq_true c14
          clear c14
          have H' := gA H
          clear H
          obtain ⟨hcz15_0, hcz15_1, hfz15_0, hfz15_1⟩ := gz2 BK202
          have p203 : 0 ≤ (x8_1 : Int) := of_decide_eq_true (by assumption)
          have q203 : x8_1 < (l0_1.length : Int) := of_decide_eq_true (by assumption)
          obtain ⟨ad203, A203_2, c203_2, e203, hx203_0, hx203_1, hx203_2, hl203_2, hi203_2⟩ := at_T60 HR0_1.out x8_1 p203 q203
          cases e203
          replace hx203_0 := (HB.out.cell (World.block_lt_of_cell? w _ hx203_0)).trans hx203_0
          replace hx203_1 := (HB.out.cell (World.block_lt_of_cell? w _ hx203_1)).trans hx203_1
          replace hx203_2 := (HB.out.cell (World.block_lt_of_cell? w _ hx203_2)).trans hx203_2
          have HR203_2 := gA hi203_2
          have HC203_2 := gA hl203_2
          clear hi203_2 hl203_2
          replace p203 := eq_true p203
          replace q203 := eq_true q203
          go_wp2
          all_goals (go_meet; (case rel => exact ⟨_, (decide (x7_3 ≤ a1)), (by first | rfl | (simp; done) | (simp [*]; done) | (exfalso; simp_all; done) | (exfalso; simp_all; omega)), H', ⟨by have := HK1.out; have := HJ5.out; have := HK3.out; first | omega | exact Nat.le_refl _⟩, ⟨gK BK202⟩, ⟨gB HB⟩⟩))
         ·rw [if_neg c14] at H
          have c14b0 := decide_eq_false c14
          clear c14
          have H' := gA H
          clear H
          obtain ⟨hcz16_0, hcz16_1, hfz16_0, hfz16_1⟩ := gz2 BK202
          have p203 : 0 ≤ (x8_1 : Int) := of_decide_eq_true (by assumption)
          have q203 : x8_1 < (l0_1.length : Int) := of_decide_eq_true (by assumption)
          obtain ⟨ad203, A203_2, c203_2, e203, hx203_0, hx203_1, hx203_2, hl203_2, hi203_2⟩ := at_T60 HR0_1.out x8_1 p203 q203
          cases e203
          replace hx203_0 := (HB.out.cell (World.block_lt_of_cell? w _ hx203_0)).trans hx203_0
          replace hx203_1 := (HB.out.cell (World.block_lt_of_cell? w _ hx203_1)).trans hx203_1
          replace hx203_2 := (HB.out.cell (World.block_lt_of_cell? w _ hx203_2)).trans hx203_2
          have HR203_2 := gA hi203_2
          have HC203_2 := gA hl203_2
          clear hi203_2 hl203_2
          replace p203 := eq_true p203
          replace q203 := eq_true q203
          go_wp2
          all_goals (go_meet; (case rel => exact ⟨_, (false), (by first | rfl | (simp; done) | (simp [*]; done) | (exfalso; simp_all; done) | (exfalso; simp_all; omega)), H', ⟨by have := HK1.out; have := HJ5.out; have := HK3.out; first | omega | exact Nat.le_refl _⟩, ⟨gK BK202⟩, ⟨gB HB⟩⟩))
        case rest =>
         clear HC11
         try clear c1
         try clear c2
         try clear p2
         try clear q2
         try clear hx2
         try clear p6
         try clear c7
         try clear c7b0
         try clear c10
         try clear c12
         try clear c12b0
         try clear c13
         try clear c13b0
         try clear c14
         try clear c14b0
         try clear hcz15_0
         try clear hcz15_1
         try clear hcz16_0
         try clear hcz16_1
         try clear hcz5_0
         try clear hcz5_1
         try clear hcz8_0
         try clear hcz8_1
         try clear hcz9_0
         try clear hcz9_1
         try clear hfz15_0
         try clear hfz15_1
         try clear hfz16_0
         try clear hfz16_1
         try clear hfz5_0
         try clear hfz5_1
         try clear hfz8_0
         try clear hfz8_1
         try clear hfz9_0
         try clear hfz9_1
         try clear hx203_0
         try clear hx203_1
         try clear hx203_2
         try clear p2
         try clear p203
         try clear p6
         try clear q203
         obtain ⟨kq, x42_10, rfl, HA, HJ10, BK202, HB⟩ := hcut
         cases kq with
         | zero => exact absurd HA.out (by simp [triglyphref03_weight.j3])
         | succ kj10 =>
          have H := HA.out; clear HA
          simp only [triglyphref03_weight.j3] at H
          by_cases c17 : x42_10 = true
          ·subst c17
           have H1 : (if a2 = 0 then (some (wrap64 (a1 + 1))) else (if 0 ≤ x8_1 then (if x8_1 < (l0_1.length : Int) then (if 0 ≤ x9_3 then (if x9_3 < (((rd_T60 l0_1 x8_1).f2).length : Int) then ((triglyphref03_weight.f kj10 ((rd_T28 ((rd_T60 l0_1 x8_1).f2) x9_3).f0) ((rd_T28 ((rd_T60 l0_1 x8_1).f2) x9_3).f1) (wrap64 (a1 - x7_3)) (wrap64 (a2 - 1))).bind fun t206 => (triglyphref03_weight.l1 kj10 a1 a2 (wrap64 ((wrap64 (x7_3 + 1)) + t206)) x8_1 (wrap64 (x9_3 + 1)) l0_0 l0_1)) else (none)) else (none)) else (none)) else (none))) = some r := by rw [if_pos rfl] at H; exact H
           clear H; have H := H1; clear H1
           by_cases c18 : a2 = 0
           ·rw [if_pos c18] at H
            have c18b0 : (a2 == 0) = true := beq_iff_eq.mpr c18
            have c18b1 : (a2 != 0) = false := bne_eq_false_iff_eq.mpr c18
            clear c18
            obtain rfl := Option.some.inj H
            go_wp2
            go_ret
            exact ⟨rfl, by repeat first | exact gB HB | refine below_set ?_ GE202.out⟩
           ·rw [if_neg c18] at H
            have c18b0 : (a2 == 0) = false := beq_eq_false_iff_ne.mpr c18
            have c18b1 : (a2 != 0) = true := bne_iff_ne.mpr c18
            obtain ⟨c19, H⟩ := iS H
            have c19b0 := decide_eq_true c19
            clear c19
            obtain ⟨c20, H⟩ := iS H
            have c20b0 := decide_eq_true c20
            clear c20
            obtain ⟨c21, H⟩ := iS H
            have c21b0 := decide_eq_true c21
            clear c21
            obtain ⟨c22, H⟩ := iS H
            have c22b0 := decide_eq_true c22
            clear c22
            replace H := Option.bind_eq_some_iff.mp H
            obtain ⟨t206, A230, H⟩ := H
            replace H : (triglyphref03_weight.l1 kj10 a1 a2 (wrap64 ((wrap64 (x7_3 + 1)) + t206)) x8_1 (wrap64 (x9_3 + 1)) l0_0 l0_1) = some r := H
            have A23 := gA A230
            clear A230
            have H' := gA H
            clear H
            obtain ⟨hcz24_0, hcz24_1, hfz24_0, hfz24_1⟩ := gz2 BK202
            have p204 : 0 ≤ (x8_1 : Int) := of_decide_eq_true (by assumption)
            have q204 : x8_1 < (l0_1.length : Int) := of_decide_eq_true (by assumption)
            obtain ⟨ad204, A204_2, c204_2, e204, hx204_0, hx204_1, hx204_2, hl204_2, hi204_2⟩ := at_T60 HR0_1.out x8_1 p204 q204
            cases e204
            replace hx204_0 := (HB.out.cell (World.block_lt_of_cell? w _ hx204_0)).trans hx204_0
            replace hx204_1 := (HB.out.cell (World.block_lt_of_cell? w _ hx204_1)).trans hx204_1
            replace hx204_2 := (HB.out.cell (World.block_lt_of_cell? w _ hx204_2)).trans hx204_2
            have HR204_2 := gA hi204_2
            have HC204_2 := gA hl204_2
            clear hi204_2 hl204_2
            replace p204 := eq_true p204
            replace q204 := eq_true q204
            have p205 : 0 ≤ (x9_3 : Int) := of_decide_eq_true (by assumption)
            have q205 : x9_3 < (((rd_T60 l0_1 x8_1).f2).length : Int) := of_decide_eq_true (by assumption)
            obtain ⟨ad205, A205_0, c205_0, A205_1, c205_1, e205, hx205_0, hx205_1, hl205_0, hi205_0, hl205_1, hi205_1⟩ := at_T28 HR204_2.out x9_3 p205 q205
            cases e205
            replace hx205_0 := (HB.out.cell (World.block_lt_of_cell? w _ hx205_0)).trans hx205_0
            replace hx205_1 := (HB.out.cell (World.block_lt_of_cell? w _ hx205_1)).trans hx205_1
            have HR205_0 := gA hi205_0
            have HC205_0 := gA hl205_0
            clear hi205_0 hl205_0
            have HR205_1 := gA hi205_1
            have HC205_1 := gA hl205_1
            clear hi205_1 hl205_1
            replace p205 := eq_true p205
            replace q205 := eq_true q205
            go_wp2_with (first | ((with_reducible refine gate_callee (f := 20) rfl ?_); refine goesL_ (some 65) rfl rfl Try.func20 (by kernel_rfl) rfl #[.agg #[.slice A205_0 ((rd_T28 ((rd_T60 l0_1 x8_1).f2) x9_3).f0).length c205_0, .slice A205_1 ((rd_T28 ((rd_T60 l0_1 x8_1).f2) x9_3).f1).length c205_1], .int .i64 (wrap64 (a1 - x7_3)), .int .i64 (wrap64 (a2 - 1))] rfl (by (try simp only [List.map_toArray, List.map_cons, List.map_nil]); first | done | rfl | (simp only [List.length_drop, List.length_take]; rfl)) ?_; (with_reducible refine (ih kj10 (by have := HK1.out; have := HJ5.out; have := HK3.out; have := HJ10.out; omega) _ _ ((rd_T28 ((rd_T60 l0_1 x8_1).f2) x9_3).f0) _ _ ((rd_T28 ((rd_T60 l0_1 x8_1).f2) x9_3).f1) (wrap64 (a1 - x7_3)) (wrap64 (a2 - 1)) t206 _ ?side1 ?side2 ?side3 ?side4 A23.out).mono ?_); (case side1 => exact gC HR205_0 HB); (case side2 => exact HC205_0.out); (case side3 => exact gC HR205_1 HB); (case side4 => exact HC205_1.out); rintro e w25 ⟨rfl, hb⟩; refine ⟨_, rfl, ?_⟩; replace BK202 := gA (blk_below (gK BK202) hb); replace HB := gA (below_step (gB HB) hb); (try clear hb)))
            go_roundg kj10
            case measure => have := HK1.out; have := HJ5.out; have := HK3.out; have := HJ10.out; omega
            case rel => exact ⟨(wrap64 ((wrap64 (x7_3 + 1)) + t206)), (wrap64 (x9_3 + 1)), (rfl), (rfl), H', ⟨by have := HK1.out; have := HJ5.out; have := HK3.out; have := HJ10.out; omega⟩, ⟨gK BK202⟩, ⟨gB HB⟩⟩
          ·replace c17 := Bool.eq_false_iff.mpr c17
           subst c17
           have H1 : (triglyphref03_weight.l0 kj10 a1 a2 x7_3 (wrap64 (x8_1 + 1)) l0_0 l0_1) = some r := by rw [if_neg (show ¬ (false = true) by decide)] at H; exact H
           clear H; have H := H1; clear H1
           have H' := gA H
           clear H
           go_wp2
           go_roundg kj10
           case measure => have := HK1.out; have := HJ5.out; have := HK3.out; have := HJ10.out; omega
           case rel => exact ⟨(x7_3), (wrap64 (x8_1 + 1)), (rfl), (rfl), H', ⟨by have := HK1.out; have := HJ5.out; have := HK3.out; have := HJ10.out; omega⟩, ⟨gK BK202⟩, ⟨gB HB⟩⟩
     ·replace c10 := Bool.eq_false_iff.mpr c10
      subst c10
      have H1 : (some x7_1) = some r := by rw [if_neg (show ¬ (false = true) by decide)] at H; exact H
      clear H; have H := H1; clear H1
      obtain rfl := Option.some.inj H
      go_wp2
      go_ret
      exact ⟨rfl, by repeat first | exact gB HB | refine below_set ?_ GE202.out⟩
def triglyphref03_Weight.f (k : Nat) (l0_0 : List Int) (l0_1 : List (S60)) (a1 : Int) : Option (Int) := (triglyphref03_weight.f k l0_0 l0_1 a1 16).bind fun t208 => (some t208)
theorem triglyphref03_Weight.mono : ∀ a0 a1 a2 k, LeO (triglyphref03_Weight.f k a0 a1 a2) (triglyphref03_Weight.f (k + 1) a0 a1 a2) := by
 intro a0 a1 a2 k
 unfold triglyphref03_Weight.f
 repeat' first
   | (with_reducible exact triglyphref03_weight.mono _ _ _ _ _)
   | (with_reducible exact LeO.refl _)
   | (with_reducible exact LeO.none _)
   | (with_reducible refine LeO.ite ?_ ?_)
   | (with_reducible refine LeO.bind ?_ (fun _ => ?_))
   | exact triglyphref03_weight.mono _ _ _ _ _
set_option maxHeartbeats 8000000 in
set_option maxRecDepth 100000 in
theorem triglyphref03_Weight.calls (k : Nat) (A0_0 : Option Addr) (c0_0 : Nat) (l0_0 : List Int) (A0_1 : Option Addr) (c0_1 : Nat) (l0_1 : List (S60)) (a1 : Int) (r : Int) (w : World) (hr0_0 : Kd.C (Kd.int .i64) w A0_0 l0_0.length l0_0) (hc0_0 : l0_0.length ≤ c0_0) (hr0_1 : Kd.C k60 w A0_1 l0_1.length l0_1) (hc0_1 : l0_1.length ≤ c0_1) (h : triglyphref03_Weight.f k l0_0 l0_1 a1 = some r) :
  Calls Try.prog 8 #[.agg #[.slice A0_0 l0_0.length c0_0, .slice A0_1 l0_1.length c0_1], .int .i64 a1] w fun e w' => e = .returned (.int .i64 r) ∧ Below w.heap.size w w' := by
 have hu28 := Try.underlying28
 have HR0_0 := gA hr0_0
 have HC0_0 := gA hc0_0
 clear hr0_0 hc0_0
 have HR0_1 := gA hr0_1
 have HC0_1 := gA hc0_1
 clear hr0_1 hc0_1
 have HB := gA (Below.refl w.heap.size w)
 have H : ((triglyphref03_weight.f k l0_0 l0_1 a1 16).bind fun t208 => (some t208)) = some r := h
 clear h
 replace H := Option.bind_eq_some_iff.mp H
 obtain ⟨t208, A30, H⟩ := H
 replace H : (some t208) = some r := H
 have A3 := gA A30
 clear A30
 obtain rfl := Option.some.inj H
 go_enter Try.func8, Try.ntmps8
 go_wp2_with (first | ((with_reducible refine gate_dst (N := 2) rfl ?_); refine box_event ?hg (N := 2) ?hd (cs := #[.slice A0_0 l0_0.length c0_0, .slice A0_1 l0_1.length c0_1]) (t := 28) ?hr ?_; (case hd => rfl); (case hg => rfl); (case hr => first | (go_simp; done) | (go_simp; rfl)); intro gb207 hg w4 hbox hb; have BK207 := gA (hbox); have GW207 := gA ((by rw [hg]; exact (below_size (gB HB)) : w.heap.size ≤ gb207)); have GE207 := gA ((by rw [hg]; exact (below_size (gB HB)) : w.heap.size ≤ gb207)); replace HB := gA (below_step (gB HB) hb); clear hb hbox hg; obtain ⟨hcz5_0, hcz5_1, hfz5_0, hfz5_1⟩ := gz2 BK207) | ((with_reducible refine gate_callee (f := 20) rfl ?_); refine goesL_ (some 7) rfl rfl Try.func20 (by kernel_rfl) rfl #[.agg #[.slice A0_0 l0_0.length c0_0, .slice A0_1 l0_1.length c0_1], .int .i64 a1, .int .i64 16] rfl (by (try simp only [List.map_toArray, List.map_cons, List.map_nil]); first | done | rfl | (simp only [List.length_drop, List.length_take]; rfl)) ?_; (with_reducible refine (triglyphref03_weight.calls k _ _ l0_0 _ _ l0_1 a1 16 t208 _ ?side1 ?side2 ?side3 ?side4 A3.out).mono ?_); (case side1 => exact gC HR0_0 HB); (case side2 => exact HC0_0.out); (case side3 => exact gC HR0_1 HB); (case side4 => exact HC0_1.out); rintro e w6 ⟨rfl, hb⟩; refine ⟨_, rfl, ?_⟩; replace BK207 := gA (blk_below (gK BK207) hb); replace HB := gA (below_step (gB HB) hb); (try clear hb)))
 go_ret
 exact ⟨rfl, by repeat first | exact gB HB | refine below_set ?_ GE207.out⟩
def triglyphref12_Blanks.l0 : Nat → ByteArray → Int → Option (Int)
 | 0, _, _ => none
 | k + 1, x0, x1 => if x1 < (x0.size : Int) then (if 0 ≤ x1 then (if (bt x0 x1) = 32 then (triglyphref12_Blanks.l0 k x0 (wrap64 (x1 + 1))) else (some x1)) else (none)) else (some x1)
def triglyphref12_Blanks.f (k : Nat) (a0 : ByteArray) (a1 : Int) : Option (Int) := triglyphref12_Blanks.l0 k a0 a1
theorem triglyphref12_Blanks.mono_l : ∀ k, (∀ y0 y1, LeO (triglyphref12_Blanks.l0 k y0 y1) (triglyphref12_Blanks.l0 (k + 1) y0 y1))
 | 0 => fun _ _ r h => by simp [triglyphref12_Blanks.l0] at h
 | k + 1 => by
  have ih0 := triglyphref12_Blanks.mono_l k
  ·intro y0 y1
   unfold triglyphref12_Blanks.l0
   repeat' first
   | (with_reducible exact ih0 _ _)
   | (with_reducible exact LeO.refl _)
   | (with_reducible exact LeO.none _)
   | (with_reducible refine LeO.ite ?_ ?_)
   | (with_reducible refine LeO.bind ?_ (fun _ => ?_))
theorem triglyphref12_Blanks.mono : ∀ a0 a1 k, LeO (triglyphref12_Blanks.f k a0 a1) (triglyphref12_Blanks.f (k + 1) a0 a1) := by
 intro a0 a1 k
 have ih0 := triglyphref12_Blanks.mono_l k
 unfold triglyphref12_Blanks.f
 repeat' first
   | (with_reducible exact ih0 _ _)
   | (with_reducible exact LeO.refl _)
   | (with_reducible exact LeO.none _)
   | (with_reducible refine LeO.ite ?_ ?_)
   | (with_reducible refine LeO.bind ?_ (fun _ => ?_))
set_option maxHeartbeats 8000000 in
set_option maxRecDepth 100000 in
theorem triglyphref12_Blanks.calls (k : Nat) (a0 : ByteArray) (a1 : Int) (r : Int) (w : World) (h : triglyphref12_Blanks.f k a0 a1 = some r) :
  Calls Try.prog 31 #[.string a0, .int .i64 a1] w fun e w' => e = .returned (.int .i64 r) ∧ Drawn0 w w' := by
 have H : (triglyphref12_Blanks.l0 k a0 a1) = some r := h
 clear h
 have H' := gA H
 clear H
 go_enter Try.func31, Try.ntmps31
 go_wp2
 go_loopg [1] k (fun kq v1 w' => ∃ (x1_1 : Int), v1 = .int .i64 x1_1 ∧ Aside0 (triglyphref12_Blanks.l0 kq a0 x1_1 = some r) ∧ Aside0 (kq ≤ k) ∧ Drawn0 w w')
 case atStart => exact ⟨(a1), (rfl), H', ⟨Nat.le_refl _⟩, by repeat (first | exact Drawn0.refl _ | apply Drawn0.step)⟩
 case round =>
  clear H'
  try clear p2
  obtain ⟨x1_1, rfl, HA, HK1, ⟨m1, rfl⟩⟩ := hrel
  cases gk with
  | zero => exact absurd HA.out (by simp [triglyphref12_Blanks.l0])
  | succ k1 =>
   have H := HA.out; clear HA
   simp only [triglyphref12_Blanks.l0] at H
   by_cases c3 : x1_1 < (a0.size : Int)
   ·rw [if_pos c3] at H
    have c3b0 := decide_eq_true c3
    clear c3
    obtain ⟨c4, H⟩ := iS H
    have c4b0 := decide_eq_true c4
    clear c4
    by_cases c6 : (bt a0 x1_1) = 32
    ·rw [if_pos c6] at H
     have c6b0 : ((bt a0 x1_1) == 32) = true := beq_iff_eq.mpr c6
     have c6b1 : ((bt a0 x1_1) != 32) = false := bne_eq_false_iff_eq.mpr c6
     clear c6
     have H' := gA H
     clear H
     have p5 : 0 ≤ (x1_1 : Int) := of_decide_eq_true (by assumption)
     have q5 : x1_1 < (a0.size : Int) := of_decide_eq_true (by assumption)
     have hx5 := bt_at a0 x1_1
     replace p5 := eq_true p5
     replace q5 := eq_true q5
     go_wp2
     go_roundg k1
     case measure => have := HK1.out; omega
     case rel => exact ⟨(wrap64 (x1_1 + 1)), (rfl), H', ⟨by have := HK1.out; omega⟩, by repeat (first | exact Drawn0.refl _ | apply Drawn0.step)⟩
    ·rw [if_neg c6] at H
     have c6b0 : ((bt a0 x1_1) == 32) = false := beq_eq_false_iff_ne.mpr c6
     have c6b1 : ((bt a0 x1_1) != 32) = true := bne_iff_ne.mpr c6
     obtain rfl := Option.some.inj H
     have p5 : 0 ≤ (x1_1 : Int) := of_decide_eq_true (by assumption)
     have q5 : x1_1 < (a0.size : Int) := of_decide_eq_true (by assumption)
     have hx5 := bt_at a0 x1_1
     replace p5 := eq_true p5
     replace q5 := eq_true q5
     go_wp2
     go_ret
     exact ⟨rfl, by repeat (first | exact Drawn0.refl _ | apply Drawn0.step)⟩
   ·rw [if_neg c3] at H
    have c3b0 := decide_eq_false c3
    clear c3
    obtain rfl := Option.some.inj H
    go_wp2
    go_ret
    exact ⟨rfl, by repeat (first | exact Drawn0.refl _ | apply Drawn0.step)⟩
def triglyphref02_width.f (a0 : Int) : Option (Int) := if a0 < 128 then (some 1) else (if a0 < 2048 then (some 2) else (if a0 < 65536 then (some 3) else (some 4)))
set_option maxHeartbeats 8000000 in
set_option maxRecDepth 100000 in
theorem triglyphref02_width.calls (a0 : Int) (r : Int) (w : World) (h : triglyphref02_width.f a0 = some r) :
  Calls Try.prog 43 #[.int .i64 a0] w fun e w' => e = .returned (.int .i64 r) ∧ Drawn0 w w' := by
 have H : (if a0 < 128 then (some 1) else (if a0 < 2048 then (some 2) else (if a0 < 65536 then (some 3) else (some 4)))) = some r := h
 clear h
 by_cases c2 : a0 < 128
 ·rw [if_pos c2] at H
  have c2b0 := decide_eq_true c2
  clear c2
  obtain rfl := Option.some.inj H
  go_enter Try.func43, Try.ntmps43
  go_wp2
  go_ret
  exact ⟨rfl, by repeat (first | exact Drawn0.refl _ | apply Drawn0.step)⟩
 ·rw [if_neg c2] at H
  have c2b0 := decide_eq_false c2
  clear c2
  by_cases c3 : a0 < 2048
  ·rw [if_pos c3] at H
   have c3b0 := decide_eq_true c3
   clear c3
   obtain rfl := Option.some.inj H
   go_enter Try.func43, Try.ntmps43
   go_wp2
   go_ret
   exact ⟨rfl, by repeat (first | exact Drawn0.refl _ | apply Drawn0.step)⟩
  ·rw [if_neg c3] at H
   have c3b0 := decide_eq_false c3
   clear c3
   by_cases c4 : a0 < 65536
   ·rw [if_pos c4] at H
    have c4b0 := decide_eq_true c4
    clear c4
    obtain rfl := Option.some.inj H
    go_enter Try.func43, Try.ntmps43
    go_wp2
    go_ret
    exact ⟨rfl, by repeat (first | exact Drawn0.refl _ | apply Drawn0.step)⟩
   ·rw [if_neg c4] at H
    have c4b0 := decide_eq_false c4
    clear c4
    obtain rfl := Option.some.inj H
    go_enter Try.func43, Try.ntmps43
    go_wp2
    go_ret
    exact ⟨rfl, by repeat (first | exact Drawn0.refl _ | apply Drawn0.step)⟩
def triglyphref02_Put.l0 : Nat → Int → Int → List Int → Int → Option (List Int)
 | 0, _, _, _, _ => none
 | k + 1, x0, x3, x4, x5 => if x5 > 0 then (if 0 ≤ x5 then (if x5 < (x4.length : Int) then (triglyphref02_Put.l0 k (wrap64 (Int.tdiv x0 64)) x3 (x4.set (x5 : Int).toNat ((wrap64 (128 + (Int.tmod x0 64))) % 256)) (wrap64 (x5 - 1))) else (none)) else (none)) else (if x3 = 1 then (if 0 < (x4.length : Int) then (some (x4.set (0 : Int).toNat ((x0) % 256))) else (none)) else (if x3 = 2 then (if 0 < (x4.length : Int) then (some (x4.set (0 : Int).toNat ((wrap64 (192 + x0)) % 256))) else (none)) else (if x3 = 3 then (if 0 < (x4.length : Int) then (some (x4.set (0 : Int).toNat ((wrap64 (224 + x0)) % 256))) else (none)) else (if 0 < (x4.length : Int) then (some (x4.set (0 : Int).toNat ((wrap64 (240 + x0)) % 256))) else (none)))))
def triglyphref02_Put.f (k : Nat) (a0 : Int) : Option (List Int) := (triglyphref02_width.f a0).bind fun t209 => (if 0 ≤ t209 then (if (t209 : Int).toNat ≤ 281474976710656 then (triglyphref02_Put.l0 k a0 t209 (List.replicate (t209 : Int).toNat 0) (wrap64 (t209 - 1))) else (none)) else (none))
theorem triglyphref02_Put.mono_l : ∀ k, (∀ y0 y1 y2 y3, LeO (triglyphref02_Put.l0 k y0 y1 y2 y3) (triglyphref02_Put.l0 (k + 1) y0 y1 y2 y3))
 | 0 => fun _ _ _ _ r h => by simp [triglyphref02_Put.l0] at h
 | k + 1 => by
  have ih0 := triglyphref02_Put.mono_l k
  ·intro y0 y1 y2 y3
   unfold triglyphref02_Put.l0
   repeat' first
   | (with_reducible exact ih0 _ _ _ _)
   | (with_reducible exact LeO.refl _)
   | (with_reducible exact LeO.none _)
   | (with_reducible refine LeO.ite ?_ ?_)
   | (with_reducible refine LeO.bind ?_ (fun _ => ?_))
theorem triglyphref02_Put.mono : ∀ a0 k, LeO (triglyphref02_Put.f k a0) (triglyphref02_Put.f (k + 1) a0) := by
 intro a0 k
 have ih0 := triglyphref02_Put.mono_l k
 unfold triglyphref02_Put.f
 repeat' first
   | (with_reducible exact ih0 _ _ _ _)
   | (with_reducible exact LeO.refl _)
   | (with_reducible exact LeO.none _)
   | (with_reducible refine LeO.ite ?_ ?_)
   | (with_reducible refine LeO.bind ?_ (fun _ => ?_))
set_option maxHeartbeats 8000000 in
set_option maxRecDepth 100000 in
theorem triglyphref02_Put.calls (k : Nat) (a0 : Int) (r : List Int) (w : World) (h : triglyphref02_Put.f k a0 = some r) :
  Calls Try.prog 29 #[.int .i64 a0] w fun e w' => ∃ v0_ : Value, e = .returned (v0_) ∧ Kd.R (Kd.int .u8) 5 w' w.heap.size (fun _ => True) v0_ r ∧ Below w.heap.size w w' := by
 have HB := gA (Below.refl w.heap.size w)
 have H : ((triglyphref02_width.f a0).bind fun t209 => (if 0 ≤ t209 then (if (t209 : Int).toNat ≤ 281474976710656 then (triglyphref02_Put.l0 k a0 t209 (List.replicate (t209 : Int).toNat 0) (wrap64 (t209 - 1))) else (none)) else (none))) = some r := h
 clear h
 replace H := Option.bind_eq_some_iff.mp H
 obtain ⟨t209, A20, H⟩ := H
 replace H : (if 0 ≤ t209 then (if (t209 : Int).toNat ≤ 281474976710656 then (triglyphref02_Put.l0 k a0 t209 (List.replicate (t209 : Int).toNat 0) (wrap64 (t209 - 1))) else (none)) else (none)) = some r := H
 have A2 := gA A20
 clear A20
 obtain ⟨c3, H⟩ := iS H
 have c3b0 := eq_true c3
 have c3b1 := decide_eq_true c3
 clear c3
 obtain ⟨c4, H⟩ := iS H
 have c4b0 := eq_true c4
 have c4b1 := decide_eq_true c4
 clear c4
 obtain ⟨y210, hy210⟩ : ∃ y_ : List Int, y_ = (List.replicate (t209 : Int).toNat 0) := ⟨_, rfl⟩
 replace H : (triglyphref02_Put.l0 k a0 t209 y210 (wrap64 (t209 - 1))) = some r := by first | (rw [hy210]; with_reducible exact H) | (have H2_ := (Option.bind_some _ _).symm.trans H; rw [hy210]; with_reducible exact H2_) | (have H2_ := (Option.bind_some _ _).symm.trans H; with_reducible exact H2_) | with_reducible exact H | (rw [hy210]; exact H) | exact H
 have Ny210 := gA hy210
 clear hy210
 have H' := gA H
 clear H
 go_enter Try.func29, Try.ntmps29
 go_wp2_with (first | ((with_reducible refine gate_callee (f := 43) rfl ?_); refine goesL_ (some 7) rfl rfl Try.func43 (by kernel_rfl) rfl #[.int .i64 a0] rfl (by (try simp only [List.map_toArray, List.map_cons, List.map_nil]); first | done | rfl | (simp only [List.length_drop, List.length_take]; rfl)) ?_; (with_reducible refine (triglyphref02_width.calls a0 t209 _ A2.out).mono ?_); rintro e w' ⟨rfl, ⟨nd, rfl⟩⟩; refine ⟨_, rfl, ?_⟩) | ((with_reducible refine gate_dst (N := 9) rfl ?_); refine Kd.R_make (Kd.int .u8) _ 5 rfl (N := 9) rfl 44 _ _ rfl t209 rfl rfl Try.underlying44 (.int .u8 0) 1 info5 rfl (by decide) (by omega) 0 (ok := fun _ => True) (okp := fun _ => True) rfl (fun _ hk => hk) trivial (of_decide_eq_true (by assumption)) (Nat.le_trans (Nat.mul_le_mul_right _ (of_decide_eq_true (by assumption) : t209.toNat ≤ 281474976710656)) (by omega)) (Below.refl _ _) (Nat.le_refl _) ?_; intro v211 w5 ho6 hb hg_ hnew_; clear hg_ hnew_; (first | rw [← Ny210.out] at ho6 | (simp only [Int.reduceToNat] at ho6; rw [← Ny210.out] at ho6)); have HO212 := gA (Kd.R_lower ho6 (below_size (gB HB))); replace HB := gA (below_step (gB HB) hb); clear hb ho6))
 go_loopg [0, 5] k (fun kq v0 v5 w' => ∃ (x0_1 : Int) (x4_1 : List Int) (x5_1 : Int), v0 = .int .i64 x0_1 ∧ v5 = .int .i64 x5_1 ∧ Aside0 (triglyphref02_Put.l0 kq x0_1 t209 x4_1 x5_1 = some r) ∧ Aside0 (kq ≤ k) ∧ Aside0 (Kd.R (Kd.int .u8) 5 w' w.heap.size (fun _ => True) v211 x4_1) ∧ Aside0 (Below w.heap.size w w'))
 case atStart => exact ⟨(a0), (y210), (wrap64 (t209 - 1)), (rfl), (rfl), H', ⟨Nat.le_refl _⟩, ⟨gR HO212⟩, ⟨gB HB⟩⟩
 case round =>
  clear H'
  try clear c2
  try clear p2
  try clear c3
  try clear c3b0
  try clear c3b1
  try clear c4
  try clear c4b0
  try clear c4b1
  try clear p6
  obtain ⟨x0_1, x4_1, x5_1, rfl, rfl, HA, HK1, HO_4, HB⟩ := hrel
  cases gk with
  | zero => exact absurd HA.out (by simp [triglyphref02_Put.l0])
  | succ k1 =>
   have H := HA.out; clear HA
   simp only [triglyphref02_Put.l0] at H
   by_cases c7 : x5_1 > 0
   ·rw [if_pos c7] at H
    have c7b0 : decide (0 < x5_1) = true := decide_eq_true c7
    clear c7
    obtain ⟨c8, H⟩ := iS H
    have c8b0 := decide_eq_true c8
    clear c8
    obtain ⟨c9, H⟩ := iS H
    have c9b0 := decide_eq_true c9
    clear c9
    obtain ⟨y213, hy213⟩ : ∃ y_ : List Int, y_ = (x4_1.set (x5_1 : Int).toNat ((wrap64 (128 + (Int.tmod x0_1 64))) % 256)) := ⟨_, rfl⟩
    replace H : (triglyphref02_Put.l0 k1 (wrap64 (Int.tdiv x0_1 64)) t209 y213 (wrap64 (x5_1 - 1))) = some r := by first | (rw [hy213]; with_reducible exact H) | (have H2_ := (Option.bind_some _ _).symm.trans H; rw [hy213]; with_reducible exact H2_) | (have H2_ := (Option.bind_some _ _).symm.trans H; with_reducible exact H2_) | with_reducible exact H | (rw [hy213]; exact H) | exact H
    have Ny213 := gA hy213
    clear hy213
    have H' := gA H
    clear H
    have p10 : 0 ≤ (x5_1 : Int) := of_decide_eq_true (by assumption)
    have q10 : (x5_1 : Int) < ((x4_1.length : Int) : Int) := of_decide_eq_true (by assumption)
    obtain ⟨go10, co10, eo10, gb10, gl10, cl10, HG10⟩ := Kd.R_form HO_4.out (by omega)
    (first | cases eo10 | (injection eo10 with ea_ en_ ec_; (first | subst ea_ | (injection ea_ with ea_; subst ea_)); subst ec_; clear en_))
    have GB10 := gA gb10
    have GG10 := gA HG10
    clear gb10 gl10 HG10
    obtain ⟨hx10_0, hf10_0⟩ := Kd.R_celln 0 HO_4.out (x5_1 : Int) p10 q10
    replace p10 := eq_true p10
    replace q10 := eq_true q10
    have HP11 := Kd.R_putg HO_4.out (x5_1 : Int) ((wrap64 (128 + (Int.tmod x0_1 64))) % 256)
    go_wp2_with (first | ((with_reducible refine gate_store (t := 5) (p := 22) rfl ?_); refine store_event (t := 5) (p := 22) (v := ?vo_w12) (w1 := (wr.setCell ⟨go10, (x5_1 : Int).toNat, none⟩ (.int .u8 ((wrap64 (128 + (Int.tmod x0_1 64))) % 256)))) ?hg ?ho ?hn ?hr ?_; (case ho => rfl); (case hg => rfl); (case hn => rfl); (case hr => first | (go_simp; done) | (go_simp; rfl)); intro w12 hw; have hg : wr.grownBy w12 (some go10) := (by rw [hw]; exact HP11.2); have hp_ : Kd.R (Kd.int .u8) 5 w12 w.heap.size (fun _ => True) (.slice (some ⟨go10, 0, none⟩) x4_1.length co10) y213 := (by rw [hw, Ny213.out]; exact HP11.1); clear HP11; replace HO_4 := gA (hp_); replace HB := gA ((by rw [hw]; exact below_set (HB.out) GB10.out : Below w.heap.size w w12)); clear hg hw hp_))
    go_roundg k1
    case measure => have := HK1.out; omega
    case rel => exact ⟨(wrap64 (Int.tdiv x0_1 64)), (y213), (wrap64 (x5_1 - 1)), (rfl), (rfl), H', ⟨by have := HK1.out; omega⟩, ⟨gR HO_4⟩, ⟨gB HB⟩⟩
   ·rw [if_neg c7] at H
    have c7b0 : decide (0 < x5_1) = false := decide_eq_false c7
    clear c7
    by_cases c13 : t209 = 1
    ·rw [if_pos c13] at H
     have c13b0 : (t209 == 1) = true := beq_iff_eq.mpr c13
     have c13b1 : (t209 != 1) = false := bne_eq_false_iff_eq.mpr c13
     clear c13
     obtain ⟨c14, H⟩ := iS H
     have c14b0 := decide_eq_true c14
     have c14b1 : decide (0 < x4_1.length) = true := decide_eq_true (by omega)
     clear c14
     obtain ⟨y214, hy214⟩ : ∃ y_ : List Int, y_ = (x4_1.set (0 : Int).toNat ((x0_1) % 256)) := ⟨_, rfl⟩
     replace H : (some y214) = some r := by first | (rw [hy214]; with_reducible exact H) | (have H2_ := (Option.bind_some _ _).symm.trans H; rw [hy214]; with_reducible exact H2_) | (have H2_ := (Option.bind_some _ _).symm.trans H; with_reducible exact H2_) | with_reducible exact H | (rw [hy214]; exact H) | exact H
     have Ny214 := gA hy214
     clear hy214
     obtain rfl := Option.some.inj H
     have p15 : 0 ≤ (0 : Int) := (by omega)
     have q15 : (0 : Int) < ((x4_1.length : Int) : Int) := of_decide_eq_true (by assumption)
     have qi15 : (0 < x4_1.length) = True := eq_true (by omega)
     obtain ⟨go15, co15, eo15, gb15, gl15, cl15, HG15⟩ := Kd.R_form HO_4.out (by omega)
     (first | cases eo15 | (injection eo15 with ea_ en_ ec_; (first | subst ea_ | (injection ea_ with ea_; subst ea_)); subst ec_; clear en_))
     have GB15 := gA gb15
     have GG15 := gA HG15
     clear gb15 gl15 HG15
     obtain ⟨hx15_0, hf15_0⟩ := Kd.R_celln 0 HO_4.out (0 : Int) p15 q15
     (try rw [show ((0 : Int)).toNat = 0 from rfl] at hx15_0)
     (try simp only [Nat.reduceMul, Nat.zero_mul, Nat.zero_add, Nat.reduceAdd] at hx15_0)
     (try rw [show ((0 : Int)).toNat = 0 from rfl] at hf15_0)
     (try simp only [Nat.reduceMul, Nat.zero_mul, Nat.zero_add, Nat.reduceAdd] at hf15_0)
     replace p15 := eq_true p15
     replace q15 := eq_true q15
     have HP16 := Kd.R_putg HO_4.out (0 : Int) ((x0_1) % 256)
     go_wp2_with (first | ((with_reducible refine gate_store (t := 5) (p := 36) rfl ?_); refine store_event (t := 5) (p := 36) (v := ?vo_w17) (w1 := (wr.setCell ⟨go15, (0 : Int).toNat, none⟩ (.int .u8 ((x0_1) % 256)))) ?hg ?ho ?hn ?hr ?_; (case ho => rfl); (case hg => rfl); (case hn => rfl); (case hr => first | (go_simp; done) | (go_simp; rfl)); intro w17 hw; have hg : wr.grownBy w17 (some go15) := (by rw [hw]; exact HP16.2); have hp_ : Kd.R (Kd.int .u8) 5 w17 w.heap.size (fun _ => True) (.slice (some ⟨go15, 0, none⟩) x4_1.length co15) y214 := (by rw [hw, Ny214.out]; exact HP16.1); clear HP16; replace HO_4 := gA (hp_); replace HB := gA ((by rw [hw]; exact below_set (HB.out) GB15.out : Below w.heap.size w w17)); clear hg hw hp_))
     go_ret
     exact ⟨_, rfl, gR HO_4, gB HB⟩
    ·rw [if_neg c13] at H
     have c13b0 : (t209 == 1) = false := beq_eq_false_iff_ne.mpr c13
     have c13b1 : (t209 != 1) = true := bne_iff_ne.mpr c13
     by_cases c18 : t209 = 2
     ·rw [if_pos c18] at H
      have c18b0 : (t209 == 2) = true := beq_iff_eq.mpr c18
      have c18b1 : (t209 != 2) = false := bne_eq_false_iff_eq.mpr c18
      clear c18
      obtain ⟨c19, H⟩ := iS H
      have c19b0 := decide_eq_true c19
      have c19b1 : decide (0 < x4_1.length) = true := decide_eq_true (by omega)
      clear c19
      obtain ⟨y215, hy215⟩ : ∃ y_ : List Int, y_ = (x4_1.set (0 : Int).toNat ((wrap64 (192 + x0_1)) % 256)) := ⟨_, rfl⟩
      replace H : (some y215) = some r := by first | (rw [hy215]; with_reducible exact H) | (have H2_ := (Option.bind_some _ _).symm.trans H; rw [hy215]; with_reducible exact H2_) | (have H2_ := (Option.bind_some _ _).symm.trans H; with_reducible exact H2_) | with_reducible exact H | (rw [hy215]; exact H) | exact H
      have Ny215 := gA hy215
      clear hy215
      obtain rfl := Option.some.inj H
      have p20 : 0 ≤ (0 : Int) := (by omega)
      have q20 : (0 : Int) < ((x4_1.length : Int) : Int) := of_decide_eq_true (by assumption)
      have qi20 : (0 < x4_1.length) = True := eq_true (by omega)
      obtain ⟨go20, co20, eo20, gb20, gl20, cl20, HG20⟩ := Kd.R_form HO_4.out (by omega)
      (first | cases eo20 | (injection eo20 with ea_ en_ ec_; (first | subst ea_ | (injection ea_ with ea_; subst ea_)); subst ec_; clear en_))
      have GB20 := gA gb20
      have GG20 := gA HG20
      clear gb20 gl20 HG20
      obtain ⟨hx20_0, hf20_0⟩ := Kd.R_celln 0 HO_4.out (0 : Int) p20 q20
      (try rw [show ((0 : Int)).toNat = 0 from rfl] at hx20_0)
      (try simp only [Nat.reduceMul, Nat.zero_mul, Nat.zero_add, Nat.reduceAdd] at hx20_0)
      (try rw [show ((0 : Int)).toNat = 0 from rfl] at hf20_0)
      (try simp only [Nat.reduceMul, Nat.zero_mul, Nat.zero_add, Nat.reduceAdd] at hf20_0)
      replace p20 := eq_true p20
      replace q20 := eq_true q20
      have HP21 := Kd.R_putg HO_4.out (0 : Int) ((wrap64 (192 + x0_1)) % 256)
      go_wp2_with (first | ((with_reducible refine gate_store (t := 5) (p := 43) rfl ?_); refine store_event (t := 5) (p := 43) (v := ?vo_w22) (w1 := (wr.setCell ⟨go20, (0 : Int).toNat, none⟩ (.int .u8 ((wrap64 (192 + x0_1)) % 256)))) ?hg ?ho ?hn ?hr ?_; (case ho => rfl); (case hg => rfl); (case hn => rfl); (case hr => first | (go_simp; done) | (go_simp; rfl)); intro w22 hw; have hg : wr.grownBy w22 (some go20) := (by rw [hw]; exact HP21.2); have hp_ : Kd.R (Kd.int .u8) 5 w22 w.heap.size (fun _ => True) (.slice (some ⟨go20, 0, none⟩) x4_1.length co20) y215 := (by rw [hw, Ny215.out]; exact HP21.1); clear HP21; replace HO_4 := gA (hp_); replace HB := gA ((by rw [hw]; exact below_set (HB.out) GB20.out : Below w.heap.size w w22)); clear hg hw hp_))
      go_ret
      exact ⟨_, rfl, gR HO_4, gB HB⟩
     ·rw [if_neg c18] at H
      have c18b0 : (t209 == 2) = false := beq_eq_false_iff_ne.mpr c18
      have c18b1 : (t209 != 2) = true := bne_iff_ne.mpr c18
      by_cases c23 : t209 = 3
      ·rw [if_pos c23] at H
       have c23b0 : (t209 == 3) = true := beq_iff_eq.mpr c23
       have c23b1 : (t209 != 3) = false := bne_eq_false_iff_eq.mpr c23
       clear c23
       obtain ⟨c24, H⟩ := iS H
       have c24b0 := decide_eq_true c24
       have c24b1 : decide (0 < x4_1.length) = true := decide_eq_true (by omega)
       clear c24
       obtain ⟨y216, hy216⟩ : ∃ y_ : List Int, y_ = (x4_1.set (0 : Int).toNat ((wrap64 (224 + x0_1)) % 256)) := ⟨_, rfl⟩
       replace H : (some y216) = some r := by first | (rw [hy216]; with_reducible exact H) | (have H2_ := (Option.bind_some _ _).symm.trans H; rw [hy216]; with_reducible exact H2_) | (have H2_ := (Option.bind_some _ _).symm.trans H; with_reducible exact H2_) | with_reducible exact H | (rw [hy216]; exact H) | exact H
       have Ny216 := gA hy216
       clear hy216
       obtain rfl := Option.some.inj H
       have p25 : 0 ≤ (0 : Int) := (by omega)
       have q25 : (0 : Int) < ((x4_1.length : Int) : Int) := of_decide_eq_true (by assumption)
       have qi25 : (0 < x4_1.length) = True := eq_true (by omega)
       obtain ⟨go25, co25, eo25, gb25, gl25, cl25, HG25⟩ := Kd.R_form HO_4.out (by omega)
       (first | cases eo25 | (injection eo25 with ea_ en_ ec_; (first | subst ea_ | (injection ea_ with ea_; subst ea_)); subst ec_; clear en_))
       have GB25 := gA gb25
       have GG25 := gA HG25
       clear gb25 gl25 HG25
       obtain ⟨hx25_0, hf25_0⟩ := Kd.R_celln 0 HO_4.out (0 : Int) p25 q25
       (try rw [show ((0 : Int)).toNat = 0 from rfl] at hx25_0)
       (try simp only [Nat.reduceMul, Nat.zero_mul, Nat.zero_add, Nat.reduceAdd] at hx25_0)
       (try rw [show ((0 : Int)).toNat = 0 from rfl] at hf25_0)
       (try simp only [Nat.reduceMul, Nat.zero_mul, Nat.zero_add, Nat.reduceAdd] at hf25_0)
       replace p25 := eq_true p25
       replace q25 := eq_true q25
       have HP26 := Kd.R_putg HO_4.out (0 : Int) ((wrap64 (224 + x0_1)) % 256)
       go_wp2_with (first | ((with_reducible refine gate_store (t := 5) (p := 50) rfl ?_); refine store_event (t := 5) (p := 50) (v := ?vo_w27) (w1 := (wr.setCell ⟨go25, (0 : Int).toNat, none⟩ (.int .u8 ((wrap64 (224 + x0_1)) % 256)))) ?hg ?ho ?hn ?hr ?_; (case ho => rfl); (case hg => rfl); (case hn => rfl); (case hr => first | (go_simp; done) | (go_simp; rfl)); intro w27 hw; have hg : wr.grownBy w27 (some go25) := (by rw [hw]; exact HP26.2); have hp_ : Kd.R (Kd.int .u8) 5 w27 w.heap.size (fun _ => True) (.slice (some ⟨go25, 0, none⟩) x4_1.length co25) y216 := (by rw [hw, Ny216.out]; exact HP26.1); clear HP26; replace HO_4 := gA (hp_); replace HB := gA ((by rw [hw]; exact below_set (HB.out) GB25.out : Below w.heap.size w w27)); clear hg hw hp_))
       go_ret
       exact ⟨_, rfl, gR HO_4, gB HB⟩
      ·rw [if_neg c23] at H
       have c23b0 : (t209 == 3) = false := beq_eq_false_iff_ne.mpr c23
       have c23b1 : (t209 != 3) = true := bne_iff_ne.mpr c23
       obtain ⟨c28, H⟩ := iS H
       have c28b0 := decide_eq_true c28
       have c28b1 : decide (0 < x4_1.length) = true := decide_eq_true (by omega)
       clear c28
       obtain ⟨y217, hy217⟩ : ∃ y_ : List Int, y_ = (x4_1.set (0 : Int).toNat ((wrap64 (240 + x0_1)) % 256)) := ⟨_, rfl⟩
       replace H : (some y217) = some r := by first | (rw [hy217]; with_reducible exact H) | (have H2_ := (Option.bind_some _ _).symm.trans H; rw [hy217]; with_reducible exact H2_) | (have H2_ := (Option.bind_some _ _).symm.trans H; with_reducible exact H2_) | with_reducible exact H | (rw [hy217]; exact H) | exact H
       have Ny217 := gA hy217
       clear hy217
       obtain rfl := Option.some.inj H
       have p29 : 0 ≤ (0 : Int) := (by omega)
       have q29 : (0 : Int) < ((x4_1.length : Int) : Int) := of_decide_eq_true (by assumption)
       have qi29 : (0 < x4_1.length) = True := eq_true (by omega)
       obtain ⟨go29, co29, eo29, gb29, gl29, cl29, HG29⟩ := Kd.R_form HO_4.out (by omega)
       (first | cases eo29 | (injection eo29 with ea_ en_ ec_; (first | subst ea_ | (injection ea_ with ea_; subst ea_)); subst ec_; clear en_))
       have GB29 := gA gb29
       have GG29 := gA HG29
       clear gb29 gl29 HG29
       obtain ⟨hx29_0, hf29_0⟩ := Kd.R_celln 0 HO_4.out (0 : Int) p29 q29
       (try rw [show ((0 : Int)).toNat = 0 from rfl] at hx29_0)
       (try simp only [Nat.reduceMul, Nat.zero_mul, Nat.zero_add, Nat.reduceAdd] at hx29_0)
       (try rw [show ((0 : Int)).toNat = 0 from rfl] at hf29_0)
       (try simp only [Nat.reduceMul, Nat.zero_mul, Nat.zero_add, Nat.reduceAdd] at hf29_0)
       replace p29 := eq_true p29
       replace q29 := eq_true q29
       have HP30 := Kd.R_putg HO_4.out (0 : Int) ((wrap64 (240 + x0_1)) % 256)
       go_wp2_with (first | ((with_reducible refine gate_store (t := 5) (p := 30) rfl ?_); refine store_event (t := 5) (p := 30) (v := ?vo_w31) (w1 := (wr.setCell ⟨go29, (0 : Int).toNat, none⟩ (.int .u8 ((wrap64 (240 + x0_1)) % 256)))) ?hg ?ho ?hn ?hr ?_; (case ho => rfl); (case hg => rfl); (case hn => rfl); (case hr => first | (go_simp; done) | (go_simp; rfl)); intro w31 hw; have hg : wr.grownBy w31 (some go29) := (by rw [hw]; exact HP30.2); have hp_ : Kd.R (Kd.int .u8) 5 w31 w.heap.size (fun _ => True) (.slice (some ⟨go29, 0, none⟩) x4_1.length co29) y217 := (by rw [hw, Ny217.out]; exact HP30.1); clear HP30; replace HO_4 := gA (hp_); replace HB := gA ((by rw [hw]; exact below_set (HB.out) GB29.out : Below w.heap.size w w31)); clear hg hw hp_))
       go_ret
       exact ⟨_, rfl, gR HO_4, gB HB⟩
end Go.Proofs.Yteamkcgkhcalhaa.P
