/- Written by a program of this session: the functions that the laws reach, what each comes to, and each law as it is stated, for every input. No condition. -/
import Derived.Test.YtfblidojoepcpaaPx0
import Derived.Test.YtfblidojoepcpaaPx5
namespace Go.Proofs.Ytfblidojoepcpaa.P
open Go.RowKit Go.Proofs.YtfblidojoepcpaaW.PrintWords Go.Proofs.YtfblidojoepcpaaW.PrintLast Go.Proofs.YtfblidojoepcpaaW.PrintMore
attribute [local go_sem] max2_int min2_int max_two min_two max_three min_three max_four min_four   -- for this text's walks alone
set_option linter.unusedVariables false
set_option linter.unusedSimpArgs false
mutual
def triglyphref10_weight.l0 : Nat → Int → Int → Int → Int → Int → Int → ByteArray → List Int → List (S52) → List (S34) → Int → Option (Int)
 | 0, _, _, _, _, _, _, _, _, _, _, _ => none
 | k + 1, x1, x2, x7, x8, x194000, x194001, x194002, x194003, x194004, x194005, x194006 => if x8 < (x194005.length : Int) then (triglyphref10_weight.j1 k x1 x2 x7 x8 (decide (x7 ≤ x1)) x194000 x194001 x194002 x194003 x194004 x194005 x194006) else (triglyphref10_weight.j1 k x1 x2 x7 x8 false x194000 x194001 x194002 x194003 x194004 x194005 x194006)
def triglyphref10_weight.j1 : Nat → Int → Int → Int → Int → Bool → Int → Int → ByteArray → List Int → List (S52) → List (S34) → Int → Option (Int)
 | 0, _, _, _, _, _, _, _, _, _, _, _, _ => none
 | k + 1, x1, x2, x7, x8, x23, x194000, x194001, x194002, x194003, x194004, x194005, x194006 => if x23 = true then (if x2 = 0 then (some (wrap64 (x1 + 1))) else (if 0 ≤ x8 then (if x8 < (x194005.length : Int) then ((triglyphref10_weight.f k ((rd_T34 x194005 x8).f0) ((rd_T34 x194005 x8).f1) ((rd_T34 x194005 x8).f2) ((rd_T34 x194005 x8).f3.f0) ((rd_T34 x194005 x8).f3.f1) ((rd_T34 x194005 x8).f4) ((rd_T34 x194005 x8).f5) (wrap64 (x1 - x7)) (wrap64 (x2 - 1))).bind fun t196 => (triglyphref10_weight.l0 k x1 x2 (wrap64 (x7 + t196)) (wrap64 (x8 + 1)) x194000 x194001 x194002 x194003 x194004 x194005 x194006)) else (none)) else (none))) else (some x7)
def triglyphref10_weight.f : Nat → Int → Int → ByteArray → List Int → List (S52) → List (S34) → Int → Int → Int → Option (Int)
 | 0, _, _, _, _, _, _, _, _, _ => none
 | k + 1, a0_0, a0_1, a0_2, l0_3, l0_4, l0_5, a0_6, a1, a2 => (triglyphref03_Weight.f k l0_3 l0_4 a1).bind fun t194 => (triglyphref10_weight.l0 k a1 a2 (wrap64 (1 + t194)) 0 a0_0 a0_1 a0_2 l0_3 l0_4 l0_5 a0_6)
end
theorem triglyphref10_weight.mono_l : ∀ k, (∀ y0 y1 y2 y3 y4 y5 y6 y7 y8, LeO (triglyphref10_weight.f k y0 y1 y2 y3 y4 y5 y6 y7 y8) (triglyphref10_weight.f (k + 1) y0 y1 y2 y3 y4 y5 y6 y7 y8)) ∧ (∀ y0 y1 y2 y3 y4 y5 y6 y7 y8 y9 y10, LeO (triglyphref10_weight.l0 k y0 y1 y2 y3 y4 y5 y6 y7 y8 y9 y10) (triglyphref10_weight.l0 (k + 1) y0 y1 y2 y3 y4 y5 y6 y7 y8 y9 y10)) ∧ (∀ y0 y1 y2 y3 y4 y5 y6 y7 y8 y9 y10 y11, LeO (triglyphref10_weight.j1 k y0 y1 y2 y3 y4 y5 y6 y7 y8 y9 y10 y11) (triglyphref10_weight.j1 (k + 1) y0 y1 y2 y3 y4 y5 y6 y7 y8 y9 y10 y11))
 | 0 => ⟨fun _ _ _ _ _ _ _ _ _ r h => by simp [triglyphref10_weight.f] at h, fun _ _ _ _ _ _ _ _ _ _ _ r h => by simp [triglyphref10_weight.l0] at h, fun _ _ _ _ _ _ _ _ _ _ _ _ r h => by simp [triglyphref10_weight.j1] at h⟩
 | k + 1 => by
  obtain ⟨ih0, ih1, ih2⟩ := triglyphref10_weight.mono_l k
  refine ⟨?_, ?_, ?_⟩
  ·intro y0 y1 y2 y3 y4 y5 y6 y7 y8
   unfold triglyphref10_weight.f
   repeat' first
   | (with_reducible exact ih0 _ _ _ _ _ _ _ _ _)
   | (with_reducible exact ih1 _ _ _ _ _ _ _ _ _ _ _)
   | (with_reducible exact ih2 _ _ _ _ _ _ _ _ _ _ _ _)
   | (with_reducible exact triglyphref03_Weight.mono _ _ _ _)
   | (with_reducible exact LeO.refl _)
   | (with_reducible exact LeO.none _)
   | (with_reducible refine LeO.ite ?_ ?_)
   | (with_reducible refine LeO.bind ?_ (fun _ => ?_))



   | exact triglyphref03_Weight.mono _ _ _ _



  ·intro y0 y1 y2 y3 y4 y5 y6 y7 y8 y9 y10
   unfold triglyphref10_weight.l0
   repeat' first
   | (with_reducible exact ih0 _ _ _ _ _ _ _ _ _)
   | (with_reducible exact ih1 _ _ _ _ _ _ _ _ _ _ _)
   | (with_reducible exact ih2 _ _ _ _ _ _ _ _ _ _ _ _)
   | (with_reducible exact triglyphref03_Weight.mono _ _ _ _)
   | (with_reducible exact LeO.refl _)
   | (with_reducible exact LeO.none _)
   | (with_reducible refine LeO.ite ?_ ?_)
   | (with_reducible refine LeO.bind ?_ (fun _ => ?_))



   | exact triglyphref03_Weight.mono _ _ _ _



  ·intro y0 y1 y2 y3 y4 y5 y6 y7 y8 y9 y10 y11
   unfold triglyphref10_weight.j1
   repeat' first
   | (with_reducible exact ih0 _ _ _ _ _ _ _ _ _)
   | (with_reducible exact ih1 _ _ _ _ _ _ _ _ _ _ _)
   | (with_reducible exact ih2 _ _ _ _ _ _ _ _ _ _ _ _)
   | (with_reducible exact triglyphref03_Weight.mono _ _ _ _)
   | (with_reducible exact LeO.refl _)
   | (with_reducible exact LeO.none _)
   | (with_reducible refine LeO.ite ?_ ?_)
   | (with_reducible refine LeO.bind ?_ (fun _ => ?_))



   | exact triglyphref03_Weight.mono _ _ _ _
theorem triglyphref10_weight.mono : ∀ a0 a1 a2 a3 a4 a5 a6 a7 a8 k, LeO (triglyphref10_weight.f k a0 a1 a2 a3 a4 a5 a6 a7 a8) (triglyphref10_weight.f (k + 1) a0 a1 a2 a3 a4 a5 a6 a7 a8) := by
 intro a0 a1 a2 a3 a4 a5 a6 a7 a8 k
 obtain ⟨ih0, ih1, ih2⟩ := triglyphref10_weight.mono_l k
 exact ih0 a0 a1 a2 a3 a4 a5 a6 a7 a8
set_option maxHeartbeats 8000000 in
set_option maxRecDepth 100000 in
theorem triglyphref10_weight.calls (k : Nat) : ∀ (a0_0 : Int) (a0_1 : Int) (a0_2 : ByteArray) (A0_3 : Option Addr) (c0_3 : Nat) (l0_3 : List Int) (A0_4 : Option Addr) (c0_4 : Nat) (l0_4 : List (S52)) (A0_5 : Option Addr) (c0_5 : Nat) (l0_5 : List (S34)) (a0_6 : Int) (a1 : Int) (a2 : Int) (r : Int) (w : World) (hr0_3 : Kd.C (Kd.int .i64) w A0_3 l0_3.length l0_3) (hc0_3 : l0_3.length ≤ c0_3) (hr0_4 : Kd.C k52 w A0_4 l0_4.length l0_4) (hc0_4 : l0_4.length ≤ c0_4) (hr0_5 : Kd.C k34 w A0_5 l0_5.length l0_5) (hc0_5 : l0_5.length ≤ c0_5) (h : triglyphref10_weight.f k a0_0 a0_1 a0_2 l0_3 l0_4 l0_5 a0_6 a1 a2 = some r),
  Calls Try.prog 40 #[.agg #[.int .i64 a0_0, .int .i64 a0_1, .string a0_2, .slice A0_3 l0_3.length c0_3, .slice A0_4 l0_4.length c0_4, .slice A0_5 l0_5.length c0_5, .int .i64 a0_6], .int .i64 a1, .int .i64 a2] w fun e w' => e = .returned (.int .i64 r) ∧ Below w.heap.size w w' := by
 induction k using Nat.strongRecOn with
 | _ k ih =>
 intro a0_0 a0_1 a0_2 A0_3 c0_3 l0_3 A0_4 c0_4 l0_4 A0_5 c0_5 l0_5 a0_6 a1 a2 r w hr0_3 hc0_3 hr0_4 hc0_4 hr0_5 hc0_5 h
 cases k with
 | zero => exact absurd h (by simp [triglyphref10_weight.f])
 | succ k =>
 simp only [triglyphref10_weight.f] at h
 have hu34 := Try.underlying34
 have hu25 := Try.underlying25
 have HR0_3 := gA hr0_3
 have HC0_3 := gA hc0_3
 clear hr0_3 hc0_3
 have HR0_4 := gA hr0_4
 have HC0_4 := gA hc0_4
 clear hr0_4 hc0_4
 have HR0_5 := gA hr0_5
 have HC0_5 := gA hc0_5
 clear hr0_5 hc0_5
 have HB := gA (Below.refl w.heap.size w)
 have H : ((triglyphref03_Weight.f k l0_3 l0_4 a1).bind fun t194 => (triglyphref10_weight.l0 k a1 a2 (wrap64 (1 + t194)) 0 a0_0 a0_1 a0_2 l0_3 l0_4 l0_5 a0_6)) = some r := h
 clear h
 replace H := Option.bind_eq_some_iff.mp H
 obtain ⟨t194, A40, H⟩ := H
 replace H : (triglyphref10_weight.l0 k a1 a2 (wrap64 (1 + t194)) 0 a0_0 a0_1 a0_2 l0_3 l0_4 l0_5 a0_6) = some r := H
 have A4 := gA A40
 clear A40
 have H' := gA H
 clear H
 go_enter Try.func40, Try.ntmps40
 go_wp2_with (first | ((with_reducible refine gate_dst (N := 3) rfl ?_); refine box_event ?hg (N := 3) ?hd (cs := #[.int .i64 a0_0, .int .i64 a0_1, .string a0_2, .slice A0_3 l0_3.length c0_3, .slice A0_4 l0_4.length c0_4, .slice A0_5 l0_5.length c0_5, .int .i64 a0_6]) (t := 34) ?hr ?_; (case hd => rfl); (case hg => rfl); (case hr => first | (go_simp; done) | (go_simp; rfl)); intro gb193 hg w5 hbox hb; have BK193 := gA (hbox); have GW193 := gA ((by rw [hg]; exact (below_size (gB HB)) : w.heap.size ≤ gb193)); have GE193 := gA ((by rw [hg]; exact (below_size (gB HB)) : w.heap.size ≤ gb193)); replace HB := gA (below_step (gB HB) hb); clear hb hbox hg; have hcz6_0 := gz BK193 0 rfl; have hcz6_1 := gz BK193 1 rfl; have hcz6_2 := gz BK193 2 rfl; have hcz6_3 := gz BK193 3 rfl; have hcz6_4 := gz BK193 4 rfl; have hcz6_5 := gz BK193 5 rfl; have hcz6_6 := gz BK193 6 rfl; have hfz6_0 := blk_frozen BK193.out 0; have hfz6_1 := blk_frozen BK193.out 1; have hfz6_2 := blk_frozen BK193.out 2; have hfz6_3 := blk_frozen BK193.out 3; have hfz6_4 := blk_frozen BK193.out 4; have hfz6_5 := blk_frozen BK193.out 5; have hfz6_6 := blk_frozen BK193.out 6) | ((with_reducible refine gate_callee (f := 7) rfl ?_); refine goesL_ (some 12) rfl rfl Try.func7 (by kernel_rfl) rfl #[.agg #[.slice A0_3 l0_3.length c0_3, .slice A0_4 l0_4.length c0_4], .int .i64 a1] rfl (by (try simp only [List.map_toArray, List.map_cons, List.map_nil]); first | done | rfl | (simp only [List.length_drop, List.length_take]; rfl)) ?_; (with_reducible refine (triglyphref03_Weight.calls k _ _ l0_3 _ _ l0_4 a1 t194 _ ?side1 ?side2 ?side3 ?side4 A4.out).mono ?_); (case side1 => exact gC HR0_3 HB); (case side2 => exact HC0_3.out); (case side3 => exact gC HR0_4 HB); (case side4 => exact HC0_4.out); rintro e w7 ⟨rfl, hb⟩; refine ⟨_, rfl, ?_⟩; replace BK193 := gA (blk_below (gK BK193) hb); replace HB := gA (below_step (gB HB) hb); (try clear hb)))
 go_loopg [7, 8] k (fun kq v7 v8 w' => ∃ (x7_1 : Int) (x8_1 : Int), v7 = .int .i64 x7_1 ∧ v8 = .int .i64 x8_1 ∧ Aside0 (triglyphref10_weight.l0 kq a1 a2 x7_1 x8_1 a0_0 a0_1 a0_2 l0_3 l0_4 l0_5 a0_6 = some r) ∧ Aside0 (kq ≤ k) ∧ Aside0 (w'.heap[gb193]? = some (.cells #[.int .i64 a0_0, .int .i64 a0_1, .string a0_2, (.slice A0_3 l0_3.length c0_3), (.slice A0_4 l0_4.length c0_4), (.slice A0_5 l0_5.length c0_5), .int .i64 a0_6] 34 (0, 0))) ∧ Aside0 (Below w.heap.size w w'))
 case atStart => exact ⟨(wrap64 (1 + t194)), (0), (rfl), (rfl), H', ⟨Nat.le_refl _⟩, ⟨gK BK193⟩, ⟨by repeat first | exact gB HB | refine below_set ?_ GE193.out⟩⟩
 case round =>
  clear H'
  try clear p2
  try clear c4
  try clear p6
  try clear c7
  try clear hcz6_0
  try clear hcz6_1
  try clear hcz6_2
  try clear hcz6_3
  try clear hcz6_4
  try clear hcz6_5
  try clear hcz6_6
  try clear hfz6_0
  try clear hfz6_1
  try clear hfz6_2
  try clear hfz6_3
  try clear hfz6_4
  try clear hfz6_5
  try clear hfz6_6
  obtain ⟨x7_1, x8_1, rfl, rfl, HA, HK1, BK193, HB⟩ := hrel
  cases gk with
  | zero => exact absurd HA.out (by simp [triglyphref10_weight.l0])
  | succ k1 =>
   have H := HA.out; clear HA
   simp only [triglyphref10_weight.l0] at H
   have HC8 := gA H
   clear H
   go_upto_region 3 with (fail)
   go_cut [23] (fun v23 wc => ∃ (kq : Nat) (x23_7 : Bool), v23 = .bool x23_7 ∧ Aside0 (triglyphref10_weight.j1 kq a1 a2 x7_1 x8_1 x23_7 a0_0 a0_1 a0_2 l0_3 l0_4 l0_5 a0_6 = some r) ∧ Aside0 (kq ≤ k1) ∧ Aside0 (wc.heap[gb193]? = some (.cells #[.int .i64 a0_0, .int .i64 a0_1, .string a0_2, (.slice A0_3 l0_3.length c0_3), (.slice A0_4 l0_4.length c0_4), (.slice A0_5 l0_5.length c0_5), .int .i64 a0_6] 34 (0, 0))) ∧ Aside0 (Below w.heap.size w wc))
   case first =>
    have H := HC8.out; clear HC8
    by_cases c9 : x8_1 < (l0_5.length : Int)
    ·rw [if_pos c9] at H
     have c9b0 := decide_eq_true c9
     clear c9
     (first | rw [c9b0] | (simp only [i64_w, i32_w]; rw [c9b0]) | skip)
     have H' := gA H
     clear H
     have hcz10_0 := gz BK193 0 rfl
     have hcz10_1 := gz BK193 1 rfl
     have hcz10_2 := gz BK193 2 rfl
     have hcz10_3 := gz BK193 3 rfl
     have hcz10_4 := gz BK193 4 rfl
     have hcz10_5 := gz BK193 5 rfl
     have hcz10_6 := gz BK193 6 rfl
     have hfz10_0 := blk_frozen BK193.out 0
     have hfz10_1 := blk_frozen BK193.out 1
     have hfz10_2 := blk_frozen BK193.out 2
     have hfz10_3 := blk_frozen BK193.out 3
     have hfz10_4 := blk_frozen BK193.out 4
     have hfz10_5 := blk_frozen BK193.out 5
     have hfz10_6 := blk_frozen BK193.out 6
     go_wp2
     all_goals (go_meet; (case rel => exact ⟨_, (decide (x7_1 ≤ a1)), (by first | rfl | (simp; done) | (simp [*]; done) | (exfalso; simp_all; done) | (exfalso; simp_all; omega)), H', ⟨by have := HK1.out; first | omega | exact Nat.le_refl _⟩, ⟨gK BK193⟩, ⟨gB HB⟩⟩))
    ·rw [if_neg c9] at H
     have c9b0 := decide_eq_false c9
     clear c9
     (first | rw [c9b0] | (simp only [i64_w, i32_w]; rw [c9b0]) | skip)
     have H' := gA H
     clear H
     have hcz11_0 := gz BK193 0 rfl
     have hcz11_1 := gz BK193 1 rfl
     have hcz11_2 := gz BK193 2 rfl
     have hcz11_3 := gz BK193 3 rfl
     have hcz11_4 := gz BK193 4 rfl
     have hcz11_5 := gz BK193 5 rfl
     have hcz11_6 := gz BK193 6 rfl
     have hfz11_0 := blk_frozen BK193.out 0
     have hfz11_1 := blk_frozen BK193.out 1
     have hfz11_2 := blk_frozen BK193.out 2
     have hfz11_3 := blk_frozen BK193.out 3
     have hfz11_4 := blk_frozen BK193.out 4
     have hfz11_5 := blk_frozen BK193.out 5
     have hfz11_6 := blk_frozen BK193.out 6
     go_wp2
     all_goals (go_meet; (case rel => exact ⟨_, (false), (by first | rfl | (simp; done) | (simp [*]; done) | (exfalso; simp_all; done) | (exfalso; simp_all; omega)), H', ⟨by have := HK1.out; first | omega | exact Nat.le_refl _⟩, ⟨gK BK193⟩, ⟨gB HB⟩⟩))
   case rest =>
    clear HC8
    try clear p2
    try clear c4
    try clear p6
    try clear c7
    try clear c9
    try clear c9b0
    try clear hcz10_0
    try clear hcz10_1
    try clear hcz10_2
    try clear hcz10_3
    try clear hcz10_4
    try clear hcz10_5
    try clear hcz10_6
    try clear hcz11_0
    try clear hcz11_1
    try clear hcz11_2
    try clear hcz11_3
    try clear hcz11_4
    try clear hcz11_5
    try clear hcz11_6
    try clear hcz6_0
    try clear hcz6_1
    try clear hcz6_2
    try clear hcz6_3
    try clear hcz6_4
    try clear hcz6_5
    try clear hcz6_6
    try clear hfz10_0
    try clear hfz10_1
    try clear hfz10_2
    try clear hfz10_3
    try clear hfz10_4
    try clear hfz10_5
    try clear hfz10_6
    try clear hfz11_0
    try clear hfz11_1
    try clear hfz11_2
    try clear hfz11_3
    try clear hfz11_4
    try clear hfz11_5
    try clear hfz11_6
    try clear hfz6_0
    try clear hfz6_1
    try clear hfz6_2
    try clear hfz6_3
    try clear hfz6_4
    try clear hfz6_5
    try clear hfz6_6
    try clear p2
    try clear p6
    obtain ⟨kq, x23_7, rfl, HA, HJ7, BK193, HB⟩ := hcut
    cases kq with
    | zero => exact absurd HA.out (by simp [triglyphref10_weight.j1])
    | succ kj7 =>
     have H := HA.out; clear HA
     simp only [triglyphref10_weight.j1] at H
     by_cases c12 : x23_7 = true
     ·subst c12
      have H1 : (if a2 = 0 then (some (wrap64 (a1 + 1))) else (if 0 ≤ x8_1 then (if x8_1 < (l0_5.length : Int) then ((triglyphref10_weight.f kj7 ((rd_T34 l0_5 x8_1).f0) ((rd_T34 l0_5 x8_1).f1) ((rd_T34 l0_5 x8_1).f2) ((rd_T34 l0_5 x8_1).f3.f0) ((rd_T34 l0_5 x8_1).f3.f1) ((rd_T34 l0_5 x8_1).f4) ((rd_T34 l0_5 x8_1).f5) (wrap64 (a1 - x7_1)) (wrap64 (a2 - 1))).bind fun t196 => (triglyphref10_weight.l0 kj7 a1 a2 (wrap64 (x7_1 + t196)) (wrap64 (x8_1 + 1)) a0_0 a0_1 a0_2 l0_3 l0_4 l0_5 a0_6)) else (none)) else (none))) = some r := by rw [if_pos rfl] at H; exact H
      clear H; have H := H1; clear H1
      by_cases c13 : a2 = 0
      ·rw [if_pos c13] at H
       have c13b0 : (a2 == 0) = true := beq_iff_eq.mpr c13
       have c13b1 : (a2 != 0) = false := bne_eq_false_iff_eq.mpr c13
       clear c13
       obtain rfl := Option.some.inj H
       go_wp2
       go_ret
       exact ⟨rfl, by repeat first | exact gB HB | refine below_set ?_ GE193.out⟩
      ·rw [if_neg c13] at H
       have c13b0 : (a2 == 0) = false := beq_eq_false_iff_ne.mpr c13
       have c13b1 : (a2 != 0) = true := bne_iff_ne.mpr c13
       obtain ⟨c14, H⟩ := iS H
       have c14b0 := decide_eq_true c14
       clear c14
       obtain ⟨c15, H⟩ := iS H
       have c15b0 := decide_eq_true c15
       clear c15
       replace H := Option.bind_eq_some_iff.mp H
       obtain ⟨t196, A160, H⟩ := H
       replace H : (triglyphref10_weight.l0 kj7 a1 a2 (wrap64 (x7_1 + t196)) (wrap64 (x8_1 + 1)) a0_0 a0_1 a0_2 l0_3 l0_4 l0_5 a0_6) = some r := H
       have A16 := gA A160
       clear A160
       have H' := gA H
       clear H
       have hcz17_0 := gz BK193 0 rfl
       have hcz17_1 := gz BK193 1 rfl
       have hcz17_2 := gz BK193 2 rfl
       have hcz17_3 := gz BK193 3 rfl
       have hcz17_4 := gz BK193 4 rfl
       have hcz17_5 := gz BK193 5 rfl
       have hcz17_6 := gz BK193 6 rfl
       have hfz17_0 := blk_frozen BK193.out 0
       have hfz17_1 := blk_frozen BK193.out 1
       have hfz17_2 := blk_frozen BK193.out 2
       have hfz17_3 := blk_frozen BK193.out 3
       have hfz17_4 := blk_frozen BK193.out 4
       have hfz17_5 := blk_frozen BK193.out 5
       have hfz17_6 := blk_frozen BK193.out 6
       have p195 : 0 ≤ (x8_1 : Int) := of_decide_eq_true (by assumption)
       have q195 : x8_1 < (l0_5.length : Int) := of_decide_eq_true (by assumption)
       obtain ⟨ad195, A195_3, c195_3, A195_4, c195_4, A195_5, c195_5, e195, hx195_0, hx195_1, hx195_2, hx195_3, hx195_4, hx195_5, hx195_6, hl195_3, hi195_3, hl195_4, hi195_4, hl195_5, hi195_5⟩ := at_T34 HR0_5.out x8_1 p195 q195
       cases e195
       replace hx195_0 := (HB.out.cell (World.block_lt_of_cell? w _ hx195_0)).trans hx195_0
       replace hx195_1 := (HB.out.cell (World.block_lt_of_cell? w _ hx195_1)).trans hx195_1
       replace hx195_2 := (HB.out.cell (World.block_lt_of_cell? w _ hx195_2)).trans hx195_2
       replace hx195_3 := (HB.out.cell (World.block_lt_of_cell? w _ hx195_3)).trans hx195_3
       replace hx195_4 := (HB.out.cell (World.block_lt_of_cell? w _ hx195_4)).trans hx195_4
       replace hx195_5 := (HB.out.cell (World.block_lt_of_cell? w _ hx195_5)).trans hx195_5
       replace hx195_6 := (HB.out.cell (World.block_lt_of_cell? w _ hx195_6)).trans hx195_6
       have HR195_3 := gA hi195_3
       have HC195_3 := gA hl195_3
       clear hi195_3 hl195_3
       have HR195_4 := gA hi195_4
       have HC195_4 := gA hl195_4
       clear hi195_4 hl195_4
       have HR195_5 := gA hi195_5
       have HC195_5 := gA hl195_5
       clear hi195_5 hl195_5
       replace p195 := eq_true p195
       replace q195 := eq_true q195
       go_wp2_with (first | ((with_reducible refine gate_callee (f := 40) rfl ?_); refine goesL_ (some 41) rfl rfl Try.func40 (by kernel_rfl) rfl #[.agg #[.int .i64 ((rd_T34 l0_5 x8_1).f0), .int .i64 ((rd_T34 l0_5 x8_1).f1), .string ((rd_T34 l0_5 x8_1).f2), .slice A195_3 ((rd_T34 l0_5 x8_1).f3.f0).length c195_3, .slice A195_4 ((rd_T34 l0_5 x8_1).f3.f1).length c195_4, .slice A195_5 ((rd_T34 l0_5 x8_1).f4).length c195_5, .int .i64 ((rd_T34 l0_5 x8_1).f5)], .int .i64 (wrap64 (a1 - x7_1)), .int .i64 (wrap64 (a2 - 1))] rfl (by (try simp only [List.map_toArray, List.map_cons, List.map_nil]); first | done | rfl | (simp only [List.length_drop, List.length_take]; rfl)) ?_; (with_reducible refine (ih kj7 (by have := HK1.out; have := HJ7.out; omega) ((rd_T34 l0_5 x8_1).f0) ((rd_T34 l0_5 x8_1).f1) ((rd_T34 l0_5 x8_1).f2) _ _ ((rd_T34 l0_5 x8_1).f3.f0) _ _ ((rd_T34 l0_5 x8_1).f3.f1) _ _ ((rd_T34 l0_5 x8_1).f4) ((rd_T34 l0_5 x8_1).f5) (wrap64 (a1 - x7_1)) (wrap64 (a2 - 1)) t196 _ ?side1 ?side2 ?side3 ?side4 ?side5 ?side6 A16.out).mono ?_); (case side1 => exact gC HR195_3 HB); (case side2 => exact HC195_3.out); (case side3 => exact gC HR195_4 HB); (case side4 => exact HC195_4.out); (case side5 => exact gC HR195_5 HB); (case side6 => exact HC195_5.out); rintro e w18 ⟨rfl, hb⟩; refine ⟨_, rfl, ?_⟩; replace BK193 := gA (blk_below (gK BK193) hb); replace HB := gA (below_step (gB HB) hb); (try clear hb)))
       go_roundg kj7
       case measure => have := HK1.out; have := HJ7.out; omega
       case rel => exact ⟨(wrap64 (x7_1 + t196)), (wrap64 (x8_1 + 1)), (rfl), (rfl), H', ⟨by have := HK1.out; have := HJ7.out; omega⟩, ⟨gK BK193⟩, ⟨gB HB⟩⟩
     ·replace c12 := Bool.eq_false_iff.mpr c12
      subst c12
      have H1 : (some x7_1) = some r := by rw [if_neg (show ¬ (false = true) by decide)] at H; exact H
      clear H; have H := H1; clear H1
      obtain rfl := Option.some.inj H
      go_wp2
      go_ret
      exact ⟨rfl, by repeat first | exact gB HB | refine below_set ?_ GE193.out⟩
def triglyphref10_Weight.f (k : Nat) (a0_0 : Int) (a0_1 : Int) (a0_2 : ByteArray) (l0_3 : List Int) (l0_4 : List (S52)) (l0_5 : List (S34)) (a0_6 : Int) (a1 : Int) : Option (Int) := (triglyphref10_weight.f k a0_0 a0_1 a0_2 l0_3 l0_4 l0_5 a0_6 a1 40).bind fun t198 => (some t198)
theorem triglyphref10_Weight.mono : ∀ a0 a1 a2 a3 a4 a5 a6 a7 k, LeO (triglyphref10_Weight.f k a0 a1 a2 a3 a4 a5 a6 a7) (triglyphref10_Weight.f (k + 1) a0 a1 a2 a3 a4 a5 a6 a7) := by
 intro a0 a1 a2 a3 a4 a5 a6 a7 k
 unfold triglyphref10_Weight.f
 repeat' first
   | (with_reducible exact triglyphref10_weight.mono _ _ _ _ _ _ _ _ _ _)
   | (with_reducible exact LeO.refl _)
   | (with_reducible exact LeO.none _)
   | (with_reducible refine LeO.ite ?_ ?_)
   | (with_reducible refine LeO.bind ?_ (fun _ => ?_))
   | exact triglyphref10_weight.mono _ _ _ _ _ _ _ _ _ _
set_option maxHeartbeats 8000000 in
set_option maxRecDepth 100000 in
theorem triglyphref10_Weight.calls (k : Nat) (a0_0 : Int) (a0_1 : Int) (a0_2 : ByteArray) (A0_3 : Option Addr) (c0_3 : Nat) (l0_3 : List Int) (A0_4 : Option Addr) (c0_4 : Nat) (l0_4 : List (S52)) (A0_5 : Option Addr) (c0_5 : Nat) (l0_5 : List (S34)) (a0_6 : Int) (a1 : Int) (r : Int) (w : World) (hr0_3 : Kd.C (Kd.int .i64) w A0_3 l0_3.length l0_3) (hc0_3 : l0_3.length ≤ c0_3) (hr0_4 : Kd.C k52 w A0_4 l0_4.length l0_4) (hc0_4 : l0_4.length ≤ c0_4) (hr0_5 : Kd.C k34 w A0_5 l0_5.length l0_5) (hc0_5 : l0_5.length ≤ c0_5) (h : triglyphref10_Weight.f k a0_0 a0_1 a0_2 l0_3 l0_4 l0_5 a0_6 a1 = some r) :
  Calls Try.prog 33 #[.agg #[.int .i64 a0_0, .int .i64 a0_1, .string a0_2, .slice A0_3 l0_3.length c0_3, .slice A0_4 l0_4.length c0_4, .slice A0_5 l0_5.length c0_5, .int .i64 a0_6], .int .i64 a1] w fun e w' => e = .returned (.int .i64 r) ∧ Below w.heap.size w w' := by
 have hu34 := Try.underlying34
 have HR0_3 := gA hr0_3
 have HC0_3 := gA hc0_3
 clear hr0_3 hc0_3
 have HR0_4 := gA hr0_4
 have HC0_4 := gA hc0_4
 clear hr0_4 hc0_4
 have HR0_5 := gA hr0_5
 have HC0_5 := gA hc0_5
 clear hr0_5 hc0_5
 have HB := gA (Below.refl w.heap.size w)
 have H : ((triglyphref10_weight.f k a0_0 a0_1 a0_2 l0_3 l0_4 l0_5 a0_6 a1 40).bind fun t198 => (some t198)) = some r := h
 clear h
 replace H := Option.bind_eq_some_iff.mp H
 obtain ⟨t198, A30, H⟩ := H
 replace H : (some t198) = some r := H
 have A3 := gA A30
 clear A30
 obtain rfl := Option.some.inj H
 go_enter Try.func33, Try.ntmps33
 go_wp2_with (first | ((with_reducible refine gate_dst (N := 2) rfl ?_); refine box_event ?hg (N := 2) ?hd (cs := #[.int .i64 a0_0, .int .i64 a0_1, .string a0_2, .slice A0_3 l0_3.length c0_3, .slice A0_4 l0_4.length c0_4, .slice A0_5 l0_5.length c0_5, .int .i64 a0_6]) (t := 34) ?hr ?_; (case hd => rfl); (case hg => rfl); (case hr => first | (go_simp; done) | (go_simp; rfl)); intro gb197 hg w4 hbox hb; have BK197 := gA (hbox); have GW197 := gA ((by rw [hg]; exact (below_size (gB HB)) : w.heap.size ≤ gb197)); have GE197 := gA ((by rw [hg]; exact (below_size (gB HB)) : w.heap.size ≤ gb197)); replace HB := gA (below_step (gB HB) hb); clear hb hbox hg; have hcz5_0 := gz BK197 0 rfl; have hcz5_1 := gz BK197 1 rfl; have hcz5_2 := gz BK197 2 rfl; have hcz5_3 := gz BK197 3 rfl; have hcz5_4 := gz BK197 4 rfl; have hcz5_5 := gz BK197 5 rfl; have hcz5_6 := gz BK197 6 rfl; have hfz5_0 := blk_frozen BK197.out 0; have hfz5_1 := blk_frozen BK197.out 1; have hfz5_2 := blk_frozen BK197.out 2; have hfz5_3 := blk_frozen BK197.out 3; have hfz5_4 := blk_frozen BK197.out 4; have hfz5_5 := blk_frozen BK197.out 5; have hfz5_6 := blk_frozen BK197.out 6) | ((with_reducible refine gate_callee (f := 40) rfl ?_); refine goesL_ (some 7) rfl rfl Try.func40 (by kernel_rfl) rfl #[.agg #[.int .i64 a0_0, .int .i64 a0_1, .string a0_2, .slice A0_3 l0_3.length c0_3, .slice A0_4 l0_4.length c0_4, .slice A0_5 l0_5.length c0_5, .int .i64 a0_6], .int .i64 a1, .int .i64 40] rfl (by (try simp only [List.map_toArray, List.map_cons, List.map_nil]); first | done | rfl | (simp only [List.length_drop, List.length_take]; rfl)) ?_; (with_reducible refine (triglyphref10_weight.calls k a0_0 a0_1 a0_2 _ _ l0_3 _ _ l0_4 _ _ l0_5 a0_6 a1 40 t198 _ ?side1 ?side2 ?side3 ?side4 ?side5 ?side6 A3.out).mono ?_); (case side1 => exact gC HR0_3 HB); (case side2 => exact HC0_3.out); (case side3 => exact gC HR0_4 HB); (case side4 => exact HC0_4.out); (case side5 => exact gC HR0_5 HB); (case side6 => exact HC0_5.out); rintro e w6 ⟨rfl, hb⟩; refine ⟨_, rfl, ?_⟩; replace BK197 := gA (blk_below (gK BK197) hb); replace HB := gA (below_step (gB HB) hb); (try clear hb)))
 go_ret
 exact ⟨rfl, by repeat first | exact gB HB | refine below_set ?_ GE197.out⟩
def triglyphlaw10_light.f (k : Nat) (a0_0 : Int) (a0_1 : Int) (a0_2 : ByteArray) (l0_3 : List Int) (l0_4 : List (S52)) (l0_5 : List (S34)) (a0_6 : Int) : Option (Bool) := (triglyphref10_Weight.f k a0_0 a0_1 a0_2 l0_3 l0_4 l0_5 a0_6 3000).bind fun t200 => (some (decide (t200 ≤ 3000)))
theorem triglyphlaw10_light.mono : ∀ a0 a1 a2 a3 a4 a5 a6 k, LeO (triglyphlaw10_light.f k a0 a1 a2 a3 a4 a5 a6) (triglyphlaw10_light.f (k + 1) a0 a1 a2 a3 a4 a5 a6) := by
 intro a0 a1 a2 a3 a4 a5 a6 k
 unfold triglyphlaw10_light.f
 repeat' first
   | (with_reducible exact triglyphref10_Weight.mono _ _ _ _ _ _ _ _ _)
   | (with_reducible exact LeO.refl _)
   | (with_reducible exact LeO.none _)
   | (with_reducible refine LeO.ite ?_ ?_)
   | (with_reducible refine LeO.bind ?_ (fun _ => ?_))
   | exact triglyphref10_Weight.mono _ _ _ _ _ _ _ _ _
set_option maxHeartbeats 8000000 in
set_option maxRecDepth 100000 in
theorem triglyphlaw10_light.calls (k : Nat) (a0_0 : Int) (a0_1 : Int) (a0_2 : ByteArray) (A0_3 : Option Addr) (c0_3 : Nat) (l0_3 : List Int) (A0_4 : Option Addr) (c0_4 : Nat) (l0_4 : List (S52)) (A0_5 : Option Addr) (c0_5 : Nat) (l0_5 : List (S34)) (a0_6 : Int) (r : Bool) (w : World) (hr0_3 : Kd.C (Kd.int .i64) w A0_3 l0_3.length l0_3) (hc0_3 : l0_3.length ≤ c0_3) (hr0_4 : Kd.C k52 w A0_4 l0_4.length l0_4) (hc0_4 : l0_4.length ≤ c0_4) (hr0_5 : Kd.C k34 w A0_5 l0_5.length l0_5) (hc0_5 : l0_5.length ≤ c0_5) (h : triglyphlaw10_light.f k a0_0 a0_1 a0_2 l0_3 l0_4 l0_5 a0_6 = some r) :
  Calls Try.prog 15 #[.agg #[.int .i64 a0_0, .int .i64 a0_1, .string a0_2, .slice A0_3 l0_3.length c0_3, .slice A0_4 l0_4.length c0_4, .slice A0_5 l0_5.length c0_5, .int .i64 a0_6]] w fun e w' => e = .returned (.bool r) ∧ Below w.heap.size w w' := by
 have hu34 := Try.underlying34
 have HR0_3 := gA hr0_3
 have HC0_3 := gA hc0_3
 clear hr0_3 hc0_3
 have HR0_4 := gA hr0_4
 have HC0_4 := gA hc0_4
 clear hr0_4 hc0_4
 have HR0_5 := gA hr0_5
 have HC0_5 := gA hc0_5
 clear hr0_5 hc0_5
 have HB := gA (Below.refl w.heap.size w)
 have H : ((triglyphref10_Weight.f k a0_0 a0_1 a0_2 l0_3 l0_4 l0_5 a0_6 3000).bind fun t200 => (some (decide (t200 ≤ 3000)))) = some r := h
 clear h
 replace H := Option.bind_eq_some_iff.mp H
 obtain ⟨t200, A20, H⟩ := H
 replace H : (some (decide (t200 ≤ 3000))) = some r := H
 have A2 := gA A20
 clear A20
 obtain rfl := Option.some.inj H
 go_enter Try.func15, Try.ntmps15
 go_wp2_with (first | ((with_reducible refine gate_dst (N := 1) rfl ?_); refine box_event ?hg (N := 1) ?hd (cs := #[.int .i64 a0_0, .int .i64 a0_1, .string a0_2, .slice A0_3 l0_3.length c0_3, .slice A0_4 l0_4.length c0_4, .slice A0_5 l0_5.length c0_5, .int .i64 a0_6]) (t := 34) ?hr ?_; (case hd => rfl); (case hg => rfl); (case hr => first | (go_simp; done) | (go_simp; rfl)); intro gb199 hg w3 hbox hb; have BK199 := gA (hbox); have GW199 := gA ((by rw [hg]; exact (below_size (gB HB)) : w.heap.size ≤ gb199)); have GE199 := gA ((by rw [hg]; exact (below_size (gB HB)) : w.heap.size ≤ gb199)); replace HB := gA (below_step (gB HB) hb); clear hb hbox hg; have hcz4_0 := gz BK199 0 rfl; have hcz4_1 := gz BK199 1 rfl; have hcz4_2 := gz BK199 2 rfl; have hcz4_3 := gz BK199 3 rfl; have hcz4_4 := gz BK199 4 rfl; have hcz4_5 := gz BK199 5 rfl; have hcz4_6 := gz BK199 6 rfl; have hfz4_0 := blk_frozen BK199.out 0; have hfz4_1 := blk_frozen BK199.out 1; have hfz4_2 := blk_frozen BK199.out 2; have hfz4_3 := blk_frozen BK199.out 3; have hfz4_4 := blk_frozen BK199.out 4; have hfz4_5 := blk_frozen BK199.out 5; have hfz4_6 := blk_frozen BK199.out 6) | ((with_reducible refine gate_callee (f := 33) rfl ?_); refine goesL_ (some 4) rfl rfl Try.func33 (by kernel_rfl) rfl #[.agg #[.int .i64 a0_0, .int .i64 a0_1, .string a0_2, .slice A0_3 l0_3.length c0_3, .slice A0_4 l0_4.length c0_4, .slice A0_5 l0_5.length c0_5, .int .i64 a0_6], .int .i64 3000] rfl (by (try simp only [List.map_toArray, List.map_cons, List.map_nil]); first | done | rfl | (simp only [List.length_drop, List.length_take]; rfl)) ?_; (with_reducible refine (triglyphref10_Weight.calls k a0_0 a0_1 a0_2 _ _ l0_3 _ _ l0_4 _ _ l0_5 a0_6 3000 t200 _ ?side1 ?side2 ?side3 ?side4 ?side5 ?side6 A2.out).mono ?_); (case side1 => exact gC HR0_3 HB); (case side2 => exact HC0_3.out); (case side3 => exact gC HR0_4 HB); (case side4 => exact HC0_4.out); (case side5 => exact gC HR0_5 HB); (case side6 => exact HC0_5.out); rintro e w5 ⟨rfl, hb⟩; refine ⟨_, rfl, ?_⟩; replace BK199 := gA (blk_below (gK BK199) hb); replace HB := gA (below_step (gB HB) hb); (try clear hb)))
 go_ret
 exact ⟨rfl, by repeat first | exact gB HB | refine below_set ?_ GE199.out⟩
mutual
def triglyphref10_Size.l0 : Nat → Int → Int → Int → Int → ByteArray → List Int → List (S52) → List (S34) → Int → Option (Int)
 | 0, _, _, _, _, _, _, _, _, _ => none
 | k + 1, x3, x4, x202000, x202001, x202002, x202003, x202004, x202005, x202006 => if x4 < (x202005.length : Int) then (if 0 ≤ x4 then ((triglyphref10_Size.f k ((rd_T34 x202005 x4).f0) ((rd_T34 x202005 x4).f1) ((rd_T34 x202005 x4).f2) ((rd_T34 x202005 x4).f3.f0) ((rd_T34 x202005 x4).f3.f1) ((rd_T34 x202005 x4).f4) ((rd_T34 x202005 x4).f5)).bind fun t203 => (triglyphref10_Size.l0 k (wrap64 (x3 + t203)) (wrap64 (x4 + 1)) x202000 x202001 x202002 x202003 x202004 x202005 x202006)) else (none)) else (some x3)
def triglyphref10_Size.f : Nat → Int → Int → ByteArray → List Int → List (S52) → List (S34) → Int → Option (Int)
 | 0, _, _, _, _, _, _, _ => none
 | k + 1, a0_0, a0_1, a0_2, l0_3, l0_4, l0_5, a0_6 => triglyphref10_Size.l0 k 1 0 a0_0 a0_1 a0_2 l0_3 l0_4 l0_5 a0_6
end
theorem triglyphref10_Size.mono_l : ∀ k, (∀ y0 y1 y2 y3 y4 y5 y6, LeO (triglyphref10_Size.f k y0 y1 y2 y3 y4 y5 y6) (triglyphref10_Size.f (k + 1) y0 y1 y2 y3 y4 y5 y6)) ∧ (∀ y0 y1 y2 y3 y4 y5 y6 y7 y8, LeO (triglyphref10_Size.l0 k y0 y1 y2 y3 y4 y5 y6 y7 y8) (triglyphref10_Size.l0 (k + 1) y0 y1 y2 y3 y4 y5 y6 y7 y8))
 | 0 => ⟨fun _ _ _ _ _ _ _ r h => by simp [triglyphref10_Size.f] at h, fun _ _ _ _ _ _ _ _ _ r h => by simp [triglyphref10_Size.l0] at h⟩
 | k + 1 => by
  obtain ⟨ih0, ih1⟩ := triglyphref10_Size.mono_l k
  refine ⟨?_, ?_⟩
  ·intro y0 y1 y2 y3 y4 y5 y6
   unfold triglyphref10_Size.f
   repeat' first
   | (with_reducible exact ih0 _ _ _ _ _ _ _)
   | (with_reducible exact ih1 _ _ _ _ _ _ _ _ _)
   | (with_reducible exact LeO.refl _)
   | (with_reducible exact LeO.none _)
   | (with_reducible refine LeO.ite ?_ ?_)
   | (with_reducible refine LeO.bind ?_ (fun _ => ?_))





  ·intro y0 y1 y2 y3 y4 y5 y6 y7 y8
   unfold triglyphref10_Size.l0
   repeat' first
   | (with_reducible exact ih0 _ _ _ _ _ _ _)
   | (with_reducible exact ih1 _ _ _ _ _ _ _ _ _)
   | (with_reducible exact LeO.refl _)
   | (with_reducible exact LeO.none _)
   | (with_reducible refine LeO.ite ?_ ?_)
   | (with_reducible refine LeO.bind ?_ (fun _ => ?_))
theorem triglyphref10_Size.mono : ∀ a0 a1 a2 a3 a4 a5 a6 k, LeO (triglyphref10_Size.f k a0 a1 a2 a3 a4 a5 a6) (triglyphref10_Size.f (k + 1) a0 a1 a2 a3 a4 a5 a6) := by
 intro a0 a1 a2 a3 a4 a5 a6 k
 obtain ⟨ih0, ih1⟩ := triglyphref10_Size.mono_l k
 exact ih0 a0 a1 a2 a3 a4 a5 a6
set_option maxHeartbeats 8000000 in
set_option maxRecDepth 100000 in
theorem triglyphref10_Size.calls (k : Nat) : ∀ (a0_0 : Int) (a0_1 : Int) (a0_2 : ByteArray) (A0_3 : Option Addr) (c0_3 : Nat) (l0_3 : List Int) (A0_4 : Option Addr) (c0_4 : Nat) (l0_4 : List (S52)) (A0_5 : Option Addr) (c0_5 : Nat) (l0_5 : List (S34)) (a0_6 : Int) (r : Int) (w : World) (hr0_3 : Kd.C (Kd.int .i64) w A0_3 l0_3.length l0_3) (hc0_3 : l0_3.length ≤ c0_3) (hr0_4 : Kd.C k52 w A0_4 l0_4.length l0_4) (hc0_4 : l0_4.length ≤ c0_4) (hr0_5 : Kd.C k34 w A0_5 l0_5.length l0_5) (hc0_5 : l0_5.length ≤ c0_5) (h : triglyphref10_Size.f k a0_0 a0_1 a0_2 l0_3 l0_4 l0_5 a0_6 = some r),
  Calls Try.prog 25 #[.agg #[.int .i64 a0_0, .int .i64 a0_1, .string a0_2, .slice A0_3 l0_3.length c0_3, .slice A0_4 l0_4.length c0_4, .slice A0_5 l0_5.length c0_5, .int .i64 a0_6]] w fun e w' => e = .returned (.int .i64 r) ∧ Below w.heap.size w w' := by
 induction k using Nat.strongRecOn with
 | _ k ih =>
 intro a0_0 a0_1 a0_2 A0_3 c0_3 l0_3 A0_4 c0_4 l0_4 A0_5 c0_5 l0_5 a0_6 r w hr0_3 hc0_3 hr0_4 hc0_4 hr0_5 hc0_5 h
 cases k with
 | zero => exact absurd h (by simp [triglyphref10_Size.f])
 | succ k =>
 simp only [triglyphref10_Size.f] at h
 have hu34 := Try.underlying34
 have HR0_3 := gA hr0_3
 have HC0_3 := gA hc0_3
 clear hr0_3 hc0_3
 have HR0_4 := gA hr0_4
 have HC0_4 := gA hc0_4
 clear hr0_4 hc0_4
 have HR0_5 := gA hr0_5
 have HC0_5 := gA hc0_5
 clear hr0_5 hc0_5
 have HB := gA (Below.refl w.heap.size w)
 have H : (triglyphref10_Size.l0 k 1 0 a0_0 a0_1 a0_2 l0_3 l0_4 l0_5 a0_6) = some r := h
 clear h
 have H' := gA H
 clear H
 go_enter Try.func25, Try.ntmps25
 go_wp2_with (first | ((with_reducible refine gate_dst (N := 1) rfl ?_); refine box_event ?hg (N := 1) ?hd (cs := #[.int .i64 a0_0, .int .i64 a0_1, .string a0_2, .slice A0_3 l0_3.length c0_3, .slice A0_4 l0_4.length c0_4, .slice A0_5 l0_5.length c0_5, .int .i64 a0_6]) (t := 34) ?hr ?_; (case hd => rfl); (case hg => rfl); (case hr => first | (go_simp; done) | (go_simp; rfl)); intro gb201 hg w2 hbox hb; have BK201 := gA (hbox); have GW201 := gA ((by rw [hg]; exact (below_size (gB HB)) : w.heap.size ≤ gb201)); have GE201 := gA ((by rw [hg]; exact (below_size (gB HB)) : w.heap.size ≤ gb201)); replace HB := gA (below_step (gB HB) hb); clear hb hbox hg))
 go_loopg [3, 4] k (fun kq v3 v4 w' => ∃ (x3_1 : Int) (x4_1 : Int), v3 = .int .i64 x3_1 ∧ v4 = .int .i64 x4_1 ∧ Aside0 (triglyphref10_Size.l0 kq x3_1 x4_1 a0_0 a0_1 a0_2 l0_3 l0_4 l0_5 a0_6 = some r) ∧ Aside0 (kq ≤ k) ∧ Aside0 (w'.heap[gb201]? = some (.cells #[.int .i64 a0_0, .int .i64 a0_1, .string a0_2, (.slice A0_3 l0_3.length c0_3), (.slice A0_4 l0_4.length c0_4), (.slice A0_5 l0_5.length c0_5), .int .i64 a0_6] 34 (0, 0))) ∧ Aside0 (Below w.heap.size w w'))
 case atStart => exact ⟨(1), (0), (rfl), (rfl), H', ⟨Nat.le_refl _⟩, ⟨gK BK201⟩, ⟨by repeat first | exact gB HB | refine below_set ?_ GE201.out⟩⟩
 case round =>
  clear H'
  try clear c2
  try clear p2
  obtain ⟨x3_1, x4_1, rfl, rfl, HA, HK1, BK201, HB⟩ := hrel
  cases gk with
  | zero => exact absurd HA.out (by simp [triglyphref10_Size.l0])
  | succ k1 =>
   have H := HA.out; clear HA
   simp only [triglyphref10_Size.l0] at H
   by_cases c3 : x4_1 < (l0_5.length : Int)
   ·rw [if_pos c3] at H
    have c3b0 := decide_eq_true c3
    clear c3
    obtain ⟨c4, H⟩ := iS H
    have c4b0 := decide_eq_true c4
    clear c4
    replace H := Option.bind_eq_some_iff.mp H
    obtain ⟨t203, A50, H⟩ := H
    replace H : (triglyphref10_Size.l0 k1 (wrap64 (x3_1 + t203)) (wrap64 (x4_1 + 1)) a0_0 a0_1 a0_2 l0_3 l0_4 l0_5 a0_6) = some r := H
    have A5 := gA A50
    clear A50
    have H' := gA H
    clear H
    have hcz6_0 := gz BK201 0 rfl
    have hcz6_1 := gz BK201 1 rfl
    have hcz6_2 := gz BK201 2 rfl
    have hcz6_3 := gz BK201 3 rfl
    have hcz6_4 := gz BK201 4 rfl
    have hcz6_5 := gz BK201 5 rfl
    have hcz6_6 := gz BK201 6 rfl
    have hfz6_0 := blk_frozen BK201.out 0
    have hfz6_1 := blk_frozen BK201.out 1
    have hfz6_2 := blk_frozen BK201.out 2
    have hfz6_3 := blk_frozen BK201.out 3
    have hfz6_4 := blk_frozen BK201.out 4
    have hfz6_5 := blk_frozen BK201.out 5
    have hfz6_6 := blk_frozen BK201.out 6
    have p202 : 0 ≤ (x4_1 : Int) := of_decide_eq_true (by assumption)
    have q202 : x4_1 < (l0_5.length : Int) := of_decide_eq_true (by assumption)
    obtain ⟨ad202, A202_3, c202_3, A202_4, c202_4, A202_5, c202_5, e202, hx202_0, hx202_1, hx202_2, hx202_3, hx202_4, hx202_5, hx202_6, hl202_3, hi202_3, hl202_4, hi202_4, hl202_5, hi202_5⟩ := at_T34 HR0_5.out x4_1 p202 q202
    cases e202
    replace hx202_0 := (HB.out.cell (World.block_lt_of_cell? w _ hx202_0)).trans hx202_0
    replace hx202_1 := (HB.out.cell (World.block_lt_of_cell? w _ hx202_1)).trans hx202_1
    replace hx202_2 := (HB.out.cell (World.block_lt_of_cell? w _ hx202_2)).trans hx202_2
    replace hx202_3 := (HB.out.cell (World.block_lt_of_cell? w _ hx202_3)).trans hx202_3
    replace hx202_4 := (HB.out.cell (World.block_lt_of_cell? w _ hx202_4)).trans hx202_4
    replace hx202_5 := (HB.out.cell (World.block_lt_of_cell? w _ hx202_5)).trans hx202_5
    replace hx202_6 := (HB.out.cell (World.block_lt_of_cell? w _ hx202_6)).trans hx202_6
    have HR202_3 := gA hi202_3
    have HC202_3 := gA hl202_3
    clear hi202_3 hl202_3
    have HR202_4 := gA hi202_4
    have HC202_4 := gA hl202_4
    clear hi202_4 hl202_4
    have HR202_5 := gA hi202_5
    have HC202_5 := gA hl202_5
    clear hi202_5 hl202_5
    replace p202 := eq_true p202
    replace q202 := eq_true q202
    go_wp2_with (first | ((with_reducible refine gate_callee (f := 25) rfl ?_); refine goesL_ (some 18) rfl rfl Try.func25 (by kernel_rfl) rfl #[.agg #[.int .i64 ((rd_T34 l0_5 x4_1).f0), .int .i64 ((rd_T34 l0_5 x4_1).f1), .string ((rd_T34 l0_5 x4_1).f2), .slice A202_3 ((rd_T34 l0_5 x4_1).f3.f0).length c202_3, .slice A202_4 ((rd_T34 l0_5 x4_1).f3.f1).length c202_4, .slice A202_5 ((rd_T34 l0_5 x4_1).f4).length c202_5, .int .i64 ((rd_T34 l0_5 x4_1).f5)]] rfl (by (try simp only [List.map_toArray, List.map_cons, List.map_nil]); first | done | rfl | (simp only [List.length_drop, List.length_take]; rfl)) ?_; (with_reducible refine (ih k1 (by have := HK1.out; omega) ((rd_T34 l0_5 x4_1).f0) ((rd_T34 l0_5 x4_1).f1) ((rd_T34 l0_5 x4_1).f2) _ _ ((rd_T34 l0_5 x4_1).f3.f0) _ _ ((rd_T34 l0_5 x4_1).f3.f1) _ _ ((rd_T34 l0_5 x4_1).f4) ((rd_T34 l0_5 x4_1).f5) t203 _ ?side1 ?side2 ?side3 ?side4 ?side5 ?side6 A5.out).mono ?_); (case side1 => exact gC HR202_3 HB); (case side2 => exact HC202_3.out); (case side3 => exact gC HR202_4 HB); (case side4 => exact HC202_4.out); (case side5 => exact gC HR202_5 HB); (case side6 => exact HC202_5.out); rintro e w7 ⟨rfl, hb⟩; refine ⟨_, rfl, ?_⟩; replace BK201 := gA (blk_below (gK BK201) hb); replace HB := gA (below_step (gB HB) hb); (try clear hb)))
    go_roundg k1
    case measure => have := HK1.out; omega
    case rel => exact ⟨(wrap64 (x3_1 + t203)), (wrap64 (x4_1 + 1)), (rfl), (rfl), H', ⟨by have := HK1.out; omega⟩, ⟨gK BK201⟩, ⟨by repeat first | exact gB HB | refine below_set ?_ GE201.out⟩⟩
   ·rw [if_neg c3] at H
    have c3b0 := decide_eq_false c3
    clear c3
    obtain rfl := Option.some.inj H
    have hcz8_0 := gz BK201 0 rfl
    have hcz8_1 := gz BK201 1 rfl
    have hcz8_2 := gz BK201 2 rfl
    have hcz8_3 := gz BK201 3 rfl
    have hcz8_4 := gz BK201 4 rfl
    have hcz8_5 := gz BK201 5 rfl
    have hcz8_6 := gz BK201 6 rfl
    have hfz8_0 := blk_frozen BK201.out 0
    have hfz8_1 := blk_frozen BK201.out 1
    have hfz8_2 := blk_frozen BK201.out 2
    have hfz8_3 := blk_frozen BK201.out 3
    have hfz8_4 := blk_frozen BK201.out 4
    have hfz8_5 := blk_frozen BK201.out 5
    have hfz8_6 := blk_frozen BK201.out 6
    go_wp2
    go_ret
    exact ⟨rfl, by repeat first | exact gB HB | refine below_set ?_ GE201.out⟩
mutual
def triglyphref10_Deep.l0 : Nat → Int → Int → Int → Int → ByteArray → List Int → List (S52) → List (S34) → Int → Option (Int)
 | 0, _, _, _, _, _, _, _, _, _ => none
 | k + 1, x3, x4, x205000, x205001, x205002, x205003, x205004, x205005, x205006 => if x4 < (x205005.length : Int) then (if 0 ≤ x4 then ((triglyphref10_Deep.f k ((rd_T34 x205005 x4).f0) ((rd_T34 x205005 x4).f1) ((rd_T34 x205005 x4).f2) ((rd_T34 x205005 x4).f3.f0) ((rd_T34 x205005 x4).f3.f1) ((rd_T34 x205005 x4).f4) ((rd_T34 x205005 x4).f5)).bind fun t206 => (if (wrap64 (1 + t206)) > x3 then (triglyphref10_Deep.l0 k (wrap64 (1 + t206)) (wrap64 (x4 + 1)) x205000 x205001 x205002 x205003 x205004 x205005 x205006) else (triglyphref10_Deep.l0 k x3 (wrap64 (x4 + 1)) x205000 x205001 x205002 x205003 x205004 x205005 x205006))) else (none)) else (some x3)
def triglyphref10_Deep.f : Nat → Int → Int → ByteArray → List Int → List (S52) → List (S34) → Int → Option (Int)
 | 0, _, _, _, _, _, _, _ => none
 | k + 1, a0_0, a0_1, a0_2, l0_3, l0_4, l0_5, a0_6 => triglyphref10_Deep.l0 k 0 0 a0_0 a0_1 a0_2 l0_3 l0_4 l0_5 a0_6
end
theorem triglyphref10_Deep.mono_l : ∀ k, (∀ y0 y1 y2 y3 y4 y5 y6, LeO (triglyphref10_Deep.f k y0 y1 y2 y3 y4 y5 y6) (triglyphref10_Deep.f (k + 1) y0 y1 y2 y3 y4 y5 y6)) ∧ (∀ y0 y1 y2 y3 y4 y5 y6 y7 y8, LeO (triglyphref10_Deep.l0 k y0 y1 y2 y3 y4 y5 y6 y7 y8) (triglyphref10_Deep.l0 (k + 1) y0 y1 y2 y3 y4 y5 y6 y7 y8))
 | 0 => ⟨fun _ _ _ _ _ _ _ r h => by simp [triglyphref10_Deep.f] at h, fun _ _ _ _ _ _ _ _ _ r h => by simp [triglyphref10_Deep.l0] at h⟩
 | k + 1 => by
  obtain ⟨ih0, ih1⟩ := triglyphref10_Deep.mono_l k
  refine ⟨?_, ?_⟩
  ·intro y0 y1 y2 y3 y4 y5 y6
   unfold triglyphref10_Deep.f
   repeat' first
   | (with_reducible exact ih0 _ _ _ _ _ _ _)
   | (with_reducible exact ih1 _ _ _ _ _ _ _ _ _)
   | (with_reducible exact LeO.refl _)
   | (with_reducible exact LeO.none _)
   | (with_reducible refine LeO.ite ?_ ?_)
   | (with_reducible refine LeO.bind ?_ (fun _ => ?_))





  ·intro y0 y1 y2 y3 y4 y5 y6 y7 y8
   unfold triglyphref10_Deep.l0
   repeat' first
   | (with_reducible exact ih0 _ _ _ _ _ _ _)
   | (with_reducible exact ih1 _ _ _ _ _ _ _ _ _)
   | (with_reducible exact LeO.refl _)
   | (with_reducible exact LeO.none _)
   | (with_reducible refine LeO.ite ?_ ?_)
   | (with_reducible refine LeO.bind ?_ (fun _ => ?_))
theorem triglyphref10_Deep.mono : ∀ a0 a1 a2 a3 a4 a5 a6 k, LeO (triglyphref10_Deep.f k a0 a1 a2 a3 a4 a5 a6) (triglyphref10_Deep.f (k + 1) a0 a1 a2 a3 a4 a5 a6) := by
 intro a0 a1 a2 a3 a4 a5 a6 k
 obtain ⟨ih0, ih1⟩ := triglyphref10_Deep.mono_l k
 exact ih0 a0 a1 a2 a3 a4 a5 a6
set_option maxHeartbeats 8000000 in
set_option maxRecDepth 100000 in
theorem triglyphref10_Deep.calls (k : Nat) : ∀ (a0_0 : Int) (a0_1 : Int) (a0_2 : ByteArray) (A0_3 : Option Addr) (c0_3 : Nat) (l0_3 : List Int) (A0_4 : Option Addr) (c0_4 : Nat) (l0_4 : List (S52)) (A0_5 : Option Addr) (c0_5 : Nat) (l0_5 : List (S34)) (a0_6 : Int) (r : Int) (w : World) (hr0_3 : Kd.C (Kd.int .i64) w A0_3 l0_3.length l0_3) (hc0_3 : l0_3.length ≤ c0_3) (hr0_4 : Kd.C k52 w A0_4 l0_4.length l0_4) (hc0_4 : l0_4.length ≤ c0_4) (hr0_5 : Kd.C k34 w A0_5 l0_5.length l0_5) (hc0_5 : l0_5.length ≤ c0_5) (h : triglyphref10_Deep.f k a0_0 a0_1 a0_2 l0_3 l0_4 l0_5 a0_6 = some r),
  Calls Try.prog 26 #[.agg #[.int .i64 a0_0, .int .i64 a0_1, .string a0_2, .slice A0_3 l0_3.length c0_3, .slice A0_4 l0_4.length c0_4, .slice A0_5 l0_5.length c0_5, .int .i64 a0_6]] w fun e w' => e = .returned (.int .i64 r) ∧ Below w.heap.size w w' := by
 induction k using Nat.strongRecOn with
 | _ k ih =>
 intro a0_0 a0_1 a0_2 A0_3 c0_3 l0_3 A0_4 c0_4 l0_4 A0_5 c0_5 l0_5 a0_6 r w hr0_3 hc0_3 hr0_4 hc0_4 hr0_5 hc0_5 h
 cases k with
 | zero => exact absurd h (by simp [triglyphref10_Deep.f])
 | succ k =>
 simp only [triglyphref10_Deep.f] at h
 have hu34 := Try.underlying34
 have HR0_3 := gA hr0_3
 have HC0_3 := gA hc0_3
 clear hr0_3 hc0_3
 have HR0_4 := gA hr0_4
 have HC0_4 := gA hc0_4
 clear hr0_4 hc0_4
 have HR0_5 := gA hr0_5
 have HC0_5 := gA hc0_5
 clear hr0_5 hc0_5
 have HB := gA (Below.refl w.heap.size w)
 have H : (triglyphref10_Deep.l0 k 0 0 a0_0 a0_1 a0_2 l0_3 l0_4 l0_5 a0_6) = some r := h
 clear h
 have H' := gA H
 clear H
 go_enter Try.func26, Try.ntmps26
 go_wp2_with (first | ((with_reducible refine gate_dst (N := 1) rfl ?_); refine box_event ?hg (N := 1) ?hd (cs := #[.int .i64 a0_0, .int .i64 a0_1, .string a0_2, .slice A0_3 l0_3.length c0_3, .slice A0_4 l0_4.length c0_4, .slice A0_5 l0_5.length c0_5, .int .i64 a0_6]) (t := 34) ?hr ?_; (case hd => rfl); (case hg => rfl); (case hr => first | (go_simp; done) | (go_simp; rfl)); intro gb204 hg w2 hbox hb; have BK204 := gA (hbox); have GW204 := gA ((by rw [hg]; exact (below_size (gB HB)) : w.heap.size ≤ gb204)); have GE204 := gA ((by rw [hg]; exact (below_size (gB HB)) : w.heap.size ≤ gb204)); replace HB := gA (below_step (gB HB) hb); clear hb hbox hg))
 go_loopg [3, 4] k (fun kq v3 v4 w' => ∃ (x3_1 : Int) (x4_1 : Int), v3 = .int .i64 x3_1 ∧ v4 = .int .i64 x4_1 ∧ Aside0 (triglyphref10_Deep.l0 kq x3_1 x4_1 a0_0 a0_1 a0_2 l0_3 l0_4 l0_5 a0_6 = some r) ∧ Aside0 (kq ≤ k) ∧ Aside0 (w'.heap[gb204]? = some (.cells #[.int .i64 a0_0, .int .i64 a0_1, .string a0_2, (.slice A0_3 l0_3.length c0_3), (.slice A0_4 l0_4.length c0_4), (.slice A0_5 l0_5.length c0_5), .int .i64 a0_6] 34 (0, 0))) ∧ Aside0 (Below w.heap.size w w'))
 case atStart => exact ⟨(0), (0), (rfl), (rfl), H', ⟨Nat.le_refl _⟩, ⟨gK BK204⟩, ⟨by repeat first | exact gB HB | refine below_set ?_ GE204.out⟩⟩
 case round =>
  clear H'
  try clear c2
  try clear p2
  obtain ⟨x3_1, x4_1, rfl, rfl, HA, HK1, BK204, HB⟩ := hrel
  cases gk with
  | zero => exact absurd HA.out (by simp [triglyphref10_Deep.l0])
  | succ k1 =>
   have H := HA.out; clear HA
   simp only [triglyphref10_Deep.l0] at H
   by_cases c3 : x4_1 < (l0_5.length : Int)
   ·rw [if_pos c3] at H
    have c3b0 := decide_eq_true c3
    clear c3
    obtain ⟨c4, H⟩ := iS H
    have c4b0 := decide_eq_true c4
    clear c4
    replace H := Option.bind_eq_some_iff.mp H
    obtain ⟨t206, A50, H⟩ := H
    replace H : (if (wrap64 (1 + t206)) > x3_1 then (triglyphref10_Deep.l0 k1 (wrap64 (1 + t206)) (wrap64 (x4_1 + 1)) a0_0 a0_1 a0_2 l0_3 l0_4 l0_5 a0_6) else (triglyphref10_Deep.l0 k1 x3_1 (wrap64 (x4_1 + 1)) a0_0 a0_1 a0_2 l0_3 l0_4 l0_5 a0_6)) = some r := H
    have A5 := gA A50
    clear A50
    by_cases c6 : (wrap64 (1 + t206)) > x3_1
    ·rw [if_pos c6] at H
     have c6b0 : decide (x3_1 < (wrap64 (1 + t206))) = true := decide_eq_true c6
     clear c6
     have H' := gA H
     clear H
     have hcz7_0 := gz BK204 0 rfl
     have hcz7_1 := gz BK204 1 rfl
     have hcz7_2 := gz BK204 2 rfl
     have hcz7_3 := gz BK204 3 rfl
     have hcz7_4 := gz BK204 4 rfl
     have hcz7_5 := gz BK204 5 rfl
     have hcz7_6 := gz BK204 6 rfl
     have hfz7_0 := blk_frozen BK204.out 0
     have hfz7_1 := blk_frozen BK204.out 1
     have hfz7_2 := blk_frozen BK204.out 2
     have hfz7_3 := blk_frozen BK204.out 3
     have hfz7_4 := blk_frozen BK204.out 4
     have hfz7_5 := blk_frozen BK204.out 5
     have hfz7_6 := blk_frozen BK204.out 6
     have p205 : 0 ≤ (x4_1 : Int) := of_decide_eq_true (by assumption)
     have q205 : x4_1 < (l0_5.length : Int) := of_decide_eq_true (by assumption)
     obtain ⟨ad205, A205_3, c205_3, A205_4, c205_4, A205_5, c205_5, e205, hx205_0, hx205_1, hx205_2, hx205_3, hx205_4, hx205_5, hx205_6, hl205_3, hi205_3, hl205_4, hi205_4, hl205_5, hi205_5⟩ := at_T34 HR0_5.out x4_1 p205 q205
     cases e205
     replace hx205_0 := (HB.out.cell (World.block_lt_of_cell? w _ hx205_0)).trans hx205_0
     replace hx205_1 := (HB.out.cell (World.block_lt_of_cell? w _ hx205_1)).trans hx205_1
     replace hx205_2 := (HB.out.cell (World.block_lt_of_cell? w _ hx205_2)).trans hx205_2
     replace hx205_3 := (HB.out.cell (World.block_lt_of_cell? w _ hx205_3)).trans hx205_3
     replace hx205_4 := (HB.out.cell (World.block_lt_of_cell? w _ hx205_4)).trans hx205_4
     replace hx205_5 := (HB.out.cell (World.block_lt_of_cell? w _ hx205_5)).trans hx205_5
     replace hx205_6 := (HB.out.cell (World.block_lt_of_cell? w _ hx205_6)).trans hx205_6
     have HR205_3 := gA hi205_3
     have HC205_3 := gA hl205_3
     clear hi205_3 hl205_3
     have HR205_4 := gA hi205_4
     have HC205_4 := gA hl205_4
     clear hi205_4 hl205_4
     have HR205_5 := gA hi205_5
     have HC205_5 := gA hl205_5
     clear hi205_5 hl205_5
     replace p205 := eq_true p205
     replace q205 := eq_true q205
     go_wp2_with (first | ((with_reducible refine gate_callee (f := 26) rfl ?_); refine goesL_ (some 18) rfl rfl Try.func26 (by kernel_rfl) rfl #[.agg #[.int .i64 ((rd_T34 l0_5 x4_1).f0), .int .i64 ((rd_T34 l0_5 x4_1).f1), .string ((rd_T34 l0_5 x4_1).f2), .slice A205_3 ((rd_T34 l0_5 x4_1).f3.f0).length c205_3, .slice A205_4 ((rd_T34 l0_5 x4_1).f3.f1).length c205_4, .slice A205_5 ((rd_T34 l0_5 x4_1).f4).length c205_5, .int .i64 ((rd_T34 l0_5 x4_1).f5)]] rfl (by (try simp only [List.map_toArray, List.map_cons, List.map_nil]); first | done | rfl | (simp only [List.length_drop, List.length_take]; rfl)) ?_; (with_reducible refine (ih k1 (by have := HK1.out; omega) ((rd_T34 l0_5 x4_1).f0) ((rd_T34 l0_5 x4_1).f1) ((rd_T34 l0_5 x4_1).f2) _ _ ((rd_T34 l0_5 x4_1).f3.f0) _ _ ((rd_T34 l0_5 x4_1).f3.f1) _ _ ((rd_T34 l0_5 x4_1).f4) ((rd_T34 l0_5 x4_1).f5) t206 _ ?side1 ?side2 ?side3 ?side4 ?side5 ?side6 A5.out).mono ?_); (case side1 => exact gC HR205_3 HB); (case side2 => exact HC205_3.out); (case side3 => exact gC HR205_4 HB); (case side4 => exact HC205_4.out); (case side5 => exact gC HR205_5 HB); (case side6 => exact HC205_5.out); rintro e w8 ⟨rfl, hb⟩; refine ⟨_, rfl, ?_⟩; replace BK204 := gA (blk_below (gK BK204) hb); replace HB := gA (below_step (gB HB) hb); (try clear hb)))
     go_roundg k1
     case measure => have := HK1.out; omega
     case rel => exact ⟨(wrap64 (1 + t206)), (wrap64 (x4_1 + 1)), (rfl), (rfl), H', ⟨by have := HK1.out; omega⟩, ⟨gK BK204⟩, ⟨by repeat first | exact gB HB | refine below_set ?_ GE204.out⟩⟩
    ·rw [if_neg c6] at H
     have c6b0 : decide (x3_1 < (wrap64 (1 + t206))) = false := decide_eq_false c6
     clear c6
     have H' := gA H
     clear H
     have hcz9_0 := gz BK204 0 rfl
     have hcz9_1 := gz BK204 1 rfl
     have hcz9_2 := gz BK204 2 rfl
     have hcz9_3 := gz BK204 3 rfl
     have hcz9_4 := gz BK204 4 rfl
     have hcz9_5 := gz BK204 5 rfl
     have hcz9_6 := gz BK204 6 rfl
     have hfz9_0 := blk_frozen BK204.out 0
     have hfz9_1 := blk_frozen BK204.out 1
     have hfz9_2 := blk_frozen BK204.out 2
     have hfz9_3 := blk_frozen BK204.out 3
     have hfz9_4 := blk_frozen BK204.out 4
     have hfz9_5 := blk_frozen BK204.out 5
     have hfz9_6 := blk_frozen BK204.out 6
     have p205 : 0 ≤ (x4_1 : Int) := of_decide_eq_true (by assumption)
     have q205 : x4_1 < (l0_5.length : Int) := of_decide_eq_true (by assumption)
     obtain ⟨ad205, A205_3, c205_3, A205_4, c205_4, A205_5, c205_5, e205, hx205_0, hx205_1, hx205_2, hx205_3, hx205_4, hx205_5, hx205_6, hl205_3, hi205_3, hl205_4, hi205_4, hl205_5, hi205_5⟩ := at_T34 HR0_5.out x4_1 p205 q205
     cases e205
     replace hx205_0 := (HB.out.cell (World.block_lt_of_cell? w _ hx205_0)).trans hx205_0
     replace hx205_1 := (HB.out.cell (World.block_lt_of_cell? w _ hx205_1)).trans hx205_1
     replace hx205_2 := (HB.out.cell (World.block_lt_of_cell? w _ hx205_2)).trans hx205_2
     replace hx205_3 := (HB.out.cell (World.block_lt_of_cell? w _ hx205_3)).trans hx205_3
     replace hx205_4 := (HB.out.cell (World.block_lt_of_cell? w _ hx205_4)).trans hx205_4
     replace hx205_5 := (HB.out.cell (World.block_lt_of_cell? w _ hx205_5)).trans hx205_5
     replace hx205_6 := (HB.out.cell (World.block_lt_of_cell? w _ hx205_6)).trans hx205_6
     have HR205_3 := gA hi205_3
     have HC205_3 := gA hl205_3
     clear hi205_3 hl205_3
     have HR205_4 := gA hi205_4
     have HC205_4 := gA hl205_4
     clear hi205_4 hl205_4
     have HR205_5 := gA hi205_5
     have HC205_5 := gA hl205_5
     clear hi205_5 hl205_5
     replace p205 := eq_true p205
     replace q205 := eq_true q205
     go_wp2_with (first | ((with_reducible refine gate_callee (f := 26) rfl ?_); refine goesL_ (some 18) rfl rfl Try.func26 (by kernel_rfl) rfl #[.agg #[.int .i64 ((rd_T34 l0_5 x4_1).f0), .int .i64 ((rd_T34 l0_5 x4_1).f1), .string ((rd_T34 l0_5 x4_1).f2), .slice A205_3 ((rd_T34 l0_5 x4_1).f3.f0).length c205_3, .slice A205_4 ((rd_T34 l0_5 x4_1).f3.f1).length c205_4, .slice A205_5 ((rd_T34 l0_5 x4_1).f4).length c205_5, .int .i64 ((rd_T34 l0_5 x4_1).f5)]] rfl (by (try simp only [List.map_toArray, List.map_cons, List.map_nil]); first | done | rfl | (simp only [List.length_drop, List.length_take]; rfl)) ?_; (with_reducible refine (ih k1 (by have := HK1.out; omega) ((rd_T34 l0_5 x4_1).f0) ((rd_T34 l0_5 x4_1).f1) ((rd_T34 l0_5 x4_1).f2) _ _ ((rd_T34 l0_5 x4_1).f3.f0) _ _ ((rd_T34 l0_5 x4_1).f3.f1) _ _ ((rd_T34 l0_5 x4_1).f4) ((rd_T34 l0_5 x4_1).f5) t206 _ ?side1 ?side2 ?side3 ?side4 ?side5 ?side6 A5.out).mono ?_); (case side1 => exact gC HR205_3 HB); (case side2 => exact HC205_3.out); (case side3 => exact gC HR205_4 HB); (case side4 => exact HC205_4.out); (case side5 => exact gC HR205_5 HB); (case side6 => exact HC205_5.out); rintro e w10 ⟨rfl, hb⟩; refine ⟨_, rfl, ?_⟩; replace BK204 := gA (blk_below (gK BK204) hb); replace HB := gA (below_step (gB HB) hb); (try clear hb)))
     go_roundg k1
     case measure => have := HK1.out; omega
     case rel => exact ⟨(x3_1), (wrap64 (x4_1 + 1)), (rfl), (rfl), H', ⟨by have := HK1.out; omega⟩, ⟨gK BK204⟩, ⟨by repeat first | exact gB HB | refine below_set ?_ GE204.out⟩⟩
   ·rw [if_neg c3] at H
    have c3b0 := decide_eq_false c3
    clear c3
    obtain rfl := Option.some.inj H
    have hcz11_0 := gz BK204 0 rfl
    have hcz11_1 := gz BK204 1 rfl
    have hcz11_2 := gz BK204 2 rfl
    have hcz11_3 := gz BK204 3 rfl
    have hcz11_4 := gz BK204 4 rfl
    have hcz11_5 := gz BK204 5 rfl
    have hcz11_6 := gz BK204 6 rfl
    have hfz11_0 := blk_frozen BK204.out 0
    have hfz11_1 := blk_frozen BK204.out 1
    have hfz11_2 := blk_frozen BK204.out 2
    have hfz11_3 := blk_frozen BK204.out 3
    have hfz11_4 := blk_frozen BK204.out 4
    have hfz11_5 := blk_frozen BK204.out 5
    have hfz11_6 := blk_frozen BK204.out 6
    go_wp2
    go_ret
    exact ⟨rfl, by repeat first | exact gB HB | refine below_set ?_ GE204.out⟩
end Go.Proofs.Ytfblidojoepcpaa.P
