/- Written by a program of this session: the functions that the laws reach, what each comes to, and each law as it is stated, for every input. No condition. -/
import Derived.Test.YtahgfebdjjfkhaaPx0
import Derived.Test.YtahgfebdjjfkhaaPx12
namespace Go.Proofs.Ytahgfebdjjfkhaa.P
open Go.RowKit Go.Proofs.YtahgfebdjjfkhaaW.PrintWords Go.Proofs.YtahgfebdjjfkhaaW.PrintLast Go.Proofs.YtahgfebdjjfkhaaW.PrintMore
attribute [local go_sem] max2_int min2_int max_two min_two max_three min_three max_four min_four   -- for this text's walks alone
set_option linter.unusedVariables false
set_option linter.unusedSimpArgs false
mutual
def triglyphref03_cell.j0 : Nat → Int → Bool → Int → Int → List (S25) → Option (Int)
 | 0, _, _, _, _, _ => none
 | k + 1, x1, x18, x313000, x313001, x313002 => if x18 = true then (if x1 = 8 then (some 15) else (if 0 < (x313002.length : Int) then ((triglyphref03_check.f k ((rd_T25 x313002 0).f0) ((rd_T25 x313002 0).f1) (wrap64 (x1 + 1))).bind fun t314 => (some t314)) else (none))) else (if (x313002.length : Int) > 0 then (some 1) else (if x313000 = 0 then (some 0) else (if x313000 = 1 then ((triglyphref02_Good.f x313001).bind fun t315 => (if t315 = true then (some 0) else (some 1))) else (some 1))))
def triglyphref03_cell.f : Nat → Int → Int → List (S25) → Int → Option (Int)
 | 0, _, _, _, _ => none
 | k + 1, a0_0, a0_1, l0_2, a1 => if a0_0 = 2 then (if a0_1 = 0 then (triglyphref03_cell.j0 k a1 ((l0_2.length : Int) == 1) a0_0 a0_1 l0_2) else (triglyphref03_cell.j0 k a1 false a0_0 a0_1 l0_2)) else (triglyphref03_cell.j0 k a1 false a0_0 a0_1 l0_2)
def triglyphref03_check.l0 : Nat → Int → Int → List Int → List (S43) → Option (Int)
 | 0, _, _, _, _ => none
 | k + 1, x1, x7, x317000, x317001 => if x7 < (x317000.length : Int) then (if 0 ≤ x7 then (if (rd x317000 x7) > 16384 then (some 12) else (triglyphref03_check.l0 k x1 (wrap64 (x7 + 1)) x317000 x317001)) else (none)) else (triglyphref03_check.l1 k x1 0 x317000 x317001)
def triglyphref03_check.l1 : Nat → Int → Int → List Int → List (S43) → Option (Int)
 | 0, _, _, _, _ => none
 | k + 1, x1, x8, x317000, x317001 => if x8 < (x317001.length : Int) then (if 0 ≤ x8 then ((triglyphref03_cell.f k ((rd_T43 x317001 x8).f0) ((rd_T43 x317001 x8).f1) ((rd_T43 x317001 x8).f2) x1).bind fun t321 => (if t321 = 0 then (triglyphref03_check.l1 k x1 (wrap64 (x8 + 1)) x317000 x317001) else (some t321))) else (none)) else (some 0)
def triglyphref03_check.f : Nat → List Int → List (S43) → Int → Option (Int)
 | 0, _, _, _ => none
 | k + 1, l0_0, l0_1, a1 => (triglyphref03_Size.f k l0_0).bind fun bt317 => (if bt317.2 = 0 then (if bt317.1 = (l0_1.length : Int) then (triglyphref03_check.l0 k a1 0 l0_0 l0_1) else (some 1)) else (some bt317.2))
end
theorem scc61.mono_l : ∀ k, (∀ y0 y1 y2 y3, LeO (triglyphref03_cell.f k y0 y1 y2 y3) (triglyphref03_cell.f (k + 1) y0 y1 y2 y3)) ∧ (∀ y0 y1 y2 y3 y4, LeO (triglyphref03_cell.j0 k y0 y1 y2 y3 y4) (triglyphref03_cell.j0 (k + 1) y0 y1 y2 y3 y4)) ∧ (∀ y0 y1 y2, LeO (triglyphref03_check.f k y0 y1 y2) (triglyphref03_check.f (k + 1) y0 y1 y2)) ∧ (∀ y0 y1 y2 y3, LeO (triglyphref03_check.l0 k y0 y1 y2 y3) (triglyphref03_check.l0 (k + 1) y0 y1 y2 y3)) ∧ (∀ y0 y1 y2 y3, LeO (triglyphref03_check.l1 k y0 y1 y2 y3) (triglyphref03_check.l1 (k + 1) y0 y1 y2 y3))
 | 0 => ⟨fun _ _ _ _ r h => by simp [triglyphref03_cell.f] at h, fun _ _ _ _ _ r h => by simp [triglyphref03_cell.j0] at h, fun _ _ _ r h => by simp [triglyphref03_check.f] at h, fun _ _ _ _ r h => by simp [triglyphref03_check.l0] at h, fun _ _ _ _ r h => by simp [triglyphref03_check.l1] at h⟩
 | k + 1 => by
  obtain ⟨ih0, ih1, ih2, ih3, ih4⟩ := scc61.mono_l k
  refine ⟨?_, ?_, ?_, ?_, ?_⟩
  ·intro y0 y1 y2 y3
   unfold triglyphref03_cell.f
   repeat' first
   | (with_reducible exact ih0 _ _ _ _)
   | (with_reducible exact ih1 _ _ _ _ _)
   | (with_reducible exact ih2 _ _ _)
   | (with_reducible exact ih3 _ _ _ _)
   | (with_reducible exact ih4 _ _ _ _)
   | (with_reducible exact triglyphref03_Size.mono _ _)
   | (with_reducible exact LeO.refl _)
   | (with_reducible exact LeO.none _)
   | (with_reducible refine LeO.ite ?_ ?_)
   | (with_reducible refine LeO.bind ?_ (fun _ => ?_))





   | exact triglyphref03_Size.mono _ _



  ·intro y0 y1 y2 y3 y4
   unfold triglyphref03_cell.j0
   repeat' first
   | (with_reducible exact ih0 _ _ _ _)
   | (with_reducible exact ih1 _ _ _ _ _)
   | (with_reducible exact ih2 _ _ _)
   | (with_reducible exact ih3 _ _ _ _)
   | (with_reducible exact ih4 _ _ _ _)
   | (with_reducible exact triglyphref03_Size.mono _ _)
   | (with_reducible exact LeO.refl _)
   | (with_reducible exact LeO.none _)
   | (with_reducible refine LeO.ite ?_ ?_)
   | (with_reducible refine LeO.bind ?_ (fun _ => ?_))





   | exact triglyphref03_Size.mono _ _



  ·intro y0 y1 y2
   unfold triglyphref03_check.f
   repeat' first
   | (with_reducible exact ih0 _ _ _ _)
   | (with_reducible exact ih1 _ _ _ _ _)
   | (with_reducible exact ih2 _ _ _)
   | (with_reducible exact ih3 _ _ _ _)
   | (with_reducible exact ih4 _ _ _ _)
   | (with_reducible exact triglyphref03_Size.mono _ _)
   | (with_reducible exact LeO.refl _)
   | (with_reducible exact LeO.none _)
   | (with_reducible refine LeO.ite ?_ ?_)
   | (with_reducible refine LeO.bind ?_ (fun _ => ?_))





   | exact triglyphref03_Size.mono _ _



  ·intro y0 y1 y2 y3
   unfold triglyphref03_check.l0
   repeat' first
   | (with_reducible exact ih0 _ _ _ _)
   | (with_reducible exact ih1 _ _ _ _ _)
   | (with_reducible exact ih2 _ _ _)
   | (with_reducible exact ih3 _ _ _ _)
   | (with_reducible exact ih4 _ _ _ _)
   | (with_reducible exact triglyphref03_Size.mono _ _)
   | (with_reducible exact LeO.refl _)
   | (with_reducible exact LeO.none _)
   | (with_reducible refine LeO.ite ?_ ?_)
   | (with_reducible refine LeO.bind ?_ (fun _ => ?_))





   | exact triglyphref03_Size.mono _ _



  ·intro y0 y1 y2 y3
   unfold triglyphref03_check.l1
   repeat' first
   | (with_reducible exact ih0 _ _ _ _)
   | (with_reducible exact ih1 _ _ _ _ _)
   | (with_reducible exact ih2 _ _ _)
   | (with_reducible exact ih3 _ _ _ _)
   | (with_reducible exact ih4 _ _ _ _)
   | (with_reducible exact triglyphref03_Size.mono _ _)
   | (with_reducible exact LeO.refl _)
   | (with_reducible exact LeO.none _)
   | (with_reducible refine LeO.ite ?_ ?_)
   | (with_reducible refine LeO.bind ?_ (fun _ => ?_))





   | exact triglyphref03_Size.mono _ _
theorem triglyphref03_cell.mono : ∀ a0 a1 a2 a3 k, LeO (triglyphref03_cell.f k a0 a1 a2 a3) (triglyphref03_cell.f (k + 1) a0 a1 a2 a3) := by
 intro a0 a1 a2 a3 k
 obtain ⟨ih0, ih1, ih2, ih3, ih4⟩ := scc61.mono_l k
 exact ih0 a0 a1 a2 a3
theorem triglyphref03_check.mono : ∀ a0 a1 a2 k, LeO (triglyphref03_check.f k a0 a1 a2) (triglyphref03_check.f (k + 1) a0 a1 a2) := by
 intro a0 a1 a2 k
 obtain ⟨ih0, ih1, ih2, ih3, ih4⟩ := scc61.mono_l k
 exact ih2 a0 a1 a2
set_option maxHeartbeats 8000000 in
set_option maxRecDepth 100000 in
theorem triglyphref03_cell.step (k : Nat) (ih : ∀ k_, k_ < k → ∀ (a0_0 : Int) (a0_1 : Int) (A0_2 : Option Addr) (c0_2 : Nat) (l0_2 : List (S25)) (a1 : Int) (r : Int) (w : World) (hr0_2 : Kd.C k25 w A0_2 l0_2.length l0_2) (hc0_2 : l0_2.length ≤ c0_2) (h : triglyphref03_cell.f k_ a0_0 a0_1 l0_2 a1 = some r),
  Calls Try.prog 61 #[.agg #[.int .i64 a0_0, .int .i64 a0_1, .slice A0_2 l0_2.length c0_2], .int .i64 a1] w fun e w' => e = .returned (.int .i64 r) ∧ Below w.heap.size w w') (ih_triglyphref03_check : ∀ k_, k_ < k → ∀ (A0_0 : Option Addr) (c0_0 : Nat) (l0_0 : List Int) (A0_1 : Option Addr) (c0_1 : Nat) (l0_1 : List (S43)) (a1 : Int) (r : Int) (w : World) (hr0_0 : Kd.C (Kd.int .i64) w A0_0 l0_0.length l0_0) (hc0_0 : l0_0.length ≤ c0_0) (hr0_1 : Kd.C k43 w A0_1 l0_1.length l0_1) (hc0_1 : l0_1.length ≤ c0_1) (h : triglyphref03_check.f k_ l0_0 l0_1 a1 = some r),
  Calls Try.prog 45 #[.agg #[.slice A0_0 l0_0.length c0_0, .slice A0_1 l0_1.length c0_1], .int .i64 a1] w fun e w' => e = .returned (.int .i64 r) ∧ Below w.heap.size w w') : ∀ (a0_0 : Int) (a0_1 : Int) (A0_2 : Option Addr) (c0_2 : Nat) (l0_2 : List (S25)) (a1 : Int) (r : Int) (w : World) (hr0_2 : Kd.C k25 w A0_2 l0_2.length l0_2) (hc0_2 : l0_2.length ≤ c0_2) (h : triglyphref03_cell.f k a0_0 a0_1 l0_2 a1 = some r),
  Calls Try.prog 61 #[.agg #[.int .i64 a0_0, .int .i64 a0_1, .slice A0_2 l0_2.length c0_2], .int .i64 a1] w fun e w' => e = .returned (.int .i64 r) ∧ Below w.heap.size w w' := by
 intro a0_0 a0_1 A0_2 c0_2 l0_2 a1 r w hr0_2 hc0_2 h
 cases k with
 | zero => exact absurd h (by simp [triglyphref03_cell.f])
 | succ k =>
 simp only [triglyphref03_cell.f] at h
 have hu43 := Try.underlying43
 have hu25 := Try.underlying25
 have HR0_2 := gA hr0_2
 have HC0_2 := gA hc0_2
 clear hr0_2 hc0_2
 have HB := gA (Below.refl w.heap.size w)
 have H : (if a0_0 = 2 then (if a0_1 = 0 then (triglyphref03_cell.j0 k a1 ((l0_2.length : Int) == 1) a0_0 a0_1 l0_2) else (triglyphref03_cell.j0 k a1 false a0_0 a0_1 l0_2)) else (triglyphref03_cell.j0 k a1 false a0_0 a0_1 l0_2)) = some r := h
 clear h
 have HC3 := gA H
 clear H
 go_enter Try.func61, Try.ntmps61
 go_upto_region 1 with (first | ((with_reducible refine gate_dst (N := 2) rfl ?_); (try (refine gate_guard (by rfl) ?_; dsimp only)); refine box_event ?hg (N := 2) ?hd (cs := #[.int .i64 a0_0, .int .i64 a0_1, .slice A0_2 l0_2.length c0_2]) (t := 43) ?hr ?_; (case hd => rfl); (case hg => rfl); (case hr => first | (go_simp; done) | (go_simp; rfl)); intro gb312 hg w4 hbox hb; have BK312 := gA (hbox); have GW312 := gA ((by rw [hg]; exact (below_size (gB HB)) : w.heap.size ≤ gb312)); have GE312 := gA ((by rw [hg]; exact (below_size (gB HB)) : w.heap.size ≤ gb312)); replace HB := gA (below_step (gB HB) hb); clear hb hbox hg))
 (try simp only [Act.put, List.setIfInBounds_toArray, List.set_cons_zero, List.set_cons_succ])
 go_cut [18] (fun v18 wc => ∃ (kq : Nat) (x18_2 : Bool), v18 = .bool x18_2 ∧ Aside0 (triglyphref03_cell.j0 kq a1 x18_2 a0_0 a0_1 l0_2 = some r) ∧ Aside0 (kq ≤ k) ∧ Aside0 (wc.heap[gb312]? = some (.cells #[.int .i64 a0_0, .int .i64 a0_1, (.slice A0_2 l0_2.length c0_2)] 43 (0, 0))) ∧ Aside0 (Below w.heap.size w wc))
 case first =>
  have H := HC3.out; clear HC3
  by_cases c5 : a0_0 = 2
  ·rw [if_pos c5] at H
   have c5b0 : (a0_0 == 2) = true := beq_iff_eq.mpr c5
   have c5b1 : (a0_0 != 2) = false := bne_eq_false_iff_eq.mpr c5
   clear c5
   (first | rw [c5b0] | rw [c5b1] | (simp only [i64_w, i32_w]; rw [c5b0]) | skip)
   by_cases c6 : a0_1 = 0
   ·rw [if_pos c6] at H
    have c6b0 : (a0_1 == 0) = true := beq_iff_eq.mpr c6
    have c6b1 : (a0_1 != 0) = false := bne_eq_false_iff_eq.mpr c6
    clear c6
    have H' := gA H
    clear H
    obtain ⟨hcz7_0, hcz7_1, hcz7_2, hfz7_0, hfz7_1, hfz7_2⟩ := gz3 BK312
    go_wp2
    all_goals (go_meet; (case rel => exact ⟨_, (((l0_2.length : Int) == 1)), (by first | rfl | (simp; done) | (simp [*]; done) | (exfalso; simp_all; done) | (exfalso; simp_all; omega)), H', ⟨by first | omega | exact Nat.le_refl _⟩, ⟨gK BK312⟩, ⟨gB HB⟩⟩))
   ·rw [if_neg c6] at H
    have c6b0 : (a0_1 == 0) = false := beq_eq_false_iff_ne.mpr c6
    have c6b1 : (a0_1 != 0) = true := bne_iff_ne.mpr c6
    have H' := gA H
    clear H
    obtain ⟨hcz8_0, hcz8_1, hcz8_2, hfz8_0, hfz8_1, hfz8_2⟩ := gz3 BK312
    go_wp2
    all_goals (go_meet; (case rel => exact ⟨_, (false), (by first | rfl | (simp; done) | (simp [*]; done) | (exfalso; simp_all; done) | (exfalso; simp_all; omega)), H', ⟨by first | omega | exact Nat.le_refl _⟩, ⟨gK BK312⟩, ⟨gB HB⟩⟩))
  ·rw [if_neg c5] at H
   have c5b0 : (a0_0 == 2) = false := beq_eq_false_iff_ne.mpr c5
   have c5b1 : (a0_0 != 2) = true := bne_iff_ne.mpr c5
   (first | rw [c5b0] | rw [c5b1] | (simp only [i64_w, i32_w]; rw [c5b0]) | skip)
   have H' := gA H
   clear H
   obtain ⟨hcz9_0, hcz9_1, hcz9_2, hfz9_0, hfz9_1, hfz9_2⟩ := gz3 BK312
   go_wp2
   all_goals (go_meet; (case rel => exact ⟨_, (false), (by first | rfl | (simp; done) | (simp [*]; done) | (exfalso; simp_all; done) | (exfalso; simp_all; omega)), H', ⟨by first | omega | exact Nat.le_refl _⟩, ⟨gK BK312⟩, ⟨gB HB⟩⟩))
 case rest =>
  clear HC3
  try clear p2
  try clear c5
  try clear c5b0
  try clear c5b1
  try clear c6
  try clear c6b0
  try clear c6b1
  try clear hcz7_0
  try clear hcz7_1
  try clear hcz7_2
  try clear hcz8_0
  try clear hcz8_1
  try clear hcz8_2
  try clear hcz9_0
  try clear hcz9_1
  try clear hcz9_2
  try clear hfz7_0
  try clear hfz7_1
  try clear hfz7_2
  try clear hfz8_0
  try clear hfz8_1
  try clear hfz8_2
  try clear hfz9_0
  try clear hfz9_1
  try clear hfz9_2
  obtain ⟨kq, x18_2, rfl, HA, HJ2, BK312, HB⟩ := hcut
  cases kq with
  | zero => exact absurd HA.out (by simp [triglyphref03_cell.j0])
  | succ kj2 =>
   have H := HA.out; clear HA
   simp only [triglyphref03_cell.j0] at H
   by_cases c10 : x18_2 = true
   ·subst c10
    have H1 : (if a1 = 8 then (some 15) else (if 0 < (l0_2.length : Int) then ((triglyphref03_check.f kj2 ((rd_T25 l0_2 0).f0) ((rd_T25 l0_2 0).f1) (wrap64 (a1 + 1))).bind fun t314 => (some t314)) else (none))) = some r := by rw [if_pos rfl] at H; exact H
    clear H; have H := H1; clear H1
    by_cases c11 : a1 = 8
    ·rw [if_pos c11] at H
     have c11b0 : (a1 == 8) = true := beq_iff_eq.mpr c11
     have c11b1 : (a1 != 8) = false := bne_eq_false_iff_eq.mpr c11
     clear c11
     obtain rfl := Option.some.inj H
     go_wp2
     go_ret
     exact ⟨rfl, by repeat first | exact gB HB | refine below_set ?_ GE312.out⟩
    ·rw [if_neg c11] at H
     have c11b0 : (a1 == 8) = false := beq_eq_false_iff_ne.mpr c11
     have c11b1 : (a1 != 8) = true := bne_iff_ne.mpr c11
     obtain ⟨c12, H⟩ := iS H
     have c12b0 := decide_eq_true c12
     have c12b1 : decide (0 < l0_2.length) = true := decide_eq_true (by omega)
     clear c12
     replace H := Option.bind_eq_some_iff.mp H
     obtain ⟨t314, A130, H⟩ := H
     replace H : (some t314) = some r := H
     have A13 := gA A130
     clear A130
     obtain rfl := Option.some.inj H
     obtain ⟨hcz14_0, hcz14_1, hcz14_2, hfz14_0, hfz14_1, hfz14_2⟩ := gz3 BK312
     have p313 : 0 ≤ (0 : Int) := (by omega)
     have q313 : 0 < (l0_2.length : Int) := of_decide_eq_true (by assumption)
     obtain ⟨ad313, A313_0, c313_0, A313_1, c313_1, e313, hx313_0, hx313_1, hl313_0, hi313_0, hl313_1, hi313_1⟩ := at_T25 HR0_2.out 0 p313 q313
     cases e313
     have qi313 : (0 < l0_2.length) = True := eq_true (by omega)
     (try rw [show ((0 : Int)).toNat = 0 from rfl] at hx313_0)
     (try rw [show 0 * 2 = 0 from rfl] at hx313_0)
     (try rw [Addr.add_zero'] at hx313_0)
     (try rw [show ((0 : Int)).toNat = 0 from rfl] at hx313_1)
     (try rw [show 0 * 2 = 0 from rfl] at hx313_1)
     (try rw [Addr.add_zero'] at hx313_1)
     replace hx313_0 := (HB.out.cell (World.block_lt_of_cell? w _ hx313_0)).trans hx313_0
     replace hx313_1 := (HB.out.cell (World.block_lt_of_cell? w _ hx313_1)).trans hx313_1
     have HR313_0 := gA hi313_0
     have HC313_0 := gA hl313_0
     clear hi313_0 hl313_0
     have HR313_1 := gA hi313_1
     have HC313_1 := gA hl313_1
     clear hi313_1 hl313_1
     replace p313 := eq_true p313
     replace q313 := eq_true q313
     go_wp2_with (first | ((with_reducible refine gate_callee (f := 45) rfl ?_); refine goesL_ (some 27) rfl rfl Try.func45 (by kernel_rfl) rfl #[.agg #[.slice A313_0 ((rd_T25 l0_2 0).f0).length c313_0, .slice A313_1 ((rd_T25 l0_2 0).f1).length c313_1], .int .i64 (wrap64 (a1 + 1))] rfl (by (try simp only [List.map_toArray, List.map_cons, List.map_nil]); first | done | rfl | (simp only [List.length_drop, List.length_take]; rfl)) ?_; (with_reducible refine (ih_triglyphref03_check kj2 (by have := HJ2.out; omega) _ _ ((rd_T25 l0_2 0).f0) _ _ ((rd_T25 l0_2 0).f1) (wrap64 (a1 + 1)) t314 _ ?side1 ?side2 ?side3 ?side4 A13.out).mono ?_); (case side1 => exact gC HR313_0 HB); (case side2 => exact HC313_0.out); (case side3 => exact gC HR313_1 HB); (case side4 => exact HC313_1.out); rintro e w15 ⟨rfl, hb⟩; refine ⟨_, rfl, ?_⟩; replace BK312 := gA (blk_below (gK BK312) hb); replace HB := gA (below_step (gB HB) hb); (try clear hb)))
     go_ret
     exact ⟨rfl, by repeat first | exact gB HB | refine below_set ?_ GE312.out⟩
   ·replace c10 := Bool.eq_false_iff.mpr c10
    subst c10
    have H1 : (if (l0_2.length : Int) > 0 then (some 1) else (if a0_0 = 0 then (some 0) else (if a0_0 = 1 then ((triglyphref02_Good.f a0_1).bind fun t315 => (if t315 = true then (some 0) else (some 1))) else (some 1)))) = some r := by rw [if_neg (show ¬ (false = true) by decide)] at H; exact H
    clear H; have H := H1; clear H1
    by_cases c16 : (l0_2.length : Int) > 0
    ·rw [if_pos c16] at H
     have c16b0 : decide (0 < (l0_2.length : Int)) = true := decide_eq_true c16
     have c16b1 : decide (0 < l0_2.length) = true := decide_eq_true (by omega)
     clear c16
     obtain rfl := Option.some.inj H
     obtain ⟨hcz17_0, hcz17_1, hcz17_2, hfz17_0, hfz17_1, hfz17_2⟩ := gz3 BK312
     go_wp2
     go_ret
     exact ⟨rfl, by repeat first | exact gB HB | refine below_set ?_ GE312.out⟩
    ·rw [if_neg c16] at H
     have c16b0 : decide (0 < (l0_2.length : Int)) = false := decide_eq_false c16
     have c16b1 : decide (0 < l0_2.length) = false := decide_eq_false (by omega)
     clear c16
     by_cases c18 : a0_0 = 0
     ·rw [if_pos c18] at H
      have c18b0 : (a0_0 == 0) = true := beq_iff_eq.mpr c18
      have c18b1 : (a0_0 != 0) = false := bne_eq_false_iff_eq.mpr c18
      clear c18
      obtain rfl := Option.some.inj H
      obtain ⟨hcz19_0, hcz19_1, hcz19_2, hfz19_0, hfz19_1, hfz19_2⟩ := gz3 BK312
      go_wp2
      go_ret
      exact ⟨rfl, by repeat first | exact gB HB | refine below_set ?_ GE312.out⟩
     ·rw [if_neg c18] at H
      have c18b0 : (a0_0 == 0) = false := beq_eq_false_iff_ne.mpr c18
      have c18b1 : (a0_0 != 0) = true := bne_iff_ne.mpr c18
      by_cases c20 : a0_0 = 1
      ·rw [if_pos c20] at H
       have c20b0 : (a0_0 == 1) = true := beq_iff_eq.mpr c20
       have c20b1 : (a0_0 != 1) = false := bne_eq_false_iff_eq.mpr c20
       clear c20
       replace H := Option.bind_eq_some_iff.mp H
       obtain ⟨t315, A210, H⟩ := H
       replace H : (if t315 = true then (some 0) else (some 1)) = some r := H
       have A21 := gA A210
       clear A210
       by_cases c22 : t315 = true
       ·subst c22
        have H1 : (some 0) = some r := by rw [if_pos rfl] at H; exact H
        clear H; have H := H1; clear H1
        obtain rfl := Option.some.inj H
        obtain ⟨hcz23_0, hcz23_1, hcz23_2, hfz23_0, hfz23_1, hfz23_2⟩ := gz3 BK312
        go_wp2_with (first | (go_at_call 74; (with_reducible refine (triglyphref02_Good.calls a0_1 true _ A21.out).mono ?_); rintro e w' ⟨rfl, ⟨nd, rfl⟩⟩))
        go_ret
        exact ⟨rfl, by repeat first | exact gB HB | refine below_set ?_ GE312.out⟩
       ·replace c22 := Bool.eq_false_iff.mpr c22
        subst c22
        have H1 : (some 1) = some r := by rw [if_neg (show ¬ (false = true) by decide)] at H; exact H
        clear H; have H := H1; clear H1
        obtain rfl := Option.some.inj H
        obtain ⟨hcz24_0, hcz24_1, hcz24_2, hfz24_0, hfz24_1, hfz24_2⟩ := gz3 BK312
        go_wp2_with (first | (go_at_call 74; (with_reducible refine (triglyphref02_Good.calls a0_1 false _ A21.out).mono ?_); rintro e w' ⟨rfl, ⟨nd, rfl⟩⟩))
        go_ret
        exact ⟨rfl, by repeat first | exact gB HB | refine below_set ?_ GE312.out⟩
      ·rw [if_neg c20] at H
       have c20b0 : (a0_0 == 1) = false := beq_eq_false_iff_ne.mpr c20
       have c20b1 : (a0_0 != 1) = true := bne_iff_ne.mpr c20
       obtain rfl := Option.some.inj H
       obtain ⟨hcz25_0, hcz25_1, hcz25_2, hfz25_0, hfz25_1, hfz25_2⟩ := gz3 BK312
       go_wp2
       go_ret
       exact ⟨rfl, by repeat first | exact gB HB | refine below_set ?_ GE312.out⟩
set_option maxHeartbeats 8000000 in
set_option maxRecDepth 100000 in
theorem triglyphref03_check.step (k : Nat) (ih_triglyphref03_cell : ∀ k_, k_ < k → ∀ (a0_0 : Int) (a0_1 : Int) (A0_2 : Option Addr) (c0_2 : Nat) (l0_2 : List (S25)) (a1 : Int) (r : Int) (w : World) (hr0_2 : Kd.C k25 w A0_2 l0_2.length l0_2) (hc0_2 : l0_2.length ≤ c0_2) (h : triglyphref03_cell.f k_ a0_0 a0_1 l0_2 a1 = some r),
  Calls Try.prog 61 #[.agg #[.int .i64 a0_0, .int .i64 a0_1, .slice A0_2 l0_2.length c0_2], .int .i64 a1] w fun e w' => e = .returned (.int .i64 r) ∧ Below w.heap.size w w') (ih : ∀ k_, k_ < k → ∀ (A0_0 : Option Addr) (c0_0 : Nat) (l0_0 : List Int) (A0_1 : Option Addr) (c0_1 : Nat) (l0_1 : List (S43)) (a1 : Int) (r : Int) (w : World) (hr0_0 : Kd.C (Kd.int .i64) w A0_0 l0_0.length l0_0) (hc0_0 : l0_0.length ≤ c0_0) (hr0_1 : Kd.C k43 w A0_1 l0_1.length l0_1) (hc0_1 : l0_1.length ≤ c0_1) (h : triglyphref03_check.f k_ l0_0 l0_1 a1 = some r),
  Calls Try.prog 45 #[.agg #[.slice A0_0 l0_0.length c0_0, .slice A0_1 l0_1.length c0_1], .int .i64 a1] w fun e w' => e = .returned (.int .i64 r) ∧ Below w.heap.size w w') : ∀ (A0_0 : Option Addr) (c0_0 : Nat) (l0_0 : List Int) (A0_1 : Option Addr) (c0_1 : Nat) (l0_1 : List (S43)) (a1 : Int) (r : Int) (w : World) (hr0_0 : Kd.C (Kd.int .i64) w A0_0 l0_0.length l0_0) (hc0_0 : l0_0.length ≤ c0_0) (hr0_1 : Kd.C k43 w A0_1 l0_1.length l0_1) (hc0_1 : l0_1.length ≤ c0_1) (h : triglyphref03_check.f k l0_0 l0_1 a1 = some r),
  Calls Try.prog 45 #[.agg #[.slice A0_0 l0_0.length c0_0, .slice A0_1 l0_1.length c0_1], .int .i64 a1] w fun e w' => e = .returned (.int .i64 r) ∧ Below w.heap.size w w' := by
 intro A0_0 c0_0 l0_0 A0_1 c0_1 l0_1 a1 r w hr0_0 hc0_0 hr0_1 hc0_1 h
 cases k with
 | zero => exact absurd h (by simp [triglyphref03_check.f])
 | succ k =>
 simp only [triglyphref03_check.f] at h
 have hu25 := Try.underlying25
 have hu43 := Try.underlying43
 have HR0_0 := gA hr0_0
 have HC0_0 := gA hc0_0
 clear hr0_0 hc0_0
 have HR0_1 := gA hr0_1
 have HC0_1 := gA hc0_1
 clear hr0_1 hc0_1
 have HB := gA (Below.refl w.heap.size w)
 have H : ((triglyphref03_Size.f k l0_0).bind fun bt317 => (if bt317.2 = 0 then (if bt317.1 = (l0_1.length : Int) then (triglyphref03_check.l0 k a1 0 l0_0 l0_1) else (some 1)) else (some bt317.2))) = some r := h
 clear h
 replace H := Option.bind_eq_some_iff.mp H
 obtain ⟨⟨t317, t318⟩, A30, H⟩ := H
 replace H : (if t318 = 0 then (if t317 = (l0_1.length : Int) then (triglyphref03_check.l0 k a1 0 l0_0 l0_1) else (some 1)) else (some t318)) = some r := H
 have A3 := gA A30
 clear A30
 by_cases c4 : t318 = 0
 ·rw [if_pos c4] at H
  have c4b0 : (t318 == 0) = true := beq_iff_eq.mpr c4
  have c4b1 : (t318 != 0) = false := bne_eq_false_iff_eq.mpr c4
  clear c4
  by_cases c5 : t317 = (l0_1.length : Int)
  ·rw [if_pos c5] at H
   have c5b0 : (t317 == (l0_1.length : Int)) = true := beq_iff_eq.mpr c5
   have c5b1 : (t317 != (l0_1.length : Int)) = false := bne_eq_false_iff_eq.mpr c5
   clear c5
   have H' := gA H
   clear H
   go_enter Try.func45, Try.ntmps45
   go_wp2_with (first | ((with_reducible refine gate_dst (N := 2) rfl ?_); refine box_event ?hg (N := 2) ?hd (cs := #[.slice A0_0 l0_0.length c0_0, .slice A0_1 l0_1.length c0_1]) (t := 25) ?hr ?_; (case hd => rfl); (case hg => rfl); (case hr => first | (go_simp; done) | (go_simp; rfl)); intro gb316 hg w6 hbox hb; have BK316 := gA (hbox); have GW316 := gA ((by rw [hg]; exact (below_size (gB HB)) : w.heap.size ≤ gb316)); have GE316 := gA ((by rw [hg]; exact (below_size (gB HB)) : w.heap.size ≤ gb316)); replace HB := gA (below_step (gB HB) hb); clear hb hbox hg; obtain ⟨hcz7_0, hcz7_1, hfz7_0, hfz7_1⟩ := gz2 BK316) | ((with_reducible refine gate_callee (f := 36) rfl ?_); refine goesL_ (some 13) rfl rfl Try.func36 (by kernel_rfl) rfl #[.slice A0_0 l0_0.length c0_0] rfl (by (try simp only [List.map_toArray, List.map_cons, List.map_nil]); first | done | rfl | (simp only [List.length_drop, List.length_take]; rfl)) ?_; (with_reducible refine (triglyphref03_Size.calls k _ _ l0_0 t317 t318 _ ?side1 ?side2 A3.out).mono ?_); (case side1 => exact gC HR0_0 HB); (case side2 => exact HC0_0.out); rintro e w' ⟨rfl, ⟨nd, rfl⟩⟩; refine ⟨_, rfl, ?_⟩))
   go_loopg [7] k (fun kq v7 w' => ∃ (x7_1 : Int), v7 = .int .i64 x7_1 ∧ Aside0 (triglyphref03_check.l0 kq a1 x7_1 l0_0 l0_1 = some r) ∧ Aside0 (kq ≤ k) ∧ Aside0 (w'.heap[gb316]? = some (.cells #[(.slice A0_0 l0_0.length c0_0), (.slice A0_1 l0_1.length c0_1)] 25 (0, 0))) ∧ Aside0 (Below w.heap.size w w'))
   case atStart => exact ⟨(0), (rfl), H', ⟨Nat.le_refl _⟩, ⟨gK BK316⟩, ⟨by repeat first | exact gB HB | refine below_set ?_ GE316.out⟩⟩
   case round =>
    clear H'
    try clear p2
    try clear c3
    try clear c4
    try clear c4b0
    try clear c4b1
    try clear c5
    try clear c5b0
    try clear c5b1
    try clear hcz7_0
    try clear hcz7_1
    try clear hfz7_0
    try clear hfz7_1
    obtain ⟨x7_1, rfl, HA, HK1, BK316, HB⟩ := hrel
    cases gk with
    | zero => exact absurd HA.out (by simp [triglyphref03_check.l0])
    | succ k1 =>
     have H := HA.out; clear HA
     simp only [triglyphref03_check.l0] at H
     by_cases c8 : x7_1 < (l0_0.length : Int)
     ·rw [if_pos c8] at H
      have c8b0 := decide_eq_true c8
      clear c8
      obtain ⟨c9, H⟩ := iS H
      have c9b0 := decide_eq_true c9
      clear c9
      by_cases c10 : (rd l0_0 x7_1) > 16384
      ·rw [if_pos c10] at H
       have c10b0 : decide (16384 < (rd l0_0 x7_1)) = true := decide_eq_true c10
       clear c10
       obtain rfl := Option.some.inj H
       obtain ⟨hcz11_0, hcz11_1, hfz11_0, hfz11_1⟩ := gz2 BK316
       have p319 : 0 ≤ (x7_1 : Int) := of_decide_eq_true (by assumption)
       have q319 : x7_1 < (l0_0.length : Int) := of_decide_eq_true (by assumption)
       obtain ⟨ad319, e319, hx319_0⟩ := Kd.at_int HR0_0.out x7_1 p319 q319
       cases e319
       replace hx319_0 := (HB.out.cell (World.block_lt_of_cell? w _ hx319_0)).trans hx319_0
       replace p319 := eq_true p319
       replace q319 := eq_true q319
       go_wp2
       go_ret
       exact ⟨rfl, by repeat first | exact gB HB | refine below_set ?_ GE316.out⟩
      ·rw [if_neg c10] at H
       have c10b0 : decide (16384 < (rd l0_0 x7_1)) = false := decide_eq_false c10
       clear c10
       have H' := gA H
       clear H
       obtain ⟨hcz12_0, hcz12_1, hfz12_0, hfz12_1⟩ := gz2 BK316
       have p319 : 0 ≤ (x7_1 : Int) := of_decide_eq_true (by assumption)
       have q319 : x7_1 < (l0_0.length : Int) := of_decide_eq_true (by assumption)
       obtain ⟨ad319, e319, hx319_0⟩ := Kd.at_int HR0_0.out x7_1 p319 q319
       cases e319
       replace hx319_0 := (HB.out.cell (World.block_lt_of_cell? w _ hx319_0)).trans hx319_0
       replace p319 := eq_true p319
       replace q319 := eq_true q319
       go_wp2
       go_roundg k1
       case measure => have := HK1.out; omega
       case rel => exact ⟨(wrap64 (x7_1 + 1)), (rfl), H', ⟨by have := HK1.out; omega⟩, ⟨gK BK316⟩, ⟨by repeat first | exact gB HB | refine below_set ?_ GE316.out⟩⟩
     ·rw [if_neg c8] at H
      have c8b0 := decide_eq_false c8
      clear c8
      have H' := gA H
      clear H
      obtain ⟨hcz13_0, hcz13_1, hfz13_0, hfz13_1⟩ := gz2 BK316
      go_wp2
      go_loopg [8] k1 (fun kq v8 w' => ∃ (x8_2 : Int), v8 = .int .i64 x8_2 ∧ Aside0 (triglyphref03_check.l1 kq a1 x8_2 l0_0 l0_1 = some r) ∧ Aside0 (kq ≤ k1) ∧ Aside0 (w'.heap[gb316]? = some (.cells #[(.slice A0_0 l0_0.length c0_0), (.slice A0_1 l0_1.length c0_1)] 25 (0, 0))) ∧ Aside0 (Below w.heap.size w w'))
      case atStart => exact ⟨(0), (rfl), H', ⟨Nat.le_refl _⟩, ⟨gK BK316⟩, ⟨by repeat first | exact gB HB | refine below_set ?_ GE316.out⟩⟩
      case round =>
       clear H'
       try clear c1
       try clear p2
       try clear c3
       try clear p3
       try clear q3
       try clear hx3
       try clear c4
       try clear c4b0
       try clear c4b1
       try clear c5
       try clear c5b0
       try clear c5b1
       try clear p6
       try clear c8
       try clear c8b0
       try clear c9
       try clear c9b0
       try clear c10
       try clear c10b0
       try clear hcz11_0
       try clear hcz11_1
       try clear hcz12_0
       try clear hcz12_1
       try clear hcz13_0
       try clear hcz13_1
       try clear hcz7_0
       try clear hcz7_1
       try clear hfz11_0
       try clear hfz11_1
       try clear hfz12_0
       try clear hfz12_1
       try clear hfz13_0
       try clear hfz13_1
       try clear hfz7_0
       try clear hfz7_1
       try clear hx319_0
       try clear p2
       try clear p319
       try clear q319
       obtain ⟨x8_2, rfl, HA, HK2, BK316, HB⟩ := hrel
       cases gk with
       | zero => exact absurd HA.out (by simp [triglyphref03_check.l1])
       | succ k2 =>
        have H := HA.out; clear HA
        simp only [triglyphref03_check.l1] at H
        by_cases c14 : x8_2 < (l0_1.length : Int)
        ·rw [if_pos c14] at H
         have c14b0 := decide_eq_true c14
         clear c14
         obtain ⟨c15, H⟩ := iS H
         have c15b0 := decide_eq_true c15
         clear c15
         replace H := Option.bind_eq_some_iff.mp H
         obtain ⟨t321, A160, H⟩ := H
         replace H : (if t321 = 0 then (triglyphref03_check.l1 k2 a1 (wrap64 (x8_2 + 1)) l0_0 l0_1) else (some t321)) = some r := H
         have A16 := gA A160
         clear A160
         by_cases c17 : t321 = 0
         ·rw [if_pos c17] at H
          have c17b0 : (t321 == 0) = true := beq_iff_eq.mpr c17
          have c17b1 : (t321 != 0) = false := bne_eq_false_iff_eq.mpr c17
          clear c17
          have H' := gA H
          clear H
          obtain ⟨hcz18_0, hcz18_1, hfz18_0, hfz18_1⟩ := gz2 BK316
          have p320 : 0 ≤ (x8_2 : Int) := of_decide_eq_true (by assumption)
          have q320 : x8_2 < (l0_1.length : Int) := of_decide_eq_true (by assumption)
          obtain ⟨ad320, A320_2, c320_2, e320, hx320_0, hx320_1, hx320_2, hl320_2, hi320_2⟩ := at_T43 HR0_1.out x8_2 p320 q320
          cases e320
          replace hx320_0 := (HB.out.cell (World.block_lt_of_cell? w _ hx320_0)).trans hx320_0
          replace hx320_1 := (HB.out.cell (World.block_lt_of_cell? w _ hx320_1)).trans hx320_1
          replace hx320_2 := (HB.out.cell (World.block_lt_of_cell? w _ hx320_2)).trans hx320_2
          have HR320_2 := gA hi320_2
          have HC320_2 := gA hl320_2
          clear hi320_2 hl320_2
          replace p320 := eq_true p320
          replace q320 := eq_true q320
          go_wp2_with (first | ((with_reducible refine gate_callee (f := 61) rfl ?_); refine goesL_ (some 50) rfl rfl Try.func61 (by kernel_rfl) rfl #[.agg #[.int .i64 ((rd_T43 l0_1 x8_2).f0), .int .i64 ((rd_T43 l0_1 x8_2).f1), .slice A320_2 ((rd_T43 l0_1 x8_2).f2).length c320_2], .int .i64 a1] rfl (by (try simp only [List.map_toArray, List.map_cons, List.map_nil]); first | done | rfl | (simp only [List.length_drop, List.length_take]; rfl)) ?_; (with_reducible refine (ih_triglyphref03_cell k2 (by have := HK1.out; have := HK2.out; omega) ((rd_T43 l0_1 x8_2).f0) ((rd_T43 l0_1 x8_2).f1) _ _ ((rd_T43 l0_1 x8_2).f2) a1 t321 _ ?side1 ?side2 A16.out).mono ?_); (case side1 => exact gC HR320_2 HB); (case side2 => exact HC320_2.out); rintro e w19 ⟨rfl, hb⟩; refine ⟨_, rfl, ?_⟩; replace BK316 := gA (blk_below (gK BK316) hb); replace HB := gA (below_step (gB HB) hb); (try clear hb)))
          go_roundg k2
          case measure => have := HK1.out; have := HK2.out; omega
          case rel => exact ⟨(wrap64 (x8_2 + 1)), (rfl), H', ⟨by have := HK1.out; have := HK2.out; omega⟩, ⟨gK BK316⟩, ⟨gB HB⟩⟩
         ·rw [if_neg c17] at H
          have c17b0 : (t321 == 0) = false := beq_eq_false_iff_ne.mpr c17
          have c17b1 : (t321 != 0) = true := bne_iff_ne.mpr c17
          obtain rfl := Option.some.inj H
          obtain ⟨hcz20_0, hcz20_1, hfz20_0, hfz20_1⟩ := gz2 BK316
          have p320 : 0 ≤ (x8_2 : Int) := of_decide_eq_true (by assumption)
          have q320 : x8_2 < (l0_1.length : Int) := of_decide_eq_true (by assumption)
          obtain ⟨ad320, A320_2, c320_2, e320, hx320_0, hx320_1, hx320_2, hl320_2, hi320_2⟩ := at_T43 HR0_1.out x8_2 p320 q320
          cases e320
          replace hx320_0 := (HB.out.cell (World.block_lt_of_cell? w _ hx320_0)).trans hx320_0
          replace hx320_1 := (HB.out.cell (World.block_lt_of_cell? w _ hx320_1)).trans hx320_1
          replace hx320_2 := (HB.out.cell (World.block_lt_of_cell? w _ hx320_2)).trans hx320_2
          have HR320_2 := gA hi320_2
          have HC320_2 := gA hl320_2
          clear hi320_2 hl320_2
          replace p320 := eq_true p320
          replace q320 := eq_true q320
          go_wp2_with (first | ((with_reducible refine gate_callee (f := 61) rfl ?_); refine goesL_ (some 50) rfl rfl Try.func61 (by kernel_rfl) rfl #[.agg #[.int .i64 ((rd_T43 l0_1 x8_2).f0), .int .i64 ((rd_T43 l0_1 x8_2).f1), .slice A320_2 ((rd_T43 l0_1 x8_2).f2).length c320_2], .int .i64 a1] rfl (by (try simp only [List.map_toArray, List.map_cons, List.map_nil]); first | done | rfl | (simp only [List.length_drop, List.length_take]; rfl)) ?_; (with_reducible refine (ih_triglyphref03_cell k2 (by have := HK1.out; have := HK2.out; omega) ((rd_T43 l0_1 x8_2).f0) ((rd_T43 l0_1 x8_2).f1) _ _ ((rd_T43 l0_1 x8_2).f2) a1 t321 _ ?side1 ?side2 A16.out).mono ?_); (case side1 => exact gC HR320_2 HB); (case side2 => exact HC320_2.out); rintro e w21 ⟨rfl, hb⟩; refine ⟨_, rfl, ?_⟩; replace BK316 := gA (blk_below (gK BK316) hb); replace HB := gA (below_step (gB HB) hb); (try clear hb)))
          go_ret
          exact ⟨rfl, by repeat first | exact gB HB | refine below_set ?_ GE316.out⟩
        ·rw [if_neg c14] at H
         have c14b0 := decide_eq_false c14
         clear c14
         obtain rfl := Option.some.inj H
         obtain ⟨hcz22_0, hcz22_1, hfz22_0, hfz22_1⟩ := gz2 BK316
         go_wp2
         go_ret
         exact ⟨rfl, by repeat first | exact gB HB | refine below_set ?_ GE316.out⟩
  ·rw [if_neg c5] at H
   have c5b0 : (t317 == (l0_1.length : Int)) = false := beq_eq_false_iff_ne.mpr c5
   have c5b1 : (t317 != (l0_1.length : Int)) = true := bne_iff_ne.mpr c5
   obtain rfl := Option.some.inj H
   go_enter Try.func45, Try.ntmps45
   go_wp2_with (first | ((with_reducible refine gate_dst (N := 2) rfl ?_); refine box_event ?hg (N := 2) ?hd (cs := #[.slice A0_0 l0_0.length c0_0, .slice A0_1 l0_1.length c0_1]) (t := 25) ?hr ?_; (case hd => rfl); (case hg => rfl); (case hr => first | (go_simp; done) | (go_simp; rfl)); intro gb316 hg w23 hbox hb; have BK316 := gA (hbox); have GW316 := gA ((by rw [hg]; exact (below_size (gB HB)) : w.heap.size ≤ gb316)); have GE316 := gA ((by rw [hg]; exact (below_size (gB HB)) : w.heap.size ≤ gb316)); replace HB := gA (below_step (gB HB) hb); clear hb hbox hg; obtain ⟨hcz24_0, hcz24_1, hfz24_0, hfz24_1⟩ := gz2 BK316) | ((with_reducible refine gate_callee (f := 36) rfl ?_); refine goesL_ (some 13) rfl rfl Try.func36 (by kernel_rfl) rfl #[.slice A0_0 l0_0.length c0_0] rfl (by (try simp only [List.map_toArray, List.map_cons, List.map_nil]); first | done | rfl | (simp only [List.length_drop, List.length_take]; rfl)) ?_; (with_reducible refine (triglyphref03_Size.calls k _ _ l0_0 t317 t318 _ ?side1 ?side2 A3.out).mono ?_); (case side1 => exact gC HR0_0 HB); (case side2 => exact HC0_0.out); rintro e w' ⟨rfl, ⟨nd, rfl⟩⟩; refine ⟨_, rfl, ?_⟩))
   go_ret
   exact ⟨rfl, by repeat first | exact gB HB | refine below_set ?_ GE316.out⟩
 ·rw [if_neg c4] at H
  have c4b0 : (t318 == 0) = false := beq_eq_false_iff_ne.mpr c4
  have c4b1 : (t318 != 0) = true := bne_iff_ne.mpr c4
  obtain rfl := Option.some.inj H
  go_enter Try.func45, Try.ntmps45
  go_wp2_with (first | ((with_reducible refine gate_dst (N := 2) rfl ?_); refine box_event ?hg (N := 2) ?hd (cs := #[.slice A0_0 l0_0.length c0_0, .slice A0_1 l0_1.length c0_1]) (t := 25) ?hr ?_; (case hd => rfl); (case hg => rfl); (case hr => first | (go_simp; done) | (go_simp; rfl)); intro gb316 hg w25 hbox hb; have BK316 := gA (hbox); have GW316 := gA ((by rw [hg]; exact (below_size (gB HB)) : w.heap.size ≤ gb316)); have GE316 := gA ((by rw [hg]; exact (below_size (gB HB)) : w.heap.size ≤ gb316)); replace HB := gA (below_step (gB HB) hb); clear hb hbox hg; obtain ⟨hcz26_0, hcz26_1, hfz26_0, hfz26_1⟩ := gz2 BK316) | ((with_reducible refine gate_callee (f := 36) rfl ?_); refine goesL_ (some 13) rfl rfl Try.func36 (by kernel_rfl) rfl #[.slice A0_0 l0_0.length c0_0] rfl (by (try simp only [List.map_toArray, List.map_cons, List.map_nil]); first | done | rfl | (simp only [List.length_drop, List.length_take]; rfl)) ?_; (with_reducible refine (triglyphref03_Size.calls k _ _ l0_0 t317 t318 _ ?side1 ?side2 A3.out).mono ?_); (case side1 => exact gC HR0_0 HB); (case side2 => exact HC0_0.out); rintro e w' ⟨rfl, ⟨nd, rfl⟩⟩; refine ⟨_, rfl, ?_⟩))
  go_ret
  exact ⟨rfl, by repeat first | exact gB HB | refine below_set ?_ GE316.out⟩
theorem scc61.calls (k : Nat) : (∀ (a0_0 : Int) (a0_1 : Int) (A0_2 : Option Addr) (c0_2 : Nat) (l0_2 : List (S25)) (a1 : Int) (r : Int) (w : World) (hr0_2 : Kd.C k25 w A0_2 l0_2.length l0_2) (hc0_2 : l0_2.length ≤ c0_2) (h : triglyphref03_cell.f k a0_0 a0_1 l0_2 a1 = some r),
  Calls Try.prog 61 #[.agg #[.int .i64 a0_0, .int .i64 a0_1, .slice A0_2 l0_2.length c0_2], .int .i64 a1] w fun e w' => e = .returned (.int .i64 r) ∧ Below w.heap.size w w') ∧ (∀ (A0_0 : Option Addr) (c0_0 : Nat) (l0_0 : List Int) (A0_1 : Option Addr) (c0_1 : Nat) (l0_1 : List (S43)) (a1 : Int) (r : Int) (w : World) (hr0_0 : Kd.C (Kd.int .i64) w A0_0 l0_0.length l0_0) (hc0_0 : l0_0.length ≤ c0_0) (hr0_1 : Kd.C k43 w A0_1 l0_1.length l0_1) (hc0_1 : l0_1.length ≤ c0_1) (h : triglyphref03_check.f k l0_0 l0_1 a1 = some r),
  Calls Try.prog 45 #[.agg #[.slice A0_0 l0_0.length c0_0, .slice A0_1 l0_1.length c0_1], .int .i64 a1] w fun e w' => e = .returned (.int .i64 r) ∧ Below w.heap.size w w') := by
 induction k using Nat.strongRecOn with
 | _ k ih =>
 exact ⟨triglyphref03_cell.step k (fun k_ h_ => (ih k_ h_).1) (fun k_ h_ => (ih k_ h_).2), triglyphref03_check.step k (fun k_ h_ => (ih k_ h_).1) (fun k_ h_ => (ih k_ h_).2)⟩
theorem triglyphref03_cell.calls (k : Nat) : ∀ (a0_0 : Int) (a0_1 : Int) (A0_2 : Option Addr) (c0_2 : Nat) (l0_2 : List (S25)) (a1 : Int) (r : Int) (w : World) (hr0_2 : Kd.C k25 w A0_2 l0_2.length l0_2) (hc0_2 : l0_2.length ≤ c0_2) (h : triglyphref03_cell.f k a0_0 a0_1 l0_2 a1 = some r),
  Calls Try.prog 61 #[.agg #[.int .i64 a0_0, .int .i64 a0_1, .slice A0_2 l0_2.length c0_2], .int .i64 a1] w fun e w' => e = .returned (.int .i64 r) ∧ Below w.heap.size w w' := (scc61.calls k).1
theorem triglyphref03_check.calls (k : Nat) : ∀ (A0_0 : Option Addr) (c0_0 : Nat) (l0_0 : List Int) (A0_1 : Option Addr) (c0_1 : Nat) (l0_1 : List (S43)) (a1 : Int) (r : Int) (w : World) (hr0_0 : Kd.C (Kd.int .i64) w A0_0 l0_0.length l0_0) (hc0_0 : l0_0.length ≤ c0_0) (hr0_1 : Kd.C k43 w A0_1 l0_1.length l0_1) (hc0_1 : l0_1.length ≤ c0_1) (h : triglyphref03_check.f k l0_0 l0_1 a1 = some r),
  Calls Try.prog 45 #[.agg #[.slice A0_0 l0_0.length c0_0, .slice A0_1 l0_1.length c0_1], .int .i64 a1] w fun e w' => e = .returned (.int .i64 r) ∧ Below w.heap.size w w' := (scc61.calls k).2
def triglyphref03_Check.f (k : Nat) (l0_0 : List Int) (l0_1 : List (S43)) : Option (Int) := (triglyphref03_check.f k l0_0 l0_1 0).bind fun t323 => (some t323)
theorem triglyphref03_Check.mono : ∀ a0 a1 k, LeO (triglyphref03_Check.f k a0 a1) (triglyphref03_Check.f (k + 1) a0 a1) := by
 intro a0 a1 k
 unfold triglyphref03_Check.f
 repeat' first
   | (with_reducible exact triglyphref03_check.mono _ _ _ _)
   | (with_reducible exact LeO.refl _)
   | (with_reducible exact LeO.none _)
   | (with_reducible refine LeO.ite ?_ ?_)
   | (with_reducible refine LeO.bind ?_ (fun _ => ?_))
   | exact triglyphref03_check.mono _ _ _ _
set_option maxHeartbeats 8000000 in
set_option maxRecDepth 100000 in
theorem triglyphref03_Check.calls (k : Nat) (A0_0 : Option Addr) (c0_0 : Nat) (l0_0 : List Int) (A0_1 : Option Addr) (c0_1 : Nat) (l0_1 : List (S43)) (r : Int) (w : World) (hr0_0 : Kd.C (Kd.int .i64) w A0_0 l0_0.length l0_0) (hc0_0 : l0_0.length ≤ c0_0) (hr0_1 : Kd.C k43 w A0_1 l0_1.length l0_1) (hc0_1 : l0_1.length ≤ c0_1) (h : triglyphref03_Check.f k l0_0 l0_1 = some r) :
  Calls Try.prog 21 #[.agg #[.slice A0_0 l0_0.length c0_0, .slice A0_1 l0_1.length c0_1]] w fun e w' => e = .returned (.int .i64 r) ∧ Below w.heap.size w w' := by
 have hu25 := Try.underlying25
 have HR0_0 := gA hr0_0
 have HC0_0 := gA hc0_0
 clear hr0_0 hc0_0
 have HR0_1 := gA hr0_1
 have HC0_1 := gA hc0_1
 clear hr0_1 hc0_1
 have HB := gA (Below.refl w.heap.size w)
 have H : ((triglyphref03_check.f k l0_0 l0_1 0).bind fun t323 => (some t323)) = some r := h
 clear h
 replace H := Option.bind_eq_some_iff.mp H
 obtain ⟨t323, A20, H⟩ := H
 replace H : (some t323) = some r := H
 have A2 := gA A20
 clear A20
 obtain rfl := Option.some.inj H
 go_enter Try.func21, Try.ntmps21
 go_wp2_with (first | ((with_reducible refine gate_dst (N := 1) rfl ?_); refine box_event ?hg (N := 1) ?hd (cs := #[.slice A0_0 l0_0.length c0_0, .slice A0_1 l0_1.length c0_1]) (t := 25) ?hr ?_; (case hd => rfl); (case hg => rfl); (case hr => first | (go_simp; done) | (go_simp; rfl)); intro gb322 hg w3 hbox hb; have BK322 := gA (hbox); have GW322 := gA ((by rw [hg]; exact (below_size (gB HB)) : w.heap.size ≤ gb322)); have GE322 := gA ((by rw [hg]; exact (below_size (gB HB)) : w.heap.size ≤ gb322)); replace HB := gA (below_step (gB HB) hb); clear hb hbox hg; obtain ⟨hcz4_0, hcz4_1, hfz4_0, hfz4_1⟩ := gz2 BK322) | ((with_reducible refine gate_callee (f := 45) rfl ?_); refine goesL_ (some 4) rfl rfl Try.func45 (by kernel_rfl) rfl #[.agg #[.slice A0_0 l0_0.length c0_0, .slice A0_1 l0_1.length c0_1], .int .i64 0] rfl (by (try simp only [List.map_toArray, List.map_cons, List.map_nil]); first | done | rfl | (simp only [List.length_drop, List.length_take]; rfl)) ?_; (with_reducible refine (triglyphref03_check.calls k _ _ l0_0 _ _ l0_1 0 t323 _ ?side1 ?side2 ?side3 ?side4 A2.out).mono ?_); (case side1 => exact gC HR0_0 HB); (case side2 => exact HC0_0.out); (case side3 => exact gC HR0_1 HB); (case side4 => exact HC0_1.out); rintro e w5 ⟨rfl, hb⟩; refine ⟨_, rfl, ?_⟩; replace BK322 := gA (blk_below (gK BK322) hb); replace HB := gA (below_step (gB HB) hb); (try clear hb)))
 go_ret
 exact ⟨rfl, by repeat first | exact gB HB | refine below_set ?_ GE322.out⟩
mutual
def triglyphref03_Places.j0 : Nat → List Int → Int → Int → Bool → Option (List Int × Int)
 | 0, _, _, _, _ => none
 | k + 1, x0, x1, x6, x25 => if x25 = true then (some (([] : List Int), 8)) else (if 0 ≤ (x0.length : Int) then (if ((x0.length : Int) : Int).toNat ≤ 35184372088832 then (triglyphref03_Places.l0 k x0 x1 (List.replicate ((x0.length : Int) : Int).toNat 0) x6 0) else (none)) else (none))
def triglyphref03_Places.l0 : Nat → List Int → Int → List Int → Int → Int → Option (List Int × Int)
 | 0, _, _, _, _, _ => none
 | k + 1, x0, x1, x8, x9, x10 => if x10 < (x0.length : Int) then (if 0 ≤ x10 then (if (rd x0 x10) = 0 then (none) else (if (wrap64 (Int.tdiv x9 (rd x0 x10))) = 0 then (none) else (if x10 < (x8.length : Int) then (triglyphref03_Places.l0 k x0 (Int.tmod x1 (wrap64 (Int.tdiv x9 (rd x0 x10)))) (x8.set (x10 : Int).toNat (wrap64 (Int.tdiv x1 (wrap64 (Int.tdiv x9 (rd x0 x10)))))) (wrap64 (Int.tdiv x9 (rd x0 x10))) (wrap64 (x10 + 1))) else (none)))) else (none)) else (some (x8, 0))
end
def triglyphref03_Places.f (k : Nat) (l0 : List Int) (a1 : Int) : Option (List Int × Int) := (triglyphref03_Size.f k l0).bind fun bt324 => (if bt324.2 = 0 then (if a1 < 0 then (triglyphref03_Places.j0 k l0 a1 bt324.1 true) else (triglyphref03_Places.j0 k l0 a1 bt324.1 (decide (a1 ≥ bt324.1)))) else (some (([] : List Int), bt324.2)))
theorem triglyphref03_Places.mono_l : ∀ k, (∀ y0 y1 y2 y3, LeO (triglyphref03_Places.j0 k y0 y1 y2 y3) (triglyphref03_Places.j0 (k + 1) y0 y1 y2 y3)) ∧ (∀ y0 y1 y2 y3 y4, LeO (triglyphref03_Places.l0 k y0 y1 y2 y3 y4) (triglyphref03_Places.l0 (k + 1) y0 y1 y2 y3 y4))
 | 0 => ⟨fun _ _ _ _ r h => by simp [triglyphref03_Places.j0] at h, fun _ _ _ _ _ r h => by simp [triglyphref03_Places.l0] at h⟩
 | k + 1 => by
  obtain ⟨ih0, ih1⟩ := triglyphref03_Places.mono_l k
  refine ⟨?_, ?_⟩
  ·intro y0 y1 y2 y3
   unfold triglyphref03_Places.j0
   repeat' first
   | (with_reducible exact ih0 _ _ _ _)
   | (with_reducible exact ih1 _ _ _ _ _)
   | (with_reducible exact triglyphref03_Size.mono _ _)
   | (with_reducible exact LeO.refl _)
   | (with_reducible exact LeO.none _)
   | (with_reducible refine LeO.ite ?_ ?_)
   | (with_reducible refine LeO.bind ?_ (fun _ => ?_))


   | exact triglyphref03_Size.mono _ _



  ·intro y0 y1 y2 y3 y4
   unfold triglyphref03_Places.l0
   repeat' first
   | (with_reducible exact ih0 _ _ _ _)
   | (with_reducible exact ih1 _ _ _ _ _)
   | (with_reducible exact triglyphref03_Size.mono _ _)
   | (with_reducible exact LeO.refl _)
   | (with_reducible exact LeO.none _)
   | (with_reducible refine LeO.ite ?_ ?_)
   | (with_reducible refine LeO.bind ?_ (fun _ => ?_))


   | exact triglyphref03_Size.mono _ _
theorem triglyphref03_Places.mono : ∀ a0 a1 k, LeO (triglyphref03_Places.f k a0 a1) (triglyphref03_Places.f (k + 1) a0 a1) := by
 intro a0 a1 k
 obtain ⟨ih0, ih1⟩ := triglyphref03_Places.mono_l k
 unfold triglyphref03_Places.f
 repeat' first
   | (with_reducible exact ih0 _ _ _ _)
   | (with_reducible exact ih1 _ _ _ _ _)
   | (with_reducible exact triglyphref03_Size.mono _ _)
   | (with_reducible exact LeO.refl _)
   | (with_reducible exact LeO.none _)
   | (with_reducible refine LeO.ite ?_ ?_)
   | (with_reducible refine LeO.bind ?_ (fun _ => ?_))


   | exact triglyphref03_Size.mono _ _
set_option maxHeartbeats 8000000 in
set_option maxRecDepth 100000 in
theorem triglyphref03_Places.calls (k : Nat) (A0 : Option Addr) (c0 : Nat) (l0 : List Int) (a1 : Int) (r1 : List Int) (r2 : Int) (w : World) (hr0 : Kd.C (Kd.int .i64) w A0 l0.length l0) (hc0 : l0.length ≤ c0) (h : triglyphref03_Places.f k l0 a1 = some (r1, r2)) :
  Calls Try.prog 37 #[.slice A0 l0.length c0, .int .i64 a1] w fun e w' => ∃ v0_ : Value, e = .returned (.tuple #[v0_, .int .i64 r2]) ∧ Kd.R (Kd.int .i64) 3 w' w.heap.size (fun _ => True) v0_ r1 ∧ Below w.heap.size w w' := by
 have HR0 := gA hr0
 have HC0 := gA hc0
 clear hr0 hc0
 have HB := gA (Below.refl w.heap.size w)
 have H : ((triglyphref03_Size.f k l0).bind fun bt324 => (if bt324.2 = 0 then (if a1 < 0 then (triglyphref03_Places.j0 k l0 a1 bt324.1 true) else (triglyphref03_Places.j0 k l0 a1 bt324.1 (decide (a1 ≥ bt324.1)))) else (some (([] : List Int), bt324.2)))) = some (r1, r2) := h
 clear h
 replace H := Option.bind_eq_some_iff.mp H
 obtain ⟨⟨t324, t325⟩, A30, H⟩ := H
 replace H : (if t325 = 0 then (if a1 < 0 then (triglyphref03_Places.j0 k l0 a1 t324 true) else (triglyphref03_Places.j0 k l0 a1 t324 (decide (a1 ≥ t324)))) else (some (([] : List Int), t325))) = some (r1, r2) := H
 have A3 := gA A30
 clear A30
 by_cases c4 : t325 = 0
 ·rw [if_pos c4] at H
  have c4b0 : (t325 == 0) = true := beq_iff_eq.mpr c4
  have c4b1 : (t325 != 0) = false := bne_eq_false_iff_eq.mpr c4
  clear c4
  have HC5 := gA H
  clear H
  go_enter Try.func37, Try.ntmps37
  go_upto_region 4 with (first | ((with_reducible refine gate_callee (f := 36) rfl ?_); refine goesL_ (some 13) rfl rfl Try.func36 (by kernel_rfl) rfl #[.slice A0 l0.length c0] rfl (by (try simp only [List.map_toArray, List.map_cons, List.map_nil]); first | done | rfl | (simp only [List.length_drop, List.length_take]; rfl)) ?_; (with_reducible refine (triglyphref03_Size.calls k _ _ l0 t324 t325 _ ?side1 ?side2 A3.out).mono ?_); (case side1 => repeat (first | exact HR0.out | (with_reducible refine Kd.C_alloc ?_ _) | (with_reducible refine Kd.C_drewN ?_ _) | (with_reducible refine Kd.C_drew ?_))); (case side2 => exact HC0.out); rintro e w' ⟨rfl, ⟨nd, rfl⟩⟩; refine ⟨_, rfl, ?_⟩))
  (try simp only [Act.put, List.setIfInBounds_toArray, List.set_cons_zero, List.set_cons_succ])
  go_cut [25] (fun v25 wc => ∃ (kq : Nat) (x25_4 : Bool), v25 = .bool x25_4 ∧ Aside0 (triglyphref03_Places.j0 kq l0 a1 t324 x25_4 = some (r1, r2)) ∧ Aside0 (kq ≤ k) ∧ Aside0 (Below w.heap.size w wc))
  case first =>
   have H := HC5.out; clear HC5
   by_cases c6 : a1 < 0
   ·rw [if_pos c6] at H
    have c6b0 := decide_eq_true c6
    clear c6
    (first | rw [c6b0] | (simp only [i64_w, i32_w]; rw [c6b0]) | skip)
    have H' := gA H
    clear H
    go_wp2
    all_goals (go_meet; (case rel => exact ⟨_, (true), (by first | rfl | (simp; done) | (simp [*]; done) | (exfalso; simp_all; done) | (exfalso; simp_all; omega)), H', ⟨by first | omega | exact Nat.le_refl _⟩, ⟨gB HB⟩⟩))
   ·rw [if_neg c6] at H
    have c6b0 := decide_eq_false c6
    clear c6
    (first | rw [c6b0] | (simp only [i64_w, i32_w]; rw [c6b0]) | skip)
    have H' := gA H
    clear H
    go_wp2
    all_goals (go_meet; (case rel => exact ⟨_, (decide (a1 ≥ t324)), (by first | rfl | (simp; done) | (simp [*]; done) | (exfalso; simp_all; done) | (exfalso; simp_all; omega)), H', ⟨by first | omega | exact Nat.le_refl _⟩, ⟨gB HB⟩⟩))
  case rest =>
   clear HC5
   try clear p2
   try clear c3
   try clear c4
   try clear c4b0
   try clear c4b1
   try clear c6
   try clear c6b0
   obtain ⟨kq, x25_4, rfl, HA, HJ4, HB⟩ := hcut
   cases kq with
   | zero => exact absurd HA.out (by simp [triglyphref03_Places.j0])
   | succ kj4 =>
    have H := HA.out; clear HA
    simp only [triglyphref03_Places.j0] at H
    by_cases c7 : x25_4 = true
    ·subst c7
     have H1 : (some (([] : List Int), 8)) = some (r1, r2) := by rw [if_pos rfl] at H; exact H
     clear H; have H := H1; clear H1
     simp only [Option.some.injEq, Prod.mk.injEq] at H
     obtain ⟨rfl, rfl⟩ := H
     go_wp2
     go_ret2
     exact ⟨_, rfl, by first | exact Kd.R_nil _ _ _ _ _ | exact Kd.N_nil _ _ _ _ _ | exact Kd.V_nil _ _ _ _ _ | exact Kd.Q_nil _ _ _ _ _ | exact Kd.S_nil _ _ _ _ _, gB HB⟩
    ·replace c7 := Bool.eq_false_iff.mpr c7
     subst c7
     have H1 : (if 0 ≤ (l0.length : Int) then (if ((l0.length : Int) : Int).toNat ≤ 35184372088832 then (triglyphref03_Places.l0 kj4 l0 a1 (List.replicate ((l0.length : Int) : Int).toNat 0) t324 0) else (none)) else (none)) = some (r1, r2) := by rw [if_neg (show ¬ (false = true) by decide)] at H; exact H
     clear H; have H := H1; clear H1
     obtain ⟨c8, H⟩ := iS H
     have c8b0 := eq_true c8
     have c8b1 := decide_eq_true c8
     clear c8
     obtain ⟨c9, H⟩ := iS H
     have c9b0 := eq_true c9
     have c9b1 := decide_eq_true c9
     clear c9
     obtain ⟨y326, hy326⟩ : ∃ y_ : List Int, y_ = (List.replicate ((l0.length : Int) : Int).toNat 0) := ⟨_, rfl⟩
     replace H : (triglyphref03_Places.l0 kj4 l0 a1 y326 t324 0) = some (r1, r2) := by first | (rw [hy326]; with_reducible exact H) | (have H2_ := (Option.bind_some _ _).symm.trans H; rw [hy326]; with_reducible exact H2_) | (have H2_ := (Option.bind_some _ _).symm.trans H; with_reducible exact H2_) | with_reducible exact H | (rw [hy326]; exact H) | exact H
     have Ny326 := gA hy326
     clear hy326
     have H' := gA H
     clear H
     go_wp2_with (first | ((with_reducible refine gate_dst (N := 28) rfl ?_); refine Kd.R_make (Kd.int .i64) _ 3 rfl (N := 28) rfl 22 _ _ rfl (l0.length : Int) rfl rfl Try.underlying22 (.int .i64 0) 8 info3 rfl (by decide) (by omega) 0 (ok := fun _ => True) (okp := fun _ => True) rfl (fun _ hk => hk) trivial (of_decide_eq_true (by assumption)) (Nat.le_trans (Nat.mul_le_mul_right _ (of_decide_eq_true (by assumption) : (l0.length : Int).toNat ≤ 35184372088832)) (by omega)) (Below.refl _ _) (Nat.le_refl _) ?_; intro v327 w10 ho11 hb hg_ hnew_; clear hg_ hnew_; (first | rw [← Ny326.out] at ho11 | (simp only [Int.reduceToNat] at ho11; rw [← Ny326.out] at ho11)); have HO328 := gA (Kd.R_lower ho11 (below_size (gB HB))); replace HB := gA (below_step (gB HB) hb); clear hb ho11))
     go_loopg [1, 9, 10] kj4 (fun kq v1 v9 v10 w' => ∃ (x1_2 : Int) (x8_2 : List Int) (x9_2 : Int) (x10_2 : Int), v1 = .int .i64 x1_2 ∧ v9 = .int .i64 x9_2 ∧ v10 = .int .i64 x10_2 ∧ Aside0 (triglyphref03_Places.l0 kq l0 x1_2 x8_2 x9_2 x10_2 = some (r1, r2)) ∧ Aside0 (kq ≤ kj4) ∧ Aside0 (Kd.R (Kd.int .i64) 3 w' w.heap.size (fun _ => True) v327 x8_2) ∧ Aside0 (Below w.heap.size w w'))
     case atStart => exact ⟨(a1), (y326), (t324), (0), (rfl), (rfl), (rfl), H', ⟨Nat.le_refl _⟩, ⟨gR HO328⟩, ⟨gB HB⟩⟩
     case round =>
      clear H'
      try clear p2
      try clear c3
      try clear c4
      try clear c4b0
      try clear c4b1
      try clear c6
      try clear c6b0
      try clear c7
      try clear c8
      try clear c8b0
      try clear c8b1
      try clear c9
      try clear c9b0
      try clear c9b1
      try clear p2
      obtain ⟨x1_2, x8_2, x9_2, x10_2, rfl, rfl, rfl, HA, HK2, HO_8, HB⟩ := hrel
      cases gk with
      | zero => exact absurd HA.out (by simp [triglyphref03_Places.l0])
      | succ k2 =>
       have H := HA.out; clear HA
       simp only [triglyphref03_Places.l0] at H
       by_cases c12 : x10_2 < (l0.length : Int)
       ·rw [if_pos c12] at H
        have c12b0 := decide_eq_true c12
        clear c12
        obtain ⟨c13, H⟩ := iS H
        have c13b0 := decide_eq_true c13
        clear c13
        obtain ⟨c14, H⟩ := iN H
        have c14b0 : ((rd l0 x10_2) == 0) = false := beq_eq_false_iff_ne.mpr c14
        have c14b1 : ((rd l0 x10_2) != 0) = true := bne_iff_ne.mpr c14
        obtain ⟨c15, H⟩ := iN H
        have c15b0 : ((wrap64 (Int.tdiv x9_2 (rd l0 x10_2))) == 0) = false := beq_eq_false_iff_ne.mpr c15
        have c15b1 : ((wrap64 (Int.tdiv x9_2 (rd l0 x10_2))) != 0) = true := bne_iff_ne.mpr c15
        obtain ⟨c16, H⟩ := iS H
        have c16b0 := decide_eq_true c16
        clear c16
        obtain ⟨y330, hy330⟩ : ∃ y_ : List Int, y_ = (x8_2.set (x10_2 : Int).toNat (wrap64 (Int.tdiv x1_2 (wrap64 (Int.tdiv x9_2 (rd l0 x10_2)))))) := ⟨_, rfl⟩
        replace H : (triglyphref03_Places.l0 k2 l0 (Int.tmod x1_2 (wrap64 (Int.tdiv x9_2 (rd l0 x10_2)))) y330 (wrap64 (Int.tdiv x9_2 (rd l0 x10_2))) (wrap64 (x10_2 + 1))) = some (r1, r2) := by first | (rw [hy330]; with_reducible exact H) | (have H2_ := (Option.bind_some _ _).symm.trans H; rw [hy330]; with_reducible exact H2_) | (have H2_ := (Option.bind_some _ _).symm.trans H; with_reducible exact H2_) | with_reducible exact H | (rw [hy330]; exact H) | exact H
        have Ny330 := gA hy330
        clear hy330
        have H' := gA H
        clear H
        have p329 : 0 ≤ (x10_2 : Int) := of_decide_eq_true (by assumption)
        have q329 : x10_2 < (l0.length : Int) := of_decide_eq_true (by assumption)
        obtain ⟨ad329, e329, hx329_0⟩ := Kd.at_int HR0.out x10_2 p329 q329
        cases e329
        replace hx329_0 := (HB.out.cell (World.block_lt_of_cell? w _ hx329_0)).trans hx329_0
        replace p329 := eq_true p329
        replace q329 := eq_true q329
        have p17 : 0 ≤ (x10_2 : Int) := of_decide_eq_true (by assumption)
        have q17 : (x10_2 : Int) < ((x8_2.length : Int) : Int) := of_decide_eq_true (by assumption)
        obtain ⟨go17, co17, eo17, gb17, gl17, cl17, HG17⟩ := Kd.R_form HO_8.out (by omega)
        (first | cases eo17 | (injection eo17 with ea_ en_ ec_; (first | subst ea_ | (injection ea_ with ea_; subst ea_)); subst ec_; clear en_))
        have GB17 := gA gb17
        have GG17 := gA HG17
        clear gb17 gl17 HG17
        obtain ⟨hx17_0, hf17_0⟩ := Kd.R_celln 0 HO_8.out (x10_2 : Int) p17 q17
        replace p17 := eq_true p17
        replace q17 := eq_true q17
        have HP18 := Kd.R_putg HO_8.out (x10_2 : Int) (wrap64 (Int.tdiv x1_2 (wrap64 (Int.tdiv x9_2 (rd l0 x10_2)))))
        go_wp2_with (first | ((with_reducible refine gate_store (t := 3) (p := 47) rfl ?_); refine store_event (t := 3) (p := 47) (v := ?vo_w19) (w1 := (wr.setCell ⟨go17, (x10_2 : Int).toNat, none⟩ (.int .i64 (wrap64 (Int.tdiv x1_2 (wrap64 (Int.tdiv x9_2 (rd l0 x10_2)))))))) ?hg ?ho ?hn ?hr ?_; (case ho => rfl); (case hg => rfl); (case hn => rfl); (case hr => first | (go_simp; done) | (go_simp; rfl)); intro w19 hw; have hg : wr.grownBy w19 (some go17) := (by rw [hw]; exact HP18.2); have hp_ : Kd.R (Kd.int .i64) 3 w19 w.heap.size (fun _ => True) (.slice (some ⟨go17, 0, none⟩) x8_2.length co17) y330 := (by rw [hw, Ny330.out]; exact HP18.1); clear HP18; replace HO_8 := gA (hp_); replace HB := gA ((by rw [hw]; exact below_set (HB.out) GB17.out : Below w.heap.size w w19)); clear hg hw hp_))
        go_roundg k2
        case measure => have := HJ4.out; have := HK2.out; omega
        case rel => exact ⟨(Int.tmod x1_2 (wrap64 (Int.tdiv x9_2 (rd l0 x10_2)))), (y330), (wrap64 (Int.tdiv x9_2 (rd l0 x10_2))), (wrap64 (x10_2 + 1)), (rfl), (rfl), (rfl), H', ⟨by have := HJ4.out; have := HK2.out; omega⟩, ⟨gR HO_8⟩, ⟨gB HB⟩⟩
       ·rw [if_neg c12] at H
        have c12b0 := decide_eq_false c12
        clear c12
        simp only [Option.some.injEq, Prod.mk.injEq] at H
        obtain ⟨rfl, rfl⟩ := H
        go_wp2
        go_ret2
        exact ⟨_, rfl, gR HO_8, gB HB⟩
 ·rw [if_neg c4] at H
  have c4b0 : (t325 == 0) = false := beq_eq_false_iff_ne.mpr c4
  have c4b1 : (t325 != 0) = true := bne_iff_ne.mpr c4
  simp only [Option.some.injEq, Prod.mk.injEq] at H
  obtain ⟨rfl, rfl⟩ := H
  go_enter Try.func37, Try.ntmps37
  go_wp2_with (first | ((with_reducible refine gate_callee (f := 36) rfl ?_); refine goesL_ (some 13) rfl rfl Try.func36 (by kernel_rfl) rfl #[.slice A0 l0.length c0] rfl (by (try simp only [List.map_toArray, List.map_cons, List.map_nil]); first | done | rfl | (simp only [List.length_drop, List.length_take]; rfl)) ?_; (with_reducible refine (triglyphref03_Size.calls k _ _ l0 t324 t325 _ ?side1 ?side2 A3.out).mono ?_); (case side1 => repeat (first | exact HR0.out | (with_reducible refine Kd.C_alloc ?_ _) | (with_reducible refine Kd.C_drewN ?_ _) | (with_reducible refine Kd.C_drew ?_))); (case side2 => exact HC0.out); rintro e w' ⟨rfl, ⟨nd, rfl⟩⟩; refine ⟨_, rfl, ?_⟩))
  go_ret2
  exact ⟨_, rfl, by first | exact Kd.R_nil _ _ _ _ _ | exact Kd.N_nil _ _ _ _ _ | exact Kd.V_nil _ _ _ _ _ | exact Kd.Q_nil _ _ _ _ _ | exact Kd.S_nil _ _ _ _ _, gB HB⟩
end Go.Proofs.Ytahgfebdjjfkhaa.P
