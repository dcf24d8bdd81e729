/- Written by a program of this session: the functions that the laws reach, what each comes to, and each law as it is stated, for every input. No condition. -/
import Derived.Test.YtahgfebdjjfkhaaPx0
import Derived.Test.YtahgfebdjjfkhaaPx11
namespace Go.Proofs.Ytahgfebdjjfkhaa.P
open Go.RowKit Go.Proofs.YtahgfebdjjfkhaaW.PrintWords Go.Proofs.YtahgfebdjjfkhaaW.PrintLast Go.Proofs.YtahgfebdjjfkhaaW.PrintMore
attribute [local go_sem] max2_int min2_int max_two min_two max_three min_three max_four min_four   -- for this text's walks alone
set_option linter.unusedVariables false
set_option linter.unusedSimpArgs false
mutual
def triglyphref03_cell.j0 : Nat → Int → Bool → Int → Int → List (S25) → Option (Int)
 | 0, _, _, _, _, _ => none
 | k + 1, x1, x18, x309000, x309001, x309002 => if x18 = true then (if x1 = 8 then (some 15) else (if 0 < (x309002.length : Int) then ((triglyphref03_check.f k ((rd_T25 x309002 0).f0) ((rd_T25 x309002 0).f1) (wrap64 (x1 + 1))).bind fun t310 => (some t310)) else (none))) else (if (x309002.length : Int) > 0 then (some 1) else (if x309000 = 0 then (some 0) else (if x309000 = 1 then ((triglyphref02_Good.f x309001).bind fun t311 => (if t311 = true then (some 0) else (some 1))) else (some 1))))
def triglyphref03_cell.f : Nat → Int → Int → List (S25) → Int → Option (Int)
 | 0, _, _, _, _ => none
 | k + 1, a0_0, a0_1, l0_2, a1 => if a0_0 = 2 then (if a0_1 = 0 then (triglyphref03_cell.j0 k a1 ((l0_2.length : Int) == 1) a0_0 a0_1 l0_2) else (triglyphref03_cell.j0 k a1 false a0_0 a0_1 l0_2)) else (triglyphref03_cell.j0 k a1 false a0_0 a0_1 l0_2)
def triglyphref03_check.l0 : Nat → Int → Int → List Int → List (S43) → Option (Int)
 | 0, _, _, _, _ => none
 | k + 1, x1, x7, x313000, x313001 => if x7 < (x313000.length : Int) then (if 0 ≤ x7 then (if (rd x313000 x7) > 16384 then (some 12) else (triglyphref03_check.l0 k x1 (wrap64 (x7 + 1)) x313000 x313001)) else (none)) else (triglyphref03_check.l1 k x1 0 x313000 x313001)
def triglyphref03_check.l1 : Nat → Int → Int → List Int → List (S43) → Option (Int)
 | 0, _, _, _, _ => none
 | k + 1, x1, x8, x313000, x313001 => if x8 < (x313001.length : Int) then (if 0 ≤ x8 then ((triglyphref03_cell.f k ((rd_T43 x313001 x8).f0) ((rd_T43 x313001 x8).f1) ((rd_T43 x313001 x8).f2) x1).bind fun t317 => (if t317 = 0 then (triglyphref03_check.l1 k x1 (wrap64 (x8 + 1)) x313000 x313001) else (some t317))) else (none)) else (some 0)
def triglyphref03_check.f : Nat → List Int → List (S43) → Int → Option (Int)
 | 0, _, _, _ => none
 | k + 1, l0_0, l0_1, a1 => (triglyphref03_Size.f k l0_0).bind fun bt313 => (if bt313.2 = 0 then (if bt313.1 = (l0_1.length : Int) then (triglyphref03_check.l0 k a1 0 l0_0 l0_1) else (some 1)) else (some bt313.2))
end
theorem scc61.mono_l : ∀ k, (∀ y0 y1 y2 y3, LeO (triglyphref03_cell.f k y0 y1 y2 y3) (triglyphref03_cell.f (k + 1) y0 y1 y2 y3)) ∧ (∀ y0 y1 y2 y3 y4, LeO (triglyphref03_cell.j0 k y0 y1 y2 y3 y4) (triglyphref03_cell.j0 (k + 1) y0 y1 y2 y3 y4)) ∧ (∀ y0 y1 y2, LeO (triglyphref03_check.f k y0 y1 y2) (triglyphref03_check.f (k + 1) y0 y1 y2)) ∧ (∀ y0 y1 y2 y3, LeO (triglyphref03_check.l0 k y0 y1 y2 y3) (triglyphref03_check.l0 (k + 1) y0 y1 y2 y3)) ∧ (∀ y0 y1 y2 y3, LeO (triglyphref03_check.l1 k y0 y1 y2 y3) (triglyphref03_check.l1 (k + 1) y0 y1 y2 y3))
 | 0 => ⟨fun _ _ _ _ r h => by simp [triglyphref03_cell.f] at h, fun _ _ _ _ _ r h => by simp [triglyphref03_cell.j0] at h, fun _ _ _ r h => by simp [triglyphref03_check.f] at h, fun _ _ _ _ r h => by simp [triglyphref03_check.l0] at h, fun _ _ _ _ r h => by simp [triglyphref03_check.l1] at h⟩
 | k + 1 => by
  obtain ⟨ih0, ih1, ih2, ih3, ih4⟩ := scc61.mono_l k
  refine ⟨?_, ?_, ?_, ?_, ?_⟩
  ·intro y0 y1 y2 y3
   unfold triglyphref03_cell.f
   repeat' first
   | (with_reducible exact ih0 _ _ _ _)
   | (with_reducible exact ih1 _ _ _ _ _)
   | (with_reducible exact ih2 _ _ _)
   | (with_reducible exact ih3 _ _ _ _)
   | (with_reducible exact ih4 _ _ _ _)
   | (with_reducible exact triglyphref03_Size.mono _ _)
   | (with_reducible exact LeO.refl _)
   | (with_reducible exact LeO.none _)
   | (with_reducible refine LeO.ite ?_ ?_)
   | (with_reducible refine LeO.bind ?_ (fun _ => ?_))





   | exact triglyphref03_Size.mono _ _



  ·intro y0 y1 y2 y3 y4
   unfold triglyphref03_cell.j0
   repeat' first
   | (with_reducible exact ih0 _ _ _ _)
   | (with_reducible exact ih1 _ _ _ _ _)
   | (with_reducible exact ih2 _ _ _)
   | (with_reducible exact ih3 _ _ _ _)
   | (with_reducible exact ih4 _ _ _ _)
   | (with_reducible exact triglyphref03_Size.mono _ _)
   | (with_reducible exact LeO.refl _)
   | (with_reducible exact LeO.none _)
   | (with_reducible refine LeO.ite ?_ ?_)
   | (with_reducible refine LeO.bind ?_ (fun _ => ?_))





   | exact triglyphref03_Size.mono _ _



  ·intro y0 y1 y2
   unfold triglyphref03_check.f
   repeat' first
   | (with_reducible exact ih0 _ _ _ _)
   | (with_reducible exact ih1 _ _ _ _ _)
   | (with_reducible exact ih2 _ _ _)
   | (with_reducible exact ih3 _ _ _ _)
   | (with_reducible exact ih4 _ _ _ _)
   | (with_reducible exact triglyphref03_Size.mono _ _)
   | (with_reducible exact LeO.refl _)
   | (with_reducible exact LeO.none _)
   | (with_reducible refine LeO.ite ?_ ?_)
   | (with_reducible refine LeO.bind ?_ (fun _ => ?_))





   | exact triglyphref03_Size.mono _ _



  ·intro y0 y1 y2 y3
   unfold triglyphref03_check.l0
   repeat' first
   | (with_reducible exact ih0 _ _ _ _)
   | (with_reducible exact ih1 _ _ _ _ _)
   | (with_reducible exact ih2 _ _ _)
   | (with_reducible exact ih3 _ _ _ _)
   | (with_reducible exact ih4 _ _ _ _)
   | (with_reducible exact triglyphref03_Size.mono _ _)
   | (with_reducible exact LeO.refl _)
   | (with_reducible exact LeO.none _)
   | (with_reducible refine LeO.ite ?_ ?_)
   | (with_reducible refine LeO.bind ?_ (fun _ => ?_))





   | exact triglyphref03_Size.mono _ _



  ·intro y0 y1 y2 y3
   unfold triglyphref03_check.l1
   repeat' first
   | (with_reducible exact ih0 _ _ _ _)
   | (with_reducible exact ih1 _ _ _ _ _)
   | (with_reducible exact ih2 _ _ _)
   | (with_reducible exact ih3 _ _ _ _)
   | (with_reducible exact ih4 _ _ _ _)
   | (with_reducible exact triglyphref03_Size.mono _ _)
   | (with_reducible exact LeO.refl _)
   | (with_reducible exact LeO.none _)
   | (with_reducible refine LeO.ite ?_ ?_)
   | (with_reducible refine LeO.bind ?_ (fun _ => ?_))





   | exact triglyphref03_Size.mono _ _
theorem triglyphref03_cell.mono : ∀ a0 a1 a2 a3 k, LeO (triglyphref03_cell.f k a0 a1 a2 a3) (triglyphref03_cell.f (k + 1) a0 a1 a2 a3) := by
 intro a0 a1 a2 a3 k
 obtain ⟨ih0, ih1, ih2, ih3, ih4⟩ := scc61.mono_l k
 exact ih0 a0 a1 a2 a3
theorem triglyphref03_check.mono : ∀ a0 a1 a2 k, LeO (triglyphref03_check.f k a0 a1 a2) (triglyphref03_check.f (k + 1) a0 a1 a2) := by
 intro a0 a1 a2 k
 obtain ⟨ih0, ih1, ih2, ih3, ih4⟩ := scc61.mono_l k
 exact ih2 a0 a1 a2
set_option maxHeartbeats 8000000 in
set_option maxRecDepth 100000 in
theorem triglyphref03_cell.step (k : Nat) (ih : ∀ k_, k_ < k → ∀ (a0_0 : Int) (a0_1 : Int) (A0_2 : Option Addr) (c0_2 : Nat) (l0_2 : List (S25)) (a1 : Int) (r : Int) (w : World) (hr0_2 : Kd.C k25 w A0_2 l0_2.length l0_2) (hc0_2 : l0_2.length ≤ c0_2) (h : triglyphref03_cell.f k_ a0_0 a0_1 l0_2 a1 = some r),
  Calls Try.prog 61 #[.agg #[.int .i64 a0_0, .int .i64 a0_1, .slice A0_2 l0_2.length c0_2], .int .i64 a1] w fun e w' => e = .returned (.int .i64 r) ∧ Below w.heap.size w w') (ih_triglyphref03_check : ∀ k_, k_ < k → ∀ (A0_0 : Option Addr) (c0_0 : Nat) (l0_0 : List Int) (A0_1 : Option Addr) (c0_1 : Nat) (l0_1 : List (S43)) (a1 : Int) (r : Int) (w : World) (hr0_0 : Kd.C (Kd.int .i64) w A0_0 l0_0.length l0_0) (hc0_0 : l0_0.length ≤ c0_0) (hr0_1 : Kd.C k43 w A0_1 l0_1.length l0_1) (hc0_1 : l0_1.length ≤ c0_1) (h : triglyphref03_check.f k_ l0_0 l0_1 a1 = some r),
  Calls Try.prog 45 #[.agg #[.slice A0_0 l0_0.length c0_0, .slice A0_1 l0_1.length c0_1], .int .i64 a1] w fun e w' => e = .returned (.int .i64 r) ∧ Below w.heap.size w w') : ∀ (a0_0 : Int) (a0_1 : Int) (A0_2 : Option Addr) (c0_2 : Nat) (l0_2 : List (S25)) (a1 : Int) (r : Int) (w : World) (hr0_2 : Kd.C k25 w A0_2 l0_2.length l0_2) (hc0_2 : l0_2.length ≤ c0_2) (h : triglyphref03_cell.f k a0_0 a0_1 l0_2 a1 = some r),
  Calls Try.prog 61 #[.agg #[.int .i64 a0_0, .int .i64 a0_1, .slice A0_2 l0_2.length c0_2], .int .i64 a1] w fun e w' => e = .returned (.int .i64 r) ∧ Below w.heap.size w w' := by
 intro a0_0 a0_1 A0_2 c0_2 l0_2 a1 r w hr0_2 hc0_2 h
 cases k with
 | zero => exact absurd h (by simp [triglyphref03_cell.f])
 | succ k =>
 simp only [triglyphref03_cell.f] at h
 have hu43 := Try.underlying43
 have hu25 := Try.underlying25
 have HR0_2 := gA hr0_2
 have HC0_2 := gA hc0_2
 clear hr0_2 hc0_2
 have HB := gA (Below.refl w.heap.size w)
 have H : (if a0_0 = 2 then (if a0_1 = 0 then (triglyphref03_cell.j0 k a1 ((l0_2.length : Int) == 1) a0_0 a0_1 l0_2) else (triglyphref03_cell.j0 k a1 false a0_0 a0_1 l0_2)) else (triglyphref03_cell.j0 k a1 false a0_0 a0_1 l0_2)) = some r := h
 clear h
 have HC3 := gA H
 clear H
 go_enter Try.func61, Try.ntmps61
 go_upto_region 1 with (first | ((with_reducible refine gate_dst (N := 2) rfl ?_); (try (refine gate_guard (by rfl) ?_; dsimp only)); refine box_event ?hg (N := 2) ?hd (cs := #[.int .i64 a0_0, .int .i64 a0_1, .slice A0_2 l0_2.length c0_2]) (t := 43) ?hr ?_; (case hd => rfl); (case hg => rfl); (case hr => first | (go_simp; done) | (go_simp; rfl)); intro gb308 hg w4 hbox hb; have BK308 := gA (hbox); have GW308 := gA ((by rw [hg]; exact (below_size (gB HB)) : w.heap.size ≤ gb308)); have GE308 := gA ((by rw [hg]; exact (below_size (gB HB)) : w.heap.size ≤ gb308)); replace HB := gA (below_step (gB HB) hb); clear hb hbox hg))
 (try simp only [Act.put, List.setIfInBounds_toArray, List.set_cons_zero, List.set_cons_succ])
 go_cut [18] (fun v18 wc => ∃ (kq : Nat) (x18_2 : Bool), v18 = .bool x18_2 ∧ Aside0 (triglyphref03_cell.j0 kq a1 x18_2 a0_0 a0_1 l0_2 = some r) ∧ Aside0 (kq ≤ k) ∧ Aside0 (wc.heap[gb308]? = some (.cells #[.int .i64 a0_0, .int .i64 a0_1, (.slice A0_2 l0_2.length c0_2)] 43 (0, 0))) ∧ Aside0 (Below w.heap.size w wc))
 case first =>
  have H := HC3.out; clear HC3
  by_cases c5 : a0_0 = 2
  ·rw [if_pos c5] at H
   have c5b0 : (a0_0 == 2) = true := beq_iff_eq.mpr c5
   have c5b1 : (a0_0 != 2) = false := bne_eq_false_iff_eq.mpr c5
   clear c5
   (first | rw [c5b0] | rw [c5b1] | (simp only [i64_w, i32_w]; rw [c5b0]) | skip)
   by_cases c6 : a0_1 = 0
   ·rw [if_pos c6] at H
    have c6b0 : (a0_1 == 0) = true := beq_iff_eq.mpr c6
    have c6b1 : (a0_1 != 0) = false := bne_eq_false_iff_eq.mpr c6
    clear c6
    have H' := gA H
    clear H
    obtain ⟨hcz7_0, hcz7_1, hcz7_2, hfz7_0, hfz7_1, hfz7_2⟩ := gz3 BK308
    go_wp2
    all_goals (go_meet; (case rel => exact ⟨_, (((l0_2.length : Int) == 1)), (by first | rfl | (simp; done) | (simp [*]; done) | (exfalso; simp_all; done) | (exfalso; simp_all; omega)), H', ⟨by first | omega | exact Nat.le_refl _⟩, ⟨gK BK308⟩, ⟨gB HB⟩⟩))
   ·rw [if_neg c6] at H
    have c6b0 : (a0_1 == 0) = false := beq_eq_false_iff_ne.mpr c6
    have c6b1 : (a0_1 != 0) = true := bne_iff_ne.mpr c6
    have H' := gA H
    clear H
    obtain ⟨hcz8_0, hcz8_1, hcz8_2, hfz8_0, hfz8_1, hfz8_2⟩ := gz3 BK308
    go_wp2
    all_goals (go_meet; (case rel => exact ⟨_, (false), (by first | rfl | (simp; done) | (simp [*]; done) | (exfalso; simp_all; done) | (exfalso; simp_all; omega)), H', ⟨by first | omega | exact Nat.le_refl _⟩, ⟨gK BK308⟩, ⟨gB HB⟩⟩))
  ·rw [if_neg c5] at H
   have c5b0 : (a0_0 == 2) = false := beq_eq_false_iff_ne.mpr c5
   have c5b1 : (a0_0 != 2) = true := bne_iff_ne.mpr c5
   (first | rw [c5b0] | rw [c5b1] | (simp only [i64_w, i32_w]; rw [c5b0]) | skip)
   have H' := gA H
   clear H
   obtain ⟨hcz9_0, hcz9_1, hcz9_2, hfz9_0, hfz9_1, hfz9_2⟩ := gz3 BK308
   go_wp2
   all_goals (go_meet; (case rel => exact ⟨_, (false), (by first | rfl | (simp; done) | (simp [*]; done) | (exfalso; simp_all; done) | (exfalso; simp_all; omega)), H', ⟨by first | omega | exact Nat.le_refl _⟩, ⟨gK BK308⟩, ⟨gB HB⟩⟩))
 case rest =>
  clear HC3
  try clear p2
  try clear c5
  try clear c5b0
  try clear c5b1
  try clear c6
  try clear c6b0
  try clear c6b1
  try clear hcz7_0
  try clear hcz7_1
  try clear hcz7_2
  try clear hcz8_0
  try clear hcz8_1
  try clear hcz8_2
  try clear hcz9_0
  try clear hcz9_1
  try clear hcz9_2
  try clear hfz7_0
  try clear hfz7_1
  try clear hfz7_2
  try clear hfz8_0
  try clear hfz8_1
  try clear hfz8_2
  try clear hfz9_0
  try clear hfz9_1
  try clear hfz9_2
  obtain ⟨kq, x18_2, rfl, HA, HJ2, BK308, HB⟩ := hcut
  cases kq with
  | zero => exact absurd HA.out (by simp [triglyphref03_cell.j0])
  | succ kj2 =>
   have H := HA.out; clear HA
   simp only [triglyphref03_cell.j0] at H
   by_cases c10 : x18_2 = true
   ·subst c10
    have H1 : (if a1 = 8 then (some 15) else (if 0 < (l0_2.length : Int) then ((triglyphref03_check.f kj2 ((rd_T25 l0_2 0).f0) ((rd_T25 l0_2 0).f1) (wrap64 (a1 + 1))).bind fun t310 => (some t310)) else (none))) = some r := by rw [if_pos rfl] at H; exact H
    clear H; have H := H1; clear H1
    by_cases c11 : a1 = 8
    ·rw [if_pos c11] at H
     have c11b0 : (a1 == 8) = true := beq_iff_eq.mpr c11
     have c11b1 : (a1 != 8) = false := bne_eq_false_iff_eq.mpr c11
     clear c11
     obtain rfl := Option.some.inj H
     go_wp2
     go_ret
     exact ⟨rfl, by repeat first | exact gB HB | refine below_set ?_ GE308.out⟩
    ·rw [if_neg c11] at H
     have c11b0 : (a1 == 8) = false := beq_eq_false_iff_ne.mpr c11
     have c11b1 : (a1 != 8) = true := bne_iff_ne.mpr c11
     obtain ⟨c12, H⟩ := iS H
     have c12b0 := decide_eq_true c12
     have c12b1 : decide (0 < l0_2.length) = true := decide_eq_true (by omega)
     clear c12
     replace H := Option.bind_eq_some_iff.mp H
     obtain ⟨t310, A130, H⟩ := H
     replace H : (some t310) = some r := H
     have A13 := gA A130
     clear A130
     obtain rfl := Option.some.inj H
     obtain ⟨hcz14_0, hcz14_1, hcz14_2, hfz14_0, hfz14_1, hfz14_2⟩ := gz3 BK308
     have p309 : 0 ≤ (0 : Int) := (by omega)
     have q309 : 0 < (l0_2.length : Int) := of_decide_eq_true (by assumption)
     obtain ⟨ad309, A309_0, c309_0, A309_1, c309_1, e309, hx309_0, hx309_1, hl309_0, hi309_0, hl309_1, hi309_1⟩ := at_T25 HR0_2.out 0 p309 q309
     cases e309
     have qi309 : (0 < l0_2.length) = True := eq_true (by omega)
     (try rw [show ((0 : Int)).toNat = 0 from rfl] at hx309_0)
     (try rw [show 0 * 2 = 0 from rfl] at hx309_0)
     (try rw [Addr.add_zero'] at hx309_0)
     (try rw [show ((0 : Int)).toNat = 0 from rfl] at hx309_1)
     (try rw [show 0 * 2 = 0 from rfl] at hx309_1)
     (try rw [Addr.add_zero'] at hx309_1)
     replace hx309_0 := (HB.out.cell (World.block_lt_of_cell? w _ hx309_0)).trans hx309_0
     replace hx309_1 := (HB.out.cell (World.block_lt_of_cell? w _ hx309_1)).trans hx309_1
     have HR309_0 := gA hi309_0
     have HC309_0 := gA hl309_0
     clear hi309_0 hl309_0
     have HR309_1 := gA hi309_1
     have HC309_1 := gA hl309_1
     clear hi309_1 hl309_1
     replace p309 := eq_true p309
     replace q309 := eq_true q309
     go_wp2_with (first | ((with_reducible refine gate_callee (f := 45) rfl ?_); refine goesL_ (some 27) rfl rfl Try.func45 (by kernel_rfl) rfl #[.agg #[.slice A309_0 ((rd_T25 l0_2 0).f0).length c309_0, .slice A309_1 ((rd_T25 l0_2 0).f1).length c309_1], .int .i64 (wrap64 (a1 + 1))] rfl (by (try simp only [List.map_toArray, List.map_cons, List.map_nil]); first | done | rfl | (simp only [List.length_drop, List.length_take]; rfl)) ?_; (with_reducible refine (ih_triglyphref03_check kj2 (by have := HJ2.out; omega) _ _ ((rd_T25 l0_2 0).f0) _ _ ((rd_T25 l0_2 0).f1) (wrap64 (a1 + 1)) t310 _ ?side1 ?side2 ?side3 ?side4 A13.out).mono ?_); (case side1 => exact gC HR309_0 HB); (case side2 => exact HC309_0.out); (case side3 => exact gC HR309_1 HB); (case side4 => exact HC309_1.out); rintro e w15 ⟨rfl, hb⟩; refine ⟨_, rfl, ?_⟩; replace BK308 := gA (blk_below (gK BK308) hb); replace HB := gA (below_step (gB HB) hb); (try clear hb)))
     go_ret
     exact ⟨rfl, by repeat first | exact gB HB | refine below_set ?_ GE308.out⟩
   ·replace c10 := Bool.eq_false_iff.mpr c10
    subst c10
    have H1 : (if (l0_2.length : Int) > 0 then (some 1) else (if a0_0 = 0 then (some 0) else (if a0_0 = 1 then ((triglyphref02_Good.f a0_1).bind fun t311 => (if t311 = true then (some 0) else (some 1))) else (some 1)))) = some r := by rw [if_neg (show ¬ (false = true) by decide)] at H; exact H
    clear H; have H := H1; clear H1
    by_cases c16 : (l0_2.length : Int) > 0
    ·rw [if_pos c16] at H
     have c16b0 : decide (0 < (l0_2.length : Int)) = true := decide_eq_true c16
     have c16b1 : decide (0 < l0_2.length) = true := decide_eq_true (by omega)
     clear c16
     obtain rfl := Option.some.inj H
     obtain ⟨hcz17_0, hcz17_1, hcz17_2, hfz17_0, hfz17_1, hfz17_2⟩ := gz3 BK308
     go_wp2
     go_ret
     exact ⟨rfl, by repeat first | exact gB HB | refine below_set ?_ GE308.out⟩
    ·rw [if_neg c16] at H
     have c16b0 : decide (0 < (l0_2.length : Int)) = false := decide_eq_false c16
     have c16b1 : decide (0 < l0_2.length) = false := decide_eq_false (by omega)
     clear c16
     by_cases c18 : a0_0 = 0
     ·rw [if_pos c18] at H
      have c18b0 : (a0_0 == 0) = true := beq_iff_eq.mpr c18
      have c18b1 : (a0_0 != 0) = false := bne_eq_false_iff_eq.mpr c18
      clear c18
      obtain rfl := Option.some.inj H
      obtain ⟨hcz19_0, hcz19_1, hcz19_2, hfz19_0, hfz19_1, hfz19_2⟩ := gz3 BK308
      go_wp2
      go_ret
      exact ⟨rfl, by repeat first | exact gB HB | refine below_set ?_ GE308.out⟩
     ·rw [if_neg c18] at H
      have c18b0 : (a0_0 == 0) = false := beq_eq_false_iff_ne.mpr c18
      have c18b1 : (a0_0 != 0) = true := bne_iff_ne.mpr c18
      by_cases c20 : a0_0 = 1
      ·rw [if_pos c20] at H
       have c20b0 : (a0_0 == 1) = true := beq_iff_eq.mpr c20
       have c20b1 : (a0_0 != 1) = false := bne_eq_false_iff_eq.mpr c20
       clear c20
       replace H := Option.bind_eq_some_iff.mp H
       obtain ⟨t311, A210, H⟩ := H
       replace H : (if t311 = true then (some 0) else (some 1)) = some r := H
       have A21 := gA A210
       clear A210
       by_cases c22 : t311 = true
       ·subst c22
        have H1 : (some 0) = some r := by rw [if_pos rfl] at H; exact H
        clear H; have H := H1; clear H1
        obtain rfl := Option.some.inj H
        obtain ⟨hcz23_0, hcz23_1, hcz23_2, hfz23_0, hfz23_1, hfz23_2⟩ := gz3 BK308
        go_wp2_with (first | (go_at_call 74; (with_reducible refine (triglyphref02_Good.calls a0_1 true _ A21.out).mono ?_); rintro e w' ⟨rfl, ⟨nd, rfl⟩⟩))
        go_ret
        exact ⟨rfl, by repeat first | exact gB HB | refine below_set ?_ GE308.out⟩
       ·replace c22 := Bool.eq_false_iff.mpr c22
        subst c22
        have H1 : (some 1) = some r := by rw [if_neg (show ¬ (false = true) by decide)] at H; exact H
        clear H; have H := H1; clear H1
        obtain rfl := Option.some.inj H
        obtain ⟨hcz24_0, hcz24_1, hcz24_2, hfz24_0, hfz24_1, hfz24_2⟩ := gz3 BK308
        go_wp2_with (first | (go_at_call 74; (with_reducible refine (triglyphref02_Good.calls a0_1 false _ A21.out).mono ?_); rintro e w' ⟨rfl, ⟨nd, rfl⟩⟩))
        go_ret
        exact ⟨rfl, by repeat first | exact gB HB | refine below_set ?_ GE308.out⟩
      ·rw [if_neg c20] at H
       have c20b0 : (a0_0 == 1) = false := beq_eq_false_iff_ne.mpr c20
       have c20b1 : (a0_0 != 1) = true := bne_iff_ne.mpr c20
       obtain rfl := Option.some.inj H
       obtain ⟨hcz25_0, hcz25_1, hcz25_2, hfz25_0, hfz25_1, hfz25_2⟩ := gz3 BK308
       go_wp2
       go_ret
       exact ⟨rfl, by repeat first | exact gB HB | refine below_set ?_ GE308.out⟩
set_option maxHeartbeats 8000000 in
set_option maxRecDepth 100000 in
theorem triglyphref03_check.step (k : Nat) (ih_triglyphref03_cell : ∀ k_, k_ < k → ∀ (a0_0 : Int) (a0_1 : Int) (A0_2 : Option Addr) (c0_2 : Nat) (l0_2 : List (S25)) (a1 : Int) (r : Int) (w : World) (hr0_2 : Kd.C k25 w A0_2 l0_2.length l0_2) (hc0_2 : l0_2.length ≤ c0_2) (h : triglyphref03_cell.f k_ a0_0 a0_1 l0_2 a1 = some r),
  Calls Try.prog 61 #[.agg #[.int .i64 a0_0, .int .i64 a0_1, .slice A0_2 l0_2.length c0_2], .int .i64 a1] w fun e w' => e = .returned (.int .i64 r) ∧ Below w.heap.size w w') (ih : ∀ k_, k_ < k → ∀ (A0_0 : Option Addr) (c0_0 : Nat) (l0_0 : List Int) (A0_1 : Option Addr) (c0_1 : Nat) (l0_1 : List (S43)) (a1 : Int) (r : Int) (w : World) (hr0_0 : Kd.C (Kd.int .i64) w A0_0 l0_0.length l0_0) (hc0_0 : l0_0.length ≤ c0_0) (hr0_1 : Kd.C k43 w A0_1 l0_1.length l0_1) (hc0_1 : l0_1.length ≤ c0_1) (h : triglyphref03_check.f k_ l0_0 l0_1 a1 = some r),
  Calls Try.prog 45 #[.agg #[.slice A0_0 l0_0.length c0_0, .slice A0_1 l0_1.length c0_1], .int .i64 a1] w fun e w' => e = .returned (.int .i64 r) ∧ Below w.heap.size w w') : ∀ (A0_0 : Option Addr) (c0_0 : Nat) (l0_0 : List Int) (A0_1 : Option Addr) (c0_1 : Nat) (l0_1 : List (S43)) (a1 : Int) (r : Int) (w : World) (hr0_0 : Kd.C (Kd.int .i64) w A0_0 l0_0.length l0_0) (hc0_0 : l0_0.length ≤ c0_0) (hr0_1 : Kd.C k43 w A0_1 l0_1.length l0_1) (hc0_1 : l0_1.length ≤ c0_1) (h : triglyphref03_check.f k l0_0 l0_1 a1 = some r),
  Calls Try.prog 45 #[.agg #[.slice A0_0 l0_0.length c0_0, .slice A0_1 l0_1.length c0_1], .int .i64 a1] w fun e w' => e = .returned (.int .i64 r) ∧ Below w.heap.size w w' := by
 intro A0_0 c0_0 l0_0 A0_1 c0_1 l0_1 a1 r w hr0_0 hc0_0 hr0_1 hc0_1 h
 cases k with
 | zero => exact absurd h (by simp [triglyphref03_check.f])
 | succ k =>
 simp only [triglyphref03_check.f] at h
 have hu25 := Try.underlying25
 have hu43 := Try.underlying43
 have HR0_0 := gA hr0_0
 have HC0_0 := gA hc0_0
 clear hr0_0 hc0_0
 have HR0_1 := gA hr0_1
 have HC0_1 := gA hc0_1
 clear hr0_1 hc0_1
 have HB := gA (Below.refl w.heap.size w)
 have H : ((triglyphref03_Size.f k l0_0).bind fun bt313 => (if bt313.2 = 0 then (if bt313.1 = (l0_1.length : Int) then (triglyphref03_check.l0 k a1 0 l0_0 l0_1) else (some 1)) else (some bt313.2))) = some r := h
 clear h
 replace H := Option.bind_eq_some_iff.mp H
 obtain ⟨⟨t313, t314⟩, A30, H⟩ := H
 replace H : (if t314 = 0 then (if t313 = (l0_1.length : Int) then (triglyphref03_check.l0 k a1 0 l0_0 l0_1) else (some 1)) else (some t314)) = some r := H
 have A3 := gA A30
 clear A30
 by_cases c4 : t314 = 0
 ·rw [if_pos c4] at H
  have c4b0 : (t314 == 0) = true := beq_iff_eq.mpr c4
  have c4b1 : (t314 != 0) = false := bne_eq_false_iff_eq.mpr c4
  clear c4
  by_cases c5 : t313 = (l0_1.length : Int)
  ·rw [if_pos c5] at H
   have c5b0 : (t313 == (l0_1.length : Int)) = true := beq_iff_eq.mpr c5
   have c5b1 : (t313 != (l0_1.length : Int)) = false := bne_eq_false_iff_eq.mpr c5
   clear c5
   have H' := gA H
   clear H
   go_enter Try.func45, Try.ntmps45
   go_wp2_with (first | ((with_reducible refine gate_dst (N := 2) rfl ?_); refine box_event ?hg (N := 2) ?hd (cs := #[.slice A0_0 l0_0.length c0_0, .slice A0_1 l0_1.length c0_1]) (t := 25) ?hr ?_; (case hd => rfl); (case hg => rfl); (case hr => first | (go_simp; done) | (go_simp; rfl)); intro gb312 hg w6 hbox hb; have BK312 := gA (hbox); have GW312 := gA ((by rw [hg]; exact (below_size (gB HB)) : w.heap.size ≤ gb312)); have GE312 := gA ((by rw [hg]; exact (below_size (gB HB)) : w.heap.size ≤ gb312)); replace HB := gA (below_step (gB HB) hb); clear hb hbox hg; obtain ⟨hcz7_0, hcz7_1, hfz7_0, hfz7_1⟩ := gz2 BK312) | ((with_reducible refine gate_callee (f := 36) rfl ?_); refine goesL_ (some 13) rfl rfl Try.func36 (by kernel_rfl) rfl #[.slice A0_0 l0_0.length c0_0] rfl (by (try simp only [List.map_toArray, List.map_cons, List.map_nil]); first | done | rfl | (simp only [List.length_drop, List.length_take]; rfl)) ?_; (with_reducible refine (triglyphref03_Size.calls k _ _ l0_0 t313 t314 _ ?side1 ?side2 A3.out).mono ?_); (case side1 => exact gC HR0_0 HB); (case side2 => exact HC0_0.out); rintro e w' ⟨rfl, ⟨nd, rfl⟩⟩; refine ⟨_, rfl, ?_⟩))
   go_loopg [7] k (fun kq v7 w' => ∃ (x7_1 : Int), v7 = .int .i64 x7_1 ∧ Aside0 (triglyphref03_check.l0 kq a1 x7_1 l0_0 l0_1 = some r) ∧ Aside0 (kq ≤ k) ∧ Aside0 (w'.heap[gb312]? = some (.cells #[(.slice A0_0 l0_0.length c0_0), (.slice A0_1 l0_1.length c0_1)] 25 (0, 0))) ∧ Aside0 (Below w.heap.size w w'))
   case atStart => exact ⟨(0), (rfl), H', ⟨Nat.le_refl _⟩, ⟨gK BK312⟩, ⟨by repeat first | exact gB HB | refine below_set ?_ GE312.out⟩⟩
   case round =>
    clear H'
    try clear p2
    try clear c3
    try clear c4
    try clear c4b0
    try clear c4b1
    try clear c5
    try clear c5b0
    try clear c5b1
    try clear hcz7_0
    try clear hcz7_1
    try clear hfz7_0
    try clear hfz7_1
    obtain ⟨x7_1, rfl, HA, HK1, BK312, HB⟩ := hrel
    cases gk with
    | zero => exact absurd HA.out (by simp [triglyphref03_check.l0])
    | succ k1 =>
     have H := HA.out; clear HA
     simp only [triglyphref03_check.l0] at H
     by_cases c8 : x7_1 < (l0_0.length : Int)
     ·rw [if_pos c8] at H
      have c8b0 := decide_eq_true c8
      clear c8
      obtain ⟨c9, H⟩ := iS H
      have c9b0 := decide_eq_true c9
      clear c9
      by_cases c10 : (rd l0_0 x7_1) > 16384
      ·rw [if_pos c10] at H
       have c10b0 : decide (16384 < (rd l0_0 x7_1)) = true := decide_eq_true c10
       clear c10
       obtain rfl := Option.some.inj H
       obtain ⟨hcz11_0, hcz11_1, hfz11_0, hfz11_1⟩ := gz2 BK312
       have p315 : 0 ≤ (x7_1 : Int) := of_decide_eq_true (by assumption)
       have q315 : x7_1 < (l0_0.length : Int) := of_decide_eq_true (by assumption)
       obtain ⟨ad315, e315, hx315_0⟩ := Kd.at_int HR0_0.out x7_1 p315 q315
       cases e315
       replace hx315_0 := (HB.out.cell (World.block_lt_of_cell? w _ hx315_0)).trans hx315_0
       replace p315 := eq_true p315
       replace q315 := eq_true q315
       go_wp2
       go_ret
       exact ⟨rfl, by repeat first | exact gB HB | refine below_set ?_ GE312.out⟩
      ·rw [if_neg c10] at H
       have c10b0 : decide (16384 < (rd l0_0 x7_1)) = false := decide_eq_false c10
       clear c10
       have H' := gA H
       clear H
       obtain ⟨hcz12_0, hcz12_1, hfz12_0, hfz12_1⟩ := gz2 BK312
       have p315 : 0 ≤ (x7_1 : Int) := of_decide_eq_true (by assumption)
       have q315 : x7_1 < (l0_0.length : Int) := of_decide_eq_true (by assumption)
       obtain ⟨ad315, e315, hx315_0⟩ := Kd.at_int HR0_0.out x7_1 p315 q315
       cases e315
       replace hx315_0 := (HB.out.cell (World.block_lt_of_cell? w _ hx315_0)).trans hx315_0
       replace p315 := eq_true p315
       replace q315 := eq_true q315
       go_wp2
       go_roundg k1
       case measure => have := HK1.out; omega
       case rel => exact ⟨(wrap64 (x7_1 + 1)), (rfl), H', ⟨by have := HK1.out; omega⟩, ⟨gK BK312⟩, ⟨by repeat first | exact gB HB | refine below_set ?_ GE312.out⟩⟩
     ·rw [if_neg c8] at H
      have c8b0 := decide_eq_false c8
      clear c8
      have H' := gA H
      clear H
      obtain ⟨hcz13_0, hcz13_1, hfz13_0, hfz13_1⟩ := gz2 BK312
      go_wp2
      go_loopg [8] k1 (fun kq v8 w' => ∃ (x8_2 : Int), v8 = .int .i64 x8_2 ∧ Aside0 (triglyphref03_check.l1 kq a1 x8_2 l0_0 l0_1 = some r) ∧ Aside0 (kq ≤ k1) ∧ Aside0 (w'.heap[gb312]? = some (.cells #[(.slice A0_0 l0_0.length c0_0), (.slice A0_1 l0_1.length c0_1)] 25 (0, 0))) ∧ Aside0 (Below w.heap.size w w'))
      case atStart => exact ⟨(0), (rfl), H', ⟨Nat.le_refl _⟩, ⟨gK BK312⟩, ⟨by repeat first | exact gB HB | refine below_set ?_ GE312.out⟩⟩
      case round =>
       clear H'
       try clear c1
       try clear p2
       try clear c3
       try clear p3
       try clear q3
       try clear hx3
       try clear c4
       try clear c4b0
       try clear c4b1
       try clear c5
       try clear c5b0
       try clear c5b1
       try clear p6
       try clear c8
       try clear c8b0
       try clear c9
       try clear c9b0
       try clear c10
       try clear c10b0
       try clear hcz11_0
       try clear hcz11_1
       try clear hcz12_0
       try clear hcz12_1
       try clear hcz13_0
       try clear hcz13_1
       try clear hcz7_0
       try clear hcz7_1
       try clear hfz11_0
       try clear hfz11_1
       try clear hfz12_0
       try clear hfz12_1
       try clear hfz13_0
       try clear hfz13_1
       try clear hfz7_0
       try clear hfz7_1
       try clear hx315_0
       try clear p2
       try clear p315
       try clear q315
       obtain ⟨x8_2, rfl, HA, HK2, BK312, HB⟩ := hrel
       cases gk with
       | zero => exact absurd HA.out (by simp [triglyphref03_check.l1])
       | succ k2 =>
        have H := HA.out; clear HA
        simp only [triglyphref03_check.l1] at H
        by_cases c14 : x8_2 < (l0_1.length : Int)
        ·rw [if_pos c14] at H
         have c14b0 := decide_eq_true c14
         clear c14
         obtain ⟨c15, H⟩ := iS H
         have c15b0 := decide_eq_true c15
         clear c15
         replace H := Option.bind_eq_some_iff.mp H
         obtain ⟨t317, A160, H⟩ := H
         replace H : (if t317 = 0 then (triglyphref03_check.l1 k2 a1 (wrap64 (x8_2 + 1)) l0_0 l0_1) else (some t317)) = some r := H
         have A16 := gA A160
         clear A160
         by_cases c17 : t317 = 0
         ·rw [if_pos c17] at H
          have c17b0 : (t317 == 0) = true := beq_iff_eq.mpr c17
          have c17b1 : (t317 != 0) = false := bne_eq_false_iff_eq.mpr c17
          clear c17
          have H' := gA H
          clear H
          obtain ⟨hcz18_0, hcz18_1, hfz18_0, hfz18_1⟩ := gz2 BK312
          have p316 : 0 ≤ (x8_2 : Int) := of_decide_eq_true (by assumption)
          have q316 : x8_2 < (l0_1.length : Int) := of_decide_eq_true (by assumption)
          obtain ⟨ad316, A316_2, c316_2, e316, hx316_0, hx316_1, hx316_2, hl316_2, hi316_2⟩ := at_T43 HR0_1.out x8_2 p316 q316
          cases e316
          replace hx316_0 := (HB.out.cell (World.block_lt_of_cell? w _ hx316_0)).trans hx316_0
          replace hx316_1 := (HB.out.cell (World.block_lt_of_cell? w _ hx316_1)).trans hx316_1
          replace hx316_2 := (HB.out.cell (World.block_lt_of_cell? w _ hx316_2)).trans hx316_2
          have HR316_2 := gA hi316_2
          have HC316_2 := gA hl316_2
          clear hi316_2 hl316_2
          replace p316 := eq_true p316
          replace q316 := eq_true q316
          go_wp2_with (first | ((with_reducible refine gate_callee (f := 61) rfl ?_); refine goesL_ (some 50) rfl rfl Try.func61 (by kernel_rfl) rfl #[.agg #[.int .i64 ((rd_T43 l0_1 x8_2).f0), .int .i64 ((rd_T43 l0_1 x8_2).f1), .slice A316_2 ((rd_T43 l0_1 x8_2).f2).length c316_2], .int .i64 a1] rfl (by (try simp only [List.map_toArray, List.map_cons, List.map_nil]); first | done | rfl | (simp only [List.length_drop, List.length_take]; rfl)) ?_; (with_reducible refine (ih_triglyphref03_cell k2 (by have := HK1.out; have := HK2.out; omega) ((rd_T43 l0_1 x8_2).f0) ((rd_T43 l0_1 x8_2).f1) _ _ ((rd_T43 l0_1 x8_2).f2) a1 t317 _ ?side1 ?side2 A16.out).mono ?_); (case side1 => exact gC HR316_2 HB); (case side2 => exact HC316_2.out); rintro e w19 ⟨rfl, hb⟩; refine ⟨_, rfl, ?_⟩; replace BK312 := gA (blk_below (gK BK312) hb); replace HB := gA (below_step (gB HB) hb); (try clear hb)))
          go_roundg k2
          case measure => have := HK1.out; have := HK2.out; omega
          case rel => exact ⟨(wrap64 (x8_2 + 1)), (rfl), H', ⟨by have := HK1.out; have := HK2.out; omega⟩, ⟨gK BK312⟩, ⟨gB HB⟩⟩
         ·rw [if_neg c17] at H
          have c17b0 : (t317 == 0) = false := beq_eq_false_iff_ne.mpr c17
          have c17b1 : (t317 != 0) = true := bne_iff_ne.mpr c17
          obtain rfl := Option.some.inj H
          obtain ⟨hcz20_0, hcz20_1, hfz20_0, hfz20_1⟩ := gz2 BK312
          have p316 : 0 ≤ (x8_2 : Int) := of_decide_eq_true (by assumption)
          have q316 : x8_2 < (l0_1.length : Int) := of_decide_eq_true (by assumption)
          obtain ⟨ad316, A316_2, c316_2, e316, hx316_0, hx316_1, hx316_2, hl316_2, hi316_2⟩ := at_T43 HR0_1.out x8_2 p316 q316
          cases e316
          replace hx316_0 := (HB.out.cell (World.block_lt_of_cell? w _ hx316_0)).trans hx316_0
          replace hx316_1 := (HB.out.cell (World.block_lt_of_cell? w _ hx316_1)).trans hx316_1
          replace hx316_2 := (HB.out.cell (World.block_lt_of_cell? w _ hx316_2)).trans hx316_2
          have HR316_2 := gA hi316_2
          have HC316_2 := gA hl316_2
          clear hi316_2 hl316_2
          replace p316 := eq_true p316
          replace q316 := eq_true q316
          go_wp2_with (first | ((with_reducible refine gate_callee (f := 61) rfl ?_); refine goesL_ (some 50) rfl rfl Try.func61 (by kernel_rfl) rfl #[.agg #[.int .i64 ((rd_T43 l0_1 x8_2).f0), .int .i64 ((rd_T43 l0_1 x8_2).f1), .slice A316_2 ((rd_T43 l0_1 x8_2).f2).length c316_2], .int .i64 a1] rfl (by (try simp only [List.map_toArray, List.map_cons, List.map_nil]); first | done | rfl | (simp only [List.length_drop, List.length_take]; rfl)) ?_; (with_reducible refine (ih_triglyphref03_cell k2 (by have := HK1.out; have := HK2.out; omega) ((rd_T43 l0_1 x8_2).f0) ((rd_T43 l0_1 x8_2).f1) _ _ ((rd_T43 l0_1 x8_2).f2) a1 t317 _ ?side1 ?side2 A16.out).mono ?_); (case side1 => exact gC HR316_2 HB); (case side2 => exact HC316_2.out); rintro e w21 ⟨rfl, hb⟩; refine ⟨_, rfl, ?_⟩; replace BK312 := gA (blk_below (gK BK312) hb); replace HB := gA (below_step (gB HB) hb); (try clear hb)))
          go_ret
          exact ⟨rfl, by repeat first | exact gB HB | refine below_set ?_ GE312.out⟩
        ·rw [if_neg c14] at H
         have c14b0 := decide_eq_false c14
         clear c14
         obtain rfl := Option.some.inj H
         obtain ⟨hcz22_0, hcz22_1, hfz22_0, hfz22_1⟩ := gz2 BK312
         go_wp2
         go_ret
         exact ⟨rfl, by repeat first | exact gB HB | refine below_set ?_ GE312.out⟩
  ·rw [if_neg c5] at H
   have c5b0 : (t313 == (l0_1.length : Int)) = false := beq_eq_false_iff_ne.mpr c5
   have c5b1 : (t313 != (l0_1.length : Int)) = true := bne_iff_ne.mpr c5
   obtain rfl := Option.some.inj H
   go_enter Try.func45, Try.ntmps45
   go_wp2_with (first | ((with_reducible refine gate_dst (N := 2) rfl ?_); refine box_event ?hg (N := 2) ?hd (cs := #[.slice A0_0 l0_0.length c0_0, .slice A0_1 l0_1.length c0_1]) (t := 25) ?hr ?_; (case hd => rfl); (case hg => rfl); (case hr => first | (go_simp; done) | (go_simp; rfl)); intro gb312 hg w23 hbox hb; have BK312 := gA (hbox); have GW312 := gA ((by rw [hg]; exact (below_size (gB HB)) : w.heap.size ≤ gb312)); have GE312 := gA ((by rw [hg]; exact (below_size (gB HB)) : w.heap.size ≤ gb312)); replace HB := gA (below_step (gB HB) hb); clear hb hbox hg; obtain ⟨hcz24_0, hcz24_1, hfz24_0, hfz24_1⟩ := gz2 BK312) | ((with_reducible refine gate_callee (f := 36) rfl ?_); refine goesL_ (some 13) rfl rfl Try.func36 (by kernel_rfl) rfl #[.slice A0_0 l0_0.length c0_0] rfl (by (try simp only [List.map_toArray, List.map_cons, List.map_nil]); first | done | rfl | (simp only [List.length_drop, List.length_take]; rfl)) ?_; (with_reducible refine (triglyphref03_Size.calls k _ _ l0_0 t313 t314 _ ?side1 ?side2 A3.out).mono ?_); (case side1 => exact gC HR0_0 HB); (case side2 => exact HC0_0.out); rintro e w' ⟨rfl, ⟨nd, rfl⟩⟩; refine ⟨_, rfl, ?_⟩))
   go_ret
   exact ⟨rfl, by repeat first | exact gB HB | refine below_set ?_ GE312.out⟩
 ·rw [if_neg c4] at H
  have c4b0 : (t314 == 0) = false := beq_eq_false_iff_ne.mpr c4
  have c4b1 : (t314 != 0) = true := bne_iff_ne.mpr c4
  obtain rfl := Option.some.inj H
  go_enter Try.func45, Try.ntmps45
  go_wp2_with (first | ((with_reducible refine gate_dst (N := 2) rfl ?_); refine box_event ?hg (N := 2) ?hd (cs := #[.slice A0_0 l0_0.length c0_0, .slice A0_1 l0_1.length c0_1]) (t := 25) ?hr ?_; (case hd => rfl); (case hg => rfl); (case hr => first | (go_simp; done) | (go_simp; rfl)); intro gb312 hg w25 hbox hb; have BK312 := gA (hbox); have GW312 := gA ((by rw [hg]; exact (below_size (gB HB)) : w.heap.size ≤ gb312)); have GE312 := gA ((by rw [hg]; exact (below_size (gB HB)) : w.heap.size ≤ gb312)); replace HB := gA (below_step (gB HB) hb); clear hb hbox hg; obtain ⟨hcz26_0, hcz26_1, hfz26_0, hfz26_1⟩ := gz2 BK312) | ((with_reducible refine gate_callee (f := 36) rfl ?_); refine goesL_ (some 13) rfl rfl Try.func36 (by kernel_rfl) rfl #[.slice A0_0 l0_0.length c0_0] rfl (by (try simp only [List.map_toArray, List.map_cons, List.map_nil]); first | done | rfl | (simp only [List.length_drop, List.length_take]; rfl)) ?_; (with_reducible refine (triglyphref03_Size.calls k _ _ l0_0 t313 t314 _ ?side1 ?side2 A3.out).mono ?_); (case side1 => exact gC HR0_0 HB); (case side2 => exact HC0_0.out); rintro e w' ⟨rfl, ⟨nd, rfl⟩⟩; refine ⟨_, rfl, ?_⟩))
  go_ret
  exact ⟨rfl, by repeat first | exact gB HB | refine below_set ?_ GE312.out⟩
theorem scc61.calls (k : Nat) : (∀ (a0_0 : Int) (a0_1 : Int) (A0_2 : Option Addr) (c0_2 : Nat) (l0_2 : List (S25)) (a1 : Int) (r : Int) (w : World) (hr0_2 : Kd.C k25 w A0_2 l0_2.length l0_2) (hc0_2 : l0_2.length ≤ c0_2) (h : triglyphref03_cell.f k a0_0 a0_1 l0_2 a1 = some r),
  Calls Try.prog 61 #[.agg #[.int .i64 a0_0, .int .i64 a0_1, .slice A0_2 l0_2.length c0_2], .int .i64 a1] w fun e w' => e = .returned (.int .i64 r) ∧ Below w.heap.size w w') ∧ (∀ (A0_0 : Option Addr) (c0_0 : Nat) (l0_0 : List Int) (A0_1 : Option Addr) (c0_1 : Nat) (l0_1 : List (S43)) (a1 : Int) (r : Int) (w : World) (hr0_0 : Kd.C (Kd.int .i64) w A0_0 l0_0.length l0_0) (hc0_0 : l0_0.length ≤ c0_0) (hr0_1 : Kd.C k43 w A0_1 l0_1.length l0_1) (hc0_1 : l0_1.length ≤ c0_1) (h : triglyphref03_check.f k l0_0 l0_1 a1 = some r),
  Calls Try.prog 45 #[.agg #[.slice A0_0 l0_0.length c0_0, .slice A0_1 l0_1.length c0_1], .int .i64 a1] w fun e w' => e = .returned (.int .i64 r) ∧ Below w.heap.size w w') := by
 induction k using Nat.strongRecOn with
 | _ k ih =>
 exact ⟨triglyphref03_cell.step k (fun k_ h_ => (ih k_ h_).1) (fun k_ h_ => (ih k_ h_).2), triglyphref03_check.step k (fun k_ h_ => (ih k_ h_).1) (fun k_ h_ => (ih k_ h_).2)⟩
theorem triglyphref03_cell.calls (k : Nat) : ∀ (a0_0 : Int) (a0_1 : Int) (A0_2 : Option Addr) (c0_2 : Nat) (l0_2 : List (S25)) (a1 : Int) (r : Int) (w : World) (hr0_2 : Kd.C k25 w A0_2 l0_2.length l0_2) (hc0_2 : l0_2.length ≤ c0_2) (h : triglyphref03_cell.f k a0_0 a0_1 l0_2 a1 = some r),
  Calls Try.prog 61 #[.agg #[.int .i64 a0_0, .int .i64 a0_1, .slice A0_2 l0_2.length c0_2], .int .i64 a1] w fun e w' => e = .returned (.int .i64 r) ∧ Below w.heap.size w w' := (scc61.calls k).1
theorem triglyphref03_check.calls (k : Nat) : ∀ (A0_0 : Option Addr) (c0_0 : Nat) (l0_0 : List Int) (A0_1 : Option Addr) (c0_1 : Nat) (l0_1 : List (S43)) (a1 : Int) (r : Int) (w : World) (hr0_0 : Kd.C (Kd.int .i64) w A0_0 l0_0.length l0_0) (hc0_0 : l0_0.length ≤ c0_0) (hr0_1 : Kd.C k43 w A0_1 l0_1.length l0_1) (hc0_1 : l0_1.length ≤ c0_1) (h : triglyphref03_check.f k l0_0 l0_1 a1 = some r),
  Calls Try.prog 45 #[.agg #[.slice A0_0 l0_0.length c0_0, .slice A0_1 l0_1.length c0_1], .int .i64 a1] w fun e w' => e = .returned (.int .i64 r) ∧ Below w.heap.size w w' := (scc61.calls k).2
def triglyphref03_Check.f (k : Nat) (l0_0 : List Int) (l0_1 : List (S43)) : Option (Int) := (triglyphref03_check.f k l0_0 l0_1 0).bind fun t319 => (some t319)
theorem triglyphref03_Check.mono : ∀ a0 a1 k, LeO (triglyphref03_Check.f k a0 a1) (triglyphref03_Check.f (k + 1) a0 a1) := by
 intro a0 a1 k
 unfold triglyphref03_Check.f
 repeat' first
   | (with_reducible exact triglyphref03_check.mono _ _ _ _)
   | (with_reducible exact LeO.refl _)
   | (with_reducible exact LeO.none _)
   | (with_reducible refine LeO.ite ?_ ?_)
   | (with_reducible refine LeO.bind ?_ (fun _ => ?_))
   | exact triglyphref03_check.mono _ _ _ _
set_option maxHeartbeats 8000000 in
set_option maxRecDepth 100000 in
theorem triglyphref03_Check.calls (k : Nat) (A0_0 : Option Addr) (c0_0 : Nat) (l0_0 : List Int) (A0_1 : Option Addr) (c0_1 : Nat) (l0_1 : List (S43)) (r : Int) (w : World) (hr0_0 : Kd.C (Kd.int .i64) w A0_0 l0_0.length l0_0) (hc0_0 : l0_0.length ≤ c0_0) (hr0_1 : Kd.C k43 w A0_1 l0_1.length l0_1) (hc0_1 : l0_1.length ≤ c0_1) (h : triglyphref03_Check.f k l0_0 l0_1 = some r) :
  Calls Try.prog 21 #[.agg #[.slice A0_0 l0_0.length c0_0, .slice A0_1 l0_1.length c0_1]] w fun e w' => e = .returned (.int .i64 r) ∧ Below w.heap.size w w' := by
 have hu25 := Try.underlying25
 have HR0_0 := gA hr0_0
 have HC0_0 := gA hc0_0
 clear hr0_0 hc0_0
 have HR0_1 := gA hr0_1
 have HC0_1 := gA hc0_1
 clear hr0_1 hc0_1
 have HB := gA (Below.refl w.heap.size w)
 have H : ((triglyphref03_check.f k l0_0 l0_1 0).bind fun t319 => (some t319)) = some r := h
 clear h
 replace H := Option.bind_eq_some_iff.mp H
 obtain ⟨t319, A20, H⟩ := H
 replace H : (some t319) = some r := H
 have A2 := gA A20
 clear A20
 obtain rfl := Option.some.inj H
 go_enter Try.func21, Try.ntmps21
 go_wp2_with (first | ((with_reducible refine gate_dst (N := 1) rfl ?_); refine box_event ?hg (N := 1) ?hd (cs := #[.slice A0_0 l0_0.length c0_0, .slice A0_1 l0_1.length c0_1]) (t := 25) ?hr ?_; (case hd => rfl); (case hg => rfl); (case hr => first | (go_simp; done) | (go_simp; rfl)); intro gb318 hg w3 hbox hb; have BK318 := gA (hbox); have GW318 := gA ((by rw [hg]; exact (below_size (gB HB)) : w.heap.size ≤ gb318)); have GE318 := gA ((by rw [hg]; exact (below_size (gB HB)) : w.heap.size ≤ gb318)); replace HB := gA (below_step (gB HB) hb); clear hb hbox hg; obtain ⟨hcz4_0, hcz4_1, hfz4_0, hfz4_1⟩ := gz2 BK318) | ((with_reducible refine gate_callee (f := 45) rfl ?_); refine goesL_ (some 4) rfl rfl Try.func45 (by kernel_rfl) rfl #[.agg #[.slice A0_0 l0_0.length c0_0, .slice A0_1 l0_1.length c0_1], .int .i64 0] rfl (by (try simp only [List.map_toArray, List.map_cons, List.map_nil]); first | done | rfl | (simp only [List.length_drop, List.length_take]; rfl)) ?_; (with_reducible refine (triglyphref03_check.calls k _ _ l0_0 _ _ l0_1 0 t319 _ ?side1 ?side2 ?side3 ?side4 A2.out).mono ?_); (case side1 => exact gC HR0_0 HB); (case side2 => exact HC0_0.out); (case side3 => exact gC HR0_1 HB); (case side4 => exact HC0_1.out); rintro e w5 ⟨rfl, hb⟩; refine ⟨_, rfl, ?_⟩; replace BK318 := gA (blk_below (gK BK318) hb); replace HB := gA (below_step (gB HB) hb); (try clear hb)))
 go_ret
 exact ⟨rfl, by repeat first | exact gB HB | refine below_set ?_ GE318.out⟩
def triglyphref08_start.f (k : Nat) (a0 : Int) (l1_0 : List Int) (l1_1 : List (S43)) : Option (Int) := (triglyphref03_Check.f k l1_0 l1_1).bind fun t321 => (if t321 = 0 then (if a0 < 21 then (some 1) else (if a0 > 32 then (some 1) else (some 0))) else (some t321))
theorem triglyphref08_start.mono : ∀ a0 a1 a2 k, LeO (triglyphref08_start.f k a0 a1 a2) (triglyphref08_start.f (k + 1) a0 a1 a2) := by
 intro a0 a1 a2 k
 unfold triglyphref08_start.f
 repeat' first
   | (with_reducible exact triglyphref03_Check.mono _ _ _)
   | (with_reducible exact LeO.refl _)
   | (with_reducible exact LeO.none _)
   | (with_reducible refine LeO.ite ?_ ?_)
   | (with_reducible refine LeO.bind ?_ (fun _ => ?_))
   | exact triglyphref03_Check.mono _ _ _
set_option maxHeartbeats 8000000 in
set_option maxRecDepth 100000 in
theorem triglyphref08_start.calls (k : Nat) (a0 : Int) (A1_0 : Option Addr) (c1_0 : Nat) (l1_0 : List Int) (A1_1 : Option Addr) (c1_1 : Nat) (l1_1 : List (S43)) (r : Int) (w : World) (hr1_0 : Kd.C (Kd.int .i64) w A1_0 l1_0.length l1_0) (hc1_0 : l1_0.length ≤ c1_0) (hr1_1 : Kd.C k43 w A1_1 l1_1.length l1_1) (hc1_1 : l1_1.length ≤ c1_1) (h : triglyphref08_start.f k a0 l1_0 l1_1 = some r) :
  Calls Try.prog 34 #[.int .i64 a0, .agg #[.slice A1_0 l1_0.length c1_0, .slice A1_1 l1_1.length c1_1]] w fun e w' => e = .returned (.int .i64 r) ∧ Below w.heap.size w w' := by
 have hu25 := Try.underlying25
 have HR1_0 := gA hr1_0
 have HC1_0 := gA hc1_0
 clear hr1_0 hc1_0
 have HR1_1 := gA hr1_1
 have HC1_1 := gA hc1_1
 clear hr1_1 hc1_1
 have HB := gA (Below.refl w.heap.size w)
 have H : ((triglyphref03_Check.f k l1_0 l1_1).bind fun t321 => (if t321 = 0 then (if a0 < 21 then (some 1) else (if a0 > 32 then (some 1) else (some 0))) else (some t321))) = some r := h
 clear h
 replace H := Option.bind_eq_some_iff.mp H
 obtain ⟨t321, A30, H⟩ := H
 replace H : (if t321 = 0 then (if a0 < 21 then (some 1) else (if a0 > 32 then (some 1) else (some 0))) else (some t321)) = some r := H
 have A3 := gA A30
 clear A30
 have HC4 := gA H
 clear H
 go_enter Try.func34, Try.ntmps34
 go_upto_if 9 with (first | ((with_reducible refine gate_dst (N := 3) rfl ?_); refine box_event ?hg (N := 3) ?hd (cs := #[.slice A1_0 l1_0.length c1_0, .slice A1_1 l1_1.length c1_1]) (t := 25) ?hr ?_; (case hd => rfl); (case hg => rfl); (case hr => first | (go_simp; done) | (go_simp; rfl)); intro gb320 hg w5 hbox hb; have BK320 := gA (hbox); have GW320 := gA ((by rw [hg]; exact (below_size (gB HB)) : w.heap.size ≤ gb320)); have GE320 := gA ((by rw [hg]; exact (below_size (gB HB)) : w.heap.size ≤ gb320)); replace HB := gA (below_step (gB HB) hb); clear hb hbox hg; obtain ⟨hcz6_0, hcz6_1, hfz6_0, hfz6_1⟩ := gz2 BK320) | ((with_reducible refine gate_callee (f := 21) rfl ?_); refine goesL_ (some 7) rfl rfl Try.func21 (by kernel_rfl) rfl #[.agg #[.slice A1_0 l1_0.length c1_0, .slice A1_1 l1_1.length c1_1]] rfl (by (try simp only [List.map_toArray, List.map_cons, List.map_nil]); first | done | rfl | (simp only [List.length_drop, List.length_take]; rfl)) ?_; (with_reducible refine (triglyphref03_Check.calls k _ _ l1_0 _ _ l1_1 t321 _ ?side1 ?side2 ?side3 ?side4 A3.out).mono ?_); (case side1 => exact gC HR1_0 HB); (case side2 => exact HC1_0.out); (case side3 => exact gC HR1_1 HB); (case side4 => exact HC1_1.out); rintro e w7 ⟨rfl, hb⟩; refine ⟨_, rfl, ?_⟩; replace BK320 := gA (blk_below (gK BK320) hb); replace HB := gA (below_step (gB HB) hb); (try clear hb)))
 have H := HC4.out; clear HC4
 by_cases c8 : t321 = 0
 ·rw [if_pos c8] at H
  have c8b0 : (t321 == 0) = true := beq_iff_eq.mpr c8
  have c8b1 : (t321 != 0) = false := bne_eq_false_iff_eq.mpr c8
  clear c8
  (first | rw [c8b0] | rw [c8b1] | (simp only [i64_w, i32_w]; rw [c8b0]) | skip)
  by_cases c9 : a0 < 21
  ·rw [if_pos c9] at H
   have c9b0 := decide_eq_true c9
   clear c9
   obtain rfl := Option.some.inj H
   go_wp2
   go_ret
   exact ⟨rfl, by repeat first | exact gB HB | refine below_set ?_ GE320.out⟩
  ·rw [if_neg c9] at H
   have c9b0 := decide_eq_false c9
   clear c9
   by_cases c10 : a0 > 32
   ·rw [if_pos c10] at H
    have c10b0 : decide (32 < a0) = true := decide_eq_true c10
    clear c10
    obtain rfl := Option.some.inj H
    go_wp2
    go_ret
    exact ⟨rfl, by repeat first | exact gB HB | refine below_set ?_ GE320.out⟩
   ·rw [if_neg c10] at H
    have c10b0 : decide (32 < a0) = false := decide_eq_false c10
    clear c10
    obtain rfl := Option.some.inj H
    go_wp2
    go_ret
    exact ⟨rfl, by repeat first | exact gB HB | refine below_set ?_ GE320.out⟩
 ·rw [if_neg c8] at H
  have c8b0 : (t321 == 0) = false := beq_eq_false_iff_ne.mpr c8
  have c8b1 : (t321 != 0) = true := bne_iff_ne.mpr c8
  (first | rw [c8b0] | rw [c8b1] | (simp only [i64_w, i32_w]; rw [c8b0]) | skip)
  obtain rfl := Option.some.inj H
  go_wp2
  go_ret
  exact ⟨rfl, by repeat first | exact gB HB | refine below_set ?_ GE320.out⟩
def triglyphref04_truth.f (a0 : Bool) : Option (Int × Int × (List (S25))) := if a0 = true then (some (0, 1, ([] : List (S25)))) else (some (0, 0, ([] : List (S25))))
set_option maxHeartbeats 8000000 in
set_option maxRecDepth 100000 in
theorem triglyphref04_truth.calls (a0 : Bool) (r1 : Int) (r2 : Int) (r3 : List (S25)) (w : World) (h : triglyphref04_truth.f a0 = some (r1, r2, r3)) :
  Calls Try.prog 46 #[.bool a0] w fun e w' => ∃ v2_ : Value, e = .returned (.agg #[.int .i64 r1, .int .i64 r2, v2_]) ∧ Kd.R k25 25 w' w.heap.size (fun _ => True) v2_ r3 ∧ Below w.heap.size w w' := by
 have hu43 := Try.underlying43
 have HB := gA (Below.refl w.heap.size w)
 have H : (if a0 = true then (some (0, 1, ([] : List (S25)))) else (some (0, 0, ([] : List (S25))))) = some (r1, r2, r3) := h
 clear h
 by_cases c2 : a0 = true
 ·subst c2
  have H1 : (some (0, 1, ([] : List (S25)))) = some (r1, r2, r3) := by rw [if_pos rfl] at H; exact H
  clear H; have H := H1; clear H1
  simp only [Option.some.injEq, Prod.mk.injEq] at H
  obtain ⟨rfl, rfl, rfl⟩ := H
  go_enter Try.func46, Try.ntmps46
  go_wp2_with (first | ((with_reducible refine gate_dst (N := 2) rfl ?_); refine box_event ?hg (N := 2) ?hd (cs := #[.int .i64 0, .int .i64 0, .slice none 0 0]) (t := 43) ?hr ?_; (case hd => rfl); (case hg => rfl); (case hr => first | (go_simp; done) | (go_simp; rfl)); intro gb322 hg w3 hbox hb; have BK322 := gA (hbox); have GW322 := gA ((by rw [hg]; exact (below_size (gB HB)) : w.heap.size ≤ gb322)); have GE322 := gA ((by rw [hg]; exact (below_size (gB HB)) : w.heap.size ≤ gb322)); replace HB := gA (below_step (gB HB) hb); clear hb hbox hg; obtain ⟨hcz4_0, hcz4_1, hcz4_2, hfz4_0, hfz4_1, hfz4_2⟩ := gz3 BK322))
  refine bodyPost_ret (results_cell_row rfl _ _ gb322 43 #[.int .i64 0, .int .i64 1, .slice none 0 0] (0, 0) _ rfl (by refine blk_put (cs := #[.int .i64 0, .int .i64 1, .slice none 0 0]) ?_ 2 _ rfl; refine blk_put (cs := #[.int .i64 0, .int .i64 0, .slice none 0 0]) ?_ 1 _ rfl; refine blk_put (cs := #[.int .i64 0, .int .i64 0, .slice none 0 0]) ?_ 0 _ rfl; exact gK BK322) Try.underlying43 rfl (by kernel_rfl)) rfl ?_
  exact ⟨_, rfl, by first | exact Kd.R_nil _ _ _ _ _ | exact Kd.N_nil _ _ _ _ _ | exact Kd.V_nil _ _ _ _ _ | exact Kd.Q_nil _ _ _ _ _ | exact Kd.S_nil _ _ _ _ _, by repeat first | exact gB HB | refine below_set ?_ GE322.out⟩
 ·replace c2 := Bool.eq_false_iff.mpr c2
  subst c2
  have H1 : (some (0, 0, ([] : List (S25)))) = some (r1, r2, r3) := by rw [if_neg (show ¬ (false = true) by decide)] at H; exact H
  clear H; have H := H1; clear H1
  simp only [Option.some.injEq, Prod.mk.injEq] at H
  obtain ⟨rfl, rfl, rfl⟩ := H
  go_enter Try.func46, Try.ntmps46
  go_wp2_with (first | ((with_reducible refine gate_dst (N := 2) rfl ?_); refine box_event ?hg (N := 2) ?hd (cs := #[.int .i64 0, .int .i64 0, .slice none 0 0]) (t := 43) ?hr ?_; (case hd => rfl); (case hg => rfl); (case hr => first | (go_simp; done) | (go_simp; rfl)); intro gb322 hg w5 hbox hb; have BK322 := gA (hbox); have GW322 := gA ((by rw [hg]; exact (below_size (gB HB)) : w.heap.size ≤ gb322)); have GE322 := gA ((by rw [hg]; exact (below_size (gB HB)) : w.heap.size ≤ gb322)); replace HB := gA (below_step (gB HB) hb); clear hb hbox hg; obtain ⟨hcz6_0, hcz6_1, hcz6_2, hfz6_0, hfz6_1, hfz6_2⟩ := gz3 BK322))
  refine bodyPost_ret (results_cell_row rfl _ _ gb322 43 #[.int .i64 0, .int .i64 0, .slice none 0 0] (0, 0) _ rfl (by refine blk_put (cs := #[.int .i64 0, .int .i64 0, .slice none 0 0]) ?_ 2 _ rfl; refine blk_put (cs := #[.int .i64 0, .int .i64 0, .slice none 0 0]) ?_ 1 _ rfl; refine blk_put (cs := #[.int .i64 0, .int .i64 0, .slice none 0 0]) ?_ 0 _ rfl; exact gK BK322) Try.underlying43 rfl (by kernel_rfl)) rfl ?_
  exact ⟨_, rfl, by first | exact Kd.R_nil _ _ _ _ _ | exact Kd.N_nil _ _ _ _ _ | exact Kd.V_nil _ _ _ _ _ | exact Kd.Q_nil _ _ _ _ _ | exact Kd.S_nil _ _ _ _ _, by repeat first | exact gB HB | refine below_set ?_ GE322.out⟩
def triglyphref01_wide.f (a0 : Int) : Option (Int × Int) := if (Int.tmod a0 4294967296) < 0 then (some (wrap64 (Int.tdiv (wrap64 (a0 - (wrap64 ((Int.tmod a0 4294967296) + 4294967296)))) 4294967296), wrap64 ((Int.tmod a0 4294967296) + 4294967296))) else (some (wrap64 (Int.tdiv (wrap64 (a0 - (Int.tmod a0 4294967296))) 4294967296), Int.tmod a0 4294967296))
set_option maxHeartbeats 8000000 in
set_option maxRecDepth 100000 in
theorem triglyphref01_wide.calls (a0 : Int) (r1 : Int) (r2 : Int) (w : World) (h : triglyphref01_wide.f a0 = some (r1, r2)) :
  Calls Try.prog 76 #[.int .i64 a0] w fun e w' => e = .returned (.agg #[.int .i64 r1, .int .i64 r2]) ∧ Below w.heap.size w w' := by
 have hu97 := Try.underlying97
 have HB := gA (Below.refl w.heap.size w)
 have H : (if (Int.tmod a0 4294967296) < 0 then (some (wrap64 (Int.tdiv (wrap64 (a0 - (wrap64 ((Int.tmod a0 4294967296) + 4294967296)))) 4294967296), wrap64 ((Int.tmod a0 4294967296) + 4294967296))) else (some (wrap64 (Int.tdiv (wrap64 (a0 - (Int.tmod a0 4294967296))) 4294967296), Int.tmod a0 4294967296))) = some (r1, r2) := h
 clear h
 by_cases c2 : (Int.tmod a0 4294967296) < 0
 ·rw [if_pos c2] at H
  have c2b0 := decide_eq_true c2
  clear c2
  simp only [Option.some.injEq, Prod.mk.injEq] at H
  obtain ⟨rfl, rfl⟩ := H
  go_enter Try.func76, Try.ntmps76
  go_wp2_with (first | ((with_reducible refine gate_dst (N := 2) rfl ?_); refine box_event ?hg (N := 2) ?hd (cs := #[.int .i64 0, .int .i64 0]) (t := 97) ?hr ?_; (case hd => rfl); (case hg => rfl); (case hr => first | (go_simp; done) | (go_simp; rfl)); intro gb323 hg w3 hbox hb; have BK323 := gA (hbox); have GW323 := gA ((by rw [hg]; exact (below_size (gB HB)) : w.heap.size ≤ gb323)); have GE323 := gA ((by rw [hg]; exact (below_size (gB HB)) : w.heap.size ≤ gb323)); replace HB := gA (below_step (gB HB) hb); clear hb hbox hg; obtain ⟨hcz4_0, hcz4_1, hfz4_0, hfz4_1⟩ := gz2 BK323))
  refine bodyPost_ret (results_cell_row rfl _ _ gb323 97 #[.int .i64 (wrap64 (Int.tdiv (wrap64 (a0 - (wrap64 ((Int.tmod a0 4294967296) + 4294967296)))) 4294967296)), .int .i64 (wrap64 ((Int.tmod a0 4294967296) + 4294967296))] (0, 0) _ rfl (by refine blk_put (cs := #[.int .i64 (wrap64 (Int.tdiv (wrap64 (a0 - (wrap64 ((Int.tmod a0 4294967296) + 4294967296)))) 4294967296)), .int .i64 0]) ?_ 1 _ rfl; refine blk_put (cs := #[.int .i64 0, .int .i64 0]) ?_ 0 _ rfl; exact gK BK323) Try.underlying97 rfl (by kernel_rfl)) rfl ?_
  exact ⟨rfl, by repeat first | exact gB HB | refine below_set ?_ GE323.out⟩
 ·rw [if_neg c2] at H
  have c2b0 := decide_eq_false c2
  clear c2
  simp only [Option.some.injEq, Prod.mk.injEq] at H
  obtain ⟨rfl, rfl⟩ := H
  go_enter Try.func76, Try.ntmps76
  go_wp2_with (first | ((with_reducible refine gate_dst (N := 2) rfl ?_); refine box_event ?hg (N := 2) ?hd (cs := #[.int .i64 0, .int .i64 0]) (t := 97) ?hr ?_; (case hd => rfl); (case hg => rfl); (case hr => first | (go_simp; done) | (go_simp; rfl)); intro gb323 hg w5 hbox hb; have BK323 := gA (hbox); have GW323 := gA ((by rw [hg]; exact (below_size (gB HB)) : w.heap.size ≤ gb323)); have GE323 := gA ((by rw [hg]; exact (below_size (gB HB)) : w.heap.size ≤ gb323)); replace HB := gA (below_step (gB HB) hb); clear hb hbox hg; obtain ⟨hcz6_0, hcz6_1, hfz6_0, hfz6_1⟩ := gz2 BK323))
  refine bodyPost_ret (results_cell_row rfl _ _ gb323 97 #[.int .i64 (wrap64 (Int.tdiv (wrap64 (a0 - (Int.tmod a0 4294967296))) 4294967296)), .int .i64 (Int.tmod a0 4294967296)] (0, 0) _ rfl (by refine blk_put (cs := #[.int .i64 (wrap64 (Int.tdiv (wrap64 (a0 - (Int.tmod a0 4294967296))) 4294967296)), .int .i64 0]) ?_ 1 _ rfl; refine blk_put (cs := #[.int .i64 0, .int .i64 0]) ?_ 0 _ rfl; exact gK BK323) Try.underlying97 rfl (by kernel_rfl)) rfl ?_
  exact ⟨rfl, by repeat first | exact gB HB | refine below_set ?_ GE323.out⟩
def triglyphref01_wide0.f (a0 : Int) : Option (Int × Int) := if a0 ≥ 0 then (some (wrap64 (Int.tdiv a0 4294967296), Int.tmod a0 4294967296)) else (if a0 = (-9223372036854775808) then (some ((-2147483648), 0)) else ((triglyphref01_wide.f a0).bind fun bt325 => (some (bt325.1, bt325.2))))
set_option maxHeartbeats 8000000 in
set_option maxRecDepth 100000 in
theorem triglyphref01_wide0.calls (a0 : Int) (r1 : Int) (r2 : Int) (w : World) (h : triglyphref01_wide0.f a0 = some (r1, r2)) :
  Calls Try.prog 69 #[.int .i64 a0] w fun e w' => e = .returned (.agg #[.int .i64 r1, .int .i64 r2]) ∧ Below w.heap.size w w' := by
 have hu97 := Try.underlying97
 have HB := gA (Below.refl w.heap.size w)
 have H : (if a0 ≥ 0 then (some (wrap64 (Int.tdiv a0 4294967296), Int.tmod a0 4294967296)) else (if a0 = (-9223372036854775808) then (some ((-2147483648), 0)) else ((triglyphref01_wide.f a0).bind fun bt325 => (some (bt325.1, bt325.2))))) = some (r1, r2) := h
 clear h
 by_cases c2 : a0 ≥ 0
 ·rw [if_pos c2] at H
  have c2b0 : decide (0 ≤ a0) = true := decide_eq_true c2
  clear c2
  simp only [Option.some.injEq, Prod.mk.injEq] at H
  obtain ⟨rfl, rfl⟩ := H
  go_enter Try.func69, Try.ntmps69
  go_wp2_with (first | ((with_reducible refine gate_dst (N := 2) rfl ?_); refine box_event ?hg (N := 2) ?hd (cs := #[.int .i64 0, .int .i64 0]) (t := 97) ?hr ?_; (case hd => rfl); (case hg => rfl); (case hr => first | (go_simp; done) | (go_simp; rfl)); intro gb324 hg w3 hbox hb; have BK324 := gA (hbox); have GW324 := gA ((by rw [hg]; exact (below_size (gB HB)) : w.heap.size ≤ gb324)); have GE324 := gA ((by rw [hg]; exact (below_size (gB HB)) : w.heap.size ≤ gb324)); replace HB := gA (below_step (gB HB) hb); clear hb hbox hg; obtain ⟨hcz4_0, hcz4_1, hfz4_0, hfz4_1⟩ := gz2 BK324))
  refine bodyPost_ret (results_cell_row rfl _ _ gb324 97 #[.int .i64 (wrap64 (Int.tdiv a0 4294967296)), .int .i64 (Int.tmod a0 4294967296)] (0, 0) _ rfl (by refine blk_put (cs := #[.int .i64 (wrap64 (Int.tdiv a0 4294967296)), .int .i64 0]) ?_ 1 _ rfl; refine blk_put (cs := #[.int .i64 0, .int .i64 0]) ?_ 0 _ rfl; exact gK BK324) Try.underlying97 rfl (by kernel_rfl)) rfl ?_
  exact ⟨rfl, by repeat first | exact gB HB | refine below_set ?_ GE324.out⟩
 ·rw [if_neg c2] at H
  have c2b0 : decide (0 ≤ a0) = false := decide_eq_false c2
  clear c2
  by_cases c5 : a0 = (-9223372036854775808)
  ·rw [if_pos c5] at H
   have c5b0 : (a0 == (-9223372036854775808)) = true := beq_iff_eq.mpr c5
   have c5b1 : (a0 != (-9223372036854775808)) = false := bne_eq_false_iff_eq.mpr c5
   clear c5
   simp only [Option.some.injEq, Prod.mk.injEq] at H
   obtain ⟨rfl, rfl⟩ := H
   go_enter Try.func69, Try.ntmps69
   go_wp2_with (first | ((with_reducible refine gate_dst (N := 2) rfl ?_); refine box_event ?hg (N := 2) ?hd (cs := #[.int .i64 0, .int .i64 0]) (t := 97) ?hr ?_; (case hd => rfl); (case hg => rfl); (case hr => first | (go_simp; done) | (go_simp; rfl)); intro gb324 hg w6 hbox hb; have BK324 := gA (hbox); have GW324 := gA ((by rw [hg]; exact (below_size (gB HB)) : w.heap.size ≤ gb324)); have GE324 := gA ((by rw [hg]; exact (below_size (gB HB)) : w.heap.size ≤ gb324)); replace HB := gA (below_step (gB HB) hb); clear hb hbox hg; obtain ⟨hcz7_0, hcz7_1, hfz7_0, hfz7_1⟩ := gz2 BK324))
   refine bodyPost_ret (results_cell_row rfl _ _ gb324 97 #[.int .i64 (-2147483648), .int .i64 0] (0, 0) _ rfl (by refine blk_put (cs := #[.int .i64 (-2147483648), .int .i64 0]) ?_ 1 _ rfl; refine blk_put (cs := #[.int .i64 0, .int .i64 0]) ?_ 0 _ rfl; exact gK BK324) Try.underlying97 rfl (by kernel_rfl)) rfl ?_
   exact ⟨rfl, by repeat first | exact gB HB | refine below_set ?_ GE324.out⟩
  ·rw [if_neg c5] at H
   have c5b0 : (a0 == (-9223372036854775808)) = false := beq_eq_false_iff_ne.mpr c5
   have c5b1 : (a0 != (-9223372036854775808)) = true := bne_iff_ne.mpr c5
   replace H := Option.bind_eq_some_iff.mp H
   obtain ⟨⟨t325, t326⟩, A80, H⟩ := H
   replace H : (some (t325, t326)) = some (r1, r2) := H
   have A8 := gA A80
   clear A80
   simp only [Option.some.injEq, Prod.mk.injEq] at H
   obtain ⟨rfl, rfl⟩ := H
   go_enter Try.func69, Try.ntmps69
   go_wp2_with (first | ((with_reducible refine gate_dst (N := 2) rfl ?_); refine box_event ?hg (N := 2) ?hd (cs := #[.int .i64 0, .int .i64 0]) (t := 97) ?hr ?_; (case hd => rfl); (case hg => rfl); (case hr => first | (go_simp; done) | (go_simp; rfl)); intro gb324 hg w9 hbox hb; have BK324 := gA (hbox); have GW324 := gA ((by rw [hg]; exact (below_size (gB HB)) : w.heap.size ≤ gb324)); have GE324 := gA ((by rw [hg]; exact (below_size (gB HB)) : w.heap.size ≤ gb324)); replace HB := gA (below_step (gB HB) hb); clear hb hbox hg) | ((with_reducible refine gate_callee (f := 76) rfl ?_); refine goesL_ (some 14) rfl rfl Try.func76 (by kernel_rfl) rfl #[.int .i64 a0] rfl (by (try simp only [List.map_toArray, List.map_cons, List.map_nil]); first | done | rfl | (simp only [List.length_drop, List.length_take]; rfl)) ?_; (with_reducible refine (triglyphref01_wide.calls a0 t325 t326 _ A8.out).mono ?_); rintro e w10 ⟨rfl, hb⟩; refine ⟨_, rfl, ?_⟩; replace BK324 := gA (blk_below (gK BK324) hb); replace HB := gA (below_step (gB HB) hb); (try clear hb); obtain ⟨hcz11_0, hcz11_1, hfz11_0, hfz11_1⟩ := gz2 BK324))
   refine bodyPost_ret (results_cell_row rfl _ _ gb324 97 #[.int .i64 t325, .int .i64 t326] (0, 0) _ rfl (by refine blk_put (cs := #[.int .i64 t325, .int .i64 0]) ?_ 1 _ rfl; refine blk_put (cs := #[.int .i64 0, .int .i64 0]) ?_ 0 _ rfl; exact gK BK324) Try.underlying97 rfl (by kernel_rfl)) rfl ?_
   exact ⟨rfl, by repeat first | exact gB HB | refine below_set ?_ GE324.out⟩
def triglyphref01_fits.f (a0_0 : Int) (a0_1 : Int) : Option (Int × Int) := if a0_0 < (-2147483648) then (some (0, 9)) else (if a0_0 > 2147483647 then (some (0, 9)) else (some (wrap64 ((wrap64 (a0_0 * 4294967296)) + a0_1), 0)))
set_option maxHeartbeats 8000000 in
set_option maxRecDepth 100000 in
theorem triglyphref01_fits.calls (a0_0 : Int) (a0_1 : Int) (r1 : Int) (r2 : Int) (w : World) (h : triglyphref01_fits.f a0_0 a0_1 = some (r1, r2)) :
  Calls Try.prog 70 #[.agg #[.int .i64 a0_0, .int .i64 a0_1]] w fun e w' => e = .returned (.tuple #[.int .i64 r1, .int .i64 r2]) ∧ Below w.heap.size w w' := by
 have hu97 := Try.underlying97
 have HB := gA (Below.refl w.heap.size w)
 have H : (if a0_0 < (-2147483648) then (some (0, 9)) else (if a0_0 > 2147483647 then (some (0, 9)) else (some (wrap64 ((wrap64 (a0_0 * 4294967296)) + a0_1), 0)))) = some (r1, r2) := h
 clear h
 by_cases c2 : a0_0 < (-2147483648)
 ·rw [if_pos c2] at H
  have c2b0 := decide_eq_true c2
  clear c2
  simp only [Option.some.injEq, Prod.mk.injEq] at H
  obtain ⟨rfl, rfl⟩ := H
  go_enter Try.func70, Try.ntmps70
  go_wp2_with (first | ((with_reducible refine gate_dst (N := 1) rfl ?_); refine box_event ?hg (N := 1) ?hd (cs := #[.int .i64 a0_0, .int .i64 a0_1]) (t := 97) ?hr ?_; (case hd => rfl); (case hg => rfl); (case hr => first | (go_simp; done) | (go_simp; rfl)); intro gb327 hg w3 hbox hb; have BK327 := gA (hbox); have GW327 := gA ((by rw [hg]; exact (below_size (gB HB)) : w.heap.size ≤ gb327)); have GE327 := gA ((by rw [hg]; exact (below_size (gB HB)) : w.heap.size ≤ gb327)); replace HB := gA (below_step (gB HB) hb); clear hb hbox hg; obtain ⟨hcz4_0, hcz4_1, hfz4_0, hfz4_1⟩ := gz2 BK327))
  go_ret2
  exact ⟨rfl, by repeat first | exact gB HB | refine below_set ?_ GE327.out⟩
 ·rw [if_neg c2] at H
  have c2b0 := decide_eq_false c2
  clear c2
  by_cases c5 : a0_0 > 2147483647
  ·rw [if_pos c5] at H
   have c5b0 : decide (2147483647 < a0_0) = true := decide_eq_true c5
   clear c5
   simp only [Option.some.injEq, Prod.mk.injEq] at H
   obtain ⟨rfl, rfl⟩ := H
   go_enter Try.func70, Try.ntmps70
   go_wp2_with (first | ((with_reducible refine gate_dst (N := 1) rfl ?_); refine box_event ?hg (N := 1) ?hd (cs := #[.int .i64 a0_0, .int .i64 a0_1]) (t := 97) ?hr ?_; (case hd => rfl); (case hg => rfl); (case hr => first | (go_simp; done) | (go_simp; rfl)); intro gb327 hg w6 hbox hb; have BK327 := gA (hbox); have GW327 := gA ((by rw [hg]; exact (below_size (gB HB)) : w.heap.size ≤ gb327)); have GE327 := gA ((by rw [hg]; exact (below_size (gB HB)) : w.heap.size ≤ gb327)); replace HB := gA (below_step (gB HB) hb); clear hb hbox hg; obtain ⟨hcz7_0, hcz7_1, hfz7_0, hfz7_1⟩ := gz2 BK327))
   go_ret2
   exact ⟨rfl, by repeat first | exact gB HB | refine below_set ?_ GE327.out⟩
  ·rw [if_neg c5] at H
   have c5b0 : decide (2147483647 < a0_0) = false := decide_eq_false c5
   clear c5
   simp only [Option.some.injEq, Prod.mk.injEq] at H
   obtain ⟨rfl, rfl⟩ := H
   go_enter Try.func70, Try.ntmps70
   go_wp2_with (first | ((with_reducible refine gate_dst (N := 1) rfl ?_); refine box_event ?hg (N := 1) ?hd (cs := #[.int .i64 a0_0, .int .i64 a0_1]) (t := 97) ?hr ?_; (case hd => rfl); (case hg => rfl); (case hr => first | (go_simp; done) | (go_simp; rfl)); intro gb327 hg w8 hbox hb; have BK327 := gA (hbox); have GW327 := gA ((by rw [hg]; exact (below_size (gB HB)) : w.heap.size ≤ gb327)); have GE327 := gA ((by rw [hg]; exact (below_size (gB HB)) : w.heap.size ≤ gb327)); replace HB := gA (below_step (gB HB) hb); clear hb hbox hg; obtain ⟨hcz9_0, hcz9_1, hfz9_0, hfz9_1⟩ := gz2 BK327))
   go_ret2
   exact ⟨rfl, by repeat first | exact gB HB | refine below_set ?_ GE327.out⟩
end Go.Proofs.Ytahgfebdjjfkhaa.P
