/- Written by a program of this session: the functions that the laws reach, what each comes to, and each law as it is stated, for every input. No condition. -/
import Derived.Test.YtdihmempaonfjaaPx0
import Derived.Test.YtdihmempaonfjaaPx11
namespace Go.Proofs.Ytdihmempaonfjaa.P
open Go.RowKit Go.Proofs.YtdihmempaonfjaaW.PrintWords Go.Proofs.YtdihmempaonfjaaW.PrintLast Go.Proofs.YtdihmempaonfjaaW.PrintMore
attribute [local go_sem] max2_int min2_int max_two min_two max_three min_three max_four min_four   -- for this text's walks alone
set_option linter.unusedVariables false
set_option linter.unusedSimpArgs false
mutual
def triglyphref03_cell.j0 : Nat → Int → Bool → Int → Int → List (S25) → Option (Int)
 | 0, _, _, _, _, _ => none
 | k + 1, x1, x18, x414000, x414001, x414002 => if x18 = true then (if x1 = 8 then (some 15) else (if 0 < (x414002.length : Int) then ((triglyphref03_check.f k ((rd_T25 x414002 0).f0) ((rd_T25 x414002 0).f1) (wrap64 (x1 + 1))).bind fun t415 => (some t415)) else (none))) else (if (x414002.length : Int) > 0 then (some 1) else (if x414000 = 0 then (some 0) else (if x414000 = 1 then ((triglyphref02_Good.f x414001).bind fun t416 => (if t416 = true then (some 0) else (some 1))) else (some 1))))
def triglyphref03_cell.f : Nat → Int → Int → List (S25) → Int → Option (Int)
 | 0, _, _, _, _ => none
 | k + 1, a0_0, a0_1, l0_2, a1 => if a0_0 = 2 then (if a0_1 = 0 then (triglyphref03_cell.j0 k a1 ((l0_2.length : Int) == 1) a0_0 a0_1 l0_2) else (triglyphref03_cell.j0 k a1 false a0_0 a0_1 l0_2)) else (triglyphref03_cell.j0 k a1 false a0_0 a0_1 l0_2)
def triglyphref03_check.l0 : Nat → Int → Int → List Int → List (S45) → Option (Int)
 | 0, _, _, _, _ => none
 | k + 1, x1, x7, x418000, x418001 => if x7 < (x418000.length : Int) then (if 0 ≤ x7 then (if (rd x418000 x7) > 16384 then (some 12) else (triglyphref03_check.l0 k x1 (wrap64 (x7 + 1)) x418000 x418001)) else (none)) else (triglyphref03_check.l1 k x1 0 x418000 x418001)
def triglyphref03_check.l1 : Nat → Int → Int → List Int → List (S45) → Option (Int)
 | 0, _, _, _, _ => none
 | k + 1, x1, x8, x418000, x418001 => if x8 < (x418001.length : Int) then (if 0 ≤ x8 then ((triglyphref03_cell.f k ((rd_T45 x418001 x8).f0) ((rd_T45 x418001 x8).f1) ((rd_T45 x418001 x8).f2) x1).bind fun t422 => (if t422 = 0 then (triglyphref03_check.l1 k x1 (wrap64 (x8 + 1)) x418000 x418001) else (some t422))) else (none)) else (some 0)
def triglyphref03_check.f : Nat → List Int → List (S45) → Int → Option (Int)
 | 0, _, _, _ => none
 | k + 1, l0_0, l0_1, a1 => (triglyphref03_Size.f k l0_0).bind fun bt418 => (if bt418.2 = 0 then (if bt418.1 = (l0_1.length : Int) then (triglyphref03_check.l0 k a1 0 l0_0 l0_1) else (some 1)) else (some bt418.2))
end
theorem scc58.mono_l : ∀ k, (∀ y0 y1 y2 y3, LeO (triglyphref03_cell.f k y0 y1 y2 y3) (triglyphref03_cell.f (k + 1) y0 y1 y2 y3)) ∧ (∀ y0 y1 y2 y3 y4, LeO (triglyphref03_cell.j0 k y0 y1 y2 y3 y4) (triglyphref03_cell.j0 (k + 1) y0 y1 y2 y3 y4)) ∧ (∀ y0 y1 y2, LeO (triglyphref03_check.f k y0 y1 y2) (triglyphref03_check.f (k + 1) y0 y1 y2)) ∧ (∀ y0 y1 y2 y3, LeO (triglyphref03_check.l0 k y0 y1 y2 y3) (triglyphref03_check.l0 (k + 1) y0 y1 y2 y3)) ∧ (∀ y0 y1 y2 y3, LeO (triglyphref03_check.l1 k y0 y1 y2 y3) (triglyphref03_check.l1 (k + 1) y0 y1 y2 y3))
 | 0 => ⟨fun _ _ _ _ r h => by simp [triglyphref03_cell.f] at h, fun _ _ _ _ _ r h => by simp [triglyphref03_cell.j0] at h, fun _ _ _ r h => by simp [triglyphref03_check.f] at h, fun _ _ _ _ r h => by simp [triglyphref03_check.l0] at h, fun _ _ _ _ r h => by simp [triglyphref03_check.l1] at h⟩
 | k + 1 => by
  obtain ⟨ih0, ih1, ih2, ih3, ih4⟩ := scc58.mono_l k
  refine ⟨?_, ?_, ?_, ?_, ?_⟩
  ·intro y0 y1 y2 y3
   unfold triglyphref03_cell.f
   repeat' first
   | (with_reducible exact ih0 _ _ _ _)
   | (with_reducible exact ih1 _ _ _ _ _)
   | (with_reducible exact ih2 _ _ _)
   | (with_reducible exact ih3 _ _ _ _)
   | (with_reducible exact ih4 _ _ _ _)
   | (with_reducible exact triglyphref03_Size.mono _ _)
   | (with_reducible exact LeO.refl _)
   | (with_reducible exact LeO.none _)
   | (with_reducible refine LeO.ite ?_ ?_)
   | (with_reducible refine LeO.bind ?_ (fun _ => ?_))





   | exact triglyphref03_Size.mono _ _



  ·intro y0 y1 y2 y3 y4
   unfold triglyphref03_cell.j0
   repeat' first
   | (with_reducible exact ih0 _ _ _ _)
   | (with_reducible exact ih1 _ _ _ _ _)
   | (with_reducible exact ih2 _ _ _)
   | (with_reducible exact ih3 _ _ _ _)
   | (with_reducible exact ih4 _ _ _ _)
   | (with_reducible exact triglyphref03_Size.mono _ _)
   | (with_reducible exact LeO.refl _)
   | (with_reducible exact LeO.none _)
   | (with_reducible refine LeO.ite ?_ ?_)
   | (with_reducible refine LeO.bind ?_ (fun _ => ?_))





   | exact triglyphref03_Size.mono _ _



  ·intro y0 y1 y2
   unfold triglyphref03_check.f
   repeat' first
   | (with_reducible exact ih0 _ _ _ _)
   | (with_reducible exact ih1 _ _ _ _ _)
   | (with_reducible exact ih2 _ _ _)
   | (with_reducible exact ih3 _ _ _ _)
   | (with_reducible exact ih4 _ _ _ _)
   | (with_reducible exact triglyphref03_Size.mono _ _)
   | (with_reducible exact LeO.refl _)
   | (with_reducible exact LeO.none _)
   | (with_reducible refine LeO.ite ?_ ?_)
   | (with_reducible refine LeO.bind ?_ (fun _ => ?_))





   | exact triglyphref03_Size.mono _ _



  ·intro y0 y1 y2 y3
   unfold triglyphref03_check.l0
   repeat' first
   | (with_reducible exact ih0 _ _ _ _)
   | (with_reducible exact ih1 _ _ _ _ _)
   | (with_reducible exact ih2 _ _ _)
   | (with_reducible exact ih3 _ _ _ _)
   | (with_reducible exact ih4 _ _ _ _)
   | (with_reducible exact triglyphref03_Size.mono _ _)
   | (with_reducible exact LeO.refl _)
   | (with_reducible exact LeO.none _)
   | (with_reducible refine LeO.ite ?_ ?_)
   | (with_reducible refine LeO.bind ?_ (fun _ => ?_))





   | exact triglyphref03_Size.mono _ _



  ·intro y0 y1 y2 y3
   unfold triglyphref03_check.l1
   repeat' first
   | (with_reducible exact ih0 _ _ _ _)
   | (with_reducible exact ih1 _ _ _ _ _)
   | (with_reducible exact ih2 _ _ _)
   | (with_reducible exact ih3 _ _ _ _)
   | (with_reducible exact ih4 _ _ _ _)
   | (with_reducible exact triglyphref03_Size.mono _ _)
   | (with_reducible exact LeO.refl _)
   | (with_reducible exact LeO.none _)
   | (with_reducible refine LeO.ite ?_ ?_)
   | (with_reducible refine LeO.bind ?_ (fun _ => ?_))





   | exact triglyphref03_Size.mono _ _
theorem triglyphref03_cell.mono : ∀ a0 a1 a2 a3 k, LeO (triglyphref03_cell.f k a0 a1 a2 a3) (triglyphref03_cell.f (k + 1) a0 a1 a2 a3) := by
 intro a0 a1 a2 a3 k
 obtain ⟨ih0, ih1, ih2, ih3, ih4⟩ := scc58.mono_l k
 exact ih0 a0 a1 a2 a3
theorem triglyphref03_check.mono : ∀ a0 a1 a2 k, LeO (triglyphref03_check.f k a0 a1 a2) (triglyphref03_check.f (k + 1) a0 a1 a2) := by
 intro a0 a1 a2 k
 obtain ⟨ih0, ih1, ih2, ih3, ih4⟩ := scc58.mono_l k
 exact ih2 a0 a1 a2
set_option maxHeartbeats 8000000 in
set_option maxRecDepth 100000 in
theorem triglyphref03_cell.step (k : Nat) (ih : ∀ k_, k_ < k → ∀ (a0_0 : Int) (a0_1 : Int) (A0_2 : Option Addr) (c0_2 : Nat) (l0_2 : List (S25)) (a1 : Int) (r : Int) (w : World) (hr0_2 : Kd.C k25 w A0_2 l0_2.length l0_2) (hc0_2 : l0_2.length ≤ c0_2) (h : triglyphref03_cell.f k_ a0_0 a0_1 l0_2 a1 = some r),
  Calls Try.prog 58 #[.agg #[.int .i64 a0_0, .int .i64 a0_1, .slice A0_2 l0_2.length c0_2], .int .i64 a1] w fun e w' => e = .returned (.int .i64 r) ∧ Below w.heap.size w w') (ih_triglyphref03_check : ∀ k_, k_ < k → ∀ (A0_0 : Option Addr) (c0_0 : Nat) (l0_0 : List Int) (A0_1 : Option Addr) (c0_1 : Nat) (l0_1 : List (S45)) (a1 : Int) (r : Int) (w : World) (hr0_0 : Kd.C (Kd.int .i64) w A0_0 l0_0.length l0_0) (hc0_0 : l0_0.length ≤ c0_0) (hr0_1 : Kd.C k45 w A0_1 l0_1.length l0_1) (hc0_1 : l0_1.length ≤ c0_1) (h : triglyphref03_check.f k_ l0_0 l0_1 a1 = some r),
  Calls Try.prog 36 #[.agg #[.slice A0_0 l0_0.length c0_0, .slice A0_1 l0_1.length c0_1], .int .i64 a1] w fun e w' => e = .returned (.int .i64 r) ∧ Below w.heap.size w w') : ∀ (a0_0 : Int) (a0_1 : Int) (A0_2 : Option Addr) (c0_2 : Nat) (l0_2 : List (S25)) (a1 : Int) (r : Int) (w : World) (hr0_2 : Kd.C k25 w A0_2 l0_2.length l0_2) (hc0_2 : l0_2.length ≤ c0_2) (h : triglyphref03_cell.f k a0_0 a0_1 l0_2 a1 = some r),
  Calls Try.prog 58 #[.agg #[.int .i64 a0_0, .int .i64 a0_1, .slice A0_2 l0_2.length c0_2], .int .i64 a1] w fun e w' => e = .returned (.int .i64 r) ∧ Below w.heap.size w w' := by
 intro a0_0 a0_1 A0_2 c0_2 l0_2 a1 r w hr0_2 hc0_2 h
 cases k with
 | zero => exact absurd h (by simp [triglyphref03_cell.f])
 | succ k =>
 simp only [triglyphref03_cell.f] at h
 have hu45 := Try.underlying45
 have hu25 := Try.underlying25
 have HR0_2 := gA hr0_2
 have HC0_2 := gA hc0_2
 clear hr0_2 hc0_2
 have HB := gA (Below.refl w.heap.size w)
 have H : (if a0_0 = 2 then (if a0_1 = 0 then (triglyphref03_cell.j0 k a1 ((l0_2.length : Int) == 1) a0_0 a0_1 l0_2) else (triglyphref03_cell.j0 k a1 false a0_0 a0_1 l0_2)) else (triglyphref03_cell.j0 k a1 false a0_0 a0_1 l0_2)) = some r := h
 clear h
 have HC3 := gA H
 clear H
 go_enter Try.func58, Try.ntmps58
 go_upto_region 1 with (first | ((with_reducible refine gate_dst (N := 2) rfl ?_); (try (refine gate_guard (by rfl) ?_; dsimp only)); refine box_event ?hg (N := 2) ?hd (cs := #[.int .i64 a0_0, .int .i64 a0_1, .slice A0_2 l0_2.length c0_2]) (t := 45) ?hr ?_; (case hd => rfl); (case hg => rfl); (case hr => first | (go_simp; done) | (go_simp; rfl)); intro gb413 hg w4 hbox hb; have BK413 := gA (hbox); have GW413 := gA ((by rw [hg]; exact (below_size (gB HB)) : w.heap.size ≤ gb413)); have GE413 := gA ((by rw [hg]; exact (below_size (gB HB)) : w.heap.size ≤ gb413)); replace HB := gA (below_step (gB HB) hb); clear hb hbox hg))
 (try simp only [Act.put, List.setIfInBounds_toArray, List.set_cons_zero, List.set_cons_succ])
 go_cut [18] (fun v18 wc => ∃ (kq : Nat) (x18_2 : Bool), v18 = .bool x18_2 ∧ Aside0 (triglyphref03_cell.j0 kq a1 x18_2 a0_0 a0_1 l0_2 = some r) ∧ Aside0 (kq ≤ k) ∧ Aside0 (wc.heap[gb413]? = some (.cells #[.int .i64 a0_0, .int .i64 a0_1, (.slice A0_2 l0_2.length c0_2)] 45 (0, 0))) ∧ Aside0 (Below w.heap.size w wc))
 case first =>
  have H := HC3.out; clear HC3
  by_cases c5 : a0_0 = 2
  ·rw [if_pos c5] at H
   have c5b0 : (a0_0 == 2) = true := beq_iff_eq.mpr c5
   have c5b1 : (a0_0 != 2) = false := bne_eq_false_iff_eq.mpr c5
   clear c5
   (first | rw [c5b0] | rw [c5b1] | (simp only [i64_w, i32_w]; rw [c5b0]) | skip)
   by_cases c6 : a0_1 = 0
   ·rw [if_pos c6] at H
    have c6b0 : (a0_1 == 0) = true := beq_iff_eq.mpr c6
    have c6b1 : (a0_1 != 0) = false := bne_eq_false_iff_eq.mpr c6
    clear c6
    have H' := gA H
    clear H
    obtain ⟨hcz7_0, hcz7_1, hcz7_2, hfz7_0, hfz7_1, hfz7_2⟩ := gz3 BK413
    go_wp2
    all_goals (go_meet; (case rel => exact ⟨_, (((l0_2.length : Int) == 1)), (by first | rfl | (simp; done) | (simp [*]; done) | (exfalso; simp_all; done) | (exfalso; simp_all; omega)), H', ⟨by first | omega | exact Nat.le_refl _⟩, ⟨gK BK413⟩, ⟨gB HB⟩⟩))
   ·rw [if_neg c6] at H
    have c6b0 : (a0_1 == 0) = false := beq_eq_false_iff_ne.mpr c6
    have c6b1 : (a0_1 != 0) = true := bne_iff_ne.mpr c6
    have H' := gA H
    clear H
    obtain ⟨hcz8_0, hcz8_1, hcz8_2, hfz8_0, hfz8_1, hfz8_2⟩ := gz3 BK413
    go_wp2
    all_goals (go_meet; (case rel => exact ⟨_, (false), (by first | rfl | (simp; done) | (simp [*]; done) | (exfalso; simp_all; done) | (exfalso; simp_all; omega)), H', ⟨by first | omega | exact Nat.le_refl _⟩, ⟨gK BK413⟩, ⟨gB HB⟩⟩))
  ·rw [if_neg c5] at H
   have c5b0 : (a0_0 == 2) = false := beq_eq_false_iff_ne.mpr c5
   have c5b1 : (a0_0 != 2) = true := bne_iff_ne.mpr c5
   (first | rw [c5b0] | rw [c5b1] | (simp only [i64_w, i32_w]; rw [c5b0]) | skip)
   have H' := gA H
   clear H
   obtain ⟨hcz9_0, hcz9_1, hcz9_2, hfz9_0, hfz9_1, hfz9_2⟩ := gz3 BK413
   go_wp2
   all_goals (go_meet; (case rel => exact ⟨_, (false), (by first | rfl | (simp; done) | (simp [*]; done) | (exfalso; simp_all; done) | (exfalso; simp_all; omega)), H', ⟨by first | omega | exact Nat.le_refl _⟩, ⟨gK BK413⟩, ⟨gB HB⟩⟩))
 case rest =>
  clear HC3
  try clear p2
  try clear c5
  try clear c5b0
  try clear c5b1
  try clear c6
  try clear c6b0
  try clear c6b1
  try clear hcz7_0
  try clear hcz7_1
  try clear hcz7_2
  try clear hcz8_0
  try clear hcz8_1
  try clear hcz8_2
  try clear hcz9_0
  try clear hcz9_1
  try clear hcz9_2
  try clear hfz7_0
  try clear hfz7_1
  try clear hfz7_2
  try clear hfz8_0
  try clear hfz8_1
  try clear hfz8_2
  try clear hfz9_0
  try clear hfz9_1
  try clear hfz9_2
  obtain ⟨kq, x18_2, rfl, HA, HJ2, BK413, HB⟩ := hcut
  cases kq with
  | zero => exact absurd HA.out (by simp [triglyphref03_cell.j0])
  | succ kj2 =>
   have H := HA.out; clear HA
   simp only [triglyphref03_cell.j0] at H
   by_cases c10 : x18_2 = true
   ·subst c10
    have H1 : (if a1 = 8 then (some 15) else (if 0 < (l0_2.length : Int) then ((triglyphref03_check.f kj2 ((rd_T25 l0_2 0).f0) ((rd_T25 l0_2 0).f1) (wrap64 (a1 + 1))).bind fun t415 => (some t415)) else (none))) = some r := by rw [if_pos rfl] at H; exact H
    clear H; have H := H1; clear H1
    by_cases c11 : a1 = 8
    ·rw [if_pos c11] at H
     have c11b0 : (a1 == 8) = true := beq_iff_eq.mpr c11
     have c11b1 : (a1 != 8) = false := bne_eq_false_iff_eq.mpr c11
     clear c11
     obtain rfl := Option.some.inj H
     go_wp2
     go_ret
     exact ⟨rfl, by repeat first | exact gB HB | refine below_set ?_ GE413.out⟩
    ·rw [if_neg c11] at H
     have c11b0 : (a1 == 8) = false := beq_eq_false_iff_ne.mpr c11
     have c11b1 : (a1 != 8) = true := bne_iff_ne.mpr c11
     obtain ⟨c12, H⟩ := iS H
     have c12b0 := decide_eq_true c12
     have c12b1 : decide (0 < l0_2.length) = true := decide_eq_true (by omega)
     clear c12
     replace H := Option.bind_eq_some_iff.mp H
     obtain ⟨t415, A130, H⟩ := H
     replace H : (some t415) = some r := H
     have A13 := gA A130
     clear A130
     obtain rfl := Option.some.inj H
     obtain ⟨hcz14_0, hcz14_1, hcz14_2, hfz14_0, hfz14_1, hfz14_2⟩ := gz3 BK413
     have p414 : 0 ≤ (0 : Int) := (by omega)
     have q414 : 0 < (l0_2.length : Int) := of_decide_eq_true (by assumption)
     obtain ⟨ad414, A414_0, c414_0, A414_1, c414_1, e414, hx414_0, hx414_1, hl414_0, hi414_0, hl414_1, hi414_1⟩ := at_T25 HR0_2.out 0 p414 q414
     cases e414
     have qi414 : (0 < l0_2.length) = True := eq_true (by omega)
     (try rw [show ((0 : Int)).toNat = 0 from rfl] at hx414_0)
     (try rw [show 0 * 2 = 0 from rfl] at hx414_0)
     (try rw [Addr.add_zero'] at hx414_0)
     (try rw [show ((0 : Int)).toNat = 0 from rfl] at hx414_1)
     (try rw [show 0 * 2 = 0 from rfl] at hx414_1)
     (try rw [Addr.add_zero'] at hx414_1)
     replace hx414_0 := (HB.out.cell (World.block_lt_of_cell? w _ hx414_0)).trans hx414_0
     replace hx414_1 := (HB.out.cell (World.block_lt_of_cell? w _ hx414_1)).trans hx414_1
     have HR414_0 := gA hi414_0
     have HC414_0 := gA hl414_0
     clear hi414_0 hl414_0
     have HR414_1 := gA hi414_1
     have HC414_1 := gA hl414_1
     clear hi414_1 hl414_1
     replace p414 := eq_true p414
     replace q414 := eq_true q414
     go_wp2_with (first | ((with_reducible refine gate_callee (f := 36) rfl ?_); refine goesL_ (some 27) rfl rfl Try.func36 (by kernel_rfl) rfl #[.agg #[.slice A414_0 ((rd_T25 l0_2 0).f0).length c414_0, .slice A414_1 ((rd_T25 l0_2 0).f1).length c414_1], .int .i64 (wrap64 (a1 + 1))] rfl (by (try simp only [List.map_toArray, List.map_cons, List.map_nil]); first | done | rfl | (simp only [List.length_drop, List.length_take]; rfl)) ?_; (with_reducible refine (ih_triglyphref03_check kj2 (by have := HJ2.out; omega) _ _ ((rd_T25 l0_2 0).f0) _ _ ((rd_T25 l0_2 0).f1) (wrap64 (a1 + 1)) t415 _ ?side1 ?side2 ?side3 ?side4 A13.out).mono ?_); (case side1 => exact gC HR414_0 HB); (case side2 => exact HC414_0.out); (case side3 => exact gC HR414_1 HB); (case side4 => exact HC414_1.out); rintro e w15 ⟨rfl, hb⟩; refine ⟨_, rfl, ?_⟩; replace BK413 := gA (blk_below (gK BK413) hb); replace HB := gA (below_step (gB HB) hb); (try clear hb)))
     go_ret
     exact ⟨rfl, by repeat first | exact gB HB | refine below_set ?_ GE413.out⟩
   ·replace c10 := Bool.eq_false_iff.mpr c10
    subst c10
    have H1 : (if (l0_2.length : Int) > 0 then (some 1) else (if a0_0 = 0 then (some 0) else (if a0_0 = 1 then ((triglyphref02_Good.f a0_1).bind fun t416 => (if t416 = true then (some 0) else (some 1))) else (some 1)))) = some r := by rw [if_neg (show ¬ (false = true) by decide)] at H; exact H
    clear H; have H := H1; clear H1
    by_cases c16 : (l0_2.length : Int) > 0
    ·rw [if_pos c16] at H
     have c16b0 : decide (0 < (l0_2.length : Int)) = true := decide_eq_true c16
     have c16b1 : decide (0 < l0_2.length) = true := decide_eq_true (by omega)
     clear c16
     obtain rfl := Option.some.inj H
     obtain ⟨hcz17_0, hcz17_1, hcz17_2, hfz17_0, hfz17_1, hfz17_2⟩ := gz3 BK413
     go_wp2
     go_ret
     exact ⟨rfl, by repeat first | exact gB HB | refine below_set ?_ GE413.out⟩
    ·rw [if_neg c16] at H
     have c16b0 : decide (0 < (l0_2.length : Int)) = false := decide_eq_false c16
     have c16b1 : decide (0 < l0_2.length) = false := decide_eq_false (by omega)
     clear c16
     by_cases c18 : a0_0 = 0
     ·rw [if_pos c18] at H
      have c18b0 : (a0_0 == 0) = true := beq_iff_eq.mpr c18
      have c18b1 : (a0_0 != 0) = false := bne_eq_false_iff_eq.mpr c18
      clear c18
      obtain rfl := Option.some.inj H
      obtain ⟨hcz19_0, hcz19_1, hcz19_2, hfz19_0, hfz19_1, hfz19_2⟩ := gz3 BK413
      go_wp2
      go_ret
      exact ⟨rfl, by repeat first | exact gB HB | refine below_set ?_ GE413.out⟩
     ·rw [if_neg c18] at H
      have c18b0 : (a0_0 == 0) = false := beq_eq_false_iff_ne.mpr c18
      have c18b1 : (a0_0 != 0) = true := bne_iff_ne.mpr c18
      by_cases c20 : a0_0 = 1
      ·rw [if_pos c20] at H
       have c20b0 : (a0_0 == 1) = true := beq_iff_eq.mpr c20
       have c20b1 : (a0_0 != 1) = false := bne_eq_false_iff_eq.mpr c20
       clear c20
       replace H := Option.bind_eq_some_iff.mp H
       obtain ⟨t416, A210, H⟩ := H
       replace H : (if t416 = true then (some 0) else (some 1)) = some r := H
       have A21 := gA A210
       clear A210
       by_cases c22 : t416 = true
       ·subst c22
        have H1 : (some 0) = some r := by rw [if_pos rfl] at H; exact H
        clear H; have H := H1; clear H1
        obtain rfl := Option.some.inj H
        obtain ⟨hcz23_0, hcz23_1, hcz23_2, hfz23_0, hfz23_1, hfz23_2⟩ := gz3 BK413
        go_wp2_with (first | (go_at_call 64; (with_reducible refine (triglyphref02_Good.calls a0_1 true _ A21.out).mono ?_); rintro e w' ⟨rfl, ⟨nd, rfl⟩⟩))
        go_ret
        exact ⟨rfl, by repeat first | exact gB HB | refine below_set ?_ GE413.out⟩
       ·replace c22 := Bool.eq_false_iff.mpr c22
        subst c22
        have H1 : (some 1) = some r := by rw [if_neg (show ¬ (false = true) by decide)] at H; exact H
        clear H; have H := H1; clear H1
        obtain rfl := Option.some.inj H
        obtain ⟨hcz24_0, hcz24_1, hcz24_2, hfz24_0, hfz24_1, hfz24_2⟩ := gz3 BK413
        go_wp2_with (first | (go_at_call 64; (with_reducible refine (triglyphref02_Good.calls a0_1 false _ A21.out).mono ?_); rintro e w' ⟨rfl, ⟨nd, rfl⟩⟩))
        go_ret
        exact ⟨rfl, by repeat first | exact gB HB | refine below_set ?_ GE413.out⟩
      ·rw [if_neg c20] at H
       have c20b0 : (a0_0 == 1) = false := beq_eq_false_iff_ne.mpr c20
       have c20b1 : (a0_0 != 1) = true := bne_iff_ne.mpr c20
       obtain rfl := Option.some.inj H
       obtain ⟨hcz25_0, hcz25_1, hcz25_2, hfz25_0, hfz25_1, hfz25_2⟩ := gz3 BK413
       go_wp2
       go_ret
       exact ⟨rfl, by repeat first | exact gB HB | refine below_set ?_ GE413.out⟩
set_option maxHeartbeats 8000000 in
set_option maxRecDepth 100000 in
theorem triglyphref03_check.step (k : Nat) (ih_triglyphref03_cell : ∀ k_, k_ < k → ∀ (a0_0 : Int) (a0_1 : Int) (A0_2 : Option Addr) (c0_2 : Nat) (l0_2 : List (S25)) (a1 : Int) (r : Int) (w : World) (hr0_2 : Kd.C k25 w A0_2 l0_2.length l0_2) (hc0_2 : l0_2.length ≤ c0_2) (h : triglyphref03_cell.f k_ a0_0 a0_1 l0_2 a1 = some r),
  Calls Try.prog 58 #[.agg #[.int .i64 a0_0, .int .i64 a0_1, .slice A0_2 l0_2.length c0_2], .int .i64 a1] w fun e w' => e = .returned (.int .i64 r) ∧ Below w.heap.size w w') (ih : ∀ k_, k_ < k → ∀ (A0_0 : Option Addr) (c0_0 : Nat) (l0_0 : List Int) (A0_1 : Option Addr) (c0_1 : Nat) (l0_1 : List (S45)) (a1 : Int) (r : Int) (w : World) (hr0_0 : Kd.C (Kd.int .i64) w A0_0 l0_0.length l0_0) (hc0_0 : l0_0.length ≤ c0_0) (hr0_1 : Kd.C k45 w A0_1 l0_1.length l0_1) (hc0_1 : l0_1.length ≤ c0_1) (h : triglyphref03_check.f k_ l0_0 l0_1 a1 = some r),
  Calls Try.prog 36 #[.agg #[.slice A0_0 l0_0.length c0_0, .slice A0_1 l0_1.length c0_1], .int .i64 a1] w fun e w' => e = .returned (.int .i64 r) ∧ Below w.heap.size w w') : ∀ (A0_0 : Option Addr) (c0_0 : Nat) (l0_0 : List Int) (A0_1 : Option Addr) (c0_1 : Nat) (l0_1 : List (S45)) (a1 : Int) (r : Int) (w : World) (hr0_0 : Kd.C (Kd.int .i64) w A0_0 l0_0.length l0_0) (hc0_0 : l0_0.length ≤ c0_0) (hr0_1 : Kd.C k45 w A0_1 l0_1.length l0_1) (hc0_1 : l0_1.length ≤ c0_1) (h : triglyphref03_check.f k l0_0 l0_1 a1 = some r),
  Calls Try.prog 36 #[.agg #[.slice A0_0 l0_0.length c0_0, .slice A0_1 l0_1.length c0_1], .int .i64 a1] w fun e w' => e = .returned (.int .i64 r) ∧ Below w.heap.size w w' := by
 intro A0_0 c0_0 l0_0 A0_1 c0_1 l0_1 a1 r w hr0_0 hc0_0 hr0_1 hc0_1 h
 cases k with
 | zero => exact absurd h (by simp [triglyphref03_check.f])
 | succ k =>
 simp only [triglyphref03_check.f] at h
 have hu25 := Try.underlying25
 have hu45 := Try.underlying45
 have HR0_0 := gA hr0_0
 have HC0_0 := gA hc0_0
 clear hr0_0 hc0_0
 have HR0_1 := gA hr0_1
 have HC0_1 := gA hc0_1
 clear hr0_1 hc0_1
 have HB := gA (Below.refl w.heap.size w)
 have H : ((triglyphref03_Size.f k l0_0).bind fun bt418 => (if bt418.2 = 0 then (if bt418.1 = (l0_1.length : Int) then (triglyphref03_check.l0 k a1 0 l0_0 l0_1) else (some 1)) else (some bt418.2))) = some r := h
 clear h
 replace H := Option.bind_eq_some_iff.mp H
 obtain ⟨⟨t418, t419⟩, A30, H⟩ := H
 replace H : (if t419 = 0 then (if t418 = (l0_1.length : Int) then (triglyphref03_check.l0 k a1 0 l0_0 l0_1) else (some 1)) else (some t419)) = some r := H
 have A3 := gA A30
 clear A30
 by_cases c4 : t419 = 0
 ·rw [if_pos c4] at H
  have c4b0 : (t419 == 0) = true := beq_iff_eq.mpr c4
  have c4b1 : (t419 != 0) = false := bne_eq_false_iff_eq.mpr c4
  clear c4
  by_cases c5 : t418 = (l0_1.length : Int)
  ·rw [if_pos c5] at H
   have c5b0 : (t418 == (l0_1.length : Int)) = true := beq_iff_eq.mpr c5
   have c5b1 : (t418 != (l0_1.length : Int)) = false := bne_eq_false_iff_eq.mpr c5
   clear c5
   have H' := gA H
   clear H
   go_enter Try.func36, Try.ntmps36
   go_wp2_with (first | ((with_reducible refine gate_dst (N := 2) rfl ?_); refine box_event ?hg (N := 2) ?hd (cs := #[.slice A0_0 l0_0.length c0_0, .slice A0_1 l0_1.length c0_1]) (t := 25) ?hr ?_; (case hd => rfl); (case hg => rfl); (case hr => first | (go_simp; done) | (go_simp; rfl)); intro gb417 hg w6 hbox hb; have BK417 := gA (hbox); have GW417 := gA ((by rw [hg]; exact (below_size (gB HB)) : w.heap.size ≤ gb417)); have GE417 := gA ((by rw [hg]; exact (below_size (gB HB)) : w.heap.size ≤ gb417)); replace HB := gA (below_step (gB HB) hb); clear hb hbox hg; obtain ⟨hcz7_0, hcz7_1, hfz7_0, hfz7_1⟩ := gz2 BK417) | ((with_reducible refine gate_callee (f := 51) rfl ?_); refine goesL_ (some 13) rfl rfl Try.func51 (by kernel_rfl) rfl #[.slice A0_0 l0_0.length c0_0] rfl (by (try simp only [List.map_toArray, List.map_cons, List.map_nil]); first | done | rfl | (simp only [List.length_drop, List.length_take]; rfl)) ?_; (with_reducible refine (triglyphref03_Size.calls k _ _ l0_0 t418 t419 _ ?side1 ?side2 A3.out).mono ?_); (case side1 => exact gC HR0_0 HB); (case side2 => exact HC0_0.out); rintro e w' ⟨rfl, ⟨nd, rfl⟩⟩; refine ⟨_, rfl, ?_⟩))
   go_loopg [7] k (fun kq v7 w' => ∃ (x7_1 : Int), v7 = .int .i64 x7_1 ∧ Aside0 (triglyphref03_check.l0 kq a1 x7_1 l0_0 l0_1 = some r) ∧ Aside0 (kq ≤ k) ∧ Aside0 (w'.heap[gb417]? = some (.cells #[(.slice A0_0 l0_0.length c0_0), (.slice A0_1 l0_1.length c0_1)] 25 (0, 0))) ∧ Aside0 (Below w.heap.size w w'))
   case atStart => exact ⟨(0), (rfl), H', ⟨Nat.le_refl _⟩, ⟨gK BK417⟩, ⟨by repeat first | exact gB HB | refine below_set ?_ GE417.out⟩⟩
   case round =>
    clear H'
    try clear p2
    try clear c3
    try clear c4
    try clear c4b0
    try clear c4b1
    try clear c5
    try clear c5b0
    try clear c5b1
    try clear hcz7_0
    try clear hcz7_1
    try clear hfz7_0
    try clear hfz7_1
    obtain ⟨x7_1, rfl, HA, HK1, BK417, HB⟩ := hrel
    cases gk with
    | zero => exact absurd HA.out (by simp [triglyphref03_check.l0])
    | succ k1 =>
     have H := HA.out; clear HA
     simp only [triglyphref03_check.l0] at H
     by_cases c8 : x7_1 < (l0_0.length : Int)
     ·rw [if_pos c8] at H
      have c8b0 := decide_eq_true c8
      clear c8
      obtain ⟨c9, H⟩ := iS H
      have c9b0 := decide_eq_true c9
      clear c9
      by_cases c10 : (rd l0_0 x7_1) > 16384
      ·rw [if_pos c10] at H
       have c10b0 : decide (16384 < (rd l0_0 x7_1)) = true := decide_eq_true c10
       clear c10
       obtain rfl := Option.some.inj H
       obtain ⟨hcz11_0, hcz11_1, hfz11_0, hfz11_1⟩ := gz2 BK417
       have p420 : 0 ≤ (x7_1 : Int) := of_decide_eq_true (by assumption)
       have q420 : x7_1 < (l0_0.length : Int) := of_decide_eq_true (by assumption)
       obtain ⟨ad420, e420, hx420_0⟩ := Kd.at_int HR0_0.out x7_1 p420 q420
       cases e420
       replace hx420_0 := (HB.out.cell (World.block_lt_of_cell? w _ hx420_0)).trans hx420_0
       replace p420 := eq_true p420
       replace q420 := eq_true q420
       go_wp2
       go_ret
       exact ⟨rfl, by repeat first | exact gB HB | refine below_set ?_ GE417.out⟩
      ·rw [if_neg c10] at H
       have c10b0 : decide (16384 < (rd l0_0 x7_1)) = false := decide_eq_false c10
       clear c10
       have H' := gA H
       clear H
       obtain ⟨hcz12_0, hcz12_1, hfz12_0, hfz12_1⟩ := gz2 BK417
       have p420 : 0 ≤ (x7_1 : Int) := of_decide_eq_true (by assumption)
       have q420 : x7_1 < (l0_0.length : Int) := of_decide_eq_true (by assumption)
       obtain ⟨ad420, e420, hx420_0⟩ := Kd.at_int HR0_0.out x7_1 p420 q420
       cases e420
       replace hx420_0 := (HB.out.cell (World.block_lt_of_cell? w _ hx420_0)).trans hx420_0
       replace p420 := eq_true p420
       replace q420 := eq_true q420
       go_wp2
       go_roundg k1
       case measure => have := HK1.out; omega
       case rel => exact ⟨(wrap64 (x7_1 + 1)), (rfl), H', ⟨by have := HK1.out; omega⟩, ⟨gK BK417⟩, ⟨by repeat first | exact gB HB | refine below_set ?_ GE417.out⟩⟩
     ·rw [if_neg c8] at H
      have c8b0 := decide_eq_false c8
      clear c8
      have H' := gA H
      clear H
      obtain ⟨hcz13_0, hcz13_1, hfz13_0, hfz13_1⟩ := gz2 BK417
      go_wp2
      go_loopg [8] k1 (fun kq v8 w' => ∃ (x8_2 : Int), v8 = .int .i64 x8_2 ∧ Aside0 (triglyphref03_check.l1 kq a1 x8_2 l0_0 l0_1 = some r) ∧ Aside0 (kq ≤ k1) ∧ Aside0 (w'.heap[gb417]? = some (.cells #[(.slice A0_0 l0_0.length c0_0), (.slice A0_1 l0_1.length c0_1)] 25 (0, 0))) ∧ Aside0 (Below w.heap.size w w'))
      case atStart => exact ⟨(0), (rfl), H', ⟨Nat.le_refl _⟩, ⟨gK BK417⟩, ⟨by repeat first | exact gB HB | refine below_set ?_ GE417.out⟩⟩
      case round =>
       clear H'
       try clear c1
       try clear p2
       try clear c3
       try clear c4
       try clear c4b0
       try clear c4b1
       try clear p4
       try clear q4
       try clear hx4
       try clear c5
       try clear c5b0
       try clear c5b1
       try clear p6
       try clear c8
       try clear c8b0
       try clear c9
       try clear c9b0
       try clear c10
       try clear c10b0
       try clear hcz11_0
       try clear hcz11_1
       try clear hcz12_0
       try clear hcz12_1
       try clear hcz13_0
       try clear hcz13_1
       try clear hcz7_0
       try clear hcz7_1
       try clear hfz11_0
       try clear hfz11_1
       try clear hfz12_0
       try clear hfz12_1
       try clear hfz13_0
       try clear hfz13_1
       try clear hfz7_0
       try clear hfz7_1
       try clear hx420_0
       try clear p2
       try clear p420
       try clear q420
       obtain ⟨x8_2, rfl, HA, HK2, BK417, HB⟩ := hrel
       cases gk with
       | zero => exact absurd HA.out (by simp [triglyphref03_check.l1])
       | succ k2 =>
        have H := HA.out; clear HA
        simp only [triglyphref03_check.l1] at H
        by_cases c14 : x8_2 < (l0_1.length : Int)
        ·rw [if_pos c14] at H
         have c14b0 := decide_eq_true c14
         clear c14
         obtain ⟨c15, H⟩ := iS H
         have c15b0 := decide_eq_true c15
         clear c15
         replace H := Option.bind_eq_some_iff.mp H
         obtain ⟨t422, A160, H⟩ := H
         replace H : (if t422 = 0 then (triglyphref03_check.l1 k2 a1 (wrap64 (x8_2 + 1)) l0_0 l0_1) else (some t422)) = some r := H
         have A16 := gA A160
         clear A160
         by_cases c17 : t422 = 0
         ·rw [if_pos c17] at H
          have c17b0 : (t422 == 0) = true := beq_iff_eq.mpr c17
          have c17b1 : (t422 != 0) = false := bne_eq_false_iff_eq.mpr c17
          clear c17
          have H' := gA H
          clear H
          obtain ⟨hcz18_0, hcz18_1, hfz18_0, hfz18_1⟩ := gz2 BK417
          have p421 : 0 ≤ (x8_2 : Int) := of_decide_eq_true (by assumption)
          have q421 : x8_2 < (l0_1.length : Int) := of_decide_eq_true (by assumption)
          obtain ⟨ad421, A421_2, c421_2, e421, hx421_0, hx421_1, hx421_2, hl421_2, hi421_2⟩ := at_T45 HR0_1.out x8_2 p421 q421
          cases e421
          replace hx421_0 := (HB.out.cell (World.block_lt_of_cell? w _ hx421_0)).trans hx421_0
          replace hx421_1 := (HB.out.cell (World.block_lt_of_cell? w _ hx421_1)).trans hx421_1
          replace hx421_2 := (HB.out.cell (World.block_lt_of_cell? w _ hx421_2)).trans hx421_2
          have HR421_2 := gA hi421_2
          have HC421_2 := gA hl421_2
          clear hi421_2 hl421_2
          replace p421 := eq_true p421
          replace q421 := eq_true q421
          go_wp2_with (first | ((with_reducible refine gate_callee (f := 58) rfl ?_); refine goesL_ (some 50) rfl rfl Try.func58 (by kernel_rfl) rfl #[.agg #[.int .i64 ((rd_T45 l0_1 x8_2).f0), .int .i64 ((rd_T45 l0_1 x8_2).f1), .slice A421_2 ((rd_T45 l0_1 x8_2).f2).length c421_2], .int .i64 a1] rfl (by (try simp only [List.map_toArray, List.map_cons, List.map_nil]); first | done | rfl | (simp only [List.length_drop, List.length_take]; rfl)) ?_; (with_reducible refine (ih_triglyphref03_cell k2 (by have := HK1.out; have := HK2.out; omega) ((rd_T45 l0_1 x8_2).f0) ((rd_T45 l0_1 x8_2).f1) _ _ ((rd_T45 l0_1 x8_2).f2) a1 t422 _ ?side1 ?side2 A16.out).mono ?_); (case side1 => exact gC HR421_2 HB); (case side2 => exact HC421_2.out); rintro e w19 ⟨rfl, hb⟩; refine ⟨_, rfl, ?_⟩; replace BK417 := gA (blk_below (gK BK417) hb); replace HB := gA (below_step (gB HB) hb); (try clear hb)))
          go_roundg k2
          case measure => have := HK1.out; have := HK2.out; omega
          case rel => exact ⟨(wrap64 (x8_2 + 1)), (rfl), H', ⟨by have := HK1.out; have := HK2.out; omega⟩, ⟨gK BK417⟩, ⟨gB HB⟩⟩
         ·rw [if_neg c17] at H
          have c17b0 : (t422 == 0) = false := beq_eq_false_iff_ne.mpr c17
          have c17b1 : (t422 != 0) = true := bne_iff_ne.mpr c17
          obtain rfl := Option.some.inj H
          obtain ⟨hcz20_0, hcz20_1, hfz20_0, hfz20_1⟩ := gz2 BK417
          have p421 : 0 ≤ (x8_2 : Int) := of_decide_eq_true (by assumption)
          have q421 : x8_2 < (l0_1.length : Int) := of_decide_eq_true (by assumption)
          obtain ⟨ad421, A421_2, c421_2, e421, hx421_0, hx421_1, hx421_2, hl421_2, hi421_2⟩ := at_T45 HR0_1.out x8_2 p421 q421
          cases e421
          replace hx421_0 := (HB.out.cell (World.block_lt_of_cell? w _ hx421_0)).trans hx421_0
          replace hx421_1 := (HB.out.cell (World.block_lt_of_cell? w _ hx421_1)).trans hx421_1
          replace hx421_2 := (HB.out.cell (World.block_lt_of_cell? w _ hx421_2)).trans hx421_2
          have HR421_2 := gA hi421_2
          have HC421_2 := gA hl421_2
          clear hi421_2 hl421_2
          replace p421 := eq_true p421
          replace q421 := eq_true q421
          go_wp2_with (first | ((with_reducible refine gate_callee (f := 58) rfl ?_); refine goesL_ (some 50) rfl rfl Try.func58 (by kernel_rfl) rfl #[.agg #[.int .i64 ((rd_T45 l0_1 x8_2).f0), .int .i64 ((rd_T45 l0_1 x8_2).f1), .slice A421_2 ((rd_T45 l0_1 x8_2).f2).length c421_2], .int .i64 a1] rfl (by (try simp only [List.map_toArray, List.map_cons, List.map_nil]); first | done | rfl | (simp only [List.length_drop, List.length_take]; rfl)) ?_; (with_reducible refine (ih_triglyphref03_cell k2 (by have := HK1.out; have := HK2.out; omega) ((rd_T45 l0_1 x8_2).f0) ((rd_T45 l0_1 x8_2).f1) _ _ ((rd_T45 l0_1 x8_2).f2) a1 t422 _ ?side1 ?side2 A16.out).mono ?_); (case side1 => exact gC HR421_2 HB); (case side2 => exact HC421_2.out); rintro e w21 ⟨rfl, hb⟩; refine ⟨_, rfl, ?_⟩; replace BK417 := gA (blk_below (gK BK417) hb); replace HB := gA (below_step (gB HB) hb); (try clear hb)))
          go_ret
          exact ⟨rfl, by repeat first | exact gB HB | refine below_set ?_ GE417.out⟩
        ·rw [if_neg c14] at H
         have c14b0 := decide_eq_false c14
         clear c14
         obtain rfl := Option.some.inj H
         obtain ⟨hcz22_0, hcz22_1, hfz22_0, hfz22_1⟩ := gz2 BK417
         go_wp2
         go_ret
         exact ⟨rfl, by repeat first | exact gB HB | refine below_set ?_ GE417.out⟩
  ·rw [if_neg c5] at H
   have c5b0 : (t418 == (l0_1.length : Int)) = false := beq_eq_false_iff_ne.mpr c5
   have c5b1 : (t418 != (l0_1.length : Int)) = true := bne_iff_ne.mpr c5
   obtain rfl := Option.some.inj H
   go_enter Try.func36, Try.ntmps36
   go_wp2_with (first | ((with_reducible refine gate_dst (N := 2) rfl ?_); refine box_event ?hg (N := 2) ?hd (cs := #[.slice A0_0 l0_0.length c0_0, .slice A0_1 l0_1.length c0_1]) (t := 25) ?hr ?_; (case hd => rfl); (case hg => rfl); (case hr => first | (go_simp; done) | (go_simp; rfl)); intro gb417 hg w23 hbox hb; have BK417 := gA (hbox); have GW417 := gA ((by rw [hg]; exact (below_size (gB HB)) : w.heap.size ≤ gb417)); have GE417 := gA ((by rw [hg]; exact (below_size (gB HB)) : w.heap.size ≤ gb417)); replace HB := gA (below_step (gB HB) hb); clear hb hbox hg; obtain ⟨hcz24_0, hcz24_1, hfz24_0, hfz24_1⟩ := gz2 BK417) | ((with_reducible refine gate_callee (f := 51) rfl ?_); refine goesL_ (some 13) rfl rfl Try.func51 (by kernel_rfl) rfl #[.slice A0_0 l0_0.length c0_0] rfl (by (try simp only [List.map_toArray, List.map_cons, List.map_nil]); first | done | rfl | (simp only [List.length_drop, List.length_take]; rfl)) ?_; (with_reducible refine (triglyphref03_Size.calls k _ _ l0_0 t418 t419 _ ?side1 ?side2 A3.out).mono ?_); (case side1 => exact gC HR0_0 HB); (case side2 => exact HC0_0.out); rintro e w' ⟨rfl, ⟨nd, rfl⟩⟩; refine ⟨_, rfl, ?_⟩))
   go_ret
   exact ⟨rfl, by repeat first | exact gB HB | refine below_set ?_ GE417.out⟩
 ·rw [if_neg c4] at H
  have c4b0 : (t419 == 0) = false := beq_eq_false_iff_ne.mpr c4
  have c4b1 : (t419 != 0) = true := bne_iff_ne.mpr c4
  obtain rfl := Option.some.inj H
  go_enter Try.func36, Try.ntmps36
  go_wp2_with (first | ((with_reducible refine gate_dst (N := 2) rfl ?_); refine box_event ?hg (N := 2) ?hd (cs := #[.slice A0_0 l0_0.length c0_0, .slice A0_1 l0_1.length c0_1]) (t := 25) ?hr ?_; (case hd => rfl); (case hg => rfl); (case hr => first | (go_simp; done) | (go_simp; rfl)); intro gb417 hg w25 hbox hb; have BK417 := gA (hbox); have GW417 := gA ((by rw [hg]; exact (below_size (gB HB)) : w.heap.size ≤ gb417)); have GE417 := gA ((by rw [hg]; exact (below_size (gB HB)) : w.heap.size ≤ gb417)); replace HB := gA (below_step (gB HB) hb); clear hb hbox hg; obtain ⟨hcz26_0, hcz26_1, hfz26_0, hfz26_1⟩ := gz2 BK417) | ((with_reducible refine gate_callee (f := 51) rfl ?_); refine goesL_ (some 13) rfl rfl Try.func51 (by kernel_rfl) rfl #[.slice A0_0 l0_0.length c0_0] rfl (by (try simp only [List.map_toArray, List.map_cons, List.map_nil]); first | done | rfl | (simp only [List.length_drop, List.length_take]; rfl)) ?_; (with_reducible refine (triglyphref03_Size.calls k _ _ l0_0 t418 t419 _ ?side1 ?side2 A3.out).mono ?_); (case side1 => exact gC HR0_0 HB); (case side2 => exact HC0_0.out); rintro e w' ⟨rfl, ⟨nd, rfl⟩⟩; refine ⟨_, rfl, ?_⟩))
  go_ret
  exact ⟨rfl, by repeat first | exact gB HB | refine below_set ?_ GE417.out⟩
theorem scc58.calls (k : Nat) : (∀ (a0_0 : Int) (a0_1 : Int) (A0_2 : Option Addr) (c0_2 : Nat) (l0_2 : List (S25)) (a1 : Int) (r : Int) (w : World) (hr0_2 : Kd.C k25 w A0_2 l0_2.length l0_2) (hc0_2 : l0_2.length ≤ c0_2) (h : triglyphref03_cell.f k a0_0 a0_1 l0_2 a1 = some r),
  Calls Try.prog 58 #[.agg #[.int .i64 a0_0, .int .i64 a0_1, .slice A0_2 l0_2.length c0_2], .int .i64 a1] w fun e w' => e = .returned (.int .i64 r) ∧ Below w.heap.size w w') ∧ (∀ (A0_0 : Option Addr) (c0_0 : Nat) (l0_0 : List Int) (A0_1 : Option Addr) (c0_1 : Nat) (l0_1 : List (S45)) (a1 : Int) (r : Int) (w : World) (hr0_0 : Kd.C (Kd.int .i64) w A0_0 l0_0.length l0_0) (hc0_0 : l0_0.length ≤ c0_0) (hr0_1 : Kd.C k45 w A0_1 l0_1.length l0_1) (hc0_1 : l0_1.length ≤ c0_1) (h : triglyphref03_check.f k l0_0 l0_1 a1 = some r),
  Calls Try.prog 36 #[.agg #[.slice A0_0 l0_0.length c0_0, .slice A0_1 l0_1.length c0_1], .int .i64 a1] w fun e w' => e = .returned (.int .i64 r) ∧ Below w.heap.size w w') := by
 induction k using Nat.strongRecOn with
 | _ k ih =>
 exact ⟨triglyphref03_cell.step k (fun k_ h_ => (ih k_ h_).1) (fun k_ h_ => (ih k_ h_).2), triglyphref03_check.step k (fun k_ h_ => (ih k_ h_).1) (fun k_ h_ => (ih k_ h_).2)⟩
theorem triglyphref03_cell.calls (k : Nat) : ∀ (a0_0 : Int) (a0_1 : Int) (A0_2 : Option Addr) (c0_2 : Nat) (l0_2 : List (S25)) (a1 : Int) (r : Int) (w : World) (hr0_2 : Kd.C k25 w A0_2 l0_2.length l0_2) (hc0_2 : l0_2.length ≤ c0_2) (h : triglyphref03_cell.f k a0_0 a0_1 l0_2 a1 = some r),
  Calls Try.prog 58 #[.agg #[.int .i64 a0_0, .int .i64 a0_1, .slice A0_2 l0_2.length c0_2], .int .i64 a1] w fun e w' => e = .returned (.int .i64 r) ∧ Below w.heap.size w w' := (scc58.calls k).1
theorem triglyphref03_check.calls (k : Nat) : ∀ (A0_0 : Option Addr) (c0_0 : Nat) (l0_0 : List Int) (A0_1 : Option Addr) (c0_1 : Nat) (l0_1 : List (S45)) (a1 : Int) (r : Int) (w : World) (hr0_0 : Kd.C (Kd.int .i64) w A0_0 l0_0.length l0_0) (hc0_0 : l0_0.length ≤ c0_0) (hr0_1 : Kd.C k45 w A0_1 l0_1.length l0_1) (hc0_1 : l0_1.length ≤ c0_1) (h : triglyphref03_check.f k l0_0 l0_1 a1 = some r),
  Calls Try.prog 36 #[.agg #[.slice A0_0 l0_0.length c0_0, .slice A0_1 l0_1.length c0_1], .int .i64 a1] w fun e w' => e = .returned (.int .i64 r) ∧ Below w.heap.size w w' := (scc58.calls k).2
def triglyphref03_Check.f (k : Nat) (l0_0 : List Int) (l0_1 : List (S45)) : Option (Int) := (triglyphref03_check.f k l0_0 l0_1 0).bind fun t424 => (some t424)
theorem triglyphref03_Check.mono : ∀ a0 a1 k, LeO (triglyphref03_Check.f k a0 a1) (triglyphref03_Check.f (k + 1) a0 a1) := by
 intro a0 a1 k
 unfold triglyphref03_Check.f
 repeat' first
   | (with_reducible exact triglyphref03_check.mono _ _ _ _)
   | (with_reducible exact LeO.refl _)
   | (with_reducible exact LeO.none _)
   | (with_reducible refine LeO.ite ?_ ?_)
   | (with_reducible refine LeO.bind ?_ (fun _ => ?_))
   | exact triglyphref03_check.mono _ _ _ _
set_option maxHeartbeats 8000000 in
set_option maxRecDepth 100000 in
theorem triglyphref03_Check.calls (k : Nat) (A0_0 : Option Addr) (c0_0 : Nat) (l0_0 : List Int) (A0_1 : Option Addr) (c0_1 : Nat) (l0_1 : List (S45)) (r : Int) (w : World) (hr0_0 : Kd.C (Kd.int .i64) w A0_0 l0_0.length l0_0) (hc0_0 : l0_0.length ≤ c0_0) (hr0_1 : Kd.C k45 w A0_1 l0_1.length l0_1) (hc0_1 : l0_1.length ≤ c0_1) (h : triglyphref03_Check.f k l0_0 l0_1 = some r) :
  Calls Try.prog 14 #[.agg #[.slice A0_0 l0_0.length c0_0, .slice A0_1 l0_1.length c0_1]] w fun e w' => e = .returned (.int .i64 r) ∧ Below w.heap.size w w' := by
 have hu25 := Try.underlying25
 have HR0_0 := gA hr0_0
 have HC0_0 := gA hc0_0
 clear hr0_0 hc0_0
 have HR0_1 := gA hr0_1
 have HC0_1 := gA hc0_1
 clear hr0_1 hc0_1
 have HB := gA (Below.refl w.heap.size w)
 have H : ((triglyphref03_check.f k l0_0 l0_1 0).bind fun t424 => (some t424)) = some r := h
 clear h
 replace H := Option.bind_eq_some_iff.mp H
 obtain ⟨t424, A20, H⟩ := H
 replace H : (some t424) = some r := H
 have A2 := gA A20
 clear A20
 obtain rfl := Option.some.inj H
 go_enter Try.func14, Try.ntmps14
 go_wp2_with (first | ((with_reducible refine gate_dst (N := 1) rfl ?_); refine box_event ?hg (N := 1) ?hd (cs := #[.slice A0_0 l0_0.length c0_0, .slice A0_1 l0_1.length c0_1]) (t := 25) ?hr ?_; (case hd => rfl); (case hg => rfl); (case hr => first | (go_simp; done) | (go_simp; rfl)); intro gb423 hg w3 hbox hb; have BK423 := gA (hbox); have GW423 := gA ((by rw [hg]; exact (below_size (gB HB)) : w.heap.size ≤ gb423)); have GE423 := gA ((by rw [hg]; exact (below_size (gB HB)) : w.heap.size ≤ gb423)); replace HB := gA (below_step (gB HB) hb); clear hb hbox hg; obtain ⟨hcz4_0, hcz4_1, hfz4_0, hfz4_1⟩ := gz2 BK423) | ((with_reducible refine gate_callee (f := 36) rfl ?_); refine goesL_ (some 4) rfl rfl Try.func36 (by kernel_rfl) rfl #[.agg #[.slice A0_0 l0_0.length c0_0, .slice A0_1 l0_1.length c0_1], .int .i64 0] rfl (by (try simp only [List.map_toArray, List.map_cons, List.map_nil]); first | done | rfl | (simp only [List.length_drop, List.length_take]; rfl)) ?_; (with_reducible refine (triglyphref03_check.calls k _ _ l0_0 _ _ l0_1 0 t424 _ ?side1 ?side2 ?side3 ?side4 A2.out).mono ?_); (case side1 => exact gC HR0_0 HB); (case side2 => exact HC0_0.out); (case side3 => exact gC HR0_1 HB); (case side4 => exact HC0_1.out); rintro e w5 ⟨rfl, hb⟩; refine ⟨_, rfl, ?_⟩; replace BK423 := gA (blk_below (gK BK423) hb); replace HB := gA (below_step (gB HB) hb); (try clear hb)))
 go_ret
 exact ⟨rfl, by repeat first | exact gB HB | refine below_set ?_ GE423.out⟩
end Go.Proofs.Ytdihmempaonfjaa.P
