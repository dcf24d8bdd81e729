/- Written by a program of this session: the functions that the laws reach, what each comes to, and each law as it is stated, for every input. No condition. -/
import Derived.Test.YtiegcghapchimaaPx0
import Derived.Test.YtiegcghapchimaaPx1
import Derived.Test.YtiegcghapchimaaPx7
import Derived.Test.YtiegcghapchimaaPx9
import Derived.Test.YtiegcghapchimaaPx10
import Derived.Test.YtiegcghapchimaaPx12
import Derived.Test.YtiegcghapchimaaPx13
import Derived.Test.YtiegcghapchimaaPx14
namespace Go.Proofs.Ytiegcghapchimaa.P
open Go.RowKit Go.Proofs.YtiegcghapchimaaW.PrintWords Go.Proofs.YtiegcghapchimaaW.PrintLast Go.Proofs.YtiegcghapchimaaW.PrintMore
attribute [local go_sem] max2_int min2_int max_two min_two max_three min_three max_four min_four   -- for this text's walks alone
set_option linter.unusedVariables false
set_option linter.unusedSimpArgs false
def triglyphlaw05_LayoutReshapes.j0 : Nat → Bool → List Int → List (S39) → List Int → List (S39) → Option (Bool)
 | 0, _, _, _, _, _ => none
 | k + 1, x16, x485000, x485001, x486000, x486001 => if x16 = true then ((triglyphlaw05_works.f k).bind fun t488 => (some t488)) else ((layout_Reshape.f k x485000 x485001 x486000 x486001).bind fun bt489 => ((triglyphref05_Reshape.f k x485000 x485001 x486000 x486001).bind fun bt497 => (if bt489.2.2 = bt497.2.2 then ((triglyphref03_Same.f k bt489.1 bt489.2.1 bt497.1 bt497.2.1).bind fun t505 => (if t505 = true then ((triglyphlaw05_works.f k).bind fun t506 => (some t506)) else (none))) else (none))))
def triglyphlaw05_LayoutReshapes.f (k : Nat) (l0_0 : List Int) (l0_1 : List (S39)) (l1_0 : List Int) (l1_1 : List (S39)) : Option (Bool) := (triglyphlaw05_light.f k l0_0 l0_1).bind fun t486 => (if t486 = true then ((triglyphlaw05_light.f k l1_0 l1_1).bind fun t487 => (triglyphlaw05_LayoutReshapes.j0 k (!t487) l0_0 l0_1 l1_0 l1_1)) else (triglyphlaw05_LayoutReshapes.j0 k true l0_0 l0_1 l1_0 l1_1))
theorem triglyphlaw05_LayoutReshapes.mono_l : ∀ k, (∀ y0 y1 y2 y3 y4, LeO (triglyphlaw05_LayoutReshapes.j0 k y0 y1 y2 y3 y4) (triglyphlaw05_LayoutReshapes.j0 (k + 1) y0 y1 y2 y3 y4))
 | 0 => fun _ _ _ _ _ r h => by simp [triglyphlaw05_LayoutReshapes.j0] at h
 | k + 1 => by
  have ih0 := triglyphlaw05_LayoutReshapes.mono_l k
  ·intro y0 y1 y2 y3 y4
   unfold triglyphlaw05_LayoutReshapes.j0
   repeat' first
   | (with_reducible exact ih0 _ _ _ _ _)
   | (with_reducible exact layout_Reshape.mono _ _ _ _ _)
   | (with_reducible exact triglyphlaw05_light.mono _ _ _)
   | (with_reducible exact triglyphlaw05_works.mono _)
   | (with_reducible exact triglyphref03_Same.mono _ _ _ _ _)
   | (with_reducible exact triglyphref05_Reshape.mono _ _ _ _ _)
   | (with_reducible exact LeO.refl _)
   | (with_reducible exact LeO.none _)
   | (with_reducible refine LeO.ite ?_ ?_)
   | (with_reducible refine LeO.bind ?_ (fun _ => ?_))

   | exact layout_Reshape.mono _ _ _ _ _
   | exact triglyphlaw05_light.mono _ _ _
   | exact triglyphlaw05_works.mono _
   | exact triglyphref03_Same.mono _ _ _ _ _
   | exact triglyphref05_Reshape.mono _ _ _ _ _
theorem triglyphlaw05_LayoutReshapes.mono : ∀ a0 a1 a2 a3 k, LeO (triglyphlaw05_LayoutReshapes.f k a0 a1 a2 a3) (triglyphlaw05_LayoutReshapes.f (k + 1) a0 a1 a2 a3) := by
 intro a0 a1 a2 a3 k
 have ih0 := triglyphlaw05_LayoutReshapes.mono_l k
 unfold triglyphlaw05_LayoutReshapes.f
 repeat' first
   | (with_reducible exact ih0 _ _ _ _ _)
   | (with_reducible exact layout_Reshape.mono _ _ _ _ _)
   | (with_reducible exact triglyphlaw05_light.mono _ _ _)
   | (with_reducible exact triglyphlaw05_works.mono _)
   | (with_reducible exact triglyphref03_Same.mono _ _ _ _ _)
   | (with_reducible exact triglyphref05_Reshape.mono _ _ _ _ _)
   | (with_reducible exact LeO.refl _)
   | (with_reducible exact LeO.none _)
   | (with_reducible refine LeO.ite ?_ ?_)
   | (with_reducible refine LeO.bind ?_ (fun _ => ?_))

   | exact layout_Reshape.mono _ _ _ _ _
   | exact triglyphlaw05_light.mono _ _ _
   | exact triglyphlaw05_works.mono _
   | exact triglyphref03_Same.mono _ _ _ _ _
   | exact triglyphref05_Reshape.mono _ _ _ _ _
set_option maxHeartbeats 8000000 in
set_option maxRecDepth 100000 in
theorem triglyphlaw05_LayoutReshapes.calls (k : Nat) (A0_0 : Option Addr) (c0_0 : Nat) (l0_0 : List Int) (A0_1 : Option Addr) (c0_1 : Nat) (l0_1 : List (S39)) (A1_0 : Option Addr) (c1_0 : Nat) (l1_0 : List Int) (A1_1 : Option Addr) (c1_1 : Nat) (l1_1 : List (S39)) (r : Bool) (w : World) (hr0_0 : Kd.C (Kd.int .i64) w A0_0 l0_0.length l0_0) (hc0_0 : l0_0.length ≤ c0_0) (hr0_1 : Kd.C k39 w A0_1 l0_1.length l0_1) (hc0_1 : l0_1.length ≤ c0_1) (hr1_0 : Kd.C (Kd.int .i64) w A1_0 l1_0.length l1_0) (hc1_0 : l1_0.length ≤ c1_0) (hr1_1 : Kd.C k39 w A1_1 l1_1.length l1_1) (hc1_1 : l1_1.length ≤ c1_1) (h : triglyphlaw05_LayoutReshapes.f k l0_0 l0_1 l1_0 l1_1 = some r) :
  Calls Try.prog 4 #[.agg #[.slice A0_0 l0_0.length c0_0, .slice A0_1 l0_1.length c0_1], .agg #[.slice A1_0 l1_0.length c1_0, .slice A1_1 l1_1.length c1_1]] w fun e w' => e = .returned (.bool r) ∧ Below w.heap.size w w' := by
 have hu25 := Try.underlying25
 have HR0_0 := gA hr0_0
 have HC0_0 := gA hc0_0
 clear hr0_0 hc0_0
 have HR0_1 := gA hr0_1
 have HC0_1 := gA hc0_1
 clear hr0_1 hc0_1
 have HR1_0 := gA hr1_0
 have HC1_0 := gA hc1_0
 clear hr1_0 hc1_0
 have HR1_1 := gA hr1_1
 have HC1_1 := gA hc1_1
 clear hr1_1 hc1_1
 have HB := gA (Below.refl w.heap.size w)
 have H : ((triglyphlaw05_light.f k l0_0 l0_1).bind fun t486 => (if t486 = true then ((triglyphlaw05_light.f k l1_0 l1_1).bind fun t487 => (triglyphlaw05_LayoutReshapes.j0 k (!t487) l0_0 l0_1 l1_0 l1_1)) else (triglyphlaw05_LayoutReshapes.j0 k true l0_0 l0_1 l1_0 l1_1))) = some r := h
 clear h
 have HC3 := gA H
 clear H
 go_enter Try.func4, Try.ntmps4
 go_upto_region 1 with (first | ((with_reducible refine gate_dst (N := 2) rfl ?_); refine box_event ?hg (N := 2) ?hd (cs := #[.slice A0_0 l0_0.length c0_0, .slice A0_1 l0_1.length c0_1]) (t := 25) ?hr ?_; (case hd => rfl); (case hg => rfl); (case hr => first | (go_simp; done) | (go_simp; rfl)); intro gb484 hg w4 hbox hb; have BK484 := gA (hbox); have GW484 := gA ((by rw [hg]; exact (below_size (gB HB)) : w.heap.size ≤ gb484)); have GE484 := gA ((by rw [hg]; exact (below_size (gB HB)) : w.heap.size ≤ gb484)); replace HB := gA (below_step (gB HB) hb); clear hb hbox hg) | ((with_reducible refine gate_dst (N := 3) rfl ?_); refine box_event ?hg (N := 3) ?hd (cs := #[.slice A1_0 l1_0.length c1_0, .slice A1_1 l1_1.length c1_1]) (t := 25) ?hr ?_; (case hd => rfl); (case hg => rfl); (case hr => first | (go_simp; done) | (go_simp; rfl)); intro gb485 hg w5 hbox hb; have BK485 := gA (hbox); have GW485 := gA ((by rw [hg]; exact (below_size (gB HB)) : w.heap.size ≤ gb485)); have GE485 := gA ((by rw [hg]; exact (below_size (gB HB)) : w.heap.size ≤ gb485)); replace HB := gA (below_step (gB HB) hb); have NB484_485 := gA ((by rw [hg]; exact Nat.ne_of_lt (blk_lt (gK BK484)) : gb484 ≠ gb485)); have NB485_484 := gA ((by rw [hg]; exact Nat.ne_of_gt (blk_lt (gK BK484)) : gb485 ≠ gb484)); replace BK484 := gA (blk_below (gK BK484) hb); clear hb hbox hg))
 (try simp only [Act.put, List.setIfInBounds_toArray, List.set_cons_zero, List.set_cons_succ])
 go_cut [16] (fun v16 wc => ∃ (kq : Nat) (x16_2 : Bool), v16 = .bool x16_2 ∧ Aside0 (triglyphlaw05_LayoutReshapes.j0 kq x16_2 l0_0 l0_1 l1_0 l1_1 = some r) ∧ Aside0 (kq ≤ k) ∧ Aside0 (wc.heap[gb484]? = some (.cells #[(.slice A0_0 l0_0.length c0_0), (.slice A0_1 l0_1.length c0_1)] 25 (0, 0))) ∧ Aside0 (wc.heap[gb485]? = some (.cells #[(.slice A1_0 l1_0.length c1_0), (.slice A1_1 l1_1.length c1_1)] 25 (0, 0))) ∧ Aside0 (Below w.heap.size w wc))
 case first =>
  have H := HC3.out; clear HC3
  replace H := Option.bind_eq_some_iff.mp H
  obtain ⟨t486, A60, H⟩ := H
  replace H : (if t486 = true then ((triglyphlaw05_light.f k l1_0 l1_1).bind fun t487 => (triglyphlaw05_LayoutReshapes.j0 k (!t487) l0_0 l0_1 l1_0 l1_1)) else (triglyphlaw05_LayoutReshapes.j0 k true l0_0 l0_1 l1_0 l1_1)) = some r := H
  have A6 := gA A60
  clear A60
  by_cases c7 : t486 = true
  ·subst c7
   have H1 : ((triglyphlaw05_light.f k l1_0 l1_1).bind fun t487 => (triglyphlaw05_LayoutReshapes.j0 k (!t487) l0_0 l0_1 l1_0 l1_1)) = some r := by rw [if_pos rfl] at H; exact H
   clear H; have H := H1; clear H1
   replace H := Option.bind_eq_some_iff.mp H
   obtain ⟨t487, A80, H⟩ := H
   replace H : (triglyphlaw05_LayoutReshapes.j0 k (!t487) l0_0 l0_1 l1_0 l1_1) = some r := H
   have A8 := gA A80
   clear A80
   have H' := gA H
   clear H
   have hnb9 := NB484_485.out
   have hnc9 := NB485_484.out
   obtain ⟨hcz10_0, hcz10_1, hfz10_0, hfz10_1⟩ := gz2 BK484
   go_wp2_with (first | ((with_reducible refine gate_callee (f := 9) rfl ?_); refine goesL_ (some 10) rfl rfl Try.func9 (by kernel_rfl) rfl #[.agg #[.slice A0_0 l0_0.length c0_0, .slice A0_1 l0_1.length c0_1]] rfl (by (try simp only [List.map_toArray, List.map_cons, List.map_nil]); first | done | rfl | (simp only [List.length_drop, List.length_take]; rfl)) ?_; (with_reducible refine (triglyphlaw05_light.calls k _ _ l0_0 _ _ l0_1 true _ ?side1 ?side2 ?side3 ?side4 A6.out).mono ?_); (case side1 => exact gC HR0_0 HB); (case side2 => exact HC0_0.out); (case side3 => exact gC HR0_1 HB); (case side4 => exact HC0_1.out); rintro e w11 ⟨rfl, hb⟩; refine ⟨_, rfl, ?_⟩; replace BK484 := gA (blk_below (gK BK484) hb); replace BK485 := gA (blk_below (gK BK485) hb); replace HB := gA (below_step (gB HB) hb); (try clear hb); obtain ⟨hcz12_0, hcz12_1, hfz12_0, hfz12_1⟩ := gz2 BK485) | (go_at_call 9; (with_reducible refine (triglyphlaw05_light.calls k _ _ l1_0 _ _ l1_1 t487 _ ?side1 ?side2 ?side3 ?side4 A8.out).mono ?_); (case side1 => exact gC HR1_0 HB); (case side2 => exact HC1_0.out); (case side3 => exact gC HR1_1 HB); (case side4 => exact HC1_1.out); rintro e w13 ⟨rfl, hb⟩; replace BK484 := gA (blk_below (gK BK484) hb); replace BK485 := gA (blk_below (gK BK485) hb); replace HB := gA (below_step (gB HB) hb); (try clear hb)))
   all_goals (go_meet; (case rel => exact ⟨_, (!t487), (by first | rfl | (simp; done) | (simp [*]; done) | (exfalso; simp_all; done) | (exfalso; simp_all; omega)), H', ⟨by first | omega | exact Nat.le_refl _⟩, ⟨gK BK484⟩, ⟨gK BK485⟩, ⟨gB HB⟩⟩))
  ·replace c7 := Bool.eq_false_iff.mpr c7
   subst c7
   have H1 : (triglyphlaw05_LayoutReshapes.j0 k true l0_0 l0_1 l1_0 l1_1) = some r := by rw [if_neg (show ¬ (false = true) by decide)] at H; exact H
   clear H; have H := H1; clear H1
   have H' := gA H
   clear H
   have hnb14 := NB484_485.out
   have hnc14 := NB485_484.out
   obtain ⟨hcz15_0, hcz15_1, hfz15_0, hfz15_1⟩ := gz2 BK484
   go_wp2_with (first | ((with_reducible refine gate_callee (f := 9) rfl ?_); refine goesL_ (some 10) rfl rfl Try.func9 (by kernel_rfl) rfl #[.agg #[.slice A0_0 l0_0.length c0_0, .slice A0_1 l0_1.length c0_1]] rfl (by (try simp only [List.map_toArray, List.map_cons, List.map_nil]); first | done | rfl | (simp only [List.length_drop, List.length_take]; rfl)) ?_; (with_reducible refine (triglyphlaw05_light.calls k _ _ l0_0 _ _ l0_1 false _ ?side1 ?side2 ?side3 ?side4 A6.out).mono ?_); (case side1 => exact gC HR0_0 HB); (case side2 => exact HC0_0.out); (case side3 => exact gC HR0_1 HB); (case side4 => exact HC0_1.out); rintro e w16 ⟨rfl, hb⟩; refine ⟨_, rfl, ?_⟩; replace BK484 := gA (blk_below (gK BK484) hb); replace BK485 := gA (blk_below (gK BK485) hb); replace HB := gA (below_step (gB HB) hb); (try clear hb)))
   all_goals (go_meet; (case rel => exact ⟨_, (true), (by first | rfl | (simp; done) | (simp [*]; done) | (exfalso; simp_all; done) | (exfalso; simp_all; omega)), H', ⟨by first | omega | exact Nat.le_refl _⟩, ⟨gK BK484⟩, ⟨gK BK485⟩, ⟨gB HB⟩⟩))
 case rest =>
  clear HC3
  try clear c1
  try clear p2
  try clear c4
  try clear c7
  try clear c9
  try clear c14
  try clear hcz10_0
  try clear hcz10_1
  try clear hcz12_0
  try clear hcz12_1
  try clear hcz15_0
  try clear hcz15_1
  try clear hfz10_0
  try clear hfz10_1
  try clear hfz12_0
  try clear hfz12_1
  try clear hfz15_0
  try clear hfz15_1
  obtain ⟨kq, x16_2, rfl, HA, HJ2, BK484, BK485, HB⟩ := hcut
  cases kq with
  | zero => exact absurd HA.out (by simp [triglyphlaw05_LayoutReshapes.j0])
  | succ kj2 =>
   have H := HA.out; clear HA
   simp only [triglyphlaw05_LayoutReshapes.j0] at H
   by_cases c17 : x16_2 = true
   ·subst c17
    have H1 : ((triglyphlaw05_works.f kj2).bind fun t488 => (some t488)) = some r := by rw [if_pos rfl] at H; exact H
    clear H; have H := H1; clear H1
    replace H := Option.bind_eq_some_iff.mp H
    obtain ⟨t488, A180, H⟩ := H
    replace H : (some t488) = some r := H
    have A18 := gA A180
    clear A180
    obtain rfl := Option.some.inj H
    go_wp2_with (first | ((with_reducible refine gate_callee (f := 10) rfl ?_); refine goesL_ (some 17) rfl rfl Try.func10 (by kernel_rfl) rfl #[] rfl (by (try simp only [List.map_toArray, List.map_cons, List.map_nil]); first | done | rfl | (simp only [List.length_drop, List.length_take]; rfl)) ?_; (with_reducible refine (triglyphlaw05_works.calls kj2  t488 _ A18.out).mono ?_); rintro e w19 ⟨rfl, hb⟩; refine ⟨_, rfl, ?_⟩; replace BK484 := gA (blk_below (gK BK484) hb); replace BK485 := gA (blk_below (gK BK485) hb); replace HB := gA (below_step (gB HB) hb); (try clear hb)))
    go_ret
    exact ⟨rfl, by repeat first | exact gB HB | refine below_set ?_ GE484.out | refine below_set ?_ GE485.out⟩
   ·replace c17 := Bool.eq_false_iff.mpr c17
    subst c17
    have H1 : ((layout_Reshape.f kj2 l0_0 l0_1 l1_0 l1_1).bind fun bt489 => ((triglyphref05_Reshape.f kj2 l0_0 l0_1 l1_0 l1_1).bind fun bt497 => (if bt489.2.2 = bt497.2.2 then ((triglyphref03_Same.f kj2 bt489.1 bt489.2.1 bt497.1 bt497.2.1).bind fun t505 => (if t505 = true then ((triglyphlaw05_works.f kj2).bind fun t506 => (some t506)) else (none))) else (none)))) = some r := by rw [if_neg (show ¬ (false = true) by decide)] at H; exact H
    clear H; have H := H1; clear H1
    replace H := Option.bind_eq_some_iff.mp H
    obtain ⟨⟨t489, t492, t495⟩, A200, H⟩ := H
    replace H : ((triglyphref05_Reshape.f kj2 l0_0 l0_1 l1_0 l1_1).bind fun bt497 => (if t495 = bt497.2.2 then ((triglyphref03_Same.f kj2 t489 t492 bt497.1 bt497.2.1).bind fun t505 => (if t505 = true then ((triglyphlaw05_works.f kj2).bind fun t506 => (some t506)) else (none))) else (none))) = some r := H
    have A20 := gA A200
    clear A200
    replace H := Option.bind_eq_some_iff.mp H
    obtain ⟨⟨t497, t500, t503⟩, A210, H⟩ := H
    replace H : (if t495 = t503 then ((triglyphref03_Same.f kj2 t489 t492 t497 t500).bind fun t505 => (if t505 = true then ((triglyphlaw05_works.f kj2).bind fun t506 => (some t506)) else (none))) else (none)) = some r := H
    have A21 := gA A210
    clear A210
    obtain ⟨c22, H⟩ := iS H
    have c22b0 : (t495 == t503) = true := beq_iff_eq.mpr c22
    have c22b1 : (t495 != t503) = false := bne_eq_false_iff_eq.mpr c22
    clear c22
    replace H := Option.bind_eq_some_iff.mp H
    obtain ⟨t505, A230, H⟩ := H
    replace H : (if t505 = true then ((triglyphlaw05_works.f kj2).bind fun t506 => (some t506)) else (none)) = some r := H
    have A23 := gA A230
    clear A230
    by_cases c24 : t505 = true
    ·subst c24
     have H1 : ((triglyphlaw05_works.f kj2).bind fun t506 => (some t506)) = some r := by rw [if_pos rfl] at H; exact H
     clear H; have H := H1; clear H1
     replace H := Option.bind_eq_some_iff.mp H
     obtain ⟨t506, A250, H⟩ := H
     replace H : (some t506) = some r := H
     have A25 := gA A250
     clear A250
     obtain rfl := Option.some.inj H
     have hnb26 := NB484_485.out
     have hnc26 := NB485_484.out
     obtain ⟨hcz27_0, hcz27_1, hfz27_0, hfz27_1⟩ := gz2 BK484
     obtain ⟨hcz28_0, hcz28_1, hfz28_0, hfz28_1⟩ := gz2 BK485
     go_wp2_with (first | ((with_reducible refine gate_callee (f := 14) rfl ?_); refine goesL_ (some 21) rfl rfl Try.func14 (by kernel_rfl) rfl #[.agg #[.slice A0_0 l0_0.length c0_0, .slice A0_1 l0_1.length c0_1], .agg #[.slice A1_0 l1_0.length c1_0, .slice A1_1 l1_1.length c1_1]] rfl (by (try simp only [List.map_toArray, List.map_cons, List.map_nil]); first | done | rfl | (simp only [List.length_drop, List.length_take]; rfl)) ?_; (with_reducible refine (layout_Reshape.calls kj2 (fun k_ => k_ < w.heap.size) _ _ l0_0 (fun k_ => k_ < w.heap.size) _ _ l0_1 (fun k_ => k_ < w.heap.size) _ _ l1_0 (fun k_ => k_ < w.heap.size) _ _ l1_1 t489 t492 t495 _ ?side1 ?side2 ?side3 ?side4 A20.out).mono ?_); (case side1 => exact Kd.V_mk HC0_0.out (Kd.F_below (Kd.C_F (Kd.heap_int .i64) HR0_0.out) (gB HB))); (case side2 => exact Kd.V_mk HC0_1.out (Kd.F_below (Kd.C_F k39_heap HR0_1.out) (gB HB))); (case side3 => exact Kd.V_mk HC1_0.out (Kd.F_below (Kd.C_F (Kd.heap_int .i64) HR1_0.out) (gB HB))); (case side4 => exact Kd.V_mk HC1_1.out (Kd.F_below (Kd.C_F k39_heap HR1_1.out) (gB HB))); rintro e w29 ⟨v490, v493, rfl, ho0, ho1, hb⟩; refine ⟨_, rfl, ?_⟩; have HO491 := gA (Kd.R_lower (Kd.R_mono (ok' := fun k_ => True) ho0 (fun _ hk_ => trivial)) (below_size (gB HB))); have HO494 := gA (Kd.N_lower (Kd.N_mono (ok' := fun k_ => some k_ ≠ (v490 : Value).ownBlock ∧ k_ ≠ gb484 ∧ k_ ≠ gb485) ho1 (fun k_ hk_ => ⟨hk_.2, Or.elim hk_.1 (fun hs_ => Or.elim hs_ (fun hs_ => fun e_ => Nat.not_le.2 hs_ (by rw [e_]; exact GW484.out)) (fun hs_ => Or.elim hs_ (fun hs_ => fun e_ => Nat.not_le.2 hs_ (by rw [e_]; exact GW484.out)) (fun hs_ => Or.elim hs_ (fun hs_ => fun e_ => Nat.not_le.2 hs_ (by rw [e_]; exact GW484.out)) (fun hs_ => fun e_ => Nat.not_le.2 hs_ (by rw [e_]; exact GW484.out))))) (fun hn_ => (Kd.freshB (gK BK484) k_ hn_)), Or.elim hk_.1 (fun hs_ => Or.elim hs_ (fun hs_ => fun e_ => Nat.not_le.2 hs_ (by rw [e_]; exact GW485.out)) (fun hs_ => Or.elim hs_ (fun hs_ => fun e_ => Nat.not_le.2 hs_ (by rw [e_]; exact GW485.out)) (fun hs_ => Or.elim hs_ (fun hs_ => fun e_ => Nat.not_le.2 hs_ (by rw [e_]; exact GW485.out)) (fun hs_ => fun e_ => Nat.not_le.2 hs_ (by rw [e_]; exact GW485.out))))) (fun hn_ => (Kd.freshB (gK BK485) k_ hn_))⟩)) (below_size (gB HB))); replace BK484 := gA (blk_below (gK BK484) hb); replace BK485 := gA (blk_below (gK BK485) hb); replace HB := gA (below_step (gB HB) hb); (try clear hb); (try clear ho0); (try clear ho1)) | ((with_reducible refine gate_dst (N := 5) rfl ?_); refine box_event ?hg (N := 5) ?hd (cs := #[.slice none 0 0, .slice none 0 0]) (t := 25) ?hr ?_; (case hd => rfl); (case hg => rfl); (case hr => first | (go_simp; done) | (go_simp; rfl)); intro gb496 hg w30 hbox hb; replace HO491 := gA (Kd.R_below (gR HO491) hb); replace HO494 := gA (Kd.N_below (Kd.N_elderB (gN HO494) gb496 (Nat.le_of_eq hg.symm)) hb); have BK496 := gA (hbox); have GW496 := gA ((by rw [hg]; exact (below_size (gB HB)) : w.heap.size ≤ gb496)); have GE496 := gA ((by rw [hg]; exact (below_size (gB HB)) : w.heap.size ≤ gb496)); replace HB := gA (below_step (gB HB) hb); have NB484_496 := gA ((by rw [hg]; exact Nat.ne_of_lt (blk_lt (gK BK484)) : gb484 ≠ gb496)); have NB496_484 := gA ((by rw [hg]; exact Nat.ne_of_gt (blk_lt (gK BK484)) : gb496 ≠ gb484)); replace BK484 := gA (blk_below (gK BK484) hb); have NB485_496 := gA ((by rw [hg]; exact Nat.ne_of_lt (blk_lt (gK BK485)) : gb485 ≠ gb496)); have NB496_485 := gA ((by rw [hg]; exact Nat.ne_of_gt (blk_lt (gK BK485)) : gb496 ≠ gb485)); replace BK485 := gA (blk_below (gK BK485) hb); clear hb hbox hg; obtain ⟨Ao31, co31, eo31⟩ := Kd.R_slice HO491.out; subst eo31; have hnb32 := NB496_484.out; have hnc32 := NB484_496.out; have hnb33 := NB496_485.out; have hnc33 := NB485_496.out; obtain ⟨hcz34_0, hcz34_1, hfz34_0, hfz34_1⟩ := gz2 BK496; obtain ⟨Ao35, co35, eo35⟩ := Kd.N_slice HO494.out; subst eo35) | ((with_reducible refine gate_store (t := 25) (p := 5) rfl ?_); refine store_event (t := 25) (p := 5) (v := ?vo_w36) (w1 := ((w30.setCell ⟨gb496, 0, none⟩ (.slice Ao31 t489.length co31)).setCell ⟨gb496, 1, none⟩ (.slice Ao35 t492.length co35))) ?hg ?ho ?hn ?hr ?_; (case ho => rfl); (case hg => rfl); (case hn => rfl); (case hr => first | (go_simp; done) | (go_simp; rfl)); intro w36 hw; have n0_ : Aside0 (Kd.R (Kd.int .i64) 3 w36 w.heap.size (fun _ => True) (.slice Ao31 t489.length co31) t489) := ⟨(by rw [hw]; exact (Kd.R_mono (Kd.R_far (p := ⟨gb496, 1, none⟩) (Kd.R_far (p := ⟨gb496, 0, none⟩) (Kd.R_types HO491.out BK496.out (by decide)) (fun _ hk => hk.2) (.slice Ao31 t489.length co31)) (fun _ hk => hk.2) (.slice Ao35 t492.length co35)) (fun _ hk => trivial)))⟩; have n1_ : Aside0 (Kd.N k39 39 w36 w.heap.size (fun k_ => some k_ ≠ (.slice Ao31 t489.length co31 : Value).ownBlock ∧ k_ ≠ gb484 ∧ k_ ≠ gb485 ∧ k_ ≠ gb496) (.slice Ao35 t492.length co35) t492) := ⟨(by rw [hw]; exact (Kd.N_mono (Kd.N_far (p := ⟨gb496, 1, none⟩) (Kd.N_far (p := ⟨gb496, 0, none⟩) (Kd.N_mono HO494.out (fun k_ hk => (⟨hk, hk.2⟩ : _ ∧ k_ ≠ gb496))) (fun _ hk => hk.2) (.slice Ao31 t489.length co31)) (fun _ hk => hk.2) (.slice Ao35 t492.length co35)) (fun _ hk => by first | exact ⟨hk.1.1.1, ⟨hk.1.1.2.1, ⟨hk.1.1.2.2, hk.1.2⟩⟩⟩ | (simp_all; done))))⟩; have n2_ : Aside0 (w36.heap[gb484]? = some (.cells #[.slice A0_0 l0_0.length c0_0, .slice A0_1 l0_1.length c0_1] 25 (0, 0))) := ⟨(by rw [hw]; exact (by refine blk_far ?_ NB484_496.out _; refine blk_far ?_ NB484_496.out _; exact gK BK484))⟩; have n3_ : Aside0 (w36.heap[gb485]? = some (.cells #[.slice A1_0 l1_0.length c1_0, .slice A1_1 l1_1.length c1_1] 25 (0, 0))) := ⟨(by rw [hw]; exact (by refine blk_far ?_ NB485_496.out _; refine blk_far ?_ NB485_496.out _; exact gK BK485))⟩; have n4_ : Aside0 (w36.heap[gb496]? = some (.cells #[.slice Ao31 t489.length co31, .slice Ao35 t492.length co35] 25 (0, 0))) := ⟨(by rw [hw]; exact (by refine blk_put (cs := #[.slice Ao31 t489.length co31, .slice none 0 0]) ?_ 1 _ rfl; refine blk_put (cs := #[.slice none 0 0, .slice none 0 0]) ?_ 0 _ rfl; exact gK BK496))⟩; have n5_ : Aside0 (Below w.heap.size w w36) := ⟨(by rw [hw]; exact (by repeat (first | (with_reducible first | exact HB.out | apply below_alloc | apply pw_below_drewN | apply below_drew1 | refine below_set ?_ GE484.out | refine below_set ?_ GE485.out | refine below_set ?_ GE496.out) | exact HB.out)))⟩; clear hw HO491 HO494 BK484 BK485 BK496 HB; have HO491 := n0_; have HO494 := n1_; have BK484 := n2_; have BK485 := n3_; have BK496 := n4_; have HB := n5_; clear n0_ n1_ n2_ n3_ n4_ n5_; obtain ⟨hcz37_0, hcz37_1, hfz37_0, hfz37_1⟩ := gz2 BK484; obtain ⟨hcz38_0, hcz38_1, hfz38_0, hfz38_1⟩ := gz2 BK485) | ((with_reducible refine gate_callee (f := 15) rfl ?_); refine goesL_ (some 27) rfl rfl Try.func15 (by kernel_rfl) rfl #[.agg #[.slice A0_0 l0_0.length c0_0, .slice A0_1 l0_1.length c0_1], .agg #[.slice A1_0 l1_0.length c1_0, .slice A1_1 l1_1.length c1_1]] rfl (by (try simp only [List.map_toArray, List.map_cons, List.map_nil]); first | done | rfl | (simp only [List.length_drop, List.length_take]; rfl)) ?_; (with_reducible refine (triglyphref05_Reshape.calls kj2 _ _ l0_0 _ _ l0_1 _ _ l1_0 (fun k_ => k_ < w.heap.size) _ _ l1_1 t497 t500 t503 _ ?side1 ?side2 ?side3 ?side4 ?side5 ?side6 ?side7 A21.out).mono ?_); (case side1 => exact gC HR0_0 HB); (case side2 => exact HC0_0.out); (case side3 => exact gC HR0_1 HB); (case side4 => exact HC0_1.out); (case side5 => exact gC HR1_0 HB); (case side6 => exact HC1_0.out); (case side7 => exact Kd.V_mk HC1_1.out (Kd.F_below (Kd.C_F k39_heap HR1_1.out) (gB HB))); rintro e w39 ⟨v498, v501, rfl, ho0, ho1, hb⟩; refine ⟨_, rfl, ?_⟩; have HO499 := gA (Kd.R_lower (Kd.R_new' (Kd.R_mono (ok' := fun k_ => True) ho0 (fun _ hk_ => trivial)) (Kd.R_lt (gR HO491))) (below_size (gB HB))); have HO502 := gA (Kd.N_lower (Kd.N_mono (ok' := fun k_ => some k_ ≠ (v498 : Value).ownBlock ∧ some k_ ≠ (.slice Ao31 t489.length co31 : Value).ownBlock ∧ some k_ ≠ (.slice Ao35 t492.length co35 : Value).ownBlock ∧ k_ ≠ gb484 ∧ k_ ≠ gb485 ∧ k_ ≠ gb496) ho1 (fun k_ hk_ => ⟨hk_.2, Or.elim hk_.1 (fun hs_ => fun e_ => Nat.not_le.2 hs_ (Kd.R_base HO491.out k_ e_.symm)) (fun hn_ => (Kd.fresh' (Kd.R_lt (gR HO491)) k_ hn_)), Or.elim hk_.1 (fun hs_ => fun e_ => Nat.not_le.2 hs_ (Kd.N_base HO494.out k_ e_.symm)) (fun hn_ => (Kd.fresh' (Kd.N_lt (gN HO494)) k_ hn_)), Or.elim hk_.1 (fun hs_ => fun e_ => Nat.not_le.2 hs_ (by rw [e_]; exact GW484.out)) (fun hn_ => (Kd.freshB (gK BK484) k_ hn_)), Or.elim hk_.1 (fun hs_ => fun e_ => Nat.not_le.2 hs_ (by rw [e_]; exact GW485.out)) (fun hn_ => (Kd.freshB (gK BK485) k_ hn_)), Or.elim hk_.1 (fun hs_ => fun e_ => Nat.not_le.2 hs_ (by rw [e_]; exact GW496.out)) (fun hn_ => (Kd.freshB (gK BK496) k_ hn_))⟩)) (below_size (gB HB))); replace HO491 := gA (Kd.R_elder' (gR HO491) (Kd.R_base ho0) hb); replace HO494 := gA (Kd.N_mono (Kd.N_told (Kd.N_told (Kd.N_old (gN HO494) hb) (Kd.R_base ho0)) (by first | exact Kd.N_base ho1 | exact Kd.R_base ho1)) (fun _ h_ => h_.1)); replace BK484 := gA (blk_below (gK BK484) hb); replace BK485 := gA (blk_below (gK BK485) hb); replace BK496 := gA (blk_below (gK BK496) hb); replace HB := gA (below_step (gB HB) hb); (try clear hb); (try clear ho0); (try clear ho1)) | ((with_reducible refine gate_dst (N := 7) rfl ?_); refine box_event ?hg (N := 7) ?hd (cs := #[.slice none 0 0, .slice none 0 0]) (t := 25) ?hr ?_; (case hd => rfl); (case hg => rfl); (case hr => first | (go_simp; done) | (go_simp; rfl)); intro gb504 hg w40 hbox hb; replace HO491 := gA (Kd.R_below (gR HO491) hb); replace HO494 := gA (Kd.N_below (Kd.N_elderB (gN HO494) gb504 (Nat.le_of_eq hg.symm)) hb); replace HO499 := gA (Kd.R_below (gR HO499) hb); replace HO502 := gA (Kd.N_below (Kd.N_elderB (gN HO502) gb504 (Nat.le_of_eq hg.symm)) hb); have BK504 := gA (hbox); have GW504 := gA ((by rw [hg]; exact (below_size (gB HB)) : w.heap.size ≤ gb504)); have GE504 := gA ((by rw [hg]; exact (below_size (gB HB)) : w.heap.size ≤ gb504)); replace HB := gA (below_step (gB HB) hb); have NB484_504 := gA ((by rw [hg]; exact Nat.ne_of_lt (blk_lt (gK BK484)) : gb484 ≠ gb504)); have NB504_484 := gA ((by rw [hg]; exact Nat.ne_of_gt (blk_lt (gK BK484)) : gb504 ≠ gb484)); replace BK484 := gA (blk_below (gK BK484) hb); have NB485_504 := gA ((by rw [hg]; exact Nat.ne_of_lt (blk_lt (gK BK485)) : gb485 ≠ gb504)); have NB504_485 := gA ((by rw [hg]; exact Nat.ne_of_gt (blk_lt (gK BK485)) : gb504 ≠ gb485)); replace BK485 := gA (blk_below (gK BK485) hb); have NB496_504 := gA ((by rw [hg]; exact Nat.ne_of_lt (blk_lt (gK BK496)) : gb496 ≠ gb504)); have NB504_496 := gA ((by rw [hg]; exact Nat.ne_of_gt (blk_lt (gK BK496)) : gb504 ≠ gb496)); replace BK496 := gA (blk_below (gK BK496) hb); clear hb hbox hg; obtain ⟨Ao41, co41, eo41⟩ := Kd.R_slice HO499.out; subst eo41; have hnb42 := NB504_484.out; have hnc42 := NB484_504.out; have hnb43 := NB504_485.out; have hnc43 := NB485_504.out; have hnb44 := NB504_496.out; have hnc44 := NB496_504.out; obtain ⟨hcz45_0, hcz45_1, hfz45_0, hfz45_1⟩ := gz2 BK504; obtain ⟨Ao46, co46, eo46⟩ := Kd.N_slice HO502.out; subst eo46; obtain ⟨hcz47_0, hcz47_1, hfz47_0, hfz47_1⟩ := gz2 BK496) | (go_at_call 13; (with_reducible refine (triglyphref03_Same.calls kj2 _ _ t489 _ _ t492 _ _ t497 _ _ t500 true _ ?side1 ?side2 ?side3 ?side4 ?side5 ?side6 ?side7 ?side8 A23.out).mono ?_); (case side1 => refine (Kd.R_reads' (e := 3) (base := w.heap.size) (ok := fun k_ => (True ∧ some k_ ≠ (.slice Ao41 t497.length co41 : Value).ownBlock)) (n := t489.length) (c := co31) ?_).2.2; exact (by (with_reducible repeat (first | apply Kd.R_alloc | apply Kd.R_drewN | apply Kd.R_drew)); exact (Kd.R_mono (Kd.R_far (p := ⟨gb504, 1, none⟩) (Kd.R_far (p := ⟨gb504, 0, none⟩) (Kd.R_types HO491.out BK504.out (by decide)) (fun _ hk => hk.2) (.slice Ao41 t497.length co41)) (fun _ hk => hk.2) (.slice Ao46 t500.length co46)) (fun _ h_ => h_.1)))); (case side2 => exact (Kd.R_reads' HO491.out).2.1); (case side3 => refine (Kd.N_reads' (e := 39) (base := w.heap.size) (ok := fun k_ => ((((some k_ ≠ (.slice Ao31 t489.length co31 : Value).ownBlock ∧ (k_ ≠ gb484 ∧ (k_ ≠ gb485 ∧ k_ ≠ gb496))) ∧ some k_ ≠ (.slice Ao41 t497.length co41 : Value).ownBlock) ∧ some k_ ≠ (.slice Ao46 t500.length co46 : Value).ownBlock) ∧ k_ ≠ gb504)) (n := t492.length) (c := co35) ?_).2.2; exact (by (with_reducible repeat (first | apply Kd.N_alloc | apply Kd.N_drewN | apply Kd.N_drew)); exact (Kd.N_mono (Kd.N_far (p := ⟨gb504, 1, none⟩) (Kd.N_far (p := ⟨gb504, 0, none⟩) (Kd.N_mono HO494.out (fun k_ hk => (⟨hk, hk.2⟩ : _ ∧ k_ ≠ gb504))) (fun _ hk => hk.2) (.slice Ao41 t497.length co41)) (fun _ hk => hk.2) (.slice Ao46 t500.length co46)) (fun _ h_ => h_.1)))); (case side4 => exact (Kd.N_reads' HO494.out).2.1); (case side5 => refine (Kd.R_reads' (e := 3) (base := w.heap.size) (ok := fun k_ => (True ∧ some k_ ≠ (.slice Ao31 t489.length co31 : Value).ownBlock)) (n := t497.length) (c := co41) ?_).2.2; exact (by (with_reducible repeat (first | apply Kd.R_alloc | apply Kd.R_drewN | apply Kd.R_drew)); exact (Kd.R_mono (Kd.R_far (p := ⟨gb504, 1, none⟩) (Kd.R_far (p := ⟨gb504, 0, none⟩) (Kd.R_types HO499.out BK504.out (by decide)) (fun _ hk => hk.2) (.slice Ao41 t497.length co41)) (fun _ hk => hk.2) (.slice Ao46 t500.length co46)) (fun _ h_ => h_.1)))); (case side6 => exact (Kd.R_reads' HO499.out).2.1); (case side7 => refine (Kd.N_reads' (e := 39) (base := w.heap.size) (ok := fun k_ => ((some k_ ≠ (.slice Ao41 t497.length co41 : Value).ownBlock ∧ (some k_ ≠ (.slice Ao31 t489.length co31 : Value).ownBlock ∧ (some k_ ≠ (.slice Ao35 t492.length co35 : Value).ownBlock ∧ (k_ ≠ gb484 ∧ (k_ ≠ gb485 ∧ k_ ≠ gb496))))) ∧ k_ ≠ gb504)) (n := t500.length) (c := co46) ?_).2.2; exact (by (with_reducible repeat (first | apply Kd.N_alloc | apply Kd.N_drewN | apply Kd.N_drew)); exact (Kd.N_mono (Kd.N_far (p := ⟨gb504, 1, none⟩) (Kd.N_far (p := ⟨gb504, 0, none⟩) (Kd.N_mono HO502.out (fun k_ hk => (⟨hk, hk.2⟩ : _ ∧ k_ ≠ gb504))) (fun _ hk => hk.2) (.slice Ao41 t497.length co41)) (fun _ hk => hk.2) (.slice Ao46 t500.length co46)) (fun _ h_ => h_.1)))); (case side8 => exact (Kd.N_reads' HO502.out).2.1); rintro e w48 ⟨rfl, hb⟩; replace HO491 := gA (Kd.R_below (by (with_reducible repeat (first | apply Kd.R_alloc | apply Kd.R_drewN | apply Kd.R_drew)); exact (Kd.R_mono (Kd.R_far (p := ⟨gb504, 1, none⟩) (Kd.R_far (p := ⟨gb504, 0, none⟩) (Kd.R_types HO491.out BK504.out (by decide)) (fun _ hk => hk.2) (.slice Ao41 t497.length co41)) (fun _ hk => hk.2) (.slice Ao46 t500.length co46)) (fun _ h_ => h_.1))) hb); replace HO494 := gA (Kd.N_below (by (with_reducible repeat (first | apply Kd.N_alloc | apply Kd.N_drewN | apply Kd.N_drew)); exact (Kd.N_mono (Kd.N_far (p := ⟨gb504, 1, none⟩) (Kd.N_far (p := ⟨gb504, 0, none⟩) (Kd.N_mono HO494.out (fun k_ hk => (⟨hk, hk.2⟩ : _ ∧ k_ ≠ gb504))) (fun _ hk => hk.2) (.slice Ao41 t497.length co41)) (fun _ hk => hk.2) (.slice Ao46 t500.length co46)) (fun _ h_ => h_.1))) hb); replace HO499 := gA (Kd.R_below (by (with_reducible repeat (first | apply Kd.R_alloc | apply Kd.R_drewN | apply Kd.R_drew)); exact (Kd.R_mono (Kd.R_far (p := ⟨gb504, 1, none⟩) (Kd.R_far (p := ⟨gb504, 0, none⟩) (Kd.R_types HO499.out BK504.out (by decide)) (fun _ hk => hk.2) (.slice Ao41 t497.length co41)) (fun _ hk => hk.2) (.slice Ao46 t500.length co46)) (fun _ h_ => h_.1))) hb); replace HO502 := gA (Kd.N_below (by (with_reducible repeat (first | apply Kd.N_alloc | apply Kd.N_drewN | apply Kd.N_drew)); exact (Kd.N_mono (Kd.N_far (p := ⟨gb504, 1, none⟩) (Kd.N_far (p := ⟨gb504, 0, none⟩) (Kd.N_mono HO502.out (fun k_ hk => (⟨hk, hk.2⟩ : _ ∧ k_ ≠ gb504))) (fun _ hk => hk.2) (.slice Ao41 t497.length co41)) (fun _ hk => hk.2) (.slice Ao46 t500.length co46)) (fun _ h_ => h_.1))) hb); replace BK484 := gA (blk_below (g := gb484) (o := .cells #[.slice A0_0 l0_0.length c0_0, .slice A0_1 l0_1.length c0_1] 25 (0, 0)) (by refine blk_far ?_ NB484_504.out _; refine blk_far ?_ NB484_504.out _; exact gK BK484) hb); replace BK485 := gA (blk_below (g := gb485) (o := .cells #[.slice A1_0 l1_0.length c1_0, .slice A1_1 l1_1.length c1_1] 25 (0, 0)) (by refine blk_far ?_ NB485_504.out _; refine blk_far ?_ NB485_504.out _; exact gK BK485) hb); replace BK496 := gA (blk_below (g := gb496) (o := .cells #[.slice Ao31 t489.length co31, .slice Ao35 t492.length co35] 25 (0, 0)) (by refine blk_far ?_ NB496_504.out _; refine blk_far ?_ NB496_504.out _; exact gK BK496) hb); replace BK504 := gA (blk_below (g := gb504) (o := .cells #[.slice Ao41 t497.length co41, .slice Ao46 t500.length co46] 25 (0, 0)) (by refine blk_put (cs := #[.slice Ao41 t497.length co41, .slice none 0 0]) ?_ 1 _ rfl; refine blk_put (cs := #[.slice none 0 0, .slice none 0 0]) ?_ 0 _ rfl; exact gK BK504) hb); replace HB := gA (below_step (by repeat first | exact gB HB | refine below_set ?_ GE484.out | refine below_set ?_ GE485.out | refine below_set ?_ GE496.out | refine below_set ?_ GE504.out) hb); (try clear hb); (try clear hk)) | (go_at_call 10; (with_reducible refine (triglyphlaw05_works.calls kj2  t506 _ A25.out).mono ?_); rintro e w49 ⟨rfl, hb⟩; replace HO491 := gA (Kd.R_below (gR HO491) hb); replace HO494 := gA (Kd.N_below (gN HO494) hb); replace HO499 := gA (Kd.R_below (gR HO499) hb); replace HO502 := gA (Kd.N_below (gN HO502) hb); replace BK484 := gA (blk_below (gK BK484) hb); replace BK485 := gA (blk_below (gK BK485) hb); replace BK496 := gA (blk_below (gK BK496) hb); replace BK504 := gA (blk_below (gK BK504) hb); replace HB := gA (below_step (gB HB) hb); (try clear hb); (try clear hk)))
     go_ret
     exact ⟨rfl, by repeat first | exact gB HB | refine below_set ?_ GE484.out | refine below_set ?_ GE485.out | refine below_set ?_ GE496.out | refine below_set ?_ GE504.out⟩
    ·replace c24 := Bool.eq_false_iff.mpr c24
     subst c24
     have H1 : (none) = some r := by rw [if_neg (show ¬ (false = true) by decide)] at H; exact H
     clear H; have H := H1; clear H1
     exact absurd H (by simp)
end Go.Proofs.Ytiegcghapchimaa.P
