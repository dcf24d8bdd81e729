/- Written by a program of this session: the functions that the laws reach, what each comes to, and each law as it is stated, for every input. No condition. -/
import Derived.Test.YtbijepjnbolpiaaPx0
import Derived.Test.YtbijepjnbolpiaaPx2
import Derived.Test.YtbijepjnbolpiaaPx5
import Derived.Test.YtbijepjnbolpiaaPx6
import Derived.Test.YtbijepjnbolpiaaPx7
import Derived.Test.YtbijepjnbolpiaaPx9
namespace Go.Proofs.Ytbijepjnbolpiaa.P
open Go.RowKit Go.Proofs.YtbijepjnbolpiaaW.PrintWords Go.Proofs.YtbijepjnbolpiaaW.PrintLast Go.Proofs.YtbijepjnbolpiaaW.PrintMore
attribute [local go_sem] max2_int min2_int max_two min_two max_three min_three max_four min_four   -- for this text's walks alone
set_option linter.unusedVariables false
set_option linter.unusedSimpArgs false
def triglyphref27_Show.j0 : Nat → Int → Bool → List Int → List (S40) → Option (ByteArray × Int)
 | 0, _, _, _, _ => none
 | k + 1, x0, x12, x381000, x381001 => if x12 = true then (some ((⟨#[]⟩ : ByteArray), 1)) else ((triglyphref03_Check.f k x381000 x381001).bind fun t381 => (if t381 = 0 then ((triglyphref27_text.f k x0 x381000 x381001).bind fun t382 => (some (t382, 0))) else (some ((⟨#[]⟩ : ByteArray), t381))))
def triglyphref27_Show.f (k : Nat) (a0 : Int) (l1_0 : List Int) (l1_1 : List (S40)) : Option (ByteArray × Int) := if a0 < 0 then (triglyphref27_Show.j0 k a0 true l1_0 l1_1) else (triglyphref27_Show.j0 k a0 (decide (a0 > 2)) l1_0 l1_1)
theorem triglyphref27_Show.mono_l : ∀ k, (∀ y0 y1 y2 y3, LeO (triglyphref27_Show.j0 k y0 y1 y2 y3) (triglyphref27_Show.j0 (k + 1) y0 y1 y2 y3))
 | 0 => fun _ _ _ _ r h => by simp [triglyphref27_Show.j0] at h
 | k + 1 => by
  have ih0 := triglyphref27_Show.mono_l k
  ·intro y0 y1 y2 y3
   unfold triglyphref27_Show.j0
   repeat' first
   | (with_reducible exact ih0 _ _ _ _)
   | (with_reducible exact triglyphref03_Check.mono _ _ _)
   | (with_reducible exact triglyphref27_text.mono _ _ _ _)
   | (with_reducible exact LeO.refl _)
   | (with_reducible exact LeO.none _)
   | (with_reducible refine LeO.ite ?_ ?_)
   | (with_reducible refine LeO.bind ?_ (fun _ => ?_))

   | exact triglyphref03_Check.mono _ _ _
   | exact triglyphref27_text.mono _ _ _ _
theorem triglyphref27_Show.mono : ∀ a0 a1 a2 k, LeO (triglyphref27_Show.f k a0 a1 a2) (triglyphref27_Show.f (k + 1) a0 a1 a2) := by
 intro a0 a1 a2 k
 have ih0 := triglyphref27_Show.mono_l k
 unfold triglyphref27_Show.f
 repeat' first
   | (with_reducible exact ih0 _ _ _ _)
   | (with_reducible exact triglyphref03_Check.mono _ _ _)
   | (with_reducible exact triglyphref27_text.mono _ _ _ _)
   | (with_reducible exact LeO.refl _)
   | (with_reducible exact LeO.none _)
   | (with_reducible refine LeO.ite ?_ ?_)
   | (with_reducible refine LeO.bind ?_ (fun _ => ?_))

   | exact triglyphref03_Check.mono _ _ _
   | exact triglyphref27_text.mono _ _ _ _
set_option maxHeartbeats 8000000 in
set_option maxRecDepth 100000 in
theorem triglyphref27_Show.calls (k : Nat) (a0 : Int) (A1_0 : Option Addr) (c1_0 : Nat) (l1_0 : List Int) (A1_1 : Option Addr) (c1_1 : Nat) (l1_1 : List (S40)) (r1 : ByteArray) (r2 : Int) (w : World) (hr1_0 : Kd.C (Kd.int .i64) w A1_0 l1_0.length l1_0) (hc1_0 : l1_0.length ≤ c1_0) (hr1_1 : Kd.C k40 w A1_1 l1_1.length l1_1) (hc1_1 : l1_1.length ≤ c1_1) (h : triglyphref27_Show.f k a0 l1_0 l1_1 = some (r1, r2)) :
  Calls Try.prog 9 #[.int .i64 a0, .agg #[.slice A1_0 l1_0.length c1_0, .slice A1_1 l1_1.length c1_1]] w fun e w' => e = .returned (.tuple #[.string r1, .int .i64 r2]) ∧ Below w.heap.size w w' := by
 have hu25 := Try.underlying25
 have HR1_0 := gA hr1_0
 have HC1_0 := gA hc1_0
 clear hr1_0 hc1_0
 have HR1_1 := gA hr1_1
 have HC1_1 := gA hc1_1
 clear hr1_1 hc1_1
 have HB := gA (Below.refl w.heap.size w)
 have H : (if a0 < 0 then (triglyphref27_Show.j0 k a0 true l1_0 l1_1) else (triglyphref27_Show.j0 k a0 (decide (a0 > 2)) l1_0 l1_1)) = some (r1, r2) := h
 clear h
 have HC3 := gA H
 clear H
 go_enter Try.func9, Try.ntmps9
 go_upto_region 1 with (first | ((with_reducible refine gate_dst (N := 3) rfl ?_); refine box_event ?hg (N := 3) ?hd (cs := #[.slice A1_0 l1_0.length c1_0, .slice A1_1 l1_1.length c1_1]) (t := 25) ?hr ?_; (case hd => rfl); (case hg => rfl); (case hr => first | (go_simp; done) | (go_simp; rfl)); intro gb380 hg w4 hbox hb; have BK380 := gA (hbox); have GW380 := gA ((by rw [hg]; exact (below_size (gB HB)) : w.heap.size ≤ gb380)); have GE380 := gA ((by rw [hg]; exact (below_size (gB HB)) : w.heap.size ≤ gb380)); replace HB := gA (below_step (gB HB) hb); clear hb hbox hg))
 (try simp only [Act.put, List.setIfInBounds_toArray, List.set_cons_zero, List.set_cons_succ])
 go_cut [12] (fun v12 wc => ∃ (kq : Nat) (x12_2 : Bool), v12 = .bool x12_2 ∧ Aside0 (triglyphref27_Show.j0 kq a0 x12_2 l1_0 l1_1 = some (r1, r2)) ∧ Aside0 (kq ≤ k) ∧ Aside0 (wc.heap[gb380]? = some (.cells #[(.slice A1_0 l1_0.length c1_0), (.slice A1_1 l1_1.length c1_1)] 25 (0, 0))) ∧ Aside0 (Below w.heap.size w wc))
 case first =>
  have H := HC3.out; clear HC3
  by_cases c5 : a0 < 0
  ·rw [if_pos c5] at H
   have c5b0 := decide_eq_true c5
   clear c5
   (first | rw [c5b0] | (simp only [i64_w, i32_w]; rw [c5b0]) | skip)
   have H' := gA H
   clear H
   go_wp2
   all_goals (go_meet; (case rel => exact ⟨_, (true), (by first | rfl | (simp; done) | (simp [*]; done) | (exfalso; simp_all; done) | (exfalso; simp_all; omega)), H', ⟨by first | omega | exact Nat.le_refl _⟩, ⟨gK BK380⟩, ⟨gB HB⟩⟩))
  ·rw [if_neg c5] at H
   have c5b0 := decide_eq_false c5
   clear c5
   (first | rw [c5b0] | (simp only [i64_w, i32_w]; rw [c5b0]) | skip)
   have H' := gA H
   clear H
   go_wp2
   all_goals (go_meet; (case rel => exact ⟨_, (decide (a0 > 2)), (by first | rfl | (simp; done) | (simp [*]; done) | (exfalso; simp_all; done) | (exfalso; simp_all; omega)), H', ⟨by first | omega | exact Nat.le_refl _⟩, ⟨gK BK380⟩, ⟨gB HB⟩⟩))
 case rest =>
  clear HC3
  try clear c1
  try clear p2
  try clear c5
  try clear c5b0
  obtain ⟨kq, x12_2, rfl, HA, HJ2, BK380, HB⟩ := hcut
  cases kq with
  | zero => exact absurd HA.out (by simp [triglyphref27_Show.j0])
  | succ kj2 =>
   have H := HA.out; clear HA
   simp only [triglyphref27_Show.j0] at H
   by_cases c6 : x12_2 = true
   ·subst c6
    have H1 : (some ((⟨#[]⟩ : ByteArray), 1)) = some (r1, r2) := by rw [if_pos rfl] at H; exact H
    clear H; have H := H1; clear H1
    simp only [Option.some.injEq, Prod.mk.injEq] at H
    obtain ⟨rfl, rfl⟩ := H
    go_wp2
    go_ret2
    exact ⟨rfl, by repeat first | exact gB HB | refine below_set ?_ GE380.out⟩
   ·replace c6 := Bool.eq_false_iff.mpr c6
    subst c6
    have H1 : ((triglyphref03_Check.f kj2 l1_0 l1_1).bind fun t381 => (if t381 = 0 then ((triglyphref27_text.f kj2 a0 l1_0 l1_1).bind fun t382 => (some (t382, 0))) else (some ((⟨#[]⟩ : ByteArray), t381)))) = some (r1, r2) := by rw [if_neg (show ¬ (false = true) by decide)] at H; exact H
    clear H; have H := H1; clear H1
    replace H := Option.bind_eq_some_iff.mp H
    obtain ⟨t381, A70, H⟩ := H
    replace H : (if t381 = 0 then ((triglyphref27_text.f kj2 a0 l1_0 l1_1).bind fun t382 => (some (t382, 0))) else (some ((⟨#[]⟩ : ByteArray), t381))) = some (r1, r2) := H
    have A7 := gA A70
    clear A70
    by_cases c8 : t381 = 0
    ·rw [if_pos c8] at H
     have c8b0 : (t381 == 0) = true := beq_iff_eq.mpr c8
     have c8b1 : (t381 != 0) = false := bne_eq_false_iff_eq.mpr c8
     clear c8
     replace H := Option.bind_eq_some_iff.mp H
     obtain ⟨t382, A90, H⟩ := H
     replace H : (some (t382, 0)) = some (r1, r2) := H
     have A9 := gA A90
     clear A90
     simp only [Option.some.injEq, Prod.mk.injEq] at H
     obtain ⟨rfl, rfl⟩ := H
     obtain ⟨hcz10_0, hcz10_1, hfz10_0, hfz10_1⟩ := gz2 BK380
     go_wp2_with (first | ((with_reducible refine gate_callee (f := 11) rfl ?_); refine goesL_ (some 14) rfl rfl Try.func11 (by kernel_rfl) rfl #[.agg #[.slice A1_0 l1_0.length c1_0, .slice A1_1 l1_1.length c1_1]] rfl (by (try simp only [List.map_toArray, List.map_cons, List.map_nil]); first | done | rfl | (simp only [List.length_drop, List.length_take]; rfl)) ?_; (with_reducible refine (triglyphref03_Check.calls kj2 _ _ l1_0 _ _ l1_1 t381 _ ?side1 ?side2 ?side3 ?side4 A7.out).mono ?_); (case side1 => exact gC HR1_0 HB); (case side2 => exact HC1_0.out); (case side3 => exact gC HR1_1 HB); (case side4 => exact HC1_1.out); rintro e w11 ⟨rfl, hb⟩; refine ⟨_, rfl, ?_⟩; replace BK380 := gA (blk_below (gK BK380) hb); replace HB := gA (below_step (gB HB) hb); (try clear hb); obtain ⟨hcz12_0, hcz12_1, hfz12_0, hfz12_1⟩ := gz2 BK380) | ((with_reducible refine gate_callee (f := 16) rfl ?_); refine goesL_ (some 20) rfl rfl Try.func16 (by kernel_rfl) rfl #[.int .i64 a0, .agg #[.slice A1_0 l1_0.length c1_0, .slice A1_1 l1_1.length c1_1]] rfl (by (try simp only [List.map_toArray, List.map_cons, List.map_nil]); first | done | rfl | (simp only [List.length_drop, List.length_take]; rfl)) ?_; (with_reducible refine (triglyphref27_text.calls kj2 a0 _ _ l1_0 _ _ l1_1 t382 _ ?side1 ?side2 ?side3 ?side4 A9.out).mono ?_); (case side1 => exact gC HR1_0 HB); (case side2 => exact HC1_0.out); (case side3 => exact gC HR1_1 HB); (case side4 => exact HC1_1.out); rintro e w13 ⟨rfl, hb⟩; refine ⟨_, rfl, ?_⟩; replace BK380 := gA (blk_below (gK BK380) hb); replace HB := gA (below_step (gB HB) hb); (try clear hb)))
     go_ret2
     exact ⟨rfl, by repeat first | exact gB HB | refine below_set ?_ GE380.out⟩
    ·rw [if_neg c8] at H
     have c8b0 : (t381 == 0) = false := beq_eq_false_iff_ne.mpr c8
     have c8b1 : (t381 != 0) = true := bne_iff_ne.mpr c8
     simp only [Option.some.injEq, Prod.mk.injEq] at H
     obtain ⟨rfl, rfl⟩ := H
     obtain ⟨hcz14_0, hcz14_1, hfz14_0, hfz14_1⟩ := gz2 BK380
     go_wp2_with (first | ((with_reducible refine gate_callee (f := 11) rfl ?_); refine goesL_ (some 14) rfl rfl Try.func11 (by kernel_rfl) rfl #[.agg #[.slice A1_0 l1_0.length c1_0, .slice A1_1 l1_1.length c1_1]] rfl (by (try simp only [List.map_toArray, List.map_cons, List.map_nil]); first | done | rfl | (simp only [List.length_drop, List.length_take]; rfl)) ?_; (with_reducible refine (triglyphref03_Check.calls kj2 _ _ l1_0 _ _ l1_1 t381 _ ?side1 ?side2 ?side3 ?side4 A7.out).mono ?_); (case side1 => exact gC HR1_0 HB); (case side2 => exact HC1_0.out); (case side3 => exact gC HR1_1 HB); (case side4 => exact HC1_1.out); rintro e w15 ⟨rfl, hb⟩; refine ⟨_, rfl, ?_⟩; replace BK380 := gA (blk_below (gK BK380) hb); replace HB := gA (below_step (gB HB) hb); (try clear hb)))
     go_ret2
     exact ⟨rfl, by repeat first | exact gB HB | refine below_set ?_ GE380.out⟩
def triglyphlaw27_ShowTexts.f (k : Nat) (a0 : Int) (l1_0 : List Int) (l1_1 : List (S40)) : Option (Bool) := (triglyphlaw27_light.f k l1_0 l1_1).bind fun t384 => (if t384 = true then ((show_Show.f k a0 l1_0 l1_1).bind fun bt385 => ((triglyphref27_Show.f k a0 l1_0 l1_1).bind fun bt387 => (if bt385.1.toList = bt387.1.toList then (if bt385.2 = bt387.2 then ((triglyphlaw27_works.f k).bind fun t389 => (some t389)) else (none)) else (none)))) else ((triglyphlaw27_works.f k).bind fun t390 => (some t390)))
theorem triglyphlaw27_ShowTexts.mono : ∀ a0 a1 a2 k, LeO (triglyphlaw27_ShowTexts.f k a0 a1 a2) (triglyphlaw27_ShowTexts.f (k + 1) a0 a1 a2) := by
 intro a0 a1 a2 k
 unfold triglyphlaw27_ShowTexts.f
 repeat' first
   | (with_reducible exact show_Show.mono _ _ _ _)
   | (with_reducible exact triglyphlaw27_light.mono _ _ _)
   | (with_reducible exact triglyphlaw27_works.mono _)
   | (with_reducible exact triglyphref27_Show.mono _ _ _ _)
   | (with_reducible exact LeO.refl _)
   | (with_reducible exact LeO.none _)
   | (with_reducible refine LeO.ite ?_ ?_)
   | (with_reducible refine LeO.bind ?_ (fun _ => ?_))
   | exact show_Show.mono _ _ _ _
   | exact triglyphlaw27_light.mono _ _ _
   | exact triglyphlaw27_works.mono _
   | exact triglyphref27_Show.mono _ _ _ _
set_option maxHeartbeats 8000000 in
set_option maxRecDepth 100000 in
theorem triglyphlaw27_ShowTexts.calls (k : Nat) (a0 : Int) (A1_0 : Option Addr) (c1_0 : Nat) (l1_0 : List Int) (A1_1 : Option Addr) (c1_1 : Nat) (l1_1 : List (S40)) (r : Bool) (w : World) (hr1_0 : Kd.C (Kd.int .i64) w A1_0 l1_0.length l1_0) (hc1_0 : l1_0.length ≤ c1_0) (hr1_1 : Kd.C k40 w A1_1 l1_1.length l1_1) (hc1_1 : l1_1.length ≤ c1_1) (h : triglyphlaw27_ShowTexts.f k a0 l1_0 l1_1 = some r) :
  Calls Try.prog 3 #[.int .i64 a0, .agg #[.slice A1_0 l1_0.length c1_0, .slice A1_1 l1_1.length c1_1]] w fun e w' => e = .returned (.bool r) ∧ Below w.heap.size w w' := by
 have hu25 := Try.underlying25
 have HR1_0 := gA hr1_0
 have HC1_0 := gA hc1_0
 clear hr1_0 hc1_0
 have HR1_1 := gA hr1_1
 have HC1_1 := gA hc1_1
 clear hr1_1 hc1_1
 have HB := gA (Below.refl w.heap.size w)
 have H : ((triglyphlaw27_light.f k l1_0 l1_1).bind fun t384 => (if t384 = true then ((show_Show.f k a0 l1_0 l1_1).bind fun bt385 => ((triglyphref27_Show.f k a0 l1_0 l1_1).bind fun bt387 => (if bt385.1.toList = bt387.1.toList then (if bt385.2 = bt387.2 then ((triglyphlaw27_works.f k).bind fun t389 => (some t389)) else (none)) else (none)))) else ((triglyphlaw27_works.f k).bind fun t390 => (some t390)))) = some r := h
 clear h
 replace H := Option.bind_eq_some_iff.mp H
 obtain ⟨t384, A30, H⟩ := H
 replace H : (if t384 = true then ((show_Show.f k a0 l1_0 l1_1).bind fun bt385 => ((triglyphref27_Show.f k a0 l1_0 l1_1).bind fun bt387 => (if bt385.1.toList = bt387.1.toList then (if bt385.2 = bt387.2 then ((triglyphlaw27_works.f k).bind fun t389 => (some t389)) else (none)) else (none)))) else ((triglyphlaw27_works.f k).bind fun t390 => (some t390))) = some r := H
 have A3 := gA A30
 clear A30
 by_cases c4 : t384 = true
 ·subst c4
  have H1 : ((show_Show.f k a0 l1_0 l1_1).bind fun bt385 => ((triglyphref27_Show.f k a0 l1_0 l1_1).bind fun bt387 => (if bt385.1.toList = bt387.1.toList then (if bt385.2 = bt387.2 then ((triglyphlaw27_works.f k).bind fun t389 => (some t389)) else (none)) else (none)))) = some r := by rw [if_pos rfl] at H; exact H
  clear H; have H := H1; clear H1
  replace H := Option.bind_eq_some_iff.mp H
  obtain ⟨⟨t385, t386⟩, A50, H⟩ := H
  replace H : ((triglyphref27_Show.f k a0 l1_0 l1_1).bind fun bt387 => (if t385.toList = bt387.1.toList then (if t386 = bt387.2 then ((triglyphlaw27_works.f k).bind fun t389 => (some t389)) else (none)) else (none))) = some r := H
  have A5 := gA A50
  clear A50
  replace H := Option.bind_eq_some_iff.mp H
  obtain ⟨⟨t387, t388⟩, A60, H⟩ := H
  replace H : (if t385.toList = t387.toList then (if t386 = t388 then ((triglyphlaw27_works.f k).bind fun t389 => (some t389)) else (none)) else (none)) = some r := H
  have A6 := gA A60
  clear A60
  obtain ⟨c7, H⟩ := iS H
  have c7b0 : (t385.toList == t387.toList) = true := beq_iff_eq.mpr c7
  have c7b1 : (t385.toList != t387.toList) = false := bne_eq_false_iff_eq.mpr c7
  clear c7
  obtain ⟨c8, H⟩ := iS H
  have c8b0 : (t386 == t388) = true := beq_iff_eq.mpr c8
  have c8b1 : (t386 != t388) = false := bne_eq_false_iff_eq.mpr c8
  clear c8
  replace H := Option.bind_eq_some_iff.mp H
  obtain ⟨t389, A90, H⟩ := H
  replace H : (some t389) = some r := H
  have A9 := gA A90
  clear A90
  obtain rfl := Option.some.inj H
  go_enter Try.func3, Try.ntmps3
  go_wp2_with (first | ((with_reducible refine gate_dst (N := 3) rfl ?_); refine box_event ?hg (N := 3) ?hd (cs := #[.slice A1_0 l1_0.length c1_0, .slice A1_1 l1_1.length c1_1]) (t := 25) ?hr ?_; (case hd => rfl); (case hg => rfl); (case hr => first | (go_simp; done) | (go_simp; rfl)); intro gb383 hg w10 hbox hb; have BK383 := gA (hbox); have GW383 := gA ((by rw [hg]; exact (below_size (gB HB)) : w.heap.size ≤ gb383)); have GE383 := gA ((by rw [hg]; exact (below_size (gB HB)) : w.heap.size ≤ gb383)); replace HB := gA (below_step (gB HB) hb); clear hb hbox hg; obtain ⟨hcz11_0, hcz11_1, hfz11_0, hfz11_1⟩ := gz2 BK383) | ((with_reducible refine gate_callee (f := 6) rfl ?_); refine goesL_ (some 10) rfl rfl Try.func6 (by kernel_rfl) rfl #[.agg #[.slice A1_0 l1_0.length c1_0, .slice A1_1 l1_1.length c1_1]] rfl (by (try simp only [List.map_toArray, List.map_cons, List.map_nil]); first | done | rfl | (simp only [List.length_drop, List.length_take]; rfl)) ?_; (with_reducible refine (triglyphlaw27_light.calls k _ _ l1_0 _ _ l1_1 true _ ?side1 ?side2 ?side3 ?side4 A3.out).mono ?_); (case side1 => exact gC HR1_0 HB); (case side2 => exact HC1_0.out); (case side3 => exact gC HR1_1 HB); (case side4 => exact HC1_1.out); rintro e w12 ⟨rfl, hb⟩; refine ⟨_, rfl, ?_⟩; replace BK383 := gA (blk_below (gK BK383) hb); replace HB := gA (below_step (gB HB) hb); (try clear hb); obtain ⟨hcz13_0, hcz13_1, hfz13_0, hfz13_1⟩ := gz2 BK383) | ((with_reducible refine gate_callee (f := 8) rfl ?_); refine goesL_ (some 16) rfl rfl Try.func8 (by kernel_rfl) rfl #[.int .i64 a0, .agg #[.slice A1_0 l1_0.length c1_0, .slice A1_1 l1_1.length c1_1]] rfl (by (try simp only [List.map_toArray, List.map_cons, List.map_nil]); first | done | rfl | (simp only [List.length_drop, List.length_take]; rfl)) ?_; (with_reducible refine (show_Show.calls k a0 _ _ l1_0 _ _ l1_1 t385 t386 _ ?side1 ?side2 ?side3 ?side4 A5.out).mono ?_); (case side1 => exact gC HR1_0 HB); (case side2 => exact HC1_0.out); (case side3 => exact gC HR1_1 HB); (case side4 => exact HC1_1.out); rintro e w14 ⟨rfl, hb⟩; refine ⟨_, rfl, ?_⟩; replace BK383 := gA (blk_below (gK BK383) hb); replace HB := gA (below_step (gB HB) hb); (try clear hb); obtain ⟨hcz15_0, hcz15_1, hfz15_0, hfz15_1⟩ := gz2 BK383) | ((with_reducible refine gate_callee (f := 9) rfl ?_); refine goesL_ (some 22) rfl rfl Try.func9 (by kernel_rfl) rfl #[.int .i64 a0, .agg #[.slice A1_0 l1_0.length c1_0, .slice A1_1 l1_1.length c1_1]] rfl (by (try simp only [List.map_toArray, List.map_cons, List.map_nil]); first | done | rfl | (simp only [List.length_drop, List.length_take]; rfl)) ?_; (with_reducible refine (triglyphref27_Show.calls k a0 _ _ l1_0 _ _ l1_1 t387 t388 _ ?side1 ?side2 ?side3 ?side4 A6.out).mono ?_); (case side1 => exact gC HR1_0 HB); (case side2 => exact HC1_0.out); (case side3 => exact gC HR1_1 HB); (case side4 => exact HC1_1.out); rintro e w16 ⟨rfl, hb⟩; refine ⟨_, rfl, ?_⟩; replace BK383 := gA (blk_below (gK BK383) hb); replace HB := gA (below_step (gB HB) hb); (try clear hb)) | (go_at_call 7; (with_reducible refine (triglyphlaw27_works.calls k  t389 _ A9.out).mono ?_); rintro e w17 ⟨rfl, hb⟩; replace BK383 := gA (blk_below (gK BK383) hb); replace HB := gA (below_step (gB HB) hb); (try clear hb)))
  go_ret
  exact ⟨rfl, by repeat first | exact gB HB | refine below_set ?_ GE383.out⟩
 ·replace c4 := Bool.eq_false_iff.mpr c4
  subst c4
  have H1 : ((triglyphlaw27_works.f k).bind fun t390 => (some t390)) = some r := by rw [if_neg (show ¬ (false = true) by decide)] at H; exact H
  clear H; have H := H1; clear H1
  replace H := Option.bind_eq_some_iff.mp H
  obtain ⟨t390, A180, H⟩ := H
  replace H : (some t390) = some r := H
  have A18 := gA A180
  clear A180
  obtain rfl := Option.some.inj H
  go_enter Try.func3, Try.ntmps3
  go_wp2_with (first | ((with_reducible refine gate_dst (N := 3) rfl ?_); refine box_event ?hg (N := 3) ?hd (cs := #[.slice A1_0 l1_0.length c1_0, .slice A1_1 l1_1.length c1_1]) (t := 25) ?hr ?_; (case hd => rfl); (case hg => rfl); (case hr => first | (go_simp; done) | (go_simp; rfl)); intro gb383 hg w19 hbox hb; have BK383 := gA (hbox); have GW383 := gA ((by rw [hg]; exact (below_size (gB HB)) : w.heap.size ≤ gb383)); have GE383 := gA ((by rw [hg]; exact (below_size (gB HB)) : w.heap.size ≤ gb383)); replace HB := gA (below_step (gB HB) hb); clear hb hbox hg; obtain ⟨hcz20_0, hcz20_1, hfz20_0, hfz20_1⟩ := gz2 BK383) | ((with_reducible refine gate_callee (f := 6) rfl ?_); refine goesL_ (some 10) rfl rfl Try.func6 (by kernel_rfl) rfl #[.agg #[.slice A1_0 l1_0.length c1_0, .slice A1_1 l1_1.length c1_1]] rfl (by (try simp only [List.map_toArray, List.map_cons, List.map_nil]); first | done | rfl | (simp only [List.length_drop, List.length_take]; rfl)) ?_; (with_reducible refine (triglyphlaw27_light.calls k _ _ l1_0 _ _ l1_1 false _ ?side1 ?side2 ?side3 ?side4 A3.out).mono ?_); (case side1 => exact gC HR1_0 HB); (case side2 => exact HC1_0.out); (case side3 => exact gC HR1_1 HB); (case side4 => exact HC1_1.out); rintro e w21 ⟨rfl, hb⟩; refine ⟨_, rfl, ?_⟩; replace BK383 := gA (blk_below (gK BK383) hb); replace HB := gA (below_step (gB HB) hb); (try clear hb)) | ((with_reducible refine gate_callee (f := 7) rfl ?_); refine goesL_ (some 12) rfl rfl Try.func7 (by kernel_rfl) rfl #[] rfl (by (try simp only [List.map_toArray, List.map_cons, List.map_nil]); first | done | rfl | (simp only [List.length_drop, List.length_take]; rfl)) ?_; (with_reducible refine (triglyphlaw27_works.calls k  t390 _ A18.out).mono ?_); rintro e w22 ⟨rfl, hb⟩; refine ⟨_, rfl, ?_⟩; replace BK383 := gA (blk_below (gK BK383) hb); replace HB := gA (below_step (gB HB) hb); (try clear hb)))
  go_ret
  exact ⟨rfl, by repeat first | exact gB HB | refine below_set ?_ GE383.out⟩
end Go.Proofs.Ytbijepjnbolpiaa.P
