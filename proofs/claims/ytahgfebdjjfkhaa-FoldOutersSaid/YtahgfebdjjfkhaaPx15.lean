/- Written by a program of this session: the functions that the laws reach, what each comes to, and each law as it is stated, for every input. No condition. -/
import Derived.Test.YtahgfebdjjfkhaaPx0
import Derived.Test.YtahgfebdjjfkhaaPx1
import Derived.Test.YtahgfebdjjfkhaaPx9
import Derived.Test.YtahgfebdjjfkhaaPx11
import Derived.Test.YtahgfebdjjfkhaaPx14
namespace Go.Proofs.Ytahgfebdjjfkhaa.P
open Go.RowKit Go.Proofs.YtahgfebdjjfkhaaW.PrintWords Go.Proofs.YtahgfebdjjfkhaaW.PrintLast Go.Proofs.YtahgfebdjjfkhaaW.PrintMore
attribute [local go_sem] max2_int min2_int max_two min_two max_three min_three max_four min_four   -- for this text's walks alone
set_option linter.unusedVariables false
set_option linter.unusedSimpArgs false
def triglyphlaw08_FoldOuters.j0 : Nat → Int → Bool → Bool → List Int → List (S43) → List Int → List (S43) → Option (Bool)
 | 0, _, _, _, _, _, _, _ => none
 | k + 1, x0, x1, x20, x370000, x370001, x371000, x371001 => if x20 = true then ((triglyphlaw08_works.f k).bind fun t373 => (some t373)) else ((fold_Outer.f k x0 x1 x370000 x370001 x371000 x371001).bind fun bt374 => ((triglyphref08_Outer.f k x0 x1 x370000 x370001 x371000 x371001).bind fun bt382 => (if bt374.2.2 = bt382.2.2 then ((triglyphref03_Same.f k bt374.1 bt374.2.1 bt382.1 bt382.2.1).bind fun t390 => (if t390 = true then ((triglyphlaw08_works.f k).bind fun t391 => (some t391)) else (none))) else (none))))
def triglyphlaw08_FoldOuters.f (k : Nat) (a0 : Int) (a1 : Bool) (l2_0 : List Int) (l2_1 : List (S43)) (l3_0 : List Int) (l3_1 : List (S43)) : Option (Bool) := (triglyphlaw08_light.f k l2_0 l2_1).bind fun t371 => (if t371 = true then ((triglyphlaw08_light.f k l3_0 l3_1).bind fun t372 => (triglyphlaw08_FoldOuters.j0 k a0 a1 (!t372) l2_0 l2_1 l3_0 l3_1)) else (triglyphlaw08_FoldOuters.j0 k a0 a1 true l2_0 l2_1 l3_0 l3_1))
theorem triglyphlaw08_FoldOuters.mono_l : ∀ k, (∀ y0 y1 y2 y3 y4 y5 y6, LeO (triglyphlaw08_FoldOuters.j0 k y0 y1 y2 y3 y4 y5 y6) (triglyphlaw08_FoldOuters.j0 (k + 1) y0 y1 y2 y3 y4 y5 y6))
 | 0 => fun _ _ _ _ _ _ _ r h => by simp [triglyphlaw08_FoldOuters.j0] at h
 | k + 1 => by
  have ih0 := triglyphlaw08_FoldOuters.mono_l k
  ·intro y0 y1 y2 y3 y4 y5 y6
   unfold triglyphlaw08_FoldOuters.j0
   repeat' first
   | (with_reducible exact ih0 _ _ _ _ _ _ _)
   | (with_reducible exact fold_Outer.mono _ _ _ _ _ _ _)
   | (with_reducible exact triglyphlaw08_light.mono _ _ _)
   | (with_reducible exact triglyphlaw08_works.mono _)
   | (with_reducible exact triglyphref03_Same.mono _ _ _ _ _)
   | (with_reducible exact triglyphref08_Outer.mono _ _ _ _ _ _ _)
   | (with_reducible exact LeO.refl _)
   | (with_reducible exact LeO.none _)
   | (with_reducible refine LeO.ite ?_ ?_)
   | (with_reducible refine LeO.bind ?_ (fun _ => ?_))

   | exact fold_Outer.mono _ _ _ _ _ _ _
   | exact triglyphlaw08_light.mono _ _ _
   | exact triglyphlaw08_works.mono _
   | exact triglyphref03_Same.mono _ _ _ _ _
   | exact triglyphref08_Outer.mono _ _ _ _ _ _ _
theorem triglyphlaw08_FoldOuters.mono : ∀ a0 a1 a2 a3 a4 a5 k, LeO (triglyphlaw08_FoldOuters.f k a0 a1 a2 a3 a4 a5) (triglyphlaw08_FoldOuters.f (k + 1) a0 a1 a2 a3 a4 a5) := by
 intro a0 a1 a2 a3 a4 a5 k
 have ih0 := triglyphlaw08_FoldOuters.mono_l k
 unfold triglyphlaw08_FoldOuters.f
 repeat' first
   | (with_reducible exact ih0 _ _ _ _ _ _ _)
   | (with_reducible exact fold_Outer.mono _ _ _ _ _ _ _)
   | (with_reducible exact triglyphlaw08_light.mono _ _ _)
   | (with_reducible exact triglyphlaw08_works.mono _)
   | (with_reducible exact triglyphref03_Same.mono _ _ _ _ _)
   | (with_reducible exact triglyphref08_Outer.mono _ _ _ _ _ _ _)
   | (with_reducible exact LeO.refl _)
   | (with_reducible exact LeO.none _)
   | (with_reducible refine LeO.ite ?_ ?_)
   | (with_reducible refine LeO.bind ?_ (fun _ => ?_))

   | exact fold_Outer.mono _ _ _ _ _ _ _
   | exact triglyphlaw08_light.mono _ _ _
   | exact triglyphlaw08_works.mono _
   | exact triglyphref03_Same.mono _ _ _ _ _
   | exact triglyphref08_Outer.mono _ _ _ _ _ _ _
set_option maxHeartbeats 8000000 in
set_option maxRecDepth 100000 in
theorem triglyphlaw08_FoldOuters.calls (k : Nat) (a0 : Int) (a1 : Bool) (A2_0 : Option Addr) (c2_0 : Nat) (l2_0 : List Int) (A2_1 : Option Addr) (c2_1 : Nat) (l2_1 : List (S43)) (A3_0 : Option Addr) (c3_0 : Nat) (l3_0 : List Int) (A3_1 : Option Addr) (c3_1 : Nat) (l3_1 : List (S43)) (r : Bool) (w : World) (hr2_0 : Kd.C (Kd.int .i64) w A2_0 l2_0.length l2_0) (hc2_0 : l2_0.length ≤ c2_0) (hr2_1 : Kd.C k43 w A2_1 l2_1.length l2_1) (hc2_1 : l2_1.length ≤ c2_1) (hr3_0 : Kd.C (Kd.int .i64) w A3_0 l3_0.length l3_0) (hc3_0 : l3_0.length ≤ c3_0) (hr3_1 : Kd.C k43 w A3_1 l3_1.length l3_1) (hc3_1 : l3_1.length ≤ c3_1) (h : triglyphlaw08_FoldOuters.f k a0 a1 l2_0 l2_1 l3_0 l3_1 = some r) :
  Calls Try.prog 5 #[.int .i64 a0, .bool a1, .agg #[.slice A2_0 l2_0.length c2_0, .slice A2_1 l2_1.length c2_1], .agg #[.slice A3_0 l3_0.length c3_0, .slice A3_1 l3_1.length c3_1]] w fun e w' => e = .returned (.bool r) ∧ Below w.heap.size w w' := by
 have hu25 := Try.underlying25
 have hu32 := Try.underlying32
 have HR2_0 := gA hr2_0
 have HC2_0 := gA hc2_0
 clear hr2_0 hc2_0
 have HR2_1 := gA hr2_1
 have HC2_1 := gA hc2_1
 clear hr2_1 hc2_1
 have HR3_0 := gA hr3_0
 have HC3_0 := gA hc3_0
 clear hr3_0 hc3_0
 have HR3_1 := gA hr3_1
 have HC3_1 := gA hc3_1
 clear hr3_1 hc3_1
 have HB := gA (Below.refl w.heap.size w)
 have H : ((triglyphlaw08_light.f k l2_0 l2_1).bind fun t371 => (if t371 = true then ((triglyphlaw08_light.f k l3_0 l3_1).bind fun t372 => (triglyphlaw08_FoldOuters.j0 k a0 a1 (!t372) l2_0 l2_1 l3_0 l3_1)) else (triglyphlaw08_FoldOuters.j0 k a0 a1 true l2_0 l2_1 l3_0 l3_1))) = some r := h
 clear h
 have HC5 := gA H
 clear H
 go_enter Try.func5, Try.ntmps5
 go_upto_region 1 with (first | ((with_reducible refine gate_dst (N := 6) rfl ?_); refine box_event ?hg (N := 6) ?hd (cs := #[.slice A2_0 l2_0.length c2_0, .slice A2_1 l2_1.length c2_1]) (t := 25) ?hr ?_; (case hd => rfl); (case hg => rfl); (case hr => first | (go_simp; done) | (go_simp; rfl)); intro gb369 hg w6 hbox hb; have BK369 := gA (hbox); have GW369 := gA ((by rw [hg]; exact (below_size (gB HB)) : w.heap.size ≤ gb369)); have GE369 := gA ((by rw [hg]; exact (below_size (gB HB)) : w.heap.size ≤ gb369)); replace HB := gA (below_step (gB HB) hb); clear hb hbox hg) | ((with_reducible refine gate_dst (N := 7) rfl ?_); refine box_event ?hg (N := 7) ?hd (cs := #[.slice A3_0 l3_0.length c3_0, .slice A3_1 l3_1.length c3_1]) (t := 25) ?hr ?_; (case hd => rfl); (case hg => rfl); (case hr => first | (go_simp; done) | (go_simp; rfl)); intro gb370 hg w7 hbox hb; have BK370 := gA (hbox); have GW370 := gA ((by rw [hg]; exact (below_size (gB HB)) : w.heap.size ≤ gb370)); have GE370 := gA ((by rw [hg]; exact (below_size (gB HB)) : w.heap.size ≤ gb370)); replace HB := gA (below_step (gB HB) hb); have NB369_370 := gA ((by rw [hg]; exact Nat.ne_of_lt (blk_lt (gK BK369)) : gb369 ≠ gb370)); have NB370_369 := gA ((by rw [hg]; exact Nat.ne_of_gt (blk_lt (gK BK369)) : gb370 ≠ gb369)); replace BK369 := gA (blk_below (gK BK369) hb); clear hb hbox hg))
 (try simp only [Act.put, List.setIfInBounds_toArray, List.set_cons_zero, List.set_cons_succ])
 go_cut [20] (fun v20 wc => ∃ (kq : Nat) (x20_4 : Bool), v20 = .bool x20_4 ∧ Aside0 (triglyphlaw08_FoldOuters.j0 kq a0 a1 x20_4 l2_0 l2_1 l3_0 l3_1 = some r) ∧ Aside0 (kq ≤ k) ∧ Aside0 (wc.heap[gb369]? = some (.cells #[(.slice A2_0 l2_0.length c2_0), (.slice A2_1 l2_1.length c2_1)] 25 (0, 0))) ∧ Aside0 (wc.heap[gb370]? = some (.cells #[(.slice A3_0 l3_0.length c3_0), (.slice A3_1 l3_1.length c3_1)] 25 (0, 0))) ∧ Aside0 (Below w.heap.size w wc))
 case first =>
  have H := HC5.out; clear HC5
  replace H := Option.bind_eq_some_iff.mp H
  obtain ⟨t371, A80, H⟩ := H
  replace H : (if t371 = true then ((triglyphlaw08_light.f k l3_0 l3_1).bind fun t372 => (triglyphlaw08_FoldOuters.j0 k a0 a1 (!t372) l2_0 l2_1 l3_0 l3_1)) else (triglyphlaw08_FoldOuters.j0 k a0 a1 true l2_0 l2_1 l3_0 l3_1)) = some r := H
  have A8 := gA A80
  clear A80
  by_cases c9 : t371 = true
  ·subst c9
   have H1 : ((triglyphlaw08_light.f k l3_0 l3_1).bind fun t372 => (triglyphlaw08_FoldOuters.j0 k a0 a1 (!t372) l2_0 l2_1 l3_0 l3_1)) = some r := by rw [if_pos rfl] at H; exact H
   clear H; have H := H1; clear H1
   replace H := Option.bind_eq_some_iff.mp H
   obtain ⟨t372, A100, H⟩ := H
   replace H : (triglyphlaw08_FoldOuters.j0 k a0 a1 (!t372) l2_0 l2_1 l3_0 l3_1) = some r := H
   have A10 := gA A100
   clear A100
   have H' := gA H
   clear H
   have hnb11 := NB369_370.out
   have hnc11 := NB370_369.out
   obtain ⟨hcz12_0, hcz12_1, hfz12_0, hfz12_1⟩ := gz2 BK369
   go_wp2_with (first | ((with_reducible refine gate_callee (f := 9) rfl ?_); refine goesL_ (some 14) rfl rfl Try.func9 (by kernel_rfl) rfl #[.agg #[.slice A2_0 l2_0.length c2_0, .slice A2_1 l2_1.length c2_1]] rfl (by (try simp only [List.map_toArray, List.map_cons, List.map_nil]); first | done | rfl | (simp only [List.length_drop, List.length_take]; rfl)) ?_; (with_reducible refine (triglyphlaw08_light.calls k _ _ l2_0 _ _ l2_1 true _ ?side1 ?side2 ?side3 ?side4 A8.out).mono ?_); (case side1 => exact gC HR2_0 HB); (case side2 => exact HC2_0.out); (case side3 => exact gC HR2_1 HB); (case side4 => exact HC2_1.out); rintro e w13 ⟨rfl, hb⟩; refine ⟨_, rfl, ?_⟩; replace BK369 := gA (blk_below (gK BK369) hb); replace BK370 := gA (blk_below (gK BK370) hb); replace HB := gA (below_step (gB HB) hb); (try clear hb); obtain ⟨hcz14_0, hcz14_1, hfz14_0, hfz14_1⟩ := gz2 BK370) | (go_at_call 9; (with_reducible refine (triglyphlaw08_light.calls k _ _ l3_0 _ _ l3_1 t372 _ ?side1 ?side2 ?side3 ?side4 A10.out).mono ?_); (case side1 => exact gC HR3_0 HB); (case side2 => exact HC3_0.out); (case side3 => exact gC HR3_1 HB); (case side4 => exact HC3_1.out); rintro e w15 ⟨rfl, hb⟩; replace BK369 := gA (blk_below (gK BK369) hb); replace BK370 := gA (blk_below (gK BK370) hb); replace HB := gA (below_step (gB HB) hb); (try clear hb)))
   all_goals (go_meet; (case rel => exact ⟨_, (!t372), (by first | rfl | (simp; done) | (simp [*]; done) | (exfalso; simp_all; done) | (exfalso; simp_all; omega)), H', ⟨by first | omega | exact Nat.le_refl _⟩, ⟨gK BK369⟩, ⟨gK BK370⟩, ⟨gB HB⟩⟩))
  ·replace c9 := Bool.eq_false_iff.mpr c9
   subst c9
   have H1 : (triglyphlaw08_FoldOuters.j0 k a0 a1 true l2_0 l2_1 l3_0 l3_1) = some r := by rw [if_neg (show ¬ (false = true) by decide)] at H; exact H
   clear H; have H := H1; clear H1
   have H' := gA H
   clear H
   have hnb16 := NB369_370.out
   have hnc16 := NB370_369.out
   obtain ⟨hcz17_0, hcz17_1, hfz17_0, hfz17_1⟩ := gz2 BK369
   go_wp2_with (first | ((with_reducible refine gate_callee (f := 9) rfl ?_); refine goesL_ (some 14) rfl rfl Try.func9 (by kernel_rfl) rfl #[.agg #[.slice A2_0 l2_0.length c2_0, .slice A2_1 l2_1.length c2_1]] rfl (by (try simp only [List.map_toArray, List.map_cons, List.map_nil]); first | done | rfl | (simp only [List.length_drop, List.length_take]; rfl)) ?_; (with_reducible refine (triglyphlaw08_light.calls k _ _ l2_0 _ _ l2_1 false _ ?side1 ?side2 ?side3 ?side4 A8.out).mono ?_); (case side1 => exact gC HR2_0 HB); (case side2 => exact HC2_0.out); (case side3 => exact gC HR2_1 HB); (case side4 => exact HC2_1.out); rintro e w18 ⟨rfl, hb⟩; refine ⟨_, rfl, ?_⟩; replace BK369 := gA (blk_below (gK BK369) hb); replace BK370 := gA (blk_below (gK BK370) hb); replace HB := gA (below_step (gB HB) hb); (try clear hb)))
   all_goals (go_meet; (case rel => exact ⟨_, (true), (by first | rfl | (simp; done) | (simp [*]; done) | (exfalso; simp_all; done) | (exfalso; simp_all; omega)), H', ⟨by first | omega | exact Nat.le_refl _⟩, ⟨gK BK369⟩, ⟨gK BK370⟩, ⟨gB HB⟩⟩))
 case rest =>
  clear HC5
  try clear c1
  try clear c2
  try clear p2
  try clear c3
  try clear c5
  try clear c9
  try clear c11
  try clear c16
  try clear hcz12_0
  try clear hcz12_1
  try clear hcz14_0
  try clear hcz14_1
  try clear hcz17_0
  try clear hcz17_1
  try clear hfz12_0
  try clear hfz12_1
  try clear hfz14_0
  try clear hfz14_1
  try clear hfz17_0
  try clear hfz17_1
  obtain ⟨kq, x20_4, rfl, HA, HJ4, BK369, BK370, HB⟩ := hcut
  cases kq with
  | zero => exact absurd HA.out (by simp [triglyphlaw08_FoldOuters.j0])
  | succ kj4 =>
   have H := HA.out; clear HA
   simp only [triglyphlaw08_FoldOuters.j0] at H
   by_cases c19 : x20_4 = true
   ·subst c19
    have H1 : ((triglyphlaw08_works.f kj4).bind fun t373 => (some t373)) = some r := by rw [if_pos rfl] at H; exact H
    clear H; have H := H1; clear H1
    replace H := Option.bind_eq_some_iff.mp H
    obtain ⟨t373, A200, H⟩ := H
    replace H : (some t373) = some r := H
    have A20 := gA A200
    clear A200
    obtain rfl := Option.some.inj H
    go_wp2_with (first | ((with_reducible refine gate_callee (f := 11) rfl ?_); refine goesL_ (some 21) rfl rfl Try.func11 (by kernel_rfl) rfl #[] rfl (by (try simp only [List.map_toArray, List.map_cons, List.map_nil]); first | done | rfl | (simp only [List.length_drop, List.length_take]; rfl)) ?_; (with_reducible refine (triglyphlaw08_works.calls kj4  t373 _ A20.out).mono ?_); rintro e w21 ⟨rfl, hb⟩; refine ⟨_, rfl, ?_⟩; replace BK369 := gA (blk_below (gK BK369) hb); replace BK370 := gA (blk_below (gK BK370) hb); replace HB := gA (below_step (gB HB) hb); (try clear hb)))
    go_ret
    exact ⟨rfl, by repeat first | exact gB HB | refine below_set ?_ GE369.out | refine below_set ?_ GE370.out⟩
   ·replace c19 := Bool.eq_false_iff.mpr c19
    subst c19
    have H1 : ((fold_Outer.f kj4 a0 a1 l2_0 l2_1 l3_0 l3_1).bind fun bt374 => ((triglyphref08_Outer.f kj4 a0 a1 l2_0 l2_1 l3_0 l3_1).bind fun bt382 => (if bt374.2.2 = bt382.2.2 then ((triglyphref03_Same.f kj4 bt374.1 bt374.2.1 bt382.1 bt382.2.1).bind fun t390 => (if t390 = true then ((triglyphlaw08_works.f kj4).bind fun t391 => (some t391)) else (none))) else (none)))) = some r := by rw [if_neg (show ¬ (false = true) by decide)] at H; exact H
    clear H; have H := H1; clear H1
    replace H := Option.bind_eq_some_iff.mp H
    obtain ⟨⟨t374, t377, t380⟩, A220, H⟩ := H
    replace H : ((triglyphref08_Outer.f kj4 a0 a1 l2_0 l2_1 l3_0 l3_1).bind fun bt382 => (if t380 = bt382.2.2 then ((triglyphref03_Same.f kj4 t374 t377 bt382.1 bt382.2.1).bind fun t390 => (if t390 = true then ((triglyphlaw08_works.f kj4).bind fun t391 => (some t391)) else (none))) else (none))) = some r := H
    have A22 := gA A220
    clear A220
    replace H := Option.bind_eq_some_iff.mp H
    obtain ⟨⟨t382, t385, t388⟩, A230, H⟩ := H
    replace H : (if t380 = t388 then ((triglyphref03_Same.f kj4 t374 t377 t382 t385).bind fun t390 => (if t390 = true then ((triglyphlaw08_works.f kj4).bind fun t391 => (some t391)) else (none))) else (none)) = some r := H
    have A23 := gA A230
    clear A230
    obtain ⟨c24, H⟩ := iS H
    have c24b0 : (t380 == t388) = true := beq_iff_eq.mpr c24
    have c24b1 : (t380 != t388) = false := bne_eq_false_iff_eq.mpr c24
    clear c24
    replace H := Option.bind_eq_some_iff.mp H
    obtain ⟨t390, A250, H⟩ := H
    replace H : (if t390 = true then ((triglyphlaw08_works.f kj4).bind fun t391 => (some t391)) else (none)) = some r := H
    have A25 := gA A250
    clear A250
    by_cases c26 : t390 = true
    ·subst c26
     have H1 : ((triglyphlaw08_works.f kj4).bind fun t391 => (some t391)) = some r := by rw [if_pos rfl] at H; exact H
     clear H; have H := H1; clear H1
     replace H := Option.bind_eq_some_iff.mp H
     obtain ⟨t391, A270, H⟩ := H
     replace H : (some t391) = some r := H
     have A27 := gA A270
     clear A270
     obtain rfl := Option.some.inj H
     have hnb28 := NB369_370.out
     have hnc28 := NB370_369.out
     obtain ⟨hcz29_0, hcz29_1, hfz29_0, hfz29_1⟩ := gz2 BK369
     obtain ⟨hcz30_0, hcz30_1, hfz30_0, hfz30_1⟩ := gz2 BK370
     go_wp2_with (first | ((with_reducible refine gate_callee (f := 17) rfl ?_); refine goesL_ (some 28) rfl rfl Try.func17 (by kernel_rfl) rfl #[.agg #[.int .i64 a0, .bool a1], .agg #[.slice A2_0 l2_0.length c2_0, .slice A2_1 l2_1.length c2_1], .agg #[.slice A3_0 l3_0.length c3_0, .slice A3_1 l3_1.length c3_1]] rfl (by (try simp only [List.map_toArray, List.map_cons, List.map_nil]); first | done | rfl | (simp only [List.length_drop, List.length_take]; rfl)) ?_; (with_reducible refine (fold_Outer.calls kj4 a0 a1 _ _ l2_0 _ _ l2_1 _ _ l3_0 _ _ l3_1 t374 t377 t380 _ ?side1 ?side2 ?side3 ?side4 ?side5 ?side6 ?side7 ?side8 A22.out).mono ?_); (case side1 => exact gC HR2_0 HB); (case side2 => exact HC2_0.out); (case side3 => exact gC HR2_1 HB); (case side4 => exact HC2_1.out); (case side5 => exact gC HR3_0 HB); (case side6 => exact HC3_0.out); (case side7 => exact gC HR3_1 HB); (case side8 => exact HC3_1.out); rintro e w31 ⟨v375, v378, rfl, ho0, ho1, hb⟩; refine ⟨_, rfl, ?_⟩; have HO376 := gA (Kd.R_lower ho0 (below_size (by repeat first | exact gB HB | refine below_set ?_ GE369.out | refine below_set ?_ GE370.out))); have HO379 := gA (Kd.R_lower (Kd.R_newB (Kd.R_newB ho1 (gK BK369)) (gK BK370)) (below_size (by repeat first | exact gB HB | refine below_set ?_ GE369.out | refine below_set ?_ GE370.out))); replace BK369 := gA (blk_below (gK BK369) hb); replace BK370 := gA (blk_below (gK BK370) hb); replace HB := gA (below_step (by repeat first | exact gB HB | refine below_set ?_ GE369.out | refine below_set ?_ GE370.out) hb); (try clear hb); (try clear ho0); (try clear ho1)) | ((with_reducible refine gate_dst (N := 9) rfl ?_); refine box_event ?hg (N := 9) ?hd (cs := #[.slice none 0 0, .slice none 0 0]) (t := 25) ?hr ?_; (case hd => rfl); (case hg => rfl); (case hr => first | (go_simp; done) | (go_simp; rfl)); intro gb381 hg w32 hbox hb; replace HO376 := gA (Kd.R_below (gR HO376) hb); replace HO379 := gA (Kd.R_below (Kd.R_elderB (gR HO379) gb381 (Nat.le_of_eq hg.symm)) hb); have BK381 := gA (hbox); have GW381 := gA ((by rw [hg]; exact (below_size (by repeat first | exact gB HB | refine below_set ?_ GE369.out | refine below_set ?_ GE370.out)) : w.heap.size ≤ gb381)); have GE381 := gA ((by rw [hg]; exact (below_size (by repeat first | exact gB HB | refine below_set ?_ GE369.out | refine below_set ?_ GE370.out)) : w.heap.size ≤ gb381)); replace HB := gA (below_step (by repeat first | exact gB HB | refine below_set ?_ GE369.out | refine below_set ?_ GE370.out) hb); have NB369_381 := gA ((by rw [hg]; exact Nat.ne_of_lt (blk_lt (gK BK369)) : gb369 ≠ gb381)); have NB381_369 := gA ((by rw [hg]; exact Nat.ne_of_gt (blk_lt (gK BK369)) : gb381 ≠ gb369)); replace BK369 := gA (blk_below (gK BK369) hb); have NB370_381 := gA ((by rw [hg]; exact Nat.ne_of_lt (blk_lt (gK BK370)) : gb370 ≠ gb381)); have NB381_370 := gA ((by rw [hg]; exact Nat.ne_of_gt (blk_lt (gK BK370)) : gb381 ≠ gb370)); replace BK370 := gA (blk_below (gK BK370) hb); clear hb hbox hg; obtain ⟨Ao33, co33, eo33⟩ := Kd.R_slice HO376.out; subst eo33; have hnb34 := NB381_369.out; have hnc34 := NB369_381.out; have hnb35 := NB381_370.out; have hnc35 := NB370_381.out; obtain ⟨hcz36_0, hcz36_1, hfz36_0, hfz36_1⟩ := gz2 BK381; obtain ⟨Ao37, co37, eo37⟩ := Kd.R_slice HO379.out; subst eo37; obtain ⟨hcz38_0, hcz38_1, hfz38_0, hfz38_1⟩ := gz2 BK369; obtain ⟨hcz39_0, hcz39_1, hfz39_0, hfz39_1⟩ := gz2 BK370) | ((with_reducible refine gate_callee (f := 18) rfl ?_); refine goesL_ (some 36) rfl rfl Try.func18 (by kernel_rfl) rfl #[.int .i64 a0, .bool a1, .agg #[.slice A2_0 l2_0.length c2_0, .slice A2_1 l2_1.length c2_1], .agg #[.slice A3_0 l3_0.length c3_0, .slice A3_1 l3_1.length c3_1]] rfl (by (try simp only [List.map_toArray, List.map_cons, List.map_nil]); first | done | rfl | (simp only [List.length_drop, List.length_take]; rfl)) ?_; (with_reducible refine (triglyphref08_Outer.calls kj4 a0 a1 _ _ l2_0 _ _ l2_1 _ _ l3_0 _ _ l3_1 t382 t385 t388 _ ?side1 ?side2 ?side3 ?side4 ?side5 ?side6 ?side7 ?side8 A23.out).mono ?_); (case side1 => exact Kd.C_below HR2_0.out (by repeat first | exact gB HB | refine below_set ?_ GE369.out | refine below_set ?_ GE370.out | refine below_set ?_ GE381.out)); (case side2 => exact HC2_0.out); (case side3 => exact Kd.C_below HR2_1.out (by repeat first | exact gB HB | refine below_set ?_ GE369.out | refine below_set ?_ GE370.out | refine below_set ?_ GE381.out)); (case side4 => exact HC2_1.out); (case side5 => exact Kd.C_below HR3_0.out (by repeat first | exact gB HB | refine below_set ?_ GE369.out | refine below_set ?_ GE370.out | refine below_set ?_ GE381.out)); (case side6 => exact HC3_0.out); (case side7 => exact Kd.C_below HR3_1.out (by repeat first | exact gB HB | refine below_set ?_ GE369.out | refine below_set ?_ GE370.out | refine below_set ?_ GE381.out)); (case side8 => exact HC3_1.out); rintro e w40 ⟨v383, v386, rfl, ho0, ho1, hb⟩; refine ⟨_, rfl, ?_⟩; have HO384 := gA (Kd.R_lower (Kd.R_new' ho0 (Kd.R_lt (by (with_reducible repeat (first | apply Kd.R_alloc | apply Kd.R_drewN | apply Kd.R_drew)); exact (Kd.R_mono (Kd.R_far (p := ⟨gb381, 1, none⟩) (Kd.R_far (p := ⟨gb381, 0, none⟩) (Kd.R_types HO376.out BK381.out (by decide)) (fun _ hk => hk.2) (.slice Ao33 t374.length co33)) (fun _ hk => hk.2) (.slice Ao37 t377.length co37)) (fun _ h_ => h_.1))))) (below_size (by repeat first | exact gB HB | refine below_set ?_ GE369.out | refine below_set ?_ GE370.out | refine below_set ?_ GE381.out))); have HO387 := gA (Kd.R_lower (Kd.R_newB (Kd.R_newB (Kd.R_newB (Kd.R_new' (Kd.R_new' ho1 (Kd.R_lt (by (with_reducible repeat (first | apply Kd.R_alloc | apply Kd.R_drewN | apply Kd.R_drew)); exact (Kd.R_mono (Kd.R_far (p := ⟨gb381, 1, none⟩) (Kd.R_far (p := ⟨gb381, 0, none⟩) (Kd.R_types HO376.out BK381.out (by decide)) (fun _ hk => hk.2) (.slice Ao33 t374.length co33)) (fun _ hk => hk.2) (.slice Ao37 t377.length co37)) (fun _ h_ => h_.1))))) (Kd.R_lt (by (with_reducible repeat (first | apply Kd.R_alloc | apply Kd.R_drewN | apply Kd.R_drew)); exact (Kd.R_mono (Kd.R_far (p := ⟨gb381, 1, none⟩) (Kd.R_far (p := ⟨gb381, 0, none⟩) (Kd.R_mono HO379.out (fun k_ hk => (⟨hk, hk.2⟩ : _ ∧ k_ ≠ gb381))) (fun _ hk => hk.2) (.slice Ao33 t374.length co33)) (fun _ hk => hk.2) (.slice Ao37 t377.length co37)) (fun _ h_ => h_.1))))) (g := gb369) (o := .cells #[.slice A2_0 l2_0.length c2_0, .slice A2_1 l2_1.length c2_1] 25 (0, 0)) (by (with_reducible repeat (first | refine blk_drewN ?_ _ | refine blk_drew ?_ | refine blk_alloc ?_ _)); refine blk_far ?_ NB369_381.out _; (with_reducible repeat (first | refine blk_drewN ?_ _ | refine blk_drew ?_ | refine blk_alloc ?_ _)); refine blk_far ?_ NB369_381.out _; exact gK BK369)) (g := gb370) (o := .cells #[.slice A3_0 l3_0.length c3_0, .slice A3_1 l3_1.length c3_1] 25 (0, 0)) (by (with_reducible repeat (first | refine blk_drewN ?_ _ | refine blk_drew ?_ | refine blk_alloc ?_ _)); refine blk_far ?_ NB370_381.out _; (with_reducible repeat (first | refine blk_drewN ?_ _ | refine blk_drew ?_ | refine blk_alloc ?_ _)); refine blk_far ?_ NB370_381.out _; exact gK BK370)) (g := gb381) (o := .cells #[.slice Ao33 t374.length co33, .slice Ao37 t377.length co37] 25 (0, 0)) (by (with_reducible repeat (first | refine blk_drewN ?_ _ | refine blk_drew ?_ | refine blk_alloc ?_ _)); refine blk_put (cs := #[.slice Ao33 t374.length co33, .slice none 0 0]) ?_ 1 _ rfl; (with_reducible repeat (first | refine blk_drewN ?_ _ | refine blk_drew ?_ | refine blk_alloc ?_ _)); refine blk_put (cs := #[.slice none 0 0, .slice none 0 0]) ?_ 0 _ rfl; exact gK BK381)) (below_size (by repeat first | exact gB HB | refine below_set ?_ GE369.out | refine below_set ?_ GE370.out | refine below_set ?_ GE381.out))); replace HO376 := gA (Kd.R_elder' (by (with_reducible repeat (first | apply Kd.R_alloc | apply Kd.R_drewN | apply Kd.R_drew)); exact (Kd.R_mono (Kd.R_far (p := ⟨gb381, 1, none⟩) (Kd.R_far (p := ⟨gb381, 0, none⟩) (Kd.R_types HO376.out BK381.out (by decide)) (fun _ hk => hk.2) (.slice Ao33 t374.length co33)) (fun _ hk => hk.2) (.slice Ao37 t377.length co37)) (fun _ h_ => h_.1))) (Kd.R_base ho0) hb); replace HO379 := gA (Kd.R_mono (Kd.R_told (Kd.R_told (Kd.R_old (by (with_reducible repeat (first | apply Kd.R_alloc | apply Kd.R_drewN | apply Kd.R_drew)); exact (Kd.R_mono (Kd.R_far (p := ⟨gb381, 1, none⟩) (Kd.R_far (p := ⟨gb381, 0, none⟩) (Kd.R_mono HO379.out (fun k_ hk => (⟨hk, hk.2⟩ : _ ∧ k_ ≠ gb381))) (fun _ hk => hk.2) (.slice Ao33 t374.length co33)) (fun _ hk => hk.2) (.slice Ao37 t377.length co37)) (fun _ h_ => h_.1))) hb) (Kd.R_base ho0)) (Kd.R_base ho1)) (fun _ h_ => h_.1)); replace BK369 := gA (blk_below (g := gb369) (o := .cells #[.slice A2_0 l2_0.length c2_0, .slice A2_1 l2_1.length c2_1] 25 (0, 0)) (by refine blk_far ?_ NB369_381.out _; refine blk_far ?_ NB369_381.out _; exact gK BK369) hb); replace BK370 := gA (blk_below (g := gb370) (o := .cells #[.slice A3_0 l3_0.length c3_0, .slice A3_1 l3_1.length c3_1] 25 (0, 0)) (by refine blk_far ?_ NB370_381.out _; refine blk_far ?_ NB370_381.out _; exact gK BK370) hb); replace BK381 := gA (blk_below (g := gb381) (o := .cells #[.slice Ao33 t374.length co33, .slice Ao37 t377.length co37] 25 (0, 0)) (by refine blk_put (cs := #[.slice Ao33 t374.length co33, .slice none 0 0]) ?_ 1 _ rfl; refine blk_put (cs := #[.slice none 0 0, .slice none 0 0]) ?_ 0 _ rfl; exact gK BK381) hb); replace HB := gA (below_step (by repeat first | exact gB HB | refine below_set ?_ GE369.out | refine below_set ?_ GE370.out | refine below_set ?_ GE381.out) hb); (try clear hb); (try clear hk); (try clear ho0); (try clear ho1)) | ((with_reducible refine gate_dst (N := 11) rfl ?_); refine box_event ?hg (N := 11) ?hd (cs := #[.slice none 0 0, .slice none 0 0]) (t := 25) ?hr ?_; (case hd => rfl); (case hg => rfl); (case hr => first | (go_simp; done) | (go_simp; rfl)); intro gb389 hg w41 hbox hb; replace HO376 := gA (Kd.R_below (gR HO376) hb); replace HO379 := gA (Kd.R_below (Kd.R_elderB (gR HO379) gb389 (Nat.le_of_eq hg.symm)) hb); replace HO384 := gA (Kd.R_below (gR HO384) hb); replace HO387 := gA (Kd.R_below (Kd.R_elderB (gR HO387) gb389 (Nat.le_of_eq hg.symm)) hb); have BK389 := gA (hbox); have GW389 := gA ((by rw [hg]; exact (below_size (by repeat first | exact gB HB | refine below_set ?_ GE369.out | refine below_set ?_ GE370.out | refine below_set ?_ GE381.out)) : w.heap.size ≤ gb389)); have GE389 := gA ((by rw [hg]; exact (below_size (by repeat first | exact gB HB | refine below_set ?_ GE369.out | refine below_set ?_ GE370.out | refine below_set ?_ GE381.out)) : w.heap.size ≤ gb389)); replace HB := gA (below_step (by repeat first | exact gB HB | refine below_set ?_ GE369.out | refine below_set ?_ GE370.out | refine below_set ?_ GE381.out) hb); have NB369_389 := gA ((by rw [hg]; exact Nat.ne_of_lt (blk_lt (gK BK369)) : gb369 ≠ gb389)); have NB389_369 := gA ((by rw [hg]; exact Nat.ne_of_gt (blk_lt (gK BK369)) : gb389 ≠ gb369)); replace BK369 := gA (blk_below (gK BK369) hb); have NB370_389 := gA ((by rw [hg]; exact Nat.ne_of_lt (blk_lt (gK BK370)) : gb370 ≠ gb389)); have NB389_370 := gA ((by rw [hg]; exact Nat.ne_of_gt (blk_lt (gK BK370)) : gb389 ≠ gb370)); replace BK370 := gA (blk_below (gK BK370) hb); have NB381_389 := gA ((by rw [hg]; exact Nat.ne_of_lt (blk_lt (gK BK381)) : gb381 ≠ gb389)); have NB389_381 := gA ((by rw [hg]; exact Nat.ne_of_gt (blk_lt (gK BK381)) : gb389 ≠ gb381)); replace BK381 := gA (blk_below (gK BK381) hb); clear hb hbox hg; obtain ⟨Ao42, co42, eo42⟩ := Kd.R_slice HO384.out; subst eo42; have hnb43 := NB389_369.out; have hnc43 := NB369_389.out; have hnb44 := NB389_370.out; have hnc44 := NB370_389.out; have hnb45 := NB389_381.out; have hnc45 := NB381_389.out; obtain ⟨hcz46_0, hcz46_1, hfz46_0, hfz46_1⟩ := gz2 BK389; obtain ⟨Ao47, co47, eo47⟩ := Kd.R_slice HO387.out; subst eo47; obtain ⟨hcz48_0, hcz48_1, hfz48_0, hfz48_1⟩ := gz2 BK381) | (go_at_call 14; (with_reducible refine (triglyphref03_Same.calls kj4 _ _ t374 _ _ t377 _ _ t382 _ _ t385 true _ ?side1 ?side2 ?side3 ?side4 ?side5 ?side6 ?side7 ?side8 A25.out).mono ?_); (case side1 => refine (Kd.R_reads' (e := 3) (base := w.heap.size) (ok := fun k_ => (True ∧ some k_ ≠ (.slice Ao42 t382.length co42 : Value).ownBlock)) (n := t374.length) (c := co33) ?_).2.2; exact (by (with_reducible repeat (first | apply Kd.R_alloc | apply Kd.R_drewN | apply Kd.R_drew)); exact (Kd.R_mono (Kd.R_far (p := ⟨gb389, 1, none⟩) (Kd.R_far (p := ⟨gb389, 0, none⟩) (Kd.R_types HO376.out BK389.out (by decide)) (fun _ hk => hk.2) (.slice Ao42 t382.length co42)) (fun _ hk => hk.2) (.slice Ao47 t385.length co47)) (fun _ h_ => h_.1)))); (case side2 => exact (Kd.R_reads' HO376.out).2.1); (case side3 => refine (Kd.R_reads' (e := 43) (base := w.heap.size) (ok := fun k_ => ((((((some k_ ≠ (.slice Ao33 t374.length co33 : Value).ownBlock ∧ k_ ≠ gb369) ∧ k_ ≠ gb370) ∧ k_ ≠ gb381) ∧ some k_ ≠ (.slice Ao42 t382.length co42 : Value).ownBlock) ∧ some k_ ≠ (.slice Ao47 t385.length co47 : Value).ownBlock) ∧ k_ ≠ gb389)) (n := t377.length) (c := co37) ?_).2.2; exact (by (with_reducible repeat (first | apply Kd.R_alloc | apply Kd.R_drewN | apply Kd.R_drew)); exact (Kd.R_mono (Kd.R_far (p := ⟨gb389, 1, none⟩) (Kd.R_far (p := ⟨gb389, 0, none⟩) (Kd.R_mono HO379.out (fun k_ hk => (⟨hk, hk.2⟩ : _ ∧ k_ ≠ gb389))) (fun _ hk => hk.2) (.slice Ao42 t382.length co42)) (fun _ hk => hk.2) (.slice Ao47 t385.length co47)) (fun _ h_ => h_.1)))); (case side4 => exact (Kd.R_reads' HO379.out).2.1); (case side5 => refine (Kd.R_reads' (e := 3) (base := w.heap.size) (ok := fun k_ => (True ∧ some k_ ≠ (.slice Ao33 t374.length co33 : Value).ownBlock)) (n := t382.length) (c := co42) ?_).2.2; exact (by (with_reducible repeat (first | apply Kd.R_alloc | apply Kd.R_drewN | apply Kd.R_drew)); exact (Kd.R_mono (Kd.R_far (p := ⟨gb389, 1, none⟩) (Kd.R_far (p := ⟨gb389, 0, none⟩) (Kd.R_types HO384.out BK389.out (by decide)) (fun _ hk => hk.2) (.slice Ao42 t382.length co42)) (fun _ hk => hk.2) (.slice Ao47 t385.length co47)) (fun _ h_ => h_.1)))); (case side6 => exact (Kd.R_reads' HO384.out).2.1); (case side7 => refine (Kd.R_reads' (e := 43) (base := w.heap.size) (ok := fun k_ => ((((((some k_ ≠ (.slice Ao42 t382.length co42 : Value).ownBlock ∧ some k_ ≠ (.slice Ao33 t374.length co33 : Value).ownBlock) ∧ some k_ ≠ (.slice Ao37 t377.length co37 : Value).ownBlock) ∧ k_ ≠ gb369) ∧ k_ ≠ gb370) ∧ k_ ≠ gb381) ∧ k_ ≠ gb389)) (n := t385.length) (c := co47) ?_).2.2; exact (by (with_reducible repeat (first | apply Kd.R_alloc | apply Kd.R_drewN | apply Kd.R_drew)); exact (Kd.R_mono (Kd.R_far (p := ⟨gb389, 1, none⟩) (Kd.R_far (p := ⟨gb389, 0, none⟩) (Kd.R_mono HO387.out (fun k_ hk => (⟨hk, hk.2⟩ : _ ∧ k_ ≠ gb389))) (fun _ hk => hk.2) (.slice Ao42 t382.length co42)) (fun _ hk => hk.2) (.slice Ao47 t385.length co47)) (fun _ h_ => h_.1)))); (case side8 => exact (Kd.R_reads' HO387.out).2.1); rintro e w49 ⟨rfl, hb⟩; replace HO376 := gA (Kd.R_below (by (with_reducible repeat (first | apply Kd.R_alloc | apply Kd.R_drewN | apply Kd.R_drew)); exact (Kd.R_mono (Kd.R_far (p := ⟨gb389, 1, none⟩) (Kd.R_far (p := ⟨gb389, 0, none⟩) (Kd.R_types HO376.out BK389.out (by decide)) (fun _ hk => hk.2) (.slice Ao42 t382.length co42)) (fun _ hk => hk.2) (.slice Ao47 t385.length co47)) (fun _ h_ => h_.1))) hb); replace HO379 := gA (Kd.R_below (by (with_reducible repeat (first | apply Kd.R_alloc | apply Kd.R_drewN | apply Kd.R_drew)); exact (Kd.R_mono (Kd.R_far (p := ⟨gb389, 1, none⟩) (Kd.R_far (p := ⟨gb389, 0, none⟩) (Kd.R_mono HO379.out (fun k_ hk => (⟨hk, hk.2⟩ : _ ∧ k_ ≠ gb389))) (fun _ hk => hk.2) (.slice Ao42 t382.length co42)) (fun _ hk => hk.2) (.slice Ao47 t385.length co47)) (fun _ h_ => h_.1))) hb); replace HO384 := gA (Kd.R_below (by (with_reducible repeat (first | apply Kd.R_alloc | apply Kd.R_drewN | apply Kd.R_drew)); exact (Kd.R_mono (Kd.R_far (p := ⟨gb389, 1, none⟩) (Kd.R_far (p := ⟨gb389, 0, none⟩) (Kd.R_types HO384.out BK389.out (by decide)) (fun _ hk => hk.2) (.slice Ao42 t382.length co42)) (fun _ hk => hk.2) (.slice Ao47 t385.length co47)) (fun _ h_ => h_.1))) hb); replace HO387 := gA (Kd.R_below (by (with_reducible repeat (first | apply Kd.R_alloc | apply Kd.R_drewN | apply Kd.R_drew)); exact (Kd.R_mono (Kd.R_far (p := ⟨gb389, 1, none⟩) (Kd.R_far (p := ⟨gb389, 0, none⟩) (Kd.R_mono HO387.out (fun k_ hk => (⟨hk, hk.2⟩ : _ ∧ k_ ≠ gb389))) (fun _ hk => hk.2) (.slice Ao42 t382.length co42)) (fun _ hk => hk.2) (.slice Ao47 t385.length co47)) (fun _ h_ => h_.1))) hb); replace BK369 := gA (blk_below (g := gb369) (o := .cells #[.slice A2_0 l2_0.length c2_0, .slice A2_1 l2_1.length c2_1] 25 (0, 0)) (by refine blk_far ?_ NB369_389.out _; refine blk_far ?_ NB369_389.out _; exact gK BK369) hb); replace BK370 := gA (blk_below (g := gb370) (o := .cells #[.slice A3_0 l3_0.length c3_0, .slice A3_1 l3_1.length c3_1] 25 (0, 0)) (by refine blk_far ?_ NB370_389.out _; refine blk_far ?_ NB370_389.out _; exact gK BK370) hb); replace BK381 := gA (blk_below (g := gb381) (o := .cells #[.slice Ao33 t374.length co33, .slice Ao37 t377.length co37] 25 (0, 0)) (by refine blk_far ?_ NB381_389.out _; refine blk_far ?_ NB381_389.out _; exact gK BK381) hb); replace BK389 := gA (blk_below (g := gb389) (o := .cells #[.slice Ao42 t382.length co42, .slice Ao47 t385.length co47] 25 (0, 0)) (by refine blk_put (cs := #[.slice Ao42 t382.length co42, .slice none 0 0]) ?_ 1 _ rfl; refine blk_put (cs := #[.slice none 0 0, .slice none 0 0]) ?_ 0 _ rfl; exact gK BK389) hb); replace HB := gA (below_step (by repeat first | exact gB HB | refine below_set ?_ GE369.out | refine below_set ?_ GE370.out | refine below_set ?_ GE381.out | refine below_set ?_ GE389.out) hb); (try clear hb); (try clear hk)) | (go_at_call 11; (with_reducible refine (triglyphlaw08_works.calls kj4  t391 _ A27.out).mono ?_); rintro e w50 ⟨rfl, hb⟩; replace HO376 := gA (Kd.R_below (gR HO376) hb); replace HO379 := gA (Kd.R_below (gR HO379) hb); replace HO384 := gA (Kd.R_below (gR HO384) hb); replace HO387 := gA (Kd.R_below (gR HO387) hb); replace BK369 := gA (blk_below (gK BK369) hb); replace BK370 := gA (blk_below (gK BK370) hb); replace BK381 := gA (blk_below (gK BK381) hb); replace BK389 := gA (blk_below (gK BK389) hb); replace HB := gA (below_step (by repeat first | exact gB HB | refine below_set ?_ GE369.out | refine below_set ?_ GE370.out | refine below_set ?_ GE381.out | refine below_set ?_ GE389.out) hb); (try clear hb); (try clear hk)))
     go_ret
     exact ⟨rfl, by repeat first | exact gB HB | refine below_set ?_ GE369.out | refine below_set ?_ GE370.out | refine below_set ?_ GE381.out | refine below_set ?_ GE389.out⟩
    ·replace c26 := Bool.eq_false_iff.mpr c26
     subst c26
     have H1 : (none) = some r := by rw [if_neg (show ¬ (false = true) by decide)] at H; exact H
     clear H; have H := H1; clear H1
     exact absurd H (by simp)
end Go.Proofs.Ytahgfebdjjfkhaa.P
