/- Written by a program of this session: the functions that the laws reach, what each comes to, and each law as it is stated, for every input. No condition. -/
import Derived.Test.YtahgfebdjjfkhaaPx0
import Derived.Test.YtahgfebdjjfkhaaPx1
import Derived.Test.YtahgfebdjjfkhaaPx9
import Derived.Test.YtahgfebdjjfkhaaPx10
import Derived.Test.YtahgfebdjjfkhaaPx12
import Derived.Test.YtahgfebdjjfkhaaPx13
import Derived.Test.YtahgfebdjjfkhaaPx15
namespace Go.Proofs.Ytahgfebdjjfkhaa.P
open Go.RowKit Go.Proofs.YtahgfebdjjfkhaaW.PrintWords Go.Proofs.YtahgfebdjjfkhaaW.PrintLast Go.Proofs.YtahgfebdjjfkhaaW.PrintMore
attribute [local go_sem] max2_int min2_int max_two min_two max_three min_three max_four min_four   -- for this text's walks alone
set_option linter.unusedVariables false
set_option linter.unusedSimpArgs false
mutual
def triglyphlaw08_FoldTurns.j0 : Nat → Int → Bool → Bool → List Int → List (S43) → Option (Bool)
 | 0, _, _, _, _, _ => none
 | k + 1, x0, x2, x37, x367000, x367001 => if x37 = true then ((triglyphlaw08_works.f k).bind fun t370 => (some t370)) else (if x2 = true then (triglyphlaw08_FoldTurns.j1 k x0 x2 1 x367000 x367001) else (triglyphlaw08_FoldTurns.j1 k x0 x2 0 x367000 x367001))
def triglyphlaw08_FoldTurns.j1 : Nat → Int → Bool → Int → List Int → List (S43) → Option (Bool)
 | 0, _, _, _, _, _ => none
 | k + 1, x0, x2, x7, x367000, x367001 => (triglyphref05_By.f k x367000 x367000 x367001 x7).bind fun bt371 => ((fold_Red.f k x0 false x367000 x367001 x2).bind fun bt378 => ((fold_Red.f k x0 true bt371.1 bt371.2 x2).bind fun bt386 => (if bt378.2.2 = 0 then (triglyphlaw08_FoldTurns.j2 k bt378.2.2 bt386.2.2 (bt386.2.2 != 0) bt378.1 bt378.2.1 bt386.1 bt386.2.1) else (triglyphlaw08_FoldTurns.j2 k bt378.2.2 bt386.2.2 true bt378.1 bt378.2.1 bt386.1 bt386.2.1))))
def triglyphlaw08_FoldTurns.j2 : Nat → Int → Int → Bool → List Int → List (S43) → List Int → List (S43) → Option (Bool)
 | 0, _, _, _, _, _, _, _ => none
 | k + 1, x10, x12, x66, x386000, x386001, x394000, x394001 => if x66 = true then (if x10 = x12 then ((triglyphlaw08_works.f k).bind fun t394 => (some t394)) else (none)) else ((triglyphref03_Same.f k x386000 x386001 x394000 x394001).bind fun t395 => (if t395 = true then ((triglyphlaw08_works.f k).bind fun t396 => (some t396)) else (none)))
end
def triglyphlaw08_FoldTurns.f (k : Nat) (a0 : Int) (l1_0 : List Int) (l1_1 : List (S43)) (a2 : Bool) : Option (Bool) := (triglyphlaw08_light.f k l1_0 l1_1).bind fun t367 => (if t367 = true then ((triglyphlaw08_narrow.f k l1_0 l1_1).bind fun t368 => (if t368 = true then ((triglyphref03_Check.f k l1_0 l1_1).bind fun t369 => (if t369 = 0 then (if a0 < 21 then (triglyphlaw08_FoldTurns.j0 k a0 a2 true l1_0 l1_1) else (if a0 > 25 then (triglyphlaw08_FoldTurns.j0 k a0 a2 true l1_0 l1_1) else (triglyphlaw08_FoldTurns.j0 k a0 a2 (a0 == 22) l1_0 l1_1))) else (triglyphlaw08_FoldTurns.j0 k a0 a2 true l1_0 l1_1))) else (triglyphlaw08_FoldTurns.j0 k a0 a2 true l1_0 l1_1))) else (triglyphlaw08_FoldTurns.j0 k a0 a2 true l1_0 l1_1))
theorem triglyphlaw08_FoldTurns.mono_l : ∀ k, (∀ y0 y1 y2 y3 y4, LeO (triglyphlaw08_FoldTurns.j0 k y0 y1 y2 y3 y4) (triglyphlaw08_FoldTurns.j0 (k + 1) y0 y1 y2 y3 y4)) ∧ (∀ y0 y1 y2 y3 y4, LeO (triglyphlaw08_FoldTurns.j1 k y0 y1 y2 y3 y4) (triglyphlaw08_FoldTurns.j1 (k + 1) y0 y1 y2 y3 y4)) ∧ (∀ y0 y1 y2 y3 y4 y5 y6, LeO (triglyphlaw08_FoldTurns.j2 k y0 y1 y2 y3 y4 y5 y6) (triglyphlaw08_FoldTurns.j2 (k + 1) y0 y1 y2 y3 y4 y5 y6))
 | 0 => ⟨fun _ _ _ _ _ r h => by simp [triglyphlaw08_FoldTurns.j0] at h, fun _ _ _ _ _ r h => by simp [triglyphlaw08_FoldTurns.j1] at h, fun _ _ _ _ _ _ _ r h => by simp [triglyphlaw08_FoldTurns.j2] at h⟩
 | k + 1 => by
  obtain ⟨ih0, ih1, ih2⟩ := triglyphlaw08_FoldTurns.mono_l k
  refine ⟨?_, ?_, ?_⟩
  ·intro y0 y1 y2 y3 y4
   unfold triglyphlaw08_FoldTurns.j0
   repeat' first
   | (with_reducible exact ih0 _ _ _ _ _)
   | (with_reducible exact ih1 _ _ _ _ _)
   | (with_reducible exact ih2 _ _ _ _ _ _ _)
   | (with_reducible exact fold_Red.mono _ _ _ _ _ _)
   | (with_reducible exact triglyphlaw08_light.mono _ _ _)
   | (with_reducible exact triglyphlaw08_narrow.mono _ _ _)
   | (with_reducible exact triglyphlaw08_works.mono _)
   | (with_reducible exact triglyphref03_Check.mono _ _ _)
   | (with_reducible exact triglyphref03_Same.mono _ _ _ _ _)
   | (with_reducible exact triglyphref05_By.mono _ _ _ _ _)
   | (with_reducible exact LeO.refl _)
   | (with_reducible exact LeO.none _)
   | (with_reducible refine LeO.ite ?_ ?_)
   | (with_reducible refine LeO.bind ?_ (fun _ => ?_))



   | exact fold_Red.mono _ _ _ _ _ _
   | exact triglyphlaw08_light.mono _ _ _
   | exact triglyphlaw08_narrow.mono _ _ _
   | exact triglyphlaw08_works.mono _
   | exact triglyphref03_Check.mono _ _ _
   | exact triglyphref03_Same.mono _ _ _ _ _
   | exact triglyphref05_By.mono _ _ _ _ _



  ·intro y0 y1 y2 y3 y4
   unfold triglyphlaw08_FoldTurns.j1
   repeat' first
   | (with_reducible exact ih0 _ _ _ _ _)
   | (with_reducible exact ih1 _ _ _ _ _)
   | (with_reducible exact ih2 _ _ _ _ _ _ _)
   | (with_reducible exact fold_Red.mono _ _ _ _ _ _)
   | (with_reducible exact triglyphlaw08_light.mono _ _ _)
   | (with_reducible exact triglyphlaw08_narrow.mono _ _ _)
   | (with_reducible exact triglyphlaw08_works.mono _)
   | (with_reducible exact triglyphref03_Check.mono _ _ _)
   | (with_reducible exact triglyphref03_Same.mono _ _ _ _ _)
   | (with_reducible exact triglyphref05_By.mono _ _ _ _ _)
   | (with_reducible exact LeO.refl _)
   | (with_reducible exact LeO.none _)
   | (with_reducible refine LeO.ite ?_ ?_)
   | (with_reducible refine LeO.bind ?_ (fun _ => ?_))



   | exact fold_Red.mono _ _ _ _ _ _
   | exact triglyphlaw08_light.mono _ _ _
   | exact triglyphlaw08_narrow.mono _ _ _
   | exact triglyphlaw08_works.mono _
   | exact triglyphref03_Check.mono _ _ _
   | exact triglyphref03_Same.mono _ _ _ _ _
   | exact triglyphref05_By.mono _ _ _ _ _



  ·intro y0 y1 y2 y3 y4 y5 y6
   unfold triglyphlaw08_FoldTurns.j2
   repeat' first
   | (with_reducible exact ih0 _ _ _ _ _)
   | (with_reducible exact ih1 _ _ _ _ _)
   | (with_reducible exact ih2 _ _ _ _ _ _ _)
   | (with_reducible exact fold_Red.mono _ _ _ _ _ _)
   | (with_reducible exact triglyphlaw08_light.mono _ _ _)
   | (with_reducible exact triglyphlaw08_narrow.mono _ _ _)
   | (with_reducible exact triglyphlaw08_works.mono _)
   | (with_reducible exact triglyphref03_Check.mono _ _ _)
   | (with_reducible exact triglyphref03_Same.mono _ _ _ _ _)
   | (with_reducible exact triglyphref05_By.mono _ _ _ _ _)
   | (with_reducible exact LeO.refl _)
   | (with_reducible exact LeO.none _)
   | (with_reducible refine LeO.ite ?_ ?_)
   | (with_reducible refine LeO.bind ?_ (fun _ => ?_))



   | exact fold_Red.mono _ _ _ _ _ _
   | exact triglyphlaw08_light.mono _ _ _
   | exact triglyphlaw08_narrow.mono _ _ _
   | exact triglyphlaw08_works.mono _
   | exact triglyphref03_Check.mono _ _ _
   | exact triglyphref03_Same.mono _ _ _ _ _
   | exact triglyphref05_By.mono _ _ _ _ _
theorem triglyphlaw08_FoldTurns.mono : ∀ a0 a1 a2 a3 k, LeO (triglyphlaw08_FoldTurns.f k a0 a1 a2 a3) (triglyphlaw08_FoldTurns.f (k + 1) a0 a1 a2 a3) := by
 intro a0 a1 a2 a3 k
 obtain ⟨ih0, ih1, ih2⟩ := triglyphlaw08_FoldTurns.mono_l k
 unfold triglyphlaw08_FoldTurns.f
 repeat' first
   | (with_reducible exact ih0 _ _ _ _ _)
   | (with_reducible exact ih1 _ _ _ _ _)
   | (with_reducible exact ih2 _ _ _ _ _ _ _)
   | (with_reducible exact fold_Red.mono _ _ _ _ _ _)
   | (with_reducible exact triglyphlaw08_light.mono _ _ _)
   | (with_reducible exact triglyphlaw08_narrow.mono _ _ _)
   | (with_reducible exact triglyphlaw08_works.mono _)
   | (with_reducible exact triglyphref03_Check.mono _ _ _)
   | (with_reducible exact triglyphref03_Same.mono _ _ _ _ _)
   | (with_reducible exact triglyphref05_By.mono _ _ _ _ _)
   | (with_reducible exact LeO.refl _)
   | (with_reducible exact LeO.none _)
   | (with_reducible refine LeO.ite ?_ ?_)
   | (with_reducible refine LeO.bind ?_ (fun _ => ?_))



   | exact fold_Red.mono _ _ _ _ _ _
   | exact triglyphlaw08_light.mono _ _ _
   | exact triglyphlaw08_narrow.mono _ _ _
   | exact triglyphlaw08_works.mono _
   | exact triglyphref03_Check.mono _ _ _
   | exact triglyphref03_Same.mono _ _ _ _ _
   | exact triglyphref05_By.mono _ _ _ _ _
set_option maxHeartbeats 8000000 in
set_option maxRecDepth 100000 in
theorem triglyphlaw08_FoldTurns.calls (k : Nat) (a0 : Int) (A1_0 : Option Addr) (c1_0 : Nat) (l1_0 : List Int) (A1_1 : Option Addr) (c1_1 : Nat) (l1_1 : List (S43)) (a2 : Bool) (r : Bool) (w : World) (hr1_0 : Kd.C (Kd.int .i64) w A1_0 l1_0.length l1_0) (hc1_0 : l1_0.length ≤ c1_0) (hr1_1 : Kd.C k43 w A1_1 l1_1.length l1_1) (hc1_1 : l1_1.length ≤ c1_1) (h : triglyphlaw08_FoldTurns.f k a0 l1_0 l1_1 a2 = some r) :
  Calls Try.prog 7 #[.int .i64 a0, .agg #[.slice A1_0 l1_0.length c1_0, .slice A1_1 l1_1.length c1_1], .bool a2] w fun e w' => e = .returned (.bool r) ∧ Below w.heap.size w w' := by
 have hu25 := Try.underlying25
 have hu32 := Try.underlying32
 have HR1_0 := gA hr1_0
 have HC1_0 := gA hc1_0
 clear hr1_0 hc1_0
 have HR1_1 := gA hr1_1
 have HC1_1 := gA hc1_1
 clear hr1_1 hc1_1
 have HB := gA (Below.refl w.heap.size w)
 have H : ((triglyphlaw08_light.f k l1_0 l1_1).bind fun t367 => (if t367 = true then ((triglyphlaw08_narrow.f k l1_0 l1_1).bind fun t368 => (if t368 = true then ((triglyphref03_Check.f k l1_0 l1_1).bind fun t369 => (if t369 = 0 then (if a0 < 21 then (triglyphlaw08_FoldTurns.j0 k a0 a2 true l1_0 l1_1) else (if a0 > 25 then (triglyphlaw08_FoldTurns.j0 k a0 a2 true l1_0 l1_1) else (triglyphlaw08_FoldTurns.j0 k a0 a2 (a0 == 22) l1_0 l1_1))) else (triglyphlaw08_FoldTurns.j0 k a0 a2 true l1_0 l1_1))) else (triglyphlaw08_FoldTurns.j0 k a0 a2 true l1_0 l1_1))) else (triglyphlaw08_FoldTurns.j0 k a0 a2 true l1_0 l1_1))) = some r := h
 clear h
 have HC4 := gA H
 clear H
 go_enter Try.func7, Try.ntmps7
 go_upto_region 1 with (first | ((with_reducible refine gate_dst (N := 4) rfl ?_); refine box_event ?hg (N := 4) ?hd (cs := #[.slice A1_0 l1_0.length c1_0, .slice A1_1 l1_1.length c1_1]) (t := 25) ?hr ?_; (case hd => rfl); (case hg => rfl); (case hr => first | (go_simp; done) | (go_simp; rfl)); intro gb366 hg w5 hbox hb; have BK366 := gA (hbox); have GW366 := gA ((by rw [hg]; exact (below_size (gB HB)) : w.heap.size ≤ gb366)); have GE366 := gA ((by rw [hg]; exact (below_size (gB HB)) : w.heap.size ≤ gb366)); replace HB := gA (below_step (gB HB) hb); clear hb hbox hg))
 (try simp only [Act.put, List.setIfInBounds_toArray, List.set_cons_zero, List.set_cons_succ])
 go_cut [37] (fun v37 wc => ∃ (kq : Nat) (x37_3 : Bool), v37 = .bool x37_3 ∧ Aside0 (triglyphlaw08_FoldTurns.j0 kq a0 a2 x37_3 l1_0 l1_1 = some r) ∧ Aside0 (kq ≤ k) ∧ Aside0 (wc.heap[gb366]? = some (.cells #[(.slice A1_0 l1_0.length c1_0), (.slice A1_1 l1_1.length c1_1)] 25 (0, 0))) ∧ Aside0 (Below w.heap.size w wc))
 case first =>
  have H := HC4.out; clear HC4
  replace H := Option.bind_eq_some_iff.mp H
  obtain ⟨t367, A60, H⟩ := H
  replace H : (if t367 = true then ((triglyphlaw08_narrow.f k l1_0 l1_1).bind fun t368 => (if t368 = true then ((triglyphref03_Check.f k l1_0 l1_1).bind fun t369 => (if t369 = 0 then (if a0 < 21 then (triglyphlaw08_FoldTurns.j0 k a0 a2 true l1_0 l1_1) else (if a0 > 25 then (triglyphlaw08_FoldTurns.j0 k a0 a2 true l1_0 l1_1) else (triglyphlaw08_FoldTurns.j0 k a0 a2 (a0 == 22) l1_0 l1_1))) else (triglyphlaw08_FoldTurns.j0 k a0 a2 true l1_0 l1_1))) else (triglyphlaw08_FoldTurns.j0 k a0 a2 true l1_0 l1_1))) else (triglyphlaw08_FoldTurns.j0 k a0 a2 true l1_0 l1_1)) = some r := H
  have A6 := gA A60
  clear A60
  by_cases c7 : t367 = true
  ·subst c7
   have H1 : ((triglyphlaw08_narrow.f k l1_0 l1_1).bind fun t368 => (if t368 = true then ((triglyphref03_Check.f k l1_0 l1_1).bind fun t369 => (if t369 = 0 then (if a0 < 21 then (triglyphlaw08_FoldTurns.j0 k a0 a2 true l1_0 l1_1) else (if a0 > 25 then (triglyphlaw08_FoldTurns.j0 k a0 a2 true l1_0 l1_1) else (triglyphlaw08_FoldTurns.j0 k a0 a2 (a0 == 22) l1_0 l1_1))) else (triglyphlaw08_FoldTurns.j0 k a0 a2 true l1_0 l1_1))) else (triglyphlaw08_FoldTurns.j0 k a0 a2 true l1_0 l1_1))) = some r := by rw [if_pos rfl] at H; exact H
   clear H; have H := H1; clear H1
   replace H := Option.bind_eq_some_iff.mp H
   obtain ⟨t368, A80, H⟩ := H
   replace H : (if t368 = true then ((triglyphref03_Check.f k l1_0 l1_1).bind fun t369 => (if t369 = 0 then (if a0 < 21 then (triglyphlaw08_FoldTurns.j0 k a0 a2 true l1_0 l1_1) else (if a0 > 25 then (triglyphlaw08_FoldTurns.j0 k a0 a2 true l1_0 l1_1) else (triglyphlaw08_FoldTurns.j0 k a0 a2 (a0 == 22) l1_0 l1_1))) else (triglyphlaw08_FoldTurns.j0 k a0 a2 true l1_0 l1_1))) else (triglyphlaw08_FoldTurns.j0 k a0 a2 true l1_0 l1_1)) = some r := H
   have A8 := gA A80
   clear A80
   by_cases c9 : t368 = true
   ·subst c9
    have H1 : ((triglyphref03_Check.f k l1_0 l1_1).bind fun t369 => (if t369 = 0 then (if a0 < 21 then (triglyphlaw08_FoldTurns.j0 k a0 a2 true l1_0 l1_1) else (if a0 > 25 then (triglyphlaw08_FoldTurns.j0 k a0 a2 true l1_0 l1_1) else (triglyphlaw08_FoldTurns.j0 k a0 a2 (a0 == 22) l1_0 l1_1))) else (triglyphlaw08_FoldTurns.j0 k a0 a2 true l1_0 l1_1))) = some r := by rw [if_pos rfl] at H; exact H
    clear H; have H := H1; clear H1
    replace H := Option.bind_eq_some_iff.mp H
    obtain ⟨t369, A100, H⟩ := H
    replace H : (if t369 = 0 then (if a0 < 21 then (triglyphlaw08_FoldTurns.j0 k a0 a2 true l1_0 l1_1) else (if a0 > 25 then (triglyphlaw08_FoldTurns.j0 k a0 a2 true l1_0 l1_1) else (triglyphlaw08_FoldTurns.j0 k a0 a2 (a0 == 22) l1_0 l1_1))) else (triglyphlaw08_FoldTurns.j0 k a0 a2 true l1_0 l1_1)) = some r := H
    have A10 := gA A100
    clear A100
    by_cases c11 : t369 = 0
    ·rw [if_pos c11] at H
     have c11b0 : (t369 == 0) = true := beq_iff_eq.mpr c11
     have c11b1 : (t369 != 0) = false := bne_eq_false_iff_eq.mpr c11
     clear c11
     (first | rw [c11b0] | rw [c11b1] | (simp only [i64_w, i32_w]; rw [c11b0]) | skip)
     by_cases c12 : a0 < 21
     ·rw [if_pos c12] at H
      have c12b0 := decide_eq_true c12
      clear c12
      have H' := gA H
      clear H
      obtain ⟨hcz13_0, hcz13_1, hfz13_0, hfz13_1⟩ := gz2 BK366
      go_wp2_with (first | ((with_reducible refine gate_callee (f := 9) rfl ?_); refine goesL_ (some 14) rfl rfl Try.func9 (by kernel_rfl) rfl #[.agg #[.slice A1_0 l1_0.length c1_0, .slice A1_1 l1_1.length c1_1]] rfl (by (try simp only [List.map_toArray, List.map_cons, List.map_nil]); first | done | rfl | (simp only [List.length_drop, List.length_take]; rfl)) ?_; (with_reducible refine (triglyphlaw08_light.calls k _ _ l1_0 _ _ l1_1 true _ ?side1 ?side2 ?side3 ?side4 A6.out).mono ?_); (case side1 => exact gC HR1_0 HB); (case side2 => exact HC1_0.out); (case side3 => exact gC HR1_1 HB); (case side4 => exact HC1_1.out); rintro e w14 ⟨rfl, hb⟩; refine ⟨_, rfl, ?_⟩; replace BK366 := gA (blk_below (gK BK366) hb); replace HB := gA (below_step (gB HB) hb); (try clear hb); obtain ⟨hcz15_0, hcz15_1, hfz15_0, hfz15_1⟩ := gz2 BK366) | (go_at_call 10; (with_reducible refine (triglyphlaw08_narrow.calls k _ _ l1_0 _ _ l1_1 true _ ?side1 ?side2 ?side3 ?side4 A8.out).mono ?_); (case side1 => exact gC HR1_0 HB); (case side2 => exact HC1_0.out); (case side3 => exact gC HR1_1 HB); (case side4 => exact HC1_1.out); rintro e w16 ⟨rfl, hb⟩; replace BK366 := gA (blk_below (gK BK366) hb); replace HB := gA (below_step (gB HB) hb); (try clear hb); obtain ⟨hcz17_0, hcz17_1, hfz17_0, hfz17_1⟩ := gz2 BK366) | (go_at_call 21; (with_reducible refine (triglyphref03_Check.calls k _ _ l1_0 _ _ l1_1 t369 _ ?side1 ?side2 ?side3 ?side4 A10.out).mono ?_); (case side1 => exact gC HR1_0 HB); (case side2 => exact HC1_0.out); (case side3 => exact gC HR1_1 HB); (case side4 => exact HC1_1.out); rintro e w18 ⟨rfl, hb⟩; replace BK366 := gA (blk_below (gK BK366) hb); replace HB := gA (below_step (gB HB) hb); (try clear hb)))
      all_goals (go_meet; (case rel => exact ⟨_, (true), (by first | rfl | (simp; done) | (simp [*]; done) | (exfalso; simp_all; done) | (exfalso; simp_all; omega)), H', ⟨by first | omega | exact Nat.le_refl _⟩, ⟨gK BK366⟩, ⟨gB HB⟩⟩))
     ·rw [if_neg c12] at H
      have c12b0 := decide_eq_false c12
      clear c12
      by_cases c19 : a0 > 25
      ·rw [if_pos c19] at H
       have c19b0 : decide (25 < a0) = true := decide_eq_true c19
       clear c19
       have H' := gA H
       clear H
       obtain ⟨hcz20_0, hcz20_1, hfz20_0, hfz20_1⟩ := gz2 BK366
       go_wp2_with (first | ((with_reducible refine gate_callee (f := 9) rfl ?_); refine goesL_ (some 14) rfl rfl Try.func9 (by kernel_rfl) rfl #[.agg #[.slice A1_0 l1_0.length c1_0, .slice A1_1 l1_1.length c1_1]] rfl (by (try simp only [List.map_toArray, List.map_cons, List.map_nil]); first | done | rfl | (simp only [List.length_drop, List.length_take]; rfl)) ?_; (with_reducible refine (triglyphlaw08_light.calls k _ _ l1_0 _ _ l1_1 true _ ?side1 ?side2 ?side3 ?side4 A6.out).mono ?_); (case side1 => exact gC HR1_0 HB); (case side2 => exact HC1_0.out); (case side3 => exact gC HR1_1 HB); (case side4 => exact HC1_1.out); rintro e w21 ⟨rfl, hb⟩; refine ⟨_, rfl, ?_⟩; replace BK366 := gA (blk_below (gK BK366) hb); replace HB := gA (below_step (gB HB) hb); (try clear hb); obtain ⟨hcz22_0, hcz22_1, hfz22_0, hfz22_1⟩ := gz2 BK366) | (go_at_call 10; (with_reducible refine (triglyphlaw08_narrow.calls k _ _ l1_0 _ _ l1_1 true _ ?side1 ?side2 ?side3 ?side4 A8.out).mono ?_); (case side1 => exact gC HR1_0 HB); (case side2 => exact HC1_0.out); (case side3 => exact gC HR1_1 HB); (case side4 => exact HC1_1.out); rintro e w23 ⟨rfl, hb⟩; replace BK366 := gA (blk_below (gK BK366) hb); replace HB := gA (below_step (gB HB) hb); (try clear hb); obtain ⟨hcz24_0, hcz24_1, hfz24_0, hfz24_1⟩ := gz2 BK366) | (go_at_call 21; (with_reducible refine (triglyphref03_Check.calls k _ _ l1_0 _ _ l1_1 t369 _ ?side1 ?side2 ?side3 ?side4 A10.out).mono ?_); (case side1 => exact gC HR1_0 HB); (case side2 => exact HC1_0.out); (case side3 => exact gC HR1_1 HB); (case side4 => exact HC1_1.out); rintro e w25 ⟨rfl, hb⟩; replace BK366 := gA (blk_below (gK BK366) hb); replace HB := gA (below_step (gB HB) hb); (try clear hb)))
       all_goals (go_meet; (case rel => exact ⟨_, (true), (by first | rfl | (simp; done) | (simp [*]; done) | (exfalso; simp_all; done) | (exfalso; simp_all; omega)), H', ⟨by first | omega | exact Nat.le_refl _⟩, ⟨gK BK366⟩, ⟨gB HB⟩⟩))
      ·rw [if_neg c19] at H
       have c19b0 : decide (25 < a0) = false := decide_eq_false c19
       clear c19
       have H' := gA H
       clear H
       obtain ⟨hcz26_0, hcz26_1, hfz26_0, hfz26_1⟩ := gz2 BK366
       go_wp2_with (first | ((with_reducible refine gate_callee (f := 9) rfl ?_); refine goesL_ (some 14) rfl rfl Try.func9 (by kernel_rfl) rfl #[.agg #[.slice A1_0 l1_0.length c1_0, .slice A1_1 l1_1.length c1_1]] rfl (by (try simp only [List.map_toArray, List.map_cons, List.map_nil]); first | done | rfl | (simp only [List.length_drop, List.length_take]; rfl)) ?_; (with_reducible refine (triglyphlaw08_light.calls k _ _ l1_0 _ _ l1_1 true _ ?side1 ?side2 ?side3 ?side4 A6.out).mono ?_); (case side1 => exact gC HR1_0 HB); (case side2 => exact HC1_0.out); (case side3 => exact gC HR1_1 HB); (case side4 => exact HC1_1.out); rintro e w27 ⟨rfl, hb⟩; refine ⟨_, rfl, ?_⟩; replace BK366 := gA (blk_below (gK BK366) hb); replace HB := gA (below_step (gB HB) hb); (try clear hb); obtain ⟨hcz28_0, hcz28_1, hfz28_0, hfz28_1⟩ := gz2 BK366) | (go_at_call 10; (with_reducible refine (triglyphlaw08_narrow.calls k _ _ l1_0 _ _ l1_1 true _ ?side1 ?side2 ?side3 ?side4 A8.out).mono ?_); (case side1 => exact gC HR1_0 HB); (case side2 => exact HC1_0.out); (case side3 => exact gC HR1_1 HB); (case side4 => exact HC1_1.out); rintro e w29 ⟨rfl, hb⟩; replace BK366 := gA (blk_below (gK BK366) hb); replace HB := gA (below_step (gB HB) hb); (try clear hb); obtain ⟨hcz30_0, hcz30_1, hfz30_0, hfz30_1⟩ := gz2 BK366) | (go_at_call 21; (with_reducible refine (triglyphref03_Check.calls k _ _ l1_0 _ _ l1_1 t369 _ ?side1 ?side2 ?side3 ?side4 A10.out).mono ?_); (case side1 => exact gC HR1_0 HB); (case side2 => exact HC1_0.out); (case side3 => exact gC HR1_1 HB); (case side4 => exact HC1_1.out); rintro e w31 ⟨rfl, hb⟩; replace BK366 := gA (blk_below (gK BK366) hb); replace HB := gA (below_step (gB HB) hb); (try clear hb)))
       all_goals (go_meet; (case rel => exact ⟨_, ((a0 == 22)), (by first | rfl | (simp; done) | (simp [*]; done) | (exfalso; simp_all; done) | (exfalso; simp_all; omega)), H', ⟨by first | omega | exact Nat.le_refl _⟩, ⟨gK BK366⟩, ⟨gB HB⟩⟩))
    ·rw [if_neg c11] at H
     have c11b0 : (t369 == 0) = false := beq_eq_false_iff_ne.mpr c11
     have c11b1 : (t369 != 0) = true := bne_iff_ne.mpr c11
     (first | rw [c11b0] | rw [c11b1] | (simp only [i64_w, i32_w]; rw [c11b0]) | skip)
     have H' := gA H
     clear H
     obtain ⟨hcz32_0, hcz32_1, hfz32_0, hfz32_1⟩ := gz2 BK366
     go_wp2_with (first | ((with_reducible refine gate_callee (f := 9) rfl ?_); refine goesL_ (some 14) rfl rfl Try.func9 (by kernel_rfl) rfl #[.agg #[.slice A1_0 l1_0.length c1_0, .slice A1_1 l1_1.length c1_1]] rfl (by (try simp only [List.map_toArray, List.map_cons, List.map_nil]); first | done | rfl | (simp only [List.length_drop, List.length_take]; rfl)) ?_; (with_reducible refine (triglyphlaw08_light.calls k _ _ l1_0 _ _ l1_1 true _ ?side1 ?side2 ?side3 ?side4 A6.out).mono ?_); (case side1 => exact gC HR1_0 HB); (case side2 => exact HC1_0.out); (case side3 => exact gC HR1_1 HB); (case side4 => exact HC1_1.out); rintro e w33 ⟨rfl, hb⟩; refine ⟨_, rfl, ?_⟩; replace BK366 := gA (blk_below (gK BK366) hb); replace HB := gA (below_step (gB HB) hb); (try clear hb); obtain ⟨hcz34_0, hcz34_1, hfz34_0, hfz34_1⟩ := gz2 BK366) | (go_at_call 10; (with_reducible refine (triglyphlaw08_narrow.calls k _ _ l1_0 _ _ l1_1 true _ ?side1 ?side2 ?side3 ?side4 A8.out).mono ?_); (case side1 => exact gC HR1_0 HB); (case side2 => exact HC1_0.out); (case side3 => exact gC HR1_1 HB); (case side4 => exact HC1_1.out); rintro e w35 ⟨rfl, hb⟩; replace BK366 := gA (blk_below (gK BK366) hb); replace HB := gA (below_step (gB HB) hb); (try clear hb); obtain ⟨hcz36_0, hcz36_1, hfz36_0, hfz36_1⟩ := gz2 BK366) | (go_at_call 21; (with_reducible refine (triglyphref03_Check.calls k _ _ l1_0 _ _ l1_1 t369 _ ?side1 ?side2 ?side3 ?side4 A10.out).mono ?_); (case side1 => exact gC HR1_0 HB); (case side2 => exact HC1_0.out); (case side3 => exact gC HR1_1 HB); (case side4 => exact HC1_1.out); rintro e w37 ⟨rfl, hb⟩; replace BK366 := gA (blk_below (gK BK366) hb); replace HB := gA (below_step (gB HB) hb); (try clear hb)))
     all_goals (go_meet; (case rel => exact ⟨_, (true), (by first | rfl | (simp; done) | (simp [*]; done) | (exfalso; simp_all; done) | (exfalso; simp_all; omega)), H', ⟨by first | omega | exact Nat.le_refl _⟩, ⟨gK BK366⟩, ⟨gB HB⟩⟩))
   ·replace c9 := Bool.eq_false_iff.mpr c9
    subst c9
    have H1 : (triglyphlaw08_FoldTurns.j0 k a0 a2 true l1_0 l1_1) = some r := by rw [if_neg (show ¬ (false = true) by decide)] at H; exact H
    clear H; have H := H1; clear H1
    have H' := gA H
    clear H
    obtain ⟨hcz38_0, hcz38_1, hfz38_0, hfz38_1⟩ := gz2 BK366
    go_wp2_with (first | ((with_reducible refine gate_callee (f := 9) rfl ?_); refine goesL_ (some 14) rfl rfl Try.func9 (by kernel_rfl) rfl #[.agg #[.slice A1_0 l1_0.length c1_0, .slice A1_1 l1_1.length c1_1]] rfl (by (try simp only [List.map_toArray, List.map_cons, List.map_nil]); first | done | rfl | (simp only [List.length_drop, List.length_take]; rfl)) ?_; (with_reducible refine (triglyphlaw08_light.calls k _ _ l1_0 _ _ l1_1 true _ ?side1 ?side2 ?side3 ?side4 A6.out).mono ?_); (case side1 => exact gC HR1_0 HB); (case side2 => exact HC1_0.out); (case side3 => exact gC HR1_1 HB); (case side4 => exact HC1_1.out); rintro e w39 ⟨rfl, hb⟩; refine ⟨_, rfl, ?_⟩; replace BK366 := gA (blk_below (gK BK366) hb); replace HB := gA (below_step (gB HB) hb); (try clear hb); obtain ⟨hcz40_0, hcz40_1, hfz40_0, hfz40_1⟩ := gz2 BK366) | (go_at_call 10; (with_reducible refine (triglyphlaw08_narrow.calls k _ _ l1_0 _ _ l1_1 false _ ?side1 ?side2 ?side3 ?side4 A8.out).mono ?_); (case side1 => exact gC HR1_0 HB); (case side2 => exact HC1_0.out); (case side3 => exact gC HR1_1 HB); (case side4 => exact HC1_1.out); rintro e w41 ⟨rfl, hb⟩; replace BK366 := gA (blk_below (gK BK366) hb); replace HB := gA (below_step (gB HB) hb); (try clear hb)))
    all_goals (go_meet; (case rel => exact ⟨_, (true), (by first | rfl | (simp; done) | (simp [*]; done) | (exfalso; simp_all; done) | (exfalso; simp_all; omega)), H', ⟨by first | omega | exact Nat.le_refl _⟩, ⟨gK BK366⟩, ⟨gB HB⟩⟩))
  ·replace c7 := Bool.eq_false_iff.mpr c7
   subst c7
   have H1 : (triglyphlaw08_FoldTurns.j0 k a0 a2 true l1_0 l1_1) = some r := by rw [if_neg (show ¬ (false = true) by decide)] at H; exact H
   clear H; have H := H1; clear H1
   have H' := gA H
   clear H
   obtain ⟨hcz42_0, hcz42_1, hfz42_0, hfz42_1⟩ := gz2 BK366
   go_wp2_with (first | ((with_reducible refine gate_callee (f := 9) rfl ?_); refine goesL_ (some 14) rfl rfl Try.func9 (by kernel_rfl) rfl #[.agg #[.slice A1_0 l1_0.length c1_0, .slice A1_1 l1_1.length c1_1]] rfl (by (try simp only [List.map_toArray, List.map_cons, List.map_nil]); first | done | rfl | (simp only [List.length_drop, List.length_take]; rfl)) ?_; (with_reducible refine (triglyphlaw08_light.calls k _ _ l1_0 _ _ l1_1 false _ ?side1 ?side2 ?side3 ?side4 A6.out).mono ?_); (case side1 => exact gC HR1_0 HB); (case side2 => exact HC1_0.out); (case side3 => exact gC HR1_1 HB); (case side4 => exact HC1_1.out); rintro e w43 ⟨rfl, hb⟩; refine ⟨_, rfl, ?_⟩; replace BK366 := gA (blk_below (gK BK366) hb); replace HB := gA (below_step (gB HB) hb); (try clear hb)))
   all_goals (go_meet; (case rel => exact ⟨_, (true), (by first | rfl | (simp; done) | (simp [*]; done) | (exfalso; simp_all; done) | (exfalso; simp_all; omega)), H', ⟨by first | omega | exact Nat.le_refl _⟩, ⟨gK BK366⟩, ⟨gB HB⟩⟩))
 case rest =>
  clear HC4
  try clear c1
  try clear p2
  try clear c7
  try clear c9
  try clear c11
  try clear c11b0
  try clear c11b1
  try clear c12
  try clear c12b0
  try clear c19
  try clear c19b0
  try clear hcz13_0
  try clear hcz13_1
  try clear hcz15_0
  try clear hcz15_1
  try clear hcz17_0
  try clear hcz17_1
  try clear hcz20_0
  try clear hcz20_1
  try clear hcz22_0
  try clear hcz22_1
  try clear hcz24_0
  try clear hcz24_1
  try clear hcz26_0
  try clear hcz26_1
  try clear hcz28_0
  try clear hcz28_1
  try clear hcz30_0
  try clear hcz30_1
  try clear hcz32_0
  try clear hcz32_1
  try clear hcz34_0
  try clear hcz34_1
  try clear hcz36_0
  try clear hcz36_1
  try clear hcz38_0
  try clear hcz38_1
  try clear hcz40_0
  try clear hcz40_1
  try clear hcz42_0
  try clear hcz42_1
  try clear hfz13_0
  try clear hfz13_1
  try clear hfz15_0
  try clear hfz15_1
  try clear hfz17_0
  try clear hfz17_1
  try clear hfz20_0
  try clear hfz20_1
  try clear hfz22_0
  try clear hfz22_1
  try clear hfz24_0
  try clear hfz24_1
  try clear hfz26_0
  try clear hfz26_1
  try clear hfz28_0
  try clear hfz28_1
  try clear hfz30_0
  try clear hfz30_1
  try clear hfz32_0
  try clear hfz32_1
  try clear hfz34_0
  try clear hfz34_1
  try clear hfz36_0
  try clear hfz36_1
  try clear hfz38_0
  try clear hfz38_1
  try clear hfz40_0
  try clear hfz40_1
  try clear hfz42_0
  try clear hfz42_1
  obtain ⟨kq, x37_3, rfl, HA, HJ3, BK366, HB⟩ := hcut
  cases kq with
  | zero => exact absurd HA.out (by simp [triglyphlaw08_FoldTurns.j0])
  | succ kj3 =>
   have H := HA.out; clear HA
   simp only [triglyphlaw08_FoldTurns.j0] at H
   by_cases c44 : x37_3 = true
   ·subst c44
    have H1 : ((triglyphlaw08_works.f kj3).bind fun t370 => (some t370)) = some r := by rw [if_pos rfl] at H; exact H
    clear H; have H := H1; clear H1
    replace H := Option.bind_eq_some_iff.mp H
    obtain ⟨t370, A450, H⟩ := H
    replace H : (some t370) = some r := H
    have A45 := gA A450
    clear A450
    obtain rfl := Option.some.inj H
    go_wp2_with (first | ((with_reducible refine gate_callee (f := 11) rfl ?_); refine goesL_ (some 38) rfl rfl Try.func11 (by kernel_rfl) rfl #[] rfl (by (try simp only [List.map_toArray, List.map_cons, List.map_nil]); first | done | rfl | (simp only [List.length_drop, List.length_take]; rfl)) ?_; (with_reducible refine (triglyphlaw08_works.calls kj3  t370 _ A45.out).mono ?_); rintro e w46 ⟨rfl, hb⟩; refine ⟨_, rfl, ?_⟩; replace BK366 := gA (blk_below (gK BK366) hb); replace HB := gA (below_step (gB HB) hb); (try clear hb)))
    go_ret
    exact ⟨rfl, by repeat first | exact gB HB | refine below_set ?_ GE366.out⟩
   ·replace c44 := Bool.eq_false_iff.mpr c44
    subst c44
    have H1 : (if a2 = true then (triglyphlaw08_FoldTurns.j1 kj3 a0 a2 1 l1_0 l1_1) else (triglyphlaw08_FoldTurns.j1 kj3 a0 a2 0 l1_0 l1_1)) = some r := by rw [if_neg (show ¬ (false = true) by decide)] at H; exact H
    clear H; have H := H1; clear H1
    have HC47 := gA H
    clear H
    go_upto_if 39 with (fail)
    go_cut [7] (fun v7 wc => ∃ (kq : Nat) (x7_46 : Int), v7 = .int .i64 x7_46 ∧ Aside0 (triglyphlaw08_FoldTurns.j1 kq a0 a2 x7_46 l1_0 l1_1 = some r) ∧ Aside0 (kq ≤ kj3) ∧ Aside0 (wc.heap[gb366]? = some (.cells #[(.slice A1_0 l1_0.length c1_0), (.slice A1_1 l1_1.length c1_1)] 25 (0, 0))) ∧ Aside0 (Below w.heap.size w wc))
    case first =>
     have H := HC47.out; clear HC47
     by_cases c48 : a2 = true
     ·subst c48
      have H1 : (triglyphlaw08_FoldTurns.j1 kj3 a0 true 1 l1_0 l1_1) = some r := by rw [if_pos rfl] at H; exact H
      clear H; have H := H1; clear H1
      have H' := gA H
      clear H
      go_wp2
      all_goals (go_meet; (case rel => exact ⟨_, (1), (by first | rfl | (simp; done) | (simp [*]; done) | (exfalso; simp_all; done) | (exfalso; simp_all; omega)), H', ⟨by have := HJ3.out; first | omega | exact Nat.le_refl _⟩, ⟨gK BK366⟩, ⟨gB HB⟩⟩))
     ·replace c48 := Bool.eq_false_iff.mpr c48
      subst c48
      have H1 : (triglyphlaw08_FoldTurns.j1 kj3 a0 false 0 l1_0 l1_1) = some r := by rw [if_neg (show ¬ (false = true) by decide)] at H; exact H
      clear H; have H := H1; clear H1
      have H' := gA H
      clear H
      go_wp2
      all_goals (go_meet; (case rel => exact ⟨_, (0), (by first | rfl | (simp; done) | (simp [*]; done) | (exfalso; simp_all; done) | (exfalso; simp_all; omega)), H', ⟨by have := HJ3.out; first | omega | exact Nat.le_refl _⟩, ⟨gK BK366⟩, ⟨gB HB⟩⟩))
    case rest =>
     clear HC47
     try clear c1
     try clear p2
     try clear c4
     try clear c7
     try clear c9
     try clear c11
     try clear c11b0
     try clear c11b1
     try clear c12
     try clear c12b0
     try clear c19
     try clear c19b0
     try clear c44
     try clear c48
     try clear hcz13_0
     try clear hcz13_1
     try clear hcz15_0
     try clear hcz15_1
     try clear hcz17_0
     try clear hcz17_1
     try clear hcz20_0
     try clear hcz20_1
     try clear hcz22_0
     try clear hcz22_1
     try clear hcz24_0
     try clear hcz24_1
     try clear hcz26_0
     try clear hcz26_1
     try clear hcz28_0
     try clear hcz28_1
     try clear hcz30_0
     try clear hcz30_1
     try clear hcz32_0
     try clear hcz32_1
     try clear hcz34_0
     try clear hcz34_1
     try clear hcz36_0
     try clear hcz36_1
     try clear hcz38_0
     try clear hcz38_1
     try clear hcz40_0
     try clear hcz40_1
     try clear hcz42_0
     try clear hcz42_1
     try clear hfz13_0
     try clear hfz13_1
     try clear hfz15_0
     try clear hfz15_1
     try clear hfz17_0
     try clear hfz17_1
     try clear hfz20_0
     try clear hfz20_1
     try clear hfz22_0
     try clear hfz22_1
     try clear hfz24_0
     try clear hfz24_1
     try clear hfz26_0
     try clear hfz26_1
     try clear hfz28_0
     try clear hfz28_1
     try clear hfz30_0
     try clear hfz30_1
     try clear hfz32_0
     try clear hfz32_1
     try clear hfz34_0
     try clear hfz34_1
     try clear hfz36_0
     try clear hfz36_1
     try clear hfz38_0
     try clear hfz38_1
     try clear hfz40_0
     try clear hfz40_1
     try clear hfz42_0
     try clear hfz42_1
     try clear p2
     obtain ⟨kq, x7_46, rfl, HA, HJ46, BK366, HB⟩ := hcut
     cases kq with
     | zero => exact absurd HA.out (by simp [triglyphlaw08_FoldTurns.j1])
     | succ kj46 =>
      have H := HA.out; clear HA
      simp only [triglyphlaw08_FoldTurns.j1] at H
      replace H := Option.bind_eq_some_iff.mp H
      obtain ⟨⟨t371, t374⟩, A490, H⟩ := H
      replace H : ((fold_Red.f kj46 a0 false l1_0 l1_1 a2).bind fun bt378 => ((fold_Red.f kj46 a0 true t371 t374 a2).bind fun bt386 => (if bt378.2.2 = 0 then (triglyphlaw08_FoldTurns.j2 kj46 bt378.2.2 bt386.2.2 (bt386.2.2 != 0) bt378.1 bt378.2.1 bt386.1 bt386.2.1) else (triglyphlaw08_FoldTurns.j2 kj46 bt378.2.2 bt386.2.2 true bt378.1 bt378.2.1 bt386.1 bt386.2.1)))) = some r := H
      have A49 := gA A490
      clear A490
      replace H := Option.bind_eq_some_iff.mp H
      obtain ⟨⟨t378, t381, t384⟩, A500, H⟩ := H
      replace H : ((fold_Red.f kj46 a0 true t371 t374 a2).bind fun bt386 => (if t384 = 0 then (triglyphlaw08_FoldTurns.j2 kj46 t384 bt386.2.2 (bt386.2.2 != 0) t378 t381 bt386.1 bt386.2.1) else (triglyphlaw08_FoldTurns.j2 kj46 t384 bt386.2.2 true t378 t381 bt386.1 bt386.2.1))) = some r := H
      have A50 := gA A500
      clear A500
      replace H := Option.bind_eq_some_iff.mp H
      obtain ⟨⟨t386, t389, t392⟩, A510, H⟩ := H
      replace H : (if t384 = 0 then (triglyphlaw08_FoldTurns.j2 kj46 t384 t392 (t392 != 0) t378 t381 t386 t389) else (triglyphlaw08_FoldTurns.j2 kj46 t384 t392 true t378 t381 t386 t389)) = some r := H
      have A51 := gA A510
      clear A510
      have HC52 := gA H
      clear H
      obtain ⟨hcz53_0, hcz53_1, hfz53_0, hfz53_1⟩ := gz2 BK366
      go_upto_region 9 with (first | ((with_reducible refine gate_callee (f := 22) rfl ?_); refine goesL_ (some 44) rfl rfl Try.func22 (by kernel_rfl) rfl #[.slice A1_0 l1_0.length c1_0, .agg #[.slice A1_0 l1_0.length c1_0, .slice A1_1 l1_1.length c1_1], .int .i64 x7_46] rfl (by (try simp only [List.map_toArray, List.map_cons, List.map_nil]); first | done | rfl | (simp only [List.length_drop, List.length_take]; rfl)) ?_; (with_reducible refine (triglyphref05_By.calls kj46 _ _ l1_0 _ _ l1_0 (fun k_ => k_ < w.heap.size) _ _ l1_1 x7_46 t371 t374 _ ?side1 ?side2 ?side3 ?side4 ?side5 A49.out).mono ?_); (case side1 => exact gC HR1_0 HB); (case side2 => exact HC1_0.out); (case side3 => exact gC HR1_0 HB); (case side4 => exact HC1_0.out); (case side5 => exact Kd.V_mk HC1_1.out (Kd.F_below (Kd.C_F k43_heap HR1_1.out) (gB HB))); rintro e w54 ⟨v372, v375, rfl, ho0, ho1, hb⟩; refine ⟨_, rfl, ?_⟩; have HO373 := gA (Kd.R_lower (Kd.R_mono (ok' := fun k_ => True) ho0 (fun _ hk_ => trivial)) (below_size (gB HB))); have HO376 := gA (Kd.N_lower (Kd.N_mono (ok' := fun k_ => some k_ ≠ (v372 : Value).ownBlock ∧ k_ ≠ gb366) ho1 (fun k_ hk_ => ⟨hk_.2, Or.elim hk_.1 (fun hs_ => fun e_ => Nat.not_le.2 hs_ (by rw [e_]; exact GW366.out)) (fun hn_ => (Kd.freshB (gK BK366) k_ hn_))⟩)) (below_size (gB HB))); replace BK366 := gA (blk_below (gK BK366) hb); replace HB := gA (below_step (gB HB) hb); (try clear hb); (try clear ho0); (try clear ho1)) | ((with_reducible refine gate_dst (N := 8) rfl ?_); refine box_event ?hg (N := 8) ?hd (cs := #[.slice none 0 0, .slice none 0 0]) (t := 25) ?hr ?_; (case hd => rfl); (case hg => rfl); (case hr => first | (go_simp; done) | (go_simp; rfl)); intro gb377 hg w55 hbox hb; replace HO373 := gA (Kd.R_below (gR HO373) hb); replace HO376 := gA (Kd.N_below (Kd.N_elderB (gN HO376) gb377 (Nat.le_of_eq hg.symm)) hb); have BK377 := gA (hbox); have GW377 := gA ((by rw [hg]; exact (below_size (gB HB)) : w.heap.size ≤ gb377)); have GE377 := gA ((by rw [hg]; exact (below_size (gB HB)) : w.heap.size ≤ gb377)); replace HB := gA (below_step (gB HB) hb); have NB366_377 := gA ((by rw [hg]; exact Nat.ne_of_lt (blk_lt (gK BK366)) : gb366 ≠ gb377)); have NB377_366 := gA ((by rw [hg]; exact Nat.ne_of_gt (blk_lt (gK BK366)) : gb377 ≠ gb366)); replace BK366 := gA (blk_below (gK BK366) hb); clear hb hbox hg; obtain ⟨Ao56, co56, eo56⟩ := Kd.R_slice HO373.out; subst eo56; have hnb57 := NB377_366.out; have hnc57 := NB366_377.out; obtain ⟨hcz58_0, hcz58_1, hfz58_0, hfz58_1⟩ := gz2 BK377; obtain ⟨Ao59, co59, eo59⟩ := Kd.N_slice HO376.out; subst eo59) | ((with_reducible refine gate_store (t := 25) (p := 8) rfl ?_); refine store_event (t := 25) (p := 8) (v := ?vo_w60) (w1 := ((w55.setCell ⟨gb377, 0, none⟩ (.slice Ao56 t371.length co56)).setCell ⟨gb377, 1, none⟩ (.slice Ao59 t374.length co59))) ?hg ?ho ?hn ?hr ?_; (case ho => rfl); (case hg => rfl); (case hn => rfl); (case hr => first | (go_simp; done) | (go_simp; rfl)); intro w60 hw; have n0_ : Aside0 (Kd.R (Kd.int .i64) 3 w60 w.heap.size (fun _ => True) (.slice Ao56 t371.length co56) t371) := ⟨(by rw [hw]; exact (Kd.R_mono (Kd.R_far (p := ⟨gb377, 1, none⟩) (Kd.R_far (p := ⟨gb377, 0, none⟩) (Kd.R_types HO373.out BK377.out (by decide)) (fun _ hk => hk.2) (.slice Ao56 t371.length co56)) (fun _ hk => hk.2) (.slice Ao59 t374.length co59)) (fun _ hk => trivial)))⟩; have n1_ : Aside0 (Kd.N k43 43 w60 w.heap.size (fun k_ => some k_ ≠ (.slice Ao56 t371.length co56 : Value).ownBlock ∧ k_ ≠ gb366 ∧ k_ ≠ gb377) (.slice Ao59 t374.length co59) t374) := ⟨(by rw [hw]; exact (Kd.N_mono (Kd.N_far (p := ⟨gb377, 1, none⟩) (Kd.N_far (p := ⟨gb377, 0, none⟩) (Kd.N_mono HO376.out (fun k_ hk => (⟨hk, hk.2⟩ : _ ∧ k_ ≠ gb377))) (fun _ hk => hk.2) (.slice Ao56 t371.length co56)) (fun _ hk => hk.2) (.slice Ao59 t374.length co59)) (fun _ hk => by first | exact ⟨hk.1.1.1, ⟨hk.1.1.2, hk.1.2⟩⟩ | (simp_all; done))))⟩; have n2_ : Aside0 (w60.heap[gb366]? = some (.cells #[.slice A1_0 l1_0.length c1_0, .slice A1_1 l1_1.length c1_1] 25 (0, 0))) := ⟨(by rw [hw]; exact (by refine blk_far ?_ NB366_377.out _; refine blk_far ?_ NB366_377.out _; exact gK BK366))⟩; have n3_ : Aside0 (w60.heap[gb377]? = some (.cells #[.slice Ao56 t371.length co56, .slice Ao59 t374.length co59] 25 (0, 0))) := ⟨(by rw [hw]; exact (by refine blk_put (cs := #[.slice Ao56 t371.length co56, .slice none 0 0]) ?_ 1 _ rfl; refine blk_put (cs := #[.slice none 0 0, .slice none 0 0]) ?_ 0 _ rfl; exact gK BK377))⟩; have n4_ : Aside0 (Below w.heap.size w w60) := ⟨(by rw [hw]; exact (by repeat (first | (with_reducible first | exact HB.out | apply below_alloc | apply pw_below_drewN | apply below_drew1 | refine below_set ?_ GE366.out | refine below_set ?_ GE377.out) | exact HB.out)))⟩; clear hw HO373 HO376 BK366 BK377 HB; have HO373 := n0_; have HO376 := n1_; have BK366 := n2_; have BK377 := n3_; have HB := n4_; clear n0_ n1_ n2_ n3_ n4_; obtain ⟨hcz61_0, hcz61_1, hfz61_0, hfz61_1⟩ := gz2 BK366) | ((with_reducible refine gate_callee (f := 12) rfl ?_); refine goesL_ (some 50) rfl rfl Try.func12 (by kernel_rfl) rfl #[.agg #[.int .i64 a0, .bool false], .agg #[.slice A1_0 l1_0.length c1_0, .slice A1_1 l1_1.length c1_1], .bool a2] rfl (by (try simp only [List.map_toArray, List.map_cons, List.map_nil]); first | done | rfl | (simp only [List.length_drop, List.length_take]; rfl)) ?_; (with_reducible refine (fold_Red.calls kj46 a0 false _ _ l1_0 (fun k_ => k_ < w.heap.size) _ _ l1_1 a2 t378 t381 t384 _ ?side1 ?side2 ?side3 A50.out).mono ?_); (case side1 => exact gC HR1_0 HB); (case side2 => exact HC1_0.out); (case side3 => exact Kd.V_mk HC1_1.out (Kd.F_below (Kd.C_F k43_heap HR1_1.out) (gB HB))); rintro e w62 ⟨v379, v382, rfl, ho0, ho1, hb⟩; refine ⟨_, rfl, ?_⟩; have HO380 := gA (Kd.R_lower (Kd.R_new' (Kd.R_mono (ok' := fun k_ => True) ho0 (fun _ hk_ => trivial)) (Kd.R_lt (gR HO373))) (below_size (gB HB))); have HO383 := gA (Kd.N_lower (Kd.N_mono (ok' := fun k_ => some k_ ≠ (v379 : Value).ownBlock ∧ some k_ ≠ (.slice Ao56 t371.length co56 : Value).ownBlock ∧ some k_ ≠ (.slice Ao59 t374.length co59 : Value).ownBlock ∧ k_ ≠ gb366 ∧ k_ ≠ gb377) ho1 (fun k_ hk_ => ⟨hk_.2, Or.elim hk_.1 (fun hs_ => fun e_ => Nat.not_le.2 hs_ (Kd.R_base HO373.out k_ e_.symm)) (fun hn_ => (Kd.fresh' (Kd.R_lt (gR HO373)) k_ hn_)), Or.elim hk_.1 (fun hs_ => fun e_ => Nat.not_le.2 hs_ (Kd.N_base HO376.out k_ e_.symm)) (fun hn_ => (Kd.fresh' (Kd.N_lt (gN HO376)) k_ hn_)), Or.elim hk_.1 (fun hs_ => fun e_ => Nat.not_le.2 hs_ (by rw [e_]; exact GW366.out)) (fun hn_ => (Kd.freshB (gK BK366) k_ hn_)), Or.elim hk_.1 (fun hs_ => fun e_ => Nat.not_le.2 hs_ (by rw [e_]; exact GW377.out)) (fun hn_ => (Kd.freshB (gK BK377) k_ hn_))⟩)) (below_size (gB HB))); replace HO373 := gA (Kd.R_elder' (gR HO373) (Kd.R_base ho0) hb); replace HO376 := gA (Kd.N_mono (Kd.N_told (Kd.N_told (Kd.N_old (gN HO376) hb) (Kd.R_base ho0)) (by first | exact Kd.N_base ho1 | exact Kd.R_base ho1)) (fun _ h_ => h_.1)); replace BK366 := gA (blk_below (gK BK366) hb); replace BK377 := gA (blk_below (gK BK377) hb); replace HB := gA (below_step (gB HB) hb); (try clear hb); (try clear ho0); (try clear ho1)) | ((with_reducible refine gate_dst (N := 9) rfl ?_); refine box_event ?hg (N := 9) ?hd (cs := #[.slice none 0 0, .slice none 0 0]) (t := 25) ?hr ?_; (case hd => rfl); (case hg => rfl); (case hr => first | (go_simp; done) | (go_simp; rfl)); intro gb385 hg w63 hbox hb; replace HO373 := gA (Kd.R_below (gR HO373) hb); replace HO376 := gA (Kd.N_below (Kd.N_elderB (gN HO376) gb385 (Nat.le_of_eq hg.symm)) hb); replace HO380 := gA (Kd.R_below (gR HO380) hb); replace HO383 := gA (Kd.N_below (Kd.N_elderB (gN HO383) gb385 (Nat.le_of_eq hg.symm)) hb); have BK385 := gA (hbox); have GW385 := gA ((by rw [hg]; exact (below_size (gB HB)) : w.heap.size ≤ gb385)); have GE385 := gA ((by rw [hg]; exact (below_size (gB HB)) : w.heap.size ≤ gb385)); replace HB := gA (below_step (gB HB) hb); have NB366_385 := gA ((by rw [hg]; exact Nat.ne_of_lt (blk_lt (gK BK366)) : gb366 ≠ gb385)); have NB385_366 := gA ((by rw [hg]; exact Nat.ne_of_gt (blk_lt (gK BK366)) : gb385 ≠ gb366)); replace BK366 := gA (blk_below (gK BK366) hb); have NB377_385 := gA ((by rw [hg]; exact Nat.ne_of_lt (blk_lt (gK BK377)) : gb377 ≠ gb385)); have NB385_377 := gA ((by rw [hg]; exact Nat.ne_of_gt (blk_lt (gK BK377)) : gb385 ≠ gb377)); replace BK377 := gA (blk_below (gK BK377) hb); clear hb hbox hg; obtain ⟨Ao64, co64, eo64⟩ := Kd.R_slice HO380.out; subst eo64; have hnb65 := NB385_366.out; have hnc65 := NB366_385.out; have hnb66 := NB385_377.out; have hnc66 := NB377_385.out; obtain ⟨hcz67_0, hcz67_1, hfz67_0, hfz67_1⟩ := gz2 BK385; obtain ⟨Ao68, co68, eo68⟩ := Kd.N_slice HO383.out; subst eo68) | ((with_reducible refine gate_store (t := 25) (p := 9) rfl ?_); refine store_event (t := 25) (p := 9) (v := ?vo_w69) (w1 := ((w63.setCell ⟨gb385, 0, none⟩ (.slice Ao64 t378.length co64)).setCell ⟨gb385, 1, none⟩ (.slice Ao68 t381.length co68))) ?hg ?ho ?hn ?hr ?_; (case ho => rfl); (case hg => rfl); (case hn => rfl); (case hr => first | (go_simp; done) | (go_simp; rfl)); intro w69 hw; have n0_ : Aside0 (Kd.R (Kd.int .i64) 3 w69 w.heap.size (fun k_ => some k_ ≠ (.slice Ao64 t378.length co64 : Value).ownBlock) (.slice Ao56 t371.length co56) t371) := ⟨(by rw [hw]; exact (Kd.R_mono (Kd.R_far (p := ⟨gb385, 1, none⟩) (Kd.R_far (p := ⟨gb385, 0, none⟩) (Kd.R_types HO373.out BK385.out (by decide)) (fun _ hk => hk.2) (.slice Ao64 t378.length co64)) (fun _ hk => hk.2) (.slice Ao68 t381.length co68)) (fun _ hk => hk.1.2)))⟩; have n1_ : Aside0 (Kd.N k43 43 w69 w.heap.size (fun k_ => some k_ ≠ (.slice Ao56 t371.length co56 : Value).ownBlock ∧ some k_ ≠ (.slice Ao64 t378.length co64 : Value).ownBlock ∧ some k_ ≠ (.slice Ao68 t381.length co68 : Value).ownBlock ∧ k_ ≠ gb366 ∧ k_ ≠ gb377 ∧ k_ ≠ gb385) (.slice Ao59 t374.length co59) t374) := ⟨(by rw [hw]; exact (Kd.N_mono (Kd.N_far (p := ⟨gb385, 1, none⟩) (Kd.N_far (p := ⟨gb385, 0, none⟩) (Kd.N_mono HO376.out (fun k_ hk => (⟨hk, hk.2⟩ : _ ∧ k_ ≠ gb385))) (fun _ hk => hk.2) (.slice Ao64 t378.length co64)) (fun _ hk => hk.2) (.slice Ao68 t381.length co68)) (fun _ hk => by first | exact ⟨hk.1.1.1.1.1, ⟨hk.1.1.1.2, ⟨hk.1.1.2, ⟨hk.1.1.1.1.2.1, ⟨hk.1.1.1.1.2.2, hk.1.2⟩⟩⟩⟩⟩ | (simp_all; done))))⟩; have n2_ : Aside0 (Kd.R (Kd.int .i64) 3 w69 w.heap.size (fun k_ => some k_ ≠ (.slice Ao56 t371.length co56 : Value).ownBlock) (.slice Ao64 t378.length co64) t378) := ⟨(by rw [hw]; exact (Kd.R_mono (Kd.R_far (p := ⟨gb385, 1, none⟩) (Kd.R_far (p := ⟨gb385, 0, none⟩) (Kd.R_types HO380.out BK385.out (by decide)) (fun _ hk => hk.2) (.slice Ao64 t378.length co64)) (fun _ hk => hk.2) (.slice Ao68 t381.length co68)) (fun _ hk => hk.1.2)))⟩; have n3_ : Aside0 (Kd.N k43 43 w69 w.heap.size (fun k_ => some k_ ≠ (.slice Ao56 t371.length co56 : Value).ownBlock ∧ some k_ ≠ (.slice Ao59 t374.length co59 : Value).ownBlock ∧ some k_ ≠ (.slice Ao64 t378.length co64 : Value).ownBlock ∧ k_ ≠ gb366 ∧ k_ ≠ gb377 ∧ k_ ≠ gb385) (.slice Ao68 t381.length co68) t381) := ⟨(by rw [hw]; exact (Kd.N_mono (Kd.N_far (p := ⟨gb385, 1, none⟩) (Kd.N_far (p := ⟨gb385, 0, none⟩) (Kd.N_mono HO383.out (fun k_ hk => (⟨hk, hk.2⟩ : _ ∧ k_ ≠ gb385))) (fun _ hk => hk.2) (.slice Ao64 t378.length co64)) (fun _ hk => hk.2) (.slice Ao68 t381.length co68)) (fun _ hk => ⟨hk.1.1.2.1, ⟨hk.1.1.2.2.1, ⟨hk.1.1.1, ⟨hk.1.1.2.2.2.1, ⟨hk.1.1.2.2.2.2, hk.1.2⟩⟩⟩⟩⟩)))⟩; have n4_ : Aside0 (w69.heap[gb366]? = some (.cells #[.slice A1_0 l1_0.length c1_0, .slice A1_1 l1_1.length c1_1] 25 (0, 0))) := ⟨(by rw [hw]; exact (by refine blk_far ?_ NB366_385.out _; refine blk_far ?_ NB366_385.out _; exact gK BK366))⟩; have n5_ : Aside0 (w69.heap[gb377]? = some (.cells #[.slice Ao56 t371.length co56, .slice Ao59 t374.length co59] 25 (0, 0))) := ⟨(by rw [hw]; exact (by refine blk_far ?_ NB377_385.out _; refine blk_far ?_ NB377_385.out _; exact gK BK377))⟩; have n6_ : Aside0 (w69.heap[gb385]? = some (.cells #[.slice Ao64 t378.length co64, .slice Ao68 t381.length co68] 25 (0, 0))) := ⟨(by rw [hw]; exact (by refine blk_put (cs := #[.slice Ao64 t378.length co64, .slice none 0 0]) ?_ 1 _ rfl; refine blk_put (cs := #[.slice none 0 0, .slice none 0 0]) ?_ 0 _ rfl; exact gK BK385))⟩; have n7_ : Aside0 (Below w.heap.size w w69) := ⟨(by rw [hw]; exact (by repeat (first | (with_reducible first | exact HB.out | apply below_alloc | apply pw_below_drewN | apply below_drew1 | refine below_set ?_ GE366.out | refine below_set ?_ GE377.out | refine below_set ?_ GE385.out) | exact HB.out)))⟩; clear hw HO373 HO376 HO380 HO383 BK366 BK377 BK385 HB; have HO373 := n0_; have HO376 := n1_; have HO380 := n2_; have HO383 := n3_; have BK366 := n4_; have BK377 := n5_; have BK385 := n6_; have HB := n7_; clear n0_ n1_ n2_ n3_ n4_ n5_ n6_ n7_; obtain ⟨hcz70_0, hcz70_1, hfz70_0, hfz70_1⟩ := gz2 BK377) | ((with_reducible refine gate_callee (f := 12) rfl ?_); refine goesL_ (some 58) rfl rfl Try.func12 (by kernel_rfl) rfl #[.agg #[.int .i64 a0, .bool true], .agg #[.slice Ao56 t371.length co56, .slice Ao59 t374.length co59], .bool a2] rfl (by (try simp only [List.map_toArray, List.map_cons, List.map_nil]); first | done | rfl | (simp only [List.length_drop, List.length_take]; rfl)) ?_; (with_reducible refine (fold_Red.calls kj46 a0 true _ _ t371 (fun k_ => (some k_ ≠ (.slice Ao56 t371.length co56 : Value).ownBlock ∧ (some k_ ≠ (.slice Ao64 t378.length co64 : Value).ownBlock ∧ (some k_ ≠ (.slice Ao68 t381.length co68 : Value).ownBlock ∧ (k_ ≠ gb366 ∧ (k_ ≠ gb377 ∧ k_ ≠ gb385)))))) _ _ t374 a2 t386 t389 t392 _ ?side1 ?side2 ?side3 A51.out).mono ?_); (case side1 => repeat (first | exact (Kd.R_reads' HO373.out).2.2 | (with_reducible refine Kd.C_alloc ?_ _) | (with_reducible refine Kd.C_drewN ?_ _) | (with_reducible refine Kd.C_drew ?_))); (case side2 => exact (Kd.R_reads' HO373.out).2.1); (case side3 => exact Kd.N_V (HO376.out)); rintro e w71 ⟨v387, v390, rfl, ho0, ho1, hb⟩; refine ⟨_, rfl, ?_⟩; replace HO376 := gA (Kd.N_mono (Kd.N_told (Kd.N_told (Kd.N_old (gN HO376) hb) (Kd.R_base ho0)) (by first | exact Kd.N_base ho1 | exact Kd.R_base ho1)) (fun _ h_ => h_.1)); have HO388 := gA (Kd.R_lower (Kd.R_new' (Kd.R_new' (Kd.R_mono (ok' := fun k_ => True) ho0 (fun _ hk_ => trivial)) (Kd.R_lt (gR HO373))) (Kd.R_lt (gR HO380))) (below_size (gB HB))); have HO391 := gA (Kd.N_lower (Kd.N_mono (ok' := fun k_ => some k_ ≠ (v387 : Value).ownBlock ∧ some k_ ≠ (.slice Ao56 t371.length co56 : Value).ownBlock ∧ some k_ ≠ (.slice Ao64 t378.length co64 : Value).ownBlock ∧ some k_ ≠ (.slice Ao68 t381.length co68 : Value).ownBlock ∧ k_ ≠ gb366 ∧ k_ ≠ gb377 ∧ k_ ≠ gb385) ho1 (fun k_ hk_ => ⟨hk_.2, Or.elim hk_.1 (fun hs_ => hs_.1) (fun hn_ => (Kd.fresh' (Kd.R_lt (gR HO373)) k_ hn_)), Or.elim hk_.1 (fun hs_ => hs_.2.1) (fun hn_ => (Kd.fresh' (Kd.R_lt (gR HO380)) k_ hn_)), Or.elim hk_.1 (fun hs_ => hs_.2.2.1) (fun hn_ => (Kd.fresh' (Kd.N_lt (gN HO383)) k_ hn_)), Or.elim hk_.1 (fun hs_ => hs_.2.2.2.1) (fun hn_ => (Kd.freshB (gK BK366) k_ hn_)), Or.elim hk_.1 (fun hs_ => hs_.2.2.2.2.1) (fun hn_ => (Kd.freshB (gK BK377) k_ hn_)), Or.elim hk_.1 (fun hs_ => hs_.2.2.2.2.2) (fun hn_ => (Kd.freshB (gK BK385) k_ hn_))⟩)) (below_size (gB HB))); replace HO373 := gA (Kd.R_elder' (gR HO373) (Kd.R_base ho0) hb); replace HO380 := gA (Kd.R_elder' (gR HO380) (Kd.R_base ho0) hb); replace HO383 := gA (Kd.N_mono (Kd.N_told (Kd.N_told (Kd.N_old (gN HO383) hb) (Kd.R_base ho0)) (by first | exact Kd.N_base ho1 | exact Kd.R_base ho1)) (fun _ h_ => h_.1)); replace BK366 := gA (blk_below (gK BK366) hb); replace BK377 := gA (blk_below (gK BK377) hb); replace BK385 := gA (blk_below (gK BK385) hb); replace HB := gA (below_step (gB HB) hb); (try clear hb); (try clear ho0); (try clear ho1)) | ((with_reducible refine gate_dst (N := 11) rfl ?_); refine box_event ?hg (N := 11) ?hd (cs := #[.slice none 0 0, .slice none 0 0]) (t := 25) ?hr ?_; (case hd => rfl); (case hg => rfl); (case hr => first | (go_simp; done) | (go_simp; rfl)); intro gb393 hg w72 hbox hb; replace HO373 := gA (Kd.R_below (gR HO373) hb); replace HO376 := gA (Kd.N_below (Kd.N_elderB (gN HO376) gb393 (Nat.le_of_eq hg.symm)) hb); replace HO380 := gA (Kd.R_below (gR HO380) hb); replace HO383 := gA (Kd.N_below (Kd.N_elderB (gN HO383) gb393 (Nat.le_of_eq hg.symm)) hb); replace HO388 := gA (Kd.R_below (gR HO388) hb); replace HO391 := gA (Kd.N_below (Kd.N_elderB (gN HO391) gb393 (Nat.le_of_eq hg.symm)) hb); have BK393 := gA (hbox); have GW393 := gA ((by rw [hg]; exact (below_size (gB HB)) : w.heap.size ≤ gb393)); have GE393 := gA ((by rw [hg]; exact (below_size (gB HB)) : w.heap.size ≤ gb393)); replace HB := gA (below_step (gB HB) hb); have NB366_393 := gA ((by rw [hg]; exact Nat.ne_of_lt (blk_lt (gK BK366)) : gb366 ≠ gb393)); have NB393_366 := gA ((by rw [hg]; exact Nat.ne_of_gt (blk_lt (gK BK366)) : gb393 ≠ gb366)); replace BK366 := gA (blk_below (gK BK366) hb); have NB377_393 := gA ((by rw [hg]; exact Nat.ne_of_lt (blk_lt (gK BK377)) : gb377 ≠ gb393)); have NB393_377 := gA ((by rw [hg]; exact Nat.ne_of_gt (blk_lt (gK BK377)) : gb393 ≠ gb377)); replace BK377 := gA (blk_below (gK BK377) hb); have NB385_393 := gA ((by rw [hg]; exact Nat.ne_of_lt (blk_lt (gK BK385)) : gb385 ≠ gb393)); have NB393_385 := gA ((by rw [hg]; exact Nat.ne_of_gt (blk_lt (gK BK385)) : gb393 ≠ gb385)); replace BK385 := gA (blk_below (gK BK385) hb); clear hb hbox hg; obtain ⟨Ao73, co73, eo73⟩ := Kd.R_slice HO388.out; subst eo73; have hnb74 := NB393_366.out; have hnc74 := NB366_393.out; have hnb75 := NB393_377.out; have hnc75 := NB377_393.out; have hnb76 := NB393_385.out; have hnc76 := NB385_393.out; obtain ⟨hcz77_0, hcz77_1, hfz77_0, hfz77_1⟩ := gz2 BK393; obtain ⟨Ao78, co78, eo78⟩ := Kd.N_slice HO391.out; subst eo78))
      (try simp only [Act.put, List.setIfInBounds_toArray, List.set_cons_zero, List.set_cons_succ])
      go_cut [66] (fun v66 wc => ∃ (kq : Nat) (x66_51 : Bool), v66 = .bool x66_51 ∧ Aside0 (triglyphlaw08_FoldTurns.j2 kq t384 t392 x66_51 t378 t381 t386 t389 = some r) ∧ Aside0 (kq ≤ kj46) ∧ Aside0 (Kd.R (Kd.int .i64) 3 wc w.heap.size (fun k_ => some k_ ≠ ((.slice Ao64 t378.length co64) : Value).ownBlock ∧ some k_ ≠ ((.slice Ao73 t386.length co73) : Value).ownBlock) (.slice Ao56 t371.length co56) t371) ∧ Aside0 (Kd.N k43 43 wc w.heap.size (fun k_ => some k_ ≠ ((.slice Ao56 t371.length co56) : Value).ownBlock ∧ some k_ ≠ ((.slice Ao64 t378.length co64) : Value).ownBlock ∧ some k_ ≠ ((.slice Ao68 t381.length co68) : Value).ownBlock ∧ some k_ ≠ ((.slice Ao73 t386.length co73) : Value).ownBlock ∧ some k_ ≠ ((.slice Ao78 t389.length co78) : Value).ownBlock ∧ k_ ≠ gb366 ∧ k_ ≠ gb377 ∧ k_ ≠ gb385 ∧ k_ ≠ gb393) (.slice Ao59 t374.length co59) t374) ∧ Aside0 (Kd.R (Kd.int .i64) 3 wc w.heap.size (fun k_ => some k_ ≠ ((.slice Ao56 t371.length co56) : Value).ownBlock ∧ some k_ ≠ ((.slice Ao73 t386.length co73) : Value).ownBlock) (.slice Ao64 t378.length co64) t378) ∧ Aside0 (Kd.N k43 43 wc w.heap.size (fun k_ => some k_ ≠ ((.slice Ao56 t371.length co56) : Value).ownBlock ∧ some k_ ≠ ((.slice Ao59 t374.length co59) : Value).ownBlock ∧ some k_ ≠ ((.slice Ao64 t378.length co64) : Value).ownBlock ∧ some k_ ≠ ((.slice Ao73 t386.length co73) : Value).ownBlock ∧ some k_ ≠ ((.slice Ao78 t389.length co78) : Value).ownBlock ∧ k_ ≠ gb366 ∧ k_ ≠ gb377 ∧ k_ ≠ gb385 ∧ k_ ≠ gb393) (.slice Ao68 t381.length co68) t381) ∧ Aside0 (Kd.R (Kd.int .i64) 3 wc w.heap.size (fun k_ => some k_ ≠ ((.slice Ao56 t371.length co56) : Value).ownBlock ∧ some k_ ≠ ((.slice Ao64 t378.length co64) : Value).ownBlock) (.slice Ao73 t386.length co73) t386) ∧ Aside0 (Kd.N k43 43 wc w.heap.size (fun k_ => some k_ ≠ ((.slice Ao56 t371.length co56) : Value).ownBlock ∧ some k_ ≠ ((.slice Ao64 t378.length co64) : Value).ownBlock ∧ some k_ ≠ ((.slice Ao68 t381.length co68) : Value).ownBlock ∧ some k_ ≠ ((.slice Ao73 t386.length co73) : Value).ownBlock ∧ k_ ≠ gb366 ∧ k_ ≠ gb377 ∧ k_ ≠ gb385 ∧ k_ ≠ gb393) (.slice Ao78 t389.length co78) t389) ∧ Aside0 (wc.heap[gb366]? = some (.cells #[(.slice A1_0 l1_0.length c1_0), (.slice A1_1 l1_1.length c1_1)] 25 (0, 0))) ∧ Aside0 (wc.heap[gb377]? = some (.cells #[(.slice Ao56 t371.length co56), (.slice Ao59 t374.length co59)] 25 (0, 0))) ∧ Aside0 (wc.heap[gb385]? = some (.cells #[(.slice Ao64 t378.length co64), (.slice Ao68 t381.length co68)] 25 (0, 0))) ∧ Aside0 (wc.heap[gb393]? = some (.cells #[(.slice Ao73 t386.length co73), (.slice Ao78 t389.length co78)] 25 (0, 0))) ∧ Aside0 (Below w.heap.size w wc))
      case first =>
       have H := HC52.out; clear HC52
       by_cases c79 : t384 = 0
       ·rw [if_pos c79] at H
        have c79b0 : (t384 == 0) = true := beq_iff_eq.mpr c79
        have c79b1 : (t384 != 0) = false := bne_eq_false_iff_eq.mpr c79
        clear c79
        (first | rw [c79b0] | rw [c79b1] | (simp only [i64_w, i32_w]; rw [c79b0]) | skip)
        have H' := gA H
        clear H
        go_wp2
        all_goals (go_meet; (case rel => exact ⟨_, ((t392 != 0)), (by first | rfl | (simp; done) | (simp [*]; done) | (exfalso; simp_all; done) | (exfalso; simp_all; omega)), H', ⟨by have := HJ3.out; have := HJ46.out; first | omega | exact Nat.le_refl _⟩, ⟨Kd.R_mono (Kd.R_far (p := ⟨gb393, 1, none⟩) (Kd.R_far (p := ⟨gb393, 0, none⟩) (Kd.R_types HO373.out BK393.out (by decide)) (fun _ hk => hk.2) (.slice Ao73 t386.length co73)) (fun _ hk => hk.2) (.slice Ao78 t389.length co78)) (fun _ hk => ⟨hk.1.1, hk.1.2⟩)⟩, ⟨Kd.N_mono (Kd.N_far (p := ⟨gb393, 1, none⟩) (Kd.N_far (p := ⟨gb393, 0, none⟩) (Kd.N_mono HO376.out (fun k_ hk => (⟨hk, hk.2⟩ : _ ∧ k_ ≠ gb393))) (fun _ hk => hk.2) (.slice Ao73 t386.length co73)) (fun _ hk => hk.2) (.slice Ao78 t389.length co78)) (fun _ hk => by first | exact ⟨hk.1.1.1.1.1, ⟨hk.1.1.1.1.2.1, ⟨hk.1.1.1.1.2.2.1, ⟨hk.1.1.1.2, ⟨hk.1.1.2, ⟨hk.1.1.1.1.2.2.2.1, ⟨hk.1.1.1.1.2.2.2.2.1, ⟨hk.1.1.1.1.2.2.2.2.2, hk.1.2⟩⟩⟩⟩⟩⟩⟩⟩ | (simp_all; done))⟩, ⟨Kd.R_mono (Kd.R_far (p := ⟨gb393, 1, none⟩) (Kd.R_far (p := ⟨gb393, 0, none⟩) (Kd.R_types HO380.out BK393.out (by decide)) (fun _ hk => hk.2) (.slice Ao73 t386.length co73)) (fun _ hk => hk.2) (.slice Ao78 t389.length co78)) (fun _ hk => ⟨hk.1.1, hk.1.2⟩)⟩, ⟨Kd.N_mono (Kd.N_far (p := ⟨gb393, 1, none⟩) (Kd.N_far (p := ⟨gb393, 0, none⟩) (Kd.N_mono HO383.out (fun k_ hk => (⟨hk, hk.2⟩ : _ ∧ k_ ≠ gb393))) (fun _ hk => hk.2) (.slice Ao73 t386.length co73)) (fun _ hk => hk.2) (.slice Ao78 t389.length co78)) (fun _ hk => by first | exact ⟨hk.1.1.1.1.1, ⟨hk.1.1.1.1.2.1, ⟨hk.1.1.1.1.2.2.1, ⟨hk.1.1.1.2, ⟨hk.1.1.2, ⟨hk.1.1.1.1.2.2.2.1, ⟨hk.1.1.1.1.2.2.2.2.1, ⟨hk.1.1.1.1.2.2.2.2.2, hk.1.2⟩⟩⟩⟩⟩⟩⟩⟩ | (simp_all; done))⟩, ⟨Kd.R_mono (Kd.R_far (p := ⟨gb393, 1, none⟩) (Kd.R_far (p := ⟨gb393, 0, none⟩) (Kd.R_types HO388.out BK393.out (by decide)) (fun _ hk => hk.2) (.slice Ao73 t386.length co73)) (fun _ hk => hk.2) (.slice Ao78 t389.length co78)) (fun _ hk => ⟨hk.1.1.2, hk.1.2⟩)⟩, ⟨Kd.N_mono (Kd.N_far (p := ⟨gb393, 1, none⟩) (Kd.N_far (p := ⟨gb393, 0, none⟩) (Kd.N_mono HO391.out (fun k_ hk => (⟨hk, hk.2⟩ : _ ∧ k_ ≠ gb393))) (fun _ hk => hk.2) (.slice Ao73 t386.length co73)) (fun _ hk => hk.2) (.slice Ao78 t389.length co78)) (fun _ hk => ⟨hk.1.1.2.1, ⟨hk.1.1.2.2.1, ⟨hk.1.1.2.2.2.1, ⟨hk.1.1.1, ⟨hk.1.1.2.2.2.2.1, ⟨hk.1.1.2.2.2.2.2.1, ⟨hk.1.1.2.2.2.2.2.2, hk.1.2⟩⟩⟩⟩⟩⟩⟩)⟩, ⟨by (with_reducible repeat (first | refine blk_drewN ?_ _ | refine blk_drew ?_ | refine blk_alloc ?_ _)); refine blk_far ?_ NB366_393.out _; (with_reducible repeat (first | refine blk_drewN ?_ _ | refine blk_drew ?_ | refine blk_alloc ?_ _)); refine blk_far ?_ NB366_393.out _; exact gK BK366⟩, ⟨by (with_reducible repeat (first | refine blk_drewN ?_ _ | refine blk_drew ?_ | refine blk_alloc ?_ _)); refine blk_far ?_ NB377_393.out _; (with_reducible repeat (first | refine blk_drewN ?_ _ | refine blk_drew ?_ | refine blk_alloc ?_ _)); refine blk_far ?_ NB377_393.out _; exact gK BK377⟩, ⟨by (with_reducible repeat (first | refine blk_drewN ?_ _ | refine blk_drew ?_ | refine blk_alloc ?_ _)); refine blk_far ?_ NB385_393.out _; (with_reducible repeat (first | refine blk_drewN ?_ _ | refine blk_drew ?_ | refine blk_alloc ?_ _)); refine blk_far ?_ NB385_393.out _; exact gK BK385⟩, ⟨by (with_reducible repeat (first | refine blk_drewN ?_ _ | refine blk_drew ?_ | refine blk_alloc ?_ _)); refine blk_put (cs := #[.slice Ao73 t386.length co73, .slice none 0 0]) ?_ 1 _ rfl; (with_reducible repeat (first | refine blk_drewN ?_ _ | refine blk_drew ?_ | refine blk_alloc ?_ _)); refine blk_put (cs := #[.slice none 0 0, .slice none 0 0]) ?_ 0 _ rfl; exact gK BK393⟩, ⟨by repeat first | exact gB HB | refine below_set ?_ GE366.out | refine below_set ?_ GE377.out | refine below_set ?_ GE385.out | refine below_set ?_ GE393.out⟩⟩))
       ·rw [if_neg c79] at H
        have c79b0 : (t384 == 0) = false := beq_eq_false_iff_ne.mpr c79
        have c79b1 : (t384 != 0) = true := bne_iff_ne.mpr c79
        (first | rw [c79b0] | rw [c79b1] | (simp only [i64_w, i32_w]; rw [c79b0]) | skip)
        have H' := gA H
        clear H
        go_wp2
        all_goals (go_meet; (case rel => exact ⟨_, (true), (by first | rfl | (simp; done) | (simp [*]; done) | (exfalso; simp_all; done) | (exfalso; simp_all; omega)), H', ⟨by have := HJ3.out; have := HJ46.out; first | omega | exact Nat.le_refl _⟩, ⟨Kd.R_mono (Kd.R_far (p := ⟨gb393, 1, none⟩) (Kd.R_far (p := ⟨gb393, 0, none⟩) (Kd.R_types HO373.out BK393.out (by decide)) (fun _ hk => hk.2) (.slice Ao73 t386.length co73)) (fun _ hk => hk.2) (.slice Ao78 t389.length co78)) (fun _ hk => ⟨hk.1.1, hk.1.2⟩)⟩, ⟨Kd.N_mono (Kd.N_far (p := ⟨gb393, 1, none⟩) (Kd.N_far (p := ⟨gb393, 0, none⟩) (Kd.N_mono HO376.out (fun k_ hk => (⟨hk, hk.2⟩ : _ ∧ k_ ≠ gb393))) (fun _ hk => hk.2) (.slice Ao73 t386.length co73)) (fun _ hk => hk.2) (.slice Ao78 t389.length co78)) (fun _ hk => by first | exact ⟨hk.1.1.1.1.1, ⟨hk.1.1.1.1.2.1, ⟨hk.1.1.1.1.2.2.1, ⟨hk.1.1.1.2, ⟨hk.1.1.2, ⟨hk.1.1.1.1.2.2.2.1, ⟨hk.1.1.1.1.2.2.2.2.1, ⟨hk.1.1.1.1.2.2.2.2.2, hk.1.2⟩⟩⟩⟩⟩⟩⟩⟩ | (simp_all; done))⟩, ⟨Kd.R_mono (Kd.R_far (p := ⟨gb393, 1, none⟩) (Kd.R_far (p := ⟨gb393, 0, none⟩) (Kd.R_types HO380.out BK393.out (by decide)) (fun _ hk => hk.2) (.slice Ao73 t386.length co73)) (fun _ hk => hk.2) (.slice Ao78 t389.length co78)) (fun _ hk => ⟨hk.1.1, hk.1.2⟩)⟩, ⟨Kd.N_mono (Kd.N_far (p := ⟨gb393, 1, none⟩) (Kd.N_far (p := ⟨gb393, 0, none⟩) (Kd.N_mono HO383.out (fun k_ hk => (⟨hk, hk.2⟩ : _ ∧ k_ ≠ gb393))) (fun _ hk => hk.2) (.slice Ao73 t386.length co73)) (fun _ hk => hk.2) (.slice Ao78 t389.length co78)) (fun _ hk => by first | exact ⟨hk.1.1.1.1.1, ⟨hk.1.1.1.1.2.1, ⟨hk.1.1.1.1.2.2.1, ⟨hk.1.1.1.2, ⟨hk.1.1.2, ⟨hk.1.1.1.1.2.2.2.1, ⟨hk.1.1.1.1.2.2.2.2.1, ⟨hk.1.1.1.1.2.2.2.2.2, hk.1.2⟩⟩⟩⟩⟩⟩⟩⟩ | (simp_all; done))⟩, ⟨Kd.R_mono (Kd.R_far (p := ⟨gb393, 1, none⟩) (Kd.R_far (p := ⟨gb393, 0, none⟩) (Kd.R_types HO388.out BK393.out (by decide)) (fun _ hk => hk.2) (.slice Ao73 t386.length co73)) (fun _ hk => hk.2) (.slice Ao78 t389.length co78)) (fun _ hk => ⟨hk.1.1.2, hk.1.2⟩)⟩, ⟨Kd.N_mono (Kd.N_far (p := ⟨gb393, 1, none⟩) (Kd.N_far (p := ⟨gb393, 0, none⟩) (Kd.N_mono HO391.out (fun k_ hk => (⟨hk, hk.2⟩ : _ ∧ k_ ≠ gb393))) (fun _ hk => hk.2) (.slice Ao73 t386.length co73)) (fun _ hk => hk.2) (.slice Ao78 t389.length co78)) (fun _ hk => ⟨hk.1.1.2.1, ⟨hk.1.1.2.2.1, ⟨hk.1.1.2.2.2.1, ⟨hk.1.1.1, ⟨hk.1.1.2.2.2.2.1, ⟨hk.1.1.2.2.2.2.2.1, ⟨hk.1.1.2.2.2.2.2.2, hk.1.2⟩⟩⟩⟩⟩⟩⟩)⟩, ⟨by (with_reducible repeat (first | refine blk_drewN ?_ _ | refine blk_drew ?_ | refine blk_alloc ?_ _)); refine blk_far ?_ NB366_393.out _; (with_reducible repeat (first | refine blk_drewN ?_ _ | refine blk_drew ?_ | refine blk_alloc ?_ _)); refine blk_far ?_ NB366_393.out _; exact gK BK366⟩, ⟨by (with_reducible repeat (first | refine blk_drewN ?_ _ | refine blk_drew ?_ | refine blk_alloc ?_ _)); refine blk_far ?_ NB377_393.out _; (with_reducible repeat (first | refine blk_drewN ?_ _ | refine blk_drew ?_ | refine blk_alloc ?_ _)); refine blk_far ?_ NB377_393.out _; exact gK BK377⟩, ⟨by (with_reducible repeat (first | refine blk_drewN ?_ _ | refine blk_drew ?_ | refine blk_alloc ?_ _)); refine blk_far ?_ NB385_393.out _; (with_reducible repeat (first | refine blk_drewN ?_ _ | refine blk_drew ?_ | refine blk_alloc ?_ _)); refine blk_far ?_ NB385_393.out _; exact gK BK385⟩, ⟨by (with_reducible repeat (first | refine blk_drewN ?_ _ | refine blk_drew ?_ | refine blk_alloc ?_ _)); refine blk_put (cs := #[.slice Ao73 t386.length co73, .slice none 0 0]) ?_ 1 _ rfl; (with_reducible repeat (first | refine blk_drewN ?_ _ | refine blk_drew ?_ | refine blk_alloc ?_ _)); refine blk_put (cs := #[.slice none 0 0, .slice none 0 0]) ?_ 0 _ rfl; exact gK BK393⟩, ⟨by repeat first | exact gB HB | refine below_set ?_ GE366.out | refine below_set ?_ GE377.out | refine below_set ?_ GE385.out | refine below_set ?_ GE393.out⟩⟩))
      case rest =>
       clear HC52
       try clear c1
       try clear c2
       try clear p2
       try clear c4
       try clear c5
       try clear c6
       try clear c7
       try clear c9
       try clear c11
       try clear c11b0
       try clear c11b1
       try clear c12
       try clear c12b0
       try clear c19
       try clear c19b0
       try clear c22
       try clear c44
       try clear c48
       try clear c57
       try clear c65
       try clear c66
       try clear c74
       try clear c75
       try clear c76
       try clear c79
       try clear c79b0
       try clear c79b1
       try clear hcz13_0
       try clear hcz13_1
       try clear hcz15_0
       try clear hcz15_1
       try clear hcz17_0
       try clear hcz17_1
       try clear hcz20_0
       try clear hcz20_1
       try clear hcz22_0
       try clear hcz22_1
       try clear hcz24_0
       try clear hcz24_1
       try clear hcz26_0
       try clear hcz26_1
       try clear hcz28_0
       try clear hcz28_1
       try clear hcz30_0
       try clear hcz30_1
       try clear hcz32_0
       try clear hcz32_1
       try clear hcz34_0
       try clear hcz34_1
       try clear hcz36_0
       try clear hcz36_1
       try clear hcz38_0
       try clear hcz38_1
       try clear hcz40_0
       try clear hcz40_1
       try clear hcz42_0
       try clear hcz42_1
       try clear hcz53_0
       try clear hcz53_1
       try clear hcz58_0
       try clear hcz58_1
       try clear hcz61_0
       try clear hcz61_1
       try clear hcz67_0
       try clear hcz67_1
       try clear hcz70_0
       try clear hcz70_1
       try clear hcz77_0
       try clear hcz77_1
       try clear hfz13_0
       try clear hfz13_1
       try clear hfz15_0
       try clear hfz15_1
       try clear hfz17_0
       try clear hfz17_1
       try clear hfz20_0
       try clear hfz20_1
       try clear hfz22_0
       try clear hfz22_1
       try clear hfz24_0
       try clear hfz24_1
       try clear hfz26_0
       try clear hfz26_1
       try clear hfz28_0
       try clear hfz28_1
       try clear hfz30_0
       try clear hfz30_1
       try clear hfz32_0
       try clear hfz32_1
       try clear hfz34_0
       try clear hfz34_1
       try clear hfz36_0
       try clear hfz36_1
       try clear hfz38_0
       try clear hfz38_1
       try clear hfz40_0
       try clear hfz40_1
       try clear hfz42_0
       try clear hfz42_1
       try clear hfz53_0
       try clear hfz53_1
       try clear hfz58_0
       try clear hfz58_1
       try clear hfz61_0
       try clear hfz61_1
       try clear hfz67_0
       try clear hfz67_1
       try clear hfz70_0
       try clear hfz70_1
       try clear hfz77_0
       try clear hfz77_1
       try clear p2
       obtain ⟨kq, x66_51, rfl, HA, HJ51, HO_378000, HO_378001, HO_386000, HO_386001, HO_394000, HO_394001, BK366, BK377, BK385, BK393, HB⟩ := hcut
       cases kq with
       | zero => exact absurd HA.out (by simp [triglyphlaw08_FoldTurns.j2])
       | succ kj51 =>
        have H := HA.out; clear HA
        simp only [triglyphlaw08_FoldTurns.j2] at H
        by_cases c80 : x66_51 = true
        ·subst c80
         have H1 : (if t384 = t392 then ((triglyphlaw08_works.f kj51).bind fun t394 => (some t394)) else (none)) = some r := by rw [if_pos rfl] at H; exact H
         clear H; have H := H1; clear H1
         obtain ⟨c81, H⟩ := iS H
         have c81b0 : (t384 == t392) = true := beq_iff_eq.mpr c81
         have c81b1 : (t384 != t392) = false := bne_eq_false_iff_eq.mpr c81
         clear c81
         replace H := Option.bind_eq_some_iff.mp H
         obtain ⟨t394, A820, H⟩ := H
         replace H : (some t394) = some r := H
         have A82 := gA A820
         clear A820
         obtain rfl := Option.some.inj H
         go_wp2_with (first | (go_at_call 11; (with_reducible refine (triglyphlaw08_works.calls kj51  t394 _ A82.out).mono ?_); rintro e w83 ⟨rfl, hb⟩; replace HO_378000 := gA (Kd.R_below (gR HO_378000) hb); replace HO_378001 := gA (Kd.N_below (gN HO_378001) hb); replace HO_386000 := gA (Kd.R_below (gR HO_386000) hb); replace HO_386001 := gA (Kd.N_below (gN HO_386001) hb); replace HO_394000 := gA (Kd.R_below (gR HO_394000) hb); replace HO_394001 := gA (Kd.N_below (gN HO_394001) hb); replace BK366 := gA (blk_below (gK BK366) hb); replace BK377 := gA (blk_below (gK BK377) hb); replace BK385 := gA (blk_below (gK BK385) hb); replace BK393 := gA (blk_below (gK BK393) hb); replace HB := gA (below_step (gB HB) hb); (try clear hb)))
         go_ret
         exact ⟨rfl, by repeat first | exact gB HB | refine below_set ?_ GE366.out | refine below_set ?_ GE377.out | refine below_set ?_ GE385.out | refine below_set ?_ GE393.out⟩
        ·replace c80 := Bool.eq_false_iff.mpr c80
         subst c80
         have H1 : ((triglyphref03_Same.f kj51 t378 t381 t386 t389).bind fun t395 => (if t395 = true then ((triglyphlaw08_works.f kj51).bind fun t396 => (some t396)) else (none))) = some r := by rw [if_neg (show ¬ (false = true) by decide)] at H; exact H
         clear H; have H := H1; clear H1
         replace H := Option.bind_eq_some_iff.mp H
         obtain ⟨t395, A840, H⟩ := H
         replace H : (if t395 = true then ((triglyphlaw08_works.f kj51).bind fun t396 => (some t396)) else (none)) = some r := H
         have A84 := gA A840
         clear A840
         by_cases c85 : t395 = true
         ·subst c85
          have H1 : ((triglyphlaw08_works.f kj51).bind fun t396 => (some t396)) = some r := by rw [if_pos rfl] at H; exact H
          clear H; have H := H1; clear H1
          replace H := Option.bind_eq_some_iff.mp H
          obtain ⟨t396, A860, H⟩ := H
          replace H : (some t396) = some r := H
          have A86 := gA A860
          clear A860
          obtain rfl := Option.some.inj H
          have hnb87 := NB385_366.out
          have hnc87 := NB366_385.out
          have hnb88 := NB385_377.out
          have hnc88 := NB377_385.out
          have hnb89 := NB385_393.out
          have hnc89 := NB393_385.out
          obtain ⟨hcz90_0, hcz90_1, hfz90_0, hfz90_1⟩ := gz2 BK385
          have hnb91 := NB393_366.out
          have hnc91 := NB366_393.out
          have hnb92 := NB393_377.out
          have hnc92 := NB377_393.out
          obtain ⟨hcz93_0, hcz93_1, hfz93_0, hfz93_1⟩ := gz2 BK393
          go_wp2_with (first | ((with_reducible refine gate_callee (f := 14) rfl ?_); refine goesL_ (some 75) rfl rfl Try.func14 (by kernel_rfl) rfl #[.agg #[.slice Ao64 t378.length co64, .slice Ao68 t381.length co68], .agg #[.slice Ao73 t386.length co73, .slice Ao78 t389.length co78]] rfl (by (try simp only [List.map_toArray, List.map_cons, List.map_nil]); first | done | rfl | (simp only [List.length_drop, List.length_take]; rfl)) ?_; (with_reducible refine (triglyphref03_Same.calls kj51 _ _ t378 _ _ t381 _ _ t386 _ _ t389 true _ ?side1 ?side2 ?side3 ?side4 ?side5 ?side6 ?side7 ?side8 A84.out).mono ?_); (case side1 => repeat (first | exact (Kd.R_reads' HO_386000.out).2.2 | (with_reducible refine Kd.C_alloc ?_ _) | (with_reducible refine Kd.C_drewN ?_ _) | (with_reducible refine Kd.C_drew ?_))); (case side2 => exact (Kd.R_reads' HO_386000.out).2.1); (case side3 => repeat (first | exact (Kd.N_reads' HO_386001.out).2.2 | (with_reducible refine Kd.C_alloc ?_ _) | (with_reducible refine Kd.C_drewN ?_ _) | (with_reducible refine Kd.C_drew ?_))); (case side4 => exact (Kd.N_reads' HO_386001.out).2.1); (case side5 => repeat (first | exact (Kd.R_reads' HO_394000.out).2.2 | (with_reducible refine Kd.C_alloc ?_ _) | (with_reducible refine Kd.C_drewN ?_ _) | (with_reducible refine Kd.C_drew ?_))); (case side6 => exact (Kd.R_reads' HO_394000.out).2.1); (case side7 => repeat (first | exact (Kd.N_reads' HO_394001.out).2.2 | (with_reducible refine Kd.C_alloc ?_ _) | (with_reducible refine Kd.C_drewN ?_ _) | (with_reducible refine Kd.C_drew ?_))); (case side8 => exact (Kd.N_reads' HO_394001.out).2.1); rintro e w94 ⟨rfl, hb⟩; refine ⟨_, rfl, ?_⟩; replace HO_378000 := gA (Kd.R_below (gR HO_378000) hb); replace HO_378001 := gA (Kd.N_below (gN HO_378001) hb); replace HO_386000 := gA (Kd.R_below (gR HO_386000) hb); replace HO_386001 := gA (Kd.N_below (gN HO_386001) hb); replace HO_394000 := gA (Kd.R_below (gR HO_394000) hb); replace HO_394001 := gA (Kd.N_below (gN HO_394001) hb); replace BK366 := gA (blk_below (gK BK366) hb); replace BK377 := gA (blk_below (gK BK377) hb); replace BK385 := gA (blk_below (gK BK385) hb); replace BK393 := gA (blk_below (gK BK393) hb); replace HB := gA (below_step (gB HB) hb); (try clear hb)) | (go_at_call 11; (with_reducible refine (triglyphlaw08_works.calls kj51  t396 _ A86.out).mono ?_); rintro e w95 ⟨rfl, hb⟩; replace HO_378000 := gA (Kd.R_below (gR HO_378000) hb); replace HO_378001 := gA (Kd.N_below (gN HO_378001) hb); replace HO_386000 := gA (Kd.R_below (gR HO_386000) hb); replace HO_386001 := gA (Kd.N_below (gN HO_386001) hb); replace HO_394000 := gA (Kd.R_below (gR HO_394000) hb); replace HO_394001 := gA (Kd.N_below (gN HO_394001) hb); replace BK366 := gA (blk_below (gK BK366) hb); replace BK377 := gA (blk_below (gK BK377) hb); replace BK385 := gA (blk_below (gK BK385) hb); replace BK393 := gA (blk_below (gK BK393) hb); replace HB := gA (below_step (gB HB) hb); (try clear hb)))
          go_ret
          exact ⟨rfl, by repeat first | exact gB HB | refine below_set ?_ GE366.out | refine below_set ?_ GE377.out | refine below_set ?_ GE385.out | refine below_set ?_ GE393.out⟩
         ·replace c85 := Bool.eq_false_iff.mpr c85
          subst c85
          have H1 : (none) = some r := by rw [if_neg (show ¬ (false = true) by decide)] at H; exact H
          clear H; have H := H1; clear H1
          exact absurd H (by simp)
end Go.Proofs.Ytahgfebdjjfkhaa.P
