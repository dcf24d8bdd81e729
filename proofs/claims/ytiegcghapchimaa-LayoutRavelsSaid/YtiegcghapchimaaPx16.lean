/- Written by a program of this session: the functions that the laws reach, what each comes to, and each law as it is stated, for every input. No condition. -/
import Derived.Test.YtiegcghapchimaaPx0
import Derived.Test.YtiegcghapchimaaPx1
import Derived.Test.YtiegcghapchimaaPx7
import Derived.Test.YtiegcghapchimaaPx9
import Derived.Test.YtiegcghapchimaaPx10
import Derived.Test.YtiegcghapchimaaPx12
import Derived.Test.YtiegcghapchimaaPx13
namespace Go.Proofs.Ytiegcghapchimaa.P
open Go.RowKit Go.Proofs.YtiegcghapchimaaW.PrintWords Go.Proofs.YtiegcghapchimaaW.PrintLast Go.Proofs.YtiegcghapchimaaW.PrintMore
attribute [local go_sem] max2_int min2_int max_two min_two max_three min_three max_four min_four   -- for this text's walks alone
set_option linter.unusedVariables false
set_option linter.unusedSimpArgs false
def triglyphlaw05_LayoutRavels.j0 : Nat → Bool → List Int → List (S39) → Option (Bool)
 | 0, _, _, _ => none
 | k + 1, x16, x558000, x558001 => if x16 = true then ((triglyphlaw05_works.f k).bind fun t560 => (some t560)) else ((layout_Mo.f k 8 x558000 x558001).bind fun bt561 => ((layout_Mo.f k 6 x558000 x558001).bind fun bt569 => ((layout_Reshape.f k bt569.1 bt569.2.1 bt561.1 bt561.2.1).bind fun bt577 => (if bt561.2.2 = 0 then (if bt569.2.2 = 0 then (if bt577.2.2 = 0 then ((triglyphref03_Same.f k x558000 x558001 bt577.1 bt577.2.1).bind fun t585 => (if t585 = true then ((triglyphlaw05_works.f k).bind fun t586 => (some t586)) else (none))) else (none)) else (none)) else (none)))))
def triglyphlaw05_LayoutRavels.f (k : Nat) (l0_0 : List Int) (l0_1 : List (S39)) : Option (Bool) := (triglyphlaw05_light.f k l0_0 l0_1).bind fun t558 => (if t558 = true then ((triglyphref03_Check.f k l0_0 l0_1).bind fun t559 => (triglyphlaw05_LayoutRavels.j0 k (t559 != 0) l0_0 l0_1)) else (triglyphlaw05_LayoutRavels.j0 k true l0_0 l0_1))
theorem triglyphlaw05_LayoutRavels.mono_l : ∀ k, (∀ y0 y1 y2, LeO (triglyphlaw05_LayoutRavels.j0 k y0 y1 y2) (triglyphlaw05_LayoutRavels.j0 (k + 1) y0 y1 y2))
 | 0 => fun _ _ _ r h => by simp [triglyphlaw05_LayoutRavels.j0] at h
 | k + 1 => by
  have ih0 := triglyphlaw05_LayoutRavels.mono_l k
  ·intro y0 y1 y2
   unfold triglyphlaw05_LayoutRavels.j0
   repeat' first
   | (with_reducible exact ih0 _ _ _)
   | (with_reducible exact layout_Mo.mono _ _ _ _)
   | (with_reducible exact layout_Reshape.mono _ _ _ _ _)
   | (with_reducible exact triglyphlaw05_light.mono _ _ _)
   | (with_reducible exact triglyphlaw05_works.mono _)
   | (with_reducible exact triglyphref03_Check.mono _ _ _)
   | (with_reducible exact triglyphref03_Same.mono _ _ _ _ _)
   | (with_reducible exact LeO.refl _)
   | (with_reducible exact LeO.none _)
   | (with_reducible refine LeO.ite ?_ ?_)
   | (with_reducible refine LeO.bind ?_ (fun _ => ?_))

   | exact layout_Mo.mono _ _ _ _
   | exact layout_Reshape.mono _ _ _ _ _
   | exact triglyphlaw05_light.mono _ _ _
   | exact triglyphlaw05_works.mono _
   | exact triglyphref03_Check.mono _ _ _
   | exact triglyphref03_Same.mono _ _ _ _ _
theorem triglyphlaw05_LayoutRavels.mono : ∀ a0 a1 k, LeO (triglyphlaw05_LayoutRavels.f k a0 a1) (triglyphlaw05_LayoutRavels.f (k + 1) a0 a1) := by
 intro a0 a1 k
 have ih0 := triglyphlaw05_LayoutRavels.mono_l k
 unfold triglyphlaw05_LayoutRavels.f
 repeat' first
   | (with_reducible exact ih0 _ _ _)
   | (with_reducible exact layout_Mo.mono _ _ _ _)
   | (with_reducible exact layout_Reshape.mono _ _ _ _ _)
   | (with_reducible exact triglyphlaw05_light.mono _ _ _)
   | (with_reducible exact triglyphlaw05_works.mono _)
   | (with_reducible exact triglyphref03_Check.mono _ _ _)
   | (with_reducible exact triglyphref03_Same.mono _ _ _ _ _)
   | (with_reducible exact LeO.refl _)
   | (with_reducible exact LeO.none _)
   | (with_reducible refine LeO.ite ?_ ?_)
   | (with_reducible refine LeO.bind ?_ (fun _ => ?_))

   | exact layout_Mo.mono _ _ _ _
   | exact layout_Reshape.mono _ _ _ _ _
   | exact triglyphlaw05_light.mono _ _ _
   | exact triglyphlaw05_works.mono _
   | exact triglyphref03_Check.mono _ _ _
   | exact triglyphref03_Same.mono _ _ _ _ _
set_option maxHeartbeats 8000000 in
set_option maxRecDepth 100000 in
theorem triglyphlaw05_LayoutRavels.calls (k : Nat) (A0_0 : Option Addr) (c0_0 : Nat) (l0_0 : List Int) (A0_1 : Option Addr) (c0_1 : Nat) (l0_1 : List (S39)) (r : Bool) (w : World) (hr0_0 : Kd.C (Kd.int .i64) w A0_0 l0_0.length l0_0) (hc0_0 : l0_0.length ≤ c0_0) (hr0_1 : Kd.C k39 w A0_1 l0_1.length l0_1) (hc0_1 : l0_1.length ≤ c0_1) (h : triglyphlaw05_LayoutRavels.f k l0_0 l0_1 = some r) :
  Calls Try.prog 6 #[.agg #[.slice A0_0 l0_0.length c0_0, .slice A0_1 l0_1.length c0_1]] w fun e w' => e = .returned (.bool r) ∧ Below w.heap.size w w' := by
 have hu25 := Try.underlying25
 have HR0_0 := gA hr0_0
 have HC0_0 := gA hc0_0
 clear hr0_0 hc0_0
 have HR0_1 := gA hr0_1
 have HC0_1 := gA hc0_1
 clear hr0_1 hc0_1
 have HB := gA (Below.refl w.heap.size w)
 have H : ((triglyphlaw05_light.f k l0_0 l0_1).bind fun t558 => (if t558 = true then ((triglyphref03_Check.f k l0_0 l0_1).bind fun t559 => (triglyphlaw05_LayoutRavels.j0 k (t559 != 0) l0_0 l0_1)) else (triglyphlaw05_LayoutRavels.j0 k true l0_0 l0_1))) = some r := h
 clear h
 have HC2 := gA H
 clear H
 go_enter Try.func6, Try.ntmps6
 go_upto_region 1 with (first | ((with_reducible refine gate_dst (N := 1) rfl ?_); refine box_event ?hg (N := 1) ?hd (cs := #[.slice A0_0 l0_0.length c0_0, .slice A0_1 l0_1.length c0_1]) (t := 25) ?hr ?_; (case hd => rfl); (case hg => rfl); (case hr => first | (go_simp; done) | (go_simp; rfl)); intro gb557 hg w3 hbox hb; have BK557 := gA (hbox); have GW557 := gA ((by rw [hg]; exact (below_size (gB HB)) : w.heap.size ≤ gb557)); have GE557 := gA ((by rw [hg]; exact (below_size (gB HB)) : w.heap.size ≤ gb557)); replace HB := gA (below_step (gB HB) hb); clear hb hbox hg))
 (try simp only [Act.put, List.setIfInBounds_toArray, List.set_cons_zero, List.set_cons_succ])
 go_cut [16] (fun v16 wc => ∃ (kq : Nat) (x16_1 : Bool), v16 = .bool x16_1 ∧ Aside0 (triglyphlaw05_LayoutRavels.j0 kq x16_1 l0_0 l0_1 = some r) ∧ Aside0 (kq ≤ k) ∧ Aside0 (wc.heap[gb557]? = some (.cells #[(.slice A0_0 l0_0.length c0_0), (.slice A0_1 l0_1.length c0_1)] 25 (0, 0))) ∧ Aside0 (Below w.heap.size w wc))
 case first =>
  have H := HC2.out; clear HC2
  replace H := Option.bind_eq_some_iff.mp H
  obtain ⟨t558, A40, H⟩ := H
  replace H : (if t558 = true then ((triglyphref03_Check.f k l0_0 l0_1).bind fun t559 => (triglyphlaw05_LayoutRavels.j0 k (t559 != 0) l0_0 l0_1)) else (triglyphlaw05_LayoutRavels.j0 k true l0_0 l0_1)) = some r := H
  have A4 := gA A40
  clear A40
  by_cases c5 : t558 = true
  ·subst c5
   have H1 : ((triglyphref03_Check.f k l0_0 l0_1).bind fun t559 => (triglyphlaw05_LayoutRavels.j0 k (t559 != 0) l0_0 l0_1)) = some r := by rw [if_pos rfl] at H; exact H
   clear H; have H := H1; clear H1
   replace H := Option.bind_eq_some_iff.mp H
   obtain ⟨t559, A60, H⟩ := H
   replace H : (triglyphlaw05_LayoutRavels.j0 k (t559 != 0) l0_0 l0_1) = some r := H
   have A6 := gA A60
   clear A60
   have H' := gA H
   clear H
   obtain ⟨hcz7_0, hcz7_1, hfz7_0, hfz7_1⟩ := gz2 BK557
   go_wp2_with (first | ((with_reducible refine gate_callee (f := 9) rfl ?_); refine goesL_ (some 10) rfl rfl Try.func9 (by kernel_rfl) rfl #[.agg #[.slice A0_0 l0_0.length c0_0, .slice A0_1 l0_1.length c0_1]] rfl (by (try simp only [List.map_toArray, List.map_cons, List.map_nil]); first | done | rfl | (simp only [List.length_drop, List.length_take]; rfl)) ?_; (with_reducible refine (triglyphlaw05_light.calls k _ _ l0_0 _ _ l0_1 true _ ?side1 ?side2 ?side3 ?side4 A4.out).mono ?_); (case side1 => exact gC HR0_0 HB); (case side2 => exact HC0_0.out); (case side3 => exact gC HR0_1 HB); (case side4 => exact HC0_1.out); rintro e w8 ⟨rfl, hb⟩; refine ⟨_, rfl, ?_⟩; replace BK557 := gA (blk_below (gK BK557) hb); replace HB := gA (below_step (gB HB) hb); (try clear hb); obtain ⟨hcz9_0, hcz9_1, hfz9_0, hfz9_1⟩ := gz2 BK557) | (go_at_call 16; (with_reducible refine (triglyphref03_Check.calls k _ _ l0_0 _ _ l0_1 t559 _ ?side1 ?side2 ?side3 ?side4 A6.out).mono ?_); (case side1 => exact gC HR0_0 HB); (case side2 => exact HC0_0.out); (case side3 => exact gC HR0_1 HB); (case side4 => exact HC0_1.out); rintro e w10 ⟨rfl, hb⟩; replace BK557 := gA (blk_below (gK BK557) hb); replace HB := gA (below_step (gB HB) hb); (try clear hb)))
   all_goals (go_meet; (case rel => exact ⟨_, ((t559 != 0)), (by first | rfl | (simp; done) | (simp [*]; done) | (exfalso; simp_all; done) | (exfalso; simp_all; omega)), H', ⟨by first | omega | exact Nat.le_refl _⟩, ⟨gK BK557⟩, ⟨gB HB⟩⟩))
  ·replace c5 := Bool.eq_false_iff.mpr c5
   subst c5
   have H1 : (triglyphlaw05_LayoutRavels.j0 k true l0_0 l0_1) = some r := by rw [if_neg (show ¬ (false = true) by decide)] at H; exact H
   clear H; have H := H1; clear H1
   have H' := gA H
   clear H
   obtain ⟨hcz11_0, hcz11_1, hfz11_0, hfz11_1⟩ := gz2 BK557
   go_wp2_with (first | ((with_reducible refine gate_callee (f := 9) rfl ?_); refine goesL_ (some 10) rfl rfl Try.func9 (by kernel_rfl) rfl #[.agg #[.slice A0_0 l0_0.length c0_0, .slice A0_1 l0_1.length c0_1]] rfl (by (try simp only [List.map_toArray, List.map_cons, List.map_nil]); first | done | rfl | (simp only [List.length_drop, List.length_take]; rfl)) ?_; (with_reducible refine (triglyphlaw05_light.calls k _ _ l0_0 _ _ l0_1 false _ ?side1 ?side2 ?side3 ?side4 A4.out).mono ?_); (case side1 => exact gC HR0_0 HB); (case side2 => exact HC0_0.out); (case side3 => exact gC HR0_1 HB); (case side4 => exact HC0_1.out); rintro e w12 ⟨rfl, hb⟩; refine ⟨_, rfl, ?_⟩; replace BK557 := gA (blk_below (gK BK557) hb); replace HB := gA (below_step (gB HB) hb); (try clear hb)))
   all_goals (go_meet; (case rel => exact ⟨_, (true), (by first | rfl | (simp; done) | (simp [*]; done) | (exfalso; simp_all; done) | (exfalso; simp_all; omega)), H', ⟨by first | omega | exact Nat.le_refl _⟩, ⟨gK BK557⟩, ⟨gB HB⟩⟩))
 case rest =>
  clear HC2
  try clear p2
  try clear c5
  try clear c6
  try clear c9
  try clear hcz11_0
  try clear hcz11_1
  try clear hcz7_0
  try clear hcz7_1
  try clear hcz9_0
  try clear hcz9_1
  try clear hfz11_0
  try clear hfz11_1
  try clear hfz7_0
  try clear hfz7_1
  try clear hfz9_0
  try clear hfz9_1
  obtain ⟨kq, x16_1, rfl, HA, HJ1, BK557, HB⟩ := hcut
  cases kq with
  | zero => exact absurd HA.out (by simp [triglyphlaw05_LayoutRavels.j0])
  | succ kj1 =>
   have H := HA.out; clear HA
   simp only [triglyphlaw05_LayoutRavels.j0] at H
   by_cases c13 : x16_1 = true
   ·subst c13
    have H1 : ((triglyphlaw05_works.f kj1).bind fun t560 => (some t560)) = some r := by rw [if_pos rfl] at H; exact H
    clear H; have H := H1; clear H1
    replace H := Option.bind_eq_some_iff.mp H
    obtain ⟨t560, A140, H⟩ := H
    replace H : (some t560) = some r := H
    have A14 := gA A140
    clear A140
    obtain rfl := Option.some.inj H
    go_wp2_with (first | ((with_reducible refine gate_callee (f := 10) rfl ?_); refine goesL_ (some 17) rfl rfl Try.func10 (by kernel_rfl) rfl #[] rfl (by (try simp only [List.map_toArray, List.map_cons, List.map_nil]); first | done | rfl | (simp only [List.length_drop, List.length_take]; rfl)) ?_; (with_reducible refine (triglyphlaw05_works.calls kj1  t560 _ A14.out).mono ?_); rintro e w15 ⟨rfl, hb⟩; refine ⟨_, rfl, ?_⟩; replace BK557 := gA (blk_below (gK BK557) hb); replace HB := gA (below_step (gB HB) hb); (try clear hb)))
    go_ret
    exact ⟨rfl, by repeat first | exact gB HB | refine below_set ?_ GE557.out⟩
   ·replace c13 := Bool.eq_false_iff.mpr c13
    subst c13
    have H1 : ((layout_Mo.f kj1 8 l0_0 l0_1).bind fun bt561 => ((layout_Mo.f kj1 6 l0_0 l0_1).bind fun bt569 => ((layout_Reshape.f kj1 bt569.1 bt569.2.1 bt561.1 bt561.2.1).bind fun bt577 => (if bt561.2.2 = 0 then (if bt569.2.2 = 0 then (if bt577.2.2 = 0 then ((triglyphref03_Same.f kj1 l0_0 l0_1 bt577.1 bt577.2.1).bind fun t585 => (if t585 = true then ((triglyphlaw05_works.f kj1).bind fun t586 => (some t586)) else (none))) else (none)) else (none)) else (none))))) = some r := by rw [if_neg (show ¬ (false = true) by decide)] at H; exact H
    clear H; have H := H1; clear H1
    replace H := Option.bind_eq_some_iff.mp H
    obtain ⟨⟨t561, t564, t567⟩, A160, H⟩ := H
    replace H : ((layout_Mo.f kj1 6 l0_0 l0_1).bind fun bt569 => ((layout_Reshape.f kj1 bt569.1 bt569.2.1 t561 t564).bind fun bt577 => (if t567 = 0 then (if bt569.2.2 = 0 then (if bt577.2.2 = 0 then ((triglyphref03_Same.f kj1 l0_0 l0_1 bt577.1 bt577.2.1).bind fun t585 => (if t585 = true then ((triglyphlaw05_works.f kj1).bind fun t586 => (some t586)) else (none))) else (none)) else (none)) else (none)))) = some r := H
    have A16 := gA A160
    clear A160
    replace H := Option.bind_eq_some_iff.mp H
    obtain ⟨⟨t569, t572, t575⟩, A170, H⟩ := H
    replace H : ((layout_Reshape.f kj1 t569 t572 t561 t564).bind fun bt577 => (if t567 = 0 then (if t575 = 0 then (if bt577.2.2 = 0 then ((triglyphref03_Same.f kj1 l0_0 l0_1 bt577.1 bt577.2.1).bind fun t585 => (if t585 = true then ((triglyphlaw05_works.f kj1).bind fun t586 => (some t586)) else (none))) else (none)) else (none)) else (none))) = some r := H
    have A17 := gA A170
    clear A170
    replace H := Option.bind_eq_some_iff.mp H
    obtain ⟨⟨t577, t580, t583⟩, A180, H⟩ := H
    replace H : (if t567 = 0 then (if t575 = 0 then (if t583 = 0 then ((triglyphref03_Same.f kj1 l0_0 l0_1 t577 t580).bind fun t585 => (if t585 = true then ((triglyphlaw05_works.f kj1).bind fun t586 => (some t586)) else (none))) else (none)) else (none)) else (none)) = some r := H
    have A18 := gA A180
    clear A180
    obtain ⟨c19, H⟩ := iS H
    have c19b0 : (t567 == 0) = true := beq_iff_eq.mpr c19
    have c19b1 : (t567 != 0) = false := bne_eq_false_iff_eq.mpr c19
    clear c19
    obtain ⟨c20, H⟩ := iS H
    have c20b0 : (t575 == 0) = true := beq_iff_eq.mpr c20
    have c20b1 : (t575 != 0) = false := bne_eq_false_iff_eq.mpr c20
    clear c20
    obtain ⟨c21, H⟩ := iS H
    have c21b0 : (t583 == 0) = true := beq_iff_eq.mpr c21
    have c21b1 : (t583 != 0) = false := bne_eq_false_iff_eq.mpr c21
    clear c21
    replace H := Option.bind_eq_some_iff.mp H
    obtain ⟨t585, A220, H⟩ := H
    replace H : (if t585 = true then ((triglyphlaw05_works.f kj1).bind fun t586 => (some t586)) else (none)) = some r := H
    have A22 := gA A220
    clear A220
    by_cases c23 : t585 = true
    ·subst c23
     have H1 : ((triglyphlaw05_works.f kj1).bind fun t586 => (some t586)) = some r := by rw [if_pos rfl] at H; exact H
     clear H; have H := H1; clear H1
     replace H := Option.bind_eq_some_iff.mp H
     obtain ⟨t586, A240, H⟩ := H
     replace H : (some t586) = some r := H
     have A24 := gA A240
     clear A240
     obtain rfl := Option.some.inj H
     obtain ⟨hcz25_0, hcz25_1, hfz25_0, hfz25_1⟩ := gz2 BK557
     go_wp2_with (first | ((with_reducible refine gate_callee (f := 11) rfl ?_); refine goesL_ (some 20) rfl rfl Try.func11 (by kernel_rfl) rfl #[.int .i64 8, .agg #[.slice A0_0 l0_0.length c0_0, .slice A0_1 l0_1.length c0_1]] rfl (by (try simp only [List.map_toArray, List.map_cons, List.map_nil]); first | done | rfl | (simp only [List.length_drop, List.length_take]; rfl)) ?_; (with_reducible refine (layout_Mo.calls kj1 8 _ _ l0_0 (fun k_ => k_ < w.heap.size) _ _ l0_1 t561 t564 t567 _ ?side1 ?side2 ?side3 A16.out).mono ?_); (case side1 => exact gC HR0_0 HB); (case side2 => exact HC0_0.out); (case side3 => exact Kd.V_mk HC0_1.out (Kd.F_below (Kd.C_F k39_heap HR0_1.out) (by repeat first | exact gB HB | refine below_set ?_ GE557.out))); rintro e w26 ⟨v562, v565, rfl, ho0, ho1, hb⟩; refine ⟨_, rfl, ?_⟩; have HO563 := gA (Kd.V_lower (Kd.V_mono (ok' := fun k_ => k_ ≠ gb557) ho0 (fun k_ hk_ => Or.elim hk_ (fun hs_ => fun e_ => Nat.not_le.2 hs_ (by rw [e_]; exact GW557.out)) (fun hn_ => (Kd.freshB (gK BK557) k_ hn_)))) (below_size (by repeat first | exact gB HB | refine below_set ?_ GE557.out))); have HO566 := gA (Kd.V_lower (Kd.V_mono (ok' := fun k_ => k_ ≠ gb557) ho1 (fun k_ hk_ => Or.elim hk_ (fun hs_ => fun e_ => Nat.not_le.2 hs_ (by rw [e_]; exact GW557.out)) (fun hn_ => (Kd.freshB (gK BK557) k_ hn_)))) (below_size (by repeat first | exact gB HB | refine below_set ?_ GE557.out))); replace BK557 := gA (blk_below (gK BK557) hb); replace HB := gA (below_step (by repeat first | exact gB HB | refine below_set ?_ GE557.out) hb); (try clear hb); (try clear ho0); (try clear ho1)) | ((with_reducible refine gate_dst (N := 3) rfl ?_); refine box_event ?hg (N := 3) ?hd (cs := #[.slice none 0 0, .slice none 0 0]) (t := 25) ?hr ?_; (case hd => rfl); (case hg => rfl); (case hr => first | (go_simp; done) | (go_simp; rfl)); intro gb568 hg w27 hbox hb; replace HO563 := gA (Kd.V_below (Kd.V_elderB (gV HO563) gb568 (Nat.le_of_eq hg.symm)) hb); replace HO566 := gA (Kd.V_below (Kd.V_elderB (gV HO566) gb568 (Nat.le_of_eq hg.symm)) hb); have BK568 := gA (hbox); have GW568 := gA ((by rw [hg]; exact (below_size (by repeat first | exact gB HB | refine below_set ?_ GE557.out)) : w.heap.size ≤ gb568)); have GE568 := gA ((by rw [hg]; exact (below_size (by repeat first | exact gB HB | refine below_set ?_ GE557.out)) : w.heap.size ≤ gb568)); replace HB := gA (below_step (by repeat first | exact gB HB | refine below_set ?_ GE557.out) hb); have NB557_568 := gA ((by rw [hg]; exact Nat.ne_of_lt (blk_lt (gK BK557)) : gb557 ≠ gb568)); have NB568_557 := gA ((by rw [hg]; exact Nat.ne_of_gt (blk_lt (gK BK557)) : gb568 ≠ gb557)); replace BK557 := gA (blk_below (gK BK557) hb); clear hb hbox hg; obtain ⟨Ao28, co28, eo28⟩ := Kd.V_slice HO563.out; subst eo28; have hnb29 := NB568_557.out; have hnc29 := NB557_568.out; obtain ⟨hcz30_0, hcz30_1, hfz30_0, hfz30_1⟩ := gz2 BK568; obtain ⟨Ao31, co31, eo31⟩ := Kd.V_slice HO566.out; subst eo31) | ((with_reducible refine gate_store (t := 25) (p := 3) rfl ?_); refine store_event (t := 25) (p := 3) (v := ?vo_w32) (w1 := ((w27.setCell ⟨gb568, 0, none⟩ (.slice Ao28 t561.length co28)).setCell ⟨gb568, 1, none⟩ (.slice Ao31 t564.length co31))) ?hg ?ho ?hn ?hr ?_; (case ho => rfl); (case hg => rfl); (case hn => rfl); (case hr => first | (go_simp; done) | (go_simp; rfl)); intro w32 hw; have n0_ : Aside0 (Kd.V (Kd.int .i64) 3 w32 w.heap.size (fun k_ => k_ ≠ gb557 ∧ k_ ≠ gb568) (.slice Ao28 t561.length co28) t561) := ⟨(by rw [hw]; exact (Kd.V_mono (Kd.V_far (p := ⟨gb568, 1, none⟩) (Kd.V_far (p := ⟨gb568, 0, none⟩) (Kd.V_mono HO563.out (fun k_ hk => (⟨hk, hk.2⟩ : _ ∧ k_ ≠ gb568))) (fun _ hk => hk.2) (.slice Ao28 t561.length co28)) (fun _ hk => hk.2) (.slice Ao31 t564.length co31)) (fun _ hk => ⟨hk.1.1, hk.1.2⟩)))⟩; have n1_ : Aside0 (Kd.V k39 39 w32 w.heap.size (fun k_ => k_ ≠ gb557 ∧ k_ ≠ gb568) (.slice Ao31 t564.length co31) t564) := ⟨(by rw [hw]; exact (Kd.V_mono (Kd.V_far (p := ⟨gb568, 1, none⟩) (Kd.V_far (p := ⟨gb568, 0, none⟩) (Kd.V_mono HO566.out (fun k_ hk => (⟨hk, hk.2⟩ : _ ∧ k_ ≠ gb568))) (fun _ hk => hk.2) (.slice Ao28 t561.length co28)) (fun _ hk => hk.2) (.slice Ao31 t564.length co31)) (fun _ hk => ⟨hk.1.1, hk.1.2⟩)))⟩; have n2_ : Aside0 (w32.heap[gb557]? = some (.cells #[.slice A0_0 l0_0.length c0_0, .slice A0_1 l0_1.length c0_1] 25 (0, 0))) := ⟨(by rw [hw]; exact (by refine blk_far ?_ NB557_568.out _; refine blk_far ?_ NB557_568.out _; exact gK BK557))⟩; have n3_ : Aside0 (w32.heap[gb568]? = some (.cells #[.slice Ao28 t561.length co28, .slice Ao31 t564.length co31] 25 (0, 0))) := ⟨(by rw [hw]; exact (by refine blk_put (cs := #[.slice Ao28 t561.length co28, .slice none 0 0]) ?_ 1 _ rfl; refine blk_put (cs := #[.slice none 0 0, .slice none 0 0]) ?_ 0 _ rfl; exact gK BK568))⟩; have n4_ : Aside0 (Below w.heap.size w w32) := ⟨(by rw [hw]; exact (by repeat first | exact gB HB | refine below_set ?_ GE557.out | refine below_set ?_ GE568.out))⟩; clear hw HO563 HO566 BK557 BK568 HB; have HO563 := n0_; have HO566 := n1_; have BK557 := n2_; have BK568 := n3_; have HB := n4_; clear n0_ n1_ n2_ n3_ n4_; obtain ⟨hcz33_0, hcz33_1, hfz33_0, hfz33_1⟩ := gz2 BK557) | ((with_reducible refine gate_callee (f := 11) rfl ?_); refine goesL_ (some 25) rfl rfl Try.func11 (by kernel_rfl) rfl #[.int .i64 6, .agg #[.slice A0_0 l0_0.length c0_0, .slice A0_1 l0_1.length c0_1]] rfl (by (try simp only [List.map_toArray, List.map_cons, List.map_nil]); first | done | rfl | (simp only [List.length_drop, List.length_take]; rfl)) ?_; (with_reducible refine (layout_Mo.calls kj1 6 _ _ l0_0 (fun k_ => k_ < w.heap.size) _ _ l0_1 t569 t572 t575 _ ?side1 ?side2 ?side3 A17.out).mono ?_); (case side1 => exact gC HR0_0 HB); (case side2 => exact HC0_0.out); (case side3 => exact Kd.V_mk HC0_1.out (Kd.F_below (Kd.C_F k39_heap HR0_1.out) (by repeat first | exact gB HB | refine below_set ?_ GE557.out | refine below_set ?_ GE568.out))); rintro e w34 ⟨v570, v573, rfl, ho0, ho1, hb⟩; refine ⟨_, rfl, ?_⟩; replace HO563 := gA (Kd.V_below (gV HO563) hb); replace HO566 := gA (Kd.V_below (gV HO566) hb); have HO571 := gA (Kd.V_lower (Kd.V_mono (ok' := fun k_ => k_ ≠ gb557 ∧ k_ ≠ gb568) ho0 (fun k_ hk_ => ⟨Or.elim hk_ (fun hs_ => fun e_ => Nat.not_le.2 hs_ (by rw [e_]; exact GW557.out)) (fun hn_ => (Kd.freshB (gK BK557) k_ hn_)), Or.elim hk_ (fun hs_ => fun e_ => Nat.not_le.2 hs_ (by rw [e_]; exact GW568.out)) (fun hn_ => (Kd.freshB (gK BK568) k_ hn_))⟩)) (below_size (by repeat first | exact gB HB | refine below_set ?_ GE557.out | refine below_set ?_ GE568.out))); have HO574 := gA (Kd.V_lower (Kd.V_mono (ok' := fun k_ => k_ ≠ gb557 ∧ k_ ≠ gb568) ho1 (fun k_ hk_ => ⟨Or.elim hk_ (fun hs_ => fun e_ => Nat.not_le.2 hs_ (by rw [e_]; exact GW557.out)) (fun hn_ => (Kd.freshB (gK BK557) k_ hn_)), Or.elim hk_ (fun hs_ => fun e_ => Nat.not_le.2 hs_ (by rw [e_]; exact GW568.out)) (fun hn_ => (Kd.freshB (gK BK568) k_ hn_))⟩)) (below_size (by repeat first | exact gB HB | refine below_set ?_ GE557.out | refine below_set ?_ GE568.out))); replace BK557 := gA (blk_below (gK BK557) hb); replace BK568 := gA (blk_below (gK BK568) hb); replace HB := gA (below_step (by repeat first | exact gB HB | refine below_set ?_ GE557.out | refine below_set ?_ GE568.out) hb); (try clear hb); (try clear ho0); (try clear ho1)) | ((with_reducible refine gate_dst (N := 5) rfl ?_); refine box_event ?hg (N := 5) ?hd (cs := #[.slice none 0 0, .slice none 0 0]) (t := 25) ?hr ?_; (case hd => rfl); (case hg => rfl); (case hr => first | (go_simp; done) | (go_simp; rfl)); intro gb576 hg w35 hbox hb; replace HO563 := gA (Kd.V_below (Kd.V_elderB (gV HO563) gb576 (Nat.le_of_eq hg.symm)) hb); replace HO566 := gA (Kd.V_below (Kd.V_elderB (gV HO566) gb576 (Nat.le_of_eq hg.symm)) hb); replace HO571 := gA (Kd.V_below (Kd.V_elderB (gV HO571) gb576 (Nat.le_of_eq hg.symm)) hb); replace HO574 := gA (Kd.V_below (Kd.V_elderB (gV HO574) gb576 (Nat.le_of_eq hg.symm)) hb); have BK576 := gA (hbox); have GW576 := gA ((by rw [hg]; exact (below_size (by repeat first | exact gB HB | refine below_set ?_ GE557.out | refine below_set ?_ GE568.out)) : w.heap.size ≤ gb576)); have GE576 := gA ((by rw [hg]; exact (below_size (by repeat first | exact gB HB | refine below_set ?_ GE557.out | refine below_set ?_ GE568.out)) : w.heap.size ≤ gb576)); replace HB := gA (below_step (by repeat first | exact gB HB | refine below_set ?_ GE557.out | refine below_set ?_ GE568.out) hb); have NB557_576 := gA ((by rw [hg]; exact Nat.ne_of_lt (blk_lt (gK BK557)) : gb557 ≠ gb576)); have NB576_557 := gA ((by rw [hg]; exact Nat.ne_of_gt (blk_lt (gK BK557)) : gb576 ≠ gb557)); replace BK557 := gA (blk_below (gK BK557) hb); have NB568_576 := gA ((by rw [hg]; exact Nat.ne_of_lt (blk_lt (gK BK568)) : gb568 ≠ gb576)); have NB576_568 := gA ((by rw [hg]; exact Nat.ne_of_gt (blk_lt (gK BK568)) : gb576 ≠ gb568)); replace BK568 := gA (blk_below (gK BK568) hb); clear hb hbox hg; obtain ⟨Ao36, co36, eo36⟩ := Kd.V_slice HO571.out; subst eo36; have hnb37 := NB576_557.out; have hnc37 := NB557_576.out; have hnb38 := NB576_568.out; have hnc38 := NB568_576.out; obtain ⟨hcz39_0, hcz39_1, hfz39_0, hfz39_1⟩ := gz2 BK576; obtain ⟨Ao40, co40, eo40⟩ := Kd.V_slice HO574.out; subst eo40) | ((with_reducible refine gate_store (t := 25) (p := 5) rfl ?_); refine store_event (t := 25) (p := 5) (v := ?vo_w41) (w1 := ((w35.setCell ⟨gb576, 0, none⟩ (.slice Ao36 t569.length co36)).setCell ⟨gb576, 1, none⟩ (.slice Ao40 t572.length co40))) ?hg ?ho ?hn ?hr ?_; (case ho => rfl); (case hg => rfl); (case hn => rfl); (case hr => first | (go_simp; done) | (go_simp; rfl)); intro w41 hw; have n0_ : Aside0 (Kd.V (Kd.int .i64) 3 w41 w.heap.size (fun k_ => k_ ≠ gb557 ∧ k_ ≠ gb568 ∧ k_ ≠ gb576) (.slice Ao28 t561.length co28) t561) := ⟨(by rw [hw]; exact (Kd.V_mono (Kd.V_far (p := ⟨gb576, 1, none⟩) (Kd.V_far (p := ⟨gb576, 0, none⟩) (Kd.V_mono HO563.out (fun k_ hk => (⟨hk, hk.2⟩ : _ ∧ k_ ≠ gb576))) (fun _ hk => hk.2) (.slice Ao36 t569.length co36)) (fun _ hk => hk.2) (.slice Ao40 t572.length co40)) (fun _ hk => by first | exact ⟨hk.1.1.1, ⟨hk.1.1.2, hk.1.2⟩⟩ | (simp_all; done))))⟩; have n1_ : Aside0 (Kd.V k39 39 w41 w.heap.size (fun k_ => k_ ≠ gb557 ∧ k_ ≠ gb568 ∧ k_ ≠ gb576) (.slice Ao31 t564.length co31) t564) := ⟨(by rw [hw]; exact (Kd.V_mono (Kd.V_far (p := ⟨gb576, 1, none⟩) (Kd.V_far (p := ⟨gb576, 0, none⟩) (Kd.V_mono HO566.out (fun k_ hk => (⟨hk, hk.2⟩ : _ ∧ k_ ≠ gb576))) (fun _ hk => hk.2) (.slice Ao36 t569.length co36)) (fun _ hk => hk.2) (.slice Ao40 t572.length co40)) (fun _ hk => by first | exact ⟨hk.1.1.1, ⟨hk.1.1.2, hk.1.2⟩⟩ | (simp_all; done))))⟩; have n2_ : Aside0 (Kd.V (Kd.int .i64) 3 w41 w.heap.size (fun k_ => k_ ≠ gb557 ∧ k_ ≠ gb568 ∧ k_ ≠ gb576) (.slice Ao36 t569.length co36) t569) := ⟨(by rw [hw]; exact (Kd.V_mono (Kd.V_far (p := ⟨gb576, 1, none⟩) (Kd.V_far (p := ⟨gb576, 0, none⟩) (Kd.V_mono HO571.out (fun k_ hk => (⟨hk, hk.2⟩ : _ ∧ k_ ≠ gb576))) (fun _ hk => hk.2) (.slice Ao36 t569.length co36)) (fun _ hk => hk.2) (.slice Ao40 t572.length co40)) (fun _ hk => by first | exact ⟨hk.1.1.1, ⟨hk.1.1.2, hk.1.2⟩⟩ | (simp_all; done))))⟩; have n3_ : Aside0 (Kd.V k39 39 w41 w.heap.size (fun k_ => k_ ≠ gb557 ∧ k_ ≠ gb568 ∧ k_ ≠ gb576) (.slice Ao40 t572.length co40) t572) := ⟨(by rw [hw]; exact (Kd.V_mono (Kd.V_far (p := ⟨gb576, 1, none⟩) (Kd.V_far (p := ⟨gb576, 0, none⟩) (Kd.V_mono HO574.out (fun k_ hk => (⟨hk, hk.2⟩ : _ ∧ k_ ≠ gb576))) (fun _ hk => hk.2) (.slice Ao36 t569.length co36)) (fun _ hk => hk.2) (.slice Ao40 t572.length co40)) (fun _ hk => by first | exact ⟨hk.1.1.1, ⟨hk.1.1.2, hk.1.2⟩⟩ | (simp_all; done))))⟩; have n4_ : Aside0 (w41.heap[gb557]? = some (.cells #[.slice A0_0 l0_0.length c0_0, .slice A0_1 l0_1.length c0_1] 25 (0, 0))) := ⟨(by rw [hw]; exact (by refine blk_far ?_ NB557_576.out _; refine blk_far ?_ NB557_576.out _; exact gK BK557))⟩; have n5_ : Aside0 (w41.heap[gb568]? = some (.cells #[.slice Ao28 t561.length co28, .slice Ao31 t564.length co31] 25 (0, 0))) := ⟨(by rw [hw]; exact (by refine blk_far ?_ NB568_576.out _; refine blk_far ?_ NB568_576.out _; exact gK BK568))⟩; have n6_ : Aside0 (w41.heap[gb576]? = some (.cells #[.slice Ao36 t569.length co36, .slice Ao40 t572.length co40] 25 (0, 0))) := ⟨(by rw [hw]; exact (by refine blk_put (cs := #[.slice Ao36 t569.length co36, .slice none 0 0]) ?_ 1 _ rfl; refine blk_put (cs := #[.slice none 0 0, .slice none 0 0]) ?_ 0 _ rfl; exact gK BK576))⟩; have n7_ : Aside0 (Below w.heap.size w w41) := ⟨(by rw [hw]; exact (by repeat first | exact gB HB | refine below_set ?_ GE557.out | refine below_set ?_ GE568.out | refine below_set ?_ GE576.out))⟩; clear hw HO563 HO566 HO571 HO574 BK557 BK568 BK576 HB; have HO563 := n0_; have HO566 := n1_; have HO571 := n2_; have HO574 := n3_; have BK557 := n4_; have BK568 := n5_; have BK576 := n6_; have HB := n7_; clear n0_ n1_ n2_ n3_ n4_ n5_ n6_ n7_; obtain ⟨hcz42_0, hcz42_1, hfz42_0, hfz42_1⟩ := gz2 BK576; obtain ⟨hcz43_0, hcz43_1, hfz43_0, hfz43_1⟩ := gz2 BK568) | ((with_reducible refine gate_callee (f := 14) rfl ?_); refine goesL_ (some 31) rfl rfl Try.func14 (by kernel_rfl) rfl #[.agg #[.slice Ao36 t569.length co36, .slice Ao40 t572.length co40], .agg #[.slice Ao28 t561.length co28, .slice Ao31 t564.length co31]] rfl (by (try simp only [List.map_toArray, List.map_cons, List.map_nil]); first | done | rfl | (simp only [List.length_drop, List.length_take]; rfl)) ?_; (with_reducible refine (layout_Reshape.calls kj1 (fun k_ => (k_ ≠ gb557 ∧ (k_ ≠ gb568 ∧ k_ ≠ gb576))) _ _ t569 (fun k_ => (k_ ≠ gb557 ∧ (k_ ≠ gb568 ∧ k_ ≠ gb576))) _ _ t572 (fun k_ => (k_ ≠ gb557 ∧ (k_ ≠ gb568 ∧ k_ ≠ gb576))) _ _ t561 (fun k_ => (k_ ≠ gb557 ∧ (k_ ≠ gb568 ∧ k_ ≠ gb576))) _ _ t564 t577 t580 t583 _ ?side1 ?side2 ?side3 ?side4 A18.out).mono ?_); (case side1 => exact HO571.out); (case side2 => exact HO574.out); (case side3 => exact HO563.out); (case side4 => exact HO566.out); rintro e w44 ⟨v578, v581, rfl, ho0, ho1, hb⟩; refine ⟨_, rfl, ?_⟩; replace HO563 := gA (Kd.V_mono (Kd.V_told (Kd.V_told (Kd.V_old (gV HO563) hb) (Kd.R_base ho0)) (by first | exact Kd.N_base ho1 | exact Kd.R_base ho1)) (fun _ h_ => h_.1)); replace HO566 := gA (Kd.V_mono (Kd.V_told (Kd.V_told (Kd.V_old (gV HO566) hb) (Kd.R_base ho0)) (by first | exact Kd.N_base ho1 | exact Kd.R_base ho1)) (fun _ h_ => h_.1)); replace HO571 := gA (Kd.V_mono (Kd.V_told (Kd.V_told (Kd.V_old (gV HO571) hb) (Kd.R_base ho0)) (by first | exact Kd.N_base ho1 | exact Kd.R_base ho1)) (fun _ h_ => h_.1)); replace HO574 := gA (Kd.V_mono (Kd.V_told (Kd.V_told (Kd.V_old (gV HO574) hb) (Kd.R_base ho0)) (by first | exact Kd.N_base ho1 | exact Kd.R_base ho1)) (fun _ h_ => h_.1)); have HO579 := gA (Kd.R_lower (Kd.R_mono (ok' := fun k_ => True) ho0 (fun _ hk_ => trivial)) (below_size (by repeat first | exact gB HB | refine below_set ?_ GE557.out | refine below_set ?_ GE568.out | refine below_set ?_ GE576.out))); have HO582 := gA (Kd.N_lower (Kd.N_mono (ok' := fun k_ => some k_ ≠ (v578 : Value).ownBlock ∧ k_ ≠ gb557 ∧ k_ ≠ gb568 ∧ k_ ≠ gb576) ho1 (fun k_ hk_ => ⟨hk_.2, Or.elim hk_.1 (fun hs_ => Or.elim hs_ (fun hs_ => hs_.1) (fun hs_ => Or.elim hs_ (fun hs_ => hs_.1) (fun hs_ => Or.elim hs_ (fun hs_ => hs_.1) (fun hs_ => hs_.1)))) (fun hn_ => (Kd.freshB (gK BK557) k_ hn_)), Or.elim hk_.1 (fun hs_ => Or.elim hs_ (fun hs_ => hs_.2.1) (fun hs_ => Or.elim hs_ (fun hs_ => hs_.2.1) (fun hs_ => Or.elim hs_ (fun hs_ => hs_.2.1) (fun hs_ => hs_.2.1)))) (fun hn_ => (Kd.freshB (gK BK568) k_ hn_)), Or.elim hk_.1 (fun hs_ => Or.elim hs_ (fun hs_ => hs_.2.2) (fun hs_ => Or.elim hs_ (fun hs_ => hs_.2.2) (fun hs_ => Or.elim hs_ (fun hs_ => hs_.2.2) (fun hs_ => hs_.2.2)))) (fun hn_ => (Kd.freshB (gK BK576) k_ hn_))⟩)) (below_size (by repeat first | exact gB HB | refine below_set ?_ GE557.out | refine below_set ?_ GE568.out | refine below_set ?_ GE576.out))); replace BK557 := gA (blk_below (gK BK557) hb); replace BK568 := gA (blk_below (gK BK568) hb); replace BK576 := gA (blk_below (gK BK576) hb); replace HB := gA (below_step (by repeat first | exact gB HB | refine below_set ?_ GE557.out | refine below_set ?_ GE568.out | refine below_set ?_ GE576.out) hb); (try clear hb); (try clear ho0); (try clear ho1)) | ((with_reducible refine gate_dst (N := 7) rfl ?_); refine box_event ?hg (N := 7) ?hd (cs := #[.slice none 0 0, .slice none 0 0]) (t := 25) ?hr ?_; (case hd => rfl); (case hg => rfl); (case hr => first | (go_simp; done) | (go_simp; rfl)); intro gb584 hg w45 hbox hb; replace HO563 := gA (Kd.V_below (Kd.V_elderB (gV HO563) gb584 (Nat.le_of_eq hg.symm)) hb); replace HO566 := gA (Kd.V_below (Kd.V_elderB (gV HO566) gb584 (Nat.le_of_eq hg.symm)) hb); replace HO571 := gA (Kd.V_below (Kd.V_elderB (gV HO571) gb584 (Nat.le_of_eq hg.symm)) hb); replace HO574 := gA (Kd.V_below (Kd.V_elderB (gV HO574) gb584 (Nat.le_of_eq hg.symm)) hb); replace HO579 := gA (Kd.R_below (gR HO579) hb); replace HO582 := gA (Kd.N_below (Kd.N_elderB (gN HO582) gb584 (Nat.le_of_eq hg.symm)) hb); have BK584 := gA (hbox); have GW584 := gA ((by rw [hg]; exact (below_size (by repeat first | exact gB HB | refine below_set ?_ GE557.out | refine below_set ?_ GE568.out | refine below_set ?_ GE576.out)) : w.heap.size ≤ gb584)); have GE584 := gA ((by rw [hg]; exact (below_size (by repeat first | exact gB HB | refine below_set ?_ GE557.out | refine below_set ?_ GE568.out | refine below_set ?_ GE576.out)) : w.heap.size ≤ gb584)); replace HB := gA (below_step (by repeat first | exact gB HB | refine below_set ?_ GE557.out | refine below_set ?_ GE568.out | refine below_set ?_ GE576.out) hb); have NB557_584 := gA ((by rw [hg]; exact Nat.ne_of_lt (blk_lt (gK BK557)) : gb557 ≠ gb584)); have NB584_557 := gA ((by rw [hg]; exact Nat.ne_of_gt (blk_lt (gK BK557)) : gb584 ≠ gb557)); replace BK557 := gA (blk_below (gK BK557) hb); have NB568_584 := gA ((by rw [hg]; exact Nat.ne_of_lt (blk_lt (gK BK568)) : gb568 ≠ gb584)); have NB584_568 := gA ((by rw [hg]; exact Nat.ne_of_gt (blk_lt (gK BK568)) : gb584 ≠ gb568)); replace BK568 := gA (blk_below (gK BK568) hb); have NB576_584 := gA ((by rw [hg]; exact Nat.ne_of_lt (blk_lt (gK BK576)) : gb576 ≠ gb584)); have NB584_576 := gA ((by rw [hg]; exact Nat.ne_of_gt (blk_lt (gK BK576)) : gb584 ≠ gb576)); replace BK576 := gA (blk_below (gK BK576) hb); clear hb hbox hg; obtain ⟨Ao46, co46, eo46⟩ := Kd.R_slice HO579.out; subst eo46; have hnb47 := NB584_557.out; have hnc47 := NB557_584.out; have hnb48 := NB584_568.out; have hnc48 := NB568_584.out; have hnb49 := NB584_576.out; have hnc49 := NB576_584.out; obtain ⟨hcz50_0, hcz50_1, hfz50_0, hfz50_1⟩ := gz2 BK584; obtain ⟨Ao51, co51, eo51⟩ := Kd.N_slice HO582.out; subst eo51; obtain ⟨hcz52_0, hcz52_1, hfz52_0, hfz52_1⟩ := gz2 BK557) | (go_at_call 13; (with_reducible refine (triglyphref03_Same.calls kj1 _ _ l0_0 _ _ l0_1 _ _ t577 _ _ t580 true _ ?side1 ?side2 ?side3 ?side4 ?side5 ?side6 ?side7 ?side8 A22.out).mono ?_); (case side1 => exact Kd.C_below HR0_0.out (by repeat first | exact gB HB | refine below_set ?_ GE557.out | refine below_set ?_ GE568.out | refine below_set ?_ GE576.out | refine below_set ?_ GE584.out)); (case side2 => exact HC0_0.out); (case side3 => exact Kd.C_below HR0_1.out (by repeat first | exact gB HB | refine below_set ?_ GE557.out | refine below_set ?_ GE568.out | refine below_set ?_ GE576.out | refine below_set ?_ GE584.out)); (case side4 => exact HC0_1.out); (case side5 => refine (Kd.R_reads' (e := 3) (base := w.heap.size) (ok := fun k_ => True) (n := t577.length) (c := co46) ?_).2.2; exact (by (with_reducible repeat (first | apply Kd.R_alloc | apply Kd.R_drewN | apply Kd.R_drew)); exact (Kd.R_mono (Kd.R_far (p := ⟨gb584, 1, none⟩) (Kd.R_far (p := ⟨gb584, 0, none⟩) (Kd.R_types HO579.out BK584.out (by decide)) (fun _ hk => hk.2) (.slice Ao46 t577.length co46)) (fun _ hk => hk.2) (.slice Ao51 t580.length co51)) (fun _ h_ => h_.1)))); (case side6 => exact (Kd.R_reads' HO579.out).2.1); (case side7 => refine (Kd.N_reads' (e := 39) (base := w.heap.size) (ok := fun k_ => ((some k_ ≠ (.slice Ao46 t577.length co46 : Value).ownBlock ∧ (k_ ≠ gb557 ∧ (k_ ≠ gb568 ∧ k_ ≠ gb576))) ∧ k_ ≠ gb584)) (n := t580.length) (c := co51) ?_).2.2; exact (by (with_reducible repeat (first | apply Kd.N_alloc | apply Kd.N_drewN | apply Kd.N_drew)); exact (Kd.N_mono (Kd.N_far (p := ⟨gb584, 1, none⟩) (Kd.N_far (p := ⟨gb584, 0, none⟩) (Kd.N_mono HO582.out (fun k_ hk => (⟨hk, hk.2⟩ : _ ∧ k_ ≠ gb584))) (fun _ hk => hk.2) (.slice Ao46 t577.length co46)) (fun _ hk => hk.2) (.slice Ao51 t580.length co51)) (fun _ h_ => h_.1)))); (case side8 => exact (Kd.N_reads' HO582.out).2.1); rintro e w53 ⟨rfl, hb⟩; replace HO563 := gA (Kd.V_below (by (with_reducible repeat (first | apply Kd.V_alloc | apply Kd.V_drewN | apply Kd.V_drew)); exact (Kd.V_mono (Kd.V_far (p := ⟨gb584, 1, none⟩) (Kd.V_far (p := ⟨gb584, 0, none⟩) (Kd.V_mono HO563.out (fun k_ hk => (⟨hk, hk.2⟩ : _ ∧ k_ ≠ gb584))) (fun _ hk => hk.2) (.slice Ao46 t577.length co46)) (fun _ hk => hk.2) (.slice Ao51 t580.length co51)) (fun _ h_ => h_.1))) hb); replace HO566 := gA (Kd.V_below (by (with_reducible repeat (first | apply Kd.V_alloc | apply Kd.V_drewN | apply Kd.V_drew)); exact (Kd.V_mono (Kd.V_far (p := ⟨gb584, 1, none⟩) (Kd.V_far (p := ⟨gb584, 0, none⟩) (Kd.V_mono HO566.out (fun k_ hk => (⟨hk, hk.2⟩ : _ ∧ k_ ≠ gb584))) (fun _ hk => hk.2) (.slice Ao46 t577.length co46)) (fun _ hk => hk.2) (.slice Ao51 t580.length co51)) (fun _ h_ => h_.1))) hb); replace HO571 := gA (Kd.V_below (by (with_reducible repeat (first | apply Kd.V_alloc | apply Kd.V_drewN | apply Kd.V_drew)); exact (Kd.V_mono (Kd.V_far (p := ⟨gb584, 1, none⟩) (Kd.V_far (p := ⟨gb584, 0, none⟩) (Kd.V_mono HO571.out (fun k_ hk => (⟨hk, hk.2⟩ : _ ∧ k_ ≠ gb584))) (fun _ hk => hk.2) (.slice Ao46 t577.length co46)) (fun _ hk => hk.2) (.slice Ao51 t580.length co51)) (fun _ h_ => h_.1))) hb); replace HO574 := gA (Kd.V_below (by (with_reducible repeat (first | apply Kd.V_alloc | apply Kd.V_drewN | apply Kd.V_drew)); exact (Kd.V_mono (Kd.V_far (p := ⟨gb584, 1, none⟩) (Kd.V_far (p := ⟨gb584, 0, none⟩) (Kd.V_mono HO574.out (fun k_ hk => (⟨hk, hk.2⟩ : _ ∧ k_ ≠ gb584))) (fun _ hk => hk.2) (.slice Ao46 t577.length co46)) (fun _ hk => hk.2) (.slice Ao51 t580.length co51)) (fun _ h_ => h_.1))) hb); replace HO579 := gA (Kd.R_below (by (with_reducible repeat (first | apply Kd.R_alloc | apply Kd.R_drewN | apply Kd.R_drew)); exact (Kd.R_mono (Kd.R_far (p := ⟨gb584, 1, none⟩) (Kd.R_far (p := ⟨gb584, 0, none⟩) (Kd.R_types HO579.out BK584.out (by decide)) (fun _ hk => hk.2) (.slice Ao46 t577.length co46)) (fun _ hk => hk.2) (.slice Ao51 t580.length co51)) (fun _ h_ => h_.1))) hb); replace HO582 := gA (Kd.N_below (by (with_reducible repeat (first | apply Kd.N_alloc | apply Kd.N_drewN | apply Kd.N_drew)); exact (Kd.N_mono (Kd.N_far (p := ⟨gb584, 1, none⟩) (Kd.N_far (p := ⟨gb584, 0, none⟩) (Kd.N_mono HO582.out (fun k_ hk => (⟨hk, hk.2⟩ : _ ∧ k_ ≠ gb584))) (fun _ hk => hk.2) (.slice Ao46 t577.length co46)) (fun _ hk => hk.2) (.slice Ao51 t580.length co51)) (fun _ h_ => h_.1))) hb); replace BK557 := gA (blk_below (g := gb557) (o := .cells #[.slice A0_0 l0_0.length c0_0, .slice A0_1 l0_1.length c0_1] 25 (0, 0)) (by refine blk_far ?_ NB557_584.out _; refine blk_far ?_ NB557_584.out _; exact gK BK557) hb); replace BK568 := gA (blk_below (g := gb568) (o := .cells #[.slice Ao28 t561.length co28, .slice Ao31 t564.length co31] 25 (0, 0)) (by refine blk_far ?_ NB568_584.out _; refine blk_far ?_ NB568_584.out _; exact gK BK568) hb); replace BK576 := gA (blk_below (g := gb576) (o := .cells #[.slice Ao36 t569.length co36, .slice Ao40 t572.length co40] 25 (0, 0)) (by refine blk_far ?_ NB576_584.out _; refine blk_far ?_ NB576_584.out _; exact gK BK576) hb); replace BK584 := gA (blk_below (g := gb584) (o := .cells #[.slice Ao46 t577.length co46, .slice Ao51 t580.length co51] 25 (0, 0)) (by refine blk_put (cs := #[.slice Ao46 t577.length co46, .slice none 0 0]) ?_ 1 _ rfl; refine blk_put (cs := #[.slice none 0 0, .slice none 0 0]) ?_ 0 _ rfl; exact gK BK584) hb); replace HB := gA (below_step (by repeat first | exact gB HB | refine below_set ?_ GE557.out | refine below_set ?_ GE568.out | refine below_set ?_ GE576.out | refine below_set ?_ GE584.out) hb); (try clear hb); (try clear hk)) | (go_at_call 10; (with_reducible refine (triglyphlaw05_works.calls kj1  t586 _ A24.out).mono ?_); rintro e w54 ⟨rfl, hb⟩; replace HO563 := gA (Kd.V_below (gV HO563) hb); replace HO566 := gA (Kd.V_below (gV HO566) hb); replace HO571 := gA (Kd.V_below (gV HO571) hb); replace HO574 := gA (Kd.V_below (gV HO574) hb); replace HO579 := gA (Kd.R_below (gR HO579) hb); replace HO582 := gA (Kd.N_below (gN HO582) hb); replace BK557 := gA (blk_below (gK BK557) hb); replace BK568 := gA (blk_below (gK BK568) hb); replace BK576 := gA (blk_below (gK BK576) hb); replace BK584 := gA (blk_below (gK BK584) hb); replace HB := gA (below_step (by repeat first | exact gB HB | refine below_set ?_ GE557.out | refine below_set ?_ GE568.out | refine below_set ?_ GE576.out | refine below_set ?_ GE584.out) hb); (try clear hb); (try clear hk)))
     go_ret
     exact ⟨rfl, by repeat first | exact gB HB | refine below_set ?_ GE557.out | refine below_set ?_ GE568.out | refine below_set ?_ GE576.out | refine below_set ?_ GE584.out⟩
    ·replace c23 := Bool.eq_false_iff.mpr c23
     subst c23
     have H1 : (none) = some r := by rw [if_neg (show ¬ (false = true) by decide)] at H; exact H
     clear H; have H := H1; clear H1
     exact absurd H (by simp)
end Go.Proofs.Ytiegcghapchimaa.P
