/- Written by a program of this session: the functions that the laws reach, what each comes to, and each law as it is stated, for every input. No condition. -/
import Derived.Test.YtemlommdfmeabaaPx0
import Derived.Test.YtemlommdfmeabaaPx3
import Derived.Test.YtemlommdfmeabaaPx4
namespace Go.Proofs.Ytemlommdfmeabaa.P
open Go.RowKit Go.Proofs.YtemlommdfmeabaaW.PrintWords Go.Proofs.YtemlommdfmeabaaW.PrintLast Go.Proofs.YtemlommdfmeabaaW.PrintMore
attribute [local go_sem] max2_int min2_int max_two min_two max_three min_three max_four min_four   -- for this text's walks alone
set_option linter.unusedVariables false
set_option linter.unusedSimpArgs false
mutual
def atomic_Cell.j0 : Nat → Int → Bool → Int → Int → List (S25) → Int → Int → List (S25) → Option (Int × Int × (List (S25)) × Int)
 | 0, _, _, _, _, _, _, _, _ => none
 | k + 1, x0, x8, x164000, x164001, x164002, x165000, x165001, x165002 => (atomic_Is.f x0).bind fun t166 => (if t166 = true then (if x8 = true then (if x164000 = 2 then (atomic_Cell.j1 k x0 x8 true x164000 x164001 x164002 x165000 x165001 x165002) else (atomic_Cell.j1 k x0 x8 (x165000 == 2) x164000 x164001 x164002 x165000 x165001 x165002)) else (atomic_Cell.j1 k x0 x8 false x164000 x164001 x164002 x165000 x165001 x165002)) else (some (0, 0, ([] : List (S25)), 1)))
def atomic_Cell.j1 : Nat → Int → Bool → Bool → Int → Int → List (S25) → Int → Int → List (S25) → Option (Int × Int × (List (S25)) × Int)
 | 0, _, _, _, _, _, _, _, _, _ => none
 | k + 1, x0, x8, x22, x164000, x164001, x164002, x165000, x165001, x165002 => if x22 = true then (some (0, 0, ([] : List (S25)), 5)) else (if x8 = true then (atomic_Cell.j2 k x0 x8 (x164000 != x165000) x164000 x164001 x164002 x165000 x165001 x165002) else (atomic_Cell.j2 k x0 x8 false x164000 x164001 x164002 x165000 x165001 x165002))
def atomic_Cell.j2 : Nat → Int → Bool → Bool → Int → Int → List (S25) → Int → Int → List (S25) → Option (Int × Int × (List (S25)) × Int)
 | 0, _, _, _, _, _, _, _, _, _ => none
 | k + 1, x0, x8, x35, x164000, x164001, x164002, x165000, x165001, x165002 => if x35 = true then ((atomic_truth.f (x0 == 28)).bind fun t167 => (some (0, t167, ([] : List (S25)), 0))) else (if x8 = true then (atomic_Cell.j3 k x0 false x164000 x164001 x164002 x165000 x165001 x165002) else (if x164000 = 0 then (atomic_Cell.j3 k x0 (x165000 != 0) x164000 x164001 x164002 x165000 x165001 x165002) else (atomic_Cell.j3 k x0 true x164000 x164001 x164002 x165000 x165001 x165002)))
def atomic_Cell.j3 : Nat → Int → Bool → Int → Int → List (S25) → Int → Int → List (S25) → Option (Int × Int × (List (S25)) × Int)
 | 0, _, _, _, _, _, _, _, _ => none
 | k + 1, x0, x48, x164000, x164001, x164002, x165000, x165001, x165002 => if x48 = true then (some (0, 0, ([] : List (S25)), 5)) else (if x0 ≥ 27 then ((atomic_held.f x0 x164001 x165001).bind fun t168 => (some (0, t168, ([] : List (S25)), 0))) else ((atomic_reckon.f k x0 x164001 x165001).bind fun bt169 => (some (0, bt169.1, ([] : List (S25)), bt169.2))))
end
def atomic_Cell.f (k : Nat) (a0 : Int) (a1_0 : Int) (a1_1 : Int) (l1_2 : List (S25)) (a2_0 : Int) (a2_1 : Int) (l2_2 : List (S25)) : Option (Int × Int × (List (S25)) × Int) := if a0 = 27 then (atomic_Cell.j0 k a0 true a1_0 a1_1 l1_2 a2_0 a2_1 l2_2) else (atomic_Cell.j0 k a0 (a0 == 28) a1_0 a1_1 l1_2 a2_0 a2_1 l2_2)
theorem atomic_Cell.mono_l : ∀ k, (∀ y0 y1 y2 y3 y4 y5 y6 y7, LeO (atomic_Cell.j0 k y0 y1 y2 y3 y4 y5 y6 y7) (atomic_Cell.j0 (k + 1) y0 y1 y2 y3 y4 y5 y6 y7)) ∧ (∀ y0 y1 y2 y3 y4 y5 y6 y7 y8, LeO (atomic_Cell.j1 k y0 y1 y2 y3 y4 y5 y6 y7 y8) (atomic_Cell.j1 (k + 1) y0 y1 y2 y3 y4 y5 y6 y7 y8)) ∧ (∀ y0 y1 y2 y3 y4 y5 y6 y7 y8, LeO (atomic_Cell.j2 k y0 y1 y2 y3 y4 y5 y6 y7 y8) (atomic_Cell.j2 (k + 1) y0 y1 y2 y3 y4 y5 y6 y7 y8)) ∧ (∀ y0 y1 y2 y3 y4 y5 y6 y7, LeO (atomic_Cell.j3 k y0 y1 y2 y3 y4 y5 y6 y7) (atomic_Cell.j3 (k + 1) y0 y1 y2 y3 y4 y5 y6 y7))
 | 0 => ⟨fun _ _ _ _ _ _ _ _ r h => by simp [atomic_Cell.j0] at h, fun _ _ _ _ _ _ _ _ _ r h => by simp [atomic_Cell.j1] at h, fun _ _ _ _ _ _ _ _ _ r h => by simp [atomic_Cell.j2] at h, fun _ _ _ _ _ _ _ _ r h => by simp [atomic_Cell.j3] at h⟩
 | k + 1 => by
  obtain ⟨ih0, ih1, ih2, ih3⟩ := atomic_Cell.mono_l k
  refine ⟨?_, ?_, ?_, ?_⟩
  ·intro y0 y1 y2 y3 y4 y5 y6 y7
   unfold atomic_Cell.j0
   repeat' first
   | (with_reducible exact ih0 _ _ _ _ _ _ _ _)
   | (with_reducible exact ih1 _ _ _ _ _ _ _ _ _)
   | (with_reducible exact ih2 _ _ _ _ _ _ _ _ _)
   | (with_reducible exact ih3 _ _ _ _ _ _ _ _)
   | (with_reducible exact atomic_reckon.mono _ _ _ _)
   | (with_reducible exact LeO.refl _)
   | (with_reducible exact LeO.none _)
   | (with_reducible refine LeO.ite ?_ ?_)
   | (with_reducible refine LeO.bind ?_ (fun _ => ?_))




   | exact atomic_reckon.mono _ _ _ _



  ·intro y0 y1 y2 y3 y4 y5 y6 y7 y8
   unfold atomic_Cell.j1
   repeat' first
   | (with_reducible exact ih0 _ _ _ _ _ _ _ _)
   | (with_reducible exact ih1 _ _ _ _ _ _ _ _ _)
   | (with_reducible exact ih2 _ _ _ _ _ _ _ _ _)
   | (with_reducible exact ih3 _ _ _ _ _ _ _ _)
   | (with_reducible exact atomic_reckon.mono _ _ _ _)
   | (with_reducible exact LeO.refl _)
   | (with_reducible exact LeO.none _)
   | (with_reducible refine LeO.ite ?_ ?_)
   | (with_reducible refine LeO.bind ?_ (fun _ => ?_))




   | exact atomic_reckon.mono _ _ _ _



  ·intro y0 y1 y2 y3 y4 y5 y6 y7 y8
   unfold atomic_Cell.j2
   repeat' first
   | (with_reducible exact ih0 _ _ _ _ _ _ _ _)
   | (with_reducible exact ih1 _ _ _ _ _ _ _ _ _)
   | (with_reducible exact ih2 _ _ _ _ _ _ _ _ _)
   | (with_reducible exact ih3 _ _ _ _ _ _ _ _)
   | (with_reducible exact atomic_reckon.mono _ _ _ _)
   | (with_reducible exact LeO.refl _)
   | (with_reducible exact LeO.none _)
   | (with_reducible refine LeO.ite ?_ ?_)
   | (with_reducible refine LeO.bind ?_ (fun _ => ?_))




   | exact atomic_reckon.mono _ _ _ _



  ·intro y0 y1 y2 y3 y4 y5 y6 y7
   unfold atomic_Cell.j3
   repeat' first
   | (with_reducible exact ih0 _ _ _ _ _ _ _ _)
   | (with_reducible exact ih1 _ _ _ _ _ _ _ _ _)
   | (with_reducible exact ih2 _ _ _ _ _ _ _ _ _)
   | (with_reducible exact ih3 _ _ _ _ _ _ _ _)
   | (with_reducible exact atomic_reckon.mono _ _ _ _)
   | (with_reducible exact LeO.refl _)
   | (with_reducible exact LeO.none _)
   | (with_reducible refine LeO.ite ?_ ?_)
   | (with_reducible refine LeO.bind ?_ (fun _ => ?_))




   | exact atomic_reckon.mono _ _ _ _
theorem atomic_Cell.mono : ∀ a0 a1 a2 a3 a4 a5 a6 k, LeO (atomic_Cell.f k a0 a1 a2 a3 a4 a5 a6) (atomic_Cell.f (k + 1) a0 a1 a2 a3 a4 a5 a6) := by
 intro a0 a1 a2 a3 a4 a5 a6 k
 obtain ⟨ih0, ih1, ih2, ih3⟩ := atomic_Cell.mono_l k
 unfold atomic_Cell.f
 repeat' first
   | (with_reducible exact ih0 _ _ _ _ _ _ _ _)
   | (with_reducible exact ih1 _ _ _ _ _ _ _ _ _)
   | (with_reducible exact ih2 _ _ _ _ _ _ _ _ _)
   | (with_reducible exact ih3 _ _ _ _ _ _ _ _)
   | (with_reducible exact atomic_reckon.mono _ _ _ _)
   | (with_reducible exact LeO.refl _)
   | (with_reducible exact LeO.none _)
   | (with_reducible refine LeO.ite ?_ ?_)
   | (with_reducible refine LeO.bind ?_ (fun _ => ?_))




   | exact atomic_reckon.mono _ _ _ _
set_option maxHeartbeats 8000000 in
set_option maxRecDepth 100000 in
theorem atomic_Cell.calls (k : Nat) (a0 : Int) (a1_0 : Int) (a1_1 : Int) (A1_2 : Option Addr) (c1_2 : Nat) (l1_2 : List (S25)) (a2_0 : Int) (a2_1 : Int) (A2_2 : Option Addr) (c2_2 : Nat) (l2_2 : List (S25)) (r1 : Int) (r2 : Int) (r3 : List (S25)) (r4 : Int) (w : World) (hr1_2 : Kd.C k25 w A1_2 l1_2.length l1_2) (hc1_2 : l1_2.length ≤ c1_2) (hr2_2 : Kd.C k25 w A2_2 l2_2.length l2_2) (hc2_2 : l2_2.length ≤ c2_2) (h : atomic_Cell.f k a0 a1_0 a1_1 l1_2 a2_0 a2_1 l2_2 = some (r1, r2, r3, r4)) :
  Calls Try.prog 14 #[.int .i64 a0, .agg #[.int .i64 a1_0, .int .i64 a1_1, .slice A1_2 l1_2.length c1_2], .agg #[.int .i64 a2_0, .int .i64 a2_1, .slice A2_2 l2_2.length c2_2]] w fun e w' => ∃ v2_ : Value, e = .returned (.tuple #[.agg #[.int .i64 r1, .int .i64 r2, v2_], .int .i64 r4]) ∧ Kd.R k25 25 w' w.heap.size (fun _ => True) v2_ r3 ∧ Below w.heap.size w w' := by
 have hu35 := Try.underlying35
 have HR1_2 := gA hr1_2
 have HC1_2 := gA hc1_2
 clear hr1_2 hc1_2
 have HR2_2 := gA hr2_2
 have HC2_2 := gA hc2_2
 clear hr2_2 hc2_2
 have HB := gA (Below.refl w.heap.size w)
 have H : (if a0 = 27 then (atomic_Cell.j0 k a0 true a1_0 a1_1 l1_2 a2_0 a2_1 l2_2) else (atomic_Cell.j0 k a0 (a0 == 28) a1_0 a1_1 l1_2 a2_0 a2_1 l2_2)) = some (r1, r2, r3, r4) := h
 clear h
 have HC4 := gA H
 clear H
 go_enter Try.func14, Try.ntmps14
 go_upto_region 1 with (first | ((with_reducible refine gate_dst (N := 4) rfl ?_); refine box_event ?hg (N := 4) ?hd (cs := #[.int .i64 a1_0, .int .i64 a1_1, .slice A1_2 l1_2.length c1_2]) (t := 35) ?hr ?_; (case hd => rfl); (case hg => rfl); (case hr => first | (go_simp; done) | (go_simp; rfl)); intro gb163 hg w5 hbox hb; have BK163 := gA (hbox); have GW163 := gA ((by rw [hg]; exact (below_size (gB HB)) : w.heap.size ≤ gb163)); have GE163 := gA ((by rw [hg]; exact (below_size (gB HB)) : w.heap.size ≤ gb163)); replace HB := gA (below_step (gB HB) hb); clear hb hbox hg) | ((with_reducible refine gate_dst (N := 5) rfl ?_); refine box_event ?hg (N := 5) ?hd (cs := #[.int .i64 a2_0, .int .i64 a2_1, .slice A2_2 l2_2.length c2_2]) (t := 35) ?hr ?_; (case hd => rfl); (case hg => rfl); (case hr => first | (go_simp; done) | (go_simp; rfl)); intro gb164 hg w6 hbox hb; have BK164 := gA (hbox); have GW164 := gA ((by rw [hg]; exact (below_size (gB HB)) : w.heap.size ≤ gb164)); have GE164 := gA ((by rw [hg]; exact (below_size (gB HB)) : w.heap.size ≤ gb164)); replace HB := gA (below_step (gB HB) hb); have NB163_164 := gA ((by rw [hg]; exact Nat.ne_of_lt (blk_lt (gK BK163)) : gb163 ≠ gb164)); have NB164_163 := gA ((by rw [hg]; exact Nat.ne_of_gt (blk_lt (gK BK163)) : gb164 ≠ gb163)); replace BK163 := gA (blk_below (gK BK163) hb); clear hb hbox hg) | ((with_reducible refine gate_dst (N := 6) rfl ?_); refine box_event ?hg (N := 6) ?hd (cs := #[.int .i64 0, .int .i64 0, .slice none 0 0]) (t := 35) ?hr ?_; (case hd => rfl); (case hg => rfl); (case hr => first | (go_simp; done) | (go_simp; rfl)); intro gb165 hg w7 hbox hb; have BK165 := gA (hbox); have GW165 := gA ((by rw [hg]; exact (below_size (gB HB)) : w.heap.size ≤ gb165)); have GE165 := gA ((by rw [hg]; exact (below_size (gB HB)) : w.heap.size ≤ gb165)); replace HB := gA (below_step (gB HB) hb); have NB163_165 := gA ((by rw [hg]; exact Nat.ne_of_lt (blk_lt (gK BK163)) : gb163 ≠ gb165)); have NB165_163 := gA ((by rw [hg]; exact Nat.ne_of_gt (blk_lt (gK BK163)) : gb165 ≠ gb163)); replace BK163 := gA (blk_below (gK BK163) hb); have NB164_165 := gA ((by rw [hg]; exact Nat.ne_of_lt (blk_lt (gK BK164)) : gb164 ≠ gb165)); have NB165_164 := gA ((by rw [hg]; exact Nat.ne_of_gt (blk_lt (gK BK164)) : gb165 ≠ gb164)); replace BK164 := gA (blk_below (gK BK164) hb); clear hb hbox hg))
 (try simp only [Act.put, List.setIfInBounds_toArray, List.set_cons_zero, List.set_cons_succ])
 go_cut [8] (fun v8 wc => ∃ (kq : Nat) (x8_3 : Bool), v8 = .bool x8_3 ∧ Aside0 (atomic_Cell.j0 kq a0 x8_3 a1_0 a1_1 l1_2 a2_0 a2_1 l2_2 = some (r1, r2, r3, r4)) ∧ Aside0 (kq ≤ k) ∧ Aside0 (wc.heap[gb163]? = some (.cells #[.int .i64 a1_0, .int .i64 a1_1, (.slice A1_2 l1_2.length c1_2)] 35 (0, 0))) ∧ Aside0 (wc.heap[gb164]? = some (.cells #[.int .i64 a2_0, .int .i64 a2_1, (.slice A2_2 l2_2.length c2_2)] 35 (0, 0))) ∧ Aside0 (wc.heap[gb165]? = some (.cells #[.int .i64 0, .int .i64 0, (.slice none 0 0)] 35 (0, 0))) ∧ Aside0 (Below w.heap.size w wc))
 case first =>
  have H := HC4.out; clear HC4
  by_cases c8 : a0 = 27
  ·rw [if_pos c8] at H
   have c8b0 : (a0 == 27) = true := beq_iff_eq.mpr c8
   have c8b1 : (a0 != 27) = false := bne_eq_false_iff_eq.mpr c8
   clear c8
   (first | rw [c8b0] | rw [c8b1] | (simp only [i64_w, i32_w]; rw [c8b0]) | skip)
   have H' := gA H
   clear H
   go_wp2
   all_goals (go_meet; (case rel => exact ⟨_, (true), (by first | rfl | (simp; done) | (simp [*]; done) | (exfalso; simp_all; done) | (exfalso; simp_all; omega)), H', ⟨by first | omega | exact Nat.le_refl _⟩, ⟨gK BK163⟩, ⟨gK BK164⟩, ⟨gK BK165⟩, ⟨gB HB⟩⟩))
  ·rw [if_neg c8] at H
   have c8b0 : (a0 == 27) = false := beq_eq_false_iff_ne.mpr c8
   have c8b1 : (a0 != 27) = true := bne_iff_ne.mpr c8
   (first | rw [c8b0] | rw [c8b1] | (simp only [i64_w, i32_w]; rw [c8b0]) | skip)
   have H' := gA H
   clear H
   go_wp2
   all_goals (go_meet; (case rel => exact ⟨_, ((a0 == 28)), (by first | rfl | (simp; done) | (simp [*]; done) | (exfalso; simp_all; done) | (exfalso; simp_all; omega)), H', ⟨by first | omega | exact Nat.le_refl _⟩, ⟨gK BK163⟩, ⟨gK BK164⟩, ⟨gK BK165⟩, ⟨gB HB⟩⟩))
 case rest =>
  clear HC4
  try clear c1
  try clear c2
  try clear p2
  try clear c8
  try clear c8b0
  try clear c8b1
  obtain ⟨kq, x8_3, rfl, HA, HJ3, BK163, BK164, BK165, HB⟩ := hcut
  cases kq with
  | zero => exact absurd HA.out (by simp [atomic_Cell.j0])
  | succ kj3 =>
   have H := HA.out; clear HA
   simp only [atomic_Cell.j0] at H
   replace H := Option.bind_eq_some_iff.mp H
   obtain ⟨t166, A90, H⟩ := H
   replace H : (if t166 = true then (if x8_3 = true then (if a1_0 = 2 then (atomic_Cell.j1 kj3 a0 x8_3 true a1_0 a1_1 l1_2 a2_0 a2_1 l2_2) else (atomic_Cell.j1 kj3 a0 x8_3 (a2_0 == 2) a1_0 a1_1 l1_2 a2_0 a2_1 l2_2)) else (atomic_Cell.j1 kj3 a0 x8_3 false a1_0 a1_1 l1_2 a2_0 a2_1 l2_2)) else (some (0, 0, ([] : List (S25)), 1))) = some (r1, r2, r3, r4) := H
   have A9 := gA A90
   clear A90
   by_cases c10 : t166 = true
   ·subst c10
    have H1 : (if x8_3 = true then (if a1_0 = 2 then (atomic_Cell.j1 kj3 a0 x8_3 true a1_0 a1_1 l1_2 a2_0 a2_1 l2_2) else (atomic_Cell.j1 kj3 a0 x8_3 (a2_0 == 2) a1_0 a1_1 l1_2 a2_0 a2_1 l2_2)) else (atomic_Cell.j1 kj3 a0 x8_3 false a1_0 a1_1 l1_2 a2_0 a2_1 l2_2)) = some (r1, r2, r3, r4) := by rw [if_pos rfl] at H; exact H
    clear H; have H := H1; clear H1
    have HC11 := gA H
    clear H
    go_upto_region 4 with (first | ((with_reducible refine gate_callee (f := 17) rfl ?_); refine goesL_ (some 19) rfl rfl Try.func17 (by kernel_rfl) rfl #[.int .i64 a0] rfl (by (try simp only [List.map_toArray, List.map_cons, List.map_nil]); first | done | rfl | (simp only [List.length_drop, List.length_take]; rfl)) ?_; (with_reducible refine (atomic_Is.calls a0 true _ A9.out).mono ?_); rintro e w' ⟨rfl, ⟨nd, rfl⟩⟩; refine ⟨_, rfl, ?_⟩))
    (try simp only [Act.put, List.setIfInBounds_toArray, List.set_cons_zero, List.set_cons_succ])
    go_cut [22] (fun v22 wc => ∃ (kq : Nat) (x22_10 : Bool), v22 = .bool x22_10 ∧ Aside0 (atomic_Cell.j1 kq a0 x8_3 x22_10 a1_0 a1_1 l1_2 a2_0 a2_1 l2_2 = some (r1, r2, r3, r4)) ∧ Aside0 (kq ≤ kj3) ∧ Aside0 (wc.heap[gb163]? = some (.cells #[.int .i64 a1_0, .int .i64 a1_1, (.slice A1_2 l1_2.length c1_2)] 35 (0, 0))) ∧ Aside0 (wc.heap[gb164]? = some (.cells #[.int .i64 a2_0, .int .i64 a2_1, (.slice A2_2 l2_2.length c2_2)] 35 (0, 0))) ∧ Aside0 (wc.heap[gb165]? = some (.cells #[.int .i64 0, .int .i64 0, (.slice none 0 0)] 35 (0, 0))) ∧ Aside0 (Below w.heap.size w wc))
    case first =>
     have H := HC11.out; clear HC11
     by_cases c12 : x8_3 = true
     ·subst c12
      have H1 : (if a1_0 = 2 then (atomic_Cell.j1 kj3 a0 true true a1_0 a1_1 l1_2 a2_0 a2_1 l2_2) else (atomic_Cell.j1 kj3 a0 true (a2_0 == 2) a1_0 a1_1 l1_2 a2_0 a2_1 l2_2)) = some (r1, r2, r3, r4) := by rw [if_pos rfl] at H; exact H
      clear H; have H := H1; clear H1
      by_cases c13 : a1_0 = 2
      ·rw [if_pos c13] at H
       have c13b0 : (a1_0 == 2) = true := beq_iff_eq.mpr c13
       have c13b1 : (a1_0 != 2) = false := bne_eq_false_iff_eq.mpr c13
       clear c13
       (first | rw [c13b0] | rw [c13b1] | (simp only [i64_w, i32_w]; rw [c13b0]) | skip)
       have H' := gA H
       clear H
       have hnb14 := NB163_164.out
       have hnc14 := NB164_163.out
       have hnb15 := NB163_165.out
       have hnc15 := NB165_163.out
       obtain ⟨hcz16_0, hcz16_1, hcz16_2, hfz16_0, hfz16_1, hfz16_2⟩ := gz3 BK163
       go_wp2
       all_goals (go_meet; (case rel => exact ⟨_, (true), (by first | rfl | (simp; done) | (simp [*]; done) | (exfalso; simp_all; done) | (exfalso; simp_all; omega)), H', ⟨by have := HJ3.out; first | omega | exact Nat.le_refl _⟩, ⟨gK BK163⟩, ⟨gK BK164⟩, ⟨gK BK165⟩, ⟨gB HB⟩⟩))
      ·rw [if_neg c13] at H
       have c13b0 : (a1_0 == 2) = false := beq_eq_false_iff_ne.mpr c13
       have c13b1 : (a1_0 != 2) = true := bne_iff_ne.mpr c13
       (first | rw [c13b0] | rw [c13b1] | (simp only [i64_w, i32_w]; rw [c13b0]) | skip)
       have H' := gA H
       clear H
       have hnb17 := NB163_164.out
       have hnc17 := NB164_163.out
       have hnb18 := NB163_165.out
       have hnc18 := NB165_163.out
       obtain ⟨hcz19_0, hcz19_1, hcz19_2, hfz19_0, hfz19_1, hfz19_2⟩ := gz3 BK163
       have hnb20 := NB164_165.out
       have hnc20 := NB165_164.out
       obtain ⟨hcz21_0, hcz21_1, hcz21_2, hfz21_0, hfz21_1, hfz21_2⟩ := gz3 BK164
       go_wp2
       all_goals (go_meet; (case rel => exact ⟨_, ((a2_0 == 2)), (by first | rfl | (simp; done) | (simp [*]; done) | (exfalso; simp_all; done) | (exfalso; simp_all; omega)), H', ⟨by have := HJ3.out; first | omega | exact Nat.le_refl _⟩, ⟨gK BK163⟩, ⟨gK BK164⟩, ⟨gK BK165⟩, ⟨gB HB⟩⟩))
     ·replace c12 := Bool.eq_false_iff.mpr c12
      subst c12
      have H1 : (atomic_Cell.j1 kj3 a0 false false a1_0 a1_1 l1_2 a2_0 a2_1 l2_2) = some (r1, r2, r3, r4) := by rw [if_neg (show ¬ (false = true) by decide)] at H; exact H
      clear H; have H := H1; clear H1
      have H' := gA H
      clear H
      go_wp2
      all_goals (go_meet; (case rel => exact ⟨_, (false), (by first | rfl | (simp; done) | (simp [*]; done) | (exfalso; simp_all; done) | (exfalso; simp_all; omega)), H', ⟨by have := HJ3.out; first | omega | exact Nat.le_refl _⟩, ⟨gK BK163⟩, ⟨gK BK164⟩, ⟨gK BK165⟩, ⟨gB HB⟩⟩))
    case rest =>
     clear HC11
     try clear c1
     try clear c2
     try clear p2
     try clear c8
     try clear c8b0
     try clear c8b1
     try clear c10
     try clear c12
     try clear c13
     try clear c13b0
     try clear c13b1
     try clear c14
     try clear c15
     try clear c17
     try clear c18
     try clear c20
     try clear hcz16_0
     try clear hcz16_1
     try clear hcz16_2
     try clear hcz19_0
     try clear hcz19_1
     try clear hcz19_2
     try clear hcz21_0
     try clear hcz21_1
     try clear hcz21_2
     try clear hfz16_0
     try clear hfz16_1
     try clear hfz16_2
     try clear hfz19_0
     try clear hfz19_1
     try clear hfz19_2
     try clear hfz21_0
     try clear hfz21_1
     try clear hfz21_2
     try clear p2
     obtain ⟨kq, x22_10, rfl, HA, HJ10, BK163, BK164, BK165, HB⟩ := hcut
     cases kq with
     | zero => exact absurd HA.out (by simp [atomic_Cell.j1])
     | succ kj10 =>
      have H := HA.out; clear HA
      simp only [atomic_Cell.j1] at H
      by_cases c22 : x22_10 = true
      ·subst c22
       have H1 : (some (0, 0, ([] : List (S25)), 5)) = some (r1, r2, r3, r4) := by rw [if_pos rfl] at H; exact H
       clear H; have H := H1; clear H1
       simp only [Option.some.injEq, Prod.mk.injEq] at H
       obtain ⟨rfl, rfl, rfl, rfl⟩ := H
       have hnb23 := NB165_163.out
       have hnc23 := NB163_165.out
       have hnb24 := NB165_164.out
       have hnc24 := NB164_165.out
       obtain ⟨hcz25_0, hcz25_1, hcz25_2, hfz25_0, hfz25_1, hfz25_2⟩ := gz3 BK165
       go_wp2
       refine bodyPost_ret (results_ct rfl _ _ gb165 35 #[.int .i64 0, .int .i64 0, .slice none 0 0] (0, 0) _ rfl (by refine blk_put (cs := #[.int .i64 0, .int .i64 0, .slice none 0 0]) ?_ 2 _ rfl; refine blk_put (cs := #[.int .i64 0, .int .i64 0, .slice none 0 0]) ?_ 1 _ rfl; refine blk_put (cs := #[.int .i64 0, .int .i64 0, .slice none 0 0]) ?_ 0 _ rfl; exact gK BK165) Try.underlying35 rfl (by kernel_rfl)) rfl ?_
       exact ⟨_, rfl, by first | exact Kd.R_nil _ _ _ _ _ | exact Kd.N_nil _ _ _ _ _ | exact Kd.V_nil _ _ _ _ _ | exact Kd.Q_nil _ _ _ _ _ | exact Kd.S_nil _ _ _ _ _, by repeat first | exact gB HB | refine below_set ?_ GE163.out | refine below_set ?_ GE164.out | refine below_set ?_ GE165.out⟩
      ·replace c22 := Bool.eq_false_iff.mpr c22
       subst c22
       have H1 : (if x8_3 = true then (atomic_Cell.j2 kj10 a0 x8_3 (a1_0 != a2_0) a1_0 a1_1 l1_2 a2_0 a2_1 l2_2) else (atomic_Cell.j2 kj10 a0 x8_3 false a1_0 a1_1 l1_2 a2_0 a2_1 l2_2)) = some (r1, r2, r3, r4) := by rw [if_neg (show ¬ (false = true) by decide)] at H; exact H
       clear H; have H := H1; clear H1
       have HC26 := gA H
       clear H
       go_upto_region 6 with (fail)
       go_cut [35] (fun v35 wc => ∃ (kq : Nat) (x35_25 : Bool), v35 = .bool x35_25 ∧ Aside0 (atomic_Cell.j2 kq a0 x8_3 x35_25 a1_0 a1_1 l1_2 a2_0 a2_1 l2_2 = some (r1, r2, r3, r4)) ∧ Aside0 (kq ≤ kj10) ∧ Aside0 (wc.heap[gb163]? = some (.cells #[.int .i64 a1_0, .int .i64 a1_1, (.slice A1_2 l1_2.length c1_2)] 35 (0, 0))) ∧ Aside0 (wc.heap[gb164]? = some (.cells #[.int .i64 a2_0, .int .i64 a2_1, (.slice A2_2 l2_2.length c2_2)] 35 (0, 0))) ∧ Aside0 (wc.heap[gb165]? = some (.cells #[.int .i64 0, .int .i64 0, (.slice none 0 0)] 35 (0, 0))) ∧ Aside0 (Below w.heap.size w wc))
       case first =>
        have H := HC26.out; clear HC26
        by_cases c27 : x8_3 = true
        ·subst c27
         have H1 : (atomic_Cell.j2 kj10 a0 true (a1_0 != a2_0) a1_0 a1_1 l1_2 a2_0 a2_1 l2_2) = some (r1, r2, r3, r4) := by rw [if_pos rfl] at H; exact H
         clear H; have H := H1; clear H1
         have H' := gA H
         clear H
         have hnb28 := NB163_164.out
         have hnc28 := NB164_163.out
         have hnb29 := NB163_165.out
         have hnc29 := NB165_163.out
         obtain ⟨hcz30_0, hcz30_1, hcz30_2, hfz30_0, hfz30_1, hfz30_2⟩ := gz3 BK163
         have hnb31 := NB164_165.out
         have hnc31 := NB165_164.out
         obtain ⟨hcz32_0, hcz32_1, hcz32_2, hfz32_0, hfz32_1, hfz32_2⟩ := gz3 BK164
         go_wp2
         all_goals (go_meet; (case rel => exact ⟨_, ((a1_0 != a2_0)), (by first | rfl | (simp; done) | (simp [*]; done) | (exfalso; simp_all; done) | (exfalso; simp_all; omega)), H', ⟨by have := HJ3.out; have := HJ10.out; first | omega | exact Nat.le_refl _⟩, ⟨gK BK163⟩, ⟨gK BK164⟩, ⟨gK BK165⟩, ⟨gB HB⟩⟩))
        ·replace c27 := Bool.eq_false_iff.mpr c27
         subst c27
         have H1 : (atomic_Cell.j2 kj10 a0 false false a1_0 a1_1 l1_2 a2_0 a2_1 l2_2) = some (r1, r2, r3, r4) := by rw [if_neg (show ¬ (false = true) by decide)] at H; exact H
         clear H; have H := H1; clear H1
         have H' := gA H
         clear H
         go_wp2
         all_goals (go_meet; (case rel => exact ⟨_, (false), (by first | rfl | (simp; done) | (simp [*]; done) | (exfalso; simp_all; done) | (exfalso; simp_all; omega)), H', ⟨by have := HJ3.out; have := HJ10.out; first | omega | exact Nat.le_refl _⟩, ⟨gK BK163⟩, ⟨gK BK164⟩, ⟨gK BK165⟩, ⟨gB HB⟩⟩))
       case rest =>
        clear HC26
        try clear c1
        try clear c2
        try clear p2
        try clear c3
        try clear c8
        try clear c8b0
        try clear c8b1
        try clear c10
        try clear c12
        try clear c13
        try clear c13b0
        try clear c13b1
        try clear c14
        try clear c15
        try clear c17
        try clear c18
        try clear c20
        try clear c22
        try clear c23
        try clear c24
        try clear c27
        try clear c28
        try clear c29
        try clear c31
        try clear hcz16_0
        try clear hcz16_1
        try clear hcz16_2
        try clear hcz19_0
        try clear hcz19_1
        try clear hcz19_2
        try clear hcz21_0
        try clear hcz21_1
        try clear hcz21_2
        try clear hcz25_0
        try clear hcz25_1
        try clear hcz25_2
        try clear hcz30_0
        try clear hcz30_1
        try clear hcz30_2
        try clear hcz32_0
        try clear hcz32_1
        try clear hcz32_2
        try clear hfz16_0
        try clear hfz16_1
        try clear hfz16_2
        try clear hfz19_0
        try clear hfz19_1
        try clear hfz19_2
        try clear hfz21_0
        try clear hfz21_1
        try clear hfz21_2
        try clear hfz25_0
        try clear hfz25_1
        try clear hfz25_2
        try clear hfz30_0
        try clear hfz30_1
        try clear hfz30_2
        try clear hfz32_0
        try clear hfz32_1
        try clear hfz32_2
        try clear p2
        obtain ⟨kq, x35_25, rfl, HA, HJ25, BK163, BK164, BK165, HB⟩ := hcut
        cases kq with
        | zero => exact absurd HA.out (by simp [atomic_Cell.j2])
        | succ kj25 =>
         have H := HA.out; clear HA
         simp only [atomic_Cell.j2] at H
         by_cases c33 : x35_25 = true
         ·subst c33
          have H1 : ((atomic_truth.f (a0 == 28)).bind fun t167 => (some (0, t167, ([] : List (S25)), 0))) = some (r1, r2, r3, r4) := by rw [if_pos rfl] at H; exact H
          clear H; have H := H1; clear H1
          replace H := Option.bind_eq_some_iff.mp H
          obtain ⟨t167, A340, H⟩ := H
          replace H : (some (0, t167, ([] : List (S25)), 0)) = some (r1, r2, r3, r4) := H
          have A34 := gA A340
          clear A340
          simp only [Option.some.injEq, Prod.mk.injEq] at H
          obtain ⟨rfl, rfl, rfl, rfl⟩ := H
          go_wp2_with (first | ((with_reducible refine gate_callee (f := 31) rfl ?_); refine goesL_ (some 46) rfl rfl Try.func31 (by kernel_rfl) rfl #[.bool (a0 == 28)] rfl (by (try simp only [List.map_toArray, List.map_cons, List.map_nil]); first | done | rfl | (simp only [List.length_drop, List.length_take]; rfl)) ?_; (with_reducible refine (atomic_truth.calls (a0 == 28) t167 _ A34.out).mono ?_); rintro e w' ⟨rfl, ⟨nd, rfl⟩⟩; refine ⟨_, rfl, ?_⟩; (try (rw [drewN_self wc]; generalize hq_ : World.drewN wc _ = wc; have n0_ : Aside0 (wc.heap[gb163]? = some (.cells #[.int .i64 a1_0, .int .i64 a1_1, .slice A1_2 l1_2.length c1_2] 35 (0, 0))) := ⟨by rw [← hq_]; exact (gK BK163)⟩; have n1_ : Aside0 (wc.heap[gb164]? = some (.cells #[.int .i64 a2_0, .int .i64 a2_1, .slice A2_2 l2_2.length c2_2] 35 (0, 0))) := ⟨by rw [← hq_]; exact (gK BK164)⟩; have n2_ : Aside0 (wc.heap[gb165]? = some (.cells #[.int .i64 0, .int .i64 0, .slice none 0 0] 35 (0, 0))) := ⟨by rw [← hq_]; exact (gK BK165)⟩; have n3_ : Aside0 (Below w.heap.size w wc) := ⟨by rw [← hq_]; exact (gB HB)⟩; clear BK163 BK164 BK165 HB hq_; have BK163 := n0_; have BK164 := n1_; have BK165 := n2_; have HB := n3_; clear n0_ n1_ n2_ n3_)); have hnb35 := NB165_163.out; have hnc35 := NB163_165.out; have hnb36 := NB165_164.out; have hnc36 := NB164_165.out; obtain ⟨hcz37_0, hcz37_1, hcz37_2, hfz37_0, hfz37_1, hfz37_2⟩ := gz3 BK165))
          refine bodyPost_ret (results_ct rfl _ _ gb165 35 #[.int .i64 0, .int .i64 t167, .slice none 0 0] (0, 0) _ rfl (by refine blk_put (cs := #[.int .i64 0, .int .i64 t167, .slice none 0 0]) ?_ 2 _ rfl; refine blk_put (cs := #[.int .i64 0, .int .i64 0, .slice none 0 0]) ?_ 1 _ rfl; refine blk_put (cs := #[.int .i64 0, .int .i64 0, .slice none 0 0]) ?_ 0 _ rfl; exact gK BK165) Try.underlying35 rfl (by kernel_rfl)) rfl ?_
          exact ⟨_, rfl, by first | exact Kd.R_nil _ _ _ _ _ | exact Kd.N_nil _ _ _ _ _ | exact Kd.V_nil _ _ _ _ _ | exact Kd.Q_nil _ _ _ _ _ | exact Kd.S_nil _ _ _ _ _, by repeat first | exact gB HB | refine below_set ?_ GE163.out | refine below_set ?_ GE164.out | refine below_set ?_ GE165.out⟩
         ·replace c33 := Bool.eq_false_iff.mpr c33
          subst c33
          have H1 : (if x8_3 = true then (atomic_Cell.j3 kj25 a0 false a1_0 a1_1 l1_2 a2_0 a2_1 l2_2) else (if a1_0 = 0 then (atomic_Cell.j3 kj25 a0 (a2_0 != 0) a1_0 a1_1 l1_2 a2_0 a2_1 l2_2) else (atomic_Cell.j3 kj25 a0 true a1_0 a1_1 l1_2 a2_0 a2_1 l2_2))) = some (r1, r2, r3, r4) := by rw [if_neg (show ¬ (false = true) by decide)] at H; exact H
          clear H; have H := H1; clear H1
          have HC38 := gA H
          clear H
          go_upto_region 8 with (fail)
          go_cut [48] (fun v48 wc => ∃ (kq : Nat) (x48_37 : Bool), v48 = .bool x48_37 ∧ Aside0 (atomic_Cell.j3 kq a0 x48_37 a1_0 a1_1 l1_2 a2_0 a2_1 l2_2 = some (r1, r2, r3, r4)) ∧ Aside0 (kq ≤ kj25) ∧ Aside0 (wc.heap[gb163]? = some (.cells #[.int .i64 a1_0, .int .i64 a1_1, (.slice A1_2 l1_2.length c1_2)] 35 (0, 0))) ∧ Aside0 (wc.heap[gb164]? = some (.cells #[.int .i64 a2_0, .int .i64 a2_1, (.slice A2_2 l2_2.length c2_2)] 35 (0, 0))) ∧ Aside0 (wc.heap[gb165]? = some (.cells #[.int .i64 0, .int .i64 0, (.slice none 0 0)] 35 (0, 0))) ∧ Aside0 (Below w.heap.size w wc))
          case first =>
           have H := HC38.out; clear HC38
           by_cases c39 : x8_3 = true
           ·subst c39
            have H1 : (atomic_Cell.j3 kj25 a0 false a1_0 a1_1 l1_2 a2_0 a2_1 l2_2) = some (r1, r2, r3, r4) := by rw [if_pos rfl] at H; exact H
            clear H; have H := H1; clear H1
            have H' := gA H
            clear H
            go_wp2
            all_goals (go_meet; (case rel => exact ⟨_, (false), (by first | rfl | (simp; done) | (simp [*]; done) | (exfalso; simp_all; done) | (exfalso; simp_all; omega)), H', ⟨by have := HJ3.out; have := HJ10.out; have := HJ25.out; first | omega | exact Nat.le_refl _⟩, ⟨gK BK163⟩, ⟨gK BK164⟩, ⟨gK BK165⟩, ⟨gB HB⟩⟩))
           ·replace c39 := Bool.eq_false_iff.mpr c39
            subst c39
            have H1 : (if a1_0 = 0 then (atomic_Cell.j3 kj25 a0 (a2_0 != 0) a1_0 a1_1 l1_2 a2_0 a2_1 l2_2) else (atomic_Cell.j3 kj25 a0 true a1_0 a1_1 l1_2 a2_0 a2_1 l2_2)) = some (r1, r2, r3, r4) := by rw [if_neg (show ¬ (false = true) by decide)] at H; exact H
            clear H; have H := H1; clear H1
            by_cases c40 : a1_0 = 0
            ·rw [if_pos c40] at H
             have c40b0 : (a1_0 == 0) = true := beq_iff_eq.mpr c40
             have c40b1 : (a1_0 != 0) = false := bne_eq_false_iff_eq.mpr c40
             clear c40
             (first | rw [c40b0] | rw [c40b1] | (simp only [i64_w, i32_w]; rw [c40b0]) | skip)
             have H' := gA H
             clear H
             have hnb41 := NB163_164.out
             have hnc41 := NB164_163.out
             have hnb42 := NB163_165.out
             have hnc42 := NB165_163.out
             obtain ⟨hcz43_0, hcz43_1, hcz43_2, hfz43_0, hfz43_1, hfz43_2⟩ := gz3 BK163
             have hnb44 := NB164_165.out
             have hnc44 := NB165_164.out
             obtain ⟨hcz45_0, hcz45_1, hcz45_2, hfz45_0, hfz45_1, hfz45_2⟩ := gz3 BK164
             go_wp2
             all_goals (go_meet; (case rel => exact ⟨_, ((a2_0 != 0)), (by first | rfl | (simp; done) | (simp [*]; done) | (exfalso; simp_all; done) | (exfalso; simp_all; omega)), H', ⟨by have := HJ3.out; have := HJ10.out; have := HJ25.out; first | omega | exact Nat.le_refl _⟩, ⟨gK BK163⟩, ⟨gK BK164⟩, ⟨gK BK165⟩, ⟨gB HB⟩⟩))
            ·rw [if_neg c40] at H
             have c40b0 : (a1_0 == 0) = false := beq_eq_false_iff_ne.mpr c40
             have c40b1 : (a1_0 != 0) = true := bne_iff_ne.mpr c40
             (first | rw [c40b0] | rw [c40b1] | (simp only [i64_w, i32_w]; rw [c40b0]) | skip)
             have H' := gA H
             clear H
             have hnb46 := NB163_164.out
             have hnc46 := NB164_163.out
             have hnb47 := NB163_165.out
             have hnc47 := NB165_163.out
             obtain ⟨hcz48_0, hcz48_1, hcz48_2, hfz48_0, hfz48_1, hfz48_2⟩ := gz3 BK163
             go_wp2
             all_goals (go_meet; (case rel => exact ⟨_, (true), (by first | rfl | (simp; done) | (simp [*]; done) | (exfalso; simp_all; done) | (exfalso; simp_all; omega)), H', ⟨by have := HJ3.out; have := HJ10.out; have := HJ25.out; first | omega | exact Nat.le_refl _⟩, ⟨gK BK163⟩, ⟨gK BK164⟩, ⟨gK BK165⟩, ⟨gB HB⟩⟩))
          case rest =>
           clear HC38
           try clear c1
           try clear c2
           try clear p2
           try clear c3
           try clear c4
           try clear c8
           try clear c8b0
           try clear c8b1
           try clear c10
           try clear c12
           try clear c13
           try clear c13b0
           try clear c13b1
           try clear c14
           try clear c15
           try clear c17
           try clear c18
           try clear c20
           try clear c22
           try clear c23
           try clear c24
           try clear c27
           try clear c28
           try clear c29
           try clear c31
           try clear c33
           try clear c35
           try clear c36
           try clear c39
           try clear c40
           try clear c40b0
           try clear c40b1
           try clear c41
           try clear c42
           try clear c44
           try clear c46
           try clear c47
           try clear hcz16_0
           try clear hcz16_1
           try clear hcz16_2
           try clear hcz19_0
           try clear hcz19_1
           try clear hcz19_2
           try clear hcz21_0
           try clear hcz21_1
           try clear hcz21_2
           try clear hcz25_0
           try clear hcz25_1
           try clear hcz25_2
           try clear hcz30_0
           try clear hcz30_1
           try clear hcz30_2
           try clear hcz32_0
           try clear hcz32_1
           try clear hcz32_2
           try clear hcz37_0
           try clear hcz37_1
           try clear hcz37_2
           try clear hcz43_0
           try clear hcz43_1
           try clear hcz43_2
           try clear hcz45_0
           try clear hcz45_1
           try clear hcz45_2
           try clear hcz48_0
           try clear hcz48_1
           try clear hcz48_2
           try clear hfz16_0
           try clear hfz16_1
           try clear hfz16_2
           try clear hfz19_0
           try clear hfz19_1
           try clear hfz19_2
           try clear hfz21_0
           try clear hfz21_1
           try clear hfz21_2
           try clear hfz25_0
           try clear hfz25_1
           try clear hfz25_2
           try clear hfz30_0
           try clear hfz30_1
           try clear hfz30_2
           try clear hfz32_0
           try clear hfz32_1
           try clear hfz32_2
           try clear hfz37_0
           try clear hfz37_1
           try clear hfz37_2
           try clear hfz43_0
           try clear hfz43_1
           try clear hfz43_2
           try clear hfz45_0
           try clear hfz45_1
           try clear hfz45_2
           try clear hfz48_0
           try clear hfz48_1
           try clear hfz48_2
           try clear p2
           obtain ⟨kq, x48_37, rfl, HA, HJ37, BK163, BK164, BK165, HB⟩ := hcut
           cases kq with
           | zero => exact absurd HA.out (by simp [atomic_Cell.j3])
           | succ kj37 =>
            have H := HA.out; clear HA
            simp only [atomic_Cell.j3] at H
            by_cases c49 : x48_37 = true
            ·subst c49
             have H1 : (some (0, 0, ([] : List (S25)), 5)) = some (r1, r2, r3, r4) := by rw [if_pos rfl] at H; exact H
             clear H; have H := H1; clear H1
             simp only [Option.some.injEq, Prod.mk.injEq] at H
             obtain ⟨rfl, rfl, rfl, rfl⟩ := H
             have hnb50 := NB165_163.out
             have hnc50 := NB163_165.out
             have hnb51 := NB165_164.out
             have hnc51 := NB164_165.out
             obtain ⟨hcz52_0, hcz52_1, hcz52_2, hfz52_0, hfz52_1, hfz52_2⟩ := gz3 BK165
             go_wp2
             refine bodyPost_ret (results_ct rfl _ _ gb165 35 #[.int .i64 0, .int .i64 0, .slice none 0 0] (0, 0) _ rfl (by refine blk_put (cs := #[.int .i64 0, .int .i64 0, .slice none 0 0]) ?_ 2 _ rfl; refine blk_put (cs := #[.int .i64 0, .int .i64 0, .slice none 0 0]) ?_ 1 _ rfl; refine blk_put (cs := #[.int .i64 0, .int .i64 0, .slice none 0 0]) ?_ 0 _ rfl; exact gK BK165) Try.underlying35 rfl (by kernel_rfl)) rfl ?_
             exact ⟨_, rfl, by first | exact Kd.R_nil _ _ _ _ _ | exact Kd.N_nil _ _ _ _ _ | exact Kd.V_nil _ _ _ _ _ | exact Kd.Q_nil _ _ _ _ _ | exact Kd.S_nil _ _ _ _ _, by repeat first | exact gB HB | refine below_set ?_ GE163.out | refine below_set ?_ GE164.out | refine below_set ?_ GE165.out⟩
            ·replace c49 := Bool.eq_false_iff.mpr c49
             subst c49
             have H1 : (if a0 ≥ 27 then ((atomic_held.f a0 a1_1 a2_1).bind fun t168 => (some (0, t168, ([] : List (S25)), 0))) else ((atomic_reckon.f kj37 a0 a1_1 a2_1).bind fun bt169 => (some (0, bt169.1, ([] : List (S25)), bt169.2)))) = some (r1, r2, r3, r4) := by rw [if_neg (show ¬ (false = true) by decide)] at H; exact H
             clear H; have H := H1; clear H1
             by_cases c53 : a0 ≥ 27
             ·rw [if_pos c53] at H
              have c53b0 : decide (27 ≤ a0) = true := decide_eq_true c53
              clear c53
              replace H := Option.bind_eq_some_iff.mp H
              obtain ⟨t168, A540, H⟩ := H
              replace H : (some (0, t168, ([] : List (S25)), 0)) = some (r1, r2, r3, r4) := H
              have A54 := gA A540
              clear A540
              simp only [Option.some.injEq, Prod.mk.injEq] at H
              obtain ⟨rfl, rfl, rfl, rfl⟩ := H
              have hnb55 := NB163_164.out
              have hnc55 := NB164_163.out
              have hnb56 := NB163_165.out
              have hnc56 := NB165_163.out
              obtain ⟨hcz57_0, hcz57_1, hcz57_2, hfz57_0, hfz57_1, hfz57_2⟩ := gz3 BK163
              have hnb58 := NB164_165.out
              have hnc58 := NB165_164.out
              obtain ⟨hcz59_0, hcz59_1, hcz59_2, hfz59_0, hfz59_1, hfz59_2⟩ := gz3 BK164
              go_wp2_with (first | ((with_reducible refine gate_callee (f := 32) rfl ?_); refine goesL_ (some 70) rfl rfl Try.func32 (by kernel_rfl) rfl #[.int .i64 a0, .int .i64 a1_1, .int .i64 a2_1] rfl (by (try simp only [List.map_toArray, List.map_cons, List.map_nil]); first | done | rfl | (simp only [List.length_drop, List.length_take]; rfl)) ?_; (with_reducible refine (atomic_held.calls a0 a1_1 a2_1 t168 _ A54.out).mono ?_); rintro e w60 ⟨rfl, hb⟩; refine ⟨_, rfl, ?_⟩; replace BK163 := gA (blk_below (gK BK163) hb); replace BK164 := gA (blk_below (gK BK164) hb); replace BK165 := gA (blk_below (gK BK165) hb); replace HB := gA (below_step (gB HB) hb); (try clear hb); obtain ⟨hcz61_0, hcz61_1, hcz61_2, hfz61_0, hfz61_1, hfz61_2⟩ := gz3 BK165))
              refine bodyPost_ret (results_ct rfl _ _ gb165 35 #[.int .i64 0, .int .i64 t168, .slice none 0 0] (0, 0) _ rfl (by refine blk_put (cs := #[.int .i64 0, .int .i64 t168, .slice none 0 0]) ?_ 2 _ rfl; refine blk_put (cs := #[.int .i64 0, .int .i64 0, .slice none 0 0]) ?_ 1 _ rfl; refine blk_put (cs := #[.int .i64 0, .int .i64 0, .slice none 0 0]) ?_ 0 _ rfl; exact gK BK165) Try.underlying35 rfl (by kernel_rfl)) rfl ?_
              exact ⟨_, rfl, by first | exact Kd.R_nil _ _ _ _ _ | exact Kd.N_nil _ _ _ _ _ | exact Kd.V_nil _ _ _ _ _ | exact Kd.Q_nil _ _ _ _ _ | exact Kd.S_nil _ _ _ _ _, by repeat first | exact gB HB | refine below_set ?_ GE163.out | refine below_set ?_ GE164.out | refine below_set ?_ GE165.out⟩
             ·rw [if_neg c53] at H
              have c53b0 : decide (27 ≤ a0) = false := decide_eq_false c53
              clear c53
              replace H := Option.bind_eq_some_iff.mp H
              obtain ⟨⟨t169, t170⟩, A620, H⟩ := H
              replace H : (some (0, t169, ([] : List (S25)), t170)) = some (r1, r2, r3, r4) := H
              have A62 := gA A620
              clear A620
              simp only [Option.some.injEq, Prod.mk.injEq] at H
              obtain ⟨rfl, rfl, rfl, rfl⟩ := H
              have hnb63 := NB163_164.out
              have hnc63 := NB164_163.out
              have hnb64 := NB163_165.out
              have hnc64 := NB165_163.out
              obtain ⟨hcz65_0, hcz65_1, hcz65_2, hfz65_0, hfz65_1, hfz65_2⟩ := gz3 BK163
              have hnb66 := NB164_165.out
              have hnc66 := NB165_164.out
              obtain ⟨hcz67_0, hcz67_1, hcz67_2, hfz67_0, hfz67_1, hfz67_2⟩ := gz3 BK164
              go_wp2_with (first | ((with_reducible refine gate_callee (f := 33) rfl ?_); refine goesL_ (some 78) rfl rfl Try.func33 (by kernel_rfl) rfl #[.int .i64 a0, .int .i64 a1_1, .int .i64 a2_1] rfl (by (try simp only [List.map_toArray, List.map_cons, List.map_nil]); first | done | rfl | (simp only [List.length_drop, List.length_take]; rfl)) ?_; (with_reducible refine (atomic_reckon.calls kj37 a0 a1_1 a2_1 t169 t170 _ A62.out).mono ?_); rintro e w68 ⟨rfl, hb⟩; refine ⟨_, rfl, ?_⟩; replace BK163 := gA (blk_below (gK BK163) hb); replace BK164 := gA (blk_below (gK BK164) hb); replace BK165 := gA (blk_below (gK BK165) hb); replace HB := gA (below_step (gB HB) hb); (try clear hb); obtain ⟨hcz69_0, hcz69_1, hcz69_2, hfz69_0, hfz69_1, hfz69_2⟩ := gz3 BK165))
              refine bodyPost_ret (results_ct rfl _ _ gb165 35 #[.int .i64 0, .int .i64 t169, .slice none 0 0] (0, 0) _ rfl (by refine blk_put (cs := #[.int .i64 0, .int .i64 t169, .slice none 0 0]) ?_ 2 _ rfl; refine blk_put (cs := #[.int .i64 0, .int .i64 0, .slice none 0 0]) ?_ 1 _ rfl; refine blk_put (cs := #[.int .i64 0, .int .i64 0, .slice none 0 0]) ?_ 0 _ rfl; exact gK BK165) Try.underlying35 rfl (by kernel_rfl)) rfl ?_
              exact ⟨_, rfl, by first | exact Kd.R_nil _ _ _ _ _ | exact Kd.N_nil _ _ _ _ _ | exact Kd.V_nil _ _ _ _ _ | exact Kd.Q_nil _ _ _ _ _ | exact Kd.S_nil _ _ _ _ _, by repeat first | exact gB HB | refine below_set ?_ GE163.out | refine below_set ?_ GE164.out | refine below_set ?_ GE165.out⟩
   ·replace c10 := Bool.eq_false_iff.mpr c10
    subst c10
    have H1 : (some (0, 0, ([] : List (S25)), 1)) = some (r1, r2, r3, r4) := by rw [if_neg (show ¬ (false = true) by decide)] at H; exact H
    clear H; have H := H1; clear H1
    simp only [Option.some.injEq, Prod.mk.injEq] at H
    obtain ⟨rfl, rfl, rfl, rfl⟩ := H
    go_wp2_with (first | ((with_reducible refine gate_callee (f := 17) rfl ?_); refine goesL_ (some 19) rfl rfl Try.func17 (by kernel_rfl) rfl #[.int .i64 a0] rfl (by (try simp only [List.map_toArray, List.map_cons, List.map_nil]); first | done | rfl | (simp only [List.length_drop, List.length_take]; rfl)) ?_; (with_reducible refine (atomic_Is.calls a0 false _ A9.out).mono ?_); rintro e w' ⟨rfl, ⟨nd, rfl⟩⟩; refine ⟨_, rfl, ?_⟩; (try (rw [drewN_self wc]; generalize hq_ : World.drewN wc _ = wc; have n0_ : Aside0 (wc.heap[gb163]? = some (.cells #[.int .i64 a1_0, .int .i64 a1_1, .slice A1_2 l1_2.length c1_2] 35 (0, 0))) := ⟨by rw [← hq_]; exact (gK BK163)⟩; have n1_ : Aside0 (wc.heap[gb164]? = some (.cells #[.int .i64 a2_0, .int .i64 a2_1, .slice A2_2 l2_2.length c2_2] 35 (0, 0))) := ⟨by rw [← hq_]; exact (gK BK164)⟩; have n2_ : Aside0 (wc.heap[gb165]? = some (.cells #[.int .i64 0, .int .i64 0, .slice none 0 0] 35 (0, 0))) := ⟨by rw [← hq_]; exact (gK BK165)⟩; have n3_ : Aside0 (Below w.heap.size w wc) := ⟨by rw [← hq_]; exact (gB HB)⟩; clear BK163 BK164 BK165 HB hq_; have BK163 := n0_; have BK164 := n1_; have BK165 := n2_; have HB := n3_; clear n0_ n1_ n2_ n3_)); have hnb70 := NB165_163.out; have hnc70 := NB163_165.out; have hnb71 := NB165_164.out; have hnc71 := NB164_165.out; obtain ⟨hcz72_0, hcz72_1, hcz72_2, hfz72_0, hfz72_1, hfz72_2⟩ := gz3 BK165))
    refine bodyPost_ret (results_ct rfl _ _ gb165 35 #[.int .i64 0, .int .i64 0, .slice none 0 0] (0, 0) _ rfl (by refine blk_put (cs := #[.int .i64 0, .int .i64 0, .slice none 0 0]) ?_ 2 _ rfl; refine blk_put (cs := #[.int .i64 0, .int .i64 0, .slice none 0 0]) ?_ 1 _ rfl; refine blk_put (cs := #[.int .i64 0, .int .i64 0, .slice none 0 0]) ?_ 0 _ rfl; exact gK BK165) Try.underlying35 rfl (by kernel_rfl)) rfl ?_
    exact ⟨_, rfl, by first | exact Kd.R_nil _ _ _ _ _ | exact Kd.N_nil _ _ _ _ _ | exact Kd.V_nil _ _ _ _ _ | exact Kd.Q_nil _ _ _ _ _ | exact Kd.S_nil _ _ _ _ _, by repeat first | exact gB HB | refine below_set ?_ GE163.out | refine below_set ?_ GE164.out | refine below_set ?_ GE165.out⟩
def atomic_Agree.l0 : Nat → List Int → List Int → Int → Int → Option (List Int × Int)
 | 0, _, _, _, _ => none
 | k + 1, x0, x1, x26, x27 => if x27 < x26 then (if 0 ≤ x27 then (if x27 < (x0.length : Int) then (if x27 < (x1.length : Int) then (if (rd x0 x27) = (rd x1 x27) then (atomic_Agree.l0 k x0 x1 x26 (wrap64 (x27 + 1))) else (some (([] : List Int), 7))) else (none)) else (none)) else (none)) else (if ([] : List Int).length + x0.length < 17592186044416 then (some ((([] : List Int) ++ x0), 0)) else (none))
def atomic_Agree.f (k : Nat) (l0 : List Int) (l1 : List Int) : Option (List Int × Int) := if (l0.length : Int) = 0 then (if ([] : List Int).length + l1.length < 17592186044416 then (some ((([] : List Int) ++ l1), 0)) else (none)) else (if (l1.length : Int) = 0 then (if ([] : List Int).length + l0.length < 17592186044416 then (some ((([] : List Int) ++ l0), 0)) else (none)) else (if (l0.length : Int) = (l1.length : Int) then (atomic_Agree.l0 k l0 l1 (l0.length : Int) 0) else (some (([] : List Int), 6))))
theorem atomic_Agree.mono_l : ∀ k, (∀ y0 y1 y2 y3, LeO (atomic_Agree.l0 k y0 y1 y2 y3) (atomic_Agree.l0 (k + 1) y0 y1 y2 y3))
 | 0 => fun _ _ _ _ r h => by simp [atomic_Agree.l0] at h
 | k + 1 => by
  have ih0 := atomic_Agree.mono_l k
  ·intro y0 y1 y2 y3
   unfold atomic_Agree.l0
   repeat' first
   | (with_reducible exact ih0 _ _ _ _)
   | (with_reducible exact LeO.refl _)
   | (with_reducible exact LeO.none _)
   | (with_reducible refine LeO.ite ?_ ?_)
   | (with_reducible refine LeO.bind ?_ (fun _ => ?_))
theorem atomic_Agree.mono : ∀ a0 a1 k, LeO (atomic_Agree.f k a0 a1) (atomic_Agree.f (k + 1) a0 a1) := by
 intro a0 a1 k
 have ih0 := atomic_Agree.mono_l k
 unfold atomic_Agree.f
 repeat' first
   | (with_reducible exact ih0 _ _ _ _)
   | (with_reducible exact LeO.refl _)
   | (with_reducible exact LeO.none _)
   | (with_reducible refine LeO.ite ?_ ?_)
   | (with_reducible refine LeO.bind ?_ (fun _ => ?_))
set_option maxHeartbeats 8000000 in
set_option maxRecDepth 100000 in
theorem atomic_Agree.calls (k : Nat) (A0 : Option Addr) (c0 : Nat) (l0 : List Int) (A1 : Option Addr) (c1 : Nat) (l1 : List Int) (r1 : List Int) (r2 : Int) (w : World) (hr0 : Kd.C (Kd.int .i64) w A0 l0.length l0) (hc0 : l0.length ≤ c0) (hr1 : Kd.C (Kd.int .i64) w A1 l1.length l1) (hc1 : l1.length ≤ c1) (h : atomic_Agree.f k l0 l1 = some (r1, r2)) :
  Calls Try.prog 20 #[.slice A0 l0.length c0, .slice A1 l1.length c1] w fun e w' => ∃ v0_ : Value, e = .returned (.tuple #[v0_, .int .i64 r2]) ∧ Kd.R (Kd.int .i64) 3 w' w.heap.size (fun _ => True) v0_ r1 ∧ Below w.heap.size w w' := by
 have HR0 := gA hr0
 have HC0 := gA hc0
 clear hr0 hc0
 have HR1 := gA hr1
 have HC1 := gA hc1
 clear hr1 hc1
 have HB := gA (Below.refl w.heap.size w)
 have H : (if (l0.length : Int) = 0 then (if ([] : List Int).length + l1.length < 17592186044416 then (some ((([] : List Int) ++ l1), 0)) else (none)) else (if (l1.length : Int) = 0 then (if ([] : List Int).length + l0.length < 17592186044416 then (some ((([] : List Int) ++ l0), 0)) else (none)) else (if (l0.length : Int) = (l1.length : Int) then (atomic_Agree.l0 k l0 l1 (l0.length : Int) 0) else (some (([] : List Int), 6))))) = some (r1, r2) := h
 clear h
 by_cases c3 : (l0.length : Int) = 0
 ·rw [if_pos c3] at H
  have c3b0 : ((l0.length : Int) == 0) = true := beq_iff_eq.mpr c3
  have c3b1 : ((l0.length : Int) != 0) = false := bne_eq_false_iff_eq.mpr c3
  clear c3
  obtain ⟨c4, H⟩ := iS H
  have LMc4 := gA c4
  clear c4
  obtain ⟨y171, hy171⟩ : ∃ y_ : List Int, y_ = (([] : List Int) ++ l1) := ⟨_, rfl⟩
  replace H : (some (y171, 0)) = some (r1, r2) := by first | (rw [hy171]; with_reducible exact H) | (have H2_ := (Option.bind_some _ _).symm.trans H; rw [hy171]; with_reducible exact H2_) | (have H2_ := (Option.bind_some _ _).symm.trans H; with_reducible exact H2_) | with_reducible exact H | (rw [hy171]; exact H) | exact H
  have Ny171 := gA hy171
  clear hy171
  simp only [Option.some.injEq, Prod.mk.injEq] at H
  obtain ⟨rfl, rfl⟩ := H
  go_enter Try.func20, Try.ntmps20
  go_wp2_with (first | ((with_reducible refine gate_builtin (b := .append) (xs := #[.const (.slice none 0 0), .tmp 11]) rfl ?_); at_builtin; refine Kd.R_append_rows (Kd.int .i64) (w0 := w) w.heap.size rfl (.const (.slice none 0 0)) (.tmp 11) 22 3 (.int .i64 0) 8 rfl Try.underlying22 info3 rfl (by decide) (by omega) (.slice none 0 0) ([] : List Int) l1 _ _ _ (fun _ => True) (fun _ => False) rfl rfl ?aO ?aR (fun _ _ h => h) (fun _ h => h.elim) ?aF ?aB ?aS ?aL ?_; (case aR => repeat (first | exact HR1.out | (with_reducible refine Kd.C_alloc ?_ _) | (with_reducible refine Kd.C_drewN ?_ _) | (with_reducible refine Kd.C_drew ?_))); (case aB => exact (gB HB)); (case aF => exact (fun _ _ => trivial)); (case aO => exact ((Kd.R_nil _ _ _ _ (fun _ => True)))); (case aS => exact (below_size (gB HB))); (case aL => have := LMc4.out; omega); intro v172 w5 ho hb hg hat; rw [← Ny171.out] at ho; replace HB := gA (hb); have HO173 := gA (ho); clear ho hb hg hat))
  repeat (go_quiet (first | ((with_reducible refine gate_builtin (b := .append) (xs := #[.const (.slice none 0 0), .tmp 11]) rfl ?_); at_builtin; refine Kd.R_append_rows (Kd.int .i64) (w0 := w) w.heap.size rfl (.const (.slice none 0 0)) (.tmp 11) 22 3 (.int .i64 0) 8 rfl Try.underlying22 info3 rfl (by decide) (by omega) (.slice none 0 0) ([] : List Int) l1 _ _ _ (fun _ => True) (fun _ => False) rfl rfl ?aO ?aR (fun _ _ h => h) (fun _ h => h.elim) ?aF ?aB ?aS ?aL ?_; (case aR => repeat (first | exact HR1.out | (with_reducible refine Kd.C_alloc ?_ _) | (with_reducible refine Kd.C_drewN ?_ _) | (with_reducible refine Kd.C_drew ?_))); (case aB => exact (gB HB)); (case aF => exact (fun _ _ => trivial)); (case aO => exact ((Kd.R_nil _ _ _ _ (fun _ => True)))); (case aS => exact (below_size (gB HB))); (case aL => have := LMc4.out; omega); intro v172 w5 ho hb hg hat; rw [← Ny171.out] at ho; replace HB := gA (hb); have HO173 := gA (ho); clear ho hb hg hat)); try go_wp2_with (first | ((with_reducible refine gate_builtin (b := .append) (xs := #[.const (.slice none 0 0), .tmp 11]) rfl ?_); at_builtin; refine Kd.R_append_rows (Kd.int .i64) (w0 := w) w.heap.size rfl (.const (.slice none 0 0)) (.tmp 11) 22 3 (.int .i64 0) 8 rfl Try.underlying22 info3 rfl (by decide) (by omega) (.slice none 0 0) ([] : List Int) l1 _ _ _ (fun _ => True) (fun _ => False) rfl rfl ?aO ?aR (fun _ _ h => h) (fun _ h => h.elim) ?aF ?aB ?aS ?aL ?_; (case aR => repeat (first | exact HR1.out | (with_reducible refine Kd.C_alloc ?_ _) | (with_reducible refine Kd.C_drewN ?_ _) | (with_reducible refine Kd.C_drew ?_))); (case aB => exact (gB HB)); (case aF => exact (fun _ _ => trivial)); (case aO => exact ((Kd.R_nil _ _ _ _ (fun _ => True)))); (case aS => exact (below_size (gB HB))); (case aL => have := LMc4.out; omega); intro v172 w5 ho hb hg hat; rw [← Ny171.out] at ho; replace HB := gA (hb); have HO173 := gA (ho); clear ho hb hg hat)))
  go_ret2
  exact ⟨_, rfl, gR HO173, gB HB⟩
 ·rw [if_neg c3] at H
  have c3b0 : ((l0.length : Int) == 0) = false := beq_eq_false_iff_ne.mpr c3
  have c3b1 : ((l0.length : Int) != 0) = true := bne_iff_ne.mpr c3
  have c3b2 : ¬ (l0 = []) := fun h_ => c3 (by rw [h_]; rfl)
  by_cases c6 : (l1.length : Int) = 0
  ·rw [if_pos c6] at H
   have c6b0 : ((l1.length : Int) == 0) = true := beq_iff_eq.mpr c6
   have c6b1 : ((l1.length : Int) != 0) = false := bne_eq_false_iff_eq.mpr c6
   clear c6
   obtain ⟨c7, H⟩ := iS H
   have LMc7 := gA c7
   clear c7
   obtain ⟨y174, hy174⟩ : ∃ y_ : List Int, y_ = (([] : List Int) ++ l0) := ⟨_, rfl⟩
   replace H : (some (y174, 0)) = some (r1, r2) := by first | (rw [hy174]; with_reducible exact H) | (have H2_ := (Option.bind_some _ _).symm.trans H; rw [hy174]; with_reducible exact H2_) | (have H2_ := (Option.bind_some _ _).symm.trans H; with_reducible exact H2_) | with_reducible exact H | (rw [hy174]; exact H) | exact H
   have Ny174 := gA hy174
   clear hy174
   simp only [Option.some.injEq, Prod.mk.injEq] at H
   obtain ⟨rfl, rfl⟩ := H
   go_enter Try.func20, Try.ntmps20
   go_wp2_with (first | ((with_reducible refine gate_builtin (b := .append) (xs := #[.const (.slice none 0 0), .tmp 17]) rfl ?_); at_builtin; refine Kd.R_append_rows (Kd.int .i64) (w0 := w) w.heap.size rfl (.const (.slice none 0 0)) (.tmp 17) 22 3 (.int .i64 0) 8 rfl Try.underlying22 info3 rfl (by decide) (by omega) (.slice none 0 0) ([] : List Int) l0 _ _ _ (fun _ => True) (fun _ => False) rfl rfl ?aO ?aR (fun _ _ h => h) (fun _ h => h.elim) ?aF ?aB ?aS ?aL ?_; (case aR => repeat (first | exact HR0.out | (with_reducible refine Kd.C_alloc ?_ _) | (with_reducible refine Kd.C_drewN ?_ _) | (with_reducible refine Kd.C_drew ?_))); (case aB => exact (gB HB)); (case aF => exact (fun _ _ => trivial)); (case aO => exact ((Kd.R_nil _ _ _ _ (fun _ => True)))); (case aS => exact (below_size (gB HB))); (case aL => have := LMc7.out; omega); intro v175 w8 ho hb hg hat; rw [← Ny174.out] at ho; replace HB := gA (hb); have HO176 := gA (ho); clear ho hb hg hat))
   repeat (go_quiet (first | ((with_reducible refine gate_builtin (b := .append) (xs := #[.const (.slice none 0 0), .tmp 17]) rfl ?_); at_builtin; refine Kd.R_append_rows (Kd.int .i64) (w0 := w) w.heap.size rfl (.const (.slice none 0 0)) (.tmp 17) 22 3 (.int .i64 0) 8 rfl Try.underlying22 info3 rfl (by decide) (by omega) (.slice none 0 0) ([] : List Int) l0 _ _ _ (fun _ => True) (fun _ => False) rfl rfl ?aO ?aR (fun _ _ h => h) (fun _ h => h.elim) ?aF ?aB ?aS ?aL ?_; (case aR => repeat (first | exact HR0.out | (with_reducible refine Kd.C_alloc ?_ _) | (with_reducible refine Kd.C_drewN ?_ _) | (with_reducible refine Kd.C_drew ?_))); (case aB => exact (gB HB)); (case aF => exact (fun _ _ => trivial)); (case aO => exact ((Kd.R_nil _ _ _ _ (fun _ => True)))); (case aS => exact (below_size (gB HB))); (case aL => have := LMc7.out; omega); intro v175 w8 ho hb hg hat; rw [← Ny174.out] at ho; replace HB := gA (hb); have HO176 := gA (ho); clear ho hb hg hat)); try go_wp2_with (first | ((with_reducible refine gate_builtin (b := .append) (xs := #[.const (.slice none 0 0), .tmp 17]) rfl ?_); at_builtin; refine Kd.R_append_rows (Kd.int .i64) (w0 := w) w.heap.size rfl (.const (.slice none 0 0)) (.tmp 17) 22 3 (.int .i64 0) 8 rfl Try.underlying22 info3 rfl (by decide) (by omega) (.slice none 0 0) ([] : List Int) l0 _ _ _ (fun _ => True) (fun _ => False) rfl rfl ?aO ?aR (fun _ _ h => h) (fun _ h => h.elim) ?aF ?aB ?aS ?aL ?_; (case aR => repeat (first | exact HR0.out | (with_reducible refine Kd.C_alloc ?_ _) | (with_reducible refine Kd.C_drewN ?_ _) | (with_reducible refine Kd.C_drew ?_))); (case aB => exact (gB HB)); (case aF => exact (fun _ _ => trivial)); (case aO => exact ((Kd.R_nil _ _ _ _ (fun _ => True)))); (case aS => exact (below_size (gB HB))); (case aL => have := LMc7.out; omega); intro v175 w8 ho hb hg hat; rw [← Ny174.out] at ho; replace HB := gA (hb); have HO176 := gA (ho); clear ho hb hg hat)))
   go_ret2
   exact ⟨_, rfl, gR HO176, gB HB⟩
  ·rw [if_neg c6] at H
   have c6b0 : ((l1.length : Int) == 0) = false := beq_eq_false_iff_ne.mpr c6
   have c6b1 : ((l1.length : Int) != 0) = true := bne_iff_ne.mpr c6
   have c6b2 : ¬ (l1 = []) := fun h_ => c6 (by rw [h_]; rfl)
   by_cases c9 : (l0.length : Int) = (l1.length : Int)
   ·rw [if_pos c9] at H
    have c9b0 : ((l0.length : Int) == (l1.length : Int)) = true := beq_iff_eq.mpr c9
    have c9b1 : ((l0.length : Int) != (l1.length : Int)) = false := bne_eq_false_iff_eq.mpr c9
    have c9b2 : (l0.length == l1.length) = true := by first | simpa using c9 | (simp at c9 ⊢; omega)
    clear c9
    have H' := gA H
    clear H
    go_enter Try.func20, Try.ntmps20
    go_wp2
    repeat (go_quiet (fail); try go_wp2)
    go_loopg [27] k (fun kq v27 w' => ∃ (x27_1 : Int), v27 = .int .i64 x27_1 ∧ Aside0 (atomic_Agree.l0 kq l0 l1 (l0.length : Int) x27_1 = some (r1, r2)) ∧ Aside0 (kq ≤ k) ∧ Aside0 (Below w.heap.size w w'))
    case atStart => exact ⟨(0), (rfl), H', ⟨Nat.le_refl _⟩, ⟨gB HB⟩⟩
    case round =>
     clear H'
     try clear c1
     try clear c2
     try clear p2
     try clear c3
     try clear c3b0
     try clear c3b1
     try clear c3b2
     try clear c4
     try clear c6
     try clear c6b0
     try clear c6b1
     try clear c6b2
     try clear c7
     try clear c9
     try clear c9b0
     try clear c9b1
     try clear c9b2
     obtain ⟨x27_1, rfl, HA, HK1, HB⟩ := hrel
     cases gk with
     | zero => exact absurd HA.out (by simp [atomic_Agree.l0])
     | succ k1 =>
      have H := HA.out; clear HA
      simp only [atomic_Agree.l0] at H
      by_cases c10 : x27_1 < (l0.length : Int)
      ·rw [if_pos c10] at H
       have c10b0 := decide_eq_true c10
       clear c10
       obtain ⟨c11, H⟩ := iS H
       have c11b0 := decide_eq_true c11
       clear c11
       obtain ⟨c12, H⟩ := iS H
       have c12b0 := decide_eq_true c12
       clear c12
       obtain ⟨c13, H⟩ := iS H
       have c13b0 := decide_eq_true c13
       clear c13
       by_cases c14 : (rd l0 x27_1) = (rd l1 x27_1)
       ·rw [if_pos c14] at H
        have c14b0 : ((rd l0 x27_1) == (rd l1 x27_1)) = true := beq_iff_eq.mpr c14
        have c14b1 : ((rd l0 x27_1) != (rd l1 x27_1)) = false := bne_eq_false_iff_eq.mpr c14
        clear c14
        have H' := gA H
        clear H
        have p177 : 0 ≤ (x27_1 : Int) := of_decide_eq_true (by assumption)
        have q177 : x27_1 < (l0.length : Int) := of_decide_eq_true (by assumption)
        obtain ⟨ad177, e177, hx177_0⟩ := Kd.at_int HR0.out x27_1 p177 q177
        cases e177
        replace hx177_0 := (HB.out.cell (World.block_lt_of_cell? w _ hx177_0)).trans hx177_0
        replace p177 := eq_true p177
        replace q177 := eq_true q177
        have p178 : 0 ≤ (x27_1 : Int) := of_decide_eq_true (by assumption)
        have q178 : x27_1 < (l1.length : Int) := of_decide_eq_true (by assumption)
        obtain ⟨ad178, e178, hx178_0⟩ := Kd.at_int HR1.out x27_1 p178 q178
        cases e178
        replace hx178_0 := (HB.out.cell (World.block_lt_of_cell? w _ hx178_0)).trans hx178_0
        replace p178 := eq_true p178
        replace q178 := eq_true q178
        go_wp2
        repeat (go_quiet (fail); try go_wp2)
        go_roundg k1
        case measure => have := HK1.out; omega
        case rel => exact ⟨(wrap64 (x27_1 + 1)), (rfl), H', ⟨by have := HK1.out; omega⟩, ⟨gB HB⟩⟩
       ·rw [if_neg c14] at H
        have c14b0 : ((rd l0 x27_1) == (rd l1 x27_1)) = false := beq_eq_false_iff_ne.mpr c14
        have c14b1 : ((rd l0 x27_1) != (rd l1 x27_1)) = true := bne_iff_ne.mpr c14
        simp only [Option.some.injEq, Prod.mk.injEq] at H
        obtain ⟨rfl, rfl⟩ := H
        have p177 : 0 ≤ (x27_1 : Int) := of_decide_eq_true (by assumption)
        have q177 : x27_1 < (l0.length : Int) := of_decide_eq_true (by assumption)
        obtain ⟨ad177, e177, hx177_0⟩ := Kd.at_int HR0.out x27_1 p177 q177
        cases e177
        replace hx177_0 := (HB.out.cell (World.block_lt_of_cell? w _ hx177_0)).trans hx177_0
        replace p177 := eq_true p177
        replace q177 := eq_true q177
        have p178 : 0 ≤ (x27_1 : Int) := of_decide_eq_true (by assumption)
        have q178 : x27_1 < (l1.length : Int) := of_decide_eq_true (by assumption)
        obtain ⟨ad178, e178, hx178_0⟩ := Kd.at_int HR1.out x27_1 p178 q178
        cases e178
        replace hx178_0 := (HB.out.cell (World.block_lt_of_cell? w _ hx178_0)).trans hx178_0
        replace p178 := eq_true p178
        replace q178 := eq_true q178
        go_wp2
        repeat (go_quiet (fail); try go_wp2)
        go_ret2
        exact ⟨_, rfl, by first | exact Kd.R_nil _ _ _ _ _ | exact Kd.N_nil _ _ _ _ _ | exact Kd.V_nil _ _ _ _ _ | exact Kd.Q_nil _ _ _ _ _ | exact Kd.S_nil _ _ _ _ _, gB HB⟩
      ·rw [if_neg c10] at H
       have c10b0 := decide_eq_false c10
       clear c10
       obtain ⟨c15, H⟩ := iS H
       have LMc15 := gA c15
       clear c15
       obtain ⟨y179, hy179⟩ : ∃ y_ : List Int, y_ = (([] : List Int) ++ l0) := ⟨_, rfl⟩
       replace H : (some (y179, 0)) = some (r1, r2) := by first | (rw [hy179]; with_reducible exact H) | (have H2_ := (Option.bind_some _ _).symm.trans H; rw [hy179]; with_reducible exact H2_) | (have H2_ := (Option.bind_some _ _).symm.trans H; with_reducible exact H2_) | with_reducible exact H | (rw [hy179]; exact H) | exact H
       have Ny179 := gA hy179
       clear hy179
       simp only [Option.some.injEq, Prod.mk.injEq] at H
       obtain ⟨rfl, rfl⟩ := H
       go_wp2_with (first | ((with_reducible refine gate_builtin (b := .append) (xs := #[.const (.slice none 0 0), .tmp 40]) rfl ?_); at_builtin; refine Kd.R_append_rows (Kd.int .i64) (w0 := w) w.heap.size rfl (.const (.slice none 0 0)) (.tmp 40) 22 3 (.int .i64 0) 8 rfl Try.underlying22 info3 rfl (by decide) (by omega) (.slice none 0 0) ([] : List Int) l0 _ _ _ (fun _ => True) (fun _ => False) rfl rfl ?aO ?aR (fun _ _ h => h) (fun _ h => h.elim) ?aF ?aB ?aS ?aL ?_; (case aR => exact gC HR0 HB); (case aB => exact (gB HB)); (case aF => exact (fun _ _ => trivial)); (case aO => exact ((Kd.R_nil _ _ _ _ (fun _ => True)))); (case aS => exact (below_size (gB HB))); (case aL => have := LMc15.out; omega); intro v180 w16 ho hb hg hat; rw [← Ny179.out] at ho; replace HB := gA (hb); have HO181 := gA (ho); clear ho hb hg hat))
       repeat (go_quiet (first | ((with_reducible refine gate_builtin (b := .append) (xs := #[.const (.slice none 0 0), .tmp 40]) rfl ?_); at_builtin; refine Kd.R_append_rows (Kd.int .i64) (w0 := w) w.heap.size rfl (.const (.slice none 0 0)) (.tmp 40) 22 3 (.int .i64 0) 8 rfl Try.underlying22 info3 rfl (by decide) (by omega) (.slice none 0 0) ([] : List Int) l0 _ _ _ (fun _ => True) (fun _ => False) rfl rfl ?aO ?aR (fun _ _ h => h) (fun _ h => h.elim) ?aF ?aB ?aS ?aL ?_; (case aR => exact gC HR0 HB); (case aB => exact (gB HB)); (case aF => exact (fun _ _ => trivial)); (case aO => exact ((Kd.R_nil _ _ _ _ (fun _ => True)))); (case aS => exact (below_size (gB HB))); (case aL => have := LMc15.out; omega); intro v180 w16 ho hb hg hat; rw [← Ny179.out] at ho; replace HB := gA (hb); have HO181 := gA (ho); clear ho hb hg hat)); try go_wp2_with (first | ((with_reducible refine gate_builtin (b := .append) (xs := #[.const (.slice none 0 0), .tmp 40]) rfl ?_); at_builtin; refine Kd.R_append_rows (Kd.int .i64) (w0 := w) w.heap.size rfl (.const (.slice none 0 0)) (.tmp 40) 22 3 (.int .i64 0) 8 rfl Try.underlying22 info3 rfl (by decide) (by omega) (.slice none 0 0) ([] : List Int) l0 _ _ _ (fun _ => True) (fun _ => False) rfl rfl ?aO ?aR (fun _ _ h => h) (fun _ h => h.elim) ?aF ?aB ?aS ?aL ?_; (case aR => exact gC HR0 HB); (case aB => exact (gB HB)); (case aF => exact (fun _ _ => trivial)); (case aO => exact ((Kd.R_nil _ _ _ _ (fun _ => True)))); (case aS => exact (below_size (gB HB))); (case aL => have := LMc15.out; omega); intro v180 w16 ho hb hg hat; rw [← Ny179.out] at ho; replace HB := gA (hb); have HO181 := gA (ho); clear ho hb hg hat)))
       go_ret2
       exact ⟨_, rfl, gR HO181, gB HB⟩
   ·rw [if_neg c9] at H
    have c9b0 : ((l0.length : Int) == (l1.length : Int)) = false := beq_eq_false_iff_ne.mpr c9
    have c9b1 : ((l0.length : Int) != (l1.length : Int)) = true := bne_iff_ne.mpr c9
    have c9b2 : (l0.length == l1.length) = false := by first | simpa using c9 | (simp at c9 ⊢; omega)
    simp only [Option.some.injEq, Prod.mk.injEq] at H
    obtain ⟨rfl, rfl⟩ := H
    go_enter Try.func20, Try.ntmps20
    go_wp2
    repeat (go_quiet (fail); try go_wp2)
    go_ret2
    exact ⟨_, rfl, by first | exact Kd.R_nil _ _ _ _ _ | exact Kd.N_nil _ _ _ _ _ | exact Kd.V_nil _ _ _ _ _ | exact Kd.Q_nil _ _ _ _ _ | exact Kd.S_nil _ _ _ _ _, gB HB⟩
end Go.Proofs.Ytemlommdfmeabaa.P
