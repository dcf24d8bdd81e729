/- Written by a program of this session: the functions that the laws reach, what each comes to, and each law as it is stated, for every input. No condition. -/
import Derived.Test.YtahgfebdjjfkhaaPx0
import Derived.Test.YtahgfebdjjfkhaaPx3
import Derived.Test.YtahgfebdjjfkhaaPx4
import Derived.Test.YtahgfebdjjfkhaaPx5
namespace Go.Proofs.Ytahgfebdjjfkhaa.P
open Go.RowKit Go.Proofs.YtahgfebdjjfkhaaW.PrintWords Go.Proofs.YtahgfebdjjfkhaaW.PrintLast Go.Proofs.YtahgfebdjjfkhaaW.PrintMore
attribute [local go_sem] max2_int min2_int max_two min_two max_three min_three max_four min_four   -- for this text's walks alone
set_option linter.unusedVariables false
set_option linter.unusedSimpArgs false
mutual
def atomic_Cell.j0 : Nat → Int → Bool → Int → Int → List (S25) → Int → Int → List (S25) → Option (Int × Int × (List (S25)) × Int)
 | 0, _, _, _, _, _, _, _, _ => none
 | k + 1, x0, x8, x207000, x207001, x207002, x208000, x208001, x208002 => (atomic_Is.f x0).bind fun t209 => (if t209 = true then (if x8 = true then (if x207000 = 2 then (atomic_Cell.j1 k x0 x8 true x207000 x207001 x207002 x208000 x208001 x208002) else (atomic_Cell.j1 k x0 x8 (x208000 == 2) x207000 x207001 x207002 x208000 x208001 x208002)) else (atomic_Cell.j1 k x0 x8 false x207000 x207001 x207002 x208000 x208001 x208002)) else (some (0, 0, ([] : List (S25)), 1)))
def atomic_Cell.j1 : Nat → Int → Bool → Bool → Int → Int → List (S25) → Int → Int → List (S25) → Option (Int × Int × (List (S25)) × Int)
 | 0, _, _, _, _, _, _, _, _, _ => none
 | k + 1, x0, x8, x22, x207000, x207001, x207002, x208000, x208001, x208002 => if x22 = true then (some (0, 0, ([] : List (S25)), 5)) else (if x8 = true then (atomic_Cell.j2 k x0 x8 (x207000 != x208000) x207000 x207001 x207002 x208000 x208001 x208002) else (atomic_Cell.j2 k x0 x8 false x207000 x207001 x207002 x208000 x208001 x208002))
def atomic_Cell.j2 : Nat → Int → Bool → Bool → Int → Int → List (S25) → Int → Int → List (S25) → Option (Int × Int × (List (S25)) × Int)
 | 0, _, _, _, _, _, _, _, _, _ => none
 | k + 1, x0, x8, x35, x207000, x207001, x207002, x208000, x208001, x208002 => if x35 = true then ((atomic_truth.f (x0 == 28)).bind fun t210 => (some (0, t210, ([] : List (S25)), 0))) else (if x8 = true then (atomic_Cell.j3 k x0 false x207000 x207001 x207002 x208000 x208001 x208002) else (if x207000 = 0 then (atomic_Cell.j3 k x0 (x208000 != 0) x207000 x207001 x207002 x208000 x208001 x208002) else (atomic_Cell.j3 k x0 true x207000 x207001 x207002 x208000 x208001 x208002)))
def atomic_Cell.j3 : Nat → Int → Bool → Int → Int → List (S25) → Int → Int → List (S25) → Option (Int × Int × (List (S25)) × Int)
 | 0, _, _, _, _, _, _, _, _ => none
 | k + 1, x0, x48, x207000, x207001, x207002, x208000, x208001, x208002 => if x48 = true then (some (0, 0, ([] : List (S25)), 5)) else (if x0 ≥ 27 then ((atomic_held.f x0 x207001 x208001).bind fun t211 => (some (0, t211, ([] : List (S25)), 0))) else ((atomic_reckon.f k x0 x207001 x208001).bind fun bt212 => (some (0, bt212.1, ([] : List (S25)), bt212.2))))
end
def atomic_Cell.f (k : Nat) (a0 : Int) (a1_0 : Int) (a1_1 : Int) (l1_2 : List (S25)) (a2_0 : Int) (a2_1 : Int) (l2_2 : List (S25)) : Option (Int × Int × (List (S25)) × Int) := if a0 = 27 then (atomic_Cell.j0 k a0 true a1_0 a1_1 l1_2 a2_0 a2_1 l2_2) else (atomic_Cell.j0 k a0 (a0 == 28) a1_0 a1_1 l1_2 a2_0 a2_1 l2_2)
theorem atomic_Cell.mono_l : ∀ k, (∀ y0 y1 y2 y3 y4 y5 y6 y7, LeO (atomic_Cell.j0 k y0 y1 y2 y3 y4 y5 y6 y7) (atomic_Cell.j0 (k + 1) y0 y1 y2 y3 y4 y5 y6 y7)) ∧ (∀ y0 y1 y2 y3 y4 y5 y6 y7 y8, LeO (atomic_Cell.j1 k y0 y1 y2 y3 y4 y5 y6 y7 y8) (atomic_Cell.j1 (k + 1) y0 y1 y2 y3 y4 y5 y6 y7 y8)) ∧ (∀ y0 y1 y2 y3 y4 y5 y6 y7 y8, LeO (atomic_Cell.j2 k y0 y1 y2 y3 y4 y5 y6 y7 y8) (atomic_Cell.j2 (k + 1) y0 y1 y2 y3 y4 y5 y6 y7 y8)) ∧ (∀ y0 y1 y2 y3 y4 y5 y6 y7, LeO (atomic_Cell.j3 k y0 y1 y2 y3 y4 y5 y6 y7) (atomic_Cell.j3 (k + 1) y0 y1 y2 y3 y4 y5 y6 y7))
 | 0 => ⟨fun _ _ _ _ _ _ _ _ r h => by simp [atomic_Cell.j0] at h, fun _ _ _ _ _ _ _ _ _ r h => by simp [atomic_Cell.j1] at h, fun _ _ _ _ _ _ _ _ _ r h => by simp [atomic_Cell.j2] at h, fun _ _ _ _ _ _ _ _ r h => by simp [atomic_Cell.j3] at h⟩
 | k + 1 => by
  obtain ⟨ih0, ih1, ih2, ih3⟩ := atomic_Cell.mono_l k
  refine ⟨?_, ?_, ?_, ?_⟩
  ·intro y0 y1 y2 y3 y4 y5 y6 y7
   unfold atomic_Cell.j0
   repeat' first
   | (with_reducible exact ih0 _ _ _ _ _ _ _ _)
   | (with_reducible exact ih1 _ _ _ _ _ _ _ _ _)
   | (with_reducible exact ih2 _ _ _ _ _ _ _ _ _)
   | (with_reducible exact ih3 _ _ _ _ _ _ _ _)
   | (with_reducible exact atomic_reckon.mono _ _ _ _)
   | (with_reducible exact LeO.refl _)
   | (with_reducible exact LeO.none _)
   | (with_reducible refine LeO.ite ?_ ?_)
   | (with_reducible refine LeO.bind ?_ (fun _ => ?_))




   | exact atomic_reckon.mono _ _ _ _



  ·intro y0 y1 y2 y3 y4 y5 y6 y7 y8
   unfold atomic_Cell.j1
   repeat' first
   | (with_reducible exact ih0 _ _ _ _ _ _ _ _)
   | (with_reducible exact ih1 _ _ _ _ _ _ _ _ _)
   | (with_reducible exact ih2 _ _ _ _ _ _ _ _ _)
   | (with_reducible exact ih3 _ _ _ _ _ _ _ _)
   | (with_reducible exact atomic_reckon.mono _ _ _ _)
   | (with_reducible exact LeO.refl _)
   | (with_reducible exact LeO.none _)
   | (with_reducible refine LeO.ite ?_ ?_)
   | (with_reducible refine LeO.bind ?_ (fun _ => ?_))




   | exact atomic_reckon.mono _ _ _ _



  ·intro y0 y1 y2 y3 y4 y5 y6 y7 y8
   unfold atomic_Cell.j2
   repeat' first
   | (with_reducible exact ih0 _ _ _ _ _ _ _ _)
   | (with_reducible exact ih1 _ _ _ _ _ _ _ _ _)
   | (with_reducible exact ih2 _ _ _ _ _ _ _ _ _)
   | (with_reducible exact ih3 _ _ _ _ _ _ _ _)
   | (with_reducible exact atomic_reckon.mono _ _ _ _)
   | (with_reducible exact LeO.refl _)
   | (with_reducible exact LeO.none _)
   | (with_reducible refine LeO.ite ?_ ?_)
   | (with_reducible refine LeO.bind ?_ (fun _ => ?_))




   | exact atomic_reckon.mono _ _ _ _



  ·intro y0 y1 y2 y3 y4 y5 y6 y7
   unfold atomic_Cell.j3
   repeat' first
   | (with_reducible exact ih0 _ _ _ _ _ _ _ _)
   | (with_reducible exact ih1 _ _ _ _ _ _ _ _ _)
   | (with_reducible exact ih2 _ _ _ _ _ _ _ _ _)
   | (with_reducible exact ih3 _ _ _ _ _ _ _ _)
   | (with_reducible exact atomic_reckon.mono _ _ _ _)
   | (with_reducible exact LeO.refl _)
   | (with_reducible exact LeO.none _)
   | (with_reducible refine LeO.ite ?_ ?_)
   | (with_reducible refine LeO.bind ?_ (fun _ => ?_))




   | exact atomic_reckon.mono _ _ _ _
theorem atomic_Cell.mono : ∀ a0 a1 a2 a3 a4 a5 a6 k, LeO (atomic_Cell.f k a0 a1 a2 a3 a4 a5 a6) (atomic_Cell.f (k + 1) a0 a1 a2 a3 a4 a5 a6) := by
 intro a0 a1 a2 a3 a4 a5 a6 k
 obtain ⟨ih0, ih1, ih2, ih3⟩ := atomic_Cell.mono_l k
 unfold atomic_Cell.f
 repeat' first
   | (with_reducible exact ih0 _ _ _ _ _ _ _ _)
   | (with_reducible exact ih1 _ _ _ _ _ _ _ _ _)
   | (with_reducible exact ih2 _ _ _ _ _ _ _ _ _)
   | (with_reducible exact ih3 _ _ _ _ _ _ _ _)
   | (with_reducible exact atomic_reckon.mono _ _ _ _)
   | (with_reducible exact LeO.refl _)
   | (with_reducible exact LeO.none _)
   | (with_reducible refine LeO.ite ?_ ?_)
   | (with_reducible refine LeO.bind ?_ (fun _ => ?_))




   | exact atomic_reckon.mono _ _ _ _
set_option maxHeartbeats 8000000 in
set_option maxRecDepth 100000 in
theorem atomic_Cell.calls (k : Nat) (a0 : Int) (a1_0 : Int) (a1_1 : Int) (A1_2 : Option Addr) (c1_2 : Nat) (l1_2 : List (S25)) (a2_0 : Int) (a2_1 : Int) (A2_2 : Option Addr) (c2_2 : Nat) (l2_2 : List (S25)) (r1 : Int) (r2 : Int) (r3 : List (S25)) (r4 : Int) (w : World) (hr1_2 : Kd.C k25 w A1_2 l1_2.length l1_2) (hc1_2 : l1_2.length ≤ c1_2) (hr2_2 : Kd.C k25 w A2_2 l2_2.length l2_2) (hc2_2 : l2_2.length ≤ c2_2) (h : atomic_Cell.f k a0 a1_0 a1_1 l1_2 a2_0 a2_1 l2_2 = some (r1, r2, r3, r4)) :
  Calls Try.prog 60 #[.int .i64 a0, .agg #[.int .i64 a1_0, .int .i64 a1_1, .slice A1_2 l1_2.length c1_2], .agg #[.int .i64 a2_0, .int .i64 a2_1, .slice A2_2 l2_2.length c2_2]] w fun e w' => ∃ v2_ : Value, e = .returned (.tuple #[.agg #[.int .i64 r1, .int .i64 r2, v2_], .int .i64 r4]) ∧ Kd.R k25 25 w' w.heap.size (fun _ => True) v2_ r3 ∧ Below w.heap.size w w' := by
 have hu43 := Try.underlying43
 have HR1_2 := gA hr1_2
 have HC1_2 := gA hc1_2
 clear hr1_2 hc1_2
 have HR2_2 := gA hr2_2
 have HC2_2 := gA hc2_2
 clear hr2_2 hc2_2
 have HB := gA (Below.refl w.heap.size w)
 have H : (if a0 = 27 then (atomic_Cell.j0 k a0 true a1_0 a1_1 l1_2 a2_0 a2_1 l2_2) else (atomic_Cell.j0 k a0 (a0 == 28) a1_0 a1_1 l1_2 a2_0 a2_1 l2_2)) = some (r1, r2, r3, r4) := h
 clear h
 have HC4 := gA H
 clear H
 go_enter Try.func60, Try.ntmps60
 go_upto_region 1 with (first | ((with_reducible refine gate_dst (N := 4) rfl ?_); refine box_event ?hg (N := 4) ?hd (cs := #[.int .i64 a1_0, .int .i64 a1_1, .slice A1_2 l1_2.length c1_2]) (t := 43) ?hr ?_; (case hd => rfl); (case hg => rfl); (case hr => first | (go_simp; done) | (go_simp; rfl)); intro gb206 hg w5 hbox hb; have BK206 := gA (hbox); have GW206 := gA ((by rw [hg]; exact (below_size (gB HB)) : w.heap.size ≤ gb206)); have GE206 := gA ((by rw [hg]; exact (below_size (gB HB)) : w.heap.size ≤ gb206)); replace HB := gA (below_step (gB HB) hb); clear hb hbox hg) | ((with_reducible refine gate_dst (N := 5) rfl ?_); refine box_event ?hg (N := 5) ?hd (cs := #[.int .i64 a2_0, .int .i64 a2_1, .slice A2_2 l2_2.length c2_2]) (t := 43) ?hr ?_; (case hd => rfl); (case hg => rfl); (case hr => first | (go_simp; done) | (go_simp; rfl)); intro gb207 hg w6 hbox hb; have BK207 := gA (hbox); have GW207 := gA ((by rw [hg]; exact (below_size (gB HB)) : w.heap.size ≤ gb207)); have GE207 := gA ((by rw [hg]; exact (below_size (gB HB)) : w.heap.size ≤ gb207)); replace HB := gA (below_step (by repeat first | exact gB HB | refine below_set ?_ GE206.out) hb); have NB206_207 := gA ((by rw [hg]; exact Nat.ne_of_lt (blk_lt (gK BK206)) : gb206 ≠ gb207)); have NB207_206 := gA ((by rw [hg]; exact Nat.ne_of_gt (blk_lt (gK BK206)) : gb207 ≠ gb206)); replace BK206 := gA (blk_below (gK BK206) hb); clear hb hbox hg) | ((with_reducible refine gate_dst (N := 6) rfl ?_); refine box_event ?hg (N := 6) ?hd (cs := #[.int .i64 0, .int .i64 0, .slice none 0 0]) (t := 43) ?hr ?_; (case hd => rfl); (case hg => rfl); (case hr => first | (go_simp; done) | (go_simp; rfl)); intro gb208 hg w7 hbox hb; have BK208 := gA (hbox); have GW208 := gA ((by rw [hg]; exact (below_size (gB HB)) : w.heap.size ≤ gb208)); have GE208 := gA ((by rw [hg]; exact (below_size (gB HB)) : w.heap.size ≤ gb208)); replace HB := gA (below_step (gB HB) hb); have NB206_208 := gA ((by rw [hg]; exact Nat.ne_of_lt (blk_lt (gK BK206)) : gb206 ≠ gb208)); have NB208_206 := gA ((by rw [hg]; exact Nat.ne_of_gt (blk_lt (gK BK206)) : gb208 ≠ gb206)); replace BK206 := gA (blk_below (gK BK206) hb); have NB207_208 := gA ((by rw [hg]; exact Nat.ne_of_lt (blk_lt (gK BK207)) : gb207 ≠ gb208)); have NB208_207 := gA ((by rw [hg]; exact Nat.ne_of_gt (blk_lt (gK BK207)) : gb208 ≠ gb207)); replace BK207 := gA (blk_below (gK BK207) hb); clear hb hbox hg))
 (try simp only [Act.put, List.setIfInBounds_toArray, List.set_cons_zero, List.set_cons_succ])
 go_cut [8] (fun v8 wc => ∃ (kq : Nat) (x8_3 : Bool), v8 = .bool x8_3 ∧ Aside0 (atomic_Cell.j0 kq a0 x8_3 a1_0 a1_1 l1_2 a2_0 a2_1 l2_2 = some (r1, r2, r3, r4)) ∧ Aside0 (kq ≤ k) ∧ Aside0 (wc.heap[gb206]? = some (.cells #[.int .i64 a1_0, .int .i64 a1_1, (.slice A1_2 l1_2.length c1_2)] 43 (0, 0))) ∧ Aside0 (wc.heap[gb207]? = some (.cells #[.int .i64 a2_0, .int .i64 a2_1, (.slice A2_2 l2_2.length c2_2)] 43 (0, 0))) ∧ Aside0 (wc.heap[gb208]? = some (.cells #[.int .i64 0, .int .i64 0, (.slice none 0 0)] 43 (0, 0))) ∧ Aside0 (Below w.heap.size w wc))
 case first =>
  have H := HC4.out; clear HC4
  by_cases c8 : a0 = 27
  ·rw [if_pos c8] at H
   have c8b0 : (a0 == 27) = true := beq_iff_eq.mpr c8
   have c8b1 : (a0 != 27) = false := bne_eq_false_iff_eq.mpr c8
   clear c8
   (first | rw [c8b0] | rw [c8b1] | (simp only [i64_w, i32_w]; rw [c8b0]) | skip)
   have H' := gA H
   clear H
   go_wp2
   all_goals (go_meet; (case rel => exact ⟨_, (true), (by first | rfl | (simp; done) | (simp [*]; done) | (exfalso; simp_all; done) | (exfalso; simp_all; omega)), H', ⟨by first | omega | exact Nat.le_refl _⟩, ⟨gK BK206⟩, ⟨gK BK207⟩, ⟨gK BK208⟩, ⟨gB HB⟩⟩))
  ·rw [if_neg c8] at H
   have c8b0 : (a0 == 27) = false := beq_eq_false_iff_ne.mpr c8
   have c8b1 : (a0 != 27) = true := bne_iff_ne.mpr c8
   (first | rw [c8b0] | rw [c8b1] | (simp only [i64_w, i32_w]; rw [c8b0]) | skip)
   have H' := gA H
   clear H
   go_wp2
   all_goals (go_meet; (case rel => exact ⟨_, ((a0 == 28)), (by first | rfl | (simp; done) | (simp [*]; done) | (exfalso; simp_all; done) | (exfalso; simp_all; omega)), H', ⟨by first | omega | exact Nat.le_refl _⟩, ⟨gK BK206⟩, ⟨gK BK207⟩, ⟨gK BK208⟩, ⟨gB HB⟩⟩))
 case rest =>
  clear HC4
  try clear c1
  try clear c2
  try clear p2
  try clear c6
  try clear c8
  try clear c8b0
  try clear c8b1
  obtain ⟨kq, x8_3, rfl, HA, HJ3, BK206, BK207, BK208, HB⟩ := hcut
  cases kq with
  | zero => exact absurd HA.out (by simp [atomic_Cell.j0])
  | succ kj3 =>
   have H := HA.out; clear HA
   simp only [atomic_Cell.j0] at H
   replace H := Option.bind_eq_some_iff.mp H
   obtain ⟨t209, A90, H⟩ := H
   replace H : (if t209 = true then (if x8_3 = true then (if a1_0 = 2 then (atomic_Cell.j1 kj3 a0 x8_3 true a1_0 a1_1 l1_2 a2_0 a2_1 l2_2) else (atomic_Cell.j1 kj3 a0 x8_3 (a2_0 == 2) a1_0 a1_1 l1_2 a2_0 a2_1 l2_2)) else (atomic_Cell.j1 kj3 a0 x8_3 false a1_0 a1_1 l1_2 a2_0 a2_1 l2_2)) else (some (0, 0, ([] : List (S25)), 1))) = some (r1, r2, r3, r4) := H
   have A9 := gA A90
   clear A90
   by_cases c10 : t209 = true
   ·subst c10
    have H1 : (if x8_3 = true then (if a1_0 = 2 then (atomic_Cell.j1 kj3 a0 x8_3 true a1_0 a1_1 l1_2 a2_0 a2_1 l2_2) else (atomic_Cell.j1 kj3 a0 x8_3 (a2_0 == 2) a1_0 a1_1 l1_2 a2_0 a2_1 l2_2)) else (atomic_Cell.j1 kj3 a0 x8_3 false a1_0 a1_1 l1_2 a2_0 a2_1 l2_2)) = some (r1, r2, r3, r4) := by rw [if_pos rfl] at H; exact H
    clear H; have H := H1; clear H1
    have HC11 := gA H
    clear H
    go_upto_region 4 with (first | ((with_reducible refine gate_callee (f := 53) rfl ?_); refine goesL_ (some 19) rfl rfl Try.func53 (by kernel_rfl) rfl #[.int .i64 a0] rfl (by (try simp only [List.map_toArray, List.map_cons, List.map_nil]); first | done | rfl | (simp only [List.length_drop, List.length_take]; rfl)) ?_; (with_reducible refine (atomic_Is.calls a0 true _ A9.out).mono ?_); rintro e w' ⟨rfl, ⟨nd, rfl⟩⟩; refine ⟨_, rfl, ?_⟩))
    (try simp only [Act.put, List.setIfInBounds_toArray, List.set_cons_zero, List.set_cons_succ])
    go_cut [22] (fun v22 wc => ∃ (kq : Nat) (x22_10 : Bool), v22 = .bool x22_10 ∧ Aside0 (atomic_Cell.j1 kq a0 x8_3 x22_10 a1_0 a1_1 l1_2 a2_0 a2_1 l2_2 = some (r1, r2, r3, r4)) ∧ Aside0 (kq ≤ kj3) ∧ Aside0 (wc.heap[gb206]? = some (.cells #[.int .i64 a1_0, .int .i64 a1_1, (.slice A1_2 l1_2.length c1_2)] 43 (0, 0))) ∧ Aside0 (wc.heap[gb207]? = some (.cells #[.int .i64 a2_0, .int .i64 a2_1, (.slice A2_2 l2_2.length c2_2)] 43 (0, 0))) ∧ Aside0 (wc.heap[gb208]? = some (.cells #[.int .i64 0, .int .i64 0, (.slice none 0 0)] 43 (0, 0))) ∧ Aside0 (Below w.heap.size w wc))
    case first =>
     have H := HC11.out; clear HC11
     by_cases c12 : x8_3 = true
     ·subst c12
      have H1 : (if a1_0 = 2 then (atomic_Cell.j1 kj3 a0 true true a1_0 a1_1 l1_2 a2_0 a2_1 l2_2) else (atomic_Cell.j1 kj3 a0 true (a2_0 == 2) a1_0 a1_1 l1_2 a2_0 a2_1 l2_2)) = some (r1, r2, r3, r4) := by rw [if_pos rfl] at H; exact H
      clear H; have H := H1; clear H1
      by_cases c13 : a1_0 = 2
      ·rw [if_pos c13] at H
       have c13b0 : (a1_0 == 2) = true := beq_iff_eq.mpr c13
       have c13b1 : (a1_0 != 2) = false := bne_eq_false_iff_eq.mpr c13
       clear c13
       (first | rw [c13b0] | rw [c13b1] | (simp only [i64_w, i32_w]; rw [c13b0]) | skip)
       have H' := gA H
       clear H
       have hnb14 := NB206_207.out
       have hnc14 := NB207_206.out
       have hnb15 := NB206_208.out
       have hnc15 := NB208_206.out
       obtain ⟨hcz16_0, hcz16_1, hcz16_2, hfz16_0, hfz16_1, hfz16_2⟩ := gz3 BK206
       go_wp2
       all_goals (go_meet; (case rel => exact ⟨_, (true), (by first | rfl | (simp; done) | (simp [*]; done) | (exfalso; simp_all; done) | (exfalso; simp_all; omega)), H', ⟨by have := HJ3.out; first | omega | exact Nat.le_refl _⟩, ⟨gK BK206⟩, ⟨gK BK207⟩, ⟨gK BK208⟩, ⟨gB HB⟩⟩))
      ·rw [if_neg c13] at H
       have c13b0 : (a1_0 == 2) = false := beq_eq_false_iff_ne.mpr c13
       have c13b1 : (a1_0 != 2) = true := bne_iff_ne.mpr c13
       (first | rw [c13b0] | rw [c13b1] | (simp only [i64_w, i32_w]; rw [c13b0]) | skip)
       have H' := gA H
       clear H
       have hnb17 := NB206_207.out
       have hnc17 := NB207_206.out
       have hnb18 := NB206_208.out
       have hnc18 := NB208_206.out
       obtain ⟨hcz19_0, hcz19_1, hcz19_2, hfz19_0, hfz19_1, hfz19_2⟩ := gz3 BK206
       have hnb20 := NB207_208.out
       have hnc20 := NB208_207.out
       obtain ⟨hcz21_0, hcz21_1, hcz21_2, hfz21_0, hfz21_1, hfz21_2⟩ := gz3 BK207
       go_wp2
       all_goals (go_meet; (case rel => exact ⟨_, ((a2_0 == 2)), (by first | rfl | (simp; done) | (simp [*]; done) | (exfalso; simp_all; done) | (exfalso; simp_all; omega)), H', ⟨by have := HJ3.out; first | omega | exact Nat.le_refl _⟩, ⟨gK BK206⟩, ⟨gK BK207⟩, ⟨gK BK208⟩, ⟨gB HB⟩⟩))
     ·replace c12 := Bool.eq_false_iff.mpr c12
      subst c12
      have H1 : (atomic_Cell.j1 kj3 a0 false false a1_0 a1_1 l1_2 a2_0 a2_1 l2_2) = some (r1, r2, r3, r4) := by rw [if_neg (show ¬ (false = true) by decide)] at H; exact H
      clear H; have H := H1; clear H1
      have H' := gA H
      clear H
      go_wp2
      all_goals (go_meet; (case rel => exact ⟨_, (false), (by first | rfl | (simp; done) | (simp [*]; done) | (exfalso; simp_all; done) | (exfalso; simp_all; omega)), H', ⟨by have := HJ3.out; first | omega | exact Nat.le_refl _⟩, ⟨gK BK206⟩, ⟨gK BK207⟩, ⟨gK BK208⟩, ⟨gB HB⟩⟩))
    case rest =>
     clear HC11
     try clear c1
     try clear c2
     try clear p2
     try clear c5
     try clear c6
     try clear c8
     try clear c8b0
     try clear c8b1
     try clear c10
     try clear c12
     try clear c13
     try clear c13b0
     try clear c13b1
     try clear c14
     try clear c15
     try clear c17
     try clear c18
     try clear c20
     try clear hcz16_0
     try clear hcz16_1
     try clear hcz16_2
     try clear hcz19_0
     try clear hcz19_1
     try clear hcz19_2
     try clear hcz21_0
     try clear hcz21_1
     try clear hcz21_2
     try clear hfz16_0
     try clear hfz16_1
     try clear hfz16_2
     try clear hfz19_0
     try clear hfz19_1
     try clear hfz19_2
     try clear hfz21_0
     try clear hfz21_1
     try clear hfz21_2
     try clear p2
     obtain ⟨kq, x22_10, rfl, HA, HJ10, BK206, BK207, BK208, HB⟩ := hcut
     cases kq with
     | zero => exact absurd HA.out (by simp [atomic_Cell.j1])
     | succ kj10 =>
      have H := HA.out; clear HA
      simp only [atomic_Cell.j1] at H
      by_cases c22 : x22_10 = true
      ·subst c22
       have H1 : (some (0, 0, ([] : List (S25)), 5)) = some (r1, r2, r3, r4) := by rw [if_pos rfl] at H; exact H
       clear H; have H := H1; clear H1
       simp only [Option.some.injEq, Prod.mk.injEq] at H
       obtain ⟨rfl, rfl, rfl, rfl⟩ := H
       have hnb23 := NB208_206.out
       have hnc23 := NB206_208.out
       have hnb24 := NB208_207.out
       have hnc24 := NB207_208.out
       obtain ⟨hcz25_0, hcz25_1, hcz25_2, hfz25_0, hfz25_1, hfz25_2⟩ := gz3 BK208
       go_wp2
       refine bodyPost_ret (results_ct rfl _ _ gb208 43 #[.int .i64 0, .int .i64 0, .slice none 0 0] (0, 0) _ rfl (by refine blk_put (cs := #[.int .i64 0, .int .i64 0, .slice none 0 0]) ?_ 2 _ rfl; refine blk_put (cs := #[.int .i64 0, .int .i64 0, .slice none 0 0]) ?_ 1 _ rfl; refine blk_put (cs := #[.int .i64 0, .int .i64 0, .slice none 0 0]) ?_ 0 _ rfl; exact gK BK208) Try.underlying43 rfl (by kernel_rfl)) rfl ?_
       exact ⟨_, rfl, by first | exact Kd.R_nil _ _ _ _ _ | exact Kd.N_nil _ _ _ _ _ | exact Kd.V_nil _ _ _ _ _ | exact Kd.Q_nil _ _ _ _ _ | exact Kd.S_nil _ _ _ _ _, by repeat first | exact gB HB | refine below_set ?_ GE206.out | refine below_set ?_ GE207.out | refine below_set ?_ GE208.out⟩
      ·replace c22 := Bool.eq_false_iff.mpr c22
       subst c22
       have H1 : (if x8_3 = true then (atomic_Cell.j2 kj10 a0 x8_3 (a1_0 != a2_0) a1_0 a1_1 l1_2 a2_0 a2_1 l2_2) else (atomic_Cell.j2 kj10 a0 x8_3 false a1_0 a1_1 l1_2 a2_0 a2_1 l2_2)) = some (r1, r2, r3, r4) := by rw [if_neg (show ¬ (false = true) by decide)] at H; exact H
       clear H; have H := H1; clear H1
       have HC26 := gA H
       clear H
       go_upto_region 6 with (fail)
       go_cut [35] (fun v35 wc => ∃ (kq : Nat) (x35_25 : Bool), v35 = .bool x35_25 ∧ Aside0 (atomic_Cell.j2 kq a0 x8_3 x35_25 a1_0 a1_1 l1_2 a2_0 a2_1 l2_2 = some (r1, r2, r3, r4)) ∧ Aside0 (kq ≤ kj10) ∧ Aside0 (wc.heap[gb206]? = some (.cells #[.int .i64 a1_0, .int .i64 a1_1, (.slice A1_2 l1_2.length c1_2)] 43 (0, 0))) ∧ Aside0 (wc.heap[gb207]? = some (.cells #[.int .i64 a2_0, .int .i64 a2_1, (.slice A2_2 l2_2.length c2_2)] 43 (0, 0))) ∧ Aside0 (wc.heap[gb208]? = some (.cells #[.int .i64 0, .int .i64 0, (.slice none 0 0)] 43 (0, 0))) ∧ Aside0 (Below w.heap.size w wc))
       case first =>
        have H := HC26.out; clear HC26
        by_cases c27 : x8_3 = true
        ·subst c27
         have H1 : (atomic_Cell.j2 kj10 a0 true (a1_0 != a2_0) a1_0 a1_1 l1_2 a2_0 a2_1 l2_2) = some (r1, r2, r3, r4) := by rw [if_pos rfl] at H; exact H
         clear H; have H := H1; clear H1
         have H' := gA H
         clear H
         have hnb28 := NB206_207.out
         have hnc28 := NB207_206.out
         have hnb29 := NB206_208.out
         have hnc29 := NB208_206.out
         obtain ⟨hcz30_0, hcz30_1, hcz30_2, hfz30_0, hfz30_1, hfz30_2⟩ := gz3 BK206
         have hnb31 := NB207_208.out
         have hnc31 := NB208_207.out
         obtain ⟨hcz32_0, hcz32_1, hcz32_2, hfz32_0, hfz32_1, hfz32_2⟩ := gz3 BK207
         go_wp2
         all_goals (go_meet; (case rel => exact ⟨_, ((a1_0 != a2_0)), (by first | rfl | (simp; done) | (simp [*]; done) | (exfalso; simp_all; done) | (exfalso; simp_all; omega)), H', ⟨by have := HJ3.out; have := HJ10.out; first | omega | exact Nat.le_refl _⟩, ⟨gK BK206⟩, ⟨gK BK207⟩, ⟨gK BK208⟩, ⟨gB HB⟩⟩))
        ·replace c27 := Bool.eq_false_iff.mpr c27
         subst c27
         have H1 : (atomic_Cell.j2 kj10 a0 false false a1_0 a1_1 l1_2 a2_0 a2_1 l2_2) = some (r1, r2, r3, r4) := by rw [if_neg (show ¬ (false = true) by decide)] at H; exact H
         clear H; have H := H1; clear H1
         have H' := gA H
         clear H
         go_wp2
         all_goals (go_meet; (case rel => exact ⟨_, (false), (by first | rfl | (simp; done) | (simp [*]; done) | (exfalso; simp_all; done) | (exfalso; simp_all; omega)), H', ⟨by have := HJ3.out; have := HJ10.out; first | omega | exact Nat.le_refl _⟩, ⟨gK BK206⟩, ⟨gK BK207⟩, ⟨gK BK208⟩, ⟨gB HB⟩⟩))
       case rest =>
        clear HC26
        try clear c1
        try clear c2
        try clear p2
        try clear c3
        try clear c5
        try clear c6
        try clear c8
        try clear c8b0
        try clear c8b1
        try clear c10
        try clear c12
        try clear c13
        try clear c13b0
        try clear c13b1
        try clear c14
        try clear c15
        try clear c17
        try clear c18
        try clear c20
        try clear c22
        try clear c23
        try clear c24
        try clear c27
        try clear c28
        try clear c29
        try clear c31
        try clear hcz16_0
        try clear hcz16_1
        try clear hcz16_2
        try clear hcz19_0
        try clear hcz19_1
        try clear hcz19_2
        try clear hcz21_0
        try clear hcz21_1
        try clear hcz21_2
        try clear hcz25_0
        try clear hcz25_1
        try clear hcz25_2
        try clear hcz30_0
        try clear hcz30_1
        try clear hcz30_2
        try clear hcz32_0
        try clear hcz32_1
        try clear hcz32_2
        try clear hfz16_0
        try clear hfz16_1
        try clear hfz16_2
        try clear hfz19_0
        try clear hfz19_1
        try clear hfz19_2
        try clear hfz21_0
        try clear hfz21_1
        try clear hfz21_2
        try clear hfz25_0
        try clear hfz25_1
        try clear hfz25_2
        try clear hfz30_0
        try clear hfz30_1
        try clear hfz30_2
        try clear hfz32_0
        try clear hfz32_1
        try clear hfz32_2
        try clear p2
        obtain ⟨kq, x35_25, rfl, HA, HJ25, BK206, BK207, BK208, HB⟩ := hcut
        cases kq with
        | zero => exact absurd HA.out (by simp [atomic_Cell.j2])
        | succ kj25 =>
         have H := HA.out; clear HA
         simp only [atomic_Cell.j2] at H
         by_cases c33 : x35_25 = true
         ·subst c33
          have H1 : ((atomic_truth.f (a0 == 28)).bind fun t210 => (some (0, t210, ([] : List (S25)), 0))) = some (r1, r2, r3, r4) := by rw [if_pos rfl] at H; exact H
          clear H; have H := H1; clear H1
          replace H := Option.bind_eq_some_iff.mp H
          obtain ⟨t210, A340, H⟩ := H
          replace H : (some (0, t210, ([] : List (S25)), 0)) = some (r1, r2, r3, r4) := H
          have A34 := gA A340
          clear A340
          simp only [Option.some.injEq, Prod.mk.injEq] at H
          obtain ⟨rfl, rfl, rfl, rfl⟩ := H
          go_wp2_with (first | ((with_reducible refine gate_callee (f := 71) rfl ?_); refine goesL_ (some 46) rfl rfl Try.func71 (by kernel_rfl) rfl #[.bool (a0 == 28)] rfl (by (try simp only [List.map_toArray, List.map_cons, List.map_nil]); first | done | rfl | (simp only [List.length_drop, List.length_take]; rfl)) ?_; (with_reducible refine (atomic_truth.calls (a0 == 28) t210 _ A34.out).mono ?_); rintro e w' ⟨rfl, ⟨nd, rfl⟩⟩; refine ⟨_, rfl, ?_⟩; (try (rw [drewN_self wc]; generalize hq_ : World.drewN wc _ = wc; have n0_ : Aside0 (wc.heap[gb206]? = some (.cells #[.int .i64 a1_0, .int .i64 a1_1, .slice A1_2 l1_2.length c1_2] 43 (0, 0))) := ⟨by rw [← hq_]; exact (gK BK206)⟩; have n1_ : Aside0 (wc.heap[gb207]? = some (.cells #[.int .i64 a2_0, .int .i64 a2_1, .slice A2_2 l2_2.length c2_2] 43 (0, 0))) := ⟨by rw [← hq_]; exact (gK BK207)⟩; have n2_ : Aside0 (wc.heap[gb208]? = some (.cells #[.int .i64 0, .int .i64 0, .slice none 0 0] 43 (0, 0))) := ⟨by rw [← hq_]; exact (gK BK208)⟩; have n3_ : Aside0 (Below w.heap.size w wc) := ⟨by rw [← hq_]; exact (gB HB)⟩; clear BK206 BK207 BK208 HB hq_; have BK206 := n0_; have BK207 := n1_; have BK208 := n2_; have HB := n3_; clear n0_ n1_ n2_ n3_)); have hnb35 := NB208_206.out; have hnc35 := NB206_208.out; have hnb36 := NB208_207.out; have hnc36 := NB207_208.out; obtain ⟨hcz37_0, hcz37_1, hcz37_2, hfz37_0, hfz37_1, hfz37_2⟩ := gz3 BK208))
          refine bodyPost_ret (results_ct rfl _ _ gb208 43 #[.int .i64 0, .int .i64 t210, .slice none 0 0] (0, 0) _ rfl (by refine blk_put (cs := #[.int .i64 0, .int .i64 t210, .slice none 0 0]) ?_ 2 _ rfl; refine blk_put (cs := #[.int .i64 0, .int .i64 0, .slice none 0 0]) ?_ 1 _ rfl; refine blk_put (cs := #[.int .i64 0, .int .i64 0, .slice none 0 0]) ?_ 0 _ rfl; exact gK BK208) Try.underlying43 rfl (by kernel_rfl)) rfl ?_
          exact ⟨_, rfl, by first | exact Kd.R_nil _ _ _ _ _ | exact Kd.N_nil _ _ _ _ _ | exact Kd.V_nil _ _ _ _ _ | exact Kd.Q_nil _ _ _ _ _ | exact Kd.S_nil _ _ _ _ _, by repeat first | exact gB HB | refine below_set ?_ GE206.out | refine below_set ?_ GE207.out | refine below_set ?_ GE208.out⟩
         ·replace c33 := Bool.eq_false_iff.mpr c33
          subst c33
          have H1 : (if x8_3 = true then (atomic_Cell.j3 kj25 a0 false a1_0 a1_1 l1_2 a2_0 a2_1 l2_2) else (if a1_0 = 0 then (atomic_Cell.j3 kj25 a0 (a2_0 != 0) a1_0 a1_1 l1_2 a2_0 a2_1 l2_2) else (atomic_Cell.j3 kj25 a0 true a1_0 a1_1 l1_2 a2_0 a2_1 l2_2))) = some (r1, r2, r3, r4) := by rw [if_neg (show ¬ (false = true) by decide)] at H; exact H
          clear H; have H := H1; clear H1
          have HC38 := gA H
          clear H
          go_upto_region 8 with (fail)
          go_cut [48] (fun v48 wc => ∃ (kq : Nat) (x48_37 : Bool), v48 = .bool x48_37 ∧ Aside0 (atomic_Cell.j3 kq a0 x48_37 a1_0 a1_1 l1_2 a2_0 a2_1 l2_2 = some (r1, r2, r3, r4)) ∧ Aside0 (kq ≤ kj25) ∧ Aside0 (wc.heap[gb206]? = some (.cells #[.int .i64 a1_0, .int .i64 a1_1, (.slice A1_2 l1_2.length c1_2)] 43 (0, 0))) ∧ Aside0 (wc.heap[gb207]? = some (.cells #[.int .i64 a2_0, .int .i64 a2_1, (.slice A2_2 l2_2.length c2_2)] 43 (0, 0))) ∧ Aside0 (wc.heap[gb208]? = some (.cells #[.int .i64 0, .int .i64 0, (.slice none 0 0)] 43 (0, 0))) ∧ Aside0 (Below w.heap.size w wc))
          case first =>
           have H := HC38.out; clear HC38
           by_cases c39 : x8_3 = true
           ·subst c39
            have H1 : (atomic_Cell.j3 kj25 a0 false a1_0 a1_1 l1_2 a2_0 a2_1 l2_2) = some (r1, r2, r3, r4) := by rw [if_pos rfl] at H; exact H
            clear H; have H := H1; clear H1
            have H' := gA H
            clear H
            go_wp2
            all_goals (go_meet; (case rel => exact ⟨_, (false), (by first | rfl | (simp; done) | (simp [*]; done) | (exfalso; simp_all; done) | (exfalso; simp_all; omega)), H', ⟨by have := HJ3.out; have := HJ10.out; have := HJ25.out; first | omega | exact Nat.le_refl _⟩, ⟨gK BK206⟩, ⟨gK BK207⟩, ⟨gK BK208⟩, ⟨gB HB⟩⟩))
           ·replace c39 := Bool.eq_false_iff.mpr c39
            subst c39
            have H1 : (if a1_0 = 0 then (atomic_Cell.j3 kj25 a0 (a2_0 != 0) a1_0 a1_1 l1_2 a2_0 a2_1 l2_2) else (atomic_Cell.j3 kj25 a0 true a1_0 a1_1 l1_2 a2_0 a2_1 l2_2)) = some (r1, r2, r3, r4) := by rw [if_neg (show ¬ (false = true) by decide)] at H; exact H
            clear H; have H := H1; clear H1
            by_cases c40 : a1_0 = 0
            ·rw [if_pos c40] at H
             have c40b0 : (a1_0 == 0) = true := beq_iff_eq.mpr c40
             have c40b1 : (a1_0 != 0) = false := bne_eq_false_iff_eq.mpr c40
             clear c40
             (first | rw [c40b0] | rw [c40b1] | (simp only [i64_w, i32_w]; rw [c40b0]) | skip)
             have H' := gA H
             clear H
             have hnb41 := NB206_207.out
             have hnc41 := NB207_206.out
             have hnb42 := NB206_208.out
             have hnc42 := NB208_206.out
             obtain ⟨hcz43_0, hcz43_1, hcz43_2, hfz43_0, hfz43_1, hfz43_2⟩ := gz3 BK206
             have hnb44 := NB207_208.out
             have hnc44 := NB208_207.out
             obtain ⟨hcz45_0, hcz45_1, hcz45_2, hfz45_0, hfz45_1, hfz45_2⟩ := gz3 BK207
             go_wp2
             all_goals (go_meet; (case rel => exact ⟨_, ((a2_0 != 0)), (by first | rfl | (simp; done) | (simp [*]; done) | (exfalso; simp_all; done) | (exfalso; simp_all; omega)), H', ⟨by have := HJ3.out; have := HJ10.out; have := HJ25.out; first | omega | exact Nat.le_refl _⟩, ⟨gK BK206⟩, ⟨gK BK207⟩, ⟨gK BK208⟩, ⟨gB HB⟩⟩))
            ·rw [if_neg c40] at H
             have c40b0 : (a1_0 == 0) = false := beq_eq_false_iff_ne.mpr c40
             have c40b1 : (a1_0 != 0) = true := bne_iff_ne.mpr c40
             (first | rw [c40b0] | rw [c40b1] | (simp only [i64_w, i32_w]; rw [c40b0]) | skip)
             have H' := gA H
             clear H
             have hnb46 := NB206_207.out
             have hnc46 := NB207_206.out
             have hnb47 := NB206_208.out
             have hnc47 := NB208_206.out
             obtain ⟨hcz48_0, hcz48_1, hcz48_2, hfz48_0, hfz48_1, hfz48_2⟩ := gz3 BK206
             go_wp2
             all_goals (go_meet; (case rel => exact ⟨_, (true), (by first | rfl | (simp; done) | (simp [*]; done) | (exfalso; simp_all; done) | (exfalso; simp_all; omega)), H', ⟨by have := HJ3.out; have := HJ10.out; have := HJ25.out; first | omega | exact Nat.le_refl _⟩, ⟨gK BK206⟩, ⟨gK BK207⟩, ⟨gK BK208⟩, ⟨gB HB⟩⟩))
          case rest =>
           clear HC38
           try clear c1
           try clear c2
           try clear p2
           try clear c3
           try clear c4
           try clear c5
           try clear c6
           try clear c7
           try clear c8
           try clear c8b0
           try clear c8b1
           try clear c10
           try clear c12
           try clear c13
           try clear c13b0
           try clear c13b1
           try clear c14
           try clear c15
           try clear c17
           try clear c18
           try clear c20
           try clear c22
           try clear c23
           try clear c24
           try clear c27
           try clear c28
           try clear c29
           try clear c31
           try clear c33
           try clear c35
           try clear c36
           try clear c39
           try clear c40
           try clear c40b0
           try clear c40b1
           try clear c41
           try clear c42
           try clear c44
           try clear c46
           try clear c47
           try clear hcz16_0
           try clear hcz16_1
           try clear hcz16_2
           try clear hcz19_0
           try clear hcz19_1
           try clear hcz19_2
           try clear hcz21_0
           try clear hcz21_1
           try clear hcz21_2
           try clear hcz25_0
           try clear hcz25_1
           try clear hcz25_2
           try clear hcz30_0
           try clear hcz30_1
           try clear hcz30_2
           try clear hcz32_0
           try clear hcz32_1
           try clear hcz32_2
           try clear hcz37_0
           try clear hcz37_1
           try clear hcz37_2
           try clear hcz43_0
           try clear hcz43_1
           try clear hcz43_2
           try clear hcz45_0
           try clear hcz45_1
           try clear hcz45_2
           try clear hcz48_0
           try clear hcz48_1
           try clear hcz48_2
           try clear hfz16_0
           try clear hfz16_1
           try clear hfz16_2
           try clear hfz19_0
           try clear hfz19_1
           try clear hfz19_2
           try clear hfz21_0
           try clear hfz21_1
           try clear hfz21_2
           try clear hfz25_0
           try clear hfz25_1
           try clear hfz25_2
           try clear hfz30_0
           try clear hfz30_1
           try clear hfz30_2
           try clear hfz32_0
           try clear hfz32_1
           try clear hfz32_2
           try clear hfz37_0
           try clear hfz37_1
           try clear hfz37_2
           try clear hfz43_0
           try clear hfz43_1
           try clear hfz43_2
           try clear hfz45_0
           try clear hfz45_1
           try clear hfz45_2
           try clear hfz48_0
           try clear hfz48_1
           try clear hfz48_2
           try clear p2
           obtain ⟨kq, x48_37, rfl, HA, HJ37, BK206, BK207, BK208, HB⟩ := hcut
           cases kq with
           | zero => exact absurd HA.out (by simp [atomic_Cell.j3])
           | succ kj37 =>
            have H := HA.out; clear HA
            simp only [atomic_Cell.j3] at H
            by_cases c49 : x48_37 = true
            ·subst c49
             have H1 : (some (0, 0, ([] : List (S25)), 5)) = some (r1, r2, r3, r4) := by rw [if_pos rfl] at H; exact H
             clear H; have H := H1; clear H1
             simp only [Option.some.injEq, Prod.mk.injEq] at H
             obtain ⟨rfl, rfl, rfl, rfl⟩ := H
             have hnb50 := NB208_206.out
             have hnc50 := NB206_208.out
             have hnb51 := NB208_207.out
             have hnc51 := NB207_208.out
             obtain ⟨hcz52_0, hcz52_1, hcz52_2, hfz52_0, hfz52_1, hfz52_2⟩ := gz3 BK208
             go_wp2
             refine bodyPost_ret (results_ct rfl _ _ gb208 43 #[.int .i64 0, .int .i64 0, .slice none 0 0] (0, 0) _ rfl (by refine blk_put (cs := #[.int .i64 0, .int .i64 0, .slice none 0 0]) ?_ 2 _ rfl; refine blk_put (cs := #[.int .i64 0, .int .i64 0, .slice none 0 0]) ?_ 1 _ rfl; refine blk_put (cs := #[.int .i64 0, .int .i64 0, .slice none 0 0]) ?_ 0 _ rfl; exact gK BK208) Try.underlying43 rfl (by kernel_rfl)) rfl ?_
             exact ⟨_, rfl, by first | exact Kd.R_nil _ _ _ _ _ | exact Kd.N_nil _ _ _ _ _ | exact Kd.V_nil _ _ _ _ _ | exact Kd.Q_nil _ _ _ _ _ | exact Kd.S_nil _ _ _ _ _, by repeat first | exact gB HB | refine below_set ?_ GE206.out | refine below_set ?_ GE207.out | refine below_set ?_ GE208.out⟩
            ·replace c49 := Bool.eq_false_iff.mpr c49
             subst c49
             have H1 : (if a0 ≥ 27 then ((atomic_held.f a0 a1_1 a2_1).bind fun t211 => (some (0, t211, ([] : List (S25)), 0))) else ((atomic_reckon.f kj37 a0 a1_1 a2_1).bind fun bt212 => (some (0, bt212.1, ([] : List (S25)), bt212.2)))) = some (r1, r2, r3, r4) := by rw [if_neg (show ¬ (false = true) by decide)] at H; exact H
             clear H; have H := H1; clear H1
             by_cases c53 : a0 ≥ 27
             ·rw [if_pos c53] at H
              have c53b0 : decide (27 ≤ a0) = true := decide_eq_true c53
              clear c53
              replace H := Option.bind_eq_some_iff.mp H
              obtain ⟨t211, A540, H⟩ := H
              replace H : (some (0, t211, ([] : List (S25)), 0)) = some (r1, r2, r3, r4) := H
              have A54 := gA A540
              clear A540
              simp only [Option.some.injEq, Prod.mk.injEq] at H
              obtain ⟨rfl, rfl, rfl, rfl⟩ := H
              have hnb55 := NB206_207.out
              have hnc55 := NB207_206.out
              have hnb56 := NB206_208.out
              have hnc56 := NB208_206.out
              obtain ⟨hcz57_0, hcz57_1, hcz57_2, hfz57_0, hfz57_1, hfz57_2⟩ := gz3 BK206
              have hnb58 := NB207_208.out
              have hnc58 := NB208_207.out
              obtain ⟨hcz59_0, hcz59_1, hcz59_2, hfz59_0, hfz59_1, hfz59_2⟩ := gz3 BK207
              go_wp2_with (first | ((with_reducible refine gate_callee (f := 72) rfl ?_); refine goesL_ (some 70) rfl rfl Try.func72 (by kernel_rfl) rfl #[.int .i64 a0, .int .i64 a1_1, .int .i64 a2_1] rfl (by (try simp only [List.map_toArray, List.map_cons, List.map_nil]); first | done | rfl | (simp only [List.length_drop, List.length_take]; rfl)) ?_; (with_reducible refine (atomic_held.calls a0 a1_1 a2_1 t211 _ A54.out).mono ?_); rintro e w60 ⟨rfl, hb⟩; refine ⟨_, rfl, ?_⟩; replace BK206 := gA (blk_below (gK BK206) hb); replace BK207 := gA (blk_below (gK BK207) hb); replace BK208 := gA (blk_below (gK BK208) hb); replace HB := gA (below_step (gB HB) hb); (try clear hb); obtain ⟨hcz61_0, hcz61_1, hcz61_2, hfz61_0, hfz61_1, hfz61_2⟩ := gz3 BK208))
              refine bodyPost_ret (results_ct rfl _ _ gb208 43 #[.int .i64 0, .int .i64 t211, .slice none 0 0] (0, 0) _ rfl (by refine blk_put (cs := #[.int .i64 0, .int .i64 t211, .slice none 0 0]) ?_ 2 _ rfl; refine blk_put (cs := #[.int .i64 0, .int .i64 0, .slice none 0 0]) ?_ 1 _ rfl; refine blk_put (cs := #[.int .i64 0, .int .i64 0, .slice none 0 0]) ?_ 0 _ rfl; exact gK BK208) Try.underlying43 rfl (by kernel_rfl)) rfl ?_
              exact ⟨_, rfl, by first | exact Kd.R_nil _ _ _ _ _ | exact Kd.N_nil _ _ _ _ _ | exact Kd.V_nil _ _ _ _ _ | exact Kd.Q_nil _ _ _ _ _ | exact Kd.S_nil _ _ _ _ _, by repeat first | exact gB HB | refine below_set ?_ GE206.out | refine below_set ?_ GE207.out | refine below_set ?_ GE208.out⟩
             ·rw [if_neg c53] at H
              have c53b0 : decide (27 ≤ a0) = false := decide_eq_false c53
              clear c53
              replace H := Option.bind_eq_some_iff.mp H
              obtain ⟨⟨t212, t213⟩, A620, H⟩ := H
              replace H : (some (0, t212, ([] : List (S25)), t213)) = some (r1, r2, r3, r4) := H
              have A62 := gA A620
              clear A620
              simp only [Option.some.injEq, Prod.mk.injEq] at H
              obtain ⟨rfl, rfl, rfl, rfl⟩ := H
              have hnb63 := NB206_207.out
              have hnc63 := NB207_206.out
              have hnb64 := NB206_208.out
              have hnc64 := NB208_206.out
              obtain ⟨hcz65_0, hcz65_1, hcz65_2, hfz65_0, hfz65_1, hfz65_2⟩ := gz3 BK206
              have hnb66 := NB207_208.out
              have hnc66 := NB208_207.out
              obtain ⟨hcz67_0, hcz67_1, hcz67_2, hfz67_0, hfz67_1, hfz67_2⟩ := gz3 BK207
              go_wp2_with (first | ((with_reducible refine gate_callee (f := 73) rfl ?_); refine goesL_ (some 78) rfl rfl Try.func73 (by kernel_rfl) rfl #[.int .i64 a0, .int .i64 a1_1, .int .i64 a2_1] rfl (by (try simp only [List.map_toArray, List.map_cons, List.map_nil]); first | done | rfl | (simp only [List.length_drop, List.length_take]; rfl)) ?_; (with_reducible refine (atomic_reckon.calls kj37 a0 a1_1 a2_1 t212 t213 _ A62.out).mono ?_); rintro e w68 ⟨rfl, hb⟩; refine ⟨_, rfl, ?_⟩; replace BK206 := gA (blk_below (gK BK206) hb); replace BK207 := gA (blk_below (gK BK207) hb); replace BK208 := gA (blk_below (gK BK208) hb); replace HB := gA (below_step (gB HB) hb); (try clear hb); obtain ⟨hcz69_0, hcz69_1, hcz69_2, hfz69_0, hfz69_1, hfz69_2⟩ := gz3 BK208))
              refine bodyPost_ret (results_ct rfl _ _ gb208 43 #[.int .i64 0, .int .i64 t212, .slice none 0 0] (0, 0) _ rfl (by refine blk_put (cs := #[.int .i64 0, .int .i64 t212, .slice none 0 0]) ?_ 2 _ rfl; refine blk_put (cs := #[.int .i64 0, .int .i64 0, .slice none 0 0]) ?_ 1 _ rfl; refine blk_put (cs := #[.int .i64 0, .int .i64 0, .slice none 0 0]) ?_ 0 _ rfl; exact gK BK208) Try.underlying43 rfl (by kernel_rfl)) rfl ?_
              exact ⟨_, rfl, by first | exact Kd.R_nil _ _ _ _ _ | exact Kd.N_nil _ _ _ _ _ | exact Kd.V_nil _ _ _ _ _ | exact Kd.Q_nil _ _ _ _ _ | exact Kd.S_nil _ _ _ _ _, by repeat first | exact gB HB | refine below_set ?_ GE206.out | refine below_set ?_ GE207.out | refine below_set ?_ GE208.out⟩
   ·replace c10 := Bool.eq_false_iff.mpr c10
    subst c10
    have H1 : (some (0, 0, ([] : List (S25)), 1)) = some (r1, r2, r3, r4) := by rw [if_neg (show ¬ (false = true) by decide)] at H; exact H
    clear H; have H := H1; clear H1
    simp only [Option.some.injEq, Prod.mk.injEq] at H
    obtain ⟨rfl, rfl, rfl, rfl⟩ := H
    go_wp2_with (first | ((with_reducible refine gate_callee (f := 53) rfl ?_); refine goesL_ (some 19) rfl rfl Try.func53 (by kernel_rfl) rfl #[.int .i64 a0] rfl (by (try simp only [List.map_toArray, List.map_cons, List.map_nil]); first | done | rfl | (simp only [List.length_drop, List.length_take]; rfl)) ?_; (with_reducible refine (atomic_Is.calls a0 false _ A9.out).mono ?_); rintro e w' ⟨rfl, ⟨nd, rfl⟩⟩; refine ⟨_, rfl, ?_⟩; (try (rw [drewN_self wc]; generalize hq_ : World.drewN wc _ = wc; have n0_ : Aside0 (wc.heap[gb206]? = some (.cells #[.int .i64 a1_0, .int .i64 a1_1, .slice A1_2 l1_2.length c1_2] 43 (0, 0))) := ⟨by rw [← hq_]; exact (gK BK206)⟩; have n1_ : Aside0 (wc.heap[gb207]? = some (.cells #[.int .i64 a2_0, .int .i64 a2_1, .slice A2_2 l2_2.length c2_2] 43 (0, 0))) := ⟨by rw [← hq_]; exact (gK BK207)⟩; have n2_ : Aside0 (wc.heap[gb208]? = some (.cells #[.int .i64 0, .int .i64 0, .slice none 0 0] 43 (0, 0))) := ⟨by rw [← hq_]; exact (gK BK208)⟩; have n3_ : Aside0 (Below w.heap.size w wc) := ⟨by rw [← hq_]; exact (gB HB)⟩; clear BK206 BK207 BK208 HB hq_; have BK206 := n0_; have BK207 := n1_; have BK208 := n2_; have HB := n3_; clear n0_ n1_ n2_ n3_)); have hnb70 := NB208_206.out; have hnc70 := NB206_208.out; have hnb71 := NB208_207.out; have hnc71 := NB207_208.out; obtain ⟨hcz72_0, hcz72_1, hcz72_2, hfz72_0, hfz72_1, hfz72_2⟩ := gz3 BK208))
    refine bodyPost_ret (results_ct rfl _ _ gb208 43 #[.int .i64 0, .int .i64 0, .slice none 0 0] (0, 0) _ rfl (by refine blk_put (cs := #[.int .i64 0, .int .i64 0, .slice none 0 0]) ?_ 2 _ rfl; refine blk_put (cs := #[.int .i64 0, .int .i64 0, .slice none 0 0]) ?_ 1 _ rfl; refine blk_put (cs := #[.int .i64 0, .int .i64 0, .slice none 0 0]) ?_ 0 _ rfl; exact gK BK208) Try.underlying43 rfl (by kernel_rfl)) rfl ?_
    exact ⟨_, rfl, by first | exact Kd.R_nil _ _ _ _ _ | exact Kd.N_nil _ _ _ _ _ | exact Kd.V_nil _ _ _ _ _ | exact Kd.Q_nil _ _ _ _ _ | exact Kd.S_nil _ _ _ _ _, by repeat first | exact gB HB | refine below_set ?_ GE206.out | refine below_set ?_ GE207.out | refine below_set ?_ GE208.out⟩
def fold_F_of.f (k : Nat) (a0_0 : Int) (a0_1 : Bool) (a1_0 : Int) (a1_1 : Int) (l1_2 : List (S25)) (a2_0 : Int) (a2_1 : Int) (l2_2 : List (S25)) : Option (Int × Int × (List (S25)) × Int) := if a0_1 = true then ((atomic_Cell.f k a0_0 a2_0 a2_1 l2_2 a1_0 a1_1 l1_2).bind fun bt218 => (some (bt218.1, bt218.2.1, bt218.2.2.1, bt218.2.2.2))) else ((atomic_Cell.f k a0_0 a1_0 a1_1 l1_2 a2_0 a2_1 l2_2).bind fun bt224 => (some (bt224.1, bt224.2.1, bt224.2.2.1, bt224.2.2.2)))
theorem fold_F_of.mono : ∀ a0 a1 a2 a3 a4 a5 a6 a7 k, LeO (fold_F_of.f k a0 a1 a2 a3 a4 a5 a6 a7) (fold_F_of.f (k + 1) a0 a1 a2 a3 a4 a5 a6 a7) := by
 intro a0 a1 a2 a3 a4 a5 a6 a7 k
 unfold fold_F_of.f
 repeat' first
   | (with_reducible exact atomic_Cell.mono _ _ _ _ _ _ _ _)
   | (with_reducible exact LeO.refl _)
   | (with_reducible exact LeO.none _)
   | (with_reducible refine LeO.ite ?_ ?_)
   | (with_reducible refine LeO.bind ?_ (fun _ => ?_))
   | exact atomic_Cell.mono _ _ _ _ _ _ _ _
set_option maxHeartbeats 8000000 in
set_option maxRecDepth 100000 in
theorem fold_F_of.calls (k : Nat) (a0_0 : Int) (a0_1 : Bool) (a1_0 : Int) (a1_1 : Int) (A1_2 : Option Addr) (c1_2 : Nat) (l1_2 : List (S25)) (a2_0 : Int) (a2_1 : Int) (A2_2 : Option Addr) (c2_2 : Nat) (l2_2 : List (S25)) (r1 : Int) (r2 : Int) (r3 : List (S25)) (r4 : Int) (w : World) (hr1_2 : Kd.C k25 w A1_2 l1_2.length l1_2) (hc1_2 : l1_2.length ≤ c1_2) (hr2_2 : Kd.C k25 w A2_2 l2_2.length l2_2) (hc2_2 : l2_2.length ≤ c2_2) (h : fold_F_of.f k a0_0 a0_1 a1_0 a1_1 l1_2 a2_0 a2_1 l2_2 = some (r1, r2, r3, r4)) :
  Calls Try.prog 42 #[.agg #[.int .i64 a0_0, .bool a0_1], .agg #[.int .i64 a1_0, .int .i64 a1_1, .slice A1_2 l1_2.length c1_2], .agg #[.int .i64 a2_0, .int .i64 a2_1, .slice A2_2 l2_2.length c2_2]] w fun e w' => ∃ v2_ : Value, e = .returned (.tuple #[.agg #[.int .i64 r1, .int .i64 r2, v2_], .int .i64 r4]) ∧ Kd.R k25 25 w' w.heap.size (fun _ => True) v2_ r3 ∧ Below w.heap.size w w' := by
 have hu32 := Try.underlying32
 have hu43 := Try.underlying43
 have HR1_2 := gA hr1_2
 have HC1_2 := gA hc1_2
 clear hr1_2 hc1_2
 have HR2_2 := gA hr2_2
 have HC2_2 := gA hc2_2
 clear hr2_2 hc2_2
 have HB := gA (Below.refl w.heap.size w)
 have H : (if a0_1 = true then ((atomic_Cell.f k a0_0 a2_0 a2_1 l2_2 a1_0 a1_1 l1_2).bind fun bt218 => (some (bt218.1, bt218.2.1, bt218.2.2.1, bt218.2.2.2))) else ((atomic_Cell.f k a0_0 a1_0 a1_1 l1_2 a2_0 a2_1 l2_2).bind fun bt224 => (some (bt224.1, bt224.2.1, bt224.2.2.1, bt224.2.2.2)))) = some (r1, r2, r3, r4) := h
 clear h
 have HC4 := gA H
 clear H
 go_enter Try.func42, Try.ntmps42
 go_upto_if 9 with (first | ((with_reducible refine gate_dst (N := 3) rfl ?_); refine box_event ?hg (N := 3) ?hd (cs := #[.int .i64 a0_0, .bool a0_1]) (t := 32) ?hr ?_; (case hd => rfl); (case hg => rfl); (case hr => first | (go_simp; done) | (go_simp; rfl)); intro gb214 hg w5 hbox hb; have BK214 := gA (hbox); have GW214 := gA ((by rw [hg]; exact (below_size (gB HB)) : w.heap.size ≤ gb214)); have GE214 := gA ((by rw [hg]; exact (below_size (gB HB)) : w.heap.size ≤ gb214)); replace HB := gA (below_step (gB HB) hb); clear hb hbox hg) | ((with_reducible refine gate_dst (N := 4) rfl ?_); refine box_event ?hg (N := 4) ?hd (cs := #[.int .i64 a1_0, .int .i64 a1_1, .slice A1_2 l1_2.length c1_2]) (t := 43) ?hr ?_; (case hd => rfl); (case hg => rfl); (case hr => first | (go_simp; done) | (go_simp; rfl)); intro gb215 hg w6 hbox hb; have BK215 := gA (hbox); have GW215 := gA ((by rw [hg]; exact (below_size (gB HB)) : w.heap.size ≤ gb215)); have GE215 := gA ((by rw [hg]; exact (below_size (gB HB)) : w.heap.size ≤ gb215)); replace HB := gA (below_step (gB HB) hb); have NB214_215 := gA ((by rw [hg]; exact Nat.ne_of_lt (blk_lt (gK BK214)) : gb214 ≠ gb215)); have NB215_214 := gA ((by rw [hg]; exact Nat.ne_of_gt (blk_lt (gK BK214)) : gb215 ≠ gb214)); replace BK214 := gA (blk_below (gK BK214) hb); clear hb hbox hg) | ((with_reducible refine gate_dst (N := 5) rfl ?_); refine box_event ?hg (N := 5) ?hd (cs := #[.int .i64 a2_0, .int .i64 a2_1, .slice A2_2 l2_2.length c2_2]) (t := 43) ?hr ?_; (case hd => rfl); (case hg => rfl); (case hr => first | (go_simp; done) | (go_simp; rfl)); intro gb216 hg w7 hbox hb; have BK216 := gA (hbox); have GW216 := gA ((by rw [hg]; exact (below_size (gB HB)) : w.heap.size ≤ gb216)); have GE216 := gA ((by rw [hg]; exact (below_size (gB HB)) : w.heap.size ≤ gb216)); replace HB := gA (below_step (gB HB) hb); have NB214_216 := gA ((by rw [hg]; exact Nat.ne_of_lt (blk_lt (gK BK214)) : gb214 ≠ gb216)); have NB216_214 := gA ((by rw [hg]; exact Nat.ne_of_gt (blk_lt (gK BK214)) : gb216 ≠ gb214)); replace BK214 := gA (blk_below (gK BK214) hb); have NB215_216 := gA ((by rw [hg]; exact Nat.ne_of_lt (blk_lt (gK BK215)) : gb215 ≠ gb216)); have NB216_215 := gA ((by rw [hg]; exact Nat.ne_of_gt (blk_lt (gK BK215)) : gb216 ≠ gb215)); replace BK215 := gA (blk_below (gK BK215) hb); clear hb hbox hg) | ((with_reducible refine gate_dst (N := 6) rfl ?_); refine box_event ?hg (N := 6) ?hd (cs := #[.int .i64 0, .int .i64 0, .slice none 0 0]) (t := 43) ?hr ?_; (case hd => rfl); (case hg => rfl); (case hr => first | (go_simp; done) | (go_simp; rfl)); intro gb217 hg w8 hbox hb; have BK217 := gA (hbox); have GW217 := gA ((by rw [hg]; exact (below_size (gB HB)) : w.heap.size ≤ gb217)); have GE217 := gA ((by rw [hg]; exact (below_size (gB HB)) : w.heap.size ≤ gb217)); replace HB := gA (below_step (gB HB) hb); have NB214_217 := gA ((by rw [hg]; exact Nat.ne_of_lt (blk_lt (gK BK214)) : gb214 ≠ gb217)); have NB217_214 := gA ((by rw [hg]; exact Nat.ne_of_gt (blk_lt (gK BK214)) : gb217 ≠ gb214)); replace BK214 := gA (blk_below (gK BK214) hb); have NB215_217 := gA ((by rw [hg]; exact Nat.ne_of_lt (blk_lt (gK BK215)) : gb215 ≠ gb217)); have NB217_215 := gA ((by rw [hg]; exact Nat.ne_of_gt (blk_lt (gK BK215)) : gb217 ≠ gb215)); replace BK215 := gA (blk_below (gK BK215) hb); have NB216_217 := gA ((by rw [hg]; exact Nat.ne_of_lt (blk_lt (gK BK216)) : gb216 ≠ gb217)); have NB217_216 := gA ((by rw [hg]; exact Nat.ne_of_gt (blk_lt (gK BK216)) : gb217 ≠ gb216)); replace BK216 := gA (blk_below (gK BK216) hb); clear hb hbox hg; have hnb9 := NB214_215.out; have hnc9 := NB215_214.out; have hnb10 := NB214_216.out; have hnc10 := NB216_214.out; have hnb11 := NB214_217.out; have hnc11 := NB217_214.out; obtain ⟨hcz12_0, hcz12_1, hfz12_0, hfz12_1⟩ := gz2 BK214))
 have H := HC4.out; clear HC4
 by_cases c13 : a0_1 = true
 ·subst c13
  have H1 : ((atomic_Cell.f k a0_0 a2_0 a2_1 l2_2 a1_0 a1_1 l1_2).bind fun bt218 => (some (bt218.1, bt218.2.1, bt218.2.2.1, bt218.2.2.2))) = some (r1, r2, r3, r4) := by rw [if_pos rfl] at H; exact H
  clear H; have H := H1; clear H1
  replace H := Option.bind_eq_some_iff.mp H
  obtain ⟨⟨t218, t219, t220, t223⟩, A140, H⟩ := H
  replace H : (some (t218, t219, t220, t223)) = some (r1, r2, r3, r4) := H
  have A14 := gA A140
  clear A140
  simp only [Option.some.injEq, Prod.mk.injEq] at H
  obtain ⟨rfl, rfl, rfl, rfl⟩ := H
  have hnb15 := NB216_214.out
  have hnc15 := NB214_216.out
  have hnb16 := NB216_215.out
  have hnc16 := NB215_216.out
  have hnb17 := NB216_217.out
  have hnc17 := NB217_216.out
  obtain ⟨hcz18_0, hcz18_1, hcz18_2, hfz18_0, hfz18_1, hfz18_2⟩ := gz3 BK216
  have hnb19 := NB215_214.out
  have hnc19 := NB214_215.out
  have hnb20 := NB215_217.out
  have hnc20 := NB217_215.out
  obtain ⟨hcz21_0, hcz21_1, hcz21_2, hfz21_0, hfz21_1, hfz21_2⟩ := gz3 BK215
  have hnb22 := NB214_217.out
  have hnc22 := NB217_214.out
  obtain ⟨hcz23_0, hcz23_1, hfz23_0, hfz23_1⟩ := gz2 BK214
  go_wp2_with (first | ((with_reducible refine gate_callee (f := 60) rfl ?_); refine goesL_ (some 16) rfl rfl Try.func60 (by kernel_rfl) rfl #[.int .i64 a0_0, .agg #[.int .i64 a2_0, .int .i64 a2_1, .slice A2_2 l2_2.length c2_2], .agg #[.int .i64 a1_0, .int .i64 a1_1, .slice A1_2 l1_2.length c1_2]] rfl (by (try simp only [List.map_toArray, List.map_cons, List.map_nil]); first | done | rfl | (simp only [List.length_drop, List.length_take]; rfl)) ?_; (with_reducible refine (atomic_Cell.calls k a0_0 a2_0 a2_1 _ _ l2_2 a1_0 a1_1 _ _ l1_2 t218 t219 t220 t223 _ ?side1 ?side2 ?side3 ?side4 A14.out).mono ?_); (case side1 => exact Kd.C_below HR2_2.out (by repeat first | exact gB HB | refine below_set ?_ GE214.out | refine below_set ?_ GE215.out | refine below_set ?_ GE216.out | refine below_set ?_ GE217.out)); (case side2 => exact HC2_2.out); (case side3 => exact Kd.C_below HR1_2.out (by repeat first | exact gB HB | refine below_set ?_ GE214.out | refine below_set ?_ GE215.out | refine below_set ?_ GE216.out | refine below_set ?_ GE217.out)); (case side4 => exact HC1_2.out); rintro e w24 ⟨v221, rfl, ho0, hb⟩; refine ⟨_, rfl, ?_⟩; have HO222 := gA (Kd.R_lower (Kd.R_newB (Kd.R_newB (Kd.R_newB ho0 (g := gb215) (o := .cells #[.int .i64 a2_0, .int .i64 a2_1, .slice A2_2 l2_2.length c2_2] 43 (0, 0)) (by (with_reducible repeat (first | refine blk_drewN ?_ _ | refine blk_drew ?_ | refine blk_alloc ?_ _)); refine blk_far ?_ NB215_216.out _; (with_reducible repeat (first | refine blk_drewN ?_ _ | refine blk_drew ?_ | refine blk_alloc ?_ _)); refine blk_far ?_ NB215_216.out _; (with_reducible repeat (first | refine blk_drewN ?_ _ | refine blk_drew ?_ | refine blk_alloc ?_ _)); refine blk_far ?_ NB215_216.out _; (with_reducible repeat (first | refine blk_drewN ?_ _ | refine blk_drew ?_ | refine blk_alloc ?_ _)); refine blk_put (cs := #[.int .i64 a2_0, .int .i64 a2_1, .slice A1_2 l1_2.length c1_2]) ?_ 2 _ rfl; (with_reducible repeat (first | refine blk_drewN ?_ _ | refine blk_drew ?_ | refine blk_alloc ?_ _)); refine blk_put (cs := #[.int .i64 a2_0, .int .i64 a1_1, .slice A1_2 l1_2.length c1_2]) ?_ 1 _ rfl; (with_reducible repeat (first | refine blk_drewN ?_ _ | refine blk_drew ?_ | refine blk_alloc ?_ _)); refine blk_put (cs := #[.int .i64 a1_0, .int .i64 a1_1, .slice A1_2 l1_2.length c1_2]) ?_ 0 _ rfl; exact gK BK215)) (g := gb216) (o := .cells #[.int .i64 a1_0, .int .i64 a1_1, .slice A1_2 l1_2.length c1_2] 43 (0, 0)) (by (with_reducible repeat (first | refine blk_drewN ?_ _ | refine blk_drew ?_ | refine blk_alloc ?_ _)); refine blk_put (cs := #[.int .i64 a1_0, .int .i64 a1_1, .slice A2_2 l2_2.length c2_2]) ?_ 2 _ rfl; (with_reducible repeat (first | refine blk_drewN ?_ _ | refine blk_drew ?_ | refine blk_alloc ?_ _)); refine blk_put (cs := #[.int .i64 a1_0, .int .i64 a2_1, .slice A2_2 l2_2.length c2_2]) ?_ 1 _ rfl; (with_reducible repeat (first | refine blk_drewN ?_ _ | refine blk_drew ?_ | refine blk_alloc ?_ _)); refine blk_put (cs := #[.int .i64 a2_0, .int .i64 a2_1, .slice A2_2 l2_2.length c2_2]) ?_ 0 _ rfl; (with_reducible repeat (first | refine blk_drewN ?_ _ | refine blk_drew ?_ | refine blk_alloc ?_ _)); refine blk_far ?_ NB216_215.out _; (with_reducible repeat (first | refine blk_drewN ?_ _ | refine blk_drew ?_ | refine blk_alloc ?_ _)); refine blk_far ?_ NB216_215.out _; (with_reducible repeat (first | refine blk_drewN ?_ _ | refine blk_drew ?_ | refine blk_alloc ?_ _)); refine blk_far ?_ NB216_215.out _; exact gK BK216)) (g := gb217) (o := .cells #[.int .i64 0, .int .i64 0, .slice none 0 0] 43 (0, 0)) (by (with_reducible repeat (first | refine blk_drewN ?_ _ | refine blk_drew ?_ | refine blk_alloc ?_ _)); refine blk_far ?_ NB217_216.out _; (with_reducible repeat (first | refine blk_drewN ?_ _ | refine blk_drew ?_ | refine blk_alloc ?_ _)); refine blk_far ?_ NB217_216.out _; (with_reducible repeat (first | refine blk_drewN ?_ _ | refine blk_drew ?_ | refine blk_alloc ?_ _)); refine blk_far ?_ NB217_216.out _; (with_reducible repeat (first | refine blk_drewN ?_ _ | refine blk_drew ?_ | refine blk_alloc ?_ _)); refine blk_far ?_ NB217_215.out _; (with_reducible repeat (first | refine blk_drewN ?_ _ | refine blk_drew ?_ | refine blk_alloc ?_ _)); refine blk_far ?_ NB217_215.out _; (with_reducible repeat (first | refine blk_drewN ?_ _ | refine blk_drew ?_ | refine blk_alloc ?_ _)); refine blk_far ?_ NB217_215.out _; exact gK BK217)) (below_size (by repeat first | exact gB HB | refine below_set ?_ GE214.out | refine below_set ?_ GE215.out | refine below_set ?_ GE216.out | refine below_set ?_ GE217.out))); replace BK214 := gA (blk_below (g := gb214) (o := .cells #[.int .i64 a0_0, .bool true] 32 (0, 0)) (by refine blk_far ?_ NB214_216.out _; refine blk_far ?_ NB214_216.out _; refine blk_far ?_ NB214_216.out _; refine blk_far ?_ NB214_215.out _; refine blk_far ?_ NB214_215.out _; refine blk_far ?_ NB214_215.out _; exact gK BK214) hb); replace BK215 := gA (blk_below (g := gb215) (o := .cells #[.int .i64 a2_0, .int .i64 a2_1, .slice A2_2 l2_2.length c2_2] 43 (0, 0)) (by refine blk_far ?_ NB215_216.out _; refine blk_far ?_ NB215_216.out _; refine blk_far ?_ NB215_216.out _; refine blk_put (cs := #[.int .i64 a2_0, .int .i64 a2_1, .slice A1_2 l1_2.length c1_2]) ?_ 2 _ rfl; refine blk_put (cs := #[.int .i64 a2_0, .int .i64 a1_1, .slice A1_2 l1_2.length c1_2]) ?_ 1 _ rfl; refine blk_put (cs := #[.int .i64 a1_0, .int .i64 a1_1, .slice A1_2 l1_2.length c1_2]) ?_ 0 _ rfl; exact gK BK215) hb); replace BK216 := gA (blk_below (g := gb216) (o := .cells #[.int .i64 a1_0, .int .i64 a1_1, .slice A1_2 l1_2.length c1_2] 43 (0, 0)) (by refine blk_put (cs := #[.int .i64 a1_0, .int .i64 a1_1, .slice A2_2 l2_2.length c2_2]) ?_ 2 _ rfl; refine blk_put (cs := #[.int .i64 a1_0, .int .i64 a2_1, .slice A2_2 l2_2.length c2_2]) ?_ 1 _ rfl; refine blk_put (cs := #[.int .i64 a2_0, .int .i64 a2_1, .slice A2_2 l2_2.length c2_2]) ?_ 0 _ rfl; refine blk_far ?_ NB216_215.out _; refine blk_far ?_ NB216_215.out _; refine blk_far ?_ NB216_215.out _; exact gK BK216) hb); replace BK217 := gA (blk_below (g := gb217) (o := .cells #[.int .i64 0, .int .i64 0, .slice none 0 0] 43 (0, 0)) (by refine blk_far ?_ NB217_216.out _; refine blk_far ?_ NB217_216.out _; refine blk_far ?_ NB217_216.out _; refine blk_far ?_ NB217_215.out _; refine blk_far ?_ NB217_215.out _; refine blk_far ?_ NB217_215.out _; exact gK BK217) hb); replace HB := gA (below_step (by repeat first | exact gB HB | refine below_set ?_ GE214.out | refine below_set ?_ GE215.out | refine below_set ?_ GE216.out | refine below_set ?_ GE217.out) hb); (try clear hb); (try clear ho0); obtain ⟨hcz25_0, hcz25_1, hcz25_2, hfz25_0, hfz25_1, hfz25_2⟩ := gz3 BK217; obtain ⟨Ao26, co26, eo26⟩ := Kd.R_slice HO222.out; subst eo26))
  refine bodyPost_ret (results_ct rfl _ _ gb217 43 #[.int .i64 t218, .int .i64 t219, .slice Ao26 t220.length co26] (0, 0) _ rfl (by refine blk_put (cs := #[.int .i64 t218, .int .i64 t219, .slice none 0 0]) ?_ 2 _ rfl; refine blk_put (cs := #[.int .i64 t218, .int .i64 0, .slice none 0 0]) ?_ 1 _ rfl; refine blk_put (cs := #[.int .i64 0, .int .i64 0, .slice none 0 0]) ?_ 0 _ rfl; exact gK BK217) Try.underlying43 rfl (by kernel_rfl)) rfl ?_
  exact ⟨_, rfl, Kd.R_mono (Kd.R_far (p := ⟨gb217, 2, none⟩) (Kd.R_far (p := ⟨gb217, 1, none⟩) (Kd.R_far (p := ⟨gb217, 0, none⟩) (Kd.R_mono HO222.out (fun k_ hk => (⟨hk, hk.2⟩ : _ ∧ k_ ≠ gb217))) (fun _ hk => hk.2) (.int .i64 t218)) (fun _ hk => hk.2) (.int .i64 t219)) (fun _ hk => hk.2) (.slice Ao26 t220.length co26)) (fun _ hk => trivial), by repeat first | exact gB HB | refine below_set ?_ GE214.out | refine below_set ?_ GE215.out | refine below_set ?_ GE216.out | refine below_set ?_ GE217.out⟩
 ·replace c13 := Bool.eq_false_iff.mpr c13
  subst c13
  have H1 : ((atomic_Cell.f k a0_0 a1_0 a1_1 l1_2 a2_0 a2_1 l2_2).bind fun bt224 => (some (bt224.1, bt224.2.1, bt224.2.2.1, bt224.2.2.2))) = some (r1, r2, r3, r4) := by rw [if_neg (show ¬ (false = true) by decide)] at H; exact H
  clear H; have H := H1; clear H1
  replace H := Option.bind_eq_some_iff.mp H
  obtain ⟨⟨t224, t225, t226, t229⟩, A270, H⟩ := H
  replace H : (some (t224, t225, t226, t229)) = some (r1, r2, r3, r4) := H
  have A27 := gA A270
  clear A270
  simp only [Option.some.injEq, Prod.mk.injEq] at H
  obtain ⟨rfl, rfl, rfl, rfl⟩ := H
  have hnb28 := NB214_215.out
  have hnc28 := NB215_214.out
  have hnb29 := NB214_216.out
  have hnc29 := NB216_214.out
  have hnb30 := NB214_217.out
  have hnc30 := NB217_214.out
  obtain ⟨hcz31_0, hcz31_1, hfz31_0, hfz31_1⟩ := gz2 BK214
  have hnb32 := NB215_216.out
  have hnc32 := NB216_215.out
  have hnb33 := NB215_217.out
  have hnc33 := NB217_215.out
  obtain ⟨hcz34_0, hcz34_1, hcz34_2, hfz34_0, hfz34_1, hfz34_2⟩ := gz3 BK215
  have hnb35 := NB216_217.out
  have hnc35 := NB217_216.out
  obtain ⟨hcz36_0, hcz36_1, hcz36_2, hfz36_0, hfz36_1, hfz36_2⟩ := gz3 BK216
  go_wp2_with (first | ((with_reducible refine gate_callee (f := 60) rfl ?_); refine goesL_ (some 16) rfl rfl Try.func60 (by kernel_rfl) rfl #[.int .i64 a0_0, .agg #[.int .i64 a1_0, .int .i64 a1_1, .slice A1_2 l1_2.length c1_2], .agg #[.int .i64 a2_0, .int .i64 a2_1, .slice A2_2 l2_2.length c2_2]] rfl (by (try simp only [List.map_toArray, List.map_cons, List.map_nil]); first | done | rfl | (simp only [List.length_drop, List.length_take]; rfl)) ?_; (with_reducible refine (atomic_Cell.calls k a0_0 a1_0 a1_1 _ _ l1_2 a2_0 a2_1 _ _ l2_2 t224 t225 t226 t229 _ ?side1 ?side2 ?side3 ?side4 A27.out).mono ?_); (case side1 => exact gC HR1_2 HB); (case side2 => exact HC1_2.out); (case side3 => exact gC HR2_2 HB); (case side4 => exact HC2_2.out); rintro e w37 ⟨v227, rfl, ho0, hb⟩; refine ⟨_, rfl, ?_⟩; have HO228 := gA (Kd.R_lower (Kd.R_newB (Kd.R_newB (Kd.R_newB ho0 (gK BK215)) (gK BK216)) (gK BK217)) (below_size (gB HB))); replace BK214 := gA (blk_below (gK BK214) hb); replace BK215 := gA (blk_below (gK BK215) hb); replace BK216 := gA (blk_below (gK BK216) hb); replace BK217 := gA (blk_below (gK BK217) hb); replace HB := gA (below_step (gB HB) hb); (try clear hb); (try clear ho0); obtain ⟨hcz38_0, hcz38_1, hcz38_2, hfz38_0, hfz38_1, hfz38_2⟩ := gz3 BK217; obtain ⟨Ao39, co39, eo39⟩ := Kd.R_slice HO228.out; subst eo39))
  refine bodyPost_ret (results_ct rfl _ _ gb217 43 #[.int .i64 t224, .int .i64 t225, .slice Ao39 t226.length co39] (0, 0) _ rfl (by refine blk_put (cs := #[.int .i64 t224, .int .i64 t225, .slice none 0 0]) ?_ 2 _ rfl; refine blk_put (cs := #[.int .i64 t224, .int .i64 0, .slice none 0 0]) ?_ 1 _ rfl; refine blk_put (cs := #[.int .i64 0, .int .i64 0, .slice none 0 0]) ?_ 0 _ rfl; exact gK BK217) Try.underlying43 rfl (by kernel_rfl)) rfl ?_
  exact ⟨_, rfl, Kd.R_mono (Kd.R_far (p := ⟨gb217, 2, none⟩) (Kd.R_far (p := ⟨gb217, 1, none⟩) (Kd.R_far (p := ⟨gb217, 0, none⟩) (Kd.R_mono HO228.out (fun k_ hk => (⟨hk, hk.2⟩ : _ ∧ k_ ≠ gb217))) (fun _ hk => hk.2) (.int .i64 t224)) (fun _ hk => hk.2) (.int .i64 t225)) (fun _ hk => hk.2) (.slice Ao39 t226.length co39)) (fun _ hk => trivial), by repeat first | exact gB HB | refine below_set ?_ GE214.out | refine below_set ?_ GE215.out | refine below_set ?_ GE216.out | refine below_set ?_ GE217.out⟩
def fold_numbers.l0 : Nat → List Int → List (S43) → Int → Int → Option (List Int × Int)
 | 0, _, _, _, _ => none
 | k + 1, x4, x10, x11, x12 => if x12 < x11 then (if 0 ≤ x12 then (if x12 < (x10.length : Int) then (if ((rd_T43 x10 x12).f0) = 0 then (if x12 < (x4.length : Int) then (fold_numbers.l0 k (x4.set (x12 : Int).toNat ((rd_T43 x10 x12).f1)) x10 x11 (wrap64 (x12 + 1))) else (none)) else (some (([] : List Int), 5))) else (none)) else (none)) else (some (x4, 0))
def fold_numbers.f (k : Nat) (l0 : List (S43)) : Option (List Int × Int) := if 0 ≤ (l0.length : Int) then (if ((l0.length : Int) : Int).toNat ≤ 35184372088832 then (fold_numbers.l0 k (List.replicate ((l0.length : Int) : Int).toNat 0) l0 (l0.length : Int) 0) else (none)) else (none)
theorem fold_numbers.mono_l : ∀ k, (∀ y0 y1 y2 y3, LeO (fold_numbers.l0 k y0 y1 y2 y3) (fold_numbers.l0 (k + 1) y0 y1 y2 y3))
 | 0 => fun _ _ _ _ r h => by simp [fold_numbers.l0] at h
 | k + 1 => by
  have ih0 := fold_numbers.mono_l k
  ·intro y0 y1 y2 y3
   unfold fold_numbers.l0
   repeat' first
   | (with_reducible exact ih0 _ _ _ _)
   | (with_reducible exact LeO.refl _)
   | (with_reducible exact LeO.none _)
   | (with_reducible refine LeO.ite ?_ ?_)
   | (with_reducible refine LeO.bind ?_ (fun _ => ?_))
theorem fold_numbers.mono : ∀ a0 k, LeO (fold_numbers.f k a0) (fold_numbers.f (k + 1) a0) := by
 intro a0 k
 have ih0 := fold_numbers.mono_l k
 unfold fold_numbers.f
 repeat' first
   | (with_reducible exact ih0 _ _ _ _)
   | (with_reducible exact LeO.refl _)
   | (with_reducible exact LeO.none _)
   | (with_reducible refine LeO.ite ?_ ?_)
   | (with_reducible refine LeO.bind ?_ (fun _ => ?_))
set_option maxHeartbeats 8000000 in
set_option maxRecDepth 100000 in
theorem fold_numbers.calls (k : Nat) (A0 : Option Addr) (c0 : Nat) (l0 : List (S43)) (r1 : List Int) (r2 : Int) (w : World) (hr0 : Kd.C k43 w A0 l0.length l0) (hc0 : l0.length ≤ c0) (h : fold_numbers.f k l0 = some (r1, r2)) :
  Calls Try.prog 55 #[.slice A0 l0.length c0] w fun e w' => ∃ v0_ : Value, e = .returned (.tuple #[v0_, .int .i64 r2]) ∧ Kd.R (Kd.int .i64) 2 w' w.heap.size (fun _ => True) v0_ r1 ∧ Below w.heap.size w w' := by
 have hu43 := Try.underlying43
 have HR0 := gA hr0
 have HC0 := gA hc0
 clear hr0 hc0
 have HB := gA (Below.refl w.heap.size w)
 have H : (if 0 ≤ (l0.length : Int) then (if ((l0.length : Int) : Int).toNat ≤ 35184372088832 then (fold_numbers.l0 k (List.replicate ((l0.length : Int) : Int).toNat 0) l0 (l0.length : Int) 0) else (none)) else (none)) = some (r1, r2) := h
 clear h
 obtain ⟨c2, H⟩ := iS H
 have c2b0 := eq_true c2
 have c2b1 := decide_eq_true c2
 clear c2
 obtain ⟨c3, H⟩ := iS H
 have c3b0 := eq_true c3
 have c3b1 := decide_eq_true c3
 clear c3
 obtain ⟨y230, hy230⟩ : ∃ y_ : List Int, y_ = (List.replicate ((l0.length : Int) : Int).toNat 0) := ⟨_, rfl⟩
 replace H : (fold_numbers.l0 k y230 l0 (l0.length : Int) 0) = some (r1, r2) := by first | (rw [hy230]; with_reducible exact H) | (have H2_ := (Option.bind_some _ _).symm.trans H; rw [hy230]; with_reducible exact H2_) | (have H2_ := (Option.bind_some _ _).symm.trans H; with_reducible exact H2_) | with_reducible exact H | (rw [hy230]; exact H) | exact H
 have Ny230 := gA hy230
 clear hy230
 have H' := gA H
 clear H
 go_enter Try.func55, Try.ntmps55
 go_wp2_with (first | ((with_reducible refine gate_dst (N := 9) rfl ?_); refine Kd.R_make (Kd.int .i64) _ 2 rfl (N := 9) rfl 39 _ _ rfl (l0.length : Int) rfl rfl Try.underlying39 (.int .i64 0) 8 info2 rfl (by decide) (by omega) 0 (ok := fun _ => True) (okp := fun _ => True) rfl (fun _ hk => hk) trivial (of_decide_eq_true (by assumption)) (Nat.le_trans (Nat.mul_le_mul_right _ (of_decide_eq_true (by assumption) : (l0.length : Int).toNat ≤ 35184372088832)) (by omega)) (Below.refl _ _) (Nat.le_refl _) ?_; intro v231 w4 ho5 hb hg_ hnew_; clear hg_ hnew_; (first | rw [← Ny230.out] at ho5 | (simp only [Int.reduceToNat] at ho5; rw [← Ny230.out] at ho5)); have HO232 := gA (Kd.R_lower ho5 (below_size (gB HB))); replace HB := gA (below_step (gB HB) hb); clear hb ho5))
 go_loopg [12] k (fun kq v12 w' => ∃ (x4_1 : List Int) (x12_1 : Int), v12 = .int .i64 x12_1 ∧ Aside0 (fold_numbers.l0 kq x4_1 l0 (l0.length : Int) x12_1 = some (r1, r2)) ∧ Aside0 (kq ≤ k) ∧ Aside0 (Kd.R (Kd.int .i64) 2 w' w.heap.size (fun _ => True) v231 x4_1) ∧ Aside0 (Below w.heap.size w w'))
 case atStart => exact ⟨(y230), (0), (rfl), H', ⟨Nat.le_refl _⟩, ⟨gR HO232⟩, ⟨gB HB⟩⟩
 case round =>
  clear H'
  try clear c2
  try clear c2b0
  try clear c2b1
  try clear p2
  try clear c3
  try clear c3b0
  try clear c3b1
  try clear c5
  obtain ⟨x4_1, x12_1, rfl, HA, HK1, HO_4, HB⟩ := hrel
  cases gk with
  | zero => exact absurd HA.out (by simp [fold_numbers.l0])
  | succ k1 =>
   have H := HA.out; clear HA
   simp only [fold_numbers.l0] at H
   by_cases c6 : x12_1 < (l0.length : Int)
   ·rw [if_pos c6] at H
    have c6b0 := decide_eq_true c6
    clear c6
    obtain ⟨c7, H⟩ := iS H
    have c7b0 := decide_eq_true c7
    clear c7
    obtain ⟨c8, H⟩ := iS H
    have c8b0 := decide_eq_true c8
    clear c8
    by_cases c9 : ((rd_T43 l0 x12_1).f0) = 0
    ·rw [if_pos c9] at H
     have c9b0 : (((rd_T43 l0 x12_1).f0) == 0) = true := beq_iff_eq.mpr c9
     have c9b1 : (((rd_T43 l0 x12_1).f0) != 0) = false := bne_eq_false_iff_eq.mpr c9
     clear c9
     obtain ⟨c10, H⟩ := iS H
     have c10b0 := decide_eq_true c10
     clear c10
     obtain ⟨y235, hy235⟩ : ∃ y_ : List Int, y_ = (x4_1.set (x12_1 : Int).toNat ((rd_T43 l0 x12_1).f1)) := ⟨_, rfl⟩
     replace H : (fold_numbers.l0 k1 y235 l0 (l0.length : Int) (wrap64 (x12_1 + 1))) = some (r1, r2) := by first | (rw [hy235]; with_reducible exact H) | (have H2_ := (Option.bind_some _ _).symm.trans H; rw [hy235]; with_reducible exact H2_) | (have H2_ := (Option.bind_some _ _).symm.trans H; with_reducible exact H2_) | with_reducible exact H | (rw [hy235]; exact H) | exact H
     have Ny235 := gA hy235
     clear hy235
     have H' := gA H
     clear H
     have p233 : 0 ≤ (x12_1 : Int) := of_decide_eq_true (by assumption)
     have q233 : x12_1 < (l0.length : Int) := of_decide_eq_true (by assumption)
     obtain ⟨ad233, A233_2, c233_2, e233, hx233_0, hx233_1, hx233_2, hl233_2, hi233_2⟩ := at_T43 HR0.out x12_1 p233 q233
     cases e233
     replace hx233_0 := (HB.out.cell (World.block_lt_of_cell? w _ hx233_0)).trans hx233_0
     replace hx233_1 := (HB.out.cell (World.block_lt_of_cell? w _ hx233_1)).trans hx233_1
     replace hx233_2 := (HB.out.cell (World.block_lt_of_cell? w _ hx233_2)).trans hx233_2
     have HR233_2 := gA hi233_2
     have HC233_2 := gA hl233_2
     clear hi233_2 hl233_2
     replace p233 := eq_true p233
     replace q233 := eq_true q233
     go_wp2_with (first | ((with_reducible refine gate_dst (N := 6) rfl ?_); refine box_event ?hg (N := 6) ?hd (cs := #[.int .i64 0, .int .i64 0, .slice none 0 0]) (t := 43) ?hr ?_; (case hd => rfl); (case hg => rfl); (case hr => first | (go_simp; done) | (go_simp; rfl)); intro gb234 hg w12 hbox hb; replace HO_4 := gA (Kd.R_below (gR HO_4) hb); have BK234 := gA (hbox); have GW234 := gA ((by rw [hg]; exact (below_size (gB HB)) : w.heap.size ≤ gb234)); have GE234 := gA ((by rw [hg]; exact (below_size (gB HB)) : w.heap.size ≤ gb234)); replace HB := gA (below_step (gB HB) hb); clear hb hbox hg; obtain ⟨hcz13_0, hcz13_1, hcz13_2, hfz13_0, hfz13_1, hfz13_2⟩ := gz3 BK234) | ((with_reducible refine gate_store (t := 43) (p := 6) rfl ?_); refine store_event (t := 43) (p := 6) (v := ?vo_w14) (w1 := (((w12.setCell ⟨gb234, 0, none⟩ (.int .i64 ((rd_T43 l0 x12_1).f0))).setCell ⟨gb234, 1, none⟩ (.int .i64 ((rd_T43 l0 x12_1).f1))).setCell ⟨gb234, 2, none⟩ (.slice A233_2 ((rd_T43 l0 x12_1).f2).length c233_2))) ?hg ?ho ?hn ?hr ?_; (case ho => rfl); (case hg => rfl); (case hn => rfl); (case hr => first | (go_simp; done) | (go_simp; rfl)); intro w14 hw; have n0_ : Aside0 (Kd.R (Kd.int .i64) 2 w14 w.heap.size (fun _ => True) v231 x4_1) := ⟨(by rw [hw]; exact (Kd.R_mono (Kd.R_far (p := ⟨gb234, 2, none⟩) (Kd.R_far (p := ⟨gb234, 1, none⟩) (Kd.R_far (p := ⟨gb234, 0, none⟩) (Kd.R_types HO_4.out BK234.out (by decide)) (fun _ hk => hk.2) (.int .i64 ((rd_T43 l0 x12_1).f0))) (fun _ hk => hk.2) (.int .i64 ((rd_T43 l0 x12_1).f1))) (fun _ hk => hk.2) (.slice A233_2 ((rd_T43 l0 x12_1).f2).length c233_2)) (fun _ hk => trivial)))⟩; have n1_ : Aside0 (w14.heap[gb234]? = some (.cells #[.int .i64 ((rd_T43 l0 x12_1).f0), .int .i64 ((rd_T43 l0 x12_1).f1), .slice A233_2 ((rd_T43 l0 x12_1).f2).length c233_2] 43 (0, 0))) := ⟨(by rw [hw]; exact (by refine blk_put (cs := #[.int .i64 ((rd_T43 l0 x12_1).f0), .int .i64 ((rd_T43 l0 x12_1).f1), .slice none 0 0]) ?_ 2 _ rfl; refine blk_put (cs := #[.int .i64 ((rd_T43 l0 x12_1).f0), .int .i64 0, .slice none 0 0]) ?_ 1 _ rfl; refine blk_put (cs := #[.int .i64 0, .int .i64 0, .slice none 0 0]) ?_ 0 _ rfl; exact gK BK234))⟩; have n2_ : Aside0 (Below w.heap.size w w14) := ⟨(by rw [hw]; exact (by repeat (first | (with_reducible first | exact HB.out | apply below_alloc | apply pw_below_drewN | apply below_drew1 | refine below_set ?_ GE234.out) | exact HB.out)))⟩; clear hw HO_4 BK234 HB; have HO_4 := n0_; have BK234 := n1_; have HB := n2_; clear n0_ n1_ n2_; obtain ⟨hcz15_0, hcz15_1, hcz15_2, hfz15_0, hfz15_1, hfz15_2⟩ := gz3 BK234; have p11 : 0 ≤ (x12_1 : Int) := of_decide_eq_true (by assumption); have q11 : (x12_1 : Int) < ((x4_1.length : Int) : Int) := of_decide_eq_true (by assumption); obtain ⟨go11, co11, eo11, gb11, gl11, cl11, HG11⟩ := Kd.R_form HO_4.out (by omega); (first | cases eo11 | (injection eo11 with ea_ en_ ec_; (first | subst ea_ | (injection ea_ with ea_; subst ea_)); subst ec_; clear en_)); have GB11 := gA gb11; have GG11 := gA HG11; clear gb11 gl11 HG11; obtain ⟨hx11_0, hf11_0⟩ := Kd.R_celln 0 HO_4.out (x12_1 : Int) p11 q11; replace p11 := eq_true p11; replace q11 := eq_true q11; obtain ⟨hy16_, hz16_⟩ := Kd.R_celln 0 HO_4.out (x12_1 : Int) (of_decide_eq_true (by assumption)) (of_decide_eq_true (by assumption)); have HP16 := Kd.R_putg HO_4.out (x12_1 : Int) ((rd_T43 l0 x12_1).f1)) | ((with_reducible refine gate_store (t := 2) (p := 24) rfl ?_); refine store_event (t := 2) (p := 24) (v := ?vo_w17) (w1 := (w14.setCell ⟨go11, (x12_1 : Int).toNat, none⟩ (.int .i64 ((rd_T43 l0 x12_1).f1)))) ?hg ?ho ?hn ?hr ?_; (case ho => rfl); (case hg => rfl); (case hn => rfl); (case hr => first | (go_simp; done) | (go_simp; rfl)); intro w17 hw; have hg : w14.grownBy w17 (some go11) := (by rw [hw]; exact HP16.2); have hp_ : Kd.R (Kd.int .i64) 2 w17 w.heap.size (fun _ => True) (.slice (some ⟨go11, 0, none⟩) x4_1.length co11) y235 := (by rw [hw, Ny235.out]; exact HP16.1); clear HP16; replace BK234 := gA (blk_grown (gK BK234) hg (Kd.R_ne HO_4.out BK234.out (by decide))); replace HO_4 := gA (hp_); replace HB := gA ((by rw [hw]; exact below_set (HB.out) GB11.out : Below w.heap.size w w17)); clear hg hw hp_))
     go_roundg k1
     case measure => have := HK1.out; omega
     case rel => exact ⟨(y235), (wrap64 (x12_1 + 1)), (rfl), H', ⟨by have := HK1.out; omega⟩, ⟨gR HO_4⟩, ⟨by repeat first | exact gB HB | refine below_set ?_ GE234.out⟩⟩
    ·rw [if_neg c9] at H
     have c9b0 : (((rd_T43 l0 x12_1).f0) == 0) = false := beq_eq_false_iff_ne.mpr c9
     have c9b1 : (((rd_T43 l0 x12_1).f0) != 0) = true := bne_iff_ne.mpr c9
     simp only [Option.some.injEq, Prod.mk.injEq] at H
     obtain ⟨rfl, rfl⟩ := H
     have p233 : 0 ≤ (x12_1 : Int) := of_decide_eq_true (by assumption)
     have q233 : x12_1 < (l0.length : Int) := of_decide_eq_true (by assumption)
     obtain ⟨ad233, A233_2, c233_2, e233, hx233_0, hx233_1, hx233_2, hl233_2, hi233_2⟩ := at_T43 HR0.out x12_1 p233 q233
     cases e233
     replace hx233_0 := (HB.out.cell (World.block_lt_of_cell? w _ hx233_0)).trans hx233_0
     replace hx233_1 := (HB.out.cell (World.block_lt_of_cell? w _ hx233_1)).trans hx233_1
     replace hx233_2 := (HB.out.cell (World.block_lt_of_cell? w _ hx233_2)).trans hx233_2
     have HR233_2 := gA hi233_2
     have HC233_2 := gA hl233_2
     clear hi233_2 hl233_2
     replace p233 := eq_true p233
     replace q233 := eq_true q233
     go_wp2_with (first | ((with_reducible refine gate_dst (N := 6) rfl ?_); refine box_event ?hg (N := 6) ?hd (cs := #[.int .i64 0, .int .i64 0, .slice none 0 0]) (t := 43) ?hr ?_; (case hd => rfl); (case hg => rfl); (case hr => first | (go_simp; done) | (go_simp; rfl)); intro gb234 hg w18 hbox hb; replace HO_4 := gA (Kd.R_below (gR HO_4) hb); have BK234 := gA (hbox); have GW234 := gA ((by rw [hg]; exact (below_size (gB HB)) : w.heap.size ≤ gb234)); have GE234 := gA ((by rw [hg]; exact (below_size (gB HB)) : w.heap.size ≤ gb234)); replace HB := gA (below_step (gB HB) hb); clear hb hbox hg; obtain ⟨hcz19_0, hcz19_1, hcz19_2, hfz19_0, hfz19_1, hfz19_2⟩ := gz3 BK234))
     go_ret2
     exact ⟨_, rfl, by first | exact Kd.R_nil _ _ _ _ _ | exact Kd.N_nil _ _ _ _ _ | exact Kd.V_nil _ _ _ _ _ | exact Kd.Q_nil _ _ _ _ _ | exact Kd.S_nil _ _ _ _ _, by repeat first | exact gB HB | refine below_set ?_ GE234.out⟩
   ·rw [if_neg c6] at H
    have c6b0 := decide_eq_false c6
    clear c6
    simp only [Option.some.injEq, Prod.mk.injEq] at H
    obtain ⟨rfl, rfl⟩ := H
    go_wp2
    go_ret2
    exact ⟨_, rfl, gR HO_4, gB HB⟩
end Go.Proofs.Ytahgfebdjjfkhaa.P
