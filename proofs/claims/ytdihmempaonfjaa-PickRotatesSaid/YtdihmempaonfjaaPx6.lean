/- Written by a program of this session: the functions that the laws reach, what each comes to, and each law as it is stated, for every input. No condition. -/
import Derived.Test.YtdihmempaonfjaaPx0
namespace Go.Proofs.Ytdihmempaonfjaa.P
open Go.RowKit Go.Proofs.YtdihmempaonfjaaW.PrintWords Go.Proofs.YtdihmempaonfjaaW.PrintLast Go.Proofs.YtdihmempaonfjaaW.PrintMore
attribute [local go_sem] max2_int min2_int max_two min_two max_three min_three max_four min_four   -- for this text's walks alone
set_option linter.unusedVariables false
set_option linter.unusedSimpArgs false
mutual
def pick_rotated.j0 : Nat → Int → Int → Bool → List Int → List (S45) → Option (List Int × (List (S45)))
 | 0, _, _, _, _, _ => none
 | k + 1, x0, x2, x24, x259000, x259001 => if x24 = true then (some (x259000, x259001)) else (if 0 ≤ (wrap64 (x2 + 1)) then (if (wrap64 (x2 + 1)) ≤ (x259000.length : Int) then ((some (x259000.drop ((wrap64 (x2 + 1)) : Int).toNat : List Int)).bind fun y260 => (pick_rotated.l0 k x0 x2 1 y260 (y260.length : Int) 0 x259000 x259001)) else (none)) else (none))
def pick_rotated.l0 : Nat → Int → Int → Int → List Int → Int → Int → List Int → List (S45) → Option (List Int × (List (S45)))
 | 0, _, _, _, _, _, _, _, _ => none
 | k + 1, x0, x2, x7, x30, x31, x32, x259000, x259001 => if x32 < x31 then (if 0 ≤ x32 then (if x32 < (x30.length : Int) then (pick_rotated.l0 k x0 x2 (wrap64 (x7 * (rd x30 x32))) x30 x31 (wrap64 (x32 + 1)) x259000 x259001) else (none)) else (none)) else (if 0 ≤ x2 then (if x2 < (x259000.length : Int) then (if (rd x259000 x2) = 0 then (none) else (if (Int.tmod x0 (rd x259000 x2)) < 0 then (pick_rotated.j2 k x7 (rd x259000 x2) (wrap64 ((Int.tmod x0 (rd x259000 x2)) + (rd x259000 x2))) x259000 x259001) else (pick_rotated.j2 k x7 (rd x259000 x2) (Int.tmod x0 (rd x259000 x2)) x259000 x259001))) else (none)) else (none))
def pick_rotated.j2 : Nat → Int → Int → Int → List Int → List (S45) → Option (List Int × (List (S45)))
 | 0, _, _, _, _, _ => none
 | k + 1, x7, x10, x11, x259000, x259001 => pick_rotated.l1 k x7 x10 x11 0 x259000 x259001 x259000 ([] : List (S45))
def pick_rotated.l1 : Nat → Int → Int → Int → Int → List Int → List (S45) → List Int → List (S45) → Option (List Int × (List (S45)))
 | 0, _, _, _, _, _, _, _, _ => none
 | k + 1, x7, x10, x11, x13, x259000, x259001, x268000, x268001 => if x13 < (x259001.length : Int) then (if 0 ≤ x13 then (if x13 ≤ (wrap64 (x13 + (wrap64 (x10 * x7)))) then (if (wrap64 (x13 + (wrap64 (x10 * x7)))) ≤ (x259001.length : Int) then ((some ((x259001.take ((wrap64 (x13 + (wrap64 (x10 * x7)))) : Int).toNat).drop (x13 : Int).toNat : List (S45))).bind fun y268 => (if 0 ≤ (wrap64 (x11 * x7)) then (if (wrap64 (x11 * x7)) ≤ (y268.length : Int) then ((some (y268.drop ((wrap64 (x11 * x7)) : Int).toNat : List (S45))).bind fun y273 => (if x268001.length + y273.length < 3518437208883 then ((some (x268001 ++ y273 : List (S45))).bind fun y278 => ((some (y268.take ((wrap64 (x11 * x7)) : Int).toNat : List (S45))).bind fun y281 => (if y278.length + y281.length < 3518437208883 then (pick_rotated.l1 k x7 x10 x11 (wrap64 (x13 + (wrap64 (x10 * x7)))) x259000 x259001 x268000 (y278 ++ y281)) else (none)))) else (none))) else (none)) else (none))) else (none)) else (none)) else (none)) else (some (x268000, x268001))
end
def pick_rotated.f (k : Nat) (a0 : Int) (l1_0 : List Int) (l1_1 : List (S45)) (a2 : Int) : Option (List Int × (List (S45))) := if (l1_1.length : Int) = 0 then (pick_rotated.j0 k a0 a2 true l1_0 l1_1) else (pick_rotated.j0 k a0 a2 ((l1_0.length : Int) == 0) l1_0 l1_1)
theorem pick_rotated.mono_l : ∀ k, (∀ y0 y1 y2 y3 y4, LeO (pick_rotated.j0 k y0 y1 y2 y3 y4) (pick_rotated.j0 (k + 1) y0 y1 y2 y3 y4)) ∧ (∀ y0 y1 y2 y3 y4 y5 y6 y7, LeO (pick_rotated.l0 k y0 y1 y2 y3 y4 y5 y6 y7) (pick_rotated.l0 (k + 1) y0 y1 y2 y3 y4 y5 y6 y7)) ∧ (∀ y0 y1 y2 y3 y4, LeO (pick_rotated.j2 k y0 y1 y2 y3 y4) (pick_rotated.j2 (k + 1) y0 y1 y2 y3 y4)) ∧ (∀ y0 y1 y2 y3 y4 y5 y6 y7, LeO (pick_rotated.l1 k y0 y1 y2 y3 y4 y5 y6 y7) (pick_rotated.l1 (k + 1) y0 y1 y2 y3 y4 y5 y6 y7))
 | 0 => ⟨fun _ _ _ _ _ r h => by simp [pick_rotated.j0] at h, fun _ _ _ _ _ _ _ _ r h => by simp [pick_rotated.l0] at h, fun _ _ _ _ _ r h => by simp [pick_rotated.j2] at h, fun _ _ _ _ _ _ _ _ r h => by simp [pick_rotated.l1] at h⟩
 | k + 1 => by
  obtain ⟨ih0, ih1, ih2, ih3⟩ := pick_rotated.mono_l k
  refine ⟨?_, ?_, ?_, ?_⟩
  ·intro y0 y1 y2 y3 y4
   unfold pick_rotated.j0
   repeat' first
   | (with_reducible exact ih0 _ _ _ _ _)
   | (with_reducible exact ih1 _ _ _ _ _ _ _ _)
   | (with_reducible exact ih2 _ _ _ _ _)
   | (with_reducible exact ih3 _ _ _ _ _ _ _ _)
   | (with_reducible exact LeO.refl _)
   | (with_reducible exact LeO.none _)
   | (with_reducible refine LeO.ite ?_ ?_)
   | (with_reducible refine LeO.bind ?_ (fun _ => ?_))







  ·intro y0 y1 y2 y3 y4 y5 y6 y7
   unfold pick_rotated.l0
   repeat' first
   | (with_reducible exact ih0 _ _ _ _ _)
   | (with_reducible exact ih1 _ _ _ _ _ _ _ _)
   | (with_reducible exact ih2 _ _ _ _ _)
   | (with_reducible exact ih3 _ _ _ _ _ _ _ _)
   | (with_reducible exact LeO.refl _)
   | (with_reducible exact LeO.none _)
   | (with_reducible refine LeO.ite ?_ ?_)
   | (with_reducible refine LeO.bind ?_ (fun _ => ?_))







  ·intro y0 y1 y2 y3 y4
   unfold pick_rotated.j2
   repeat' first
   | (with_reducible exact ih0 _ _ _ _ _)
   | (with_reducible exact ih1 _ _ _ _ _ _ _ _)
   | (with_reducible exact ih2 _ _ _ _ _)
   | (with_reducible exact ih3 _ _ _ _ _ _ _ _)
   | (with_reducible exact LeO.refl _)
   | (with_reducible exact LeO.none _)
   | (with_reducible refine LeO.ite ?_ ?_)
   | (with_reducible refine LeO.bind ?_ (fun _ => ?_))







  ·intro y0 y1 y2 y3 y4 y5 y6 y7
   unfold pick_rotated.l1
   repeat' first
   | (with_reducible exact ih0 _ _ _ _ _)
   | (with_reducible exact ih1 _ _ _ _ _ _ _ _)
   | (with_reducible exact ih2 _ _ _ _ _)
   | (with_reducible exact ih3 _ _ _ _ _ _ _ _)
   | (with_reducible exact LeO.refl _)
   | (with_reducible exact LeO.none _)
   | (with_reducible refine LeO.ite ?_ ?_)
   | (with_reducible refine LeO.bind ?_ (fun _ => ?_))
theorem pick_rotated.mono : ∀ a0 a1 a2 a3 k, LeO (pick_rotated.f k a0 a1 a2 a3) (pick_rotated.f (k + 1) a0 a1 a2 a3) := by
 intro a0 a1 a2 a3 k
 obtain ⟨ih0, ih1, ih2, ih3⟩ := pick_rotated.mono_l k
 unfold pick_rotated.f
 repeat' first
   | (with_reducible exact ih0 _ _ _ _ _)
   | (with_reducible exact ih1 _ _ _ _ _ _ _ _)
   | (with_reducible exact ih2 _ _ _ _ _)
   | (with_reducible exact ih3 _ _ _ _ _ _ _ _)
   | (with_reducible exact LeO.refl _)
   | (with_reducible exact LeO.none _)
   | (with_reducible refine LeO.ite ?_ ?_)
   | (with_reducible refine LeO.bind ?_ (fun _ => ?_))
def pick_rotated.T18 : Bool × List (List Nat × List Nat) := (true, [([], []), ([0], [0]), ([], []), ([], []), ([], []), ([3, 4], [3, 4]), ([2, 5], [2, 5]), ([1, 6], [1, 6]), ([0, 1, 2, 3, 4, 5, 6, 7], []), ([8, 7, 7, 0, 1, 2, 3, 4, 5, 6, 7], [7, 8])])
def pick_rotated.B18 : List Nat := [0, 1, 0, 0, 0, 24, 60, 127, 255, 511]
theorem pick_rotated.tab18 : rtab .any (opsOf Try.f27 18) = pick_rotated.T18 := by kernel_rfl
theorem pick_rotated.bits18 : waitsOk pick_rotated.T18.2 pick_rotated.B18 = true := by kernel_rfl
def pick_rotated.T19 : Bool × List (List Nat × List Nat) := (true, [([], []), ([0], [0]), ([], []), ([], []), ([], []), ([3, 4], [3, 4]), ([2, 5], [2, 5]), ([1, 6], [1, 6]), ([0, 1, 2, 3, 4, 5, 6, 7], []), ([8, 7, 7, 0, 1, 2, 3, 4, 5, 6, 7], [7, 8])])
def pick_rotated.B19 : List Nat := [0, 1, 0, 0, 0, 24, 60, 127, 255, 511]
theorem pick_rotated.tab19 : rtab .any (opsOf Try.f27 19) = pick_rotated.T19 := by kernel_rfl
theorem pick_rotated.bits19 : waitsOk pick_rotated.T19.2 pick_rotated.B19 = true := by kernel_rfl
set_option maxHeartbeats 8000000 in
set_option maxRecDepth 100000 in
theorem pick_rotated.calls (k : Nat) (a0 : Int) (P1_0_ : Nat → Prop) (A1_0 : Option Addr) (c1_0 : Nat) (l1_0 : List Int) (P1_1_ : Nat → Prop) (A1_1 : Option Addr) (c1_1 : Nat) (l1_1 : List (S45)) (a2 : Int) (r1 : List Int) (r2 : List (S45)) (w : World) (hs1_0 : Kd.V (Kd.int .i64) 3 w w.heap.size (fun k_ => P1_0_ k_) (.slice A1_0 l1_0.length c1_0) l1_0) (hs1_1 : Kd.V k45 45 w w.heap.size (fun k_ => P1_1_ k_) (.slice A1_1 l1_1.length c1_1) l1_1) (h : pick_rotated.f k a0 l1_0 l1_1 a2 = some (r1, r2)) :
  Calls Try.prog 27 #[.int .i64 a0, .agg #[.slice A1_0 l1_0.length c1_0, .slice A1_1 l1_1.length c1_1], .int .i64 a2] w fun e w' => ∃ v0_ v1_ : Value, e = .returned (.agg #[v0_, v1_]) ∧ Kd.V (Kd.int .i64) 3 w' w.heap.size (fun k_ => ((P1_0_ k_ ∨ P1_1_ k_) ∨ w.heap.size ≤ k_)) v0_ r1 ∧ Kd.V k45 45 w' w.heap.size (fun k_ => ((P1_0_ k_ ∨ P1_1_ k_) ∨ w.heap.size ≤ k_)) v1_ r2 ∧ Below w.heap.size w w' := by
 have hu25 := Try.underlying25
 have HO1_0 := gA (show Kd.V (Kd.int .i64) 3 w w.heap.size (fun k_ => ((P1_0_ k_ ∨ P1_1_ k_) ∨ w.heap.size ≤ k_)) (.slice A1_0 l1_0.length c1_0) l1_0 from Kd.V_mono hs1_0 (fun k_ hk => .inl (.inl hk)))
 have HO1_1 := gA (show Kd.V k45 45 w w.heap.size (fun k_ => ((P1_0_ k_ ∨ P1_1_ k_) ∨ w.heap.size ≤ k_)) (.slice A1_1 l1_1.length c1_1) l1_1 from Kd.V_mono hs1_1 (fun k_ hk => .inl (.inr hk)))
 have HB := gA (Below.refl w.heap.size w)
 have H : (if (l1_1.length : Int) = 0 then (pick_rotated.j0 k a0 a2 true l1_0 l1_1) else (pick_rotated.j0 k a0 a2 ((l1_0.length : Int) == 0) l1_0 l1_1)) = some (r1, r2) := h
 clear h
 have HC4 := gA H
 clear H
 go_enter Try.func27, Try.ntmps27
 go_upto_region 1 with (first | ((with_reducible refine gate_dst (N := 4) rfl ?_); (try (refine gate_guard (by rfl) ?_; dsimp only)); refine box_event ?hg (N := 4) ?hd (cs := #[.slice A1_0 l1_0.length c1_0, .slice A1_1 l1_1.length c1_1]) (t := 25) ?hr ?_; (case hd => rfl); (case hg => rfl); (case hr => first | (go_simp; done) | (go_simp; rfl)); intro gb258 hg w5 hbox hb; replace HO1_0 := gA (Kd.V_below (Kd.V_elderB (gV HO1_0) gb258 (Nat.le_of_eq hg.symm)) hb); replace HO1_1 := gA (Kd.V_below (Kd.V_elderB (gV HO1_1) gb258 (Nat.le_of_eq hg.symm)) hb); have BK258 := gA (hbox); have GW258 := gA ((by rw [hg]; exact (below_size (gB HB)) : w.heap.size ≤ gb258)); have GE258 := gA ((by rw [hg]; exact (below_size (gB HB)) : w.heap.size ≤ gb258)); replace HB := gA (below_step (gB HB) hb); clear hb hbox hg) | ((with_reducible refine gate_dst (N := 6) rfl ?_); (try (refine gate_guard (by rfl) ?_; dsimp only)); refine box_event ?hg (N := 6) ?hd (cs := #[.slice none 0 0, .slice none 0 0]) (t := 25) ?hr ?_; (case hd => rfl); (case hg => rfl); (case hr => first | (go_simp; done) | (go_simp; rfl)); intro gb259 hg w6 hbox hb; replace HO1_0 := gA (Kd.V_below (Kd.V_elderB (gV HO1_0) gb259 (Nat.le_of_eq hg.symm)) hb); replace HO1_1 := gA (Kd.V_below (Kd.V_elderB (gV HO1_1) gb259 (Nat.le_of_eq hg.symm)) hb); have BK259 := gA (hbox); have GW259 := gA ((by rw [hg]; exact (below_size (gB HB)) : w.heap.size ≤ gb259)); have GE259 := gA ((by rw [hg]; exact (below_size (gB HB)) : w.heap.size ≤ gb259)); replace HB := gA (below_step (gB HB) hb); have NB258_259 := gA ((by rw [hg]; exact Nat.ne_of_lt (blk_lt (gK BK258)) : gb258 ≠ gb259)); have NB259_258 := gA ((by rw [hg]; exact Nat.ne_of_gt (blk_lt (gK BK258)) : gb259 ≠ gb258)); replace BK258 := gA (blk_below (gK BK258) hb); clear hb hbox hg))
 (try simp only [Act.put, List.setIfInBounds_toArray, List.set_cons_zero, List.set_cons_succ])
 go_cut [24] (fun v24 wc => ∃ (kq : Nat) (x24_3 : Bool), v24 = .bool x24_3 ∧ Aside0 (pick_rotated.j0 kq a0 a2 x24_3 l1_0 l1_1 = some (r1, r2)) ∧ Aside0 (kq ≤ k) ∧ Aside0 (Kd.V (Kd.int .i64) 3 wc w.heap.size (fun k_ => ((P1_0_ k_ ∨ P1_1_ k_) ∨ w.heap.size ≤ k_) ∧ k_ ≠ gb258 ∧ k_ ≠ gb259) (.slice A1_0 l1_0.length c1_0) l1_0) ∧ Aside0 (Kd.V k45 45 wc w.heap.size (fun k_ => ((P1_0_ k_ ∨ P1_1_ k_) ∨ w.heap.size ≤ k_) ∧ k_ ≠ gb258 ∧ k_ ≠ gb259) (.slice A1_1 l1_1.length c1_1) l1_1) ∧ Aside0 (wc.heap[gb258]? = some (.cells #[(.slice A1_0 l1_0.length c1_0), (.slice A1_1 l1_1.length c1_1)] 25 (0, 0))) ∧ Aside0 (wc.heap[gb259]? = some (.cells #[(.slice none 0 0), (.slice none 0 0)] 25 (0, 0))) ∧ Aside0 (Below w.heap.size w wc))
 case first =>
  have H := HC4.out; clear HC4
  by_cases c7 : (l1_1.length : Int) = 0
  ·rw [if_pos c7] at H
   have c7b0 : ((l1_1.length : Int) == 0) = true := beq_iff_eq.mpr c7
   have c7b1 : ((l1_1.length : Int) != 0) = false := bne_eq_false_iff_eq.mpr c7
   clear c7
   (first | rw [c7b0] | rw [c7b1] | (simp only [i64_w, i32_w]; rw [c7b0]) | skip)
   have H' := gA H
   clear H
   have hnb8 := NB258_259.out
   have hnc8 := NB259_258.out
   obtain ⟨hcz9_0, hcz9_1, hfz9_0, hfz9_1⟩ := gz2 BK258
   go_wp2
   all_goals (go_meet; (case rel => exact ⟨_, (true), (by first | rfl | (simp; done) | (simp [*]; done) | (exfalso; simp_all; done) | (exfalso; simp_all; omega)), H', ⟨by first | omega | exact Nat.le_refl _⟩, ⟨Kd.V_mono HO1_0.out (fun _ hk => ⟨hk.1.1, ⟨hk.1.2, hk.2⟩⟩)⟩, ⟨Kd.V_mono HO1_1.out (fun _ hk => ⟨hk.1.1, ⟨hk.1.2, hk.2⟩⟩)⟩, ⟨gK BK258⟩, ⟨gK BK259⟩, ⟨gB HB⟩⟩))
  ·rw [if_neg c7] at H
   have c7b0 : ((l1_1.length : Int) == 0) = false := beq_eq_false_iff_ne.mpr c7
   have c7b1 : ((l1_1.length : Int) != 0) = true := bne_iff_ne.mpr c7
   have c7b2 : ¬ (l1_1 = []) := fun h_ => c7 (by rw [h_]; rfl)
   (first | rw [c7b0] | rw [c7b1] | rw [c7b2] | (simp only [i64_w, i32_w]; rw [c7b0]) | skip)
   have H' := gA H
   clear H
   have hnb10 := NB258_259.out
   have hnc10 := NB259_258.out
   obtain ⟨hcz11_0, hcz11_1, hfz11_0, hfz11_1⟩ := gz2 BK258
   go_wp2
   all_goals (go_meet; (case rel => exact ⟨_, (((l1_0.length : Int) == 0)), (by first | rfl | (simp; done) | (simp [*]; done) | (exfalso; simp_all; done) | (exfalso; simp_all; omega)), H', ⟨by first | omega | exact Nat.le_refl _⟩, ⟨Kd.V_mono HO1_0.out (fun _ hk => ⟨hk.1.1, ⟨hk.1.2, hk.2⟩⟩)⟩, ⟨Kd.V_mono HO1_1.out (fun _ hk => ⟨hk.1.1, ⟨hk.1.2, hk.2⟩⟩)⟩, ⟨gK BK258⟩, ⟨gK BK259⟩, ⟨gB HB⟩⟩))
 case rest =>
  clear HC4
  try clear c1
  try clear c2
  try clear p2
  try clear c7
  try clear c7b0
  try clear c7b1
  try clear c7b2
  try clear c8
  try clear c10
  try clear hcz11_0
  try clear hcz11_1
  try clear hcz9_0
  try clear hcz9_1
  try clear hfz11_0
  try clear hfz11_1
  try clear hfz9_0
  try clear hfz9_1
  obtain ⟨kq, x24_3, rfl, HA, HJ3, HO_259000, HO_259001, BK258, BK259, HB⟩ := hcut
  cases kq with
  | zero => exact absurd HA.out (by simp [pick_rotated.j0])
  | succ kj3 =>
   have H := HA.out; clear HA
   simp only [pick_rotated.j0] at H
   by_cases c12 : x24_3 = true
   ·subst c12
    have H1 : (some (l1_0, l1_1)) = some (r1, r2) := by rw [if_pos rfl] at H; exact H
    clear H; have H := H1; clear H1
    simp only [Option.some.injEq, Prod.mk.injEq] at H
    obtain ⟨rfl, rfl⟩ := H
    have hnb13 := NB258_259.out
    have hnc13 := NB259_258.out
    obtain ⟨hcz14_0, hcz14_1, hfz14_0, hfz14_1⟩ := gz2 BK258
    obtain ⟨hcz15_0, hcz15_1, hfz15_0, hfz15_1⟩ := gz2 BK259
    go_wp2
    refine bodyPost_ret (results_cell_row rfl _ _ gb259 25 #[.slice A1_0 l1_0.length c1_0, .slice A1_1 l1_1.length c1_1] (0, 0) _ rfl (by refine blk_put (cs := #[.slice A1_0 l1_0.length c1_0, .slice none 0 0]) ?_ 1 _ rfl; refine blk_put (cs := #[.slice none 0 0, .slice none 0 0]) ?_ 0 _ rfl; exact gK BK259) Try.underlying25 rfl (by kernel_rfl)) rfl ?_
    exact ⟨_, _, rfl, Kd.V_mono (Kd.V_far (p := ⟨gb259, 1, none⟩) (Kd.V_far (p := ⟨gb259, 0, none⟩) (Kd.V_mono HO_259000.out (fun k_ hk => (⟨hk, hk.2.2⟩ : _ ∧ k_ ≠ gb259))) (fun _ hk => hk.2) (.slice A1_0 l1_0.length c1_0)) (fun _ hk => hk.2) (.slice A1_1 l1_1.length c1_1)) (fun _ hk => hk.1.1), Kd.V_mono (Kd.V_far (p := ⟨gb259, 1, none⟩) (Kd.V_far (p := ⟨gb259, 0, none⟩) (Kd.V_mono HO_259001.out (fun k_ hk => (⟨hk, hk.2.2⟩ : _ ∧ k_ ≠ gb259))) (fun _ hk => hk.2) (.slice A1_0 l1_0.length c1_0)) (fun _ hk => hk.2) (.slice A1_1 l1_1.length c1_1)) (fun _ hk => hk.1.1), by repeat first | exact gB HB | refine below_set ?_ GE258.out | refine below_set ?_ GE259.out⟩
   ·replace c12 := Bool.eq_false_iff.mpr c12
    subst c12
    have H1 : (if 0 ≤ (wrap64 (a2 + 1)) then (if (wrap64 (a2 + 1)) ≤ (l1_0.length : Int) then ((some (l1_0.drop ((wrap64 (a2 + 1)) : Int).toNat : List Int)).bind fun y260 => (pick_rotated.l0 kj3 a0 a2 1 y260 (y260.length : Int) 0 l1_0 l1_1)) else (none)) else (none)) = some (r1, r2) := by rw [if_neg (show ¬ (false = true) by decide)] at H; exact H
    clear H; have H := H1; clear H1
    obtain ⟨ji16, hji16⟩ : ∃ j_ : Int, (wrap64 (a2 + 1)) = j_ := ⟨_, rfl⟩
    replace H : (if 0 ≤ (ji16) then (if (ji16) ≤ (l1_0.length : Int) then ((some (l1_0.drop ((ji16) : Int).toNat : List Int)).bind fun y260 => (pick_rotated.l0 kj3 a0 a2 1 y260 (y260.length : Int) 0 l1_0 l1_1)) else (none)) else (none)) = some (r1, r2) := by first | (rw [hji16] at H; exact H) | (simp only [hji16] at H ⊢; exact H)
    have hji16w : (IntKind.i64.wrap (a2 + 1)) = ji16 := (i64_w _).trans hji16
    obtain ⟨c17, H⟩ := iS H
    have c17b0 := eq_true c17
    have c17b1 := decide_eq_true c17
    clear c17
    obtain ⟨c18, H⟩ := iS H
    have c18b0 := eq_true c18
    have c18b1 := decide_eq_true c18
    clear c18
    obtain ⟨y260, hy260⟩ : ∃ y_ : List Int, y_ = (l1_0.drop ((ji16) : Int).toNat) := ⟨_, rfl⟩
    replace H : (pick_rotated.l0 kj3 a0 a2 1 y260 (y260.length : Int) 0 l1_0 l1_1) = some (r1, r2) := by first | (rw [hy260]; with_reducible exact H) | (have H2_ := (Option.bind_some _ _).symm.trans H; rw [hy260]; with_reducible exact H2_) | (have H2_ := (Option.bind_some _ _).symm.trans H; with_reducible exact H2_) | with_reducible exact H | (rw [hy260]; exact H) | exact H
    have Ny260 := gA hy260
    clear hy260
    have H' := gA H
    clear H
    have hnb19 := NB258_259.out
    have hnc19 := NB259_258.out
    obtain ⟨hcz20_0, hcz20_1, hfz20_0, hfz20_1⟩ := gz2 BK258
    have q21 : ((ji16) : Int) ≤ ((l1_0.length : Int) : Int) := of_decide_eq_true (by assumption)
    obtain ⟨i021, hi021, _, hsz21, _⟩ := info_parts info3
    have hroom21 : l1_0.length ≤ c1_0 := (Kd.V_reads' HO_259000.out).2.1
    have hC21 : Kd.F (Kd.int .i64) _ _ A1_0 l1_0.length l1_0 := (Kd.V_at (base := w.heap.size) HO_259000.out).2.2
    have q021 : (0 : Int) ≤ ((ji16) : Int) := of_decide_eq_true (by assumption)
    have hcut21 := cut_from (P := Try.prog) 22 3 .i64 Try.underlying22 hi021 1 hsz21 A1_0 l1_0.length c1_0 (ji16) q021 q21
    have hr21 := Kd.F_cut (m := ((ji16) : Int).toNat) (c := c1_0) hC21 (by omega) hroom21
    obtain ⟨A21, hA21⟩ : ∃ A1, A1 = (if c1_0 = ((ji16) : Int).toNat then A1_0 else (A1_0 : Option Addr).map (·.add (((ji16) : Int).toNat * 1))) := ⟨_, rfl⟩
    obtain ⟨c21, hc21⟩ : ∃ c1, c1 = c1_0 - ((ji16) : Int).toNat := ⟨_, rfl⟩
    have hy21 : y260.length = l1_0.length - ((ji16) : Int).toNat := (by rw [Ny260.out, List.length_drop] <;> omega)
    rw [show (l1_0).drop ((ji16) : Int).toNat = y260 from Ny260.out.symm] at hr21
    replace hr21 : Kd.F (Kd.int .i64) _ _ A21 y260.length y260 := (by rw [hA21]; exact hr21)
    rw [← hy21, ← hA21, ← hc21] at hcut21
    have HO264 := gA (show Kd.V (Kd.int .i64) 3 _ w.heap.size _ (.slice A21 y260.length c21) y260 from Kd.V_mk (by rw [hy21, hc21]; exact Nat.sub_le_sub_right hroom21 _) hr21)
    have HC264 := gA (show y260.length ≤ c21 from by rw [hy21, hc21]; exact Nat.sub_le_sub_right hroom21 _)
    clear hr21 hC21 hroom21 hi021 hsz21 hc21
    have KY21 := gA hy21
    have KA21 := gA hA21
    clear hy21 hA21
    replace q21 := eq_true q21
    go_wp2
    go_loopg [7, 32] kj3 (fun kq v7 v32 w' => ∃ (x7_2 : Int) (x32_2 : Int), v7 = .int .i64 x7_2 ∧ v32 = .int .i64 x32_2 ∧ Aside0 (pick_rotated.l0 kq a0 a2 x7_2 y260 (y260.length : Int) x32_2 l1_0 l1_1 = some (r1, r2)) ∧ Aside0 (kq ≤ kj3) ∧ Aside0 (Kd.V (Kd.int .i64) 3 w' w.heap.size (fun k_ => ((P1_0_ k_ ∨ P1_1_ k_) ∨ w.heap.size ≤ k_) ∧ k_ ≠ gb258 ∧ k_ ≠ gb259) (.slice A21 y260.length c21) y260) ∧ Aside0 (Kd.V (Kd.int .i64) 3 w' w.heap.size (fun k_ => ((P1_0_ k_ ∨ P1_1_ k_) ∨ w.heap.size ≤ k_) ∧ k_ ≠ gb258 ∧ k_ ≠ gb259) (.slice A1_0 l1_0.length c1_0) l1_0) ∧ Aside0 (Kd.V k45 45 w' w.heap.size (fun k_ => ((P1_0_ k_ ∨ P1_1_ k_) ∨ w.heap.size ≤ k_) ∧ k_ ≠ gb258 ∧ k_ ≠ gb259) (.slice A1_1 l1_1.length c1_1) l1_1) ∧ Aside0 (w'.heap[gb258]? = some (.cells #[(.slice A1_0 l1_0.length c1_0), (.slice A1_1 l1_1.length c1_1)] 25 (0, 0))) ∧ Aside0 (w'.heap[gb259]? = some (.cells #[(.slice none 0 0), (.slice none 0 0)] 25 (0, 0))) ∧ Aside0 (Below w.heap.size w w'))
    case atStart => exact ⟨(1), (0), (rfl), (rfl), H', ⟨Nat.le_refl _⟩, ⟨gV HO264⟩, ⟨gV HO_259000⟩, ⟨gV HO_259001⟩, ⟨gK BK258⟩, ⟨gK BK259⟩, ⟨by repeat first | exact gB HB | refine below_set ?_ GE258.out | refine below_set ?_ GE259.out⟩⟩
    case round =>
     clear H'
     try clear c1
     try clear c2
     try clear p2
     try clear q2
     try clear p6
     try clear c7
     try clear c7b0
     try clear c7b1
     try clear c7b2
     try clear c8
     try clear c10
     try clear c12
     try clear c13
     try clear c17
     try clear c17b0
     try clear c17b1
     try clear c18
     try clear c18b0
     try clear c18b1
     try clear c19
     try clear c21
     try clear q21
     try clear hcz11_0
     try clear hcz11_1
     try clear hcz14_0
     try clear hcz14_1
     try clear hcz15_0
     try clear hcz15_1
     try clear hcz20_0
     try clear hcz20_1
     try clear hcz9_0
     try clear hcz9_1
     try clear hfz11_0
     try clear hfz11_1
     try clear hfz14_0
     try clear hfz14_1
     try clear hfz15_0
     try clear hfz15_1
     try clear hfz20_0
     try clear hfz20_1
     try clear hfz9_0
     try clear hfz9_1
     try clear p2
     try clear q021
     try clear q21
     obtain ⟨x7_2, x32_2, rfl, rfl, HA, HK2, HO_30, HO_259000, HO_259001, BK258, BK259, HB⟩ := hrel
     cases gk with
     | zero => exact absurd HA.out (by simp [pick_rotated.l0])
     | succ k2 =>
      have H := HA.out; clear HA
      simp only [pick_rotated.l0] at H
      by_cases c22 : x32_2 < (y260.length : Int)
      ·rw [if_pos c22] at H
       have c22b0 := decide_eq_true c22
       clear c22
       obtain ⟨c23, H⟩ := iS H
       have c23b0 := decide_eq_true c23
       clear c23
       obtain ⟨c24, H⟩ := iS H
       have c24b0 := decide_eq_true c24
       clear c24
       have H' := gA H
       clear H
       have p265 : 0 ≤ (x32_2 : Int) := of_decide_eq_true (by assumption)
       have q265 : x32_2 < (y260.length : Int) := of_decide_eq_true (by assumption)
       obtain ⟨ad265, e265, hx265_0⟩ := Kd.at_int (Kd.V_reads' HO_30.out).2.2 x32_2 p265 q265
       cases e265
       replace p265 := eq_true p265
       replace q265 := eq_true q265
       go_wp2
       go_roundg k2
       case measure => have := HJ3.out; have := HK2.out; omega
       case rel => exact ⟨(wrap64 (x7_2 * (rd y260 x32_2))), (wrap64 (x32_2 + 1)), (rfl), (rfl), H', ⟨by have := HJ3.out; have := HK2.out; omega⟩, ⟨gV HO_30⟩, ⟨gV HO_259000⟩, ⟨gV HO_259001⟩, ⟨gK BK258⟩, ⟨gK BK259⟩, ⟨gB HB⟩⟩
      ·rw [if_neg c22] at H
       have c22b0 := decide_eq_false c22
       clear c22
       obtain ⟨c25, H⟩ := iS H
       have c25b0 := decide_eq_true c25
       clear c25
       obtain ⟨c26, H⟩ := iS H
       have c26b0 := decide_eq_true c26
       clear c26
       obtain ⟨c27, H⟩ := iN H
       have c27b0 : ((rd l1_0 a2) == 0) = false := beq_eq_false_iff_ne.mpr c27
       have c27b1 : ((rd l1_0 a2) != 0) = true := bne_iff_ne.mpr c27
       have HC28 := gA H
       clear H
       have hnb29 := NB258_259.out
       have hnc29 := NB259_258.out
       obtain ⟨hcz30_0, hcz30_1, hfz30_0, hfz30_1⟩ := gz2 BK258
       have p266 : 0 ≤ (a2 : Int) := of_decide_eq_true (by assumption)
       have q266 : a2 < (l1_0.length : Int) := of_decide_eq_true (by assumption)
       obtain ⟨ad266, e266, hx266_0⟩ := Kd.at_int (Kd.V_reads' HO_259000.out).2.2 a2 p266 q266
       cases e266
       replace p266 := eq_true p266
       replace q266 := eq_true q266
       go_upto_if 49 with (fail)
       go_cut [11] (fun v11 wc => ∃ (kq : Nat) (x11_27 : Int), v11 = .int .i64 x11_27 ∧ Aside0 (pick_rotated.j2 kq x7_2 (rd l1_0 a2) x11_27 l1_0 l1_1 = some (r1, r2)) ∧ Aside0 (kq ≤ k2) ∧ Aside0 (Kd.V (Kd.int .i64) 3 wc w.heap.size (fun k_ => ((P1_0_ k_ ∨ P1_1_ k_) ∨ w.heap.size ≤ k_) ∧ k_ ≠ gb258 ∧ k_ ≠ gb259) (.slice (some ad266) l1_0.length c1_0) l1_0) ∧ Aside0 (Kd.V k45 45 wc w.heap.size (fun k_ => ((P1_0_ k_ ∨ P1_1_ k_) ∨ w.heap.size ≤ k_) ∧ k_ ≠ gb258 ∧ k_ ≠ gb259) (.slice A1_1 l1_1.length c1_1) l1_1) ∧ Aside0 (wc.heap[gb258]? = some (.cells #[(.slice (some ad266) l1_0.length c1_0), (.slice A1_1 l1_1.length c1_1)] 25 (0, 0))) ∧ Aside0 (wc.heap[gb259]? = some (.cells #[(.slice none 0 0), (.slice none 0 0)] 25 (0, 0))) ∧ Aside0 (Below w.heap.size w wc))
       case first =>
        have H := HC28.out; clear HC28
        by_cases c31 : (Int.tmod a0 (rd l1_0 a2)) < 0
        ·rw [if_pos c31] at H
         have c31b0 := decide_eq_true c31
         clear c31
         (first | rw [c31b0] | (simp only [i64_w, i32_w]; rw [c31b0]) | skip)
         have H' := gA H
         clear H
         go_wp2
         all_goals (go_meet; (case rel => exact ⟨_, (wrap64 ((Int.tmod a0 (rd l1_0 a2)) + (rd l1_0 a2))), (by first | rfl | (simp; done) | (simp [*]; done) | (exfalso; simp_all; done) | (exfalso; simp_all; omega)), H', ⟨by have := HJ3.out; have := HK2.out; first | omega | exact Nat.le_refl _⟩, ⟨gV HO_259000⟩, ⟨gV HO_259001⟩, ⟨gK BK258⟩, ⟨gK BK259⟩, ⟨gB HB⟩⟩))
        ·rw [if_neg c31] at H
         have c31b0 := decide_eq_false c31
         clear c31
         (first | rw [c31b0] | (simp only [i64_w, i32_w]; rw [c31b0]) | skip)
         have H' := gA H
         clear H
         go_wp2
         all_goals (go_meet; (case rel => exact ⟨_, (Int.tmod a0 (rd l1_0 a2)), (by first | rfl | (simp; done) | (simp [*]; done) | (exfalso; simp_all; done) | (exfalso; simp_all; omega)), H', ⟨by have := HJ3.out; have := HK2.out; first | omega | exact Nat.le_refl _⟩, ⟨gV HO_259000⟩, ⟨gV HO_259001⟩, ⟨gK BK258⟩, ⟨gK BK259⟩, ⟨gB HB⟩⟩))
       case rest =>
        clear HC28
        try clear c1
        try clear c2
        try clear p2
        try clear q2
        try clear hx2
        try clear c3
        try clear p6
        try clear c7
        try clear c7b0
        try clear c7b1
        try clear c7b2
        try clear c8
        try clear c10
        try clear c12
        try clear c13
        try clear c17
        try clear c17b0
        try clear c17b1
        try clear c18
        try clear c18b0
        try clear c18b1
        try clear c19
        try clear c21
        try clear q21
        try clear c22
        try clear c22b0
        try clear c23
        try clear c23b0
        try clear c24
        try clear c24b0
        try clear c25
        try clear c25b0
        try clear c26
        try clear c26b0
        try clear p26
        try clear q26
        try clear hx26
        try clear c27
        try clear c27b0
        try clear c27b1
        try clear c29
        try clear c31
        try clear c31b0
        try clear hcz11_0
        try clear hcz11_1
        try clear hcz14_0
        try clear hcz14_1
        try clear hcz15_0
        try clear hcz15_1
        try clear hcz20_0
        try clear hcz20_1
        try clear hcz30_0
        try clear hcz30_1
        try clear hcz9_0
        try clear hcz9_1
        try clear hfz11_0
        try clear hfz11_1
        try clear hfz14_0
        try clear hfz14_1
        try clear hfz15_0
        try clear hfz15_1
        try clear hfz20_0
        try clear hfz20_1
        try clear hfz30_0
        try clear hfz30_1
        try clear hfz9_0
        try clear hfz9_1
        try clear hx265_0
        try clear hx266_0
        try clear p2
        try clear p265
        try clear p266
        try clear p6
        try clear q021
        try clear q2
        try clear q21
        try clear q265
        try clear q266
        obtain ⟨kq, x11_27, rfl, HA, HJ27, HO_259000, HO_259001, BK258, BK259, HB⟩ := hcut
        cases kq with
        | zero => exact absurd HA.out (by simp [pick_rotated.j2])
        | succ kj27 =>
         have H := HA.out; clear HA
         simp only [pick_rotated.j2] at H
         have H' := gA H
         clear H
         have hnb32 := NB258_259.out
         have hnc32 := NB259_258.out
         obtain ⟨hcz33_0, hcz33_1, hfz33_0, hfz33_1⟩ := gz2 BK258
         go_wp2_with (first | ((with_reducible refine gate_dst (N := 12) rfl ?_); (try (refine gate_guard (by rfl) ?_; dsimp only)); refine box_event ?hg (N := 12) ?hd (cs := #[.slice none 0 0, .slice none 0 0]) (t := 25) ?hr ?_; (case hd => rfl); (case hg => rfl); (case hr => first | (go_simp; done) | (go_simp; rfl)); intro gb267 hg w34 hbox hb; replace HO_259000 := gA (Kd.V_below (Kd.V_elderB (gV HO_259000) gb267 (Nat.le_of_eq hg.symm)) hb); replace HO_259001 := gA (Kd.V_below (Kd.V_elderB (gV HO_259001) gb267 (Nat.le_of_eq hg.symm)) hb); have BK267 := gA (hbox); have GW267 := gA ((by rw [hg]; exact (below_size (gB HB)) : w.heap.size ≤ gb267)); have GE267 := gA ((by rw [hg]; exact (below_size (gB HB)) : w.heap.size ≤ gb267)); replace HB := gA (below_step (gB HB) hb); have NB258_267 := gA ((by rw [hg]; exact Nat.ne_of_lt (blk_lt (gK BK258)) : gb258 ≠ gb267)); have NB267_258 := gA ((by rw [hg]; exact Nat.ne_of_gt (blk_lt (gK BK258)) : gb267 ≠ gb258)); replace BK258 := gA (blk_below (gK BK258) hb); have NB259_267 := gA ((by rw [hg]; exact Nat.ne_of_lt (blk_lt (gK BK259)) : gb259 ≠ gb267)); have NB267_259 := gA ((by rw [hg]; exact Nat.ne_of_gt (blk_lt (gK BK259)) : gb267 ≠ gb259)); replace BK259 := gA (blk_below (gK BK259) hb); clear hb hbox hg; have hnb35 := NB267_258.out; have hnc35 := NB258_267.out; have hnb36 := NB267_259.out; have hnc36 := NB259_267.out; obtain ⟨hcz37_0, hcz37_1, hfz37_0, hfz37_1⟩ := gz2 BK267))
         go_loopg [13] kj27 (fun kq v13 w' => ∃ (x13_4 : Int) (x268001_4 : List (S45)) (u268001 : Value), v13 = .int .i64 x13_4 ∧ Aside0 (pick_rotated.l1 kq x7_2 (rd l1_0 a2) x11_27 x13_4 l1_0 l1_1 l1_0 x268001_4 = some (r1, r2)) ∧ Aside0 (kq ≤ kj27) ∧ Aside0 (Kd.V (Kd.int .i64) 3 w' w.heap.size (fun k_ => ((P1_0_ k_ ∨ P1_1_ k_) ∨ w.heap.size ≤ k_) ∧ some k_ ≠ (u268001 : Value).ownBlock ∧ k_ ≠ gb258 ∧ k_ ≠ gb259 ∧ k_ ≠ gb267) (.slice (some ad266) l1_0.length c1_0) l1_0) ∧ Aside0 (Kd.V k45 45 w' w.heap.size (fun k_ => ((P1_0_ k_ ∨ P1_1_ k_) ∨ w.heap.size ≤ k_) ∧ some k_ ≠ (u268001 : Value).ownBlock ∧ k_ ≠ gb258 ∧ k_ ≠ gb259 ∧ k_ ≠ gb267) (.slice A1_1 l1_1.length c1_1) l1_1) ∧ Aside0 (Kd.V (Kd.int .i64) 3 w' w.heap.size (fun k_ => ((P1_0_ k_ ∨ P1_1_ k_) ∨ w.heap.size ≤ k_) ∧ some k_ ≠ (u268001 : Value).ownBlock ∧ k_ ≠ gb258 ∧ k_ ≠ gb259 ∧ k_ ≠ gb267) (.slice (some ad266) l1_0.length c1_0) l1_0) ∧ Aside0 (Kd.N k45 45 w' w.heap.size (fun k_ => ((P1_0_ k_ ∨ P1_1_ k_) ∨ w.heap.size ≤ k_) ∧ k_ ≠ gb258 ∧ k_ ≠ gb259 ∧ k_ ≠ gb267) u268001 x268001_4) ∧ Aside0 (w'.heap[gb258]? = some (.cells #[(.slice (some ad266) l1_0.length c1_0), (.slice A1_1 l1_1.length c1_1)] 25 (0, 0))) ∧ Aside0 (w'.heap[gb259]? = some (.cells #[(.slice none 0 0), (.slice none 0 0)] 25 (0, 0))) ∧ Aside0 (w'.heap[gb267]? = some (.cells #[(.slice (some ad266) l1_0.length c1_0), u268001] 25 (0, 0))) ∧ Aside0 (Below w.heap.size w w'))
         case atStart => exact ⟨(0), (([] : List (S45))), (.slice none 0 0), (rfl), H', ⟨Nat.le_refl _⟩, ⟨Kd.V_mono (Kd.V_far (p := ⟨gb267, 1, none⟩) (Kd.V_far (p := ⟨gb267, 0, none⟩) (Kd.V_mono HO_259000.out (fun k_ hk => (⟨hk, hk.2⟩ : _ ∧ k_ ≠ gb267))) (fun _ hk => hk.2) (.slice (some ad266) l1_0.length c1_0)) (fun _ hk => hk.2) (.slice none 0 0)) (fun _ hk => ⟨hk.1.1.1, ⟨(by simp [Value.ownBlock]), ⟨hk.1.1.2.1, ⟨hk.1.1.2.2, hk.1.2⟩⟩⟩⟩)⟩, ⟨Kd.V_mono (Kd.V_far (p := ⟨gb267, 1, none⟩) (Kd.V_far (p := ⟨gb267, 0, none⟩) (Kd.V_mono HO_259001.out (fun k_ hk => (⟨hk, hk.2⟩ : _ ∧ k_ ≠ gb267))) (fun _ hk => hk.2) (.slice (some ad266) l1_0.length c1_0)) (fun _ hk => hk.2) (.slice none 0 0)) (fun _ hk => ⟨hk.1.1.1, ⟨(by simp [Value.ownBlock]), ⟨hk.1.1.2.1, ⟨hk.1.1.2.2, hk.1.2⟩⟩⟩⟩)⟩, ⟨Kd.V_mono (Kd.V_far (p := ⟨gb267, 1, none⟩) (Kd.V_far (p := ⟨gb267, 0, none⟩) (Kd.V_mono HO_259000.out (fun k_ hk => (⟨hk, hk.2⟩ : _ ∧ k_ ≠ gb267))) (fun _ hk => hk.2) (.slice (some ad266) l1_0.length c1_0)) (fun _ hk => hk.2) (.slice none 0 0)) (fun _ hk => ⟨hk.1.1.1, ⟨(by simp [Value.ownBlock]), ⟨hk.1.1.2.1, ⟨hk.1.1.2.2, hk.1.2⟩⟩⟩⟩)⟩, ⟨by first | exact Kd.R_nil _ _ _ _ _ | exact Kd.N_nil _ _ _ _ _ | exact Kd.V_nil _ _ _ _ _ | exact Kd.Q_nil _ _ _ _ _ | exact Kd.S_nil _ _ _ _ _⟩, ⟨by refine blk_far ?_ NB258_267.out _; refine blk_far ?_ NB258_267.out _; exact gK BK258⟩, ⟨by refine blk_far ?_ NB259_267.out _; refine blk_far ?_ NB259_267.out _; exact gK BK259⟩, ⟨by refine blk_put (cs := #[.slice (some ad266) l1_0.length c1_0, .slice none 0 0]) ?_ 1 _ rfl; refine blk_put (cs := #[.slice none 0 0, .slice none 0 0]) ?_ 0 _ rfl; exact gK BK267⟩, ⟨by repeat first | exact gB HB | refine below_set ?_ GE258.out | refine below_set ?_ GE259.out | refine below_set ?_ GE267.out⟩⟩
         case round =>
          clear H'
          try clear c1
          try clear c2
          try clear p2
          try clear q2
          try clear hx2
          try clear c3
          try clear p6
          try clear c7
          try clear c7b0
          try clear c7b1
          try clear c7b2
          try clear c8
          try clear c10
          try clear c12
          try clear c13
          try clear c17
          try clear c17b0
          try clear c17b1
          try clear c18
          try clear c18b0
          try clear c18b1
          try clear c19
          try clear c21
          try clear q21
          try clear c22
          try clear c22b0
          try clear c23
          try clear c23b0
          try clear c24
          try clear c24b0
          try clear c25
          try clear c25b0
          try clear c26
          try clear c26b0
          try clear p26
          try clear q26
          try clear hx26
          try clear c27
          try clear c27b0
          try clear c27b1
          try clear c29
          try clear c31
          try clear c31b0
          try clear c32
          try clear c35
          try clear c36
          try clear hcz11_0
          try clear hcz11_1
          try clear hcz14_0
          try clear hcz14_1
          try clear hcz15_0
          try clear hcz15_1
          try clear hcz20_0
          try clear hcz20_1
          try clear hcz30_0
          try clear hcz30_1
          try clear hcz33_0
          try clear hcz33_1
          try clear hcz37_0
          try clear hcz37_1
          try clear hcz9_0
          try clear hcz9_1
          try clear hfz11_0
          try clear hfz11_1
          try clear hfz14_0
          try clear hfz14_1
          try clear hfz15_0
          try clear hfz15_1
          try clear hfz20_0
          try clear hfz20_1
          try clear hfz30_0
          try clear hfz30_1
          try clear hfz33_0
          try clear hfz33_1
          try clear hfz37_0
          try clear hfz37_1
          try clear hfz9_0
          try clear hfz9_1
          try clear hx265_0
          try clear hx266_0
          try clear p2
          try clear p26
          try clear p265
          try clear p266
          try clear p6
          try clear q021
          try clear q2
          try clear q21
          try clear q26
          try clear q265
          try clear q266
          obtain ⟨x13_4, x268001_4, u268001, rfl, HA, HK4, HO_259000, HO_259001, HO_268000, HO_268001, BK258, BK259, BK267, HB⟩ := hrel
          cases gk with
          | zero => exact absurd HA.out (by simp [pick_rotated.l1])
          | succ k4 =>
           have H := HA.out; clear HA
           simp only [pick_rotated.l1] at H
           by_cases c38 : x13_4 < (l1_1.length : Int)
           ·rw [if_pos c38] at H
            have c38b0 := decide_eq_true c38
            clear c38
            obtain ⟨c39, H⟩ := iS H
            have c39b0 := eq_true c39
            have c39b1 := decide_eq_true c39
            clear c39
            obtain ⟨c40, H⟩ := iS H
            have c40b0 := eq_true c40
            have c40b1 := decide_eq_true c40
            obtain ⟨c41, H⟩ := iS H
            have c41b0 := eq_true c41
            have c41b1 := decide_eq_true c41
            obtain ⟨y268, hy268⟩ : ∃ y_ : List (S45), y_ = ((l1_1.take ((wrap64 (x13_4 + (wrap64 ((rd l1_0 a2) * x7_2)))) : Int).toNat).drop (x13_4 : Int).toNat) := ⟨_, rfl⟩
            replace H : (if 0 ≤ (wrap64 (x11_27 * x7_2)) then (if (wrap64 (x11_27 * x7_2)) ≤ (y268.length : Int) then ((some (y268.drop ((wrap64 (x11_27 * x7_2)) : Int).toNat : List (S45))).bind fun y273 => (if x268001_4.length + y273.length < 3518437208883 then ((some (x268001_4 ++ y273 : List (S45))).bind fun y278 => ((some (y268.take ((wrap64 (x11_27 * x7_2)) : Int).toNat : List (S45))).bind fun y281 => (if y278.length + y281.length < 3518437208883 then (pick_rotated.l1 k4 x7_2 (rd l1_0 a2) x11_27 (wrap64 (x13_4 + (wrap64 ((rd l1_0 a2) * x7_2)))) l1_0 l1_1 l1_0 (y278 ++ y281)) else (none)))) else (none))) else (none)) else (none)) = some (r1, r2) := by first | (rw [hy268]; with_reducible exact H) | (have H2_ := (Option.bind_some _ _).symm.trans H; rw [hy268]; with_reducible exact H2_) | (have H2_ := (Option.bind_some _ _).symm.trans H; with_reducible exact H2_) | with_reducible exact H | (rw [hy268]; exact H) | exact H
            have Ny268 := gA hy268
            clear hy268
            obtain ⟨ji42, hji42⟩ : ∃ j_ : Int, (wrap64 (x11_27 * x7_2)) = j_ := ⟨_, rfl⟩
            replace H : (if 0 ≤ (ji42) then (if (ji42) ≤ (y268.length : Int) then ((some (y268.drop ((ji42) : Int).toNat : List (S45))).bind fun y273 => (if x268001_4.length + y273.length < 3518437208883 then ((some (x268001_4 ++ y273 : List (S45))).bind fun y278 => ((some (y268.take ((ji42) : Int).toNat : List (S45))).bind fun y281 => (if y278.length + y281.length < 3518437208883 then (pick_rotated.l1 k4 x7_2 (rd l1_0 a2) x11_27 (wrap64 (x13_4 + (wrap64 ((rd l1_0 a2) * x7_2)))) l1_0 l1_1 l1_0 (y278 ++ y281)) else (none)))) else (none))) else (none)) else (none)) = some (r1, r2) := by first | (rw [hji42] at H; exact H) | (simp only [hji42] at H ⊢; exact H)
            have hji42w : (IntKind.i64.wrap (x11_27 * x7_2)) = ji42 := (i64_w _).trans hji42
            obtain ⟨c43, H⟩ := iS H
            have c43b0 := eq_true c43
            have c43b1 := decide_eq_true c43
            clear c43
            obtain ⟨c44, H⟩ := iS H
            have c44b0 := eq_true c44
            have c44b1 := decide_eq_true c44
            clear c44
            obtain ⟨y273, hy273⟩ : ∃ y_ : List (S45), y_ = (y268.drop ((ji42) : Int).toNat) := ⟨_, rfl⟩
            replace H : (if x268001_4.length + y273.length < 3518437208883 then ((some (x268001_4 ++ y273 : List (S45))).bind fun y278 => ((some (y268.take ((ji42) : Int).toNat : List (S45))).bind fun y281 => (if y278.length + y281.length < 3518437208883 then (pick_rotated.l1 k4 x7_2 (rd l1_0 a2) x11_27 (wrap64 (x13_4 + (wrap64 ((rd l1_0 a2) * x7_2)))) l1_0 l1_1 l1_0 (y278 ++ y281)) else (none)))) else (none)) = some (r1, r2) := by first | (rw [hy273]; with_reducible exact H) | (have H2_ := (Option.bind_some _ _).symm.trans H; rw [hy273]; with_reducible exact H2_) | (have H2_ := (Option.bind_some _ _).symm.trans H; with_reducible exact H2_) | with_reducible exact H | (rw [hy273]; exact H) | exact H
            have Ny273 := gA hy273
            clear hy273
            obtain ⟨c45, H⟩ := iS H
            have LMc45 := gA c45
            clear c45
            obtain ⟨y278, hy278⟩ : ∃ y_ : List (S45), y_ = (x268001_4 ++ y273) := ⟨_, rfl⟩
            replace H : ((some (y268.take ((ji42) : Int).toNat : List (S45))).bind fun y281 => (if y278.length + y281.length < 3518437208883 then (pick_rotated.l1 k4 x7_2 (rd l1_0 a2) x11_27 (wrap64 (x13_4 + (wrap64 ((rd l1_0 a2) * x7_2)))) l1_0 l1_1 l1_0 (y278 ++ y281)) else (none))) = some (r1, r2) := by first | (rw [hy278]; with_reducible exact H) | (have H2_ := (Option.bind_some _ _).symm.trans H; rw [hy278]; with_reducible exact H2_) | (have H2_ := (Option.bind_some _ _).symm.trans H; with_reducible exact H2_) | with_reducible exact H | (rw [hy278]; exact H) | exact H
            have Ny278 := gA hy278
            clear hy278
            have c46b0 := eq_true (of_decide_eq_true (by assumption) : 0 ≤ (ji42))
            have c47b0 := eq_true (of_decide_eq_true (by assumption) : (ji42) ≤ (y268.length : Int))
            obtain ⟨y281, hy281⟩ : ∃ y_ : List (S45), y_ = (y268.take ((ji42) : Int).toNat) := ⟨_, rfl⟩
            replace H : (if y278.length + y281.length < 3518437208883 then (pick_rotated.l1 k4 x7_2 (rd l1_0 a2) x11_27 (wrap64 (x13_4 + (wrap64 ((rd l1_0 a2) * x7_2)))) l1_0 l1_1 l1_0 (y278 ++ y281)) else (none)) = some (r1, r2) := by first | (rw [hy281]; with_reducible exact H) | (have H2_ := (Option.bind_some _ _).symm.trans H; rw [hy281]; with_reducible exact H2_) | (have H2_ := (Option.bind_some _ _).symm.trans H; with_reducible exact H2_) | with_reducible exact H | (rw [hy281]; exact H) | exact H
            have Ny281 := gA hy281
            clear hy281
            obtain ⟨c48, H⟩ := iS H
            have LMc48 := gA c48
            clear c48
            obtain ⟨y286, hy286⟩ : ∃ y_ : List (S45), y_ = (y278 ++ y281) := ⟨_, rfl⟩
            replace H : (pick_rotated.l1 k4 x7_2 (rd l1_0 a2) x11_27 (wrap64 (x13_4 + (wrap64 ((rd l1_0 a2) * x7_2)))) l1_0 l1_1 l1_0 y286) = some (r1, r2) := by first | (rw [hy286]; with_reducible exact H) | (have H2_ := (Option.bind_some _ _).symm.trans H; rw [hy286]; with_reducible exact H2_) | (have H2_ := (Option.bind_some _ _).symm.trans H; with_reducible exact H2_) | with_reducible exact H | (rw [hy286]; exact H) | exact H
            have Ny286 := gA hy286
            clear hy286
            have H' := gA H
            clear H
            have hnb49 := NB258_259.out
            have hnc49 := NB259_258.out
            have hnb50 := NB258_267.out
            have hnc50 := NB267_258.out
            obtain ⟨hcz51_0, hcz51_1, hfz51_0, hfz51_1⟩ := gz2 BK258
            have q52 : ((wrap64 (x13_4 + (wrap64 ((rd l1_0 a2) * x7_2)))) : Int) ≤ ((l1_1.length : Int) : Int) := of_decide_eq_true (by assumption)
            obtain ⟨i052, hi052, _, hsz52, _⟩ := info_parts info45
            have hroom52 : l1_1.length ≤ c1_1 := (Kd.V_reads' HO_259001.out).2.1
            have hC52 : Kd.F k45 _ _ A1_1 l1_1.length l1_1 := (Kd.V_at (base := w.heap.size) HO_259001.out).2.2
            have ql52 : (x13_4 : Int) ≤ ((wrap64 (x13_4 + (wrap64 ((rd l1_0 a2) * x7_2)))) : Int) := of_decide_eq_true (by assumption)
            have q052 : (0 : Int) ≤ (x13_4 : Int) := of_decide_eq_true (by assumption)
            have hcut52 := cut_mid (P := Try.prog) 23 45 .i64 .i64 Try.underlying23 hi052 3 hsz52 A1_1 l1_1.length c1_1 x13_4 (wrap64 (x13_4 + (wrap64 ((rd l1_0 a2) * x7_2)))) q052 ql52 q52 hroom52
            have hr52 := Kd.F_mid (lo := (x13_4 : Int).toNat) (hi := ((wrap64 (x13_4 + (wrap64 ((rd l1_0 a2) * x7_2)))) : Int).toNat) (c := c1_1) hC52 (by omega) (by omega) hroom52
            obtain ⟨A52, hA52⟩ : ∃ A1, A1 = (if c1_1 = (x13_4 : Int).toNat then A1_1 else (A1_1 : Option Addr).map (·.add ((x13_4 : Int).toNat * 3))) := ⟨_, rfl⟩
            obtain ⟨c52, hc52⟩ : ∃ c1, c1 = c1_1 - (x13_4 : Int).toNat := ⟨_, rfl⟩
            have hy52 : y268.length = ((wrap64 (x13_4 + (wrap64 ((rd l1_0 a2) * x7_2)))) : Int).toNat - (x13_4 : Int).toNat := (by rw [Ny268.out, List.length_drop, List.length_take] <;> omega)
            rw [show ((l1_1).take ((wrap64 (x13_4 + (wrap64 ((rd l1_0 a2) * x7_2)))) : Int).toNat).drop (x13_4 : Int).toNat = y268 from Ny268.out.symm] at hr52
            replace hr52 : Kd.F k45 _ _ A52 y268.length y268 := (by rw [hA52]; exact hr52)
            rw [← hy52, ← hA52, ← hc52] at hcut52
            have HO272 := gA (show Kd.V k45 45 _ w.heap.size _ (.slice A52 y268.length c52) y268 from Kd.V_mk (by rw [hy52, hc52]; exact Nat.sub_le_sub_right (Nat.le_trans (by omega) hroom52) _) hr52)
            have HC272 := gA (show y268.length ≤ c52 from by rw [hy52, hc52]; exact Nat.sub_le_sub_right (Nat.le_trans (by omega) hroom52) _)
            clear hr52 hC52 hroom52 hi052 hsz52 hc52
            have KY52 := gA hy52
            have KA52 := gA hA52
            clear hy52 hA52
            replace q52 := eq_true q52
            try go_wp2
            replace HO_259000 := gA (Kd.V_drew HO_259000.out); replace HO_259001 := gA (Kd.V_drew HO_259001.out); replace HO_268000 := gA (Kd.V_drew HO_268000.out); replace HO_268001 := gA (Kd.N_drew HO_268001.out); replace HO272 := gA (Kd.V_drew HO272.out); replace BK258 := gA (blk_drew BK258.out); replace BK259 := gA (blk_drew BK259.out); replace BK267 := gA (blk_drew BK267.out); replace HB := gA (below_drew1 HB.out)
            have q54 : ((ji42) : Int) ≤ ((y268.length : Int) : Int) := of_decide_eq_true (by assumption)
            obtain ⟨i054, hi054, _, hsz54, _⟩ := info_parts info45
            have hroom54 : y268.length ≤ c52 := (Kd.V_reads' HO272.out).2.1
            have hC54 : Kd.F k45 _ _ A52 y268.length y268 := (Kd.V_at (base := w.heap.size) HO272.out).2.2
            have q054 : (0 : Int) ≤ ((ji42) : Int) := of_decide_eq_true (by assumption)
            have hcut54 := cut_from (P := Try.prog) 23 45 .i64 Try.underlying23 hi054 3 hsz54 A52 y268.length c52 (ji42) q054 q54
            have hr54 := Kd.F_cut (m := ((ji42) : Int).toNat) (c := c52) hC54 (by omega) hroom54
            obtain ⟨A54, hA54⟩ : ∃ A1, A1 = (if c52 = ((ji42) : Int).toNat then A52 else (A52 : Option Addr).map (·.add (((ji42) : Int).toNat * 3))) := ⟨_, rfl⟩
            obtain ⟨c54, hc54⟩ : ∃ c1, c1 = c52 - ((ji42) : Int).toNat := ⟨_, rfl⟩
            have hy54 : y273.length = y268.length - ((ji42) : Int).toNat := (by rw [Ny273.out, List.length_drop] <;> omega)
            rw [show (y268).drop ((ji42) : Int).toNat = y273 from Ny273.out.symm] at hr54
            replace hr54 : Kd.F k45 _ _ A54 y273.length y273 := (by rw [hA54]; exact hr54)
            rw [← hy54, ← hA54, ← hc54] at hcut54
            have HO277 := gA (show Kd.V k45 45 _ w.heap.size _ (.slice A54 y273.length c54) y273 from Kd.V_mk (by rw [hy54, hc54]; exact Nat.sub_le_sub_right hroom54 _) hr54)
            have HC277 := gA (show y273.length ≤ c54 from by rw [hy54, hc54]; exact Nat.sub_le_sub_right hroom54 _)
            clear hr54 hC54 hroom54 hi054 hsz54 hc54
            have KY54 := gA hy54
            have KA54 := gA hA54
            clear hy54 hA54
            replace q54 := eq_true q54
            refine start_ (n := 10) (S := fun w' => w'.cell? ⟨gb267, 0, none⟩ = some (.slice (some ad266) l1_0.length c1_0) ∧ w'.cell? ⟨gb267, 1, none⟩ = some (u268001)) (ds := [9]) #[false, false, false, false, false, false, false, false, false, false] (by kernel_rfl) rfl rfl ⟨(blk_cell BK267.out 0).trans rfl, (blk_cell BK267.out 1).trans rfl⟩ (fun hHeld => ?_); refine with_tabW pick_rotated.tab18 pick_rotated.bits18 (fun HT_ HW_ => ?_)
            generalize wr.drew = w53 at HO_259000 HO_259001 HO_268000 HO_268001 HO272 BK258 BK259 BK267 HB HO277 hHeld ⊢
            refine pure_ (i := 0) (N := some 75) (v := ?_) (a' := ?_) #[true, false, false, false, false, false, false, false, false, false] rfl rfl (any_of HT_.out (by kernel_rfl)) (fun _ _ _ h => h) (Or.inl ⟨by rfl, ?_⟩) ?_ ?_; rotate_left
            ·intro w'; go_simp; with_reducible rfl
            rotate_left
            ·simp only [Act.put, List.setIfInBounds_toArray, List.set_cons_zero, List.set_cons_succ, i64_w, i32_w]; rfl
            refine pure_ (i := 2) (N := some 77) (v := ?_) (a' := ?_) #[true, false, true, false, false, false, false, false, false, false] rfl rfl (any_of HT_.out (by kernel_rfl)) (fun _ _ _ h => h) (Or.inl ⟨by rfl, ?_⟩) ?_ ?_; rotate_left
            ·intro w'; go_simp; with_reducible rfl
            rotate_left
            ·simp only [Act.put, List.setIfInBounds_toArray, List.set_cons_zero, List.set_cons_succ, i64_w, i32_w]; rfl
            refine pure_ (i := 3) (N := some 78) (v := ?_) (a' := ?_) #[true, false, true, true, false, false, false, false, false, false] rfl rfl (any_of HT_.out (by kernel_rfl)) (fun _ _ _ h => h) (Or.inl ⟨by rfl, ?_⟩) ?_ ?_; rotate_left
            ·intro w'; go_simp; with_reducible rfl
            rotate_left
            ·simp only [Act.put, List.setIfInBounds_toArray, List.set_cons_zero, List.set_cons_succ, i64_w, i32_w]; rfl
            refine pure_ (i := 4) (N := some 79) (v := ?_) (a' := ?_) #[true, false, true, true, true, false, false, false, false, false] rfl rfl (any_of HT_.out (by kernel_rfl)) (fun _ _ _ h => h) (Or.inl ⟨by rfl, ?_⟩) ?_ ?_; rotate_left
            ·intro w'; go_simp; with_reducible rfl
            rotate_left
            ·simp only [Act.put, List.setIfInBounds_toArray, List.set_cons_zero, List.set_cons_succ, i64_w, i32_w]; rfl
            refine pure_ (i := 5) (N := some 80) (v := ?_) (a' := ?_) #[true, false, true, true, true, true, false, false, false, false] rfl rfl (any_of HT_.out (by kernel_rfl)) (fun _ _ _ h => h) (Or.inl ⟨by rfl, ?_⟩) ?_ ?_; rotate_left
            ·intro w'; go_simp; with_reducible rfl
            rotate_left
            ·simp only [Act.put, List.setIfInBounds_toArray, List.set_cons_zero, List.set_cons_succ, i64_w, i32_w]; rfl
            refine pure_ (i := 6) (N := some 81) (v := ?_) (a' := ?_) #[true, false, true, true, true, true, true, false, false, false] rfl rfl (any_of HT_.out (by kernel_rfl)) (fun _ _ _ h => h) (Or.inl ⟨by rfl, ?_⟩) ?_ ?_; rotate_left
            ·intro w'; go_simp; with_reducible rfl
            rotate_left
            ·simp only [Act.put, List.setIfInBounds_toArray, List.set_cons_zero, List.set_cons_succ, i64_w, i32_w]; rfl
            refine take_ (i := 1) (N := some 76) (v := ?_) (a' := ?_) #[true, true, true, true, true, true, true, false, false, false] rfl rfl (take_ofW HT_.out HW_.out (by kernel_rfl)) (fun _ _ _ h => h) (Or.inl ⟨by rfl, ?_⟩) hHeld ?_ ?_; rotate_left
            ·rintro w' ⟨s0, s1⟩; go_simp; with_reducible rfl
            rotate_left
            ·simp only [Act.put, List.setIfInBounds_toArray, List.set_cons_zero, List.set_cons_succ, i64_w, i32_w]; rfl
            refine one_ (i := 7) (N := some 82) #[true, true, true, true, true, true, true, true, false, false] rfl rfl (one_of HT_.out (by kernel_rfl)) (by decide) (fun K hK => ?_)
            refine Kd.N_append_rows_step k45 (w0 := w) w.heap.size (by rfl) (.tmp 76) (.tmp 81) 23 45 (.agg #[(.int .i64 0), (.int .i64 0), (.slice none 0 0)]) 40 rfl Try.underlying23 info45 rfl (by decide) (by omega) u268001 x268001_4 y273 _ _ _ (fun k_ => ((P1_0_ k_ ∨ P1_1_ k_) ∨ w.heap.size ≤ k_) ∧ k_ ≠ gb258 ∧ k_ ≠ gb259 ∧ k_ ≠ gb267) (fun k_ => ((fun k_ => ((P1_0_ k_ ∨ P1_1_ k_) ∨ w.heap.size ≤ k_) ∧ k_ ≠ gb258 ∧ k_ ≠ gb259 ∧ k_ ≠ gb267)) k_ ∧ some k_ ≠ (u268001 : Value).ownBlock) rfl rfl ?aO ?aR (fun _ hk => hk) ?aF ?aB ?aS ?aL ?_
            (case aR => exact (by skip; exact Kd.V_F (Kd.V_mono (ok' := (fun k_ => ((fun k_ => ((P1_0_ k_ ∨ P1_1_ k_) ∨ w.heap.size ≤ k_) ∧ k_ ≠ gb258 ∧ k_ ≠ gb259 ∧ k_ ≠ gb267)) k_ ∧ some k_ ≠ (u268001 : Value).ownBlock)) (HO277.out) (fun k_ hk => ⟨⟨hk.1, ⟨hk.2.2.1, ⟨hk.2.2.2.1, hk.2.2.2.2⟩⟩⟩, hk.2.1⟩))))
            (case aB => exact (gB HB))
            (case aF => exact (fun k_ hk => ⟨(.inr (Nat.le_trans (below_size (gB HB)) hk)), Kd.freshB (gK BK258) k_ hk, Kd.freshB (gK BK259) k_ hk, Kd.freshB (gK BK267) k_ hk⟩))
            (case aO => exact (gN HO_268001))
            (case aS => exact (below_size (gB HB)))
            (case aL => have := LMc45.out; omega)
            intro v279 w55 ho hb hg hat
            rw [← Ny278.out] at ho
            replace HO_259000 := gA (Kd.V_afterv (ok := (fun k_ => ((P1_0_ k_ ∨ P1_1_ k_) ∨ w.heap.size ≤ k_) ∧ k_ ≠ gb258 ∧ k_ ≠ gb259 ∧ k_ ≠ gb267)) (Kd.V_mono HO_259000.out (fun _ hk => ⟨⟨hk.1, ⟨hk.2.2.1, ⟨hk.2.2.2.1, hk.2.2.2.2⟩⟩⟩, hk.2.1⟩)) hg hat); replace HO_259001 := gA (Kd.V_afterv (ok := (fun k_ => ((P1_0_ k_ ∨ P1_1_ k_) ∨ w.heap.size ≤ k_) ∧ k_ ≠ gb258 ∧ k_ ≠ gb259 ∧ k_ ≠ gb267)) (Kd.V_mono HO_259001.out (fun _ hk => ⟨⟨hk.1, ⟨hk.2.2.1, ⟨hk.2.2.2.1, hk.2.2.2.2⟩⟩⟩, hk.2.1⟩)) hg hat); replace HO_268000 := gA (Kd.V_afterv (ok := (fun k_ => ((P1_0_ k_ ∨ P1_1_ k_) ∨ w.heap.size ≤ k_) ∧ k_ ≠ gb258 ∧ k_ ≠ gb259 ∧ k_ ≠ gb267)) (Kd.V_mono HO_268000.out (fun _ hk => ⟨⟨hk.1, ⟨hk.2.2.1, ⟨hk.2.2.2.1, hk.2.2.2.2⟩⟩⟩, hk.2.1⟩)) hg hat); replace BK258 := gA (blk_grown (gK BK258) hg (Kd.N_ne HO_268001.out BK258.out (by decide))); replace BK259 := gA (blk_grown (gK BK259) hg (Kd.N_ne HO_268001.out BK259.out (by decide))); replace BK267 := gA (blk_grown (gK BK267) hg (Kd.N_ne HO_268001.out BK267.out (by decide))); replace HO272 := gA (Kd.V_afterv (ok := (fun k_ => ((P1_0_ k_ ∨ P1_1_ k_) ∨ w.heap.size ≤ k_) ∧ k_ ≠ gb258 ∧ k_ ≠ gb259 ∧ k_ ≠ gb267)) (Kd.V_mono HO272.out (fun _ hk => ⟨⟨hk.1, ⟨hk.2.2.1, ⟨hk.2.2.2.1, hk.2.2.2.2⟩⟩⟩, hk.2.1⟩)) hg hat); replace HO277 := gA (Kd.V_afterv (ok := (fun k_ => ((P1_0_ k_ ∨ P1_1_ k_) ∨ w.heap.size ≤ k_) ∧ k_ ≠ gb258 ∧ k_ ≠ gb259 ∧ k_ ≠ gb267)) (Kd.V_mono HO277.out (fun _ hk => ⟨⟨hk.1, ⟨hk.2.2.1, ⟨hk.2.2.2.1, hk.2.2.2.2⟩⟩⟩, hk.2.1⟩)) hg hat); replace HB := gA (hb); have HO280 := gA (ho); clear HO_268001 ho hb hg hat
            obtain ⟨Ao56, co56, eo56⟩ := Kd.N_slice HO280.out
            (first | subst eo56 | (injection eo56 with f1_ f2_ f3_; have f4_ := f1_.symm; have f5_ := f3_.symm; clear f1_ f2_ f3_; subst f4_; subst f5_))
            refine hK.out _ _ ⟨(blk_cell BK267.out 0).trans rfl, (blk_cell BK267.out 1).trans rfl⟩ (fun hHeld => ?_); clear hK K
            refine norm_ (a' := ?_) ?_ ?_; rotate_left
            ·show Act.put _ (some 82) _ = _
             simp only [Act.put, List.setIfInBounds_toArray, List.set_cons_zero, List.set_cons_succ, i64_w, i32_w]; rfl
            refine pure_ (i := 8) (N := some 83) (v := ?_) (a' := ?_) #[true, true, true, true, true, true, true, true, true, false] rfl rfl (any_of HT_.out (by kernel_rfl)) (fun _ _ _ h => h) (Or.inl ⟨by rfl, ?_⟩) ?_ ?_; rotate_left
            ·intro w'; go_simp; with_reducible rfl
            rotate_left
            ·simp only [Act.put, List.setIfInBounds_toArray, List.set_cons_zero, List.set_cons_succ, i64_w, i32_w]; rfl
            refine last_ (i := 9) (N := none) #[true, true, true, true, true, true, true, true, true, true] rfl rfl (one_of HT_.out (by kernel_rfl)) (by decide) (fun K hK => ?_)
            have hs57 := gz BK267 1 rfl
            have hfs57 := blk_frozen BK267.out 1
            have hns57_0 := NB258_267.out
            have hns57_1 := NB259_267.out
            have hms57_0 := NB267_258.out
            have hms57_1 := NB267_259.out
            refine skip_ (w1 := ?_) (by rfl) rfl ?_ ?_; rotate_left
            ·go_simp; rfl
            refine hK.out _ _ ?_; clear hK K
            refine done_ (done_of HT_.out (by kernel_rfl)) ?_
            try go_wp2
            have n0_ : Aside0 (Kd.V (Kd.int .i64) 3 (w55.setCell ⟨gb267, 1, none⟩ (.slice Ao56 y278.length co56)) w.heap.size (fun k_ => ((P1_0_ k_ ∨ P1_1_ k_) ∨ w.heap.size ≤ k_) ∧ some k_ ≠ (.slice Ao56 y278.length co56 : Value).ownBlock ∧ k_ ≠ gb258 ∧ k_ ≠ gb259 ∧ k_ ≠ gb267) (.slice (some ad266) l1_0.length c1_0) l1_0) := ⟨Kd.V_mono (Kd.V_far (p := ⟨gb267, 1, none⟩) (Kd.V_mono HO_259000.out (fun k_ hk => (⟨hk, hk.1.2.2.2⟩ : _ ∧ k_ ≠ gb267))) (fun _ hk => hk.2) (.slice Ao56 y278.length co56)) (fun _ hk => by first | exact ⟨hk.1.1.1, ⟨hk.1.2, ⟨hk.1.1.2.1, ⟨hk.1.1.2.2.1, hk.1.1.2.2.2⟩⟩⟩⟩ | (simp_all; done))⟩
            have n1_ : Aside0 (Kd.V k45 45 (w55.setCell ⟨gb267, 1, none⟩ (.slice Ao56 y278.length co56)) w.heap.size (fun k_ => ((P1_0_ k_ ∨ P1_1_ k_) ∨ w.heap.size ≤ k_) ∧ some k_ ≠ (.slice Ao56 y278.length co56 : Value).ownBlock ∧ k_ ≠ gb258 ∧ k_ ≠ gb259 ∧ k_ ≠ gb267) (.slice A1_1 l1_1.length c1_1) l1_1) := ⟨Kd.V_mono (Kd.V_far (p := ⟨gb267, 1, none⟩) (Kd.V_mono HO_259001.out (fun k_ hk => (⟨hk, hk.1.2.2.2⟩ : _ ∧ k_ ≠ gb267))) (fun _ hk => hk.2) (.slice Ao56 y278.length co56)) (fun _ hk => by first | exact ⟨hk.1.1.1, ⟨hk.1.2, ⟨hk.1.1.2.1, ⟨hk.1.1.2.2.1, hk.1.1.2.2.2⟩⟩⟩⟩ | (simp_all; done))⟩
            have n2_ : Aside0 (Kd.V (Kd.int .i64) 3 (w55.setCell ⟨gb267, 1, none⟩ (.slice Ao56 y278.length co56)) w.heap.size (fun k_ => ((P1_0_ k_ ∨ P1_1_ k_) ∨ w.heap.size ≤ k_) ∧ some k_ ≠ (.slice Ao56 y278.length co56 : Value).ownBlock ∧ k_ ≠ gb258 ∧ k_ ≠ gb259 ∧ k_ ≠ gb267) (.slice (some ad266) l1_0.length c1_0) l1_0) := ⟨Kd.V_mono (Kd.V_far (p := ⟨gb267, 1, none⟩) (Kd.V_mono HO_268000.out (fun k_ hk => (⟨hk, hk.1.2.2.2⟩ : _ ∧ k_ ≠ gb267))) (fun _ hk => hk.2) (.slice Ao56 y278.length co56)) (fun _ hk => by first | exact ⟨hk.1.1.1, ⟨hk.1.2, ⟨hk.1.1.2.1, ⟨hk.1.1.2.2.1, hk.1.1.2.2.2⟩⟩⟩⟩ | (simp_all; done))⟩
            have n3_ : Aside0 (Kd.V k45 45 (w55.setCell ⟨gb267, 1, none⟩ (.slice Ao56 y278.length co56)) w.heap.size (fun k_ => ((P1_0_ k_ ∨ P1_1_ k_) ∨ w.heap.size ≤ k_) ∧ some k_ ≠ (.slice Ao56 y278.length co56 : Value).ownBlock ∧ k_ ≠ gb258 ∧ k_ ≠ gb259 ∧ k_ ≠ gb267) (.slice A52 y268.length c52) y268) := ⟨Kd.V_mono (Kd.V_far (p := ⟨gb267, 1, none⟩) (Kd.V_mono HO272.out (fun k_ hk => (⟨hk, hk.1.2.2.2⟩ : _ ∧ k_ ≠ gb267))) (fun _ hk => hk.2) (.slice Ao56 y278.length co56)) (fun _ hk => by first | exact ⟨hk.1.1.1, ⟨hk.1.2, ⟨hk.1.1.2.1, ⟨hk.1.1.2.2.1, hk.1.1.2.2.2⟩⟩⟩⟩ | (simp_all; done))⟩
            have n4_ : Aside0 (Kd.V k45 45 (w55.setCell ⟨gb267, 1, none⟩ (.slice Ao56 y278.length co56)) w.heap.size (fun k_ => ((P1_0_ k_ ∨ P1_1_ k_) ∨ w.heap.size ≤ k_) ∧ some k_ ≠ (.slice Ao56 y278.length co56 : Value).ownBlock ∧ k_ ≠ gb258 ∧ k_ ≠ gb259 ∧ k_ ≠ gb267) (.slice A54 y273.length c54) y273) := ⟨Kd.V_mono (Kd.V_far (p := ⟨gb267, 1, none⟩) (Kd.V_mono HO277.out (fun k_ hk => (⟨hk, hk.1.2.2.2⟩ : _ ∧ k_ ≠ gb267))) (fun _ hk => hk.2) (.slice Ao56 y278.length co56)) (fun _ hk => by first | exact ⟨hk.1.1.1, ⟨hk.1.2, ⟨hk.1.1.2.1, ⟨hk.1.1.2.2.1, hk.1.1.2.2.2⟩⟩⟩⟩ | (simp_all; done))⟩
            have n5_ : Aside0 (Kd.N k45 45 (w55.setCell ⟨gb267, 1, none⟩ (.slice Ao56 y278.length co56)) w.heap.size (fun k_ => ((P1_0_ k_ ∨ P1_1_ k_) ∨ w.heap.size ≤ k_) ∧ k_ ≠ gb258 ∧ k_ ≠ gb259 ∧ k_ ≠ gb267) (.slice Ao56 y278.length co56) y278) := ⟨Kd.N_mono (Kd.N_far (p := ⟨gb267, 1, none⟩) (Kd.N_mono HO280.out (fun k_ hk => (⟨hk, hk.2.2.2⟩ : _ ∧ k_ ≠ gb267))) (fun _ hk => hk.2) (.slice Ao56 y278.length co56)) (fun _ hk => ⟨hk.1.1, ⟨hk.1.2.1, ⟨hk.1.2.2.1, hk.1.2.2.2⟩⟩⟩)⟩
            have n6_ : Aside0 ((w55.setCell ⟨gb267, 1, none⟩ (.slice Ao56 y278.length co56)).heap[gb258]? = some (.cells #[.slice (some ad266) l1_0.length c1_0, .slice A1_1 l1_1.length c1_1] 25 (0, 0))) := ⟨by refine blk_far ?_ NB258_267.out _; exact gK BK258⟩
            have n7_ : Aside0 ((w55.setCell ⟨gb267, 1, none⟩ (.slice Ao56 y278.length co56)).heap[gb259]? = some (.cells #[.slice none 0 0, .slice none 0 0] 25 (0, 0))) := ⟨by refine blk_far ?_ NB259_267.out _; exact gK BK259⟩
            have n8_ : Aside0 ((w55.setCell ⟨gb267, 1, none⟩ (.slice Ao56 y278.length co56)).heap[gb267]? = some (.cells #[.slice (some ad266) l1_0.length c1_0, .slice Ao56 y278.length co56] 25 (0, 0))) := ⟨by refine blk_put (cs := #[.slice (some ad266) l1_0.length c1_0, u268001]) ?_ 1 _ rfl; exact gK BK267⟩
            have n9_ : Aside0 (Below w.heap.size w (w55.setCell ⟨gb267, 1, none⟩ (.slice Ao56 y278.length co56))) := ⟨by repeat first | exact gB HB | refine below_set ?_ GE258.out | refine below_set ?_ GE259.out | refine below_set ?_ GE267.out⟩
            (try clear HO_259000)
            generalize (w55.setCell ⟨gb267, 1, none⟩ (.slice Ao56 y278.length co56)) = w58 at n0_ n1_ n2_ n3_ n4_ n5_ n6_ n7_ n8_ n9_ ⊢
            have HO_259000 := n0_; have HO_259001 := n1_
            have HO_268000 := n2_; have HO272 := n3_
            have HO277 := n4_; have HO280 := n5_
            have BK258 := n6_; have BK259 := n7_
            have BK267 := n8_; have HB := n9_
            clear n0_ n1_ n2_ n3_ n4_ n5_ n6_ n7_ n8_ n9_
            replace HO_259000 := gA (Kd.V_drew HO_259000.out); replace HO_259001 := gA (Kd.V_drew HO_259001.out); replace HO_268000 := gA (Kd.V_drew HO_268000.out); replace HO272 := gA (Kd.V_drew HO272.out); replace HO277 := gA (Kd.V_drew HO277.out); replace HO280 := gA (Kd.N_drew HO280.out); replace BK258 := gA (blk_drew BK258.out); replace BK259 := gA (blk_drew BK259.out); replace BK267 := gA (blk_drew BK267.out); replace HB := gA (below_drew1 HB.out)
            have q60 : ((ji42) : Int) ≤ ((y268.length : Int) : Int) := of_decide_eq_true (by assumption)
            obtain ⟨i060, hi060, _, hsz60, _⟩ := info_parts info45
            have hroom60 : y268.length ≤ c52 := (Kd.V_reads' HO272.out).2.1
            have hC60 : Kd.F k45 _ _ A52 y268.length y268 := (Kd.V_at (base := w.heap.size) HO272.out).2.2
            have hcut60 := cut_to (P := Try.prog) 23 45 .i64 Try.underlying23 hi060 A52 y268.length c52 (ji42) (of_decide_eq_true (by assumption)) q60 hroom60
            have hr60 := Kd.F_take (m := ((ji42) : Int).toNat) hC60 (by omega)
            have hy60 : y281.length = ((ji42) : Int).toNat := (by rw [Ny281.out, List.length_take]; omega)
            rw [← Ny281.out] at hr60
            rw [← hy60] at hcut60
            have HO285 := gA (show Kd.V k45 45 _ w.heap.size _ (.slice A52 y281.length c52) y281 from Kd.V_mk (by omega) hr60)
            have HC285 := gA (show y281.length ≤ c52 from by omega)
            clear hr60 hC60 hroom60 hi060 hsz60
            have KY60 := gA hy60
            clear hy60
            replace q60 := eq_true q60
            refine start_ (n := 10) (S := fun w' => w'.cell? ⟨gb267, 0, none⟩ = some (.slice (some ad266) l1_0.length c1_0) ∧ w'.cell? ⟨gb267, 1, none⟩ = some (.slice Ao56 y278.length co56)) (ds := [9]) #[false, false, false, false, false, false, false, false, false, false] (by kernel_rfl) rfl rfl ⟨(blk_cell BK267.out 0).trans rfl, (blk_cell BK267.out 1).trans rfl⟩ (fun hHeld => ?_); refine with_tabW pick_rotated.tab19 pick_rotated.bits19 (fun HT_ HW_ => ?_)
            generalize w58.drew = w59 at HO_259000 HO_259001 HO_268000 HO272 HO277 HO280 BK258 BK259 BK267 HB HO285 hHeld ⊢
            refine pure_ (i := 0) (N := some 84) (v := ?_) (a' := ?_) #[true, false, false, false, false, false, false, false, false, false] rfl rfl (any_of HT_.out (by kernel_rfl)) (fun _ _ _ h => h) (Or.inl ⟨by rfl, ?_⟩) ?_ ?_; rotate_left
            ·intro w'; go_simp; with_reducible rfl
            rotate_left
            ·simp only [Act.put, List.setIfInBounds_toArray, List.set_cons_zero, List.set_cons_succ, i64_w, i32_w]; rfl
            refine pure_ (i := 2) (N := some 86) (v := ?_) (a' := ?_) #[true, false, true, false, false, false, false, false, false, false] rfl rfl (any_of HT_.out (by kernel_rfl)) (fun _ _ _ h => h) (Or.inl ⟨by rfl, ?_⟩) ?_ ?_; rotate_left
            ·intro w'; go_simp; with_reducible rfl
            rotate_left
            ·simp only [Act.put, List.setIfInBounds_toArray, List.set_cons_zero, List.set_cons_succ, i64_w, i32_w]; rfl
            refine pure_ (i := 3) (N := some 87) (v := ?_) (a' := ?_) #[true, false, true, true, false, false, false, false, false, false] rfl rfl (any_of HT_.out (by kernel_rfl)) (fun _ _ _ h => h) (Or.inl ⟨by rfl, ?_⟩) ?_ ?_; rotate_left
            ·intro w'; go_simp; with_reducible rfl
            rotate_left
            ·simp only [Act.put, List.setIfInBounds_toArray, List.set_cons_zero, List.set_cons_succ, i64_w, i32_w]; rfl
            refine pure_ (i := 4) (N := some 88) (v := ?_) (a' := ?_) #[true, false, true, true, true, false, false, false, false, false] rfl rfl (any_of HT_.out (by kernel_rfl)) (fun _ _ _ h => h) (Or.inl ⟨by rfl, ?_⟩) ?_ ?_; rotate_left
            ·intro w'; go_simp; with_reducible rfl
            rotate_left
            ·simp only [Act.put, List.setIfInBounds_toArray, List.set_cons_zero, List.set_cons_succ, i64_w, i32_w]; rfl
            refine pure_ (i := 5) (N := some 89) (v := ?_) (a' := ?_) #[true, false, true, true, true, true, false, false, false, false] rfl rfl (any_of HT_.out (by kernel_rfl)) (fun _ _ _ h => h) (Or.inl ⟨by rfl, ?_⟩) ?_ ?_; rotate_left
            ·intro w'; go_simp; with_reducible rfl
            rotate_left
            ·simp only [Act.put, List.setIfInBounds_toArray, List.set_cons_zero, List.set_cons_succ, i64_w, i32_w]; rfl
            refine pure_ (i := 6) (N := some 90) (v := ?_) (a' := ?_) #[true, false, true, true, true, true, true, false, false, false] rfl rfl (any_of HT_.out (by kernel_rfl)) (fun _ _ _ h => h) (Or.inl ⟨by rfl, ?_⟩) ?_ ?_; rotate_left
            ·intro w'; go_simp; with_reducible rfl
            rotate_left
            ·simp only [Act.put, List.setIfInBounds_toArray, List.set_cons_zero, List.set_cons_succ, i64_w, i32_w]; rfl
            refine take_ (i := 1) (N := some 85) (v := ?_) (a' := ?_) #[true, true, true, true, true, true, true, false, false, false] rfl rfl (take_ofW HT_.out HW_.out (by kernel_rfl)) (fun _ _ _ h => h) (Or.inl ⟨by rfl, ?_⟩) hHeld ?_ ?_; rotate_left
            ·rintro w' ⟨s0, s1⟩; go_simp; with_reducible rfl
            rotate_left
            ·simp only [Act.put, List.setIfInBounds_toArray, List.set_cons_zero, List.set_cons_succ, i64_w, i32_w]; rfl
            refine one_ (i := 7) (N := some 91) #[true, true, true, true, true, true, true, true, false, false] rfl rfl (one_of HT_.out (by kernel_rfl)) (by decide) (fun K hK => ?_)
            refine Kd.N_append_rows_step k45 (w0 := w) w.heap.size (by rfl) (.tmp 85) (.tmp 90) 23 45 (.agg #[(.int .i64 0), (.int .i64 0), (.slice none 0 0)]) 40 rfl Try.underlying23 info45 rfl (by decide) (by omega) (.slice Ao56 y278.length co56) y278 y281 _ _ _ (fun k_ => ((P1_0_ k_ ∨ P1_1_ k_) ∨ w.heap.size ≤ k_) ∧ k_ ≠ gb258 ∧ k_ ≠ gb259 ∧ k_ ≠ gb267) (fun k_ => ((fun k_ => ((P1_0_ k_ ∨ P1_1_ k_) ∨ w.heap.size ≤ k_) ∧ k_ ≠ gb258 ∧ k_ ≠ gb259 ∧ k_ ≠ gb267)) k_ ∧ some k_ ≠ (.slice Ao56 y278.length co56 : Value).ownBlock) rfl rfl ?aO ?aR (fun _ hk => hk) ?aF ?aB ?aS ?aL ?_
            (case aR => exact (by skip; exact Kd.V_F (Kd.V_mono (ok' := (fun k_ => ((fun k_ => ((P1_0_ k_ ∨ P1_1_ k_) ∨ w.heap.size ≤ k_) ∧ k_ ≠ gb258 ∧ k_ ≠ gb259 ∧ k_ ≠ gb267)) k_ ∧ some k_ ≠ (.slice Ao56 y278.length co56 : Value).ownBlock)) (HO285.out) (fun k_ hk => ⟨⟨hk.1, ⟨hk.2.2.1, ⟨hk.2.2.2.1, hk.2.2.2.2⟩⟩⟩, hk.2.1⟩))))
            (case aB => exact (gB HB))
            (case aF => exact (fun k_ hk => ⟨(.inr (Nat.le_trans (below_size (gB HB)) hk)), Kd.freshB (gK BK258) k_ hk, Kd.freshB (gK BK259) k_ hk, Kd.freshB (gK BK267) k_ hk⟩))
            (case aO => exact (gN HO280))
            (case aS => exact (below_size (gB HB)))
            (case aL => have := LMc48.out; omega)
            intro v287 w61 ho hb hg hat
            rw [← Ny286.out] at ho
            replace HO_259000 := gA (Kd.V_afterv (ok := (fun k_ => ((P1_0_ k_ ∨ P1_1_ k_) ∨ w.heap.size ≤ k_) ∧ k_ ≠ gb258 ∧ k_ ≠ gb259 ∧ k_ ≠ gb267)) (Kd.V_mono HO_259000.out (fun _ hk => ⟨⟨hk.1, ⟨hk.2.2.1, ⟨hk.2.2.2.1, hk.2.2.2.2⟩⟩⟩, hk.2.1⟩)) hg hat); replace HO_259001 := gA (Kd.V_afterv (ok := (fun k_ => ((P1_0_ k_ ∨ P1_1_ k_) ∨ w.heap.size ≤ k_) ∧ k_ ≠ gb258 ∧ k_ ≠ gb259 ∧ k_ ≠ gb267)) (Kd.V_mono HO_259001.out (fun _ hk => ⟨⟨hk.1, ⟨hk.2.2.1, ⟨hk.2.2.2.1, hk.2.2.2.2⟩⟩⟩, hk.2.1⟩)) hg hat); replace HO_268000 := gA (Kd.V_afterv (ok := (fun k_ => ((P1_0_ k_ ∨ P1_1_ k_) ∨ w.heap.size ≤ k_) ∧ k_ ≠ gb258 ∧ k_ ≠ gb259 ∧ k_ ≠ gb267)) (Kd.V_mono HO_268000.out (fun _ hk => ⟨⟨hk.1, ⟨hk.2.2.1, ⟨hk.2.2.2.1, hk.2.2.2.2⟩⟩⟩, hk.2.1⟩)) hg hat); replace BK258 := gA (blk_grown (gK BK258) hg (Kd.N_ne HO280.out BK258.out (by decide))); replace BK259 := gA (blk_grown (gK BK259) hg (Kd.N_ne HO280.out BK259.out (by decide))); replace BK267 := gA (blk_grown (gK BK267) hg (Kd.N_ne HO280.out BK267.out (by decide))); replace HO272 := gA (Kd.V_afterv (ok := (fun k_ => ((P1_0_ k_ ∨ P1_1_ k_) ∨ w.heap.size ≤ k_) ∧ k_ ≠ gb258 ∧ k_ ≠ gb259 ∧ k_ ≠ gb267)) (Kd.V_mono HO272.out (fun _ hk => ⟨⟨hk.1, ⟨hk.2.2.1, ⟨hk.2.2.2.1, hk.2.2.2.2⟩⟩⟩, hk.2.1⟩)) hg hat); replace HO277 := gA (Kd.V_afterv (ok := (fun k_ => ((P1_0_ k_ ∨ P1_1_ k_) ∨ w.heap.size ≤ k_) ∧ k_ ≠ gb258 ∧ k_ ≠ gb259 ∧ k_ ≠ gb267)) (Kd.V_mono HO277.out (fun _ hk => ⟨⟨hk.1, ⟨hk.2.2.1, ⟨hk.2.2.2.1, hk.2.2.2.2⟩⟩⟩, hk.2.1⟩)) hg hat); replace HO285 := gA (Kd.V_afterv (ok := (fun k_ => ((P1_0_ k_ ∨ P1_1_ k_) ∨ w.heap.size ≤ k_) ∧ k_ ≠ gb258 ∧ k_ ≠ gb259 ∧ k_ ≠ gb267)) (Kd.V_mono HO285.out (fun _ hk => ⟨⟨hk.1, ⟨hk.2.2.1, ⟨hk.2.2.2.1, hk.2.2.2.2⟩⟩⟩, hk.2.1⟩)) hg hat); replace HB := gA (hb); have HO288 := gA (ho); clear HO280 ho hb hg hat
            obtain ⟨Ao62, co62, eo62⟩ := Kd.N_slice HO288.out
            (first | subst eo62 | (injection eo62 with f1_ f2_ f3_; have f4_ := f1_.symm; have f5_ := f3_.symm; clear f1_ f2_ f3_; subst f4_; subst f5_))
            refine hK.out _ _ ⟨(blk_cell BK267.out 0).trans rfl, (blk_cell BK267.out 1).trans rfl⟩ (fun hHeld => ?_); clear hK K
            refine norm_ (a' := ?_) ?_ ?_; rotate_left
            ·show Act.put _ (some 91) _ = _
             simp only [Act.put, List.setIfInBounds_toArray, List.set_cons_zero, List.set_cons_succ, i64_w, i32_w]; rfl
            refine pure_ (i := 8) (N := some 92) (v := ?_) (a' := ?_) #[true, true, true, true, true, true, true, true, true, false] rfl rfl (any_of HT_.out (by kernel_rfl)) (fun _ _ _ h => h) (Or.inl ⟨by rfl, ?_⟩) ?_ ?_; rotate_left
            ·intro w'; go_simp; with_reducible rfl
            rotate_left
            ·simp only [Act.put, List.setIfInBounds_toArray, List.set_cons_zero, List.set_cons_succ, i64_w, i32_w]; rfl
            refine last_ (i := 9) (N := none) #[true, true, true, true, true, true, true, true, true, true] rfl rfl (one_of HT_.out (by kernel_rfl)) (by decide) (fun K hK => ?_)
            have hs63 := gz BK267 1 rfl
            have hfs63 := blk_frozen BK267.out 1
            have hns63_0 := NB258_267.out
            have hns63_1 := NB259_267.out
            have hms63_0 := NB267_258.out
            have hms63_1 := NB267_259.out
            refine skip_ (w1 := ?_) (by rfl) rfl ?_ ?_; rotate_left
            ·go_simp; rfl
            refine hK.out _ _ ?_; clear hK K
            refine done_ (done_of HT_.out (by kernel_rfl)) ?_
            try go_wp2
            go_roundg k4
            case measure => have := HJ3.out; have := HK2.out; have := HJ27.out; have := HK4.out; omega
            case rel => exact ⟨(wrap64 (x13_4 + (wrap64 ((rd l1_0 a2) * x7_2)))), (y286), (.slice Ao62 y286.length co62), (rfl), H', ⟨by have := HJ3.out; have := HK2.out; have := HJ27.out; have := HK4.out; omega⟩, ⟨Kd.V_mono (Kd.V_far (p := ⟨gb267, 1, none⟩) (Kd.V_mono HO_259000.out (fun k_ hk => (⟨hk, hk.1.2.2.2⟩ : _ ∧ k_ ≠ gb267))) (fun _ hk => hk.2) (.slice Ao62 y286.length co62)) (fun _ hk => by first | exact ⟨hk.1.1.1, ⟨hk.1.2, ⟨hk.1.1.2.1, ⟨hk.1.1.2.2.1, hk.1.1.2.2.2⟩⟩⟩⟩ | (simp_all; done))⟩, ⟨Kd.V_mono (Kd.V_far (p := ⟨gb267, 1, none⟩) (Kd.V_mono HO_259001.out (fun k_ hk => (⟨hk, hk.1.2.2.2⟩ : _ ∧ k_ ≠ gb267))) (fun _ hk => hk.2) (.slice Ao62 y286.length co62)) (fun _ hk => by first | exact ⟨hk.1.1.1, ⟨hk.1.2, ⟨hk.1.1.2.1, ⟨hk.1.1.2.2.1, hk.1.1.2.2.2⟩⟩⟩⟩ | (simp_all; done))⟩, ⟨Kd.V_mono (Kd.V_far (p := ⟨gb267, 1, none⟩) (Kd.V_mono HO_268000.out (fun k_ hk => (⟨hk, hk.1.2.2.2⟩ : _ ∧ k_ ≠ gb267))) (fun _ hk => hk.2) (.slice Ao62 y286.length co62)) (fun _ hk => by first | exact ⟨hk.1.1.1, ⟨hk.1.2, ⟨hk.1.1.2.1, ⟨hk.1.1.2.2.1, hk.1.1.2.2.2⟩⟩⟩⟩ | (simp_all; done))⟩, ⟨Kd.N_mono (Kd.N_far (p := ⟨gb267, 1, none⟩) (Kd.N_mono HO288.out (fun k_ hk => (⟨hk, hk.2.2.2⟩ : _ ∧ k_ ≠ gb267))) (fun _ hk => hk.2) (.slice Ao62 y286.length co62)) (fun _ hk => ⟨hk.1.1, ⟨hk.1.2.1, ⟨hk.1.2.2.1, hk.1.2.2.2⟩⟩⟩)⟩, ⟨by (with_reducible repeat (first | refine blk_drewN ?_ _ | refine blk_drew ?_ | refine blk_alloc ?_ _)); refine blk_far ?_ NB258_267.out _; exact gK BK258⟩, ⟨by (with_reducible repeat (first | refine blk_drewN ?_ _ | refine blk_drew ?_ | refine blk_alloc ?_ _)); refine blk_far ?_ NB259_267.out _; exact gK BK259⟩, ⟨by (with_reducible repeat (first | refine blk_drewN ?_ _ | refine blk_drew ?_ | refine blk_alloc ?_ _)); refine blk_put (cs := #[.slice (some ad266) l1_0.length c1_0, .slice Ao56 y278.length co56]) ?_ 1 _ rfl; exact gK BK267⟩, ⟨by repeat first | exact gB HB | refine below_set ?_ GE258.out | refine below_set ?_ GE259.out | refine below_set ?_ GE267.out⟩⟩
           ·rw [if_neg c38] at H
            have c38b0 := decide_eq_false c38
            clear c38
            simp only [Option.some.injEq, Prod.mk.injEq] at H
            obtain ⟨rfl, rfl⟩ := H
            have hnb64 := NB258_259.out
            have hnc64 := NB259_258.out
            have hnb65 := NB258_267.out
            have hnc65 := NB267_258.out
            obtain ⟨hcz66_0, hcz66_1, hfz66_0, hfz66_1⟩ := gz2 BK258
            have hnb67 := NB267_259.out
            have hnc67 := NB259_267.out
            obtain ⟨hcz68_0, hcz68_1, hfz68_0, hfz68_1⟩ := gz2 BK267
            obtain ⟨hcz69_0, hcz69_1, hfz69_0, hfz69_1⟩ := gz2 BK259
            obtain ⟨Ao70, co70, eo70⟩ := Kd.N_slice HO_268001.out
            subst eo70
            go_wp2
            refine bodyPost_ret (results_cell_row rfl _ _ gb259 25 #[.slice (some ad266) l1_0.length c1_0, .slice Ao70 x268001_4.length co70] (0, 0) _ rfl (by refine blk_put (cs := #[.slice (some ad266) l1_0.length c1_0, .slice none 0 0]) ?_ 1 _ rfl; refine blk_put (cs := #[.slice none 0 0, .slice none 0 0]) ?_ 0 _ rfl; exact gK BK259) Try.underlying25 rfl (by kernel_rfl)) rfl ?_
            exact ⟨_, _, by first | rfl | (simp [errW_none, errW_some] <;> rfl) | (simp only [← hji16]; first | rfl | (simp [errW_none, errW_some] <;> rfl)) | (simp [*, errW_none, errW_some] <;> rfl), Kd.V_mono (Kd.V_far (p := ⟨gb259, 1, none⟩) (Kd.V_far (p := ⟨gb259, 0, none⟩) (Kd.V_mono HO_268000.out (fun k_ hk => (⟨hk, hk.2.2.2.1⟩ : _ ∧ k_ ≠ gb259))) (fun _ hk => hk.2) (.slice (some ad266) l1_0.length c1_0)) (fun _ hk => hk.2) (.slice Ao70 x268001_4.length co70)) (fun _ hk => hk.1.1), Kd.N_V (Kd.N_mono (Kd.N_far (p := ⟨gb259, 1, none⟩) (Kd.N_far (p := ⟨gb259, 0, none⟩) (Kd.N_mono HO_268001.out (fun k_ hk => (⟨hk, hk.2.2.1⟩ : _ ∧ k_ ≠ gb259))) (fun _ hk => hk.2) (.slice (some ad266) l1_0.length c1_0)) (fun _ hk => hk.2) (.slice Ao70 x268001_4.length co70)) (fun _ hk => hk.1.1)), by repeat first | exact gB HB | refine below_set ?_ GE258.out | refine below_set ?_ GE259.out | refine below_set ?_ GE267.out⟩
end Go.Proofs.Ytdihmempaonfjaa.P
