/- Written by a program of this session: the functions that the laws reach, what each comes to, and each law as it is stated, for every input. No condition. -/
import Derived.Test.YtahgfebdjjfkhaaPx0
import Derived.Test.YtahgfebdjjfkhaaPx12
namespace Go.Proofs.Ytahgfebdjjfkhaa.P
open Go.RowKit Go.Proofs.YtahgfebdjjfkhaaW.PrintWords Go.Proofs.YtahgfebdjjfkhaaW.PrintLast Go.Proofs.YtahgfebdjjfkhaaW.PrintMore
attribute [local go_sem] max2_int min2_int max_two min_two max_three min_three max_four min_four   -- for this text's walks alone
set_option linter.unusedVariables false
set_option linter.unusedSimpArgs false
def triglyphref01_Sum.l0 : Nat → List Int → Int → Int → Int → Option (Int × Int)
 | 0, _, _, _, _ => none
 | k + 1, x0, x5, x329000, x329001 => if x5 < (x0.length : Int) then (if 0 ≤ x5 then ((triglyphref01_wide0.f (rd x0 x5)).bind fun bt330 => (triglyphref01_Sum.l0 k x0 (wrap64 (x5 + 1)) (wrap64 (x329000 + bt330.1)) (wrap64 (x329001 + bt330.2)))) else (none)) else ((triglyphref01_fits.f (wrap64 (x329000 + (wrap64 (Int.tdiv x329001 4294967296)))) (Int.tmod x329001 4294967296)).bind fun bt333 => (some (bt333.1, bt333.2)))
def triglyphref01_Sum.f (k : Nat) (l0 : List Int) : Option (Int × Int) := triglyphref01_Sum.l0 k l0 0 0 0
theorem triglyphref01_Sum.mono_l : ∀ k, (∀ y0 y1 y2 y3, LeO (triglyphref01_Sum.l0 k y0 y1 y2 y3) (triglyphref01_Sum.l0 (k + 1) y0 y1 y2 y3))
 | 0 => fun _ _ _ _ r h => by simp [triglyphref01_Sum.l0] at h
 | k + 1 => by
  have ih0 := triglyphref01_Sum.mono_l k
  ·intro y0 y1 y2 y3
   unfold triglyphref01_Sum.l0
   repeat' first
   | (with_reducible exact ih0 _ _ _ _)
   | (with_reducible exact LeO.refl _)
   | (with_reducible exact LeO.none _)
   | (with_reducible refine LeO.ite ?_ ?_)
   | (with_reducible refine LeO.bind ?_ (fun _ => ?_))
theorem triglyphref01_Sum.mono : ∀ a0 k, LeO (triglyphref01_Sum.f k a0) (triglyphref01_Sum.f (k + 1) a0) := by
 intro a0 k
 have ih0 := triglyphref01_Sum.mono_l k
 unfold triglyphref01_Sum.f
 repeat' first
   | (with_reducible exact ih0 _ _ _ _)
   | (with_reducible exact LeO.refl _)
   | (with_reducible exact LeO.none _)
   | (with_reducible refine LeO.ite ?_ ?_)
   | (with_reducible refine LeO.bind ?_ (fun _ => ?_))
set_option maxHeartbeats 8000000 in
set_option maxRecDepth 100000 in
theorem triglyphref01_Sum.calls (k : Nat) (A0 : Option Addr) (c0 : Nat) (l0 : List Int) (r1 : Int) (r2 : Int) (w : World) (hr0 : Kd.C (Kd.int .i64) w A0 l0.length l0) (hc0 : l0.length ≤ c0) (h : triglyphref01_Sum.f k l0 = some (r1, r2)) :
  Calls Try.prog 58 #[.slice A0 l0.length c0] w fun e w' => e = .returned (.tuple #[.int .i64 r1, .int .i64 r2]) ∧ Below w.heap.size w w' := by
 have hu97 := Try.underlying97
 have HR0 := gA hr0
 have HC0 := gA hc0
 clear hr0 hc0
 have HB := gA (Below.refl w.heap.size w)
 have H : (triglyphref01_Sum.l0 k l0 0 0 0) = some (r1, r2) := h
 clear h
 have H' := gA H
 clear H
 go_enter Try.func58, Try.ntmps58
 go_wp2_with (first | ((with_reducible refine gate_dst (N := 4) rfl ?_); refine box_event ?hg (N := 4) ?hd (cs := #[.int .i64 0, .int .i64 0]) (t := 97) ?hr ?_; (case hd => rfl); (case hg => rfl); (case hr => first | (go_simp; done) | (go_simp; rfl)); intro gb328 hg w2 hbox hb; have BK328 := gA (hbox); have GW328 := gA ((by rw [hg]; exact (below_size (gB HB)) : w.heap.size ≤ gb328)); have GE328 := gA ((by rw [hg]; exact (below_size (gB HB)) : w.heap.size ≤ gb328)); replace HB := gA (below_step (gB HB) hb); clear hb hbox hg; obtain ⟨hcz3_0, hcz3_1, hfz3_0, hfz3_1⟩ := gz2 BK328))
 go_loopg [5] k (fun kq v5 w' => ∃ (x5_1 : Int) (x329000_1 : Int) (x329001_1 : Int), v5 = .int .i64 x5_1 ∧ Aside0 (triglyphref01_Sum.l0 kq l0 x5_1 x329000_1 x329001_1 = some (r1, r2)) ∧ Aside0 (kq ≤ k) ∧ Aside0 (w'.heap[gb328]? = some (.cells #[.int .i64 x329000_1, .int .i64 x329001_1] 97 (0, 0))) ∧ Aside0 (Below w.heap.size w w'))
 case atStart => exact ⟨(0), (0), (0), (rfl), H', ⟨Nat.le_refl _⟩, ⟨by refine blk_put (cs := #[.int .i64 0, .int .i64 0]) ?_ 1 _ rfl; refine blk_put (cs := #[.int .i64 0, .int .i64 0]) ?_ 0 _ rfl; exact gK BK328⟩, ⟨by repeat first | exact gB HB | refine below_set ?_ GE328.out⟩⟩
 case round =>
  clear H'
  try clear p2
  try clear hcz3_0
  try clear hcz3_1
  try clear hfz3_0
  try clear hfz3_1
  obtain ⟨x5_1, x329000_1, x329001_1, rfl, HA, HK1, BK328, HB⟩ := hrel
  cases gk with
  | zero => exact absurd HA.out (by simp [triglyphref01_Sum.l0])
  | succ k1 =>
   have H := HA.out; clear HA
   simp only [triglyphref01_Sum.l0] at H
   by_cases c4 : x5_1 < (l0.length : Int)
   ·rw [if_pos c4] at H
    have c4b0 := decide_eq_true c4
    clear c4
    obtain ⟨c5, H⟩ := iS H
    have c5b0 := decide_eq_true c5
    clear c5
    replace H := Option.bind_eq_some_iff.mp H
    obtain ⟨⟨t330, t331⟩, A60, H⟩ := H
    replace H : (triglyphref01_Sum.l0 k1 l0 (wrap64 (x5_1 + 1)) (wrap64 (x329000_1 + t330)) (wrap64 (x329001_1 + t331))) = some (r1, r2) := H
    have A6 := gA A60
    clear A60
    have H' := gA H
    clear H
    have p329 : 0 ≤ (x5_1 : Int) := of_decide_eq_true (by assumption)
    have q329 : x5_1 < (l0.length : Int) := of_decide_eq_true (by assumption)
    obtain ⟨ad329, e329, hx329_0⟩ := Kd.at_int HR0.out x5_1 p329 q329
    cases e329
    replace hx329_0 := (HB.out.cell (World.block_lt_of_cell? w _ hx329_0)).trans hx329_0
    replace p329 := eq_true p329
    replace q329 := eq_true q329
    go_wp2_with (first | ((with_reducible refine gate_callee (f := 69) rfl ?_); refine goesL_ (some 18) rfl rfl Try.func69 (by kernel_rfl) rfl #[.int .i64 (rd l0 x5_1)] rfl (by (try simp only [List.map_toArray, List.map_cons, List.map_nil]); first | done | rfl | (simp only [List.length_drop, List.length_take]; rfl)) ?_; (with_reducible refine (triglyphref01_wide0.calls (rd l0 x5_1) t330 t331 _ A6.out).mono ?_); rintro e w7 ⟨rfl, hb⟩; refine ⟨_, rfl, ?_⟩; replace BK328 := gA (blk_below (gK BK328) hb); replace HB := gA (below_step (gB HB) hb); (try clear hb)) | ((with_reducible refine gate_dst (N := 6) rfl ?_); refine box_event ?hg (N := 6) ?hd (cs := #[.int .i64 0, .int .i64 0]) (t := 97) ?hr ?_; (case hd => rfl); (case hg => rfl); (case hr => first | (go_simp; done) | (go_simp; rfl)); intro gb332 hg w8 hbox hb; have BK332 := gA (hbox); have GW332 := gA ((by rw [hg]; exact (below_size (gB HB)) : w.heap.size ≤ gb332)); have GE332 := gA ((by rw [hg]; exact (below_size (gB HB)) : w.heap.size ≤ gb332)); replace HB := gA (below_step (gB HB) hb); have NB328_332 := gA ((by rw [hg]; exact Nat.ne_of_lt (blk_lt (gK BK328)) : gb328 ≠ gb332)); have NB332_328 := gA ((by rw [hg]; exact Nat.ne_of_gt (blk_lt (gK BK328)) : gb332 ≠ gb328)); replace BK328 := gA (blk_below (gK BK328) hb); clear hb hbox hg; have hnb9 := NB332_328.out; have hnc9 := NB328_332.out; obtain ⟨hcz10_0, hcz10_1, hfz10_0, hfz10_1⟩ := gz2 BK332; obtain ⟨hcz11_0, hcz11_1, hfz11_0, hfz11_1⟩ := gz2 BK328))
    go_roundg k1
    case measure => have := HK1.out; omega
    case rel => exact ⟨(wrap64 (x5_1 + 1)), (wrap64 (x329000_1 + t330)), (wrap64 (x329001_1 + t331)), (rfl), H', ⟨by have := HK1.out; omega⟩, ⟨by refine blk_put (cs := #[.int .i64 (wrap64 (x329000_1 + t330)), .int .i64 x329001_1]) ?_ 1 _ rfl; refine blk_put (cs := #[.int .i64 x329000_1, .int .i64 x329001_1]) ?_ 0 _ rfl; refine blk_far ?_ NB328_332.out _; refine blk_far ?_ NB328_332.out _; exact gK BK328⟩, ⟨by repeat first | exact gB HB | refine below_set ?_ GE328.out | refine below_set ?_ GE332.out⟩⟩
   ·rw [if_neg c4] at H
    have c4b0 := decide_eq_false c4
    clear c4
    replace H := Option.bind_eq_some_iff.mp H
    obtain ⟨⟨t333, t334⟩, A120, H⟩ := H
    replace H : (some (t333, t334)) = some (r1, r2) := H
    have A12 := gA A120
    clear A120
    simp only [Option.some.injEq, Prod.mk.injEq] at H
    obtain ⟨rfl, rfl⟩ := H
    obtain ⟨hcz13_0, hcz13_1, hfz13_0, hfz13_1⟩ := gz2 BK328
    go_wp2_with (first | ((with_reducible refine gate_callee (f := 70) rfl ?_); refine goesL_ (some 43) rfl rfl Try.func70 (by kernel_rfl) rfl #[.agg #[.int .i64 (wrap64 (x329000_1 + (wrap64 (Int.tdiv x329001_1 4294967296)))), .int .i64 (Int.tmod x329001_1 4294967296)]] rfl (by (try simp only [List.map_toArray, List.map_cons, List.map_nil]); first | done | rfl | (simp only [List.length_drop, List.length_take]; rfl)) ?_; (with_reducible refine (triglyphref01_fits.calls (wrap64 (x329000_1 + (wrap64 (Int.tdiv x329001_1 4294967296)))) (Int.tmod x329001_1 4294967296) t333 t334 _ A12.out).mono ?_); rintro e w14 ⟨rfl, hb⟩; refine ⟨_, rfl, ?_⟩; replace BK328 := gA (blk_below (g := gb328) (o := .cells #[.int .i64 (wrap64 (x329000_1 + (wrap64 (Int.tdiv x329001_1 4294967296)))), .int .i64 (Int.tmod x329001_1 4294967296)] 97 (0, 0)) (by refine blk_put (cs := #[.int .i64 (wrap64 (x329000_1 + (wrap64 (Int.tdiv x329001_1 4294967296)))), .int .i64 x329001_1]) ?_ 1 _ rfl; refine blk_put (cs := #[.int .i64 x329000_1, .int .i64 x329001_1]) ?_ 0 _ rfl; exact gK BK328) hb); replace HB := gA (below_step (by repeat first | exact gB HB | refine below_set ?_ GE328.out) hb); (try clear hb)))
    go_ret2
    exact ⟨rfl, by repeat first | exact gB HB | refine below_set ?_ GE328.out⟩
def triglyphref01_Add.f (k : Nat) (a0 : Int) (a1 : Int) : Option (Int × Int) := (triglyphref01_Sum.f k (([a0, a1] : List Int))).bind fun bt338 => (some (bt338.1, bt338.2))
theorem triglyphref01_Add.mono : ∀ a0 a1 k, LeO (triglyphref01_Add.f k a0 a1) (triglyphref01_Add.f (k + 1) a0 a1) := by
 intro a0 a1 k
 unfold triglyphref01_Add.f
 repeat' first
   | (with_reducible exact triglyphref01_Sum.mono _ _)
   | (with_reducible exact LeO.refl _)
   | (with_reducible exact LeO.none _)
   | (with_reducible refine LeO.ite ?_ ?_)
   | (with_reducible refine LeO.bind ?_ (fun _ => ?_))
   | exact triglyphref01_Sum.mono _ _
set_option maxHeartbeats 8000000 in
set_option maxRecDepth 100000 in
theorem triglyphref01_Add.calls (k : Nat) (a0 : Int) (a1 : Int) (r1 : Int) (r2 : Int) (w : World) (h : triglyphref01_Add.f k a0 a1 = some (r1, r2)) :
  Calls Try.prog 47 #[.int .i64 a0, .int .i64 a1] w fun e w' => e = .returned (.tuple #[.int .i64 r1, .int .i64 r2]) ∧ Below w.heap.size w w' := by
 have HB := gA (Below.refl w.heap.size w)
 have H : ((triglyphref01_Sum.f k (([a0, a1] : List Int))).bind fun bt338 => (some (bt338.1, bt338.2))) = some (r1, r2) := h
 clear h
 obtain ⟨y335, hy335⟩ : ∃ y_ : List Int, y_ = (([a0, a1] : List Int)) := ⟨_, rfl⟩
 replace H : ((triglyphref01_Sum.f k y335).bind fun bt338 => (some (bt338.1, bt338.2))) = some (r1, r2) := by first | (rw [hy335]; with_reducible exact H) | (have H2_ := (Option.bind_some _ _).symm.trans H; rw [hy335]; with_reducible exact H2_) | (have H2_ := (Option.bind_some _ _).symm.trans H; with_reducible exact H2_) | with_reducible exact H | (rw [hy335]; exact H) | exact H
 have Ny335 := gA hy335
 clear hy335
 replace H := Option.bind_eq_some_iff.mp H
 obtain ⟨⟨t338, t339⟩, A30, H⟩ := H
 replace H : (some (t338, t339)) = some (r1, r2) := H
 have A3 := gA A30
 clear A30
 simp only [Option.some.injEq, Prod.mk.injEq] at H
 obtain ⟨rfl, rfl⟩ := H
 go_enter Try.func47, Try.ntmps47
 go_wp2_with (first | ((with_reducible refine gate_dst (N := 8) rfl ?_); refine Kd.R_lit (Kd.int .i64) _ 2 ?hg (N := 8) ?hd (xs := ([a0, a1] : List Int)) (inner := [.int .i64 a0, .int .i64 a1]) (ok := fun _ => True) (okp := fun _ => True) ?hr ?hp (fun _ hk => hk) trivial (Below.refl _ _) (Nat.le_refl _) (by simp) ?_; (case hd => rfl); (case hg => rfl); (case hr => first | (go_simp; done) | (go_simp; rfl)); (case hp => exact (Reps.one (show Kd.M (Kd.int .i64) _ _ _ a0 [.int .i64 a0] from rfl) (Reps.one (show Kd.M (Kd.int .i64) _ _ _ a1 [.int .i64 a1] from rfl) (Reps.none _ _)))); intro v336 w4 ho5 hb hg_ hnew_; clear hg_ hnew_; (first | rw [← Ny335.out] at ho5 | (simp only [Int.reduceToNat] at ho5; rw [← Ny335.out] at ho5)); have HO337 := gA (Kd.R_lower ho5 (below_size (gB HB))); replace HB := gA (below_step (gB HB) hb); clear hb ho5; obtain ⟨Ao6, co6, eo6⟩ := Kd.R_slice HO337.out; subst eo6) | ((with_reducible refine gate_callee (f := 58) rfl ?_); refine goesL_ (some 9) rfl rfl Try.func58 (by kernel_rfl) rfl #[.slice Ao6 y335.length co6] rfl (by (try simp only [List.map_toArray, List.map_cons, List.map_nil]); first | done | rfl | (simp only [List.length_drop, List.length_take]; rfl)) ?_; (with_reducible refine (triglyphref01_Sum.calls k _ _ y335 t338 t339 _ ?side1 ?side2 A3.out).mono ?_); (case side1 => repeat (first | exact (Kd.R_reads' HO337.out).2.2 | (with_reducible refine Kd.C_alloc ?_ _) | (with_reducible refine Kd.C_drewN ?_ _) | (with_reducible refine Kd.C_drew ?_))); (case side2 => exact (Kd.R_reads' HO337.out).2.1); rintro e w7 ⟨rfl, hb⟩; refine ⟨_, rfl, ?_⟩; replace HO337 := gA (Kd.R_below (gR HO337) hb); replace HB := gA (below_step (gB HB) hb); (try clear hb)))
 go_ret2
 exact ⟨by first | rfl | (simp [errW_none, errW_some] <;> rfl) | (simp [*, errW_none, errW_some] <;> rfl), by repeat (first | (with_reducible first | exact HB.out | apply below_alloc | apply pw_below_drewN | apply below_drew1) | exact HB.out)⟩
def triglyphref01_Sub.f (k : Nat) (a0 : Int) (a1 : Int) : Option (Int × Int) := if a1 = (-9223372036854775808) then (if a0 ≥ 0 then (some (0, 9)) else (some (wrap64 (a0 - a1), 0))) else ((triglyphref01_Sum.f k (([a0, wrap64 (-a1)] : List Int))).bind fun bt343 => (some (bt343.1, bt343.2)))
theorem triglyphref01_Sub.mono : ∀ a0 a1 k, LeO (triglyphref01_Sub.f k a0 a1) (triglyphref01_Sub.f (k + 1) a0 a1) := by
 intro a0 a1 k
 unfold triglyphref01_Sub.f
 repeat' first
   | (with_reducible exact triglyphref01_Sum.mono _ _)
   | (with_reducible exact LeO.refl _)
   | (with_reducible exact LeO.none _)
   | (with_reducible refine LeO.ite ?_ ?_)
   | (with_reducible refine LeO.bind ?_ (fun _ => ?_))
   | exact triglyphref01_Sum.mono _ _
set_option maxHeartbeats 8000000 in
set_option maxRecDepth 100000 in
theorem triglyphref01_Sub.calls (k : Nat) (a0 : Int) (a1 : Int) (r1 : Int) (r2 : Int) (w : World) (h : triglyphref01_Sub.f k a0 a1 = some (r1, r2)) :
  Calls Try.prog 48 #[.int .i64 a0, .int .i64 a1] w fun e w' => e = .returned (.tuple #[.int .i64 r1, .int .i64 r2]) ∧ Below w.heap.size w w' := by
 have HB := gA (Below.refl w.heap.size w)
 have H : (if a1 = (-9223372036854775808) then (if a0 ≥ 0 then (some (0, 9)) else (some (wrap64 (a0 - a1), 0))) else ((triglyphref01_Sum.f k (([a0, wrap64 (-a1)] : List Int))).bind fun bt343 => (some (bt343.1, bt343.2)))) = some (r1, r2) := h
 clear h
 by_cases c3 : a1 = (-9223372036854775808)
 ·rw [if_pos c3] at H
  have c3b0 : (a1 == (-9223372036854775808)) = true := beq_iff_eq.mpr c3
  have c3b1 : (a1 != (-9223372036854775808)) = false := bne_eq_false_iff_eq.mpr c3
  clear c3
  by_cases c4 : a0 ≥ 0
  ·rw [if_pos c4] at H
   have c4b0 : decide (0 ≤ a0) = true := decide_eq_true c4
   clear c4
   simp only [Option.some.injEq, Prod.mk.injEq] at H
   obtain ⟨rfl, rfl⟩ := H
   go_enter Try.func48, Try.ntmps48
   go_wp2
   go_ret2
   exact ⟨by first | rfl | (simp [errW_none, errW_some] <;> rfl) | (simp [*, errW_none, errW_some] <;> rfl), by repeat (first | (with_reducible first | exact HB.out | apply below_alloc | apply pw_below_drewN | apply below_drew1) | exact HB.out)⟩
  ·rw [if_neg c4] at H
   have c4b0 : decide (0 ≤ a0) = false := decide_eq_false c4
   clear c4
   simp only [Option.some.injEq, Prod.mk.injEq] at H
   obtain ⟨rfl, rfl⟩ := H
   go_enter Try.func48, Try.ntmps48
   go_wp2
   go_ret2
   exact ⟨by first | rfl | (simp [errW_none, errW_some] <;> rfl) | (simp [*, errW_none, errW_some] <;> rfl), by repeat (first | (with_reducible first | exact HB.out | apply below_alloc | apply pw_below_drewN | apply below_drew1) | exact HB.out)⟩
 ·rw [if_neg c3] at H
  have c3b0 : (a1 == (-9223372036854775808)) = false := beq_eq_false_iff_ne.mpr c3
  have c3b1 : (a1 != (-9223372036854775808)) = true := bne_iff_ne.mpr c3
  obtain ⟨y340, hy340⟩ : ∃ y_ : List Int, y_ = (([a0, wrap64 (-a1)] : List Int)) := ⟨_, rfl⟩
  replace H : ((triglyphref01_Sum.f k y340).bind fun bt343 => (some (bt343.1, bt343.2))) = some (r1, r2) := by first | (rw [hy340]; with_reducible exact H) | (have H2_ := (Option.bind_some _ _).symm.trans H; rw [hy340]; with_reducible exact H2_) | (have H2_ := (Option.bind_some _ _).symm.trans H; with_reducible exact H2_) | with_reducible exact H | (rw [hy340]; exact H) | exact H
  have Ny340 := gA hy340
  clear hy340
  replace H := Option.bind_eq_some_iff.mp H
  obtain ⟨⟨t343, t344⟩, A50, H⟩ := H
  replace H : (some (t343, t344)) = some (r1, r2) := H
  have A5 := gA A50
  clear A50
  simp only [Option.some.injEq, Prod.mk.injEq] at H
  obtain ⟨rfl, rfl⟩ := H
  go_enter Try.func48, Try.ntmps48
  go_wp2_with (first | ((with_reducible refine gate_dst (N := 16) rfl ?_); refine Kd.R_lit (Kd.int .i64) _ 2 ?hg (N := 16) ?hd (xs := ([a0, wrap64 (-a1)] : List Int)) (inner := [.int .i64 a0, .int .i64 (wrap64 (-a1))]) (ok := fun _ => True) (okp := fun _ => True) ?hr ?hp (fun _ hk => hk) trivial (Below.refl _ _) (Nat.le_refl _) (by simp) ?_; (case hd => rfl); (case hg => rfl); (case hr => first | (go_simp; done) | (go_simp; rfl)); (case hp => exact (Reps.one (show Kd.M (Kd.int .i64) _ _ _ a0 [.int .i64 a0] from rfl) (Reps.one (show Kd.M (Kd.int .i64) _ _ _ (wrap64 (-a1)) [.int .i64 (wrap64 (-a1))] from rfl) (Reps.none _ _)))); intro v341 w6 ho7 hb hg_ hnew_; clear hg_ hnew_; (first | rw [← Ny340.out] at ho7 | (simp only [Int.reduceToNat] at ho7; rw [← Ny340.out] at ho7)); have HO342 := gA (Kd.R_lower ho7 (below_size (gB HB))); replace HB := gA (below_step (gB HB) hb); clear hb ho7; obtain ⟨Ao8, co8, eo8⟩ := Kd.R_slice HO342.out; subst eo8) | ((with_reducible refine gate_callee (f := 58) rfl ?_); refine goesL_ (some 17) rfl rfl Try.func58 (by kernel_rfl) rfl #[.slice Ao8 y340.length co8] rfl (by (try simp only [List.map_toArray, List.map_cons, List.map_nil]); first | done | rfl | (simp only [List.length_drop, List.length_take]; rfl)) ?_; (with_reducible refine (triglyphref01_Sum.calls k _ _ y340 t343 t344 _ ?side1 ?side2 A5.out).mono ?_); (case side1 => repeat (first | exact (Kd.R_reads' HO342.out).2.2 | (with_reducible refine Kd.C_alloc ?_ _) | (with_reducible refine Kd.C_drewN ?_ _) | (with_reducible refine Kd.C_drew ?_))); (case side2 => exact (Kd.R_reads' HO342.out).2.1); rintro e w9 ⟨rfl, hb⟩; refine ⟨_, rfl, ?_⟩; replace HO342 := gA (Kd.R_below (gR HO342) hb); replace HB := gA (below_step (gB HB) hb); (try clear hb)))
  go_ret2
  exact ⟨by first | rfl | (simp [errW_none, errW_some] <;> rfl) | (simp [*, errW_none, errW_some] <;> rfl), by repeat (first | (with_reducible first | exact HB.out | apply below_alloc | apply pw_below_drewN | apply below_drew1) | exact HB.out)⟩
mutual
def triglyphref01_Prod.l0 : Nat → List Int → Int → Bool → Bool → Int → Option (Int × Int)
 | 0, _, _, _, _, _ => none
 | k + 1, x0, x4, x5, x6, x7 => if x7 < (x0.length : Int) then (if 0 ≤ x7 then (if (rd x0 x7) = 0 then (some (0, 0)) else (triglyphref01_Prod.l0 k x0 x4 x5 x6 (wrap64 (x7 + 1)))) else (none)) else (triglyphref01_Prod.l1 k x0 x4 x5 x6 0)
def triglyphref01_Prod.l1 : Nat → List Int → Int → Bool → Bool → Int → Option (Int × Int)
 | 0, _, _, _, _, _ => none
 | k + 1, x0, x4, x5, x6, x8 => if x8 < (x0.length : Int) then (if 0 ≤ x8 then (if (rd x0 x8) < 0 then (if (IntKind.u64.wrap ((IntKind.u64.wrap (wrap64 (-(wrap64 ((rd x0 x8) + 1))))) + 1)) = 0 then (none) else (if x4 > (IntKind.u64.wrap (Int.tdiv (9223372036854775808 : Int) (IntKind.u64.wrap ((IntKind.u64.wrap (wrap64 (-(wrap64 ((rd x0 x8) + 1))))) + 1)))) then (triglyphref01_Prod.l1 k x0 (IntKind.u64.wrap (1 * (IntKind.u64.wrap ((IntKind.u64.wrap (wrap64 (-(wrap64 ((rd x0 x8) + 1))))) + 1)))) (!x5) true (wrap64 (x8 + 1))) else (triglyphref01_Prod.l1 k x0 (IntKind.u64.wrap (x4 * (IntKind.u64.wrap ((IntKind.u64.wrap (wrap64 (-(wrap64 ((rd x0 x8) + 1))))) + 1)))) (!x5) x6 (wrap64 (x8 + 1))))) else (if (IntKind.u64.wrap (rd x0 x8)) = 0 then (none) else (if x4 > (IntKind.u64.wrap (Int.tdiv (9223372036854775808 : Int) (IntKind.u64.wrap (rd x0 x8)))) then (triglyphref01_Prod.l1 k x0 (IntKind.u64.wrap (1 * (IntKind.u64.wrap (rd x0 x8)))) x5 true (wrap64 (x8 + 1))) else (triglyphref01_Prod.l1 k x0 (IntKind.u64.wrap (x4 * (IntKind.u64.wrap (rd x0 x8)))) x5 x6 (wrap64 (x8 + 1)))))) else (none)) else (if x6 = true then (triglyphref01_Prod.j2 k x4 x5 true) else (if x4 > 9223372036854775808 then (triglyphref01_Prod.j2 k x4 x5 true) else (if x4 = 9223372036854775808 then (triglyphref01_Prod.j2 k x4 x5 (!x5)) else (triglyphref01_Prod.j2 k x4 x5 false))))
def triglyphref01_Prod.j2 : Nat → Int → Bool → Bool → Option (Int × Int)
 | 0, _, _, _ => none
 | k + 1, x4, x5, x66 => if x66 = true then (some (0, 9)) else (if x5 = true then (some (wrap64 ((wrap64 (-(wrap64 (IntKind.u64.wrap (x4 - 1))))) - 1), 0)) else (some (wrap64 (x4), 0)))
end
def triglyphref01_Prod.f (k : Nat) (l0 : List Int) : Option (Int × Int) := triglyphref01_Prod.l0 k l0 1 false false 0
theorem triglyphref01_Prod.mono_l : ∀ k, (∀ y0 y1 y2 y3 y4, LeO (triglyphref01_Prod.l0 k y0 y1 y2 y3 y4) (triglyphref01_Prod.l0 (k + 1) y0 y1 y2 y3 y4)) ∧ (∀ y0 y1 y2 y3 y4, LeO (triglyphref01_Prod.l1 k y0 y1 y2 y3 y4) (triglyphref01_Prod.l1 (k + 1) y0 y1 y2 y3 y4)) ∧ (∀ y0 y1 y2, LeO (triglyphref01_Prod.j2 k y0 y1 y2) (triglyphref01_Prod.j2 (k + 1) y0 y1 y2))
 | 0 => ⟨fun _ _ _ _ _ r h => by simp [triglyphref01_Prod.l0] at h, fun _ _ _ _ _ r h => by simp [triglyphref01_Prod.l1] at h, fun _ _ _ r h => by simp [triglyphref01_Prod.j2] at h⟩
 | k + 1 => by
  obtain ⟨ih0, ih1, ih2⟩ := triglyphref01_Prod.mono_l k
  refine ⟨?_, ?_, ?_⟩
  ·intro y0 y1 y2 y3 y4
   unfold triglyphref01_Prod.l0
   repeat' first
   | (with_reducible exact ih0 _ _ _ _ _)
   | (with_reducible exact ih1 _ _ _ _ _)
   | (with_reducible exact ih2 _ _ _)
   | (with_reducible exact LeO.refl _)
   | (with_reducible exact LeO.none _)
   | (with_reducible refine LeO.ite ?_ ?_)
   | (with_reducible refine LeO.bind ?_ (fun _ => ?_))






  ·intro y0 y1 y2 y3 y4
   unfold triglyphref01_Prod.l1
   repeat' first
   | (with_reducible exact ih0 _ _ _ _ _)
   | (with_reducible exact ih1 _ _ _ _ _)
   | (with_reducible exact ih2 _ _ _)
   | (with_reducible exact LeO.refl _)
   | (with_reducible exact LeO.none _)
   | (with_reducible refine LeO.ite ?_ ?_)
   | (with_reducible refine LeO.bind ?_ (fun _ => ?_))






  ·intro y0 y1 y2
   unfold triglyphref01_Prod.j2
   repeat' first
   | (with_reducible exact ih0 _ _ _ _ _)
   | (with_reducible exact ih1 _ _ _ _ _)
   | (with_reducible exact ih2 _ _ _)
   | (with_reducible exact LeO.refl _)
   | (with_reducible exact LeO.none _)
   | (with_reducible refine LeO.ite ?_ ?_)
   | (with_reducible refine LeO.bind ?_ (fun _ => ?_))
theorem triglyphref01_Prod.mono : ∀ a0 k, LeO (triglyphref01_Prod.f k a0) (triglyphref01_Prod.f (k + 1) a0) := by
 intro a0 k
 obtain ⟨ih0, ih1, ih2⟩ := triglyphref01_Prod.mono_l k
 unfold triglyphref01_Prod.f
 repeat' first
   | (with_reducible exact ih0 _ _ _ _ _)
   | (with_reducible exact ih1 _ _ _ _ _)
   | (with_reducible exact ih2 _ _ _)
   | (with_reducible exact LeO.refl _)
   | (with_reducible exact LeO.none _)
   | (with_reducible refine LeO.ite ?_ ?_)
   | (with_reducible refine LeO.bind ?_ (fun _ => ?_))
set_option maxHeartbeats 8000000 in
set_option maxRecDepth 100000 in
theorem triglyphref01_Prod.calls (k : Nat) (A0 : Option Addr) (c0 : Nat) (l0 : List Int) (r1 : Int) (r2 : Int) (w : World) (hr0 : Kd.C (Kd.int .i64) w A0 l0.length l0) (hc0 : l0.length ≤ c0) (h : triglyphref01_Prod.f k l0 = some (r1, r2)) :
  Calls Try.prog 59 #[.slice A0 l0.length c0] w fun e w' => e = .returned (.tuple #[.int .i64 r1, .int .i64 r2]) ∧ Drawn0 w w' := by
 have HR0 := gA hr0
 have HC0 := gA hc0
 clear hr0 hc0
 have H : (triglyphref01_Prod.l0 k l0 1 false false 0) = some (r1, r2) := h
 clear h
 have H' := gA H
 clear H
 go_enter Try.func59, Try.ntmps59
 go_wp2
 go_loopg [7] k (fun kq v7 w' => ∃ (x7_1 : Int), v7 = .int .i64 x7_1 ∧ Aside0 (triglyphref01_Prod.l0 kq l0 1 false false x7_1 = some (r1, r2)) ∧ Aside0 (kq ≤ k) ∧ Drawn0 w w')
 case atStart => exact ⟨(0), (rfl), H', ⟨Nat.le_refl _⟩, by repeat (first | exact Drawn0.refl _ | apply Drawn0.step)⟩
 case round =>
  clear H'
  obtain ⟨x7_1, rfl, HA, HK1, ⟨m1, rfl⟩⟩ := hrel
  cases gk with
  | zero => exact absurd HA.out (by simp [triglyphref01_Prod.l0])
  | succ k1 =>
   have H := HA.out; clear HA
   simp only [triglyphref01_Prod.l0] at H
   by_cases c2 : x7_1 < (l0.length : Int)
   ·rw [if_pos c2] at H
    have c2b0 := decide_eq_true c2
    clear c2
    obtain ⟨c3, H⟩ := iS H
    have c3b0 := decide_eq_true c3
    clear c3
    by_cases c4 : (rd l0 x7_1) = 0
    ·rw [if_pos c4] at H
     have c4b0 : ((rd l0 x7_1) == 0) = true := beq_iff_eq.mpr c4
     have c4b1 : ((rd l0 x7_1) != 0) = false := bne_eq_false_iff_eq.mpr c4
     clear c4
     simp only [Option.some.injEq, Prod.mk.injEq] at H
     obtain ⟨rfl, rfl⟩ := H
     have p345 : 0 ≤ (x7_1 : Int) := of_decide_eq_true (by assumption)
     have q345 : x7_1 < (l0.length : Int) := of_decide_eq_true (by assumption)
     obtain ⟨ad345, e345, hx345_0⟩ := Kd.at_int HR0.out x7_1 p345 q345
     cases e345
     replace p345 := eq_true p345
     replace q345 := eq_true q345
     go_wp2
     go_ret2
     exact ⟨rfl, by repeat (first | exact Drawn0.refl _ | apply Drawn0.step)⟩
    ·rw [if_neg c4] at H
     have c4b0 : ((rd l0 x7_1) == 0) = false := beq_eq_false_iff_ne.mpr c4
     have c4b1 : ((rd l0 x7_1) != 0) = true := bne_iff_ne.mpr c4
     have H' := gA H
     clear H
     have p345 : 0 ≤ (x7_1 : Int) := of_decide_eq_true (by assumption)
     have q345 : x7_1 < (l0.length : Int) := of_decide_eq_true (by assumption)
     obtain ⟨ad345, e345, hx345_0⟩ := Kd.at_int HR0.out x7_1 p345 q345
     cases e345
     replace p345 := eq_true p345
     replace q345 := eq_true q345
     go_wp2
     go_roundg k1
     case measure => have := HK1.out; omega
     case rel => exact ⟨(wrap64 (x7_1 + 1)), (rfl), H', ⟨by have := HK1.out; omega⟩, by repeat (first | exact Drawn0.refl _ | apply Drawn0.step)⟩
   ·rw [if_neg c2] at H
    have c2b0 := decide_eq_false c2
    clear c2
    have H' := gA H
    clear H
    go_wp2
    go_loopg [4, 5, 6, 8] k1 (fun kq v4 v5 v6 v8 w' => ∃ (x4_2 : Int) (x5_2 : Bool) (x6_2 : Bool) (x8_2 : Int), v4 = .int .u64 x4_2 ∧ v5 = .bool x5_2 ∧ v6 = .bool x6_2 ∧ v8 = .int .i64 x8_2 ∧ Aside0 (triglyphref01_Prod.l1 kq l0 x4_2 x5_2 x6_2 x8_2 = some (r1, r2)) ∧ Aside0 (kq ≤ k1) ∧ Drawn0 w w')
    case atStart => exact ⟨(1), (false), (false), (0), (rfl), (rfl), (rfl), (rfl), H', ⟨Nat.le_refl _⟩, by repeat (first | exact Drawn0.refl _ | apply Drawn0.step)⟩
    case round =>
     clear H'
     try clear c2
     try clear c2b0
     try clear p2
     try clear c3
     try clear c3b0
     try clear p3
     try clear q3
     try clear hx3
     try clear c4
     try clear c4b0
     try clear c4b1
     try clear hx345_0
     try clear p345
     try clear q345
     obtain ⟨x4_2, x5_2, x6_2, x8_2, rfl, rfl, rfl, rfl, HA, HK2, ⟨m2, rfl⟩⟩ := hrel
     cases gk with
     | zero => exact absurd HA.out (by simp [triglyphref01_Prod.l1])
     | succ k2 =>
      have H := HA.out; clear HA
      simp only [triglyphref01_Prod.l1] at H
      by_cases c5 : x8_2 < (l0.length : Int)
      ·rw [if_pos c5] at H
       have c5b0 := decide_eq_true c5
       clear c5
       obtain ⟨c6, H⟩ := iS H
       have c6b0 := decide_eq_true c6
       clear c6
       by_cases c7 : (rd l0 x8_2) < 0
       ·rw [if_pos c7] at H
        have c7b0 := decide_eq_true c7
        clear c7
        obtain ⟨c8, H⟩ := iN H
        have c8b0 : ((IntKind.u64.wrap ((IntKind.u64.wrap (wrap64 (-(wrap64 ((rd l0 x8_2) + 1))))) + 1)) == 0) = false := beq_eq_false_iff_ne.mpr c8
        have c8b1 : ((IntKind.u64.wrap ((IntKind.u64.wrap (wrap64 (-(wrap64 ((rd l0 x8_2) + 1))))) + 1)) != 0) = true := bne_iff_ne.mpr c8
        by_cases c9 : x4_2 > (IntKind.u64.wrap (Int.tdiv (9223372036854775808 : Int) (IntKind.u64.wrap ((IntKind.u64.wrap (wrap64 (-(wrap64 ((rd l0 x8_2) + 1))))) + 1))))
        ·rw [if_pos c9] at H
         have c9b0 : decide ((IntKind.u64.wrap (Int.tdiv (9223372036854775808 : Int) (IntKind.u64.wrap ((IntKind.u64.wrap (wrap64 (-(wrap64 ((rd l0 x8_2) + 1))))) + 1)))) < x4_2) = true := decide_eq_true c9
         clear c9
         have H' := gA H
         clear H
         have p346 : 0 ≤ (x8_2 : Int) := of_decide_eq_true (by assumption)
         have q346 : x8_2 < (l0.length : Int) := of_decide_eq_true (by assumption)
         obtain ⟨ad346, e346, hx346_0⟩ := Kd.at_int HR0.out x8_2 p346 q346
         cases e346
         replace p346 := eq_true p346
         replace q346 := eq_true q346
         have p347 : 0 ≤ (x8_2 : Int) := of_decide_eq_true (by assumption)
         have q347 : x8_2 < (l0.length : Int) := of_decide_eq_true (by assumption)
         obtain ⟨ad347, e347, hx347_0⟩ := Kd.at_int HR0.out x8_2 p347 q347
         obtain rfl : ad346 = ad347 := (by injection e347)
         replace p347 := eq_true p347
         replace q347 := eq_true q347
         have p348 : 0 ≤ (x8_2 : Int) := of_decide_eq_true (by assumption)
         have q348 : x8_2 < (l0.length : Int) := of_decide_eq_true (by assumption)
         obtain ⟨ad348, e348, hx348_0⟩ := Kd.at_int HR0.out x8_2 p348 q348
         obtain rfl : ad346 = ad348 := (by injection e348)
         replace p348 := eq_true p348
         replace q348 := eq_true q348
         go_wp2
         go_roundg k2
         case measure => have := HK1.out; have := HK2.out; omega
         case rel => exact ⟨(IntKind.u64.wrap (1 * (IntKind.u64.wrap ((IntKind.u64.wrap (wrap64 (-(wrap64 ((rd l0 x8_2) + 1))))) + 1)))), (!x5_2), (true), (wrap64 (x8_2 + 1)), (by first | rfl | (simp; done) | (simp [*]; done)), (by first | rfl | (simp; done) | (simp [*]; done)), (by first | rfl | (simp; done) | (simp [*]; done)), (by first | rfl | (simp; done) | (simp [*]; done)), H', ⟨by have := HK1.out; have := HK2.out; omega⟩, by repeat (first | exact Drawn0.refl _ | apply Drawn0.step)⟩
        ·rw [if_neg c9] at H
         have c9b0 : decide ((IntKind.u64.wrap (Int.tdiv (9223372036854775808 : Int) (IntKind.u64.wrap ((IntKind.u64.wrap (wrap64 (-(wrap64 ((rd l0 x8_2) + 1))))) + 1)))) < x4_2) = false := decide_eq_false c9
         clear c9
         have H' := gA H
         clear H
         have p346 : 0 ≤ (x8_2 : Int) := of_decide_eq_true (by assumption)
         have q346 : x8_2 < (l0.length : Int) := of_decide_eq_true (by assumption)
         obtain ⟨ad346, e346, hx346_0⟩ := Kd.at_int HR0.out x8_2 p346 q346
         cases e346
         replace p346 := eq_true p346
         replace q346 := eq_true q346
         have p347 : 0 ≤ (x8_2 : Int) := of_decide_eq_true (by assumption)
         have q347 : x8_2 < (l0.length : Int) := of_decide_eq_true (by assumption)
         obtain ⟨ad347, e347, hx347_0⟩ := Kd.at_int HR0.out x8_2 p347 q347
         obtain rfl : ad346 = ad347 := (by injection e347)
         replace p347 := eq_true p347
         replace q347 := eq_true q347
         have p348 : 0 ≤ (x8_2 : Int) := of_decide_eq_true (by assumption)
         have q348 : x8_2 < (l0.length : Int) := of_decide_eq_true (by assumption)
         obtain ⟨ad348, e348, hx348_0⟩ := Kd.at_int HR0.out x8_2 p348 q348
         obtain rfl : ad346 = ad348 := (by injection e348)
         replace p348 := eq_true p348
         replace q348 := eq_true q348
         go_wp2
         go_roundg k2
         case measure => have := HK1.out; have := HK2.out; omega
         case rel => exact ⟨(IntKind.u64.wrap (x4_2 * (IntKind.u64.wrap ((IntKind.u64.wrap (wrap64 (-(wrap64 ((rd l0 x8_2) + 1))))) + 1)))), (!x5_2), (x6_2), (wrap64 (x8_2 + 1)), (rfl), (rfl), (rfl), (rfl), H', ⟨by have := HK1.out; have := HK2.out; omega⟩, by repeat (first | exact Drawn0.refl _ | apply Drawn0.step)⟩
       ·rw [if_neg c7] at H
        have c7b0 := decide_eq_false c7
        clear c7
        obtain ⟨c10, H⟩ := iN H
        have c10b0 : ((IntKind.u64.wrap (rd l0 x8_2)) == 0) = false := beq_eq_false_iff_ne.mpr c10
        have c10b1 : ((IntKind.u64.wrap (rd l0 x8_2)) != 0) = true := bne_iff_ne.mpr c10
        by_cases c11 : x4_2 > (IntKind.u64.wrap (Int.tdiv (9223372036854775808 : Int) (IntKind.u64.wrap (rd l0 x8_2))))
        ·rw [if_pos c11] at H
         have c11b0 : decide ((IntKind.u64.wrap (Int.tdiv (9223372036854775808 : Int) (IntKind.u64.wrap (rd l0 x8_2)))) < x4_2) = true := decide_eq_true c11
         clear c11
         have H' := gA H
         clear H
         have p346 : 0 ≤ (x8_2 : Int) := of_decide_eq_true (by assumption)
         have q346 : x8_2 < (l0.length : Int) := of_decide_eq_true (by assumption)
         obtain ⟨ad346, e346, hx346_0⟩ := Kd.at_int HR0.out x8_2 p346 q346
         cases e346
         replace p346 := eq_true p346
         replace q346 := eq_true q346
         have p347 : 0 ≤ (x8_2 : Int) := of_decide_eq_true (by assumption)
         have q347 : x8_2 < (l0.length : Int) := of_decide_eq_true (by assumption)
         obtain ⟨ad347, e347, hx347_0⟩ := Kd.at_int HR0.out x8_2 p347 q347
         obtain rfl : ad346 = ad347 := (by injection e347)
         replace p347 := eq_true p347
         replace q347 := eq_true q347
         go_wp2
         go_roundg k2
         case measure => have := HK1.out; have := HK2.out; omega
         case rel => exact ⟨(IntKind.u64.wrap (1 * (IntKind.u64.wrap (rd l0 x8_2)))), (x5_2), (true), (wrap64 (x8_2 + 1)), (by first | rfl | (simp; done) | (simp [*]; done)), (by first | rfl | (simp; done) | (simp [*]; done)), (by first | rfl | (simp; done) | (simp [*]; done)), (by first | rfl | (simp; done) | (simp [*]; done)), H', ⟨by have := HK1.out; have := HK2.out; omega⟩, by repeat (first | exact Drawn0.refl _ | apply Drawn0.step)⟩
        ·rw [if_neg c11] at H
         have c11b0 : decide ((IntKind.u64.wrap (Int.tdiv (9223372036854775808 : Int) (IntKind.u64.wrap (rd l0 x8_2)))) < x4_2) = false := decide_eq_false c11
         clear c11
         have H' := gA H
         clear H
         have p346 : 0 ≤ (x8_2 : Int) := of_decide_eq_true (by assumption)
         have q346 : x8_2 < (l0.length : Int) := of_decide_eq_true (by assumption)
         obtain ⟨ad346, e346, hx346_0⟩ := Kd.at_int HR0.out x8_2 p346 q346
         cases e346
         replace p346 := eq_true p346
         replace q346 := eq_true q346
         have p347 : 0 ≤ (x8_2 : Int) := of_decide_eq_true (by assumption)
         have q347 : x8_2 < (l0.length : Int) := of_decide_eq_true (by assumption)
         obtain ⟨ad347, e347, hx347_0⟩ := Kd.at_int HR0.out x8_2 p347 q347
         obtain rfl : ad346 = ad347 := (by injection e347)
         replace p347 := eq_true p347
         replace q347 := eq_true q347
         go_wp2
         go_roundg k2
         case measure => have := HK1.out; have := HK2.out; omega
         case rel => exact ⟨(IntKind.u64.wrap (x4_2 * (IntKind.u64.wrap (rd l0 x8_2)))), (x5_2), (x6_2), (wrap64 (x8_2 + 1)), (rfl), (rfl), (rfl), (rfl), H', ⟨by have := HK1.out; have := HK2.out; omega⟩, by repeat (first | exact Drawn0.refl _ | apply Drawn0.step)⟩
      ·rw [if_neg c5] at H
       have c5b0 := decide_eq_false c5
       clear c5
       have HC12 := gA H
       clear H
       go_upto_region 20 with (fail)
       go_cut [66] (fun v66 wc => ∃ (kq : Nat) (x66_11 : Bool), v66 = .bool x66_11 ∧ Aside0 (triglyphref01_Prod.j2 kq x4_2 x5_2 x66_11 = some (r1, r2)) ∧ Aside0 (kq ≤ k2) ∧ Drawn0 w wc)
       case first =>
        have H := HC12.out; clear HC12
        by_cases c13 : x6_2 = true
        ·subst c13
         have H1 : (triglyphref01_Prod.j2 k2 x4_2 x5_2 true) = some (r1, r2) := by rw [if_pos rfl] at H; exact H
         clear H; have H := H1; clear H1
         have H' := gA H
         clear H
         go_wp2
         all_goals (go_meet; (case rel => exact ⟨_, (true), (by first | rfl | (simp; done) | (simp [*]; done) | (exfalso; simp_all; done) | (exfalso; simp_all; omega)), H', ⟨by have := HK1.out; have := HK2.out; first | omega | exact Nat.le_refl _⟩, by repeat (first | exact Drawn0.refl _ | apply Drawn0.step)⟩))
        ·replace c13 := Bool.eq_false_iff.mpr c13
         subst c13
         have H1 : (if x4_2 > 9223372036854775808 then (triglyphref01_Prod.j2 k2 x4_2 x5_2 true) else (if x4_2 = 9223372036854775808 then (triglyphref01_Prod.j2 k2 x4_2 x5_2 (!x5_2)) else (triglyphref01_Prod.j2 k2 x4_2 x5_2 false))) = some (r1, r2) := by rw [if_neg (show ¬ (false = true) by decide)] at H; exact H
         clear H; have H := H1; clear H1
         by_cases c14 : x4_2 > 9223372036854775808
         ·rw [if_pos c14] at H
          have c14b0 : decide (9223372036854775808 < x4_2) = true := decide_eq_true c14
          clear c14
          (first | rw [c14b0] | (simp only [i64_w, i32_w]; rw [c14b0]) | skip)
          have H' := gA H
          clear H
          go_wp2
          all_goals (go_meet; (case rel => exact ⟨_, (true), (by first | rfl | (simp; done) | (simp [*]; done) | (exfalso; simp_all; done) | (exfalso; simp_all; omega)), H', ⟨by have := HK1.out; have := HK2.out; first | omega | exact Nat.le_refl _⟩, by repeat (first | exact Drawn0.refl _ | apply Drawn0.step)⟩))
         ·rw [if_neg c14] at H
          have c14b0 : decide (9223372036854775808 < x4_2) = false := decide_eq_false c14
          clear c14
          (first | rw [c14b0] | (simp only [i64_w, i32_w]; rw [c14b0]) | skip)
          by_cases c15 : x4_2 = 9223372036854775808
          ·rw [if_pos c15] at H
           have c15b0 : (x4_2 == 9223372036854775808) = true := beq_iff_eq.mpr c15
           have c15b1 : (x4_2 != 9223372036854775808) = false := bne_eq_false_iff_eq.mpr c15
           clear c15
           have H' := gA H
           clear H
           go_wp2
           all_goals (go_meet; (case rel => exact ⟨_, (!x5_2), (by first | rfl | (simp; done) | (simp [*]; done) | (exfalso; simp_all; done) | (exfalso; simp_all; omega)), H', ⟨by have := HK1.out; have := HK2.out; first | omega | exact Nat.le_refl _⟩, by repeat (first | exact Drawn0.refl _ | apply Drawn0.step)⟩))
          ·rw [if_neg c15] at H
           have c15b0 : (x4_2 == 9223372036854775808) = false := beq_eq_false_iff_ne.mpr c15
           have c15b1 : (x4_2 != 9223372036854775808) = true := bne_iff_ne.mpr c15
           have H' := gA H
           clear H
           go_wp2
           all_goals (go_meet; (case rel => exact ⟨_, (false), (by first | rfl | (simp; done) | (simp [*]; done) | (exfalso; simp_all; done) | (exfalso; simp_all; omega)), H', ⟨by have := HK1.out; have := HK2.out; first | omega | exact Nat.le_refl _⟩, by repeat (first | exact Drawn0.refl _ | apply Drawn0.step)⟩))
       case rest =>
        clear HC12
        try clear c1
        try clear c2
        try clear c2b0
        try clear p2
        try clear c3
        try clear c3b0
        try clear p3
        try clear q3
        try clear hx3
        try clear c4
        try clear c4b0
        try clear c4b1
        try clear c5
        try clear c5b0
        try clear c6
        try clear c6b0
        try clear p6
        try clear c7
        try clear c7b0
        try clear c8
        try clear c8b0
        try clear c8b1
        try clear c9
        try clear c9b0
        try clear c10
        try clear c10b0
        try clear c10b1
        try clear c11
        try clear c11b0
        try clear c13
        try clear c14
        try clear c14b0
        try clear c15
        try clear c15b0
        try clear c15b1
        try clear hx345_0
        try clear hx346_0
        try clear hx347_0
        try clear hx348_0
        try clear p2
        try clear p3
        try clear p345
        try clear p346
        try clear p347
        try clear p348
        try clear q3
        try clear q345
        try clear q346
        try clear q347
        try clear q348
        obtain ⟨kq, x66_11, rfl, HA, HJ11, ⟨mc11, rfl⟩⟩ := hcut
        cases kq with
        | zero => exact absurd HA.out (by simp [triglyphref01_Prod.j2])
        | succ kj11 =>
         have H := HA.out; clear HA
         simp only [triglyphref01_Prod.j2] at H
         by_cases c16 : x66_11 = true
         ·subst c16
          have H1 : (some (0, 9)) = some (r1, r2) := by rw [if_pos rfl] at H; exact H
          clear H; have H := H1; clear H1
          simp only [Option.some.injEq, Prod.mk.injEq] at H
          obtain ⟨rfl, rfl⟩ := H
          go_wp2
          go_ret2
          exact ⟨rfl, by repeat (first | exact Drawn0.refl _ | apply Drawn0.step)⟩
         ·replace c16 := Bool.eq_false_iff.mpr c16
          subst c16
          have H1 : (if x5_2 = true then (some (wrap64 ((wrap64 (-(wrap64 (IntKind.u64.wrap (x4_2 - 1))))) - 1), 0)) else (some (wrap64 (x4_2), 0))) = some (r1, r2) := by rw [if_neg (show ¬ (false = true) by decide)] at H; exact H
          clear H; have H := H1; clear H1
          by_cases c17 : x5_2 = true
          ·subst c17
           have H1 : (some (wrap64 ((wrap64 (-(wrap64 (IntKind.u64.wrap (x4_2 - 1))))) - 1), 0)) = some (r1, r2) := by rw [if_pos rfl] at H; exact H
           clear H; have H := H1; clear H1
           simp only [Option.some.injEq, Prod.mk.injEq] at H
           obtain ⟨rfl, rfl⟩ := H
           go_wp2
           go_ret2
           exact ⟨rfl, by repeat (first | exact Drawn0.refl _ | apply Drawn0.step)⟩
          ·replace c17 := Bool.eq_false_iff.mpr c17
           subst c17
           have H1 : (some (wrap64 (x4_2), 0)) = some (r1, r2) := by rw [if_neg (show ¬ (false = true) by decide)] at H; exact H
           clear H; have H := H1; clear H1
           simp only [Option.some.injEq, Prod.mk.injEq] at H
           obtain ⟨rfl, rfl⟩ := H
           go_wp2
           go_ret2
           exact ⟨rfl, by repeat (first | exact Drawn0.refl _ | apply Drawn0.step)⟩
def triglyphref01_Mul.f (k : Nat) (a0 : Int) (a1 : Int) : Option (Int × Int) := (triglyphref01_Prod.f k (([a0, a1] : List Int))).bind fun bt352 => (some (bt352.1, bt352.2))
theorem triglyphref01_Mul.mono : ∀ a0 a1 k, LeO (triglyphref01_Mul.f k a0 a1) (triglyphref01_Mul.f (k + 1) a0 a1) := by
 intro a0 a1 k
 unfold triglyphref01_Mul.f
 repeat' first
   | (with_reducible exact triglyphref01_Prod.mono _ _)
   | (with_reducible exact LeO.refl _)
   | (with_reducible exact LeO.none _)
   | (with_reducible refine LeO.ite ?_ ?_)
   | (with_reducible refine LeO.bind ?_ (fun _ => ?_))
   | exact triglyphref01_Prod.mono _ _
set_option maxHeartbeats 8000000 in
set_option maxRecDepth 100000 in
theorem triglyphref01_Mul.calls (k : Nat) (a0 : Int) (a1 : Int) (r1 : Int) (r2 : Int) (w : World) (h : triglyphref01_Mul.f k a0 a1 = some (r1, r2)) :
  Calls Try.prog 49 #[.int .i64 a0, .int .i64 a1] w fun e w' => e = .returned (.tuple #[.int .i64 r1, .int .i64 r2]) ∧ Below w.heap.size w w' := by
 have HB := gA (Below.refl w.heap.size w)
 have H : ((triglyphref01_Prod.f k (([a0, a1] : List Int))).bind fun bt352 => (some (bt352.1, bt352.2))) = some (r1, r2) := h
 clear h
 obtain ⟨y349, hy349⟩ : ∃ y_ : List Int, y_ = (([a0, a1] : List Int)) := ⟨_, rfl⟩
 replace H : ((triglyphref01_Prod.f k y349).bind fun bt352 => (some (bt352.1, bt352.2))) = some (r1, r2) := by first | (rw [hy349]; with_reducible exact H) | (have H2_ := (Option.bind_some _ _).symm.trans H; rw [hy349]; with_reducible exact H2_) | (have H2_ := (Option.bind_some _ _).symm.trans H; with_reducible exact H2_) | with_reducible exact H | (rw [hy349]; exact H) | exact H
 have Ny349 := gA hy349
 clear hy349
 replace H := Option.bind_eq_some_iff.mp H
 obtain ⟨⟨t352, t353⟩, A30, H⟩ := H
 replace H : (some (t352, t353)) = some (r1, r2) := H
 have A3 := gA A30
 clear A30
 simp only [Option.some.injEq, Prod.mk.injEq] at H
 obtain ⟨rfl, rfl⟩ := H
 go_enter Try.func49, Try.ntmps49
 go_wp2_with (first | ((with_reducible refine gate_dst (N := 8) rfl ?_); refine Kd.R_lit (Kd.int .i64) _ 2 ?hg (N := 8) ?hd (xs := ([a0, a1] : List Int)) (inner := [.int .i64 a0, .int .i64 a1]) (ok := fun _ => True) (okp := fun _ => True) ?hr ?hp (fun _ hk => hk) trivial (Below.refl _ _) (Nat.le_refl _) (by simp) ?_; (case hd => rfl); (case hg => rfl); (case hr => first | (go_simp; done) | (go_simp; rfl)); (case hp => exact (Reps.one (show Kd.M (Kd.int .i64) _ _ _ a0 [.int .i64 a0] from rfl) (Reps.one (show Kd.M (Kd.int .i64) _ _ _ a1 [.int .i64 a1] from rfl) (Reps.none _ _)))); intro v350 w4 ho5 hb hg_ hnew_; clear hg_ hnew_; (first | rw [← Ny349.out] at ho5 | (simp only [Int.reduceToNat] at ho5; rw [← Ny349.out] at ho5)); have HO351 := gA (Kd.R_lower ho5 (below_size (gB HB))); replace HB := gA (below_step (gB HB) hb); clear hb ho5; obtain ⟨Ao6, co6, eo6⟩ := Kd.R_slice HO351.out; subst eo6) | ((with_reducible refine gate_callee (f := 59) rfl ?_); refine goesL_ (some 9) rfl rfl Try.func59 (by kernel_rfl) rfl #[.slice Ao6 y349.length co6] rfl (by (try simp only [List.map_toArray, List.map_cons, List.map_nil]); first | done | rfl | (simp only [List.length_drop, List.length_take]; rfl)) ?_; (with_reducible refine (triglyphref01_Prod.calls k _ _ y349 t352 t353 _ ?side1 ?side2 A3.out).mono ?_); (case side1 => repeat (first | exact (Kd.R_reads' HO351.out).2.2 | (with_reducible refine Kd.C_alloc ?_ _) | (with_reducible refine Kd.C_drewN ?_ _) | (with_reducible refine Kd.C_drew ?_))); (case side2 => exact (Kd.R_reads' HO351.out).2.1); rintro e w' ⟨rfl, ⟨nd, rfl⟩⟩; refine ⟨_, rfl, ?_⟩))
 go_ret2
 exact ⟨by first | rfl | (simp [errW_none, errW_some] <;> rfl) | (simp [*, errW_none, errW_some] <;> rfl), by repeat (first | (with_reducible first | exact HB.out | apply below_alloc | apply pw_below_drewN | apply below_drew1) | exact HB.out)⟩
def triglyphref01_Res.j0 : Nat → Int → Int → Bool → Option (Int)
 | 0, _, _, _ => none
 | k + 1, x0, x1, x14 => if x14 = true then (some 0) else (if x0 = 0 then (none) else (if (Int.tmod x1 x0) < 0 then (if x0 > 0 then (some (wrap64 ((Int.tmod x1 x0) + x0))) else (if (Int.tmod x1 x0) > 0 then (if x0 < 0 then (some (wrap64 ((Int.tmod x1 x0) + x0))) else (some (Int.tmod x1 x0))) else (some (Int.tmod x1 x0)))) else (if (Int.tmod x1 x0) > 0 then (if x0 < 0 then (some (wrap64 ((Int.tmod x1 x0) + x0))) else (some (Int.tmod x1 x0))) else (some (Int.tmod x1 x0)))))
def triglyphref01_Res.f (k : Nat) (a0 : Int) (a1 : Int) : Option (Int) := if a0 = 0 then (some a1) else (if a0 = (-1) then (triglyphref01_Res.j0 k a0 a1 true) else (triglyphref01_Res.j0 k a0 a1 (a0 == 1)))
theorem triglyphref01_Res.mono_l : ∀ k, (∀ y0 y1 y2, LeO (triglyphref01_Res.j0 k y0 y1 y2) (triglyphref01_Res.j0 (k + 1) y0 y1 y2))
 | 0 => fun _ _ _ r h => by simp [triglyphref01_Res.j0] at h
 | k + 1 => by
  have ih0 := triglyphref01_Res.mono_l k
  ·intro y0 y1 y2
   unfold triglyphref01_Res.j0
   repeat' first
   | (with_reducible exact ih0 _ _ _)
   | (with_reducible exact LeO.refl _)
   | (with_reducible exact LeO.none _)
   | (with_reducible refine LeO.ite ?_ ?_)
   | (with_reducible refine LeO.bind ?_ (fun _ => ?_))
theorem triglyphref01_Res.mono : ∀ a0 a1 k, LeO (triglyphref01_Res.f k a0 a1) (triglyphref01_Res.f (k + 1) a0 a1) := by
 intro a0 a1 k
 have ih0 := triglyphref01_Res.mono_l k
 unfold triglyphref01_Res.f
 repeat' first
   | (with_reducible exact ih0 _ _ _)
   | (with_reducible exact LeO.refl _)
   | (with_reducible exact LeO.none _)
   | (with_reducible refine LeO.ite ?_ ?_)
   | (with_reducible refine LeO.bind ?_ (fun _ => ?_))
set_option maxHeartbeats 8000000 in
set_option maxRecDepth 100000 in
theorem triglyphref01_Res.calls (k : Nat) (a0 : Int) (a1 : Int) (r : Int) (w : World) (h : triglyphref01_Res.f k a0 a1 = some r) :
  Calls Try.prog 50 #[.int .i64 a0, .int .i64 a1] w fun e w' => e = .returned (.int .i64 r) ∧ Drawn0 w w' := by
 have H : (if a0 = 0 then (some a1) else (if a0 = (-1) then (triglyphref01_Res.j0 k a0 a1 true) else (triglyphref01_Res.j0 k a0 a1 (a0 == 1)))) = some r := h
 clear h
 by_cases c3 : a0 = 0
 ·rw [if_pos c3] at H
  have c3b0 : (a0 == 0) = true := beq_iff_eq.mpr c3
  have c3b1 : (a0 != 0) = false := bne_eq_false_iff_eq.mpr c3
  clear c3
  obtain rfl := Option.some.inj H
  go_enter Try.func50, Try.ntmps50
  go_wp2
  go_ret
  exact ⟨rfl, by repeat (first | exact Drawn0.refl _ | apply Drawn0.step)⟩
 ·rw [if_neg c3] at H
  have c3b0 : (a0 == 0) = false := beq_eq_false_iff_ne.mpr c3
  have c3b1 : (a0 != 0) = true := bne_iff_ne.mpr c3
  have HC4 := gA H
  clear H
  go_enter Try.func50, Try.ntmps50
  go_upto_region 3 with (fail)
  go_cut [14] (fun v14 wc => ∃ (kq : Nat) (x14_3 : Bool), v14 = .bool x14_3 ∧ Aside0 (triglyphref01_Res.j0 kq a0 a1 x14_3 = some r) ∧ Aside0 (kq ≤ k) ∧ Drawn0 w wc)
  case first =>
   have H := HC4.out; clear HC4
   by_cases c5 : a0 = (-1)
   ·rw [if_pos c5] at H
    have c5b0 : (a0 == (-1)) = true := beq_iff_eq.mpr c5
    have c5b1 : (a0 != (-1)) = false := bne_eq_false_iff_eq.mpr c5
    clear c5
    (first | rw [c5b0] | rw [c5b1] | (simp only [i64_w, i32_w]; rw [c5b0]) | skip)
    have H' := gA H
    clear H
    go_wp2
    all_goals (go_meet; (case rel => exact ⟨_, (true), (by first | rfl | (simp; done) | (simp [*]; done) | (exfalso; simp_all; done) | (exfalso; simp_all; omega)), H', ⟨by first | omega | exact Nat.le_refl _⟩, by repeat (first | exact Drawn0.refl _ | apply Drawn0.step)⟩))
   ·rw [if_neg c5] at H
    have c5b0 : (a0 == (-1)) = false := beq_eq_false_iff_ne.mpr c5
    have c5b1 : (a0 != (-1)) = true := bne_iff_ne.mpr c5
    (first | rw [c5b0] | rw [c5b1] | (simp only [i64_w, i32_w]; rw [c5b0]) | skip)
    have H' := gA H
    clear H
    go_wp2
    all_goals (go_meet; (case rel => exact ⟨_, ((a0 == 1)), (by first | rfl | (simp; done) | (simp [*]; done) | (exfalso; simp_all; done) | (exfalso; simp_all; omega)), H', ⟨by first | omega | exact Nat.le_refl _⟩, by repeat (first | exact Drawn0.refl _ | apply Drawn0.step)⟩))
  case rest =>
   clear HC4
   try clear p2
   try clear c3
   try clear c3b0
   try clear c3b1
   try clear c5
   try clear c5b0
   try clear c5b1
   obtain ⟨kq, x14_3, rfl, HA, HJ3, ⟨mc3, rfl⟩⟩ := hcut
   cases kq with
   | zero => exact absurd HA.out (by simp [triglyphref01_Res.j0])
   | succ kj3 =>
    have H := HA.out; clear HA
    simp only [triglyphref01_Res.j0] at H
    by_cases c6 : x14_3 = true
    ·subst c6
     have H1 : (some 0) = some r := by rw [if_pos rfl] at H; exact H
     clear H; have H := H1; clear H1
     obtain rfl := Option.some.inj H
     go_wp2
     go_ret
     exact ⟨rfl, by repeat (first | exact Drawn0.refl _ | apply Drawn0.step)⟩
    ·replace c6 := Bool.eq_false_iff.mpr c6
     subst c6
     have H1 : (if a0 = 0 then (none) else (if (Int.tmod a1 a0) < 0 then (if a0 > 0 then (some (wrap64 ((Int.tmod a1 a0) + a0))) else (if (Int.tmod a1 a0) > 0 then (if a0 < 0 then (some (wrap64 ((Int.tmod a1 a0) + a0))) else (some (Int.tmod a1 a0))) else (some (Int.tmod a1 a0)))) else (if (Int.tmod a1 a0) > 0 then (if a0 < 0 then (some (wrap64 ((Int.tmod a1 a0) + a0))) else (some (Int.tmod a1 a0))) else (some (Int.tmod a1 a0))))) = some r := by rw [if_neg (show ¬ (false = true) by decide)] at H; exact H
     clear H; have H := H1; clear H1
     obtain ⟨c7, H⟩ := iN H
     have c7b0 : (a0 == 0) = false := beq_eq_false_iff_ne.mpr c7
     have c7b1 : (a0 != 0) = true := bne_iff_ne.mpr c7
     by_cases c8 : (Int.tmod a1 a0) < 0
     ·rw [if_pos c8] at H
      have c8b0 := decide_eq_true c8
      clear c8
      by_cases c9 : a0 > 0
      ·rw [if_pos c9] at H
       have c9b0 : decide (0 < a0) = true := decide_eq_true c9
       clear c9
       obtain rfl := Option.some.inj H
       go_wp2
       go_ret
       exact ⟨rfl, by repeat (first | exact Drawn0.refl _ | apply Drawn0.step)⟩
      ·rw [if_neg c9] at H
       have c9b0 : decide (0 < a0) = false := decide_eq_false c9
       clear c9
       by_cases c10 : (Int.tmod a1 a0) > 0
       ·rw [if_pos c10] at H
        have c10b0 : decide (0 < (Int.tmod a1 a0)) = true := decide_eq_true c10
        clear c10
        by_cases c11 : a0 < 0
        ·rw [if_pos c11] at H
         have c11b0 := decide_eq_true c11
         clear c11
         obtain rfl := Option.some.inj H
         go_wp2
         go_ret
         exact ⟨rfl, by repeat (first | exact Drawn0.refl _ | apply Drawn0.step)⟩
        ·rw [if_neg c11] at H
         have c11b0 := decide_eq_false c11
         clear c11
         obtain rfl := Option.some.inj H
         go_wp2
         go_ret
         exact ⟨rfl, by repeat (first | exact Drawn0.refl _ | apply Drawn0.step)⟩
       ·rw [if_neg c10] at H
        have c10b0 : decide (0 < (Int.tmod a1 a0)) = false := decide_eq_false c10
        clear c10
        obtain rfl := Option.some.inj H
        go_wp2
        go_ret
        exact ⟨rfl, by repeat (first | exact Drawn0.refl _ | apply Drawn0.step)⟩
     ·rw [if_neg c8] at H
      have c8b0 := decide_eq_false c8
      clear c8
      by_cases c12 : (Int.tmod a1 a0) > 0
      ·rw [if_pos c12] at H
       have c12b0 : decide (0 < (Int.tmod a1 a0)) = true := decide_eq_true c12
       clear c12
       by_cases c13 : a0 < 0
       ·rw [if_pos c13] at H
        have c13b0 := decide_eq_true c13
        clear c13
        obtain rfl := Option.some.inj H
        go_wp2
        go_ret
        exact ⟨rfl, by repeat (first | exact Drawn0.refl _ | apply Drawn0.step)⟩
       ·rw [if_neg c13] at H
        have c13b0 := decide_eq_false c13
        clear c13
        obtain rfl := Option.some.inj H
        go_wp2
        go_ret
        exact ⟨rfl, by repeat (first | exact Drawn0.refl _ | apply Drawn0.step)⟩
      ·rw [if_neg c12] at H
       have c12b0 : decide (0 < (Int.tmod a1 a0)) = false := decide_eq_false c12
       clear c12
       obtain rfl := Option.some.inj H
       go_wp2
       go_ret
       exact ⟨rfl, by repeat (first | exact Drawn0.refl _ | apply Drawn0.step)⟩
end Go.Proofs.Ytahgfebdjjfkhaa.P
