/- Written by a program of this session: the functions that the laws reach, what each comes to, and each law as it is stated, for every input. No condition. -/
import Derived.Test.YtbijepjnbolpiaaPx0
import Derived.Test.YtbijepjnbolpiaaPx2
import Derived.Test.YtbijepjnbolpiaaPx5
import Derived.Test.YtbijepjnbolpiaaPx6
import Derived.Test.YtbijepjnbolpiaaPx7
import Derived.Test.YtbijepjnbolpiaaPx9
namespace Go.Proofs.Ytbijepjnbolpiaa.P
open Go.RowKit Go.Proofs.YtbijepjnbolpiaaW.PrintWords Go.Proofs.YtbijepjnbolpiaaW.PrintLast Go.Proofs.YtbijepjnbolpiaaW.PrintMore
attribute [local go_sem] max2_int min2_int max_two min_two max_three min_three max_four min_four   -- for this text's walks alone
set_option linter.unusedVariables false
set_option linter.unusedSimpArgs false
mutual
def triglyphlaw27_ShowRows.j0 : Nat → Int → List (List Int) → Bool → Option (Bool)
 | 0, _, _, _ => none
 | k + 1, x0, x1, x29 => if x29 = true then ((triglyphlaw27_works.f k).bind fun t392 => (some t392)) else (if 0 < (x1.length : Int) then (triglyphlaw27_ShowRows.l0 k x1 (Int.tmod (wrap64 (x0)) 3) ((rd_L10 x1 0).length : Int) (⟨#[]⟩ : ByteArray) 0 (([(x1.length : Int), ((rd_L10 x1 0).length : Int)] : List Int)) ([] : List (S40))) else (none))
def triglyphlaw27_ShowRows.l0 : Nat → List (List Int) → Int → Int → ByteArray → Int → List Int → List (S40) → Option (Bool)
 | 0, _, _, _, _, _, _, _ => none
 | k + 1, x1, x5, x6, x8, x9, x398000, x398001 => if x9 < (x1.length : Int) then (if 0 ≤ x9 then (if ((rd_L10 x1 x9).length : Int) = x6 then ((triglyphref03_Nums.f k (rd_L10 x1 x9)).bind fun bt404 => (if x398001.length + bt404.2.length < 3518437208883 then ((some (x398001 ++ bt404.2 : List (S40))).bind fun y411 => ((show_Show.f k x5 bt404.1 bt404.2).bind fun bt414 => (if bt414.2 = 0 then (if x9 > 0 then (if x8.size + 1 ≤ 9223372036854775807 then (if (x8 ++ (⟨#[10]⟩ : ByteArray)).size + bt414.1.size ≤ 9223372036854775807 then (triglyphlaw27_ShowRows.l0 k x1 x5 x6 ((x8 ++ (⟨#[10]⟩ : ByteArray)) ++ bt414.1) (wrap64 (x9 + 1)) x398000 y411) else (none)) else (none)) else (if x8.size + bt414.1.size ≤ 9223372036854775807 then (triglyphlaw27_ShowRows.l0 k x1 x5 x6 (x8 ++ bt414.1) (wrap64 (x9 + 1)) x398000 y411) else (none))) else (none)))) else (none))) else ((triglyphlaw27_works.f k).bind fun t402 => (some t402))) else (none)) else ((show_Show.f k x5 x398000 x398001).bind fun bt398 => (if bt398.2 = 0 then (if bt398.1.toList = x8.toList then ((triglyphlaw27_works.f k).bind fun t400 => (some t400)) else (none)) else (none)))
end
def triglyphlaw27_ShowRows.f (k : Nat) (a0 : Int) (l1 : List (List Int)) : Option (Bool) := if (l1.length : Int) = 0 then (triglyphlaw27_ShowRows.j0 k a0 l1 true) else (if (l1.length : Int) > 20 then (triglyphlaw27_ShowRows.j0 k a0 l1 true) else (if 0 < (l1.length : Int) then (triglyphlaw27_ShowRows.j0 k a0 l1 (decide (((rd_L10 l1 0).length : Int) > 20))) else (none)))
theorem triglyphlaw27_ShowRows.mono_l : ∀ k, (∀ y0 y1 y2, LeO (triglyphlaw27_ShowRows.j0 k y0 y1 y2) (triglyphlaw27_ShowRows.j0 (k + 1) y0 y1 y2)) ∧ (∀ y0 y1 y2 y3 y4 y5 y6, LeO (triglyphlaw27_ShowRows.l0 k y0 y1 y2 y3 y4 y5 y6) (triglyphlaw27_ShowRows.l0 (k + 1) y0 y1 y2 y3 y4 y5 y6))
 | 0 => ⟨fun _ _ _ r h => by simp [triglyphlaw27_ShowRows.j0] at h, fun _ _ _ _ _ _ _ r h => by simp [triglyphlaw27_ShowRows.l0] at h⟩
 | k + 1 => by
  obtain ⟨ih0, ih1⟩ := triglyphlaw27_ShowRows.mono_l k
  refine ⟨?_, ?_⟩
  ·intro y0 y1 y2
   unfold triglyphlaw27_ShowRows.j0
   repeat' first
   | (with_reducible exact ih0 _ _ _)
   | (with_reducible exact ih1 _ _ _ _ _ _ _)
   | (with_reducible exact show_Show.mono _ _ _ _)
   | (with_reducible exact triglyphlaw27_works.mono _)
   | (with_reducible exact triglyphref03_Nums.mono _ _)
   | (with_reducible exact LeO.refl _)
   | (with_reducible exact LeO.none _)
   | (with_reducible refine LeO.ite ?_ ?_)
   | (with_reducible refine LeO.bind ?_ (fun _ => ?_))


   | exact show_Show.mono _ _ _ _
   | exact triglyphlaw27_works.mono _
   | exact triglyphref03_Nums.mono _ _



  ·intro y0 y1 y2 y3 y4 y5 y6
   unfold triglyphlaw27_ShowRows.l0
   repeat' first
   | (with_reducible exact ih0 _ _ _)
   | (with_reducible exact ih1 _ _ _ _ _ _ _)
   | (with_reducible exact show_Show.mono _ _ _ _)
   | (with_reducible exact triglyphlaw27_works.mono _)
   | (with_reducible exact triglyphref03_Nums.mono _ _)
   | (with_reducible exact LeO.refl _)
   | (with_reducible exact LeO.none _)
   | (with_reducible refine LeO.ite ?_ ?_)
   | (with_reducible refine LeO.bind ?_ (fun _ => ?_))


   | exact show_Show.mono _ _ _ _
   | exact triglyphlaw27_works.mono _
   | exact triglyphref03_Nums.mono _ _
theorem triglyphlaw27_ShowRows.mono : ∀ a0 a1 k, LeO (triglyphlaw27_ShowRows.f k a0 a1) (triglyphlaw27_ShowRows.f (k + 1) a0 a1) := by
 intro a0 a1 k
 obtain ⟨ih0, ih1⟩ := triglyphlaw27_ShowRows.mono_l k
 unfold triglyphlaw27_ShowRows.f
 repeat' first
   | (with_reducible exact ih0 _ _ _)
   | (with_reducible exact ih1 _ _ _ _ _ _ _)
   | (with_reducible exact show_Show.mono _ _ _ _)
   | (with_reducible exact triglyphlaw27_works.mono _)
   | (with_reducible exact triglyphref03_Nums.mono _ _)
   | (with_reducible exact LeO.refl _)
   | (with_reducible exact LeO.none _)
   | (with_reducible refine LeO.ite ?_ ?_)
   | (with_reducible refine LeO.bind ?_ (fun _ => ?_))


   | exact show_Show.mono _ _ _ _
   | exact triglyphlaw27_works.mono _
   | exact triglyphref03_Nums.mono _ _
set_option maxHeartbeats 8000000 in
set_option maxRecDepth 100000 in
theorem triglyphlaw27_ShowRows.calls (k : Nat) (a0 : Int) (A1 : Option Addr) (c1 : Nat) (l1 : List (List Int)) (r : Bool) (w : World) (hr1 : Kd.C (Kd.slice 2 (Kd.int .i64)) w A1 l1.length l1) (hc1 : l1.length ≤ c1) (h : triglyphlaw27_ShowRows.f k a0 l1 = some r) :
  Calls Try.prog 4 #[.int .u8 a0, .slice A1 l1.length c1] w fun e w' => e = .returned (.bool r) ∧ Below w.heap.size w w' := by
 have hu25 := Try.underlying25
 have HR1 := gA hr1
 have HC1 := gA hc1
 clear hr1 hc1
 have HB := gA (Below.refl w.heap.size w)
 have H : (if (l1.length : Int) = 0 then (triglyphlaw27_ShowRows.j0 k a0 l1 true) else (if (l1.length : Int) > 20 then (triglyphlaw27_ShowRows.j0 k a0 l1 true) else (if 0 < (l1.length : Int) then (triglyphlaw27_ShowRows.j0 k a0 l1 (decide (((rd_L10 l1 0).length : Int) > 20))) else (none)))) = some r := h
 clear h
 have HC3 := gA H
 clear H
 go_enter Try.func4, Try.ntmps4
 go_upto_region 1 with (fail)
 go_cut [29] (fun v29 wc => ∃ (kq : Nat) (x29_2 : Bool), v29 = .bool x29_2 ∧ Aside0 (triglyphlaw27_ShowRows.j0 kq a0 l1 x29_2 = some r) ∧ Aside0 (kq ≤ k) ∧ Aside0 (Below w.heap.size w wc))
 case first =>
  have H := HC3.out; clear HC3
  by_cases c4 : (l1.length : Int) = 0
  ·rw [if_pos c4] at H
   have c4b0 : ((l1.length : Int) == 0) = true := beq_iff_eq.mpr c4
   have c4b1 : ((l1.length : Int) != 0) = false := bne_eq_false_iff_eq.mpr c4
   clear c4
   (first | rw [c4b0] | rw [c4b1] | (simp only [i64_w, i32_w]; rw [c4b0]) | skip)
   have H' := gA H
   clear H
   go_wp2
   all_goals (go_meet; (case rel => exact ⟨_, (true), (by first | rfl | (simp; done) | (simp [*]; done) | (exfalso; simp_all; done) | (exfalso; simp_all; omega)), H', ⟨by first | omega | exact Nat.le_refl _⟩, ⟨gB HB⟩⟩))
  ·rw [if_neg c4] at H
   have c4b0 : ((l1.length : Int) == 0) = false := beq_eq_false_iff_ne.mpr c4
   have c4b1 : ((l1.length : Int) != 0) = true := bne_iff_ne.mpr c4
   have c4b2 : ¬ (l1 = []) := fun h_ => c4 (by rw [h_]; rfl)
   (first | rw [c4b0] | rw [c4b1] | rw [c4b2] | (simp only [i64_w, i32_w]; rw [c4b0]) | skip)
   by_cases c5 : (l1.length : Int) > 20
   ·rw [if_pos c5] at H
    have c5b0 : decide (20 < (l1.length : Int)) = true := decide_eq_true c5
    have c5b1 : decide (20 < l1.length) = true := decide_eq_true (by omega)
    clear c5
    have H' := gA H
    clear H
    go_wp2
    all_goals (go_meet; (case rel => exact ⟨_, (true), (by first | rfl | (simp; done) | (simp [*]; done) | (exfalso; simp_all; done) | (exfalso; simp_all; omega)), H', ⟨by first | omega | exact Nat.le_refl _⟩, ⟨gB HB⟩⟩))
   ·rw [if_neg c5] at H
    have c5b0 : decide (20 < (l1.length : Int)) = false := decide_eq_false c5
    have c5b1 : decide (20 < l1.length) = false := decide_eq_false (by omega)
    clear c5
    obtain ⟨c6, H⟩ := iS H
    have c6b0 := decide_eq_true c6
    have c6b1 : decide (0 < l1.length) = true := decide_eq_true (by omega)
    clear c6
    have H' := gA H
    clear H
    have p391 : 0 ≤ (0 : Int) := (by omega)
    have q391 : 0 < (l1.length : Int) := of_decide_eq_true (by assumption)
    obtain ⟨ad391, A391_0, c391_0, e391, hx391_0, hl391_0, hi391_0⟩ := at_L10 HR1.out 0 p391 q391
    cases e391
    have qi391 : (0 < l1.length) = True := eq_true (by omega)
    (try rw [show ((0 : Int)).toNat = 0 from rfl] at hx391_0)
    (try rw [Addr.add_zero'] at hx391_0)
    replace hx391_0 := (HB.out.cell (World.block_lt_of_cell? w _ hx391_0)).trans hx391_0
    have HR391_0 := gA hi391_0
    have HC391_0 := gA hl391_0
    clear hi391_0 hl391_0
    replace p391 := eq_true p391
    replace q391 := eq_true q391
    go_wp2
    all_goals (go_meet; (case rel => exact ⟨_, (decide (((rd_L10 l1 0).length : Int) > 20)), (by first | rfl | (simp; done) | (simp [*]; done) | (exfalso; simp_all; done) | (exfalso; simp_all; omega)), H', ⟨by first | omega | exact Nat.le_refl _⟩, ⟨gB HB⟩⟩))
 case rest =>
  clear HC3
  try clear c1
  try clear p2
  try clear c3
  try clear p3
  try clear q3
  try clear hx3
  try clear qi3
  try clear c4
  try clear c4b0
  try clear c4b1
  try clear c4b2
  try clear c5
  try clear c5b0
  try clear c5b1
  try clear c6
  try clear c6b0
  try clear c6b1
  try clear hx391_0
  try clear p391
  try clear q391
  obtain ⟨kq, x29_2, rfl, HA, HJ2, HB⟩ := hcut
  cases kq with
  | zero => exact absurd HA.out (by simp [triglyphlaw27_ShowRows.j0])
  | succ kj2 =>
   have H := HA.out; clear HA
   simp only [triglyphlaw27_ShowRows.j0] at H
   by_cases c7 : x29_2 = true
   ·subst c7
    have H1 : ((triglyphlaw27_works.f kj2).bind fun t392 => (some t392)) = some r := by rw [if_pos rfl] at H; exact H
    clear H; have H := H1; clear H1
    replace H := Option.bind_eq_some_iff.mp H
    obtain ⟨t392, A80, H⟩ := H
    replace H : (some t392) = some r := H
    have A8 := gA A80
    clear A80
    obtain rfl := Option.some.inj H
    go_wp2_with (first | ((with_reducible refine gate_callee (f := 7) rfl ?_); refine goesL_ (some 30) rfl rfl Try.func7 (by kernel_rfl) rfl #[] rfl (by (try simp only [List.map_toArray, List.map_cons, List.map_nil]); first | done | rfl | (simp only [List.length_drop, List.length_take]; rfl)) ?_; (with_reducible refine (triglyphlaw27_works.calls kj2  t392 _ A8.out).mono ?_); rintro e w9 ⟨rfl, hb⟩; refine ⟨_, rfl, ?_⟩; replace HB := gA (below_step (gB HB) hb); (try clear hb)))
    go_ret
    exact ⟨rfl, gB HB⟩
   ·replace c7 := Bool.eq_false_iff.mpr c7
    subst c7
    have H1 : (if 0 < (l1.length : Int) then (triglyphlaw27_ShowRows.l0 kj2 l1 (Int.tmod (wrap64 (a0)) 3) ((rd_L10 l1 0).length : Int) (⟨#[]⟩ : ByteArray) 0 (([(l1.length : Int), ((rd_L10 l1 0).length : Int)] : List Int)) ([] : List (S40))) else (none)) = some r := by rw [if_neg (show ¬ (false = true) by decide)] at H; exact H
    clear H; have H := H1; clear H1
    obtain ⟨c10, H⟩ := iS H
    have c10b0 := decide_eq_true c10
    have c10b1 : decide (0 < l1.length) = true := decide_eq_true (by omega)
    clear c10
    obtain ⟨y394, hy394⟩ : ∃ y_ : List Int, y_ = (([(l1.length : Int), ((rd_L10 l1 0).length : Int)] : List Int)) := ⟨_, rfl⟩
    replace H : (triglyphlaw27_ShowRows.l0 kj2 l1 (Int.tmod (wrap64 (a0)) 3) ((rd_L10 l1 0).length : Int) (⟨#[]⟩ : ByteArray) 0 y394 ([] : List (S40))) = some r := by first | (rw [hy394]; with_reducible exact H) | (have H2_ := (Option.bind_some _ _).symm.trans H; rw [hy394]; with_reducible exact H2_) | (have H2_ := (Option.bind_some _ _).symm.trans H; with_reducible exact H2_) | with_reducible exact H | (rw [hy394]; exact H) | exact H
    have Ny394 := gA hy394
    clear hy394
    have H' := gA H
    clear H
    have p393 : 0 ≤ (0 : Int) := (by omega)
    have q393 : 0 < (l1.length : Int) := of_decide_eq_true (by assumption)
    obtain ⟨ad393, A393_0, c393_0, e393, hx393_0, hl393_0, hi393_0⟩ := at_L10 HR1.out 0 p393 q393
    cases e393
    have qi393 : (0 < l1.length) = True := eq_true (by omega)
    (try rw [show ((0 : Int)).toNat = 0 from rfl] at hx393_0)
    (try rw [Addr.add_zero'] at hx393_0)
    replace hx393_0 := (HB.out.cell (World.block_lt_of_cell? w _ hx393_0)).trans hx393_0
    have HR393_0 := gA hi393_0
    have HC393_0 := gA hl393_0
    clear hi393_0 hl393_0
    replace p393 := eq_true p393
    replace q393 := eq_true q393
    go_wp2_with (first | ((with_reducible refine gate_dst (N := 41) rfl ?_); (try (refine gate_guard (by rfl) ?_; dsimp only)); refine Kd.R_lit (Kd.int .i64) _ 3 ?hg (N := 41) ?hd (xs := ([(l1.length : Int), ((rd_L10 l1 0).length : Int)] : List Int)) (inner := [.int .i64 (l1.length : Int), .int .i64 ((rd_L10 l1 0).length : Int)]) (ok := fun _ => True) (okp := fun _ => True) ?hr ?hp (fun _ hk => hk) trivial (Below.refl _ _) (Nat.le_refl _) (by simp) ?_; (case hd => rfl); (case hg => rfl); (case hr => first | (go_simp; done) | (go_simp; rfl)); (case hp => exact (Reps.one (show Kd.M (Kd.int .i64) _ _ _ (l1.length : Int) [.int .i64 (l1.length : Int)] from rfl) (Reps.one (show Kd.M (Kd.int .i64) _ _ _ ((rd_L10 l1 0).length : Int) [.int .i64 ((rd_L10 l1 0).length : Int)] from rfl) (Reps.none _ _)))); intro v395 w11 ho12 hb hg_ hnew_; clear hg_ hnew_; (first | rw [← Ny394.out] at ho12 | (simp only [Int.reduceToNat] at ho12; rw [← Ny394.out] at ho12)); have HO396 := gA (Kd.R_lower ho12 (below_size (gB HB))); replace HB := gA (below_step (gB HB) hb); clear hb ho12; obtain ⟨Ao13, co13, eo13⟩ := Kd.R_slice HO396.out; subst eo13) | ((with_reducible refine gate_dst (N := 7) rfl ?_); (try (refine gate_guard (by rfl) ?_; dsimp only)); refine box_event ?hg (N := 7) ?hd (cs := #[.slice none 0 0, .slice none 0 0]) (t := 25) ?hr ?_; (case hd => rfl); (case hg => rfl); (case hr => first | (go_simp; done) | (go_simp; rfl)); intro gb397 hg w14 hbox hb; replace HO396 := gA (Kd.R_below (gR HO396) hb); have BK397 := gA (hbox); have GW397 := gA ((by rw [hg]; exact (below_size (gB HB)) : w.heap.size ≤ gb397)); have GE397 := gA ((by rw [hg]; exact (below_size (gB HB)) : w.heap.size ≤ gb397)); replace HB := gA (below_step (gB HB) hb); clear hb hbox hg; obtain ⟨hcz15_0, hcz15_1, hfz15_0, hfz15_1⟩ := gz2 BK397))
    go_loopg [8, 9] kj2 (fun kq v8 v9 w' => ∃ (x8_2 : ByteArray) (x9_2 : Int) (x398001_2 : List (S40)) (u398001 : Value), v8 = .string x8_2 ∧ v9 = .int .i64 x9_2 ∧ Aside0 (triglyphlaw27_ShowRows.l0 kq l1 (Int.tmod (wrap64 (a0)) 3) ((rd_L10 l1 0).length : Int) x8_2 x9_2 y394 x398001_2 = some r) ∧ Aside0 (kq ≤ kj2) ∧ Aside0 (Kd.R (Kd.int .i64) 3 w' w.heap.size (fun _ => True) (.slice Ao13 y394.length co13) y394) ∧ Aside0 (Kd.N k40 40 w' w.heap.size (fun k_ => some k_ ≠ ((.slice Ao13 y394.length co13) : Value).ownBlock ∧ k_ ≠ gb397) u398001 x398001_2) ∧ Aside0 (w'.heap[gb397]? = some (.cells #[(.slice Ao13 y394.length co13), u398001] 25 (0, 0))) ∧ Aside0 (Below w.heap.size w w'))
    case atStart => exact ⟨((⟨#[]⟩ : ByteArray)), (0), (([] : List (S40))), (.slice none 0 0), (rfl), (rfl), H', ⟨Nat.le_refl _⟩, ⟨Kd.R_mono (Kd.R_far (p := ⟨gb397, 1, none⟩) (Kd.R_far (p := ⟨gb397, 0, none⟩) (Kd.R_types HO396.out BK397.out (by decide)) (fun _ hk => hk.2) (.slice Ao13 y394.length co13)) (fun _ hk => hk.2) (.slice none 0 0)) (fun _ hk => trivial)⟩, ⟨by first | exact Kd.R_nil _ _ _ _ _ | exact Kd.N_nil _ _ _ _ _ | exact Kd.V_nil _ _ _ _ _ | exact Kd.Q_nil _ _ _ _ _ | exact Kd.S_nil _ _ _ _ _⟩, ⟨by refine blk_put (cs := #[.slice Ao13 y394.length co13, .slice none 0 0]) ?_ 1 _ rfl; refine blk_put (cs := #[.slice none 0 0, .slice none 0 0]) ?_ 0 _ rfl; exact gK BK397⟩, ⟨by repeat first | exact gB HB | refine below_set ?_ GE397.out⟩⟩
    case round =>
     clear H'
     try clear c1
     try clear p2
     try clear c3
     try clear p3
     try clear q3
     try clear hx3
     try clear qi3
     try clear c4
     try clear c4b0
     try clear c4b1
     try clear c4b2
     try clear c5
     try clear c5b0
     try clear c5b1
     try clear c6
     try clear c6b0
     try clear c6b1
     try clear p6
     try clear c7
     try clear c10
     try clear c10b0
     try clear c10b1
     try clear hcz15_0
     try clear hcz15_1
     try clear hfz15_0
     try clear hfz15_1
     try clear hx391_0
     try clear hx393_0
     try clear p2
     try clear p3
     try clear p391
     try clear p393
     try clear q3
     try clear q391
     try clear q393
     obtain ⟨x8_2, x9_2, x398001_2, u398001, rfl, rfl, HA, HK2, HO_398000, HO_398001, BK397, HB⟩ := hrel
     cases gk with
     | zero => exact absurd HA.out (by simp [triglyphlaw27_ShowRows.l0])
     | succ k2 =>
      have H := HA.out; clear HA
      simp only [triglyphlaw27_ShowRows.l0] at H
      by_cases c16 : x9_2 < (l1.length : Int)
      ·rw [if_pos c16] at H
       have c16b0 := decide_eq_true c16
       clear c16
       obtain ⟨c17, H⟩ := iS H
       have c17b0 := decide_eq_true c17
       clear c17
       by_cases c18 : ((rd_L10 l1 x9_2).length : Int) = ((rd_L10 l1 0).length : Int)
       ·rw [if_pos c18] at H
        have c18b0 : (((rd_L10 l1 x9_2).length : Int) == ((rd_L10 l1 0).length : Int)) = true := beq_iff_eq.mpr c18
        have c18b1 : (((rd_L10 l1 x9_2).length : Int) != ((rd_L10 l1 0).length : Int)) = false := bne_eq_false_iff_eq.mpr c18
        have c18b2 : ((rd_L10 l1 x9_2).length == (rd_L10 l1 0).length) = true := by first | simpa using c18 | (simp at c18 ⊢; omega)
        clear c18
        replace H := Option.bind_eq_some_iff.mp H
        obtain ⟨⟨t404, t407⟩, A190, H⟩ := H
        replace H : (if x398001_2.length + t407.length < 3518437208883 then ((some (x398001_2 ++ t407 : List (S40))).bind fun y411 => ((show_Show.f k2 (Int.tmod (wrap64 (a0)) 3) t404 t407).bind fun bt414 => (if bt414.2 = 0 then (if x9_2 > 0 then (if x8_2.size + 1 ≤ 9223372036854775807 then (if (x8_2 ++ (⟨#[10]⟩ : ByteArray)).size + bt414.1.size ≤ 9223372036854775807 then (triglyphlaw27_ShowRows.l0 k2 l1 (Int.tmod (wrap64 (a0)) 3) ((rd_L10 l1 0).length : Int) ((x8_2 ++ (⟨#[10]⟩ : ByteArray)) ++ bt414.1) (wrap64 (x9_2 + 1)) y394 y411) else (none)) else (none)) else (if x8_2.size + bt414.1.size ≤ 9223372036854775807 then (triglyphlaw27_ShowRows.l0 k2 l1 (Int.tmod (wrap64 (a0)) 3) ((rd_L10 l1 0).length : Int) (x8_2 ++ bt414.1) (wrap64 (x9_2 + 1)) y394 y411) else (none))) else (none)))) else (none)) = some r := H
        have A19 := gA A190
        clear A190
        obtain ⟨c20, H⟩ := iS H
        have LMc20 := gA c20
        clear c20
        obtain ⟨y411, hy411⟩ : ∃ y_ : List (S40), y_ = (x398001_2 ++ t407) := ⟨_, rfl⟩
        replace H : ((show_Show.f k2 (Int.tmod (wrap64 (a0)) 3) t404 t407).bind fun bt414 => (if bt414.2 = 0 then (if x9_2 > 0 then (if x8_2.size + 1 ≤ 9223372036854775807 then (if (x8_2 ++ (⟨#[10]⟩ : ByteArray)).size + bt414.1.size ≤ 9223372036854775807 then (triglyphlaw27_ShowRows.l0 k2 l1 (Int.tmod (wrap64 (a0)) 3) ((rd_L10 l1 0).length : Int) ((x8_2 ++ (⟨#[10]⟩ : ByteArray)) ++ bt414.1) (wrap64 (x9_2 + 1)) y394 y411) else (none)) else (none)) else (if x8_2.size + bt414.1.size ≤ 9223372036854775807 then (triglyphlaw27_ShowRows.l0 k2 l1 (Int.tmod (wrap64 (a0)) 3) ((rd_L10 l1 0).length : Int) (x8_2 ++ bt414.1) (wrap64 (x9_2 + 1)) y394 y411) else (none))) else (none))) = some r := by first | (rw [hy411]; with_reducible exact H) | (have H2_ := (Option.bind_some _ _).symm.trans H; rw [hy411]; with_reducible exact H2_) | (have H2_ := (Option.bind_some _ _).symm.trans H; with_reducible exact H2_) | with_reducible exact H | (rw [hy411]; exact H) | exact H
        have Ny411 := gA hy411
        clear hy411
        replace H := Option.bind_eq_some_iff.mp H
        obtain ⟨⟨t414, t415⟩, A210, H⟩ := H
        replace H : (if t415 = 0 then (if x9_2 > 0 then (if x8_2.size + 1 ≤ 9223372036854775807 then (if (x8_2 ++ (⟨#[10]⟩ : ByteArray)).size + t414.size ≤ 9223372036854775807 then (triglyphlaw27_ShowRows.l0 k2 l1 (Int.tmod (wrap64 (a0)) 3) ((rd_L10 l1 0).length : Int) ((x8_2 ++ (⟨#[10]⟩ : ByteArray)) ++ t414) (wrap64 (x9_2 + 1)) y394 y411) else (none)) else (none)) else (if x8_2.size + t414.size ≤ 9223372036854775807 then (triglyphlaw27_ShowRows.l0 k2 l1 (Int.tmod (wrap64 (a0)) 3) ((rd_L10 l1 0).length : Int) (x8_2 ++ t414) (wrap64 (x9_2 + 1)) y394 y411) else (none))) else (none)) = some r := H
        have A21 := gA A210
        clear A210
        obtain ⟨c22, H⟩ := iS H
        have c22b0 : (t415 == 0) = true := beq_iff_eq.mpr c22
        have c22b1 : (t415 != 0) = false := bne_eq_false_iff_eq.mpr c22
        clear c22
        by_cases c23 : x9_2 > 0
        ·rw [if_pos c23] at H
         have c23b0 : decide (0 < x9_2) = true := decide_eq_true c23
         clear c23
         obtain ⟨c24, H⟩ := iS H
         have c24b0 := eq_true c24
         have c24b1 := decide_eq_true c24
         try have c24b2 : (9223372036854775807 < x8_2.size + 1) = False := eq_false (Nat.not_lt.2 c24)
         obtain ⟨c25, H⟩ := iS H
         have c25b0 := eq_true c25
         have c25b1 := decide_eq_true c25
         try have c25b2 : (9223372036854775807 < (x8_2 ++ (⟨#[10]⟩ : ByteArray)).size + t414.size) = False := eq_false (Nat.not_lt.2 c25)
         try (have c25b2z := c25b2; simp only [ByteArray.size_append, show (⟨#[10]⟩ : ByteArray).size = 1 from rfl] at c25b2z)
         have H' := gA H
         clear H
         have p401 : 0 ≤ (x9_2 : Int) := of_decide_eq_true (by assumption)
         have q401 : x9_2 < (l1.length : Int) := of_decide_eq_true (by assumption)
         obtain ⟨ad401, A401_0, c401_0, e401, hx401_0, hl401_0, hi401_0⟩ := at_L10 HR1.out x9_2 p401 q401
         obtain rfl : ad393 = ad401 := (by injection e401)
         replace hx401_0 := (HB.out.cell (World.block_lt_of_cell? w _ hx401_0)).trans hx401_0
         have HR401_0 := gA hi401_0
         have HC401_0 := gA hl401_0
         clear hi401_0 hl401_0
         replace p401 := eq_true p401
         replace q401 := eq_true q401
         have p403 : 0 ≤ (x9_2 : Int) := of_decide_eq_true (by assumption)
         have q403 : x9_2 < (l1.length : Int) := of_decide_eq_true (by assumption)
         obtain ⟨ad403, A403_0, c403_0, e403, hx403_0, hl403_0, hi403_0⟩ := at_L10 HR1.out x9_2 p403 q403
         obtain rfl : ad393 = ad403 := (by injection e403)
         replace hx403_0 := (HB.out.cell (World.block_lt_of_cell? w _ hx403_0)).trans hx403_0
         have HR403_0 := gA hi403_0
         have HC403_0 := gA hl403_0
         clear hi403_0 hl403_0
         replace p403 := eq_true p403
         replace q403 := eq_true q403
         have ea_ := Option.some.inj (hx401_0.symm.trans hx403_0)
         injection ea_ with ea_ en_ ec_
         subst ea_
         subst ec_
         clear en_
         go_wp2_with (first | ((with_reducible refine gate_callee (f := 10) rfl ?_); refine goesL_ (some 61) rfl rfl Try.func10 (by kernel_rfl) rfl #[.slice A401_0 (rd_L10 l1 x9_2).length c401_0] rfl (by (try simp only [List.map_toArray, List.map_cons, List.map_nil]); first | done | rfl | (simp only [List.length_drop, List.length_take]; rfl)) ?_; (with_reducible refine (triglyphref03_Nums.calls k2 _ _ (rd_L10 l1 x9_2) t404 t407 _ ?side1 ?side2 A19.out).mono ?_); (case side1 => exact gC HR403_0 HB); (case side2 => exact HC403_0.out); rintro e w26 ⟨v405, v408, rfl, ho0, ho1, hb⟩; refine ⟨_, rfl, ?_⟩; have HO406 := gA (Kd.R_lower (Kd.R_new' ho0 (Kd.R_lt (gR HO_398000))) (below_size (by repeat first | exact gB HB | refine below_set ?_ GE397.out))); have HO409 := gA (Kd.N_lower (Kd.N_mono (ok' := fun k_ => some k_ ≠ (v405 : Value).ownBlock ∧ some k_ ≠ (.slice Ao13 y394.length co13 : Value).ownBlock ∧ some k_ ≠ (u398001 : Value).ownBlock ∧ k_ ≠ gb397) (Kd.R_N (Kd.R_bound ho1)) (fun k_ hk_ => ⟨hk_.1, (Kd.fresh' (Kd.R_lt (gR HO_398000)) k_ hk_.2.1), (Kd.fresh' (Kd.N_lt (gN HO_398001)) k_ hk_.2.1), (Kd.freshB (gK BK397) k_ hk_.2.1)⟩)) (below_size (by repeat first | exact gB HB | refine below_set ?_ GE397.out))); replace HO_398000 := gA (Kd.R_elder' (gR HO_398000) (Kd.R_base ho0) hb); replace HO_398001 := gA (Kd.N_mono (Kd.N_told (Kd.N_told (Kd.N_old (gN HO_398001) hb) (Kd.R_base ho0)) (by first | exact Kd.N_base ho1 | exact Kd.R_base ho1)) (fun _ h_ => h_.1)); replace BK397 := gA (blk_below (gK BK397) hb); replace HB := gA (below_step (by repeat first | exact gB HB | refine below_set ?_ GE397.out) hb); (try clear hb); (try clear ho0); (try clear ho1)) | ((with_reducible refine gate_dst (N := 10) rfl ?_); (try (refine gate_guard (by rfl) ?_; dsimp only)); refine box_event ?hg (N := 10) ?hd (cs := #[.slice none 0 0, .slice none 0 0]) (t := 25) ?hr ?_; (case hd => rfl); (case hg => rfl); (case hr => first | (go_simp; done) | (go_simp; rfl)); intro gb410 hg w27 hbox hb; replace HO_398000 := gA (Kd.R_below (gR HO_398000) hb); replace HO_398001 := gA (Kd.N_below (Kd.N_elderB (gN HO_398001) gb410 (Nat.le_of_eq hg.symm)) hb); replace HO406 := gA (Kd.R_below (gR HO406) hb); replace HO409 := gA (Kd.N_below (Kd.N_elderB (gN HO409) gb410 (Nat.le_of_eq hg.symm)) hb); have BK410 := gA (hbox); have GW410 := gA ((by rw [hg]; exact (below_size (by repeat first | exact gB HB | refine below_set ?_ GE397.out)) : w.heap.size ≤ gb410)); have GE410 := gA ((by rw [hg]; exact (below_size (by repeat first | exact gB HB | refine below_set ?_ GE397.out)) : w.heap.size ≤ gb410)); replace HB := gA (below_step (by repeat first | exact gB HB | refine below_set ?_ GE397.out) hb); have NB397_410 := gA ((by rw [hg]; exact Nat.ne_of_lt (blk_lt (gK BK397)) : gb397 ≠ gb410)); have NB410_397 := gA ((by rw [hg]; exact Nat.ne_of_gt (blk_lt (gK BK397)) : gb410 ≠ gb397)); replace BK397 := gA (blk_below (gK BK397) hb); clear hb hbox hg; obtain ⟨Ao28, co28, eo28⟩ := Kd.R_slice HO406.out; subst eo28; have hnb29 := NB410_397.out; have hnc29 := NB397_410.out; obtain ⟨hcz30_0, hcz30_1, hfz30_0, hfz30_1⟩ := gz2 BK410; obtain ⟨Ao31, co31, eo31⟩ := Kd.N_slice HO409.out; subst eo31; obtain ⟨hcz32_0, hcz32_1, hfz32_0, hfz32_1⟩ := gz2 BK397) | ((with_reducible refine gate_builtin (b := .append) (xs := #[.tmp 63, .tmp 65]) rfl ?_); (try (refine gate_guard (by rfl) ?_; dsimp only)); at_builtin; refine Kd.N_append_rows k40 (w0 := w) w.heap.size rfl (.tmp 63) (.tmp 65) 23 40 (.agg #[(.int .i64 0), (.int .i64 0), (.slice none 0 0)]) 40 rfl Try.underlying23 info40 rfl (by decide) (by omega) u398001 x398001_2 t407 _ _ _ (fun k_ => some k_ ≠ (.slice Ao13 y394.length co13 : Value).ownBlock ∧ some k_ ≠ (.slice Ao28 t404.length co28 : Value).ownBlock ∧ k_ ≠ gb397 ∧ k_ ≠ gb410) (fun k_ => ((fun k_ => some k_ ≠ (.slice Ao13 y394.length co13 : Value).ownBlock ∧ some k_ ≠ (.slice Ao28 t404.length co28 : Value).ownBlock ∧ k_ ≠ gb397 ∧ k_ ≠ gb410)) k_ ∧ some k_ ≠ (u398001 : Value).ownBlock) rfl rfl ?aO ?aR (fun _ hk => hk) ?aF ?aB ?aS ?aL ?_; (case aR => exact (by skip; exact Kd.N_F (Kd.N_mono (ok' := (fun k_ => ((fun k_ => some k_ ≠ (.slice Ao13 y394.length co13 : Value).ownBlock ∧ some k_ ≠ (.slice Ao28 t404.length co28 : Value).ownBlock ∧ k_ ≠ gb397 ∧ k_ ≠ gb410)) k_ ∧ some k_ ≠ (u398001 : Value).ownBlock)) ((Kd.N_far (p := ⟨gb410, 1, none⟩) (Kd.N_far (p := ⟨gb410, 0, none⟩) (Kd.N_mono HO409.out (fun k_ hk => (⟨hk, hk.2⟩ : _ ∧ k_ ≠ gb410))) (fun _ hk => hk.2) (.slice Ao28 t404.length co28)) (fun _ hk => hk.2) (.slice Ao31 t407.length co31))) (fun k_ hk => ⟨⟨hk.1.1.2.1, ⟨hk.1.1.1, ⟨hk.1.1.2.2.2, hk.1.2⟩⟩⟩, hk.1.1.2.2.1⟩)))); (case aB => exact (by repeat first | exact gB HB | refine below_set ?_ GE397.out | refine below_set ?_ GE410.out)); (case aF => exact (fun k_ hk => ⟨Kd.fresh' (Kd.R_lt (by (with_reducible repeat (first | apply Kd.R_alloc | apply Kd.R_drewN | apply Kd.R_drew)); exact (Kd.R_mono (Kd.R_far (p := ⟨gb410, 1, none⟩) (Kd.R_far (p := ⟨gb410, 0, none⟩) (Kd.R_types HO_398000.out BK410.out (by decide)) (fun _ hk => hk.2) (.slice Ao28 t404.length co28)) (fun _ hk => hk.2) (.slice Ao31 t407.length co31)) (fun _ h_ => h_.1)))) k_ hk, Kd.fresh' (Kd.R_lt (by (with_reducible repeat (first | apply Kd.R_alloc | apply Kd.R_drewN | apply Kd.R_drew)); exact (Kd.R_mono (Kd.R_far (p := ⟨gb410, 1, none⟩) (Kd.R_far (p := ⟨gb410, 0, none⟩) (Kd.R_types HO406.out BK410.out (by decide)) (fun _ hk => hk.2) (.slice Ao28 t404.length co28)) (fun _ hk => hk.2) (.slice Ao31 t407.length co31)) (fun _ h_ => h_.1)))) k_ hk, Kd.freshB (g := gb397) (o := .cells #[.slice Ao13 y394.length co13, u398001] 25 (0, 0)) (by refine blk_far ?_ NB397_410.out _; refine blk_far ?_ NB397_410.out _; exact gK BK397) k_ hk, Kd.freshB (g := gb410) (o := .cells #[.slice Ao28 t404.length co28, .slice Ao31 t407.length co31] 25 (0, 0)) (by refine blk_put (cs := #[.slice Ao28 t404.length co28, .slice none 0 0]) ?_ 1 _ rfl; refine blk_put (cs := #[.slice none 0 0, .slice none 0 0]) ?_ 0 _ rfl; exact gK BK410) k_ hk⟩)); (case aO => exact (Kd.N_mono (Kd.N_far (p := ⟨gb410, 1, none⟩) (Kd.N_far (p := ⟨gb410, 0, none⟩) (Kd.N_mono HO_398001.out (fun k_ hk => (⟨hk, hk.2⟩ : _ ∧ k_ ≠ gb410))) (fun _ hk => hk.2) (.slice Ao28 t404.length co28)) (fun _ hk => hk.2) (.slice Ao31 t407.length co31)) (fun _ hk => by first | exact ⟨hk.1.1.1.1.1, ⟨hk.1.1.1.2, ⟨hk.1.1.1.1.2, hk.1.2⟩⟩⟩ | (simp_all; done)))); (case aS => exact (below_size (by repeat first | exact gB HB | refine below_set ?_ GE397.out | refine below_set ?_ GE410.out))); (case aL => have := LMc20.out; omega); intro v412 w33 ho hb hg hat; rw [← Ny411.out] at ho; replace HO_398000 := gA (Kd.R_over' (by (with_reducible repeat (first | apply Kd.R_alloc | apply Kd.R_drewN | apply Kd.R_drew)); exact (Kd.R_mono (Kd.R_far (p := ⟨gb410, 1, none⟩) (Kd.R_far (p := ⟨gb410, 0, none⟩) (Kd.R_types HO_398000.out BK410.out (by decide)) (fun _ hk => hk.2) (.slice Ao28 t404.length co28)) (fun _ hk => hk.2) (.slice Ao31 t407.length co31)) (fun _ h_ => h_.1))) (Kd.N_typed (by (with_reducible repeat (first | apply Kd.N_alloc | apply Kd.N_drewN | apply Kd.N_drew)); exact (Kd.N_mono (Kd.N_far (p := ⟨gb410, 1, none⟩) (Kd.N_far (p := ⟨gb410, 0, none⟩) (Kd.N_mono HO_398001.out (fun k_ hk => (⟨hk, hk.2⟩ : _ ∧ k_ ≠ gb410))) (fun _ hk => hk.2) (.slice Ao28 t404.length co28)) (fun _ hk => hk.2) (.slice Ao31 t407.length co31)) (fun _ h_ => h_.1)))) (by decide) hg); replace BK397 := gA (blk_grown (g := gb397) (o := .cells #[.slice Ao13 y394.length co13, u398001] 25 (0, 0)) (by refine blk_far ?_ NB397_410.out _; refine blk_far ?_ NB397_410.out _; exact gK BK397) hg (Kd.N_ne HO_398001.out BK397.out (by decide))); replace HO406 := gA (Kd.R_over' (by (with_reducible repeat (first | apply Kd.R_alloc | apply Kd.R_drewN | apply Kd.R_drew)); exact (Kd.R_mono (Kd.R_far (p := ⟨gb410, 1, none⟩) (Kd.R_far (p := ⟨gb410, 0, none⟩) (Kd.R_types HO406.out BK410.out (by decide)) (fun _ hk => hk.2) (.slice Ao28 t404.length co28)) (fun _ hk => hk.2) (.slice Ao31 t407.length co31)) (fun _ h_ => h_.1))) (Kd.N_typed (by (with_reducible repeat (first | apply Kd.N_alloc | apply Kd.N_drewN | apply Kd.N_drew)); exact (Kd.N_mono (Kd.N_far (p := ⟨gb410, 1, none⟩) (Kd.N_far (p := ⟨gb410, 0, none⟩) (Kd.N_mono HO_398001.out (fun k_ hk => (⟨hk, hk.2⟩ : _ ∧ k_ ≠ gb410))) (fun _ hk => hk.2) (.slice Ao28 t404.length co28)) (fun _ hk => hk.2) (.slice Ao31 t407.length co31)) (fun _ h_ => h_.1)))) (by decide) hg); replace HO409 := gA (Kd.N_afterv (ok := (fun k_ => some k_ ≠ (.slice Ao13 y394.length co13 : Value).ownBlock ∧ some k_ ≠ (.slice Ao28 t404.length co28 : Value).ownBlock ∧ k_ ≠ gb397 ∧ k_ ≠ gb410)) (Kd.N_mono (Kd.N_far (p := ⟨gb410, 1, none⟩) (Kd.N_far (p := ⟨gb410, 0, none⟩) (Kd.N_mono HO409.out (fun k_ hk => (⟨hk, hk.2⟩ : _ ∧ k_ ≠ gb410))) (fun _ hk => hk.2) (.slice Ao28 t404.length co28)) (fun _ hk => hk.2) (.slice Ao31 t407.length co31)) (fun _ hk => ⟨⟨hk.1.1.2.1, ⟨hk.1.1.1, ⟨hk.1.1.2.2.2, hk.1.2⟩⟩⟩, hk.1.1.2.2.1⟩)) hg hat); replace BK410 := gA (blk_grown (g := gb410) (o := .cells #[.slice Ao28 t404.length co28, .slice Ao31 t407.length co31] 25 (0, 0)) (by refine blk_put (cs := #[.slice Ao28 t404.length co28, .slice none 0 0]) ?_ 1 _ rfl; refine blk_put (cs := #[.slice none 0 0, .slice none 0 0]) ?_ 0 _ rfl; exact gK BK410) hg (Kd.N_ne HO_398001.out BK410.out (by decide))); replace HB := gA (hb); have HO413 := gA (ho); clear HO_398001 ho hb hg hat; obtain ⟨Ao34, co34, eo34⟩ := Kd.N_slice HO413.out; subst eo34; obtain ⟨hcz35_0, hcz35_1, hfz35_0, hfz35_1⟩ := gz2 BK397; obtain ⟨hcz36_0, hcz36_1, hfz36_0, hfz36_1⟩ := gz2 BK410) | ((with_reducible refine gate_callee (f := 8) rfl ?_); refine goesL_ (some 71) rfl rfl Try.func8 (by kernel_rfl) rfl #[.int .i64 (Int.tmod (wrap64 (a0)) 3), .agg #[.slice Ao28 t404.length co28, .slice Ao31 t407.length co31]] rfl (by (try simp only [List.map_toArray, List.map_cons, List.map_nil]); first | done | rfl | (simp only [List.length_drop, List.length_take]; rfl)) ?_; (with_reducible refine (show_Show.calls k2 (Int.tmod (wrap64 (a0)) 3) _ _ t404 _ _ t407 t414 t415 _ ?side1 ?side2 ?side3 ?side4 A21.out).mono ?_); (case side1 => refine (Kd.R_reads' (e := 3) (base := w.heap.size) (ok := fun k_ => (True ∧ some k_ ≠ (.slice Ao13 y394.length co13 : Value).ownBlock)) (n := t404.length) (c := co28) ?_).2.2; exact (by (with_reducible repeat (first | apply Kd.R_alloc | apply Kd.R_drewN | apply Kd.R_drew)); exact (Kd.R_mono (Kd.R_far (p := ⟨gb397, 1, none⟩) (Kd.R_types HO406.out BK397.out (by decide)) (fun _ hk => hk.2) (.slice Ao34 y411.length co34)) (fun _ h_ => h_.1)))); (case side2 => exact (Kd.R_reads' HO406.out).2.1); (case side3 => refine (Kd.N_reads' (e := 40) (base := w.heap.size) (ok := fun k_ => ((some k_ ≠ (.slice Ao13 y394.length co13 : Value).ownBlock ∧ (some k_ ≠ (.slice Ao28 t404.length co28 : Value).ownBlock ∧ (k_ ≠ gb397 ∧ k_ ≠ gb410))) ∧ some k_ ≠ (.slice Ao34 y411.length co34 : Value).ownBlock)) (n := t407.length) (c := co31) ?_).2.2; exact (by (with_reducible repeat (first | apply Kd.N_alloc | apply Kd.N_drewN | apply Kd.N_drew)); exact (Kd.N_mono (Kd.N_far (p := ⟨gb397, 1, none⟩) (Kd.N_mono HO409.out (fun k_ hk => (⟨hk, hk.1.2.2.1⟩ : _ ∧ k_ ≠ gb397))) (fun _ hk => hk.2) (.slice Ao34 y411.length co34)) (fun _ h_ => h_.1)))); (case side4 => exact (Kd.N_reads' HO409.out).2.1); rintro e w37 ⟨rfl, hb⟩; refine ⟨_, rfl, ?_⟩; replace HO_398000 := gA (Kd.R_below (by (with_reducible repeat (first | apply Kd.R_alloc | apply Kd.R_drewN | apply Kd.R_drew)); exact (Kd.R_mono (Kd.R_far (p := ⟨gb397, 1, none⟩) (Kd.R_types HO_398000.out BK397.out (by decide)) (fun _ hk => hk.2) (.slice Ao34 y411.length co34)) (fun _ h_ => h_.1))) hb); replace HO406 := gA (Kd.R_below (by (with_reducible repeat (first | apply Kd.R_alloc | apply Kd.R_drewN | apply Kd.R_drew)); exact (Kd.R_mono (Kd.R_far (p := ⟨gb397, 1, none⟩) (Kd.R_types HO406.out BK397.out (by decide)) (fun _ hk => hk.2) (.slice Ao34 y411.length co34)) (fun _ h_ => h_.1))) hb); replace HO409 := gA (Kd.N_below (by (with_reducible repeat (first | apply Kd.N_alloc | apply Kd.N_drewN | apply Kd.N_drew)); exact (Kd.N_mono (Kd.N_far (p := ⟨gb397, 1, none⟩) (Kd.N_mono HO409.out (fun k_ hk => (⟨hk, hk.1.2.2.1⟩ : _ ∧ k_ ≠ gb397))) (fun _ hk => hk.2) (.slice Ao34 y411.length co34)) (fun _ h_ => h_.1))) hb); replace HO413 := gA (Kd.N_below (by (with_reducible repeat (first | apply Kd.N_alloc | apply Kd.N_drewN | apply Kd.N_drew)); exact (Kd.N_mono (Kd.N_far (p := ⟨gb397, 1, none⟩) (Kd.N_mono HO413.out (fun k_ hk => (⟨hk, hk.2.2.1⟩ : _ ∧ k_ ≠ gb397))) (fun _ hk => hk.2) (.slice Ao34 y411.length co34)) (fun _ h_ => h_.1))) hb); replace BK397 := gA (blk_below (g := gb397) (o := .cells #[.slice Ao13 y394.length co13, .slice Ao34 y411.length co34] 25 (0, 0)) (by refine blk_put (cs := #[.slice Ao13 y394.length co13, u398001]) ?_ 1 _ rfl; exact gK BK397) hb); replace BK410 := gA (blk_below (g := gb410) (o := .cells #[.slice Ao28 t404.length co28, .slice Ao31 t407.length co31] 25 (0, 0)) (by refine blk_far ?_ NB410_397.out _; exact gK BK410) hb); replace HB := gA (below_step (by repeat first | exact gB HB | refine below_set ?_ GE397.out | refine below_set ?_ GE410.out) hb); (try clear hb); (try clear hk)))
         go_roundg k2
         case measure => have := HJ2.out; have := HK2.out; omega
         case rel => exact ⟨((x8_2 ++ (⟨#[10]⟩ : ByteArray)) ++ t414), (wrap64 (x9_2 + 1)), (y411), (.slice Ao34 y411.length co34), (rfl), (rfl), H', ⟨by have := HJ2.out; have := HK2.out; omega⟩, ⟨Kd.R_mono HO_398000.out (fun _ hk => trivial)⟩, ⟨Kd.N_mono HO413.out (fun _ hk => ⟨hk.1, hk.2.2.1⟩)⟩, ⟨gK BK397⟩, ⟨gB HB⟩⟩
        ·rw [if_neg c23] at H
         have c23b0 : decide (0 < x9_2) = false := decide_eq_false c23
         clear c23
         obtain ⟨c38, H⟩ := iS H
         have c38b0 := eq_true c38
         have c38b1 := decide_eq_true c38
         try have c38b2 : (9223372036854775807 < x8_2.size + t414.size) = False := eq_false (Nat.not_lt.2 c38)
         have H' := gA H
         clear H
         have p401 : 0 ≤ (x9_2 : Int) := of_decide_eq_true (by assumption)
         have q401 : x9_2 < (l1.length : Int) := of_decide_eq_true (by assumption)
         obtain ⟨ad401, A401_0, c401_0, e401, hx401_0, hl401_0, hi401_0⟩ := at_L10 HR1.out x9_2 p401 q401
         obtain rfl : ad393 = ad401 := (by injection e401)
         replace hx401_0 := (HB.out.cell (World.block_lt_of_cell? w _ hx401_0)).trans hx401_0
         have HR401_0 := gA hi401_0
         have HC401_0 := gA hl401_0
         clear hi401_0 hl401_0
         replace p401 := eq_true p401
         replace q401 := eq_true q401
         have p403 : 0 ≤ (x9_2 : Int) := of_decide_eq_true (by assumption)
         have q403 : x9_2 < (l1.length : Int) := of_decide_eq_true (by assumption)
         obtain ⟨ad403, A403_0, c403_0, e403, hx403_0, hl403_0, hi403_0⟩ := at_L10 HR1.out x9_2 p403 q403
         obtain rfl : ad393 = ad403 := (by injection e403)
         replace hx403_0 := (HB.out.cell (World.block_lt_of_cell? w _ hx403_0)).trans hx403_0
         have HR403_0 := gA hi403_0
         have HC403_0 := gA hl403_0
         clear hi403_0 hl403_0
         replace p403 := eq_true p403
         replace q403 := eq_true q403
         have ea_ := Option.some.inj (hx401_0.symm.trans hx403_0)
         injection ea_ with ea_ en_ ec_
         subst ea_
         subst ec_
         clear en_
         go_wp2_with (first | ((with_reducible refine gate_callee (f := 10) rfl ?_); refine goesL_ (some 61) rfl rfl Try.func10 (by kernel_rfl) rfl #[.slice A401_0 (rd_L10 l1 x9_2).length c401_0] rfl (by (try simp only [List.map_toArray, List.map_cons, List.map_nil]); first | done | rfl | (simp only [List.length_drop, List.length_take]; rfl)) ?_; (with_reducible refine (triglyphref03_Nums.calls k2 _ _ (rd_L10 l1 x9_2) t404 t407 _ ?side1 ?side2 A19.out).mono ?_); (case side1 => exact gC HR403_0 HB); (case side2 => exact HC403_0.out); rintro e w39 ⟨v405, v408, rfl, ho0, ho1, hb⟩; refine ⟨_, rfl, ?_⟩; have HO406 := gA (Kd.R_lower (Kd.R_new' ho0 (Kd.R_lt (gR HO_398000))) (below_size (by repeat first | exact gB HB | refine below_set ?_ GE397.out))); have HO409 := gA (Kd.N_lower (Kd.N_mono (ok' := fun k_ => some k_ ≠ (v405 : Value).ownBlock ∧ some k_ ≠ (.slice Ao13 y394.length co13 : Value).ownBlock ∧ some k_ ≠ (u398001 : Value).ownBlock ∧ k_ ≠ gb397) (Kd.R_N (Kd.R_bound ho1)) (fun k_ hk_ => ⟨hk_.1, (Kd.fresh' (Kd.R_lt (gR HO_398000)) k_ hk_.2.1), (Kd.fresh' (Kd.N_lt (gN HO_398001)) k_ hk_.2.1), (Kd.freshB (gK BK397) k_ hk_.2.1)⟩)) (below_size (by repeat first | exact gB HB | refine below_set ?_ GE397.out))); replace HO_398000 := gA (Kd.R_elder' (gR HO_398000) (Kd.R_base ho0) hb); replace HO_398001 := gA (Kd.N_mono (Kd.N_told (Kd.N_told (Kd.N_old (gN HO_398001) hb) (Kd.R_base ho0)) (by first | exact Kd.N_base ho1 | exact Kd.R_base ho1)) (fun _ h_ => h_.1)); replace BK397 := gA (blk_below (gK BK397) hb); replace HB := gA (below_step (by repeat first | exact gB HB | refine below_set ?_ GE397.out) hb); (try clear hb); (try clear ho0); (try clear ho1)) | ((with_reducible refine gate_dst (N := 10) rfl ?_); (try (refine gate_guard (by rfl) ?_; dsimp only)); refine box_event ?hg (N := 10) ?hd (cs := #[.slice none 0 0, .slice none 0 0]) (t := 25) ?hr ?_; (case hd => rfl); (case hg => rfl); (case hr => first | (go_simp; done) | (go_simp; rfl)); intro gb410 hg w40 hbox hb; replace HO_398000 := gA (Kd.R_below (gR HO_398000) hb); replace HO_398001 := gA (Kd.N_below (Kd.N_elderB (gN HO_398001) gb410 (Nat.le_of_eq hg.symm)) hb); replace HO406 := gA (Kd.R_below (gR HO406) hb); replace HO409 := gA (Kd.N_below (Kd.N_elderB (gN HO409) gb410 (Nat.le_of_eq hg.symm)) hb); have BK410 := gA (hbox); have GW410 := gA ((by rw [hg]; exact (below_size (by repeat first | exact gB HB | refine below_set ?_ GE397.out)) : w.heap.size ≤ gb410)); have GE410 := gA ((by rw [hg]; exact (below_size (by repeat first | exact gB HB | refine below_set ?_ GE397.out)) : w.heap.size ≤ gb410)); replace HB := gA (below_step (by repeat first | exact gB HB | refine below_set ?_ GE397.out) hb); have NB397_410 := gA ((by rw [hg]; exact Nat.ne_of_lt (blk_lt (gK BK397)) : gb397 ≠ gb410)); have NB410_397 := gA ((by rw [hg]; exact Nat.ne_of_gt (blk_lt (gK BK397)) : gb410 ≠ gb397)); replace BK397 := gA (blk_below (gK BK397) hb); clear hb hbox hg; obtain ⟨Ao41, co41, eo41⟩ := Kd.R_slice HO406.out; subst eo41; have hnb42 := NB410_397.out; have hnc42 := NB397_410.out; obtain ⟨hcz43_0, hcz43_1, hfz43_0, hfz43_1⟩ := gz2 BK410; obtain ⟨Ao44, co44, eo44⟩ := Kd.N_slice HO409.out; subst eo44; obtain ⟨hcz45_0, hcz45_1, hfz45_0, hfz45_1⟩ := gz2 BK397) | ((with_reducible refine gate_builtin (b := .append) (xs := #[.tmp 63, .tmp 65]) rfl ?_); (try (refine gate_guard (by rfl) ?_; dsimp only)); at_builtin; refine Kd.N_append_rows k40 (w0 := w) w.heap.size rfl (.tmp 63) (.tmp 65) 23 40 (.agg #[(.int .i64 0), (.int .i64 0), (.slice none 0 0)]) 40 rfl Try.underlying23 info40 rfl (by decide) (by omega) u398001 x398001_2 t407 _ _ _ (fun k_ => some k_ ≠ (.slice Ao13 y394.length co13 : Value).ownBlock ∧ some k_ ≠ (.slice Ao41 t404.length co41 : Value).ownBlock ∧ k_ ≠ gb397 ∧ k_ ≠ gb410) (fun k_ => ((fun k_ => some k_ ≠ (.slice Ao13 y394.length co13 : Value).ownBlock ∧ some k_ ≠ (.slice Ao41 t404.length co41 : Value).ownBlock ∧ k_ ≠ gb397 ∧ k_ ≠ gb410)) k_ ∧ some k_ ≠ (u398001 : Value).ownBlock) rfl rfl ?aO ?aR (fun _ hk => hk) ?aF ?aB ?aS ?aL ?_; (case aR => exact (by skip; exact Kd.N_F (Kd.N_mono (ok' := (fun k_ => ((fun k_ => some k_ ≠ (.slice Ao13 y394.length co13 : Value).ownBlock ∧ some k_ ≠ (.slice Ao41 t404.length co41 : Value).ownBlock ∧ k_ ≠ gb397 ∧ k_ ≠ gb410)) k_ ∧ some k_ ≠ (u398001 : Value).ownBlock)) ((Kd.N_far (p := ⟨gb410, 1, none⟩) (Kd.N_far (p := ⟨gb410, 0, none⟩) (Kd.N_mono HO409.out (fun k_ hk => (⟨hk, hk.2⟩ : _ ∧ k_ ≠ gb410))) (fun _ hk => hk.2) (.slice Ao41 t404.length co41)) (fun _ hk => hk.2) (.slice Ao44 t407.length co44))) (fun k_ hk => ⟨⟨hk.1.1.2.1, ⟨hk.1.1.1, ⟨hk.1.1.2.2.2, hk.1.2⟩⟩⟩, hk.1.1.2.2.1⟩)))); (case aB => exact (by repeat first | exact gB HB | refine below_set ?_ GE397.out | refine below_set ?_ GE410.out)); (case aF => exact (fun k_ hk => ⟨Kd.fresh' (Kd.R_lt (by (with_reducible repeat (first | apply Kd.R_alloc | apply Kd.R_drewN | apply Kd.R_drew)); exact (Kd.R_mono (Kd.R_far (p := ⟨gb410, 1, none⟩) (Kd.R_far (p := ⟨gb410, 0, none⟩) (Kd.R_types HO_398000.out BK410.out (by decide)) (fun _ hk => hk.2) (.slice Ao41 t404.length co41)) (fun _ hk => hk.2) (.slice Ao44 t407.length co44)) (fun _ h_ => h_.1)))) k_ hk, Kd.fresh' (Kd.R_lt (by (with_reducible repeat (first | apply Kd.R_alloc | apply Kd.R_drewN | apply Kd.R_drew)); exact (Kd.R_mono (Kd.R_far (p := ⟨gb410, 1, none⟩) (Kd.R_far (p := ⟨gb410, 0, none⟩) (Kd.R_types HO406.out BK410.out (by decide)) (fun _ hk => hk.2) (.slice Ao41 t404.length co41)) (fun _ hk => hk.2) (.slice Ao44 t407.length co44)) (fun _ h_ => h_.1)))) k_ hk, Kd.freshB (g := gb397) (o := .cells #[.slice Ao13 y394.length co13, u398001] 25 (0, 0)) (by refine blk_far ?_ NB397_410.out _; refine blk_far ?_ NB397_410.out _; exact gK BK397) k_ hk, Kd.freshB (g := gb410) (o := .cells #[.slice Ao41 t404.length co41, .slice Ao44 t407.length co44] 25 (0, 0)) (by refine blk_put (cs := #[.slice Ao41 t404.length co41, .slice none 0 0]) ?_ 1 _ rfl; refine blk_put (cs := #[.slice none 0 0, .slice none 0 0]) ?_ 0 _ rfl; exact gK BK410) k_ hk⟩)); (case aO => exact (Kd.N_mono (Kd.N_far (p := ⟨gb410, 1, none⟩) (Kd.N_far (p := ⟨gb410, 0, none⟩) (Kd.N_mono HO_398001.out (fun k_ hk => (⟨hk, hk.2⟩ : _ ∧ k_ ≠ gb410))) (fun _ hk => hk.2) (.slice Ao41 t404.length co41)) (fun _ hk => hk.2) (.slice Ao44 t407.length co44)) (fun _ hk => by first | exact ⟨hk.1.1.1.1.1, ⟨hk.1.1.1.2, ⟨hk.1.1.1.1.2, hk.1.2⟩⟩⟩ | (simp_all; done)))); (case aS => exact (below_size (by repeat first | exact gB HB | refine below_set ?_ GE397.out | refine below_set ?_ GE410.out))); (case aL => have := LMc20.out; omega); intro v412 w46 ho hb hg hat; rw [← Ny411.out] at ho; replace HO_398000 := gA (Kd.R_over' (by (with_reducible repeat (first | apply Kd.R_alloc | apply Kd.R_drewN | apply Kd.R_drew)); exact (Kd.R_mono (Kd.R_far (p := ⟨gb410, 1, none⟩) (Kd.R_far (p := ⟨gb410, 0, none⟩) (Kd.R_types HO_398000.out BK410.out (by decide)) (fun _ hk => hk.2) (.slice Ao41 t404.length co41)) (fun _ hk => hk.2) (.slice Ao44 t407.length co44)) (fun _ h_ => h_.1))) (Kd.N_typed (by (with_reducible repeat (first | apply Kd.N_alloc | apply Kd.N_drewN | apply Kd.N_drew)); exact (Kd.N_mono (Kd.N_far (p := ⟨gb410, 1, none⟩) (Kd.N_far (p := ⟨gb410, 0, none⟩) (Kd.N_mono HO_398001.out (fun k_ hk => (⟨hk, hk.2⟩ : _ ∧ k_ ≠ gb410))) (fun _ hk => hk.2) (.slice Ao41 t404.length co41)) (fun _ hk => hk.2) (.slice Ao44 t407.length co44)) (fun _ h_ => h_.1)))) (by decide) hg); replace BK397 := gA (blk_grown (g := gb397) (o := .cells #[.slice Ao13 y394.length co13, u398001] 25 (0, 0)) (by refine blk_far ?_ NB397_410.out _; refine blk_far ?_ NB397_410.out _; exact gK BK397) hg (Kd.N_ne HO_398001.out BK397.out (by decide))); replace HO406 := gA (Kd.R_over' (by (with_reducible repeat (first | apply Kd.R_alloc | apply Kd.R_drewN | apply Kd.R_drew)); exact (Kd.R_mono (Kd.R_far (p := ⟨gb410, 1, none⟩) (Kd.R_far (p := ⟨gb410, 0, none⟩) (Kd.R_types HO406.out BK410.out (by decide)) (fun _ hk => hk.2) (.slice Ao41 t404.length co41)) (fun _ hk => hk.2) (.slice Ao44 t407.length co44)) (fun _ h_ => h_.1))) (Kd.N_typed (by (with_reducible repeat (first | apply Kd.N_alloc | apply Kd.N_drewN | apply Kd.N_drew)); exact (Kd.N_mono (Kd.N_far (p := ⟨gb410, 1, none⟩) (Kd.N_far (p := ⟨gb410, 0, none⟩) (Kd.N_mono HO_398001.out (fun k_ hk => (⟨hk, hk.2⟩ : _ ∧ k_ ≠ gb410))) (fun _ hk => hk.2) (.slice Ao41 t404.length co41)) (fun _ hk => hk.2) (.slice Ao44 t407.length co44)) (fun _ h_ => h_.1)))) (by decide) hg); replace HO409 := gA (Kd.N_afterv (ok := (fun k_ => some k_ ≠ (.slice Ao13 y394.length co13 : Value).ownBlock ∧ some k_ ≠ (.slice Ao41 t404.length co41 : Value).ownBlock ∧ k_ ≠ gb397 ∧ k_ ≠ gb410)) (Kd.N_mono (Kd.N_far (p := ⟨gb410, 1, none⟩) (Kd.N_far (p := ⟨gb410, 0, none⟩) (Kd.N_mono HO409.out (fun k_ hk => (⟨hk, hk.2⟩ : _ ∧ k_ ≠ gb410))) (fun _ hk => hk.2) (.slice Ao41 t404.length co41)) (fun _ hk => hk.2) (.slice Ao44 t407.length co44)) (fun _ hk => ⟨⟨hk.1.1.2.1, ⟨hk.1.1.1, ⟨hk.1.1.2.2.2, hk.1.2⟩⟩⟩, hk.1.1.2.2.1⟩)) hg hat); replace BK410 := gA (blk_grown (g := gb410) (o := .cells #[.slice Ao41 t404.length co41, .slice Ao44 t407.length co44] 25 (0, 0)) (by refine blk_put (cs := #[.slice Ao41 t404.length co41, .slice none 0 0]) ?_ 1 _ rfl; refine blk_put (cs := #[.slice none 0 0, .slice none 0 0]) ?_ 0 _ rfl; exact gK BK410) hg (Kd.N_ne HO_398001.out BK410.out (by decide))); replace HB := gA (hb); have HO413 := gA (ho); clear HO_398001 ho hb hg hat; obtain ⟨Ao47, co47, eo47⟩ := Kd.N_slice HO413.out; subst eo47; obtain ⟨hcz48_0, hcz48_1, hfz48_0, hfz48_1⟩ := gz2 BK397; obtain ⟨hcz49_0, hcz49_1, hfz49_0, hfz49_1⟩ := gz2 BK410) | ((with_reducible refine gate_callee (f := 8) rfl ?_); refine goesL_ (some 71) rfl rfl Try.func8 (by kernel_rfl) rfl #[.int .i64 (Int.tmod (wrap64 (a0)) 3), .agg #[.slice Ao41 t404.length co41, .slice Ao44 t407.length co44]] rfl (by (try simp only [List.map_toArray, List.map_cons, List.map_nil]); first | done | rfl | (simp only [List.length_drop, List.length_take]; rfl)) ?_; (with_reducible refine (show_Show.calls k2 (Int.tmod (wrap64 (a0)) 3) _ _ t404 _ _ t407 t414 t415 _ ?side1 ?side2 ?side3 ?side4 A21.out).mono ?_); (case side1 => refine (Kd.R_reads' (e := 3) (base := w.heap.size) (ok := fun k_ => (True ∧ some k_ ≠ (.slice Ao13 y394.length co13 : Value).ownBlock)) (n := t404.length) (c := co41) ?_).2.2; exact (by (with_reducible repeat (first | apply Kd.R_alloc | apply Kd.R_drewN | apply Kd.R_drew)); exact (Kd.R_mono (Kd.R_far (p := ⟨gb397, 1, none⟩) (Kd.R_types HO406.out BK397.out (by decide)) (fun _ hk => hk.2) (.slice Ao47 y411.length co47)) (fun _ h_ => h_.1)))); (case side2 => exact (Kd.R_reads' HO406.out).2.1); (case side3 => refine (Kd.N_reads' (e := 40) (base := w.heap.size) (ok := fun k_ => ((some k_ ≠ (.slice Ao13 y394.length co13 : Value).ownBlock ∧ (some k_ ≠ (.slice Ao41 t404.length co41 : Value).ownBlock ∧ (k_ ≠ gb397 ∧ k_ ≠ gb410))) ∧ some k_ ≠ (.slice Ao47 y411.length co47 : Value).ownBlock)) (n := t407.length) (c := co44) ?_).2.2; exact (by (with_reducible repeat (first | apply Kd.N_alloc | apply Kd.N_drewN | apply Kd.N_drew)); exact (Kd.N_mono (Kd.N_far (p := ⟨gb397, 1, none⟩) (Kd.N_mono HO409.out (fun k_ hk => (⟨hk, hk.1.2.2.1⟩ : _ ∧ k_ ≠ gb397))) (fun _ hk => hk.2) (.slice Ao47 y411.length co47)) (fun _ h_ => h_.1)))); (case side4 => exact (Kd.N_reads' HO409.out).2.1); rintro e w50 ⟨rfl, hb⟩; refine ⟨_, rfl, ?_⟩; replace HO_398000 := gA (Kd.R_below (by (with_reducible repeat (first | apply Kd.R_alloc | apply Kd.R_drewN | apply Kd.R_drew)); exact (Kd.R_mono (Kd.R_far (p := ⟨gb397, 1, none⟩) (Kd.R_types HO_398000.out BK397.out (by decide)) (fun _ hk => hk.2) (.slice Ao47 y411.length co47)) (fun _ h_ => h_.1))) hb); replace HO406 := gA (Kd.R_below (by (with_reducible repeat (first | apply Kd.R_alloc | apply Kd.R_drewN | apply Kd.R_drew)); exact (Kd.R_mono (Kd.R_far (p := ⟨gb397, 1, none⟩) (Kd.R_types HO406.out BK397.out (by decide)) (fun _ hk => hk.2) (.slice Ao47 y411.length co47)) (fun _ h_ => h_.1))) hb); replace HO409 := gA (Kd.N_below (by (with_reducible repeat (first | apply Kd.N_alloc | apply Kd.N_drewN | apply Kd.N_drew)); exact (Kd.N_mono (Kd.N_far (p := ⟨gb397, 1, none⟩) (Kd.N_mono HO409.out (fun k_ hk => (⟨hk, hk.1.2.2.1⟩ : _ ∧ k_ ≠ gb397))) (fun _ hk => hk.2) (.slice Ao47 y411.length co47)) (fun _ h_ => h_.1))) hb); replace HO413 := gA (Kd.N_below (by (with_reducible repeat (first | apply Kd.N_alloc | apply Kd.N_drewN | apply Kd.N_drew)); exact (Kd.N_mono (Kd.N_far (p := ⟨gb397, 1, none⟩) (Kd.N_mono HO413.out (fun k_ hk => (⟨hk, hk.2.2.1⟩ : _ ∧ k_ ≠ gb397))) (fun _ hk => hk.2) (.slice Ao47 y411.length co47)) (fun _ h_ => h_.1))) hb); replace BK397 := gA (blk_below (g := gb397) (o := .cells #[.slice Ao13 y394.length co13, .slice Ao47 y411.length co47] 25 (0, 0)) (by refine blk_put (cs := #[.slice Ao13 y394.length co13, u398001]) ?_ 1 _ rfl; exact gK BK397) hb); replace BK410 := gA (blk_below (g := gb410) (o := .cells #[.slice Ao41 t404.length co41, .slice Ao44 t407.length co44] 25 (0, 0)) (by refine blk_far ?_ NB410_397.out _; exact gK BK410) hb); replace HB := gA (below_step (by repeat first | exact gB HB | refine below_set ?_ GE397.out | refine below_set ?_ GE410.out) hb); (try clear hb); (try clear hk)))
         go_roundg k2
         case measure => have := HJ2.out; have := HK2.out; omega
         case rel => exact ⟨(x8_2 ++ t414), (wrap64 (x9_2 + 1)), (y411), (.slice Ao47 y411.length co47), (rfl), (rfl), H', ⟨by have := HJ2.out; have := HK2.out; omega⟩, ⟨Kd.R_mono HO_398000.out (fun _ hk => trivial)⟩, ⟨Kd.N_mono HO413.out (fun _ hk => ⟨hk.1, hk.2.2.1⟩)⟩, ⟨gK BK397⟩, ⟨gB HB⟩⟩
       ·rw [if_neg c18] at H
        have c18b0 : (((rd_L10 l1 x9_2).length : Int) == ((rd_L10 l1 0).length : Int)) = false := beq_eq_false_iff_ne.mpr c18
        have c18b1 : (((rd_L10 l1 x9_2).length : Int) != ((rd_L10 l1 0).length : Int)) = true := bne_iff_ne.mpr c18
        have c18b2 : ((rd_L10 l1 x9_2).length == (rd_L10 l1 0).length) = false := by first | simpa using c18 | (simp at c18 ⊢; omega)
        replace H := Option.bind_eq_some_iff.mp H
        obtain ⟨t402, A510, H⟩ := H
        replace H : (some t402) = some r := H
        have A51 := gA A510
        clear A510
        obtain rfl := Option.some.inj H
        have p401 : 0 ≤ (x9_2 : Int) := of_decide_eq_true (by assumption)
        have q401 : x9_2 < (l1.length : Int) := of_decide_eq_true (by assumption)
        obtain ⟨ad401, A401_0, c401_0, e401, hx401_0, hl401_0, hi401_0⟩ := at_L10 HR1.out x9_2 p401 q401
        obtain rfl : ad393 = ad401 := (by injection e401)
        replace hx401_0 := (HB.out.cell (World.block_lt_of_cell? w _ hx401_0)).trans hx401_0
        have HR401_0 := gA hi401_0
        have HC401_0 := gA hl401_0
        clear hi401_0 hl401_0
        replace p401 := eq_true p401
        replace q401 := eq_true q401
        go_wp2_with (first | ((with_reducible refine gate_callee (f := 7) rfl ?_); refine goesL_ (some 56) rfl rfl Try.func7 (by kernel_rfl) rfl #[] rfl (by (try simp only [List.map_toArray, List.map_cons, List.map_nil]); first | done | rfl | (simp only [List.length_drop, List.length_take]; rfl)) ?_; (with_reducible refine (triglyphlaw27_works.calls k2  t402 _ A51.out).mono ?_); rintro e w52 ⟨rfl, hb⟩; refine ⟨_, rfl, ?_⟩; replace HO_398000 := gA (Kd.R_below (gR HO_398000) hb); replace HO_398001 := gA (Kd.N_below (gN HO_398001) hb); replace BK397 := gA (blk_below (gK BK397) hb); replace HB := gA (below_step (gB HB) hb); (try clear hb)))
        go_ret
        exact ⟨rfl, by repeat first | exact gB HB | refine below_set ?_ GE397.out⟩
      ·rw [if_neg c16] at H
       have c16b0 := decide_eq_false c16
       clear c16
       replace H := Option.bind_eq_some_iff.mp H
       obtain ⟨⟨t398, t399⟩, A530, H⟩ := H
       replace H : (if t399 = 0 then (if t398.toList = x8_2.toList then ((triglyphlaw27_works.f k2).bind fun t400 => (some t400)) else (none)) else (none)) = some r := H
       have A53 := gA A530
       clear A530
       obtain ⟨c54, H⟩ := iS H
       have c54b0 : (t399 == 0) = true := beq_iff_eq.mpr c54
       have c54b1 : (t399 != 0) = false := bne_eq_false_iff_eq.mpr c54
       clear c54
       obtain ⟨c55, H⟩ := iS H
       have c55b0 : (t398.toList == x8_2.toList) = true := beq_iff_eq.mpr c55
       have c55b1 : (t398.toList != x8_2.toList) = false := bne_eq_false_iff_eq.mpr c55
       clear c55
       replace H := Option.bind_eq_some_iff.mp H
       obtain ⟨t400, A560, H⟩ := H
       replace H : (some t400) = some r := H
       have A56 := gA A560
       clear A560
       obtain rfl := Option.some.inj H
       obtain ⟨hcz57_0, hcz57_1, hfz57_0, hfz57_1⟩ := gz2 BK397
       obtain ⟨Ao58, co58, eo58⟩ := Kd.N_slice HO_398001.out
       subst eo58
       go_wp2_with (first | ((with_reducible refine gate_callee (f := 8) rfl ?_); refine goesL_ (some 86) rfl rfl Try.func8 (by kernel_rfl) rfl #[.int .i64 (Int.tmod (wrap64 (a0)) 3), .agg #[.slice Ao13 y394.length co13, .slice Ao58 x398001_2.length co58]] rfl (by (try simp only [List.map_toArray, List.map_cons, List.map_nil]); first | done | rfl | (simp only [List.length_drop, List.length_take]; rfl)) ?_; (with_reducible refine (show_Show.calls k2 (Int.tmod (wrap64 (a0)) 3) _ _ y394 _ _ x398001_2 t398 t399 _ ?side1 ?side2 ?side3 ?side4 A53.out).mono ?_); (case side1 => repeat (first | exact (Kd.R_reads' HO_398000.out).2.2 | (with_reducible refine Kd.C_alloc ?_ _) | (with_reducible refine Kd.C_drewN ?_ _) | (with_reducible refine Kd.C_drew ?_))); (case side2 => exact (Kd.R_reads' HO_398000.out).2.1); (case side3 => repeat (first | exact (Kd.N_reads' HO_398001.out).2.2 | (with_reducible refine Kd.C_alloc ?_ _) | (with_reducible refine Kd.C_drewN ?_ _) | (with_reducible refine Kd.C_drew ?_))); (case side4 => exact (Kd.N_reads' HO_398001.out).2.1); rintro e w59 ⟨rfl, hb⟩; refine ⟨_, rfl, ?_⟩; replace HO_398000 := gA (Kd.R_below (gR HO_398000) hb); replace HO_398001 := gA (Kd.N_below (gN HO_398001) hb); replace BK397 := gA (blk_below (gK BK397) hb); replace HB := gA (below_step (gB HB) hb); (try clear hb)) | (go_at_call 7; (with_reducible refine (triglyphlaw27_works.calls k2  t400 _ A56.out).mono ?_); rintro e w60 ⟨rfl, hb⟩; replace HO_398000 := gA (Kd.R_below (gR HO_398000) hb); replace HO_398001 := gA (Kd.N_below (gN HO_398001) hb); replace BK397 := gA (blk_below (gK BK397) hb); replace HB := gA (below_step (gB HB) hb); (try clear hb)))
       go_ret
       exact ⟨rfl, by repeat first | exact gB HB | refine below_set ?_ GE397.out⟩
end Go.Proofs.Ytbijepjnbolpiaa.P
