/- Written by a program of this session: the functions that the laws reach, what each comes to, and each law as it is stated, for every input. No condition. -/
import Derived.Test.YtiegcghapchimaaPx0
namespace Go.Proofs.Ytiegcghapchimaa.P
open Go.RowKit Go.Proofs.YtiegcghapchimaaW.PrintWords Go.Proofs.YtiegcghapchimaaW.PrintLast Go.Proofs.YtiegcghapchimaaW.PrintMore
attribute [local go_sem] max2_int min2_int max_two min_two max_three min_three max_four min_four   -- for this text's walks alone
set_option linter.unusedVariables false
set_option linter.unusedSimpArgs false
mutual
def arr_Deep.l0 : Nat → Int → List (S39) → Int → Int → Option (Int)
 | 0, _, _, _, _ => none
 | k + 1, x3, x7, x8, x9 => if x9 < x8 then (if 0 ≤ x9 then (if x9 < (x7.length : Int) then (if (((rd_T39 x7 x9).f2).length : Int) > 0 then (if 0 < (((rd_T39 x7 x9).f2).length : Int) then ((arr_Deep.f k ((rd_T25 ((rd_T39 x7 x9).f2) 0).f0) ((rd_T25 ((rd_T39 x7 x9).f2) 0).f1)).bind fun t245 => (arr_Deep.l0 k (mx x3 (wrap64 (1 + t245))) x7 x8 (wrap64 (x9 + 1)))) else (none)) else (arr_Deep.l0 k x3 x7 x8 (wrap64 (x9 + 1)))) else (none)) else (none)) else (some x3)
def arr_Deep.f : Nat → List Int → List (S39) → Option (Int)
 | 0, _, _ => none
 | k + 1, l0_0, l0_1 => arr_Deep.l0 k 0 l0_1 (l0_1.length : Int) 0
end
theorem arr_Deep.mono_l : ∀ k, (∀ y0 y1, LeO (arr_Deep.f k y0 y1) (arr_Deep.f (k + 1) y0 y1)) ∧ (∀ y0 y1 y2 y3, LeO (arr_Deep.l0 k y0 y1 y2 y3) (arr_Deep.l0 (k + 1) y0 y1 y2 y3))
 | 0 => ⟨fun _ _ r h => by simp [arr_Deep.f] at h, fun _ _ _ _ r h => by simp [arr_Deep.l0] at h⟩
 | k + 1 => by
  obtain ⟨ih0, ih1⟩ := arr_Deep.mono_l k
  refine ⟨?_, ?_⟩
  ·intro y0 y1
   unfold arr_Deep.f
   repeat' first
   | (with_reducible exact ih0 _ _)
   | (with_reducible exact ih1 _ _ _ _)
   | (with_reducible exact LeO.refl _)
   | (with_reducible exact LeO.none _)
   | (with_reducible refine LeO.ite ?_ ?_)
   | (with_reducible refine LeO.bind ?_ (fun _ => ?_))





  ·intro y0 y1 y2 y3
   unfold arr_Deep.l0
   repeat' first
   | (with_reducible exact ih0 _ _)
   | (with_reducible exact ih1 _ _ _ _)
   | (with_reducible exact LeO.refl _)
   | (with_reducible exact LeO.none _)
   | (with_reducible refine LeO.ite ?_ ?_)
   | (with_reducible refine LeO.bind ?_ (fun _ => ?_))
theorem arr_Deep.mono : ∀ a0 a1 k, LeO (arr_Deep.f k a0 a1) (arr_Deep.f (k + 1) a0 a1) := by
 intro a0 a1 k
 obtain ⟨ih0, ih1⟩ := arr_Deep.mono_l k
 exact ih0 a0 a1
set_option maxHeartbeats 8000000 in
set_option maxRecDepth 100000 in
theorem arr_Deep.calls (k : Nat) : ∀ (A0_0 : Option Addr) (c0_0 : Nat) (l0_0 : List Int) (A0_1 : Option Addr) (c0_1 : Nat) (l0_1 : List (S39)) (r : Int) (w : World) (hr0_0 : Kd.C (Kd.int .i64) w A0_0 l0_0.length l0_0) (hc0_0 : l0_0.length ≤ c0_0) (hr0_1 : Kd.C k39 w A0_1 l0_1.length l0_1) (hc0_1 : l0_1.length ≤ c0_1) (h : arr_Deep.f k l0_0 l0_1 = some r),
  Calls Try.prog 28 #[.agg #[.slice A0_0 l0_0.length c0_0, .slice A0_1 l0_1.length c0_1]] w fun e w' => e = .returned (.int .i64 r) ∧ Below w.heap.size w w' := by
 induction k using Nat.strongRecOn with
 | _ k ih =>
 intro A0_0 c0_0 l0_0 A0_1 c0_1 l0_1 r w hr0_0 hc0_0 hr0_1 hc0_1 h
 cases k with
 | zero => exact absurd h (by simp [arr_Deep.f])
 | succ k =>
 simp only [arr_Deep.f] at h
 have hu25 := Try.underlying25
 have hu39 := Try.underlying39
 have HR0_0 := gA hr0_0
 have HC0_0 := gA hc0_0
 clear hr0_0 hc0_0
 have HR0_1 := gA hr0_1
 have HC0_1 := gA hc0_1
 clear hr0_1 hc0_1
 have HB := gA (Below.refl w.heap.size w)
 have H : (arr_Deep.l0 k 0 l0_1 (l0_1.length : Int) 0) = some r := h
 clear h
 have H' := gA H
 clear H
 go_enter Try.func28, Try.ntmps28
 go_wp2_with (first | ((with_reducible refine gate_dst (N := 1) rfl ?_); refine box_event ?hg (N := 1) ?hd (cs := #[.slice A0_0 l0_0.length c0_0, .slice A0_1 l0_1.length c0_1]) (t := 25) ?hr ?_; (case hd => rfl); (case hg => rfl); (case hr => first | (go_simp; done) | (go_simp; rfl)); intro gb241 hg w2 hbox hb; have BK241 := gA (hbox); have GW241 := gA ((by rw [hg]; exact (below_size (by repeat (first | (with_reducible first | exact HB.out | apply below_alloc | apply pw_below_drewN | apply below_drew1) | exact HB.out))) : w.heap.size ≤ gb241)); have GE241 := gA ((by rw [hg]; exact (below_size (by repeat (first | (with_reducible first | exact HB.out | apply below_alloc | apply pw_below_drewN | apply below_drew1) | exact HB.out))) : w.heap.size ≤ gb241)); replace HB := gA (below_step (by repeat (first | (with_reducible first | exact HB.out | apply below_alloc | apply pw_below_drewN | apply below_drew1) | exact HB.out)) hb); clear hb hbox hg; obtain ⟨hcz3_0, hcz3_1, hfz3_0, hfz3_1⟩ := gz2 BK241))
 go_loopg [3, 9] k (fun kq v3 v9 w' => ∃ (x3_1 : Int) (x9_1 : Int), v3 = .int .i64 x3_1 ∧ v9 = .int .i64 x9_1 ∧ Aside0 (arr_Deep.l0 kq x3_1 l0_1 (l0_1.length : Int) x9_1 = some r) ∧ Aside0 (kq ≤ k) ∧ Aside0 (w'.heap[gb241]? = some (.cells #[(.slice A0_0 l0_0.length c0_0), (.slice A0_1 l0_1.length c0_1)] 25 (0, 0))) ∧ Aside0 (Below w.heap.size w w'))
 case atStart => exact ⟨(0), (0), (by first | rfl | (simp; done) | (simp [*]; done)), (by first | rfl | (simp; done) | (simp [*]; done)), H', ⟨Nat.le_refl _⟩, ⟨by (with_reducible repeat (first | refine blk_drewN ?_ _ | refine blk_drew ?_ | refine blk_alloc ?_ _)); exact BK241.out⟩, ⟨by repeat (first | (with_reducible first | exact HB.out | apply below_alloc | apply pw_below_drewN | apply below_drew1 | refine below_set ?_ GE241.out) | exact HB.out)⟩⟩
 case round =>
  clear H'
  try clear c2
  try clear p2
  try clear hcz3_0
  try clear hcz3_1
  try clear hfz3_0
  try clear hfz3_1
  obtain ⟨x3_1, x9_1, rfl, rfl, HA, HK1, BK241, HB⟩ := hrel
  cases gk with
  | zero => exact absurd HA.out (by simp [arr_Deep.l0])
  | succ k1 =>
   have H := HA.out; clear HA
   simp only [arr_Deep.l0] at H
   by_cases c4 : x9_1 < (l0_1.length : Int)
   ·rw [if_pos c4] at H
    have c4b0 := decide_eq_true c4
    clear c4
    obtain ⟨c5, H⟩ := iS H
    have c5b0 := decide_eq_true c5
    clear c5
    obtain ⟨c6, H⟩ := iS H
    have c6b0 := decide_eq_true c6
    clear c6
    by_cases c7 : (((rd_T39 l0_1 x9_1).f2).length : Int) > 0
    ·rw [if_pos c7] at H
     have c7b0 : decide (0 < (((rd_T39 l0_1 x9_1).f2).length : Int)) = true := decide_eq_true c7
     have c7b1 : decide (0 < ((rd_T39 l0_1 x9_1).f2).length) = true := decide_eq_true (by omega)
     clear c7
     obtain ⟨c8, H⟩ := iS H
     have c8b0 := decide_eq_true c8
     have c8b1 : decide (0 < ((rd_T39 l0_1 x9_1).f2).length) = true := decide_eq_true (by omega)
     clear c8
     replace H := Option.bind_eq_some_iff.mp H
     obtain ⟨t245, A90, H⟩ := H
     replace H : (arr_Deep.l0 k1 (mx x3_1 (wrap64 (1 + t245))) l0_1 (l0_1.length : Int) (wrap64 (x9_1 + 1))) = some r := H
     have A9 := gA A90
     clear A90
     obtain ⟨ji10, hji10⟩ : ∃ j_ : Int, (mx x3_1 (wrap64 (1 + t245))) = j_ := ⟨_, rfl⟩
     replace H : (arr_Deep.l0 k1 ji10 l0_1 (l0_1.length : Int) (wrap64 (x9_1 + 1))) = some r := by first | (rw [hji10] at H; exact H) | (simp only [hji10] at H ⊢; exact H)
     (try rw [hji10] at A9)
     have hji10_ : (if x3_1 < (wrap64 (1 + t245)) then (wrap64 (1 + t245)) else x3_1) = ji10 := hji10
     have H' := gA H
     clear H
     have p242 : 0 ≤ (x9_1 : Int) := of_decide_eq_true (by first | (with_reducible assumption) | assumption)
     have q242 : x9_1 < (l0_1.length : Int) := of_decide_eq_true (by first | (with_reducible assumption) | assumption)
     obtain ⟨ad242, A242_2, c242_2, e242, hx242_0, hx242_1, hx242_2, hl242_2, hi242_2⟩ := at_T39 HR0_1.out x9_1 p242 q242
     cases e242
     replace hx242_0 := (HB.out.cell (World.block_lt_of_cell? w _ hx242_0)).trans hx242_0
     replace hx242_1 := (HB.out.cell (World.block_lt_of_cell? w _ hx242_1)).trans hx242_1
     replace hx242_2 := (HB.out.cell (World.block_lt_of_cell? w _ hx242_2)).trans hx242_2
     have HR242_2 := gA hi242_2
     have HC242_2 := gA hl242_2
     clear hi242_2 hl242_2
     replace p242 := eq_true p242
     replace q242 := eq_true q242
     go_wp2_with (first | ((with_reducible refine gate_dst (N := 5) rfl ?_); refine box_event ?hg (N := 5) ?hd (cs := #[.int .i64 0, .int .i64 0, .slice none 0 0]) (t := 39) ?hr ?_; (case hd => rfl); (case hg => rfl); (case hr => first | (go_simp; done) | (go_simp; rfl)); intro gb243 hg w11 hbox hb; have BK243 := gA (hbox); have GW243 := gA ((by rw [hg]; exact (below_size (by repeat first | exact gB HB | refine below_set ?_ GE241.out)) : w.heap.size ≤ gb243)); have GE243 := gA ((by rw [hg]; exact (below_size (by repeat first | exact gB HB | refine below_set ?_ GE241.out)) : w.heap.size ≤ gb243)); replace HB := gA (below_step (by repeat first | exact gB HB | refine below_set ?_ GE241.out) hb); have NB241_243 := gA ((by rw [hg]; exact Nat.ne_of_lt (blk_lt (gK BK241)) : gb241 ≠ gb243)); have NB243_241 := gA ((by rw [hg]; exact Nat.ne_of_gt (blk_lt (gK BK241)) : gb243 ≠ gb241)); replace BK241 := gA (blk_below (gK BK241) hb); clear hb hbox hg; have hnb12 := NB243_241.out; have hnc12 := NB241_243.out; obtain ⟨hcz13_0, hcz13_1, hcz13_2, hfz13_0, hfz13_1, hfz13_2⟩ := gz3 BK243; have p244 : 0 ≤ (0 : Int) := (by omega); have q244 : 0 < (((rd_T39 l0_1 x9_1).f2).length : Int) := of_decide_eq_true (by assumption); obtain ⟨ad244, A244_0, c244_0, A244_1, c244_1, e244, hx244_0, hx244_1, hl244_0, hi244_0, hl244_1, hi244_1⟩ := at_T25 HR242_2.out 0 p244 q244; cases e244; have qi244 : (0 < ((rd_T39 l0_1 x9_1).f2).length) = True := eq_true (by omega); (try rw [show ((0 : Int)).toNat = 0 from rfl] at hx244_0); (try rw [show 0 * 2 = 0 from rfl] at hx244_0); (try rw [Addr.add_zero'] at hx244_0); (try rw [show ((0 : Int)).toNat = 0 from rfl] at hx244_1); (try rw [show 0 * 2 = 0 from rfl] at hx244_1); (try rw [Addr.add_zero'] at hx244_1); have hn244_0 : ad244.block ≠ gb243 := Nat.ne_of_lt (Nat.lt_of_lt_of_le (by have := World.block_lt_of_cell? _ _ hx244_0; first | rwa [add_block] at this | exact this) GW243.out); have hn244_1 : ad244.block ≠ gb243 := Nat.ne_of_lt (Nat.lt_of_lt_of_le (by have := World.block_lt_of_cell? _ _ hx244_0; first | rwa [add_block] at this | exact this) GW243.out); have hn244_2 : ad244.block ≠ gb243 := Nat.ne_of_lt (Nat.lt_of_lt_of_le (by have := World.block_lt_of_cell? _ _ hx244_0; first | rwa [add_block] at this | exact this) GW243.out); replace hx244_0 := (HB.out.cell (World.block_lt_of_cell? w _ hx244_0)).trans hx244_0; replace hx244_1 := (HB.out.cell (World.block_lt_of_cell? w _ hx244_1)).trans hx244_1; have HR244_0 := gA hi244_0; have HC244_0 := gA hl244_0; clear hi244_0 hl244_0; have HR244_1 := gA hi244_1; have HC244_1 := gA hl244_1; clear hi244_1 hl244_1; replace hx244_0 := (cell_far (p := ⟨gb243, 0, none⟩) (by first | (rw [add_block]; exact hn244_0) | (show (Addr.add _ _).block ≠ _; rw [add_block]; exact hn244_0) | exact hn244_0) (.int .i64 ((rd_T39 l0_1 x9_1).f0))).trans hx244_0; replace hx244_1 := (cell_far (p := ⟨gb243, 0, none⟩) (by first | (rw [add_block]; exact hn244_0) | (show (Addr.add _ _).block ≠ _; rw [add_block]; exact hn244_0) | exact hn244_0) (.int .i64 ((rd_T39 l0_1 x9_1).f0))).trans hx244_1; replace hx244_0 := (cell_far (p := ⟨gb243, 1, none⟩) (by first | (rw [add_block]; exact hn244_1) | (show (Addr.add _ _).block ≠ _; rw [add_block]; exact hn244_1) | exact hn244_1) (.int .i64 ((rd_T39 l0_1 x9_1).f1))).trans hx244_0; replace hx244_1 := (cell_far (p := ⟨gb243, 1, none⟩) (by first | (rw [add_block]; exact hn244_1) | (show (Addr.add _ _).block ≠ _; rw [add_block]; exact hn244_1) | exact hn244_1) (.int .i64 ((rd_T39 l0_1 x9_1).f1))).trans hx244_1; replace hx244_0 := (cell_far (p := ⟨gb243, 2, none⟩) (by first | (rw [add_block]; exact hn244_2) | (show (Addr.add _ _).block ≠ _; rw [add_block]; exact hn244_2) | exact hn244_2) (.slice (some ad244) ((rd_T39 l0_1 x9_1).f2).length c242_2)).trans hx244_0; replace hx244_1 := (cell_far (p := ⟨gb243, 2, none⟩) (by first | (rw [add_block]; exact hn244_2) | (show (Addr.add _ _).block ≠ _; rw [add_block]; exact hn244_2) | exact hn244_2) (.slice (some ad244) ((rd_T39 l0_1 x9_1).f2).length c242_2)).trans hx244_1; clear hn244_0 hn244_1 hn244_2; replace p244 := eq_true p244; replace q244 := eq_true q244) | ((with_reducible refine gate_callee (f := 28) rfl ?_); refine goesL_ (some 22) rfl rfl Try.func28 (by kernel_rfl) rfl #[.agg #[.slice A244_0 ((rd_T25 ((rd_T39 l0_1 x9_1).f2) 0).f0).length c244_0, .slice A244_1 ((rd_T25 ((rd_T39 l0_1 x9_1).f2) 0).f1).length c244_1]] rfl (by (try simp only [List.map_toArray, List.map_cons, List.map_nil]); first | done | rfl | (simp only [List.length_drop, List.length_take]; rfl)) ?_; (with_reducible refine (ih k1 (by have := HK1.out; omega) _ _ ((rd_T25 ((rd_T39 l0_1 x9_1).f2) 0).f0) _ _ ((rd_T25 ((rd_T39 l0_1 x9_1).f2) 0).f1) t245 _ ?side1 ?side2 ?side3 ?side4 A9.out).mono ?_); (case side1 => exact Kd.C_below HR244_0.out (by repeat first | exact gB HB | refine below_set ?_ GE241.out | refine below_set ?_ GE243.out)); (case side2 => exact HC244_0.out); (case side3 => exact Kd.C_below HR244_1.out (by repeat first | exact gB HB | refine below_set ?_ GE241.out | refine below_set ?_ GE243.out)); (case side4 => exact HC244_1.out); rintro e w14 ⟨rfl, hb⟩; refine ⟨_, rfl, ?_⟩; replace BK241 := gA (blk_below (g := gb241) (o := .cells #[.slice A0_0 l0_0.length c0_0, .slice (some ad242) l0_1.length c0_1] 25 (0, 0)) (by refine blk_far ?_ NB241_243.out _; refine blk_far ?_ NB241_243.out _; refine blk_far ?_ NB241_243.out _; exact gK BK241) hb); replace BK243 := gA (blk_below (g := gb243) (o := .cells #[.int .i64 ((rd_T39 l0_1 x9_1).f0), .int .i64 ((rd_T39 l0_1 x9_1).f1), .slice (some ad244) ((rd_T39 l0_1 x9_1).f2).length c242_2] 39 (0, 0)) (by refine blk_put (cs := #[.int .i64 ((rd_T39 l0_1 x9_1).f0), .int .i64 ((rd_T39 l0_1 x9_1).f1), .slice none 0 0]) ?_ 2 _ rfl; refine blk_put (cs := #[.int .i64 ((rd_T39 l0_1 x9_1).f0), .int .i64 0, .slice none 0 0]) ?_ 1 _ rfl; refine blk_put (cs := #[.int .i64 0, .int .i64 0, .slice none 0 0]) ?_ 0 _ rfl; exact gK BK243) hb); replace HB := gA (below_step (by repeat first | exact gB HB | refine below_set ?_ GE241.out | refine below_set ?_ GE243.out) hb); (try clear hb)))
     go_roundg k1
     case measure => have := HK1.out; omega
     case rel => exact ⟨(ji10), (wrap64 (x9_1 + 1)), (by first | rfl | (simp; done) | (simp only [← hji10] <;> (first | rfl | simp)) | (simp [*]; done)), (by first | rfl | (simp; done) | (simp [*]; done)), H', ⟨by have := HK1.out; omega⟩, ⟨by (with_reducible repeat (first | refine blk_drewN ?_ _ | refine blk_drew ?_ | refine blk_alloc ?_ _)); exact BK241.out⟩, ⟨by repeat (first | (with_reducible first | exact HB.out | apply below_alloc | apply pw_below_drewN | apply below_drew1 | refine below_set ?_ GE241.out | refine below_set ?_ GE243.out) | exact HB.out)⟩⟩
    ·rw [if_neg c7] at H
     have c7b0 : decide (0 < (((rd_T39 l0_1 x9_1).f2).length : Int)) = false := decide_eq_false c7
     have c7b1 : decide (0 < ((rd_T39 l0_1 x9_1).f2).length) = false := decide_eq_false (by omega)
     clear c7
     have H' := gA H
     clear H
     have p242 : 0 ≤ (x9_1 : Int) := of_decide_eq_true (by first | (with_reducible assumption) | assumption)
     have q242 : x9_1 < (l0_1.length : Int) := of_decide_eq_true (by first | (with_reducible assumption) | assumption)
     obtain ⟨ad242, A242_2, c242_2, e242, hx242_0, hx242_1, hx242_2, hl242_2, hi242_2⟩ := at_T39 HR0_1.out x9_1 p242 q242
     cases e242
     replace hx242_0 := (HB.out.cell (World.block_lt_of_cell? w _ hx242_0)).trans hx242_0
     replace hx242_1 := (HB.out.cell (World.block_lt_of_cell? w _ hx242_1)).trans hx242_1
     replace hx242_2 := (HB.out.cell (World.block_lt_of_cell? w _ hx242_2)).trans hx242_2
     have HR242_2 := gA hi242_2
     have HC242_2 := gA hl242_2
     clear hi242_2 hl242_2
     replace p242 := eq_true p242
     replace q242 := eq_true q242
     go_wp2_with (first | ((with_reducible refine gate_dst (N := 5) rfl ?_); refine box_event ?hg (N := 5) ?hd (cs := #[.int .i64 0, .int .i64 0, .slice none 0 0]) (t := 39) ?hr ?_; (case hd => rfl); (case hg => rfl); (case hr => first | (go_simp; done) | (go_simp; rfl)); intro gb243 hg w15 hbox hb; have BK243 := gA (hbox); have GW243 := gA ((by rw [hg]; exact (below_size (by repeat (first | (with_reducible first | exact HB.out | apply below_alloc | apply pw_below_drewN | apply below_drew1 | refine below_set ?_ GE241.out) | exact HB.out))) : w.heap.size ≤ gb243)); have GE243 := gA ((by rw [hg]; exact (below_size (by repeat (first | (with_reducible first | exact HB.out | apply below_alloc | apply pw_below_drewN | apply below_drew1 | refine below_set ?_ GE241.out) | exact HB.out))) : w.heap.size ≤ gb243)); replace HB := gA (below_step (by repeat (first | (with_reducible first | exact HB.out | apply below_alloc | apply pw_below_drewN | apply below_drew1 | refine below_set ?_ GE241.out) | exact HB.out)) hb); have NB241_243 := gA ((by rw [hg]; exact Nat.ne_of_lt (blk_lt (g := gb241) (o := .cells #[.slice A0_0 l0_0.length c0_0, .slice (some ad242) l0_1.length c0_1] 25 (0, 0)) (by (with_reducible repeat (first | refine blk_drewN ?_ _ | refine blk_drew ?_ | refine blk_alloc ?_ _)); exact BK241.out)) : gb241 ≠ gb243)); have NB243_241 := gA ((by rw [hg]; exact Nat.ne_of_gt (blk_lt (g := gb241) (o := .cells #[.slice A0_0 l0_0.length c0_0, .slice (some ad242) l0_1.length c0_1] 25 (0, 0)) (by (with_reducible repeat (first | refine blk_drewN ?_ _ | refine blk_drew ?_ | refine blk_alloc ?_ _)); exact BK241.out)) : gb243 ≠ gb241)); replace BK241 := gA (blk_below (g := gb241) (o := .cells #[.slice A0_0 l0_0.length c0_0, .slice (some ad242) l0_1.length c0_1] 25 (0, 0)) (by (with_reducible repeat (first | refine blk_drewN ?_ _ | refine blk_drew ?_ | refine blk_alloc ?_ _)); exact BK241.out) hb); clear hb hbox hg; have hnb16 := NB243_241.out; have hnc16 := NB241_243.out; obtain ⟨hcz17_0, hcz17_1, hcz17_2, hfz17_0, hfz17_1, hfz17_2⟩ := gz3 BK243))
     go_roundg k1
     case measure => have := HK1.out; omega
     case rel => exact ⟨(x3_1), (wrap64 (x9_1 + 1)), (by first | rfl | (simp; done) | (simp [*]; done)), (by first | rfl | (simp; done) | (simp [*]; done)), H', ⟨by have := HK1.out; omega⟩, ⟨by (with_reducible repeat (first | refine blk_drewN ?_ _ | refine blk_drew ?_ | refine blk_alloc ?_ _)); refine blk_far ?_ NB241_243.out _; (with_reducible repeat (first | refine blk_drewN ?_ _ | refine blk_drew ?_ | refine blk_alloc ?_ _)); refine blk_far ?_ NB241_243.out _; (with_reducible repeat (first | refine blk_drewN ?_ _ | refine blk_drew ?_ | refine blk_alloc ?_ _)); refine blk_far ?_ NB241_243.out _; (with_reducible repeat (first | refine blk_drewN ?_ _ | refine blk_drew ?_ | refine blk_alloc ?_ _)); exact BK241.out⟩, ⟨by repeat (first | (with_reducible first | exact HB.out | apply below_alloc | apply pw_below_drewN | apply below_drew1 | refine below_set ?_ GE241.out | refine below_set ?_ GE243.out) | exact HB.out)⟩⟩
   ·rw [if_neg c4] at H
    have c4b0 := decide_eq_false c4
    clear c4
    obtain rfl := Option.some.inj H
    go_wp2
    go_ret
    exact ⟨by first | rfl | (simp [errW_none, errW_some] <;> rfl) | (simp [*, errW_none, errW_some] <;> rfl), by repeat (first | (with_reducible first | exact HB.out | apply below_alloc | apply pw_below_drewN | apply below_drew1 | refine below_set ?_ GE241.out) | exact HB.out)⟩
def layout_open.f (l0_0 : List Int) (l0_1 : List (S39)) : Option (List Int × (List (S39)) × Int) := if (l0_0.length : Int) > 0 then (some (([] : List Int), ([] : List (S39)), 6)) else (if 0 < (l0_1.length : Int) then (if ((rd_T39 l0_1 0).f0) = 2 then (if 0 < (((rd_T39 l0_1 0).f2).length : Int) then (some ((rd_T25 ((rd_T39 l0_1 0).f2) 0).f0, (rd_T25 ((rd_T39 l0_1 0).f2) 0).f1, 0)) else (none)) else (some (l0_0, l0_1, 0))) else (none))
set_option maxHeartbeats 8000000 in
set_option maxRecDepth 100000 in
theorem layout_open.calls (P0_0_ : Nat → Prop) (u9000_ : Value) (l0_0 : List Int) (P0_1_ : Nat → Prop) (A0_1 : Option Addr) (c0_1 : Nat) (l0_1 : List (S39)) (r1 : List Int) (r2 : List (S39)) (r3 : Int) (w0 w : World) (hB : Below w0.heap.size w0 w) (ho0_0 : Kd.R (Kd.int .i64) 3 w w0.heap.size P0_0_ u9000_ l0_0) (hs0_1 : Kd.V k39 39 w w0.heap.size (fun k_ => P0_1_ k_ ∧ some k_ ≠ (u9000_ : Value).ownBlock) (.slice A0_1 l0_1.length c0_1) l0_1) (h : layout_open.f l0_0 l0_1 = some (r1, r2, r3)) :
  Calls Try.prog 29 #[.agg #[u9000_, .slice A0_1 l0_1.length c0_1]] w fun e w' => ∃ v0_ v1_ : Value, e = .returned (.tuple #[.agg #[v0_, v1_], .int .i64 r3]) ∧ Kd.V (Kd.int .i64) 3 w' w0.heap.size (fun k_ => ((P0_0_ k_ ∨ P0_1_ k_) ∨ w.heap.size ≤ k_)) v0_ r1 ∧ Kd.V k39 39 w' w0.heap.size (fun k_ => ((P0_0_ k_ ∨ P0_1_ k_) ∨ w.heap.size ≤ k_)) v1_ r2 ∧ Below w0.heap.size w0 w' ∧ Kept w w' (fun k_ => P0_0_ k_) := by
 have hu25 := Try.underlying25
 have HO0_0 := gA (show Kd.R (Kd.int .i64) 3 w w0.heap.size (fun k_ => (P0_0_ k_ ∨ w.heap.size ≤ k_)) u9000_ l0_0 from Kd.R_mono ho0_0 (fun k_ hk => (.inl hk)))
 have HO0_1 := gA (show Kd.V k39 39 w w0.heap.size (fun k_ => ((P0_0_ k_ ∨ P0_1_ k_) ∨ w.heap.size ≤ k_) ∧ some k_ ≠ (u9000_ : Value).ownBlock) (.slice A0_1 l0_1.length c0_1) l0_1 from Kd.V_mono hs0_1 (fun k_ hk => ⟨.inl (.inr hk.1), hk.2⟩))
 have HK := gA (Kept.refl w (fun k_ => P0_0_ k_))
 have HW0 := gA hB.size
 have HB := gA hB
 clear hB
 have H : (if (l0_0.length : Int) > 0 then (some (([] : List Int), ([] : List (S39)), 6)) else (if 0 < (l0_1.length : Int) then (if ((rd_T39 l0_1 0).f0) = 2 then (if 0 < (((rd_T39 l0_1 0).f2).length : Int) then (some ((rd_T25 ((rd_T39 l0_1 0).f2) 0).f0, (rd_T25 ((rd_T39 l0_1 0).f2) 0).f1, 0)) else (none)) else (some (l0_0, l0_1, 0))) else (none))) = some (r1, r2, r3) := h
 clear h
 have HC2 := gA H
 clear H
 obtain ⟨Ao3, co3, eo3⟩ := Kd.R_slice HO0_0.out
 subst eo3
 go_enter Try.func29, Try.ntmps29
 go_upto_if 4 with (first | ((with_reducible refine gate_dst (N := 1) rfl ?_); refine box_event ?hg (N := 1) ?hd (cs := #[.slice Ao3 l0_0.length co3, .slice A0_1 l0_1.length c0_1]) (t := 25) ?hr ?_; (case hd => rfl); (case hg => rfl); (case hr => first | (go_simp; done) | (go_simp; rfl)); intro gb246 hg w4 hbox hb; replace HO0_0 := gA (Kd.R_below (gR HO0_0) hb); replace HO0_1 := gA (Kd.V_below (Kd.V_elderB (gV HO0_1) gb246 (Nat.le_of_eq hg.symm)) hb); have BK246 := gA (hbox); have GW246 := gA ((by rw [hg]; exact (by first | exact HK.out.1 | exact (show Kept w _ (fun k_ => P0_0_ k_) from by repeat (first | (with_reducible first | exact HK.out | apply Kept.alloc | apply Kept.drewN | apply Kept.drew) | exact HK.out)).1) : w.heap.size ≤ gb246)); replace HK := gA (Kept.below (S := (fun k_ => P0_0_ k_)) (by repeat (first | (with_reducible first | exact HK.out | apply Kept.alloc | apply Kept.drewN | apply Kept.drew) | exact HK.out)) hb); have GE246 := gA ((by rw [hg]; exact (below_size (gB HB)) : w0.heap.size ≤ gb246)); replace HB := gA (below_step (gB HB) hb); clear hb hbox hg) | ((with_reducible refine gate_dst (N := 2) rfl ?_); refine box_event ?hg (N := 2) ?hd (cs := #[.slice none 0 0, .slice none 0 0]) (t := 25) ?hr ?_; (case hd => rfl); (case hg => rfl); (case hr => first | (go_simp; done) | (go_simp; rfl)); intro gb247 hg w5 hbox hb; replace HO0_0 := gA (Kd.R_below (gR HO0_0) hb); replace HO0_1 := gA (Kd.V_below (Kd.V_elderB (gV HO0_1) gb247 (Nat.le_of_eq hg.symm)) hb); have BK247 := gA (hbox); have GW247 := gA ((by rw [hg]; exact (by first | exact HK.out.1 | exact (show Kept w _ (fun k_ => P0_0_ k_) from by repeat (first | (with_reducible first | exact HK.out | apply Kept.alloc | apply Kept.drewN | apply Kept.drew | refine Kept.setCell ?_ (.inr GW246.out) _) | exact HK.out)).1) : w.heap.size ≤ gb247)); replace HK := gA (Kept.below (S := (fun k_ => P0_0_ k_)) (by repeat (first | (with_reducible first | exact HK.out | apply Kept.alloc | apply Kept.drewN | apply Kept.drew | refine Kept.setCell ?_ (.inr GW246.out) _) | exact HK.out)) hb); have GE247 := gA ((by rw [hg]; exact (below_size (gB HB)) : w0.heap.size ≤ gb247)); replace HB := gA (below_step (gB HB) hb); have NB246_247 := gA ((by rw [hg]; exact Nat.ne_of_lt (blk_lt (gK BK246)) : gb246 ≠ gb247)); have NB247_246 := gA ((by rw [hg]; exact Nat.ne_of_gt (blk_lt (gK BK246)) : gb247 ≠ gb246)); replace BK246 := gA (blk_below (gK BK246) hb); clear hb hbox hg; have hnb6 := NB246_247.out; have hnc6 := NB247_246.out; obtain ⟨hcz7_0, hcz7_1, hfz7_0, hfz7_1⟩ := gz2 BK246))
 have H := HC2.out; clear HC2
 by_cases c8 : (l0_0.length : Int) > 0
 ·rw [if_pos c8] at H
  have c8b0 : decide (0 < (l0_0.length : Int)) = true := decide_eq_true c8
  have c8b1 : decide (0 < l0_0.length) = true := decide_eq_true (by omega)
  clear c8
  (first | rw [c8b0] | rw [c8b1] | (simp only [i64_w, i32_w]; rw [c8b0]) | skip)
  simp only [Option.some.injEq, Prod.mk.injEq] at H
  obtain ⟨rfl, rfl, rfl⟩ := H
  have hnb9 := NB247_246.out
  have hnc9 := NB246_247.out
  obtain ⟨hcz10_0, hcz10_1, hfz10_0, hfz10_1⟩ := gz2 BK247
  go_wp2
  refine bodyPost_ret (results_ct rfl _ _ gb247 25 #[.slice none 0 0, .slice none 0 0] (0, 0) _ rfl (by refine blk_put (cs := #[.slice none 0 0, .slice none 0 0]) ?_ 1 _ rfl; refine blk_put (cs := #[.slice none 0 0, .slice none 0 0]) ?_ 0 _ rfl; exact gK BK247) Try.underlying25 rfl (by kernel_rfl)) rfl ?_
  exact ⟨_, _, rfl, by first | exact Kd.R_nil _ _ _ _ _ | exact Kd.N_nil _ _ _ _ _ | exact Kd.V_nil _ _ _ _ _ | exact Kd.Q_nil _ _ _ _ _ | exact Kd.S_nil _ _ _ _ _, by first | exact Kd.R_nil _ _ _ _ _ | exact Kd.N_nil _ _ _ _ _ | exact Kd.V_nil _ _ _ _ _ | exact Kd.Q_nil _ _ _ _ _ | exact Kd.S_nil _ _ _ _ _, by repeat first | exact gB HB | refine below_set ?_ GE246.out | refine below_set ?_ GE247.out, by repeat (first | (with_reducible first | exact HK.out | apply Kept.alloc | apply Kept.drewN | apply Kept.drew | refine Kept.setCell ?_ (.inr GW246.out) _ | refine Kept.setCell ?_ (.inr GW247.out) _) | exact HK.out)⟩
 ·rw [if_neg c8] at H
  have c8b0 : decide (0 < (l0_0.length : Int)) = false := decide_eq_false c8
  have c8b1 : decide (0 < l0_0.length) = false := decide_eq_false (by omega)
  clear c8
  (first | rw [c8b0] | rw [c8b1] | (simp only [i64_w, i32_w]; rw [c8b0]) | skip)
  obtain ⟨c11, H⟩ := iS H
  have c11b0 := decide_eq_true c11
  have c11b1 : decide (0 < l0_1.length) = true := decide_eq_true (by omega)
  clear c11
  by_cases c12 : ((rd_T39 l0_1 0).f0) = 2
  ·rw [if_pos c12] at H
   have c12b0 : (((rd_T39 l0_1 0).f0) == 2) = true := beq_iff_eq.mpr c12
   have c12b1 : (((rd_T39 l0_1 0).f0) != 2) = false := bne_eq_false_iff_eq.mpr c12
   clear c12
   obtain ⟨c13, H⟩ := iS H
   have c13b0 := decide_eq_true c13
   have c13b1 : decide (0 < ((rd_T39 l0_1 0).f2).length) = true := decide_eq_true (by omega)
   clear c13
   simp only [Option.some.injEq, Prod.mk.injEq] at H
   obtain ⟨rfl, rfl, rfl⟩ := H
   have hnb14 := NB246_247.out
   have hnc14 := NB247_246.out
   obtain ⟨hcz15_0, hcz15_1, hfz15_0, hfz15_1⟩ := gz2 BK246
   have p248 : 0 ≤ (0 : Int) := (by omega)
   have q248 : 0 < (l0_1.length : Int) := of_decide_eq_true (by assumption)
   obtain ⟨ad248, A248_2, c248_2, e248, hx248_0, hx248_1, hx248_2, hl248_2, hi248_2⟩ := at_T39 (Kd.V_reads' HO0_1.out).2.2 0 p248 q248
   cases e248
   obtain ⟨ce248, hce248, hMe248, hcc248⟩ := Kd.V_get HO0_1.out z39 0 p248 (by first | exact q248 | exact of_decide_eq_true (by assumption) | (have e_ := (Kd.V_reads' HO0_1.out).1; omega))
   obtain ⟨ua248_2, uc248_2, rfl, ul248_2, ge248_2⟩ := k39_openF hMe248
   have hv248_2 := hcc248 2 _ rfl
   rw [add_field _ _ 2 (by omega)] at hv248_2
   replace hv248_2 := Option.some.inj (hv248_2.symm.trans hx248_2)
   injection hv248_2 with hva_ hvn_ hvc_
   rw [hva_] at ge248_2
   rw [hvc_] at ul248_2
   have HL248_2 := gA (show Kd.V k25 25 _ w0.heap.size _ _ ((rd_T39 l0_1 0).f2) from Kd.V_mk ul248_2 ge248_2)
   clear hva_ hvn_ hvc_ ge248_2 ul248_2 hcc248 hce248
   have qi248 : (0 < l0_1.length) = True := eq_true (by omega)
   (try rw [show ((0 : Int)).toNat = 0 from rfl] at hx248_0)
   (try rw [show 0 * 3 = 0 from rfl] at hx248_0)
   (try rw [Addr.add_zero'] at hx248_0)
   (try rw [show ((0 : Int)).toNat = 0 from rfl] at hx248_1)
   (try rw [show 0 * 3 = 0 from rfl] at hx248_1)
   (try rw [Addr.add_zero'] at hx248_1)
   (try rw [show ((0 : Int)).toNat = 0 from rfl] at hx248_2)
   (try rw [show 0 * 3 = 0 from rfl] at hx248_2)
   (try rw [Addr.add_zero'] at hx248_2)
   have HR248_2 := gA hi248_2
   have HC248_2 := gA hl248_2
   clear hi248_2 hl248_2
   replace p248 := eq_true p248
   replace q248 := eq_true q248
   have p249 : 0 ≤ (0 : Int) := (by omega)
   have q249 : 0 < (l0_1.length : Int) := of_decide_eq_true (by assumption)
   obtain ⟨ad249, A249_2, c249_2, e249, hx249_0, hx249_1, hx249_2, hl249_2, hi249_2⟩ := at_T39 (Kd.V_reads' HO0_1.out).2.2 0 p249 q249
   obtain rfl : ad248 = ad249 := (by injection e249)
   obtain ⟨ce249, hce249, hMe249, hcc249⟩ := Kd.V_get HO0_1.out z39 0 p249 (by first | exact q249 | exact of_decide_eq_true (by assumption) | (have e_ := (Kd.V_reads' HO0_1.out).1; omega))
   obtain ⟨ua249_2, uc249_2, rfl, ul249_2, ge249_2⟩ := k39_openF hMe249
   have hv249_2 := hcc249 2 _ rfl
   rw [add_field _ _ 2 (by omega)] at hv249_2
   replace hv249_2 := Option.some.inj (hv249_2.symm.trans hx249_2)
   injection hv249_2 with hva_ hvn_ hvc_
   rw [hva_] at ge249_2
   rw [hvc_] at ul249_2
   have HL249_2 := gA (show Kd.V k25 25 _ w0.heap.size _ _ ((rd_T39 l0_1 0).f2) from Kd.V_mk ul249_2 ge249_2)
   clear hva_ hvn_ hvc_ ge249_2 ul249_2 hcc249 hce249
   have qi249 : (0 < l0_1.length) = True := eq_true (by omega)
   (try rw [show ((0 : Int)).toNat = 0 from rfl] at hx249_0)
   (try rw [show 0 * 3 = 0 from rfl] at hx249_0)
   (try rw [Addr.add_zero'] at hx249_0)
   (try rw [show ((0 : Int)).toNat = 0 from rfl] at hx249_1)
   (try rw [show 0 * 3 = 0 from rfl] at hx249_1)
   (try rw [Addr.add_zero'] at hx249_1)
   (try rw [show ((0 : Int)).toNat = 0 from rfl] at hx249_2)
   (try rw [show 0 * 3 = 0 from rfl] at hx249_2)
   (try rw [Addr.add_zero'] at hx249_2)
   have HR249_2 := gA hi249_2
   have HC249_2 := gA hl249_2
   clear hi249_2 hl249_2
   replace p249 := eq_true p249
   replace q249 := eq_true q249
   have ea_ := Option.some.inj (hx248_2.symm.trans hx249_2)
   injection ea_ with ea_ en_ ec_
   subst ea_
   subst ec_
   clear en_
   have p250 : 0 ≤ (0 : Int) := (by omega)
   have q250 : 0 < (((rd_T39 l0_1 0).f2).length : Int) := of_decide_eq_true (by assumption)
   obtain ⟨ad250, A250_0, c250_0, A250_1, c250_1, e250, hx250_0, hx250_1, hl250_0, hi250_0, hl250_1, hi250_1⟩ := at_T25 (by repeat (first | (with_reducible exact HR249_2.out) | (with_reducible refine Kd.C_alloc ?_ _) | (with_reducible refine Kd.C_drewN ?_ _) | (with_reducible refine Kd.C_drew ?_) | exact HR249_2.out)) 0 p250 q250
   cases e250
   obtain ⟨ce250, hce250, hMe250, hcc250⟩ := Kd.V_get HL249_2.out z25 0 p250 (by first | exact q250 | exact of_decide_eq_true (by assumption) | (have e_ := (Kd.V_reads' HL249_2.out).1; omega))
   obtain ⟨ua250_0, uc250_0, ua250_1, uc250_1, rfl, ul250_0, ge250_0, ul250_1, ge250_1⟩ := k25_openF hMe250
   have hv250_0 := hcc250 0 _ rfl
   rw [Nat.add_zero] at hv250_0
   replace hv250_0 := Option.some.inj (hv250_0.symm.trans hx250_0)
   injection hv250_0 with hva_ hvn_ hvc_
   rw [hva_] at ge250_0
   rw [hvc_] at ul250_0
   have HL250_0 := gA (show Kd.V (Kd.int .i64) 3 _ w0.heap.size _ _ ((rd_T25 ((rd_T39 l0_1 0).f2) 0).f0) from Kd.V_mk ul250_0 ge250_0)
   clear hva_ hvn_ hvc_ ge250_0 ul250_0
   have hv250_1 := hcc250 1 _ rfl
   rw [add_field _ _ 1 (by omega)] at hv250_1
   replace hv250_1 := Option.some.inj (hv250_1.symm.trans hx250_1)
   injection hv250_1 with hva_ hvn_ hvc_
   rw [hva_] at ge250_1
   rw [hvc_] at ul250_1
   have HL250_1 := gA (show Kd.V k39 39 _ w0.heap.size _ _ ((rd_T25 ((rd_T39 l0_1 0).f2) 0).f1) from Kd.V_mk ul250_1 ge250_1)
   clear hva_ hvn_ hvc_ ge250_1 ul250_1 hcc250 hce250
   have qi250 : (0 < ((rd_T39 l0_1 0).f2).length) = True := eq_true (by omega)
   (try rw [show ((0 : Int)).toNat = 0 from rfl] at hx250_0)
   (try rw [show 0 * 2 = 0 from rfl] at hx250_0)
   (try rw [Addr.add_zero'] at hx250_0)
   (try rw [show ((0 : Int)).toNat = 0 from rfl] at hx250_1)
   (try rw [show 0 * 2 = 0 from rfl] at hx250_1)
   (try rw [Addr.add_zero'] at hx250_1)
   have HR250_0 := gA hi250_0
   have HC250_0 := gA hl250_0
   clear hi250_0 hl250_0
   have HR250_1 := gA hi250_1
   have HC250_1 := gA hl250_1
   clear hi250_1 hl250_1
   replace p250 := eq_true p250
   replace q250 := eq_true q250
   obtain ⟨hcz16_0, hcz16_1, hfz16_0, hfz16_1⟩ := gz2 BK247
   go_wp2
   refine bodyPost_ret (results_ct rfl _ _ gb247 25 #[.slice A250_0 ((rd_T25 ((rd_T39 l0_1 0).f2) 0).f0).length c250_0, .slice A250_1 ((rd_T25 ((rd_T39 l0_1 0).f2) 0).f1).length c250_1] (0, 0) _ rfl (by refine blk_put (cs := #[.slice A250_0 ((rd_T25 ((rd_T39 l0_1 0).f2) 0).f0).length c250_0, .slice none 0 0]) ?_ 1 _ rfl; refine blk_put (cs := #[.slice none 0 0, .slice none 0 0]) ?_ 0 _ rfl; exact gK BK247) Try.underlying25 rfl (by kernel_rfl)) rfl ?_
   exact ⟨_, _, rfl, Kd.V_mono (Kd.V_far (p := ⟨gb247, 1, none⟩) (Kd.V_far (p := ⟨gb247, 0, none⟩) (Kd.V_mono HL250_0.out (fun k_ hk => (⟨hk, hk.2⟩ : _ ∧ k_ ≠ gb247))) (fun _ hk => hk.2) (.slice A250_0 ((rd_T25 ((rd_T39 l0_1 0).f2) 0).f0).length c250_0)) (fun _ hk => hk.2) (.slice A250_1 ((rd_T25 ((rd_T39 l0_1 0).f2) 0).f1).length c250_1)) (fun _ hk => hk.1.1.1.1), Kd.V_mono (Kd.V_far (p := ⟨gb247, 1, none⟩) (Kd.V_far (p := ⟨gb247, 0, none⟩) (Kd.V_mono HL250_1.out (fun k_ hk => (⟨hk, hk.2⟩ : _ ∧ k_ ≠ gb247))) (fun _ hk => hk.2) (.slice A250_0 ((rd_T25 ((rd_T39 l0_1 0).f2) 0).f0).length c250_0)) (fun _ hk => hk.2) (.slice A250_1 ((rd_T25 ((rd_T39 l0_1 0).f2) 0).f1).length c250_1)) (fun _ hk => hk.1.1.1.1), by repeat first | exact gB HB | refine below_set ?_ GE246.out | refine below_set ?_ GE247.out, by repeat (first | (with_reducible first | exact HK.out | apply Kept.alloc | apply Kept.drewN | apply Kept.drew | refine Kept.setCell ?_ (.inr GW246.out) _ | refine Kept.setCell ?_ (.inr GW247.out) _) | exact HK.out)⟩
  ·rw [if_neg c12] at H
   have c12b0 : (((rd_T39 l0_1 0).f0) == 2) = false := beq_eq_false_iff_ne.mpr c12
   have c12b1 : (((rd_T39 l0_1 0).f0) != 2) = true := bne_iff_ne.mpr c12
   simp only [Option.some.injEq, Prod.mk.injEq] at H
   obtain ⟨rfl, rfl, rfl⟩ := H
   have hnb17 := NB246_247.out
   have hnc17 := NB247_246.out
   obtain ⟨hcz18_0, hcz18_1, hfz18_0, hfz18_1⟩ := gz2 BK246
   have p248 : 0 ≤ (0 : Int) := (by omega)
   have q248 : 0 < (l0_1.length : Int) := of_decide_eq_true (by assumption)
   obtain ⟨ad248, A248_2, c248_2, e248, hx248_0, hx248_1, hx248_2, hl248_2, hi248_2⟩ := at_T39 (Kd.V_reads' HO0_1.out).2.2 0 p248 q248
   cases e248
   obtain ⟨ce248, hce248, hMe248, hcc248⟩ := Kd.V_get HO0_1.out z39 0 p248 (by first | exact q248 | exact of_decide_eq_true (by assumption) | (have e_ := (Kd.V_reads' HO0_1.out).1; omega))
   obtain ⟨ua248_2, uc248_2, rfl, ul248_2, ge248_2⟩ := k39_openF hMe248
   have hv248_2 := hcc248 2 _ rfl
   rw [add_field _ _ 2 (by omega)] at hv248_2
   replace hv248_2 := Option.some.inj (hv248_2.symm.trans hx248_2)
   injection hv248_2 with hva_ hvn_ hvc_
   rw [hva_] at ge248_2
   rw [hvc_] at ul248_2
   have HL248_2 := gA (show Kd.V k25 25 _ w0.heap.size _ _ ((rd_T39 l0_1 0).f2) from Kd.V_mk ul248_2 ge248_2)
   clear hva_ hvn_ hvc_ ge248_2 ul248_2 hcc248 hce248
   have qi248 : (0 < l0_1.length) = True := eq_true (by omega)
   (try rw [show ((0 : Int)).toNat = 0 from rfl] at hx248_0)
   (try rw [show 0 * 3 = 0 from rfl] at hx248_0)
   (try rw [Addr.add_zero'] at hx248_0)
   (try rw [show ((0 : Int)).toNat = 0 from rfl] at hx248_1)
   (try rw [show 0 * 3 = 0 from rfl] at hx248_1)
   (try rw [Addr.add_zero'] at hx248_1)
   (try rw [show ((0 : Int)).toNat = 0 from rfl] at hx248_2)
   (try rw [show 0 * 3 = 0 from rfl] at hx248_2)
   (try rw [Addr.add_zero'] at hx248_2)
   have HR248_2 := gA hi248_2
   have HC248_2 := gA hl248_2
   clear hi248_2 hl248_2
   replace p248 := eq_true p248
   replace q248 := eq_true q248
   obtain ⟨hcz19_0, hcz19_1, hfz19_0, hfz19_1⟩ := gz2 BK247
   go_wp2
   refine bodyPost_ret (results_ct rfl _ _ gb247 25 #[.slice Ao3 l0_0.length co3, .slice (some ad248) l0_1.length c0_1] (0, 0) _ rfl (by refine blk_put (cs := #[.slice Ao3 l0_0.length co3, .slice none 0 0]) ?_ 1 _ rfl; refine blk_put (cs := #[.slice none 0 0, .slice none 0 0]) ?_ 0 _ rfl; exact gK BK247) Try.underlying25 rfl (by kernel_rfl)) rfl ?_
   exact ⟨_, _, rfl, Kd.V_mono (Kd.R_V (Kd.R_mono (Kd.R_far (p := ⟨gb247, 1, none⟩) (Kd.R_far (p := ⟨gb247, 0, none⟩) (Kd.R_types HO0_0.out BK247.out (by decide)) (fun _ hk => hk.2) (.slice Ao3 l0_0.length co3)) (fun _ hk => hk.2) (.slice (some ad248) l0_1.length c0_1)) (fun _ hk => hk.1))) (fun k_ hk => by first | exact ⟨(Or.imp_left (fun h_ => (.inl h_)) (hk.1)), hk.2⟩ | exact (Or.imp_left (fun h_ => (.inl h_)) (hk))), Kd.V_mono (Kd.V_far (p := ⟨gb247, 1, none⟩) (Kd.V_far (p := ⟨gb247, 0, none⟩) (Kd.V_mono HO0_1.out (fun k_ hk => (⟨hk, hk.2⟩ : _ ∧ k_ ≠ gb247))) (fun _ hk => hk.2) (.slice Ao3 l0_0.length co3)) (fun _ hk => hk.2) (.slice (some ad248) l0_1.length c0_1)) (fun _ hk => hk.1.1.1.1), by repeat first | exact gB HB | refine below_set ?_ GE246.out | refine below_set ?_ GE247.out, by repeat (first | (with_reducible first | exact HK.out | apply Kept.alloc | apply Kept.drewN | apply Kept.drew | refine Kept.setCell ?_ (.inr GW246.out) _ | refine Kept.setCell ?_ (.inr GW247.out) _) | exact HK.out)⟩
def layout_first.f (l0_0 : List Int) (l0_1 : List (S39)) : Option (List Int × (List (S39)) × Int) := if (l0_0.length : Int) = 0 then (some (l0_0, l0_1, 0)) else (if 0 < (l0_0.length : Int) then (if (rd l0_0 0) = 0 then (some (([] : List Int), ([] : List (S39)), 8)) else (if 1 ≤ (l0_0.length : Int) then (if 0 ≤ (wrap64 ((l0_1.length : Int) / (rd l0_0 0))) then (if (wrap64 ((l0_1.length : Int) / (rd l0_0 0))) ≤ (l0_1.length : Int) then (some ((l0_0.drop 1), (l0_1.take ((wrap64 ((l0_1.length : Int) / (rd l0_0 0))) : Int).toNat), 0)) else (none)) else (none)) else (none))) else (none))
def layout_first.T5 : Bool × List (List Nat × List Nat) := (true, [([], []), ([0], [0]), ([1], [1]), ([], []), ([3], [3]), ([], []), ([5], [5]), ([6], [6]), ([], []), ([8], [8]), ([9], [9]), ([10], [10]), ([7, 11], [7, 11]), ([4, 12], [4, 12]), ([2, 13], [2, 13]), ([14, 0, 1, 2, 3, 4, 5, 6, 7, 8, 9, 10, 11, 12, 13, 14], [14]), ([15, 0, 1, 2, 3, 4, 5, 6, 7, 8, 9, 10, 11, 12, 13, 14, 15], [])])
def layout_first.B5 : List Nat := [0, 1, 3, 0, 8, 0, 32, 96, 0, 256, 768, 1792, 4064, 8184, 16383, 32767, 65535]
theorem layout_first.tab5 : rtab .any (opsOf Try.f30 5) = layout_first.T5 := by kernel_rfl
theorem layout_first.bits5 : waitsOk layout_first.T5.2 layout_first.B5 = true := by kernel_rfl
set_option maxHeartbeats 8000000 in
set_option maxRecDepth 100000 in
theorem layout_first.calls (P0_0_ : Nat → Prop) (u9000_ : Value) (l0_0 : List Int) (P0_1_ : Nat → Prop) (A0_1 : Option Addr) (c0_1 : Nat) (l0_1 : List (S39)) (r1 : List Int) (r2 : List (S39)) (r3 : Int) (w0 w : World) (hB : Below w0.heap.size w0 w) (ho0_0 : Kd.R (Kd.int .i64) 3 w w0.heap.size P0_0_ u9000_ l0_0) (hs0_1 : Kd.V k39 39 w w0.heap.size (fun k_ => P0_1_ k_ ∧ some k_ ≠ (u9000_ : Value).ownBlock) (.slice A0_1 l0_1.length c0_1) l0_1) (h : layout_first.f l0_0 l0_1 = some (r1, r2, r3)) :
  Calls Try.prog 30 #[.agg #[u9000_, .slice A0_1 l0_1.length c0_1]] w fun e w' => ∃ v0_ v1_ : Value, e = .returned (.tuple #[.agg #[v0_, v1_], .int .i64 r3]) ∧ Kd.V (Kd.int .i64) 3 w' w0.heap.size (fun k_ => ((P0_0_ k_ ∨ P0_1_ k_) ∨ w.heap.size ≤ k_)) v0_ r1 ∧ Kd.V k39 39 w' w0.heap.size (fun k_ => ((P0_0_ k_ ∨ P0_1_ k_) ∨ w.heap.size ≤ k_)) v1_ r2 ∧ Below w0.heap.size w0 w' ∧ Kept w w' (fun k_ => P0_0_ k_) := by
 have hu25 := Try.underlying25
 have HO0_0 := gA (show Kd.R (Kd.int .i64) 3 w w0.heap.size (fun k_ => (P0_0_ k_ ∨ w.heap.size ≤ k_)) u9000_ l0_0 from Kd.R_mono ho0_0 (fun k_ hk => (.inl hk)))
 have HO0_1 := gA (show Kd.V k39 39 w w0.heap.size (fun k_ => ((P0_0_ k_ ∨ P0_1_ k_) ∨ w.heap.size ≤ k_) ∧ some k_ ≠ (u9000_ : Value).ownBlock) (.slice A0_1 l0_1.length c0_1) l0_1 from Kd.V_mono hs0_1 (fun k_ hk => ⟨.inl (.inr hk.1), hk.2⟩))
 have HK := gA (Kept.refl w (fun k_ => P0_0_ k_))
 have HW0 := gA hB.size
 have HB := gA hB
 clear hB
 have H : (if (l0_0.length : Int) = 0 then (some (l0_0, l0_1, 0)) else (if 0 < (l0_0.length : Int) then (if (rd l0_0 0) = 0 then (some (([] : List Int), ([] : List (S39)), 8)) else (if 1 ≤ (l0_0.length : Int) then (if 0 ≤ (wrap64 ((l0_1.length : Int) / (rd l0_0 0))) then (if (wrap64 ((l0_1.length : Int) / (rd l0_0 0))) ≤ (l0_1.length : Int) then (some ((l0_0.drop 1), (l0_1.take ((wrap64 ((l0_1.length : Int) / (rd l0_0 0))) : Int).toNat), 0)) else (none)) else (none)) else (none))) else (none))) = some (r1, r2, r3) := h
 clear h
 have HC2 := gA H
 clear H
 obtain ⟨Ao3, co3, eo3⟩ := Kd.R_slice HO0_0.out
 subst eo3
 go_enter Try.func30, Try.ntmps30
 go_upto_if 4 with (first | ((with_reducible refine gate_dst (N := 1) rfl ?_); refine box_event ?hg (N := 1) ?hd (cs := #[.slice Ao3 l0_0.length co3, .slice A0_1 l0_1.length c0_1]) (t := 25) ?hr ?_; (case hd => rfl); (case hg => rfl); (case hr => first | (go_simp; done) | (go_simp; rfl)); intro gb251 hg w4 hbox hb; replace HO0_0 := gA (Kd.R_below (gR HO0_0) hb); replace HO0_1 := gA (Kd.V_below (Kd.V_elderB (gV HO0_1) gb251 (Nat.le_of_eq hg.symm)) hb); have BK251 := gA (hbox); have GW251 := gA ((by rw [hg]; exact (by first | exact HK.out.1 | exact (show Kept w _ (fun k_ => P0_0_ k_) from by repeat (first | (with_reducible first | exact HK.out | apply Kept.alloc | apply Kept.drewN | apply Kept.drew) | exact HK.out)).1) : w.heap.size ≤ gb251)); replace HK := gA (Kept.below (S := (fun k_ => P0_0_ k_)) (by repeat (first | (with_reducible first | exact HK.out | apply Kept.alloc | apply Kept.drewN | apply Kept.drew) | exact HK.out)) hb); have GE251 := gA ((by rw [hg]; exact (below_size (gB HB)) : w0.heap.size ≤ gb251)); replace HB := gA (below_step (gB HB) hb); clear hb hbox hg) | ((with_reducible refine gate_dst (N := 2) rfl ?_); refine box_event ?hg (N := 2) ?hd (cs := #[.slice none 0 0, .slice none 0 0]) (t := 25) ?hr ?_; (case hd => rfl); (case hg => rfl); (case hr => first | (go_simp; done) | (go_simp; rfl)); intro gb252 hg w5 hbox hb; replace HO0_0 := gA (Kd.R_below (gR HO0_0) hb); replace HO0_1 := gA (Kd.V_below (Kd.V_elderB (gV HO0_1) gb252 (Nat.le_of_eq hg.symm)) hb); have BK252 := gA (hbox); have GW252 := gA ((by rw [hg]; exact (by first | exact HK.out.1 | exact (show Kept w _ (fun k_ => P0_0_ k_) from by repeat (first | (with_reducible first | exact HK.out | apply Kept.alloc | apply Kept.drewN | apply Kept.drew | refine Kept.setCell ?_ (.inr GW251.out) _) | exact HK.out)).1) : w.heap.size ≤ gb252)); replace HK := gA (Kept.below (S := (fun k_ => P0_0_ k_)) (by repeat (first | (with_reducible first | exact HK.out | apply Kept.alloc | apply Kept.drewN | apply Kept.drew | refine Kept.setCell ?_ (.inr GW251.out) _) | exact HK.out)) hb); have GE252 := gA ((by rw [hg]; exact (below_size (gB HB)) : w0.heap.size ≤ gb252)); replace HB := gA (below_step (gB HB) hb); have NB251_252 := gA ((by rw [hg]; exact Nat.ne_of_lt (blk_lt (gK BK251)) : gb251 ≠ gb252)); have NB252_251 := gA ((by rw [hg]; exact Nat.ne_of_gt (blk_lt (gK BK251)) : gb252 ≠ gb251)); replace BK251 := gA (blk_below (gK BK251) hb); clear hb hbox hg; have hnb6 := NB251_252.out; have hnc6 := NB252_251.out; obtain ⟨hcz7_0, hcz7_1, hfz7_0, hfz7_1⟩ := gz2 BK251))
 have H := HC2.out; clear HC2
 by_cases c8 : (l0_0.length : Int) = 0
 ·rw [if_pos c8] at H
  have c8b0 : ((l0_0.length : Int) == 0) = true := beq_iff_eq.mpr c8
  have c8b1 : ((l0_0.length : Int) != 0) = false := bne_eq_false_iff_eq.mpr c8
  clear c8
  (first | rw [c8b0] | rw [c8b1] | (simp only [i64_w, i32_w]; rw [c8b0]) | skip)
  simp only [Option.some.injEq, Prod.mk.injEq] at H
  obtain ⟨rfl, rfl, rfl⟩ := H
  have hnb9 := NB251_252.out
  have hnc9 := NB252_251.out
  obtain ⟨hcz10_0, hcz10_1, hfz10_0, hfz10_1⟩ := gz2 BK251
  obtain ⟨hcz11_0, hcz11_1, hfz11_0, hfz11_1⟩ := gz2 BK252
  go_wp2
  refine bodyPost_ret (results_ct rfl _ _ gb252 25 #[.slice Ao3 l0_0.length co3, .slice A0_1 l0_1.length c0_1] (0, 0) _ rfl (by refine blk_put (cs := #[.slice Ao3 l0_0.length co3, .slice none 0 0]) ?_ 1 _ rfl; refine blk_put (cs := #[.slice none 0 0, .slice none 0 0]) ?_ 0 _ rfl; exact gK BK252) Try.underlying25 rfl (by kernel_rfl)) rfl ?_
  exact ⟨_, _, rfl, Kd.V_mono (Kd.R_V (Kd.R_mono (Kd.R_far (p := ⟨gb252, 1, none⟩) (Kd.R_far (p := ⟨gb252, 0, none⟩) (Kd.R_types HO0_0.out BK252.out (by decide)) (fun _ hk => hk.2) (.slice Ao3 l0_0.length co3)) (fun _ hk => hk.2) (.slice A0_1 l0_1.length c0_1)) (fun _ hk => hk.1))) (fun k_ hk => by first | exact ⟨(Or.imp_left (fun h_ => (.inl h_)) (hk.1)), hk.2⟩ | exact (Or.imp_left (fun h_ => (.inl h_)) (hk))), Kd.V_mono (Kd.V_far (p := ⟨gb252, 1, none⟩) (Kd.V_far (p := ⟨gb252, 0, none⟩) (Kd.V_mono HO0_1.out (fun k_ hk => (⟨hk, hk.2⟩ : _ ∧ k_ ≠ gb252))) (fun _ hk => hk.2) (.slice Ao3 l0_0.length co3)) (fun _ hk => hk.2) (.slice A0_1 l0_1.length c0_1)) (fun _ hk => hk.1.1.1.1), by repeat first | exact gB HB | refine below_set ?_ GE251.out | refine below_set ?_ GE252.out, by repeat (first | (with_reducible first | exact HK.out | apply Kept.alloc | apply Kept.drewN | apply Kept.drew | refine Kept.setCell ?_ (.inr GW251.out) _ | refine Kept.setCell ?_ (.inr GW252.out) _) | exact HK.out)⟩
 ·rw [if_neg c8] at H
  have c8b0 : ((l0_0.length : Int) == 0) = false := beq_eq_false_iff_ne.mpr c8
  have c8b1 : ((l0_0.length : Int) != 0) = true := bne_iff_ne.mpr c8
  have c8b2 : ¬ (l0_0 = []) := fun h_ => c8 (by rw [h_]; rfl)
  (first | rw [c8b0] | rw [c8b1] | rw [c8b2] | (simp only [i64_w, i32_w]; rw [c8b0]) | skip)
  obtain ⟨c12, H⟩ := iS H
  have c12b0 := decide_eq_true c12
  have c12b1 : decide (0 < l0_0.length) = true := decide_eq_true (by omega)
  clear c12
  by_cases c13 : (rd l0_0 0) = 0
  ·rw [if_pos c13] at H
   have c13b0 : ((rd l0_0 0) == 0) = true := beq_iff_eq.mpr c13
   have c13b1 : ((rd l0_0 0) != 0) = false := bne_eq_false_iff_eq.mpr c13
   clear c13
   simp only [Option.some.injEq, Prod.mk.injEq] at H
   obtain ⟨rfl, rfl, rfl⟩ := H
   have hnb14 := NB251_252.out
   have hnc14 := NB252_251.out
   obtain ⟨hcz15_0, hcz15_1, hfz15_0, hfz15_1⟩ := gz2 BK251
   have p253 : 0 ≤ (0 : Int) := (by omega)
   have q253 : 0 < (l0_0.length : Int) := of_decide_eq_true (by assumption)
   obtain ⟨ad253, e253, hx253_0⟩ := Kd.at_int (Kd.R_reads' HO0_0.out).2.2 0 p253 q253
   cases e253
   have qi253 : (0 < l0_0.length) = True := eq_true (by omega)
   (try rw [show ((0 : Int)).toNat = 0 from rfl] at hx253_0)
   (try rw [Addr.add_zero'] at hx253_0)
   replace p253 := eq_true p253
   replace q253 := eq_true q253
   obtain ⟨hcz16_0, hcz16_1, hfz16_0, hfz16_1⟩ := gz2 BK252
   go_wp2
   refine bodyPost_ret (results_ct rfl _ _ gb252 25 #[.slice none 0 0, .slice none 0 0] (0, 0) _ rfl (by refine blk_put (cs := #[.slice none 0 0, .slice none 0 0]) ?_ 1 _ rfl; refine blk_put (cs := #[.slice none 0 0, .slice none 0 0]) ?_ 0 _ rfl; exact gK BK252) Try.underlying25 rfl (by kernel_rfl)) rfl ?_
   exact ⟨_, _, rfl, by first | exact Kd.R_nil _ _ _ _ _ | exact Kd.N_nil _ _ _ _ _ | exact Kd.V_nil _ _ _ _ _ | exact Kd.Q_nil _ _ _ _ _ | exact Kd.S_nil _ _ _ _ _, by first | exact Kd.R_nil _ _ _ _ _ | exact Kd.N_nil _ _ _ _ _ | exact Kd.V_nil _ _ _ _ _ | exact Kd.Q_nil _ _ _ _ _ | exact Kd.S_nil _ _ _ _ _, by repeat first | exact gB HB | refine below_set ?_ GE251.out | refine below_set ?_ GE252.out, by repeat (first | (with_reducible first | exact HK.out | apply Kept.alloc | apply Kept.drewN | apply Kept.drew | refine Kept.setCell ?_ (.inr GW251.out) _ | refine Kept.setCell ?_ (.inr GW252.out) _) | exact HK.out)⟩
  ·rw [if_neg c13] at H
   have c13b0 : ((rd l0_0 0) == 0) = false := beq_eq_false_iff_ne.mpr c13
   have c13b1 : ((rd l0_0 0) != 0) = true := bne_iff_ne.mpr c13
   obtain ⟨c17, H⟩ := iS H
   have c17b0 := eq_true c17
   have c17b1 := decide_eq_true c17
   clear c17
   obtain ⟨y254, hy254⟩ : ∃ y_ : List Int, y_ = (l0_0.drop 1) := ⟨_, rfl⟩
   replace H : (if 0 ≤ (wrap64 ((l0_1.length : Int) / (rd l0_0 0))) then (if (wrap64 ((l0_1.length : Int) / (rd l0_0 0))) ≤ (l0_1.length : Int) then (some (y254, (l0_1.take ((wrap64 ((l0_1.length : Int) / (rd l0_0 0))) : Int).toNat), 0)) else (none)) else (none)) = some (r1, r2, r3) := by first | (rw [hy254]; with_reducible exact H) | (have H2_ := (Option.bind_some _ _).symm.trans H; rw [hy254]; with_reducible exact H2_) | (have H2_ := (Option.bind_some _ _).symm.trans H; with_reducible exact H2_) | with_reducible exact H | (rw [hy254]; exact H) | exact H
   have Ny254 := gA hy254
   clear hy254
   obtain ⟨ji18, hji18⟩ : ∃ j_ : Int, (wrap64 ((l0_1.length : Int) / (rd l0_0 0))) = j_ := ⟨_, rfl⟩
   replace H : (if 0 ≤ (ji18) then (if (ji18) ≤ (l0_1.length : Int) then (some (y254, (l0_1.take ((ji18) : Int).toNat), 0)) else (none)) else (none)) = some (r1, r2, r3) := by first | (rw [hji18] at H; exact H) | (simp only [hji18] at H ⊢; exact H)
   have hji18w : (IntKind.i64.wrap ((l0_1.length : Int) / (rd l0_0 0))) = ji18 := (i64_w _).trans hji18
   obtain ⟨c19, H⟩ := iS H
   have c19b0 := eq_true c19
   have c19b1 := decide_eq_true c19
   clear c19
   obtain ⟨c20, H⟩ := iS H
   have c20b0 := eq_true c20
   have c20b1 := decide_eq_true c20
   clear c20
   obtain ⟨y260, hy260⟩ : ∃ y_ : List (S39), y_ = (l0_1.take ((ji18) : Int).toNat) := ⟨_, rfl⟩
   replace H : (some (y254, y260, 0)) = some (r1, r2, r3) := by first | (rw [hy260]; with_reducible exact H) | (have H2_ := (Option.bind_some _ _).symm.trans H; rw [hy260]; with_reducible exact H2_) | (have H2_ := (Option.bind_some _ _).symm.trans H; with_reducible exact H2_) | with_reducible exact H | (rw [hy260]; exact H) | exact H
   have Ny260 := gA hy260
   clear hy260
   simp only [Option.some.injEq, Prod.mk.injEq] at H
   obtain ⟨rfl, rfl, rfl⟩ := H
   have hnb21 := NB251_252.out
   have hnc21 := NB252_251.out
   obtain ⟨hcz22_0, hcz22_1, hfz22_0, hfz22_1⟩ := gz2 BK251
   have p253 : 0 ≤ (0 : Int) := (by omega)
   have q253 : 0 < (l0_0.length : Int) := of_decide_eq_true (by assumption)
   obtain ⟨ad253, e253, hx253_0⟩ := Kd.at_int (Kd.R_reads' HO0_0.out).2.2 0 p253 q253
   cases e253
   have qi253 : (0 < l0_0.length) = True := eq_true (by omega)
   (try rw [show ((0 : Int)).toNat = 0 from rfl] at hx253_0)
   (try rw [Addr.add_zero'] at hx253_0)
   replace p253 := eq_true p253
   replace q253 := eq_true q253
   try go_wp2
   replace HO0_0 := gA (Kd.R_drew HO0_0.out); replace HO0_1 := gA (Kd.V_drew HO0_1.out); replace BK251 := gA (blk_drew BK251.out); replace BK252 := gA (blk_drew BK252.out); replace HK := gA (Kept.drew HK.out); replace HB := gA (below_drew1 HB.out)
   have q24 : (1 : Int) ≤ ((l0_0.length : Int) : Int) := of_decide_eq_true (by assumption)
   obtain ⟨i024, hi024, _, hsz24, _⟩ := info_parts info3
   have hroom24 : l0_0.length ≤ co3 := (Kd.R_reads' HO0_0.out).2.1
   have hC24 : Kd.F (Kd.int .i64) _ _ (some ad253) l0_0.length l0_0 := (Kd.V_at (base := w0.heap.size) (Kd.V_mono (ok' := (fun k_ => ((((P0_0_ k_ ∨ P0_1_ k_) ∨ w.heap.size ≤ k_) ∧ k_ ≠ gb251) ∧ k_ ≠ gb252))) (Kd.R_V (Kd.R_types (Kd.R_types (HO0_0.out) BK251.out (by decide)) BK252.out (by decide))) (fun k_ hk => ⟨⟨(Or.imp_left (fun h_ => (.inl h_)) (hk.1.1)), hk.1.2⟩, hk.2⟩))).2.2
   have hcut24 := cut_from (P := Try.prog) 22 3 .i64 Try.underlying22 hi024 1 hsz24 (some ad253) l0_0.length co3 1 (by omega) q24
   have hr24 := Kd.F_cut (m := (1 : Int).toNat) (c := co3) hC24 (by omega) hroom24
   obtain ⟨A24, hA24⟩ : ∃ A1, A1 = (if co3 = (1 : Int).toNat then (some ad253) else ((some ad253) : Option Addr).map (·.add ((1 : Int).toNat * 1))) := ⟨_, rfl⟩
   obtain ⟨c24, hc24⟩ : ∃ c1, c1 = co3 - (1 : Int).toNat := ⟨_, rfl⟩
   have hy24 : y254.length = l0_0.length - (1 : Int).toNat := (by rw [Ny254.out, List.length_drop] <;> omega)
   rw [show (l0_0).drop (1 : Int).toNat = y254 from Ny254.out.symm] at hr24
   replace hr24 : Kd.F (Kd.int .i64) _ _ A24 y254.length y254 := (by rw [hA24]; exact hr24)
   rw [← hy24, ← hA24, ← hc24] at hcut24
   have HO258 := gA (show Kd.V (Kd.int .i64) 3 _ w0.heap.size _ (.slice A24 y254.length c24) y254 from Kd.V_mk (by rw [hy24, hc24]; exact Nat.sub_le_sub_right hroom24 _) hr24)
   have HC258 := gA (show y254.length ≤ c24 from by rw [hy24, hc24]; exact Nat.sub_le_sub_right hroom24 _)
   clear hr24 hC24 hroom24 hi024 hsz24 hc24
   have KY24 := gA hy24
   have KA24 := gA hA24
   clear hy24 hA24
   replace q24 := eq_true q24
   have p259 : 0 ≤ (0 : Int) := (by omega)
   have q259 : 0 < (l0_0.length : Int) := of_decide_eq_true (by assumption)
   obtain ⟨ad259, e259, hx259_0⟩ := Kd.at_int (Kd.R_reads' HO0_0.out).2.2 0 p259 q259
   obtain rfl : ad253 = ad259 := (by injection e259)
   have qi259 : (0 < l0_0.length) = True := eq_true (by omega)
   (try rw [show ((0 : Int)).toNat = 0 from rfl] at hx259_0)
   (try rw [Addr.add_zero'] at hx259_0)
   replace p259 := eq_true p259
   replace q259 := eq_true q259
   have q25 : ((ji18) : Int) ≤ ((l0_1.length : Int) : Int) := of_decide_eq_true (by assumption)
   obtain ⟨i025, hi025, _, hsz25, _⟩ := info_parts info39
   have hroom25 : l0_1.length ≤ c0_1 := (Kd.V_reads' HO0_1.out).2.1
   have hC25 : Kd.F k39 _ _ A0_1 l0_1.length l0_1 := (Kd.V_at (base := w0.heap.size) HO0_1.out).2.2
   have hcut25 := cut_to (P := Try.prog) 23 39 .i64 Try.underlying23 hi025 A0_1 l0_1.length c0_1 (ji18) (of_decide_eq_true (by assumption)) q25 hroom25
   have hr25 := Kd.F_take (m := ((ji18) : Int).toNat) hC25 (by omega)
   have hy25 : y260.length = ((ji18) : Int).toNat := (by rw [Ny260.out, List.length_take]; omega)
   rw [← Ny260.out] at hr25
   rw [← hy25] at hcut25
   have HO264 := gA (show Kd.V k39 39 _ w0.heap.size _ (.slice A0_1 y260.length c0_1) y260 from Kd.V_mk (by omega) hr25)
   have HC264 := gA (show y260.length ≤ c0_1 from by omega)
   clear hr25 hC25 hroom25 hi025 hsz25
   have KY25 := gA hy25
   clear hy25
   replace q25 := eq_true q25
   refine start_ (n := 17) (S := fun w' => w'.cell? ⟨gb251, 0, none⟩ = some (.slice (some ad253) l0_0.length co3) ∧ w'.cell? ⟨gb251, 1, none⟩ = some (.slice A0_1 l0_1.length c0_1) ∧ w'.cell? ad253 = some (.int .i64 (rd l0_0 0))) (ds := []) #[false, false, false, false, false, false, false, false, false, false, false, false, false, false, false, false, false] (by kernel_rfl) rfl rfl ⟨(blk_cell BK251.out 0).trans rfl, (blk_cell BK251.out 1).trans rfl, hx259_0⟩ (fun hHeld => ?_); refine with_tabW layout_first.tab5 layout_first.bits5 (fun HT_ HW_ => ?_)
   generalize w5.drew = w23 at HO0_0 HO0_1 BK251 BK252 HK HB HO258 HO264 hx259_0 hHeld ⊢
   refine pure_ (i := 0) (N := some 17) (v := ?_) (a' := ?_) #[true, false, false, false, false, false, false, false, false, false, false, false, false, false, false, false, false] rfl rfl (any_of HT_.out (by kernel_rfl)) (fun _ _ _ h => h) (Or.inl ⟨by rfl, ?_⟩) ?_ ?_; rotate_left
   ·intro w'; go_simp; with_reducible rfl
   rotate_left
   ·simp only [Act.put, List.setIfInBounds_toArray, List.set_cons_zero, List.set_cons_succ, i64_w, i32_w]; rfl
   refine pure_ (i := 3) (N := some 20) (v := ?_) (a' := ?_) #[true, false, false, true, false, false, false, false, false, false, false, false, false, false, false, false, false] rfl rfl (any_of HT_.out (by kernel_rfl)) (fun _ _ _ h => h) (Or.inl ⟨by rfl, ?_⟩) ?_ ?_; rotate_left
   ·intro w'; go_simp; with_reducible rfl
   rotate_left
   ·simp only [Act.put, List.setIfInBounds_toArray, List.set_cons_zero, List.set_cons_succ, i64_w, i32_w]; rfl
   refine pure_ (i := 5) (N := some 22) (v := ?_) (a' := ?_) #[true, false, false, true, false, true, false, false, false, false, false, false, false, false, false, false, false] rfl rfl (any_of HT_.out (by kernel_rfl)) (fun _ _ _ h => h) (Or.inl ⟨by rfl, ?_⟩) ?_ ?_; rotate_left
   ·intro w'; go_simp; with_reducible rfl
   rotate_left
   ·simp only [Act.put, List.setIfInBounds_toArray, List.set_cons_zero, List.set_cons_succ, i64_w, i32_w]; rfl
   refine pure_ (i := 8) (N := some 25) (v := ?_) (a' := ?_) #[true, false, false, true, false, true, false, false, true, false, false, false, false, false, false, false, false] rfl rfl (any_of HT_.out (by kernel_rfl)) (fun _ _ _ h => h) (Or.inl ⟨by rfl, ?_⟩) ?_ ?_; rotate_left
   ·intro w'; go_simp; with_reducible rfl
   rotate_left
   ·simp only [Act.put, List.setIfInBounds_toArray, List.set_cons_zero, List.set_cons_succ, i64_w, i32_w]; rfl
   refine take_ (i := 1) (N := some 18) (v := ?_) (a' := ?_) #[true, true, false, true, false, true, false, false, true, false, false, false, false, false, false, false, false] rfl rfl (take_ofW HT_.out HW_.out (by kernel_rfl)) (fun _ _ _ h => h) (Or.inl ⟨by rfl, ?_⟩) hHeld ?_ ?_; rotate_left
   ·rintro w' ⟨s0, s1, s2⟩; go_simp; with_reducible rfl
   rotate_left
   ·simp only [Act.put, List.setIfInBounds_toArray, List.set_cons_zero, List.set_cons_succ, i64_w, i32_w]; rfl
   refine pure_ (i := 2) (N := some 19) (v := ?_) (a' := ?_) #[true, true, true, true, false, true, false, false, true, false, false, false, false, false, false, false, false] rfl rfl (any_of HT_.out (by kernel_rfl)) (fun _ _ _ h => h) (Or.inl ⟨by rfl, ?_⟩) ?_ ?_; rotate_left
   ·intro w'; go_simp; with_reducible rfl
   rotate_left
   ·simp only [Act.put, List.setIfInBounds_toArray, List.set_cons_zero, List.set_cons_succ, i64_w, i32_w]; rfl
   refine take_ (i := 4) (N := some 21) (v := ?_) (a' := ?_) #[true, true, true, true, true, true, false, false, true, false, false, false, false, false, false, false, false] rfl rfl (take_ofW HT_.out HW_.out (by kernel_rfl)) (fun _ _ _ h => h) (Or.inl ⟨by rfl, ?_⟩) hHeld ?_ ?_; rotate_left
   ·rintro w' ⟨s0, s1, s2⟩; go_simp; with_reducible rfl
   rotate_left
   ·simp only [Act.put, List.setIfInBounds_toArray, List.set_cons_zero, List.set_cons_succ, i64_w, i32_w]; rfl
   refine take_ (i := 6) (N := some 23) (v := ?_) (a' := ?_) #[true, true, true, true, true, true, true, false, true, false, false, false, false, false, false, false, false] rfl rfl (take_ofW HT_.out HW_.out (by kernel_rfl)) (fun _ _ _ h => h) (Or.inl ⟨by rfl, ?_⟩) hHeld ?_ ?_; rotate_left
   ·rintro w' ⟨s0, s1, s2⟩; go_simp; with_reducible rfl
   rotate_left
   ·simp only [Act.put, List.setIfInBounds_toArray, List.set_cons_zero, List.set_cons_succ, i64_w, i32_w]; rfl
   refine pure_ (i := 7) (N := some 24) (v := ?_) (a' := ?_) #[true, true, true, true, true, true, true, true, true, false, false, false, false, false, false, false, false] rfl rfl (any_of HT_.out (by kernel_rfl)) (fun _ _ _ h => h) (Or.inl ⟨by rfl, ?_⟩) ?_ ?_; rotate_left
   ·intro w'; go_simp; with_reducible rfl
   rotate_left
   ·simp only [Act.put, List.setIfInBounds_toArray, List.set_cons_zero, List.set_cons_succ, i64_w, i32_w]; rfl
   refine take_ (i := 9) (N := some 26) (v := ?_) (a' := ?_) #[true, true, true, true, true, true, true, true, true, true, false, false, false, false, false, false, false] rfl rfl (take_ofW HT_.out HW_.out (by kernel_rfl)) (fun _ _ _ h => h) (Or.inl ⟨by rfl, ?_⟩) hHeld ?_ ?_; rotate_left
   ·rintro w' ⟨s0, s1, s2⟩; go_simp; with_reducible rfl
   rotate_left
   ·simp only [Act.put, List.setIfInBounds_toArray, List.set_cons_zero, List.set_cons_succ, i64_w, i32_w]; rfl
   refine pure_ (i := 10) (N := some 27) (v := ?_) (a' := ?_) #[true, true, true, true, true, true, true, true, true, true, true, false, false, false, false, false, false] rfl rfl (any_of HT_.out (by kernel_rfl)) (fun _ _ _ h => h) (Or.inl ⟨by rfl, ?_⟩) ?_ ?_; rotate_left
   ·intro w'; go_simp; with_reducible rfl
   rotate_left
   ·simp only [Act.put, List.setIfInBounds_toArray, List.set_cons_zero, List.set_cons_succ, i64_w, i32_w]; rfl
   refine take_ (i := 11) (N := some 28) (v := ?_) (a' := ?_) #[true, true, true, true, true, true, true, true, true, true, true, true, false, false, false, false, false] rfl rfl (take_ofW HT_.out HW_.out (by kernel_rfl)) (fun _ _ _ h => h) (Or.inl ⟨by rfl, ?_⟩) hHeld ?_ ?_; rotate_left
   ·rintro w' ⟨s0, s1, s2⟩; go_simp; with_reducible rfl
   rotate_left
   ·simp only [Act.put, List.setIfInBounds_toArray, List.set_cons_zero, List.set_cons_succ, i64_w, i32_w]; rfl
   refine pure_ (i := 12) (N := some 29) (v := ?_) (a' := ?_) #[true, true, true, true, true, true, true, true, true, true, true, true, true, false, false, false, false] rfl rfl (any_of HT_.out (by kernel_rfl)) (fun _ _ _ h => h) (Or.inl ⟨by rfl, ?_⟩) ?_ ?_; rotate_left
   ·intro w'; go_simp; with_reducible rfl
   rotate_left
   ·simp only [Act.put, List.setIfInBounds_toArray, List.set_cons_zero, List.set_cons_succ, i64_w, i32_w]; rfl
   refine pure_ (i := 13) (N := some 30) (v := ?_) (a' := ?_) #[true, true, true, true, true, true, true, true, true, true, true, true, true, true, false, false, false] rfl rfl (any_of HT_.out (by kernel_rfl)) (fun _ _ _ h => h) (Or.inl ⟨by rfl, ?_⟩) ?_ ?_; rotate_left
   ·intro w'; go_simp; with_reducible rfl
   rotate_left
   ·simp only [Act.put, List.setIfInBounds_toArray, List.set_cons_zero, List.set_cons_succ, i64_w, i32_w]; rfl
   refine pure_ (i := 14) (N := some 31) (v := ?_) (a' := ?_) #[true, true, true, true, true, true, true, true, true, true, true, true, true, true, true, false, false] rfl rfl (any_of HT_.out (by kernel_rfl)) (fun _ _ _ h => h) (Or.inl ⟨by rfl, ?_⟩) ?_ ?_; rotate_left
   ·intro w'; go_simp; with_reducible rfl
   rotate_left
   ·simp only [Act.put, List.setIfInBounds_toArray, List.set_cons_zero, List.set_cons_succ, i64_w, i32_w]; rfl
   refine one_ (i := 15) (N := none) #[true, true, true, true, true, true, true, true, true, true, true, true, true, true, true, true, false] rfl rfl (one_of HT_.out (by kernel_rfl)) (by decide) (fun K hK => ?_)
   have hs26 := gz BK252 0 rfl
   have hfs26 := blk_frozen BK252.out 0
   have hns26_0 := NB251_252.out
   have hms26_0 := NB252_251.out
   have hs27 := gz BK252 1 rfl
   have hfs27 := blk_frozen BK252.out 1
   have hns27_0 := NB251_252.out
   have hms27_0 := NB252_251.out
   refine skip_ (w1 := ?_) (by rfl) rfl ?_ ?_; rotate_left
   ·go_simp; rfl
   refine hK.out _ _ ⟨((cell_far (p := ⟨gb252, _, none⟩) NB251_252.out _).trans (((cell_far (p := ⟨gb252, _, none⟩) NB251_252.out _).trans (hHeld.1)))), ((cell_far (p := ⟨gb252, _, none⟩) NB251_252.out _).trans (((cell_far (p := ⟨gb252, _, none⟩) NB251_252.out _).trans (hHeld.2.1)))), ((cell_far (p := ⟨gb252, _, none⟩) (by first | exact Kd.own_blk (Kd.R_ne HO0_0.out BK252.out (by decide)) | (rw [add_block]; exact Kd.own_blk (Kd.R_ne HO0_0.out BK252.out (by decide))) | (show (Addr.add _ _).block ≠ _; rw [add_block]; exact Kd.own_blk (Kd.R_ne HO0_0.out BK252.out (by decide))) | (dsimp only; exact Kd.own_blk (Kd.R_ne HO0_0.out BK252.out (by decide)))) _).trans (((cell_far (p := ⟨gb252, _, none⟩) (by first | exact Kd.own_blk (Kd.R_ne HO0_0.out BK252.out (by decide)) | (rw [add_block]; exact Kd.own_blk (Kd.R_ne HO0_0.out BK252.out (by decide))) | (show (Addr.add _ _).block ≠ _; rw [add_block]; exact Kd.own_blk (Kd.R_ne HO0_0.out BK252.out (by decide))) | (dsimp only; exact Kd.own_blk (Kd.R_ne HO0_0.out BK252.out (by decide)))) _).trans (hHeld.2.2))))⟩ (fun hHeld => ?_); clear hK K
   refine pure_ (i := 16) (N := some 3) (v := ?_) (a' := ?_) #[true, true, true, true, true, true, true, true, true, true, true, true, true, true, true, true, true] rfl rfl (any_of HT_.out (by kernel_rfl)) (fun _ _ _ h => h) (Or.inl ⟨by rfl, ?_⟩) ?_ ?_; rotate_left
   ·intro w'; go_simp; with_reducible rfl
   rotate_left
   ·simp only [Act.put, List.setIfInBounds_toArray, List.set_cons_zero, List.set_cons_succ, i64_w, i32_w]; rfl
   refine done_ (done_of HT_.out (by kernel_rfl)) ?_
   try go_wp2
   refine bodyPost_ret (results_ct rfl _ _ gb252 25 #[.slice A24 y254.length c24, .slice A0_1 y260.length c0_1] (0, 0) _ rfl (by refine blk_put (cs := #[.slice A24 y254.length c24, .slice none 0 0]) ?_ 1 _ rfl; refine blk_put (cs := #[.slice none 0 0, .slice none 0 0]) ?_ 0 _ rfl; exact gK BK252) Try.underlying25 rfl (by kernel_rfl)) rfl ?_
   exact ⟨_, _, by first | rfl | (simp [errW_none, errW_some] <;> rfl) | (simp only [← hji18]; first | rfl | (simp [errW_none, errW_some] <;> rfl)) | (simp [*, errW_none, errW_some] <;> rfl), Kd.V_mono (Kd.V_far (p := ⟨gb252, 1, none⟩) (Kd.V_far (p := ⟨gb252, 0, none⟩) (Kd.V_mono HO258.out (fun k_ hk => (⟨hk, hk.2⟩ : _ ∧ k_ ≠ gb252))) (fun _ hk => hk.2) (.slice A24 y254.length c24)) (fun _ hk => hk.2) (.slice A0_1 y260.length c0_1)) (fun _ hk => hk.1.1.1), Kd.V_mono (Kd.V_far (p := ⟨gb252, 1, none⟩) (Kd.V_far (p := ⟨gb252, 0, none⟩) (Kd.V_mono HO264.out (fun k_ hk => (⟨hk, hk.2⟩ : _ ∧ k_ ≠ gb252))) (fun _ hk => hk.2) (.slice A24 y254.length c24)) (fun _ hk => hk.2) (.slice A0_1 y260.length c0_1)) (fun _ hk => hk.1.1.1.1), by repeat first | exact gB HB | refine below_set ?_ GE251.out | refine below_set ?_ GE252.out, by repeat (first | (with_reducible first | exact HK.out | apply Kept.alloc | apply Kept.drewN | apply Kept.drew | refine Kept.setCell ?_ (.inr GW251.out) _ | refine Kept.setCell ?_ (.inr GW252.out) _) | exact HK.out)⟩
end Go.Proofs.Ytiegcghapchimaa.P
