/- Written by a program of this session: the functions that the laws reach, what each comes to, and each law as it is stated, for every input. No condition. -/
import Derived.Test.YtiegcghapchimaaPx0
import Derived.Test.YtiegcghapchimaaPx7
import Derived.Test.YtiegcghapchimaaPx9
namespace Go.Proofs.Ytiegcghapchimaa.P
open Go.RowKit Go.Proofs.YtiegcghapchimaaW.PrintWords Go.Proofs.YtiegcghapchimaaW.PrintLast Go.Proofs.YtiegcghapchimaaW.PrintMore
attribute [local go_sem] max2_int min2_int max_two min_two max_three min_three max_four min_four   -- for this text's walks alone
set_option linter.unusedVariables false
set_option linter.unusedSimpArgs false
def triglyphref03_Nums.l0 : Nat → List Int → Int → List Int → List (S39) → Option (List Int × (List (S39)))
 | 0, _, _, _, _ => none
 | k + 1, x0, x4, x394000, x394001 => if x4 < (x0.length : Int) then (if 0 ≤ x4 then (if x394001.length < 3518437208883 then (triglyphref03_Nums.l0 k x0 (wrap64 (x4 + 1)) x394000 (x394001 ++ [(⟨0, rd x0 x4, ([] : List (S25))⟩ : S39)])) else (none)) else (none)) else (some (x394000, x394001))
def triglyphref03_Nums.f (k : Nat) (l0 : List Int) : Option (List Int × (List (S39))) := triglyphref03_Nums.l0 k l0 0 (([(l0.length : Int)] : List Int)) ([] : List (S39))
theorem triglyphref03_Nums.mono_l : ∀ k, (∀ y0 y1 y2 y3, LeO (triglyphref03_Nums.l0 k y0 y1 y2 y3) (triglyphref03_Nums.l0 (k + 1) y0 y1 y2 y3))
 | 0 => fun _ _ _ _ r h => by simp [triglyphref03_Nums.l0] at h
 | k + 1 => by
  have ih0 := triglyphref03_Nums.mono_l k
  ·intro y0 y1 y2 y3
   unfold triglyphref03_Nums.l0
   repeat' first
   | (with_reducible exact ih0 _ _ _ _)
   | (with_reducible exact LeO.refl _)
   | (with_reducible exact LeO.none _)
   | (with_reducible refine LeO.ite ?_ ?_)
   | (with_reducible refine LeO.bind ?_ (fun _ => ?_))
theorem triglyphref03_Nums.mono : ∀ a0 k, LeO (triglyphref03_Nums.f k a0) (triglyphref03_Nums.f (k + 1) a0) := by
 intro a0 k
 have ih0 := triglyphref03_Nums.mono_l k
 unfold triglyphref03_Nums.f
 repeat' first
   | (with_reducible exact ih0 _ _ _ _)
   | (with_reducible exact LeO.refl _)
   | (with_reducible exact LeO.none _)
   | (with_reducible refine LeO.ite ?_ ?_)
   | (with_reducible refine LeO.bind ?_ (fun _ => ?_))
def triglyphref03_Nums.T5 : Bool × List (List Nat × List Nat) := (true, [([], []), ([0], [0]), ([], []), ([], []), ([2, 3], [2, 3]), ([4], [4]), ([5], [5]), ([6], [6]), ([1, 7], [1, 7]), ([0, 1, 2, 3, 4, 5, 6, 7, 8], []), ([9, 8, 8, 0, 1, 2, 3, 4, 5, 6, 7, 8], [8, 9])])
def triglyphref03_Nums.B5 : List Nat := [0, 1, 0, 0, 12, 28, 60, 124, 255, 511, 1023]
theorem triglyphref03_Nums.tab5 : rtab .any (opsOf Try.f20 5) = triglyphref03_Nums.T5 := by kernel_rfl
theorem triglyphref03_Nums.bits5 : waitsOk triglyphref03_Nums.T5.2 triglyphref03_Nums.B5 = true := by kernel_rfl
set_option maxHeartbeats 8000000 in
set_option maxRecDepth 100000 in
theorem triglyphref03_Nums.calls (k : Nat) (A0 : Option Addr) (c0 : Nat) (l0 : List Int) (r1 : List Int) (r2 : List (S39)) (w : World) (hr0 : Kd.C (Kd.int .i64) w A0 l0.length l0) (hc0 : l0.length ≤ c0) (h : triglyphref03_Nums.f k l0 = some (r1, r2)) :
  Calls Try.prog 20 #[.slice A0 l0.length c0] w fun e w' => ∃ v0_ v1_ : Value, e = .returned (.agg #[v0_, v1_]) ∧ Kd.R (Kd.int .i64) 3 w' w.heap.size (fun _ => True) v0_ r1 ∧ Kd.R k39 39 w' w.heap.size (fun k_ => some k_ ≠ (v0_ : Value).ownBlock) v1_ r2 ∧ Below w.heap.size w w' := by
 have hu25 := Try.underlying25
 have hu39 := Try.underlying39
 have HR0 := gA hr0
 have HC0 := gA hc0
 clear hr0 hc0
 have HB := gA (Below.refl w.heap.size w)
 have H : (triglyphref03_Nums.l0 k l0 0 (([(l0.length : Int)] : List Int)) ([] : List (S39))) = some (r1, r2) := h
 clear h
 obtain ⟨y390, hy390⟩ : ∃ y_ : List Int, y_ = (([(l0.length : Int)] : List Int)) := ⟨_, rfl⟩
 replace H : (triglyphref03_Nums.l0 k l0 0 y390 ([] : List (S39))) = some (r1, r2) := by first | (rw [hy390]; with_reducible exact H) | (have H2_ := (Option.bind_some _ _).symm.trans H; rw [hy390]; with_reducible exact H2_) | (have H2_ := (Option.bind_some _ _).symm.trans H; with_reducible exact H2_) | with_reducible exact H | (rw [hy390]; exact H) | exact H
 have Ny390 := gA hy390
 clear hy390
 have H' := gA H
 clear H
 go_enter Try.func20, Try.ntmps20
 go_wp2_with (first | ((with_reducible refine gate_dst (N := 2) rfl ?_); refine box_event ?hg (N := 2) ?hd (cs := #[.slice none 0 0, .slice none 0 0]) (t := 25) ?hr ?_; (case hd => rfl); (case hg => rfl); (case hr => first | (go_simp; done) | (go_simp; rfl)); intro gb389 hg w2 hbox hb; have BK389 := gA (hbox); have GW389 := gA ((by rw [hg]; exact (below_size (gB HB)) : w.heap.size ≤ gb389)); have GE389 := gA ((by rw [hg]; exact (below_size (gB HB)) : w.heap.size ≤ gb389)); replace HB := gA (below_step (gB HB) hb); clear hb hbox hg) | ((with_reducible refine gate_dst (N := 7) rfl ?_); refine Kd.R_lit (Kd.int .i64) _ 3 ?hg (N := 7) ?hd (xs := ([(l0.length : Int)] : List Int)) (inner := [.int .i64 (l0.length : Int)]) (ok := fun _ => True) (okp := fun _ => True) ?hr ?hp (fun _ hk => hk) trivial (Below.refl _ _) (Nat.le_refl _) (by simp) ?_; (case hd => rfl); (case hg => rfl); (case hr => first | (go_simp; done) | (go_simp; rfl)); (case hp => exact (Reps.one (show Kd.M (Kd.int .i64) _ _ _ (l0.length : Int) [.int .i64 (l0.length : Int)] from rfl) (Reps.none _ _))); intro v391 w3 ho4 hb hg_ hnew_; clear hg_ hnew_; (first | rw [← Ny390.out] at ho4 | (simp only [Int.reduceToNat] at ho4; rw [← Ny390.out] at ho4)); have HO392 := gA (Kd.R_lower ho4 (below_size (gB HB))); replace BK389 := gA (blk_below (gK BK389) hb); replace HB := gA (below_step (gB HB) hb); clear hb ho4; obtain ⟨Ao5, co5, eo5⟩ := Kd.R_slice HO392.out; subst eo5) | ((with_reducible refine gate_dst (N := 3) rfl ?_); refine box_event ?hg (N := 3) ?hd (cs := #[.slice none 0 0, .slice none 0 0]) (t := 25) ?hr ?_; (case hd => rfl); (case hg => rfl); (case hr => first | (go_simp; done) | (go_simp; rfl)); intro gb393 hg w6 hbox hb; replace HO392 := gA (Kd.R_below (gR HO392) hb); have BK393 := gA (hbox); have GW393 := gA ((by rw [hg]; exact (below_size (gB HB)) : w.heap.size ≤ gb393)); have GE393 := gA ((by rw [hg]; exact (below_size (gB HB)) : w.heap.size ≤ gb393)); replace HB := gA (below_step (gB HB) hb); have NB389_393 := gA ((by rw [hg]; exact Nat.ne_of_lt (blk_lt (gK BK389)) : gb389 ≠ gb393)); have NB393_389 := gA ((by rw [hg]; exact Nat.ne_of_gt (blk_lt (gK BK389)) : gb393 ≠ gb389)); replace BK389 := gA (blk_below (gK BK389) hb); clear hb hbox hg; have hnb7 := NB393_389.out; have hnc7 := NB389_393.out; obtain ⟨hcz8_0, hcz8_1, hfz8_0, hfz8_1⟩ := gz2 BK393))
 go_loopg [4] k (fun kq v4 w' => ∃ (x4_1 : Int) (x394001_1 : List (S39)) (u394001 : Value), v4 = .int .i64 x4_1 ∧ Aside0 (triglyphref03_Nums.l0 kq l0 x4_1 y390 x394001_1 = some (r1, r2)) ∧ Aside0 (kq ≤ k) ∧ Aside0 (Kd.R (Kd.int .i64) 3 w' w.heap.size (fun _ => True) (.slice Ao5 y390.length co5) y390) ∧ Aside0 (Kd.R k39 39 w' w.heap.size (fun k_ => some k_ ≠ ((.slice Ao5 y390.length co5) : Value).ownBlock ∧ k_ ≠ gb389 ∧ k_ ≠ gb393) u394001 x394001_1) ∧ Aside0 (w'.heap[gb389]? = some (.cells #[(.slice none 0 0), (.slice none 0 0)] 25 (0, 0))) ∧ Aside0 (w'.heap[gb393]? = some (.cells #[(.slice Ao5 y390.length co5), u394001] 25 (0, 0))) ∧ Aside0 (Below w.heap.size w w'))
 case atStart => exact ⟨(0), (([] : List (S39))), (.slice none 0 0), (rfl), H', ⟨Nat.le_refl _⟩, ⟨Kd.R_mono (Kd.R_far (p := ⟨gb393, 1, none⟩) (Kd.R_far (p := ⟨gb393, 0, none⟩) (Kd.R_types HO392.out BK393.out (by decide)) (fun _ hk => hk.2) (.slice Ao5 y390.length co5)) (fun _ hk => hk.2) (.slice none 0 0)) (fun _ hk => trivial)⟩, ⟨by first | exact Kd.R_nil _ _ _ _ _ | exact Kd.N_nil _ _ _ _ _ | exact Kd.V_nil _ _ _ _ _ | exact Kd.Q_nil _ _ _ _ _ | exact Kd.S_nil _ _ _ _ _⟩, ⟨by refine blk_far ?_ NB389_393.out _; refine blk_far ?_ NB389_393.out _; exact gK BK389⟩, ⟨by refine blk_put (cs := #[.slice Ao5 y390.length co5, .slice none 0 0]) ?_ 1 _ rfl; refine blk_put (cs := #[.slice none 0 0, .slice none 0 0]) ?_ 0 _ rfl; exact gK BK393⟩, ⟨by repeat first | exact gB HB | refine below_set ?_ GE389.out | refine below_set ?_ GE393.out⟩⟩
 case round =>
  clear H'
  try clear c2
  try clear p2
  try clear c7
  try clear hcz8_0
  try clear hcz8_1
  try clear hfz8_0
  try clear hfz8_1
  obtain ⟨x4_1, x394001_1, u394001, rfl, HA, HK1, HO_394000, HO_394001, BK389, BK393, HB⟩ := hrel
  cases gk with
  | zero => exact absurd HA.out (by simp [triglyphref03_Nums.l0])
  | succ k1 =>
   have H := HA.out; clear HA
   simp only [triglyphref03_Nums.l0] at H
   by_cases c9 : x4_1 < (l0.length : Int)
   ·rw [if_pos c9] at H
    have c9b0 := decide_eq_true c9
    clear c9
    obtain ⟨c10, H⟩ := iS H
    have c10b0 := decide_eq_true c10
    clear c10
    obtain ⟨c11, H⟩ := iS H
    have LMc11 := gA c11
    clear c11
    obtain ⟨y395, hy395⟩ : ∃ y_ : List (S39), y_ = (x394001_1 ++ [(⟨0, rd l0 x4_1, ([] : List (S25))⟩ : S39)]) := ⟨_, rfl⟩
    replace H : (triglyphref03_Nums.l0 k1 l0 (wrap64 (x4_1 + 1)) y390 y395) = some (r1, r2) := by first | (rw [hy395]; with_reducible exact H) | (have H2_ := (Option.bind_some _ _).symm.trans H; rw [hy395]; with_reducible exact H2_) | (have H2_ := (Option.bind_some _ _).symm.trans H; with_reducible exact H2_) | with_reducible exact H | (rw [hy395]; exact H) | exact H
    have Ny395 := gA hy395
    clear hy395
    have H' := gA H
    clear H
    try go_wp2
    replace HO_394000 := gA (Kd.R_drew HO_394000.out); replace HO_394001 := gA (Kd.R_drew HO_394001.out); replace BK389 := gA (blk_drew BK389.out); replace BK393 := gA (blk_drew BK393.out); replace HB := gA (below_drew1 HB.out)
    have p394 : 0 ≤ (x4_1 : Int) := of_decide_eq_true (by assumption)
    have q394 : x4_1 < (l0.length : Int) := of_decide_eq_true (by assumption)
    obtain ⟨ad394, e394, hx394_0⟩ := Kd.at_int HR0.out x4_1 p394 q394
    have hw394_0 := hx394_0
    cases e394
    replace hx394_0 := (HB.out.cell (World.block_lt_of_cell? w _ hx394_0)).trans hx394_0
    replace p394 := eq_true p394
    replace q394 := eq_true q394
    refine start_ (n := 11) (S := fun w' => w'.cell? ⟨gb393, 0, none⟩ = some (.slice Ao5 y390.length co5) ∧ w'.cell? ⟨gb393, 1, none⟩ = some (u394001) ∧ w'.cell? (ad394.add (x4_1).toNat) = some (.int .i64 (rd l0 x4_1))) (ds := [10]) #[false, false, false, false, false, false, false, false, false, false, false] (by kernel_rfl) rfl rfl ⟨(blk_cell BK393.out 0).trans rfl, (blk_cell BK393.out 1).trans rfl, ((HB.out.cell (World.block_lt_of_cell? w _ hw394_0)).trans hw394_0)⟩ (fun hHeld => ?_); refine with_tabW triglyphref03_Nums.tab5 triglyphref03_Nums.bits5 (fun HT_ HW_ => ?_)
    generalize wr.drew = w12 at HO_394000 HO_394001 BK389 BK393 HB hx394_0 hHeld ⊢
    refine pure_ (i := 0) (N := some 15) (v := ?_) (a' := ?_) #[true, false, false, false, false, false, false, false, false, false, false] rfl rfl (any_of HT_.out (by kernel_rfl)) (fun _ _ _ h => h) (Or.inl ⟨by rfl, ?_⟩) ?_ ?_; rotate_left
    ·intro w'; go_simp; with_reducible rfl
    rotate_left
    ·simp only [Act.put, List.setIfInBounds_toArray, List.set_cons_zero, List.set_cons_succ, i64_w, i32_w]; rfl
    refine pure_ (i := 2) (N := some 17) (v := ?_) (a' := ?_) #[true, false, true, false, false, false, false, false, false, false, false] rfl rfl (any_of HT_.out (by kernel_rfl)) (fun _ _ _ h => h) (Or.inl ⟨by rfl, ?_⟩) ?_ ?_; rotate_left
    ·intro w'; go_simp; with_reducible rfl
    rotate_left
    ·simp only [Act.put, List.setIfInBounds_toArray, List.set_cons_zero, List.set_cons_succ, i64_w, i32_w]; rfl
    refine pure_ (i := 3) (N := some 18) (v := ?_) (a' := ?_) #[true, false, true, true, false, false, false, false, false, false, false] rfl rfl (any_of HT_.out (by kernel_rfl)) (fun _ _ _ h => h) (Or.inl ⟨by rfl, ?_⟩) ?_ ?_; rotate_left
    ·intro w'; go_simp; with_reducible rfl
    rotate_left
    ·simp only [Act.put, List.setIfInBounds_toArray, List.set_cons_zero, List.set_cons_succ, i64_w, i32_w]; rfl
    refine pure_ (i := 4) (N := some 19) (v := ?_) (a' := ?_) #[true, false, true, true, true, false, false, false, false, false, false] rfl rfl (any_of HT_.out (by kernel_rfl)) (fun _ _ _ h => h) (Or.inl ⟨by rfl, ?_⟩) ?_ ?_; rotate_left
    ·intro w'; go_simp; with_reducible rfl
    rotate_left
    ·simp only [Act.put, List.setIfInBounds_toArray, List.set_cons_zero, List.set_cons_succ, i64_w, i32_w]; rfl
    refine take_ (i := 1) (N := some 16) (v := ?_) (a' := ?_) #[true, true, true, true, true, false, false, false, false, false, false] rfl rfl (take_ofW HT_.out HW_.out (by kernel_rfl)) (fun _ _ _ h => h) (Or.inl ⟨by rfl, ?_⟩) hHeld ?_ ?_; rotate_left
    ·rintro w' ⟨s0, s1, s2⟩; go_simp; with_reducible rfl
    rotate_left
    ·simp only [Act.put, List.setIfInBounds_toArray, List.set_cons_zero, List.set_cons_succ, i64_w, i32_w]; rfl
    refine take_ (i := 5) (N := some 20) (v := ?_) (a' := ?_) #[true, true, true, true, true, true, false, false, false, false, false] rfl rfl (take_ofW HT_.out HW_.out (by kernel_rfl)) (fun _ _ _ h => h) (Or.inl ⟨by rfl, ?_⟩) hHeld ?_ ?_; rotate_left
    ·rintro w' ⟨s0, s1, s2⟩; go_simp; with_reducible rfl
    rotate_left
    ·simp only [Act.put, List.setIfInBounds_toArray, List.set_cons_zero, List.set_cons_succ, i64_w, i32_w]; rfl
    refine pure_ (i := 6) (N := some 21) (v := ?_) (a' := ?_) #[true, true, true, true, true, true, true, false, false, false, false] rfl rfl (any_of HT_.out (by kernel_rfl)) (fun _ _ _ h => h) (Or.inl ⟨by rfl, ?_⟩) ?_ ?_; rotate_left
    ·intro w'; go_simp; with_reducible rfl
    rotate_left
    ·simp only [Act.put, List.setIfInBounds_toArray, List.set_cons_zero, List.set_cons_succ, i64_w, i32_w]; rfl
    refine one_ (i := 7) (N := some 22) #[true, true, true, true, true, true, true, true, false, false, false] rfl rfl (one_of HT_.out (by kernel_rfl)) (by decide) (fun K hK => ?_)
    refine value_ (w1 := ?_) (v := ?_) (by rfl) rfl ?_ ?_
    rotate_left 2
    ·go_simp
     constructor
     ·rfl
     ·rfl
    refine hK.out _ _ ⟨(blk_cell (blk_alloc BK393.out _) 0).trans rfl, (blk_cell (blk_alloc BK393.out _) 1).trans rfl, (World.cell?_alloc_lt _ _ _ (World.block_lt_of_cell? _ _ (((HB.out.cell (World.block_lt_of_cell? w _ hw394_0)).trans hw394_0)))).trans (((HB.out.cell (World.block_lt_of_cell? w _ hw394_0)).trans hw394_0))⟩ (fun hHeld => ?_); clear hK K
    refine norm_ (a' := ?_) ?_ ?_; rotate_left
    ·show Act.put _ (some 22) _ = _
     simp only [Act.put, List.setIfInBounds_toArray, List.set_cons_zero, List.set_cons_succ, i64_w, i32_w]; rfl
    refine one_ (i := 8) (N := some 23) #[true, true, true, true, true, true, true, true, true, false, false] rfl rfl (one_of HT_.out (by kernel_rfl)) (by decide) (fun K hK => ?_)
    refine Kd.R_append_step k39 (w0 := w) w.heap.size (by rfl) (.tmp 16) (.tmp 22) 23 39 (.agg #[(.int .i64 0), (.int .i64 0), (.slice none 0 0)]) 40 rfl Try.underlying23 info39 rfl (by decide) (by omega) u394001 x394001_1 (⟨0, rd l0 x4_1, ([] : List (S25))⟩ : S39) [.int .i64 0, .int .i64 (rd l0 x4_1), .slice none 0 0] (fun k_ => some k_ ≠ (.slice Ao5 y390.length co5 : Value).ownBlock ∧ k_ ≠ gb389 ∧ k_ ≠ gb393) (fun k_ => ((fun k_ => some k_ ≠ (.slice Ao5 y390.length co5 : Value).ownBlock ∧ k_ ≠ gb389 ∧ k_ ≠ gb393)) k_ ∧ some k_ ≠ (u394001 : Value).ownBlock) rfl rfl ?aP (fun _ hk => hk) ?aF ?aO ?aB ?aS ?aL ?_
    (case aP => exact k39_mkM _ _ _ (⟨0, rd l0 x4_1, ([] : List (S25))⟩ : S39) (Kd.R_nil _ _ _ _ _))
    (case aB => exact (gB HB))
    (case aF => exact (fun k_ hk => ⟨Kd.fresh' (Kd.R_lt (gR HO_394000)) k_ hk, Kd.freshB (gK BK389) k_ hk, Kd.freshB (gK BK393) k_ hk⟩))
    (case aO => exact (gR HO_394001))
    (case aS => exact (below_size (gB HB)))
    (case aL => have := LMc11.out; omega)
    intro v396 w13 ho hb hg hat
    rw [← Ny395.out] at ho
    replace HO_394000 := gA (Kd.R_over' (gR HO_394000) (Kd.R_typed (gR HO_394001)) (by decide) hg); replace BK389 := gA (blk_grown (gK BK389) hg (Kd.R_ne HO_394001.out BK389.out (by decide))); replace BK393 := gA (blk_grown (gK BK393) hg (Kd.R_ne HO_394001.out BK393.out (by decide))); replace HB := gA (hb); have HO397 := gA (ho); clear HO_394001 ho hb hg hat
    obtain ⟨Ao14, co14, eo14⟩ := Kd.R_slice HO397.out
    (first | subst eo14 | (injection eo14 with f1_ f2_ f3_; have f4_ := f1_.symm; have f5_ := f3_.symm; clear f1_ f2_ f3_; subst f4_; subst f5_))
    refine hK.out _ _ ⟨(blk_cell BK393.out 0).trans rfl, (blk_cell BK393.out 1).trans rfl, ((HB.out.cell (World.block_lt_of_cell? w _ hw394_0)).trans hw394_0)⟩ (fun hHeld => ?_); clear hK K
    refine norm_ (a' := ?_) ?_ ?_; rotate_left
    ·show Act.put _ (some 23) _ = _
     simp only [Act.put, List.setIfInBounds_toArray, List.set_cons_zero, List.set_cons_succ, i64_w, i32_w]; rfl
    refine pure_ (i := 9) (N := some 24) (v := ?_) (a' := ?_) #[true, true, true, true, true, true, true, true, true, true, false] rfl rfl (any_of HT_.out (by kernel_rfl)) (fun _ _ _ h => h) (Or.inl ⟨by rfl, ?_⟩) ?_ ?_; rotate_left
    ·intro w'; go_simp; with_reducible rfl
    rotate_left
    ·simp only [Act.put, List.setIfInBounds_toArray, List.set_cons_zero, List.set_cons_succ, i64_w, i32_w]; rfl
    refine last_ (i := 10) (N := none) #[true, true, true, true, true, true, true, true, true, true, true] rfl rfl (one_of HT_.out (by kernel_rfl)) (by decide) (fun K hK => ?_)
    have hs15 := gz BK393 1 rfl
    have hfs15 := blk_frozen BK393.out 1
    have hns15_0 := NB389_393.out
    have hms15_0 := NB393_389.out
    refine skip_ (w1 := ?_) (by rfl) rfl ?_ ?_; rotate_left
    ·go_simp; rfl
    refine hK.out _ _ ?_; clear hK K
    refine done_ (done_of HT_.out (by kernel_rfl)) ?_
    try go_wp2
    go_roundg k1
    case measure => have := HK1.out; omega
    case rel => exact ⟨(wrap64 (x4_1 + 1)), (y395), (.slice Ao14 y395.length co14), (rfl), H', ⟨by have := HK1.out; omega⟩, ⟨Kd.R_mono (Kd.R_far (p := ⟨gb393, 1, none⟩) (Kd.R_types HO_394000.out BK393.out (by decide)) (fun _ hk => hk.2) (.slice Ao14 y395.length co14)) (fun _ hk => trivial)⟩, ⟨Kd.R_mono (Kd.R_far (p := ⟨gb393, 1, none⟩) (Kd.R_mono HO397.out (fun k_ hk => (⟨hk, hk.2.2⟩ : _ ∧ k_ ≠ gb393))) (fun _ hk => hk.2) (.slice Ao14 y395.length co14)) (fun _ hk => ⟨hk.1.1, ⟨hk.1.2.1, hk.1.2.2⟩⟩)⟩, ⟨by refine blk_far ?_ NB389_393.out _; exact gK BK389⟩, ⟨by refine blk_put (cs := #[.slice Ao5 y390.length co5, u394001]) ?_ 1 _ rfl; exact gK BK393⟩, ⟨by repeat first | exact gB HB | refine below_set ?_ GE389.out | refine below_set ?_ GE393.out⟩⟩
   ·rw [if_neg c9] at H
    have c9b0 := decide_eq_false c9
    clear c9
    simp only [Option.some.injEq, Prod.mk.injEq] at H
    obtain ⟨rfl, rfl⟩ := H
    have hnb16 := NB393_389.out
    have hnc16 := NB389_393.out
    obtain ⟨hcz17_0, hcz17_1, hfz17_0, hfz17_1⟩ := gz2 BK393
    obtain ⟨hcz18_0, hcz18_1, hfz18_0, hfz18_1⟩ := gz2 BK389
    obtain ⟨Ao19, co19, eo19⟩ := Kd.R_slice HO_394001.out
    subst eo19
    go_wp2
    refine bodyPost_ret (results_cell_row rfl _ _ gb389 25 #[.slice Ao5 y390.length co5, .slice Ao19 x394001_1.length co19] (0, 0) _ rfl (by refine blk_put (cs := #[.slice Ao5 y390.length co5, .slice none 0 0]) ?_ 1 _ rfl; refine blk_put (cs := #[.slice none 0 0, .slice none 0 0]) ?_ 0 _ rfl; exact gK BK389) Try.underlying25 rfl (by kernel_rfl)) rfl ?_
    exact ⟨_, _, rfl, Kd.R_mono (Kd.R_far (p := ⟨gb389, 1, none⟩) (Kd.R_far (p := ⟨gb389, 0, none⟩) (Kd.R_types HO_394000.out BK389.out (by decide)) (fun _ hk => hk.2) (.slice Ao5 y390.length co5)) (fun _ hk => hk.2) (.slice Ao19 x394001_1.length co19)) (fun _ hk => trivial), Kd.R_mono (Kd.R_far (p := ⟨gb389, 1, none⟩) (Kd.R_far (p := ⟨gb389, 0, none⟩) (Kd.R_mono HO_394001.out (fun k_ hk => (⟨hk, hk.2.1⟩ : _ ∧ k_ ≠ gb389))) (fun _ hk => hk.2) (.slice Ao5 y390.length co5)) (fun _ hk => hk.2) (.slice Ao19 x394001_1.length co19)) (fun _ hk => hk.1.1), by repeat first | exact gB HB | refine below_set ?_ GE389.out | refine below_set ?_ GE393.out⟩
structure BxS (w W : World) (L : List (Nat × Array Value × Nat)) : Prop where
 bel : Below w.heap.size w W
 blk : ∀ p ∈ L, W.heap[p.1]? = some (.cells p.2.1 p.2.2 (0, 0))
 fr : ∀ p ∈ L, w.heap.size ≤ p.1
theorem BxS.step {w W W' : World} {L : List (Nat × Array Value × Nat)} (h : BxS w W L) (hb : Below W.heap.size W W') : BxS w W' L := ⟨below_step h.bel hb, fun p hp => blk_below (h.blk p hp) hb, h.fr⟩
theorem BxS.nil (w : World) : BxS w w [] := ⟨Below.refl _ _, fun _ h => (by cases h), fun _ h => (by cases h)⟩
theorem BxS.cons {w W : World} {L : List (Nat × Array Value × Nat)} (h : BxS w W L) (cs : Array Value) (t : Nat) : BxS w (W.alloc (.cells cs t)) ((W.heap.size, cs, t) :: L) := by
 refine ⟨below_alloc h.bel _, fun p hp => ?_, fun p hp => ?_⟩
 ·rcases List.mem_cons.1 hp with rfl | hp
  ·exact blk_new W (.cells cs t (0, 0))
  ·exact blk_alloc (h.blk p hp) _
 ·rcases List.mem_cons.1 hp with rfl | hp
  ·exact h.bel.size
  ·exact h.fr p hp
theorem BxS.at_ {w W : World} {L : List (Nat × Array Value × Nat)} (h : BxS w W L) (i : Nat) {p : Nat × Array Value × Nat} (hp : L[i]? = some p) : W.heap[p.1]? = some (.cells p.2.1 p.2.2 (0, 0)) := h.blk p (List.mem_of_getElem? hp)
/-- A box of the call's own that nobody needs any more. -/
theorem BxS.drop {w W : World} {p : Nat × Array Value × Nat} {L : List (Nat × Array Value × Nat)} (h : BxS w W (p :: L)) : BxS w W L := ⟨h.bel, fun q hq => h.blk q (List.mem_cons_of_mem _ hq), fun q hq => h.fr q (List.mem_cons_of_mem _ hq)⟩
structure OutS (w W : World) (L : List (Nat × Array Value × Nat)) (go : Nat) (v0 u1 v1 : Value) (s : List Int) (c : List S39) : Prop where
 bx : BxS w W L
 fr : ∀ p ∈ L, p.1 ≠ go
 out : W.heap[go]? = some (.cells #[v0, u1] 25 (0, 0))
 ofr : w.heap.size ≤ go
 r0 : Kd.R (Kd.int .i64) 3 W w.heap.size (fun k => k ≠ go ∧ ∀ p ∈ L, k ≠ p.1) v0 s
 r1 : Kd.R k39 39 W w.heap.size (fun k => some k ≠ v0.ownBlock ∧ k ≠ go ∧ ∀ p ∈ L, k ≠ p.1) v1 c
section
variable {w W W' : World} {L : List (Nat × Array Value × Nat)} {go : Nat} {v0 u1 v1 : Value} {s : List Int} {c : List S39}
theorem OutS.step (h : OutS w W L go v0 u1 v1 s c) (hb : Below W.heap.size W W') : OutS w W' L go v0 u1 v1 s c := ⟨h.bx.step hb, h.fr, blk_below h.out hb, h.ofr, Kd.R_below h.r0 hb, Kd.R_below h.r1 hb⟩
end
theorem BxS.cons' {w W : World} {L : List (Nat × Array Value × Nat)} (h : BxS w W L) (cs : Array Value) (t : Nat) {g : Nat} (hg : W.heap.size = g) : BxS w (W.alloc (.cells cs t)) ((g, cs, t) :: L) := hg ▸ h.cons cs t
theorem hf_z2 {W : World} {g t : Nat} {x y : Value} (h : W.heap[g]? = some (.cells #[x, y] t (0, 0))) (a b : Value) : ((W.setCell ⟨g, 0, none⟩ a).setCell ⟨g, 1, none⟩ b).heap[g]? = some (.cells #[a, b] t (0, 0)) := blk_put (cs := #[a, y]) (blk_put (cs := #[x, y]) h 0 _ rfl) 1 _ rfl
theorem hf_litC {α : Type} {d : Kd α} {W : World} {g e : Nat} (xs : List α) (inner : List Value) (h : W.heap[g]? = some (.cells inner.toArray e (0, 0))) (hr : Reps (d.K W) d.sz xs inner) (hm : xs.length ≤ 9223372036854775807) : d.C W (some ⟨g, 0, none⟩) xs.length xs := by
 refine ⟨rfl, hm, fun _ => ⟨_, rfl, fun j p hj => ⟨(inner.drop (j * d.sz)).take d.sz, d.K_len (hr.2 j p hj), hr.2 j p hj, fun i u hu => ?_⟩⟩⟩
 rw [add_plain, blk_cell h (j * d.sz + i)]
 have hi : i < d.sz := by
  have := (List.getElem?_eq_some_iff.1 hu).1
  rw [List.length_take] at this
  omega
 rw [List.getElem?_take_of_lt hi, List.getElem?_drop] at hu
 simpa using hu
section
variable {α : Type} {d : Kd α} {e base n c g : Nat} {ok : Nat → Prop} {W w1 : World} {A : Option Addr} {xs : List α}
theorem hf_F1 (h : d.R e W base ok (.slice A n c) xs) : Kd.F d W (fun _ => True) A n xs := Kd.F_mono (Kd.R_F h) (fun _ _ => trivial)
theorem hf_F2 (h : d.R e W base ok (.slice A n c) xs) (hg : g < base) : Kd.F d W (fun k => k ≠ g) A n xs := Kd.F_mono (Kd.R_F (Kd.R_bound h)) (fun _ hk => Nat.ne_of_gt (Nat.lt_of_lt_of_le hg hk.2.1))
theorem hf_F3 (hg : g = W.heap.size) (h : Kd.F d W (fun _ => True) A n xs) (hb : Below W.heap.size W w1) : Kd.F d w1 (fun k => k ≠ g) A n xs := Kd.F_mono (Foot.old h hb) (fun _ hk => hg ▸ Nat.ne_of_lt hk.2)
theorem hf_F4 (h : Kd.F d W ok A n xs) (hb : Below W.heap.size W w1) : Kd.F d w1 ok A n xs := Foot.step h (fun k _ hlt => hb.block k hlt)
theorem hf_F5a (h : Kd.F d W (fun k => k ≠ g) A n xs) (x y : Value) : Kd.F d ((W.setCell ⟨g, 0, none⟩ x).setCell ⟨g, 1, none⟩ y) (fun k => k ≠ g) A n xs := Foot.step h (fun k hk _ => (Below.heap_setCell _ ⟨g, 1, none⟩ y k hk).trans (Below.heap_setCell _ ⟨g, 0, none⟩ x k hk))
theorem hf_F6 (h : Kd.F d W ok A n xs) (hb : Below W.heap.size W w1) : Kd.F d w1 ok A n xs := Foot.step h (fun k _ hlt => hb.block k hlt)
end
theorem hf_st2 {w W : World} {g : Nat} (h : Below w.heap.size w W) (hg : w.heap.size ≤ g) (x y : Value) : Below w.heap.size w ((W.setCell ⟨g, 0, none⟩ x).setCell ⟨g, 1, none⟩ y) := below_set (below_set h hg) hg
theorem BxS.add {w W W' : World} {L : List (Nat × Array Value × Nat)} (h : BxS w W L) (hb : Below W.heap.size W W') {g t : Nat} {cs : Array Value} (hg : W'.heap[g]? = some (.cells cs t (0, 0))) (hl : W.heap.size ≤ g) : BxS w W' ((g, cs, t) :: L) := by
 refine ⟨below_step h.bel hb, fun p hp => ?_, fun p hp => ?_⟩
 ·rcases List.mem_cons.1 hp with rfl | hp
  ·exact hg
  ·exact blk_below (h.blk p hp) hb
 ·rcases List.mem_cons.1 hp with rfl | hp
  ·exact Nat.le_trans h.bel.size hl
  ·exact h.fr p hp
theorem hf_row_step {P : Program} {ops : Array Oper} {o : Oper} {a : Act} {Q : Exit → Act → World → Prop} {Kc : Act → World → Prop} {W : World} (hw : Region.wanted o (yielded ops a.tmps) = true) {N : Tmp} (_hd : o.dst = some N) {cs : Array Value} {t : TypeId} {n : Nat}
  (hrun : (execOp a.eval o).run P W = .ok (.value (.slice (some ⟨W.heap.size, 0, none⟩) n n)) (W.alloc (.cells cs t (0, 0))))
  (h : ∀ g, g = W.heap.size → ∀ w1, w1.heap[g]? = some (.cells cs t (0, 0)) → Below W.heap.size W w1 → Kc (a.put o.dst (.slice (some ⟨g, 0, none⟩) n n)) w1) : if Region.wanted o (yielded ops a.tmps) = true then Oper.wp P o a W Kc Q else Kc (a.put o.dst undef) W :=
 event_step hw hrun (h _ rfl _ (blk_new W _) (below_alloc (Below.refl _ _) _))
theorem hf_add (a : Addr) (n : Nat) (h : n ≠ 0) : a.add n = ⟨a.block, a.off + n, none⟩ := by unfold Addr.add; rw [if_neg h]
def triglyphlaw05_works.f (k : Nat)  : Option (Bool) :=
 (triglyphref03_Atom.f 6).bind fun t1 => ((layout_Mo.f k 5 t1.1 t1.2).bind fun t10 => ((triglyphref03_Nums.f k ([2, 3] : List Int)).bind fun t24 => ((layout_Reshape.f k t24.1 t24.2 t10.1 t10.2.1).bind fun t34 => ((layout_Mo.f k 11 t34.1 t34.2.1).bind fun t47 => ((layout_Mo.f k 0 t10.1 t10.2.1).bind fun t58 => (if t10.2.2 = 0 then (if t34.2.2 = 0 then (if t47.2.2 = 0 then (if (t47.1.length : Int) = 2 then (if (0 : Int) < (t47.1.length : Int) then (if (rd t47.1 0) = 3 then (if (1 : Int) < (t47.2.1.length : Int) then (if (rd_T39 t47.2.1 1).f1 = 3 then (if t58.2.2 = 1 then (some true) else (none)) else (none)) else (none)) else (none)) else (none)) else (none)) else (none)) else (none)) else (none)))))))
theorem triglyphlaw05_works.mono : ∀ k, LeO (triglyphlaw05_works.f k ) (triglyphlaw05_works.f (k + 1) ) := by
 intro  k
 unfold triglyphlaw05_works.f
 repeat (first | exact LeO.refl _ | exact LeO.none _ | refine LeO.ite ?_ ?_ | refine LeO.bind (layout_Mo.mono _ _ _ _) (fun _ => ?_) | refine LeO.bind (layout_Reshape.mono _ _ _ _ _) (fun _ => ?_) | refine LeO.bind (triglyphref03_Nums.mono _ _) (fun _ => ?_) | refine LeO.bind (LeO.refl _) (fun _ => ?_))
def triglyphlaw05_works.T2 : Bool × List (List Nat × List Nat) := (true, [([], []), ([0], [0]), ([], []), ([1, 2, 1], [1, 2]), ([3], [3]), ([4], [4]), ([4], [4]), ([], []), ([7, 5, 3, 0, 1, 2, 3, 4, 5, 7], [5, 7]), ([6, 8, 0, 1, 2, 3, 4, 5, 6, 7, 8], [6])])
def triglyphlaw05_works.B2 : List Nat := [0, 1, 0, 7, 15, 31, 31, 0, 191, 511]
theorem triglyphlaw05_works.tab2 : rtab .any (opsOf Try.f10 2) = triglyphlaw05_works.T2 := by kernel_rfl
theorem triglyphlaw05_works.bits2 : waitsOk triglyphlaw05_works.T2.2 triglyphlaw05_works.B2 = true := by kernel_rfl
set_option maxHeartbeats 8000000 in
set_option maxRecDepth 100000 in
theorem triglyphlaw05_works.calls (k : Nat)  (r : Bool) (w : World)  (h : triglyphlaw05_works.f k  = some r) :
  Calls Try.prog 10 #[] w fun e w' => e = .returned (.bool r) ∧ Below w.heap.size w w' := by
 have HS := Aside0.mk (BxS.nil w)
 unfold triglyphlaw05_works.f at h
 go_enter Try.func10, Try.ntmps10
 obtain ⟨⟨t1_1, t1_2⟩, q_, h⟩ := Option.bind_eq_some_iff.1 h; have E2 := Aside0.mk q_; clear q_; dsimp only at h
 obtain ⟨⟨t10_1, t10_2, t10_3⟩, q_, h⟩ := Option.bind_eq_some_iff.1 h; have E11 := Aside0.mk q_; clear q_; dsimp only at h
 go_upto_region 2 with (first | (go_at_call 19; (with_reducible refine (triglyphref03_Atom.calls 6 _ _ _ E2.out).mono ?_); rintro e w3 ⟨v0_, v1_, rfl, h0_, h1_, hb⟩; obtain ⟨A4, c5, hv_, hl_, hf_⟩ := Kd.R_reads h0_; clear h0_; have CR6 := Aside0.mk (And.intro hf_ hl_); clear hf_ hl_; subst hv_; obtain ⟨A7, c8, hv_, hl_, hf_⟩ := Kd.R_reads h1_; clear h1_; have CR9 := Aside0.mk (And.intro hf_ hl_); clear hf_ hl_; subst hv_; have HS := Aside0.mk (HS.out.step hb); clear hb; skip) | (go_at_call 11; (with_reducible refine (layout_Mo.calls k 5 A4 c5 t1_1 _ A7 c8 t1_2 _ _ _ _ CR6.out.1 CR6.out.2 (Kd.V_mk CR9.out.2 (Kd.C_F k39_heap CR9.out.1)) E11.out).mono ?_); rintro e w12 ⟨v0_, v1_, rfl, h0_, h1_, hb⟩; obtain ⟨A13, c14, hv_, hl_, hf_⟩ := h0_; have CR15 := Aside0.mk (And.intro (Kd.F_now hf_) hl_); clear hf_ hl_; subst hv_; obtain ⟨A16, c17, hv_, hl_, hf_⟩ := h1_; have CR18 := Aside0.mk (And.intro (Kd.F_now hf_) hl_); clear hf_ hl_; subst hv_; have CR6 := Aside0.mk (And.intro (Kd.C_below CR6.out.1 hb) CR6.out.2); have CR9 := Aside0.mk (And.intro (Kd.C_below CR9.out.1 hb) CR9.out.2); have HS := Aside0.mk (HS.out.step hb); clear hb; skip))
 (try clear z0_0 z0_1); skip
 have HS := Aside0.mk (HS.out.cons' #[.slice A13 t10_1.length c14, .slice A16 t10_2.length c17] 25 (rfl))
 have CR6 := Aside0.mk (And.intro (Kd.C_alloc CR6.out.1 (.cells #[.slice A13 t10_1.length c14, .slice A16 t10_2.length c17] 25)) CR6.out.2)
 have CR9 := Aside0.mk (And.intro (Kd.C_alloc CR9.out.1 (.cells #[.slice A13 t10_1.length c14, .slice A16 t10_2.length c17] 25)) CR9.out.2)
 have CR15 := Aside0.mk (And.intro (Kd.C_alloc CR15.out.1 (.cells #[.slice A13 t10_1.length c14, .slice A16 t10_2.length c17] 25)) CR15.out.2)
 have CR18 := Aside0.mk (And.intro (Kd.C_alloc CR18.out.1 (.cells #[.slice A13 t10_1.length c14, .slice A16 t10_2.length c17] 25)) CR18.out.2)
 generalize w12.alloc (.cells #[.slice A13 t10_1.length c14, .slice A16 t10_2.length c17] 25) = w19 at HS CR6 CR9 CR15 CR18 ⊢
 generalize w12.heap.size = g20 at HS ⊢
 have z0_0 : w19.cell? ⟨g20, 0, none⟩ = some (.slice A13 t10_1.length c14) := (blk_cell (HS.out.at_ 0 rfl) 0).trans rfl; have z0_1 : w19.cell? ⟨g20, 1, none⟩ = some (.slice A16 t10_2.length c17) := (blk_cell (HS.out.at_ 0 rfl) 1).trans rfl
 obtain ⟨⟨t24_1, t24_2⟩, q_, h⟩ := Option.bind_eq_some_iff.1 h; have E25 := Aside0.mk q_; clear q_; dsimp only at h
 obtain ⟨⟨t34_1, t34_2, t34_3⟩, q_, h⟩ := Option.bind_eq_some_iff.1 h; have E35 := Aside0.mk q_; clear q_; dsimp only at h
 go_upto_region 2 with (fail)
 refine start_ (n := 10) (S := fun W' => Below w19.drew.heap.size w19.drew W') (ds := []) #[false, false, false, false, false, false, false, false, false, false] (by kernel_rfl) rfl rfl (Below.refl _ _) (fun hHeld => ?_)
 refine with_tabW triglyphlaw05_works.tab2 triglyphlaw05_works.bits2 (fun HT_ HW_ => ?_)
 (try clear z0_0 z0_1); have HS := Aside0.mk (HS.out.step (below_drew (Below.refl _ _)))
 have CR6 := Aside0.mk (And.intro (Kd.C_below CR6.out.1 (below_drew (Below.refl _ _))) CR6.out.2)
 have CR9 := Aside0.mk (And.intro (Kd.C_below CR9.out.1 (below_drew (Below.refl _ _))) CR9.out.2)
 have CR15 := Aside0.mk (And.intro (Kd.C_below CR15.out.1 (below_drew (Below.refl _ _))) CR15.out.2)
 have CR18 := Aside0.mk (And.intro (Kd.C_below CR18.out.1 (below_drew (Below.refl _ _))) CR18.out.2)
 generalize w19.drew = W21 at HS CR6 CR9 CR15 CR18 hHeld ⊢
 refine take_ (i := 2) (N := some 17) (v := ?_) (a' := ?_) #[false, false, true, false, false, false, false, false, false, false] rfl rfl (take_ofW HT_.out HW_.out (by kernel_rfl)) (fun _ _ _ h => h) (Or.inl ⟨by rfl, ?_⟩) hHeld ?_ ?_; rotate_left
 ·intro w' s0; have y0 : w'.cell? ⟨g20, 0, none⟩ = some (.slice A13 t10_1.length c14) := (blk_cell ((HS.out.step s0).at_ 0 rfl) 0).trans rfl; have y1 : w'.cell? ⟨g20, 1, none⟩ = some (.slice A16 t10_2.length c17) := (blk_cell ((HS.out.step s0).at_ 0 rfl) 1).trans rfl; go_simp; with_reducible rfl
 rotate_left
 ·simp only [Act.put, List.setIfInBounds_toArray, List.set_cons_zero, List.set_cons_succ, i64_w, i32_w]; rfl
 refine join_ (σ := Nat × Value × Value × Value × Value × Nat) 2 #[true, true, true, true, true, true, true, true, false, false] (fun s_ => [(15, .slice (some ⟨s_.1, 0, none⟩) 2 2), (16, .agg #[s_.2.1, s_.2.2.1]), (18, .tuple #[.agg #[s_.2.2.2.1, s_.2.2.2.2.1], .int .i64 t34_3]), (3, .pointer (some ⟨s_.2.2.2.2.2, 0, none⟩)), (14, .tuple #[.agg #[s_.2.2.2.1, s_.2.2.2.2.1], .int .i64 t34_3]), (19, .agg #[s_.2.2.2.1, s_.2.2.2.2.1]), (20, .int .i64 t34_3)]) (fun s_ w' => Below W21.heap.size W21 w' ∧ ((Kd.int .i64).C w' (some ⟨s_.1, 0, none⟩) 2 ([2, 3] : List Int)) ∧ (∃ A_ c_, s_.2.1 = .slice A_ (t24_1).length c_ ∧ (t24_1).length ≤ c_ ∧ Kd.F (Kd.int .i64) w' (fun k_ => k_ ≠ s_.2.2.2.2.2) A_ (t24_1).length t24_1) ∧ (∃ A_ c_, s_.2.2.1 = .slice A_ (t24_2).length c_ ∧ (t24_2).length ≤ c_ ∧ Kd.F k39 w' (fun k_ => k_ ≠ s_.2.2.2.2.2) A_ (t24_2).length t24_2) ∧ (∃ A_ c_, s_.2.2.2.1 = .slice A_ (t34_1).length c_ ∧ (t34_1).length ≤ c_ ∧ Kd.F (Kd.int .i64) w' (fun k_ => k_ ≠ s_.2.2.2.2.2) A_ (t34_1).length t34_1) ∧ (∃ A_ c_, s_.2.2.2.2.1 = .slice A_ (t34_2).length c_ ∧ (t34_2).length ≤ c_ ∧ Kd.F k39 w' (fun k_ => k_ ≠ s_.2.2.2.2.2) A_ (t34_2).length t34_2) ∧ (w'.heap[s_.2.2.2.2.2]? = some (.cells #[.slice none 0 0, .slice none 0 0] 25 (0, 0)) ∧ W21.heap.size ≤ s_.2.2.2.2.2)) ?_ ?_; rotate_left
 ·intro hCont
  refine two_ (i := 0) (j := 7) (Ni := some 15) (Nj := some 3) #[true, false, true, false, false, false, false, false, false, false] #[false, false, true, false, false, false, false, true, false, false] rfl rfl rfl rfl (two_of HT_.out (by kernel_rfl)) (by decide) (by decide) (fun K hK => ?_) (fun K hK => ?_)
  ·skip
   refine hf_row_step ?hg (N := 15) ?hd (cs := #[.int .i64 2, .int .i64 3]) (t := 2) (n := 2) ?hr ?_; (case hd => rfl); (case hg => rfl); (case hr => first | (go_simp; done) | (go_simp; rfl))
   intro g22 hg w1 hbox hb
   have CR23 := Aside0.mk (And.intro (hf_litC (d := (Kd.int .i64)) (W := w1) (g := g22) (e := 2) ([2, 3] : List Int) [.int .i64 2, .int .i64 3] hbox (Reps.snoc (Reps.snoc (Reps.none ((Kd.int .i64).K _) 1) rfl rfl) rfl rfl) (by decide)) (show ([2, 3] : List Int).length ≤ 2 from Nat.le_refl _)); clear hbox hg
   have hHeld := hHeld.trans (hb.mono hHeld.size); clear hb
   refine hK.out _ _ hHeld (fun hHeld => ?_); clear hK K
   refine norm_ (a' := ?_) ?_ ?_; rotate_left
   ·show Act.put _ (some 15) _ = _
    simp only [Act.put, List.setIfInBounds_toArray, List.set_cons_zero, List.set_cons_succ, i64_w, i32_w]; rfl
   refine two_ (i := 1) (j := 7) (Ni := some 16) (Nj := some 3) #[true, true, true, false, false, false, false, false, false, false] #[true, false, true, false, false, false, false, true, false, false] rfl rfl rfl rfl (two_of HT_.out (by kernel_rfl)) (by decide) (by decide) (fun K hK => ?_) (fun K hK => ?_)
   ·skip
    refine goes_ Try.func20 (by kernel_rfl) rfl #[.slice (some ⟨g22, 0, none⟩) ([2, 3] : List Int).length 2] (by rfl) rfl rfl (by first | rfl | (simp only [List.map_toArray, List.map_cons, List.map_nil]; rfl)) ?_
    refine (triglyphref03_Nums.calls k (some ⟨g22, 0, none⟩) 2 ([2, 3] : List Int) _ _ _ CR23.out.1 CR23.out.2 E25.out).mono ?_
    rintro e w1 ⟨v29, v33, rfl, hv29, hv33, hb⟩
    refine ⟨_, rfl, ?_⟩
    obtain ⟨A26, c27, hv_⟩ := Kd.R_slice hv29; subst hv_; have CR28 := Aside0.mk (And.intro (hf_F1 hv29) (Kd.R_reads' hv29).2.1); clear hv29
    obtain ⟨A30, c31, hv_⟩ := Kd.R_slice hv33; subst hv_; have CR32 := Aside0.mk (And.intro (hf_F1 hv33) (Kd.R_reads' hv33).2.1); clear hv33
    have CR23 := Aside0.mk (And.intro (Kd.C_below CR23.out.1 hb) (show ([2, 3] : List Int).length ≤ 2 from Nat.le_refl _))
    have hHeld := hHeld.trans (hb.mono hHeld.size); clear hb
    refine hK.out _ _ hHeld (fun hHeld => ?_); clear hK K
    refine norm_ (a' := ?_) ?_ ?_; rotate_left
    ·show Act.put _ (some 16) _ = _
     simp only [Act.put, List.setIfInBounds_toArray, List.set_cons_zero, List.set_cons_succ, i64_w, i32_w]; rfl
    refine two_ (i := 3) (j := 7) (Ni := some 18) (Nj := some 3) #[true, true, true, true, false, false, false, false, false, false] #[true, true, true, false, false, false, false, true, false, false] rfl rfl rfl rfl (two_of HT_.out (by kernel_rfl)) (by decide) (by decide) (fun K hK => ?_) (fun K hK => ?_)
    ·skip
     refine goes_ Try.func14 (by kernel_rfl) rfl #[.agg #[.slice A26 t24_1.length c27, .slice A30 t24_2.length c31], .agg #[.slice A13 t10_1.length c14, .slice A16 t10_2.length c17]] (by rfl) rfl rfl (by first | rfl | (simp only [List.map_toArray, List.map_cons, List.map_nil]; rfl)) ?_
     refine (layout_Reshape.calls k _ A26 c27 t24_1 _ A30 c31 t24_2 _ A13 c14 t10_1 _ A16 c17 t10_2 _ _ _ _ (Kd.V_mk CR28.out.2 CR28.out.1) (Kd.V_mk CR32.out.2 CR32.out.1) (Kd.V_mk CR15.out.2 (hf_F6 (Kd.C_F (Kd.heap_int .i64) CR15.out.1) hHeld)) (Kd.V_mk CR18.out.2 (hf_F6 (Kd.C_F k39_heap CR18.out.1) hHeld)) E35.out).mono ?_
     rintro e w1 ⟨v39, v43, rfl, hv39, hv43, hb⟩
     refine ⟨_, rfl, ?_⟩
     obtain ⟨A36, c37, hv_⟩ := Kd.R_slice hv39; subst hv_; have CR38 := Aside0.mk (And.intro (hf_F1 hv39) (Kd.R_reads' hv39).2.1); clear hv39
     obtain ⟨A40, c41, hv_, hl_, hf_⟩ := (Kd.N_V (base' := 0) hv43); subst hv_; have CR42 := Aside0.mk (And.intro (Kd.F_mono (ok' := fun _ => True) hf_ (fun _ _ => trivial)) hl_); clear hf_ hl_
     have CR23 := Aside0.mk (And.intro (Kd.C_below CR23.out.1 hb) (show ([2, 3] : List Int).length ≤ 2 from Nat.le_refl _))
     have CR28 := Aside0.mk (And.intro (hf_F4 CR28.out.1 hb) CR28.out.2)
     have CR32 := Aside0.mk (And.intro (hf_F4 CR32.out.1 hb) CR32.out.2)
     have hHeld := hHeld.trans (hb.mono hHeld.size); clear hb
     refine hK.out _ _ hHeld (fun hHeld => ?_); clear hK K
     refine norm_ (a' := ?_) ?_ ?_; rotate_left
     ·show Act.put _ (some 18) _ = _
      simp only [Act.put, List.setIfInBounds_toArray, List.set_cons_zero, List.set_cons_succ, i64_w, i32_w]; rfl
     refine pure_ (i := 4) (N := some 14) (v := ?_) (a' := ?_) #[true, true, true, true, true, false, false, false, false, false] rfl rfl (any_of HT_.out (by kernel_rfl)) (fun _ _ _ h => h) (Or.inl ⟨by rfl, ?_⟩) ?_ ?_; rotate_left
     ·intro w'; go_simp; with_reducible rfl
     rotate_left
     ·simp only [Act.put, List.setIfInBounds_toArray, List.set_cons_zero, List.set_cons_succ, i64_w, i32_w]; rfl
     refine pure_ (i := 5) (N := some 19) (v := ?_) (a' := ?_) #[true, true, true, true, true, true, false, false, false, false] rfl rfl (any_of HT_.out (by kernel_rfl)) (fun _ _ _ h => h) (Or.inl ⟨by rfl, ?_⟩) ?_ ?_; rotate_left
     ·intro w'; go_simp; with_reducible rfl
     rotate_left
     ·simp only [Act.put, List.setIfInBounds_toArray, List.set_cons_zero, List.set_cons_succ, i64_w, i32_w]; rfl
     refine pure_ (i := 6) (N := some 20) (v := ?_) (a' := ?_) #[true, true, true, true, true, true, true, false, false, false] rfl rfl (any_of HT_.out (by kernel_rfl)) (fun _ _ _ h => h) (Or.inl ⟨by rfl, ?_⟩) ?_ ?_; rotate_left
     ·intro w'; go_simp; with_reducible rfl
     rotate_left
     ·simp only [Act.put, List.setIfInBounds_toArray, List.set_cons_zero, List.set_cons_succ, i64_w, i32_w]; rfl
     refine one_ (i := 7) (N := some 3) #[true, true, true, true, true, true, true, true, false, false] rfl rfl (one_of HT_.out (by kernel_rfl)) (by decide) (fun K hK => ?_)
     refine box_step ?hg (N := 3) ?hd (cs := #[.slice none 0 0, .slice none 0 0]) (t := 25) ?hr ?_; (case hd => rfl); (case hg => rfl); (case hr => first | (go_simp; done) | (go_simp; rfl))
     intro g44 hg w1 hbox hb
     have HGg44 := Aside0.mk hbox; have HLg44 : Aside0 (W21.heap.size ≤ g44) := ⟨Nat.le_trans hHeld.size (Nat.le_of_eq hg.symm)⟩; have HM : Aside0 (g44 < w1.heap.size) := ⟨blk_lt hbox⟩; clear hbox
     have CR23 := Aside0.mk (And.intro (Kd.C_below CR23.out.1 hb) (show ([2, 3] : List Int).length ≤ 2 from Nat.le_refl _))
     have CR28 := Aside0.mk (And.intro (hf_F3 hg CR28.out.1 hb) CR28.out.2)
     have CR32 := Aside0.mk (And.intro (hf_F3 hg CR32.out.1 hb) CR32.out.2)
     have CR38 := Aside0.mk (And.intro (hf_F3 hg CR38.out.1 hb) CR38.out.2)
     have CR42 := Aside0.mk (And.intro (hf_F3 hg CR42.out.1 hb) CR42.out.2)
     clear hg
     have hHeld := hHeld.trans (hb.mono hHeld.size); clear hb
     refine hK.out _ _ hHeld (fun hHeld => ?_); clear hK K
     refine norm_ (a' := ?_) ?_ ?_; rotate_left
     ·show Act.put _ (some 3) _ = _
      simp only [Act.put, List.setIfInBounds_toArray, List.set_cons_zero, List.set_cons_succ, i64_w, i32_w]; rfl
     exact norm_ (by simp only [putAll, Act.put, List.setIfInBounds_toArray, List.set_cons_zero, List.set_cons_succ]) (hCont (g22, .slice A26 t24_1.length c27, .slice A30 t24_2.length c31, .slice A36 t34_1.length c37, .slice A40 t34_2.length c41, g44) _ ⟨hHeld, CR23.out.1, ⟨_, _, rfl, CR28.out.2, CR28.out.1⟩, ⟨_, _, rfl, CR32.out.2, CR32.out.1⟩, ⟨_, _, rfl, CR38.out.2, CR38.out.1⟩, ⟨_, _, rfl, CR42.out.2, CR42.out.1⟩, ⟨HGg44.out, HLg44.out⟩⟩)
    ·skip
     refine box_step ?hg (N := 3) ?hd (cs := #[.slice none 0 0, .slice none 0 0]) (t := 25) ?hr ?_; (case hd => rfl); (case hg => rfl); (case hr => first | (go_simp; done) | (go_simp; rfl))
     intro g44 hg w1 hbox hb
     have HGg44 := Aside0.mk hbox; have HLg44 : Aside0 (W21.heap.size ≤ g44) := ⟨Nat.le_trans hHeld.size (Nat.le_of_eq hg.symm)⟩; have HM : Aside0 (g44 < w1.heap.size) := ⟨blk_lt hbox⟩; clear hbox
     have CR23 := Aside0.mk (And.intro (Kd.C_below CR23.out.1 hb) (show ([2, 3] : List Int).length ≤ 2 from Nat.le_refl _))
     have CR28 := Aside0.mk (And.intro (hf_F3 hg CR28.out.1 hb) CR28.out.2)
     have CR32 := Aside0.mk (And.intro (hf_F3 hg CR32.out.1 hb) CR32.out.2)
     clear hg
     have hHeld := hHeld.trans (hb.mono hHeld.size); clear hb
     refine hK.out _ _ hHeld (fun hHeld => ?_); clear hK K
     refine norm_ (a' := ?_) ?_ ?_; rotate_left
     ·show Act.put _ (some 3) _ = _
      simp only [Act.put, List.setIfInBounds_toArray, List.set_cons_zero, List.set_cons_succ, i64_w, i32_w]; rfl
     refine one_ (i := 3) (N := some 18) #[true, true, true, true, false, false, false, true, false, false] rfl rfl (one_of HT_.out (by kernel_rfl)) (by decide) (fun K hK => ?_)
     refine goes_ Try.func14 (by kernel_rfl) rfl #[.agg #[.slice A26 t24_1.length c27, .slice A30 t24_2.length c31], .agg #[.slice A13 t10_1.length c14, .slice A16 t10_2.length c17]] (by rfl) rfl rfl (by first | rfl | (simp only [List.map_toArray, List.map_cons, List.map_nil]; rfl)) ?_
     refine (layout_Reshape.calls k _ A26 c27 t24_1 _ A30 c31 t24_2 _ A13 c14 t10_1 _ A16 c17 t10_2 _ _ _ _ (Kd.V_mk CR28.out.2 CR28.out.1) (Kd.V_mk CR32.out.2 CR32.out.1) (Kd.V_mk CR15.out.2 (hf_F6 (Kd.C_F (Kd.heap_int .i64) CR15.out.1) hHeld)) (Kd.V_mk CR18.out.2 (hf_F6 (Kd.C_F k39_heap CR18.out.1) hHeld)) E35.out).mono ?_
     rintro e w1 ⟨v39, v43, rfl, hv39, hv43, hb⟩
     refine ⟨_, rfl, ?_⟩
     obtain ⟨A36, c37, hv_⟩ := Kd.R_slice hv39; subst hv_; have CR38 := Aside0.mk (And.intro (hf_F2 hv39 HM.out) (Kd.R_reads' hv39).2.1); clear hv39
     obtain ⟨A40, c41, hv_, hl_, hf_⟩ := (Kd.N_V (base' := 0) hv43); subst hv_; have CR42 := Aside0.mk (And.intro (Kd.F_mono (ok' := fun k_ => k_ ≠ g44) hf_ (fun k hk => by (try dsimp only at hk); have h1 := HLg44.out; have h2 := HM.out; omega)) hl_); clear hf_ hl_
     have CR23 := Aside0.mk (And.intro (Kd.C_below CR23.out.1 hb) (show ([2, 3] : List Int).length ≤ 2 from Nat.le_refl _))
     have CR28 := Aside0.mk (And.intro (hf_F4 CR28.out.1 hb) CR28.out.2)
     have CR32 := Aside0.mk (And.intro (hf_F4 CR32.out.1 hb) CR32.out.2)
     have HGg44 := Aside0.mk (blk_below HGg44.out hb); have HM := Aside0.mk (Nat.lt_of_lt_of_le HM.out (Below.size hb))
     have hHeld := hHeld.trans (hb.mono hHeld.size); clear hb
     refine hK.out _ _ hHeld (fun hHeld => ?_); clear hK K
     refine norm_ (a' := ?_) ?_ ?_; rotate_left
     ·show Act.put _ (some 18) _ = _
      simp only [Act.put, List.setIfInBounds_toArray, List.set_cons_zero, List.set_cons_succ, i64_w, i32_w]; rfl
     refine pure_ (i := 4) (N := some 14) (v := ?_) (a' := ?_) #[true, true, true, true, true, false, false, true, false, false] rfl rfl (any_of HT_.out (by kernel_rfl)) (fun _ _ _ h => h) (Or.inl ⟨by rfl, ?_⟩) ?_ ?_; rotate_left
     ·intro w'; go_simp; with_reducible rfl
     rotate_left
     ·simp only [Act.put, List.setIfInBounds_toArray, List.set_cons_zero, List.set_cons_succ, i64_w, i32_w]; rfl
     refine pure_ (i := 5) (N := some 19) (v := ?_) (a' := ?_) #[true, true, true, true, true, true, false, true, false, false] rfl rfl (any_of HT_.out (by kernel_rfl)) (fun _ _ _ h => h) (Or.inl ⟨by rfl, ?_⟩) ?_ ?_; rotate_left
     ·intro w'; go_simp; with_reducible rfl
     rotate_left
     ·simp only [Act.put, List.setIfInBounds_toArray, List.set_cons_zero, List.set_cons_succ, i64_w, i32_w]; rfl
     refine pure_ (i := 6) (N := some 20) (v := ?_) (a' := ?_) #[true, true, true, true, true, true, true, true, false, false] rfl rfl (any_of HT_.out (by kernel_rfl)) (fun _ _ _ h => h) (Or.inl ⟨by rfl, ?_⟩) ?_ ?_; rotate_left
     ·intro w'; go_simp; with_reducible rfl
     rotate_left
     ·simp only [Act.put, List.setIfInBounds_toArray, List.set_cons_zero, List.set_cons_succ, i64_w, i32_w]; rfl
     exact norm_ (by simp only [putAll, Act.put, List.setIfInBounds_toArray, List.set_cons_zero, List.set_cons_succ]) (hCont (g22, .slice A26 t24_1.length c27, .slice A30 t24_2.length c31, .slice A36 t34_1.length c37, .slice A40 t34_2.length c41, g44) _ ⟨hHeld, CR23.out.1, ⟨_, _, rfl, CR28.out.2, CR28.out.1⟩, ⟨_, _, rfl, CR32.out.2, CR32.out.1⟩, ⟨_, _, rfl, CR38.out.2, CR38.out.1⟩, ⟨_, _, rfl, CR42.out.2, CR42.out.1⟩, ⟨HGg44.out, HLg44.out⟩⟩)
   ·skip
    refine box_step ?hg (N := 3) ?hd (cs := #[.slice none 0 0, .slice none 0 0]) (t := 25) ?hr ?_; (case hd => rfl); (case hg => rfl); (case hr => first | (go_simp; done) | (go_simp; rfl))
    intro g44 hg w1 hbox hb
    have HGg44 := Aside0.mk hbox; have HLg44 : Aside0 (W21.heap.size ≤ g44) := ⟨Nat.le_trans hHeld.size (Nat.le_of_eq hg.symm)⟩; have HM : Aside0 (g44 < w1.heap.size) := ⟨blk_lt hbox⟩; clear hbox
    have CR23 := Aside0.mk (And.intro (Kd.C_below CR23.out.1 hb) (show ([2, 3] : List Int).length ≤ 2 from Nat.le_refl _))
    clear hg
    have hHeld := hHeld.trans (hb.mono hHeld.size); clear hb
    refine hK.out _ _ hHeld (fun hHeld => ?_); clear hK K
    refine norm_ (a' := ?_) ?_ ?_; rotate_left
    ·show Act.put _ (some 3) _ = _
     simp only [Act.put, List.setIfInBounds_toArray, List.set_cons_zero, List.set_cons_succ, i64_w, i32_w]; rfl
    refine one_ (i := 1) (N := some 16) #[true, true, true, false, false, false, false, true, false, false] rfl rfl (one_of HT_.out (by kernel_rfl)) (by decide) (fun K hK => ?_)
    refine goes_ Try.func20 (by kernel_rfl) rfl #[.slice (some ⟨g22, 0, none⟩) ([2, 3] : List Int).length 2] (by rfl) rfl rfl (by first | rfl | (simp only [List.map_toArray, List.map_cons, List.map_nil]; rfl)) ?_
    refine (triglyphref03_Nums.calls k (some ⟨g22, 0, none⟩) 2 ([2, 3] : List Int) _ _ _ CR23.out.1 CR23.out.2 E25.out).mono ?_
    rintro e w1 ⟨v29, v33, rfl, hv29, hv33, hb⟩
    refine ⟨_, rfl, ?_⟩
    obtain ⟨A26, c27, hv_⟩ := Kd.R_slice hv29; subst hv_; have CR28 := Aside0.mk (And.intro (hf_F2 hv29 HM.out) (Kd.R_reads' hv29).2.1); clear hv29
    obtain ⟨A30, c31, hv_⟩ := Kd.R_slice hv33; subst hv_; have CR32 := Aside0.mk (And.intro (hf_F2 hv33 HM.out) (Kd.R_reads' hv33).2.1); clear hv33
    have CR23 := Aside0.mk (And.intro (Kd.C_below CR23.out.1 hb) (show ([2, 3] : List Int).length ≤ 2 from Nat.le_refl _))
    have HGg44 := Aside0.mk (blk_below HGg44.out hb); have HM := Aside0.mk (Nat.lt_of_lt_of_le HM.out (Below.size hb))
    have hHeld := hHeld.trans (hb.mono hHeld.size); clear hb
    refine hK.out _ _ hHeld (fun hHeld => ?_); clear hK K
    refine norm_ (a' := ?_) ?_ ?_; rotate_left
    ·show Act.put _ (some 16) _ = _
     simp only [Act.put, List.setIfInBounds_toArray, List.set_cons_zero, List.set_cons_succ, i64_w, i32_w]; rfl
    refine one_ (i := 3) (N := some 18) #[true, true, true, true, false, false, false, true, false, false] rfl rfl (one_of HT_.out (by kernel_rfl)) (by decide) (fun K hK => ?_)
    refine goes_ Try.func14 (by kernel_rfl) rfl #[.agg #[.slice A26 t24_1.length c27, .slice A30 t24_2.length c31], .agg #[.slice A13 t10_1.length c14, .slice A16 t10_2.length c17]] (by rfl) rfl rfl (by first | rfl | (simp only [List.map_toArray, List.map_cons, List.map_nil]; rfl)) ?_
    refine (layout_Reshape.calls k _ A26 c27 t24_1 _ A30 c31 t24_2 _ A13 c14 t10_1 _ A16 c17 t10_2 _ _ _ _ (Kd.V_mk CR28.out.2 CR28.out.1) (Kd.V_mk CR32.out.2 CR32.out.1) (Kd.V_mk CR15.out.2 (hf_F6 (Kd.C_F (Kd.heap_int .i64) CR15.out.1) hHeld)) (Kd.V_mk CR18.out.2 (hf_F6 (Kd.C_F k39_heap CR18.out.1) hHeld)) E35.out).mono ?_
    rintro e w1 ⟨v39, v43, rfl, hv39, hv43, hb⟩
    refine ⟨_, rfl, ?_⟩
    obtain ⟨A36, c37, hv_⟩ := Kd.R_slice hv39; subst hv_; have CR38 := Aside0.mk (And.intro (hf_F2 hv39 HM.out) (Kd.R_reads' hv39).2.1); clear hv39
    obtain ⟨A40, c41, hv_, hl_, hf_⟩ := (Kd.N_V (base' := 0) hv43); subst hv_; have CR42 := Aside0.mk (And.intro (Kd.F_mono (ok' := fun k_ => k_ ≠ g44) hf_ (fun k hk => by (try dsimp only at hk); have h1 := HLg44.out; have h2 := HM.out; omega)) hl_); clear hf_ hl_
    have CR23 := Aside0.mk (And.intro (Kd.C_below CR23.out.1 hb) (show ([2, 3] : List Int).length ≤ 2 from Nat.le_refl _))
    have HGg44 := Aside0.mk (blk_below HGg44.out hb); have HM := Aside0.mk (Nat.lt_of_lt_of_le HM.out (Below.size hb))
    have CR28 := Aside0.mk (And.intro (hf_F4 CR28.out.1 hb) CR28.out.2)
    have CR32 := Aside0.mk (And.intro (hf_F4 CR32.out.1 hb) CR32.out.2)
    have hHeld := hHeld.trans (hb.mono hHeld.size); clear hb
    refine hK.out _ _ hHeld (fun hHeld => ?_); clear hK K
    refine norm_ (a' := ?_) ?_ ?_; rotate_left
    ·show Act.put _ (some 18) _ = _
     simp only [Act.put, List.setIfInBounds_toArray, List.set_cons_zero, List.set_cons_succ, i64_w, i32_w]; rfl
    refine pure_ (i := 4) (N := some 14) (v := ?_) (a' := ?_) #[true, true, true, true, true, false, false, true, false, false] rfl rfl (any_of HT_.out (by kernel_rfl)) (fun _ _ _ h => h) (Or.inl ⟨by rfl, ?_⟩) ?_ ?_; rotate_left
    ·intro w'; go_simp; with_reducible rfl
    rotate_left
    ·simp only [Act.put, List.setIfInBounds_toArray, List.set_cons_zero, List.set_cons_succ, i64_w, i32_w]; rfl
    refine pure_ (i := 5) (N := some 19) (v := ?_) (a' := ?_) #[true, true, true, true, true, true, false, true, false, false] rfl rfl (any_of HT_.out (by kernel_rfl)) (fun _ _ _ h => h) (Or.inl ⟨by rfl, ?_⟩) ?_ ?_; rotate_left
    ·intro w'; go_simp; with_reducible rfl
    rotate_left
    ·simp only [Act.put, List.setIfInBounds_toArray, List.set_cons_zero, List.set_cons_succ, i64_w, i32_w]; rfl
    refine pure_ (i := 6) (N := some 20) (v := ?_) (a' := ?_) #[true, true, true, true, true, true, true, true, false, false] rfl rfl (any_of HT_.out (by kernel_rfl)) (fun _ _ _ h => h) (Or.inl ⟨by rfl, ?_⟩) ?_ ?_; rotate_left
    ·intro w'; go_simp; with_reducible rfl
    rotate_left
    ·simp only [Act.put, List.setIfInBounds_toArray, List.set_cons_zero, List.set_cons_succ, i64_w, i32_w]; rfl
    exact norm_ (by simp only [putAll, Act.put, List.setIfInBounds_toArray, List.set_cons_zero, List.set_cons_succ]) (hCont (g22, .slice A26 t24_1.length c27, .slice A30 t24_2.length c31, .slice A36 t34_1.length c37, .slice A40 t34_2.length c41, g44) _ ⟨hHeld, CR23.out.1, ⟨_, _, rfl, CR28.out.2, CR28.out.1⟩, ⟨_, _, rfl, CR32.out.2, CR32.out.1⟩, ⟨_, _, rfl, CR38.out.2, CR38.out.1⟩, ⟨_, _, rfl, CR42.out.2, CR42.out.1⟩, ⟨HGg44.out, HLg44.out⟩⟩)
  ·skip
   refine box_step ?hg (N := 3) ?hd (cs := #[.slice none 0 0, .slice none 0 0]) (t := 25) ?hr ?_; (case hd => rfl); (case hg => rfl); (case hr => first | (go_simp; done) | (go_simp; rfl))
   intro g44 hg w1 hbox hb
   have HGg44 := Aside0.mk hbox; have HLg44 : Aside0 (W21.heap.size ≤ g44) := ⟨Nat.le_trans hHeld.size (Nat.le_of_eq hg.symm)⟩; have HM : Aside0 (g44 < w1.heap.size) := ⟨blk_lt hbox⟩; clear hbox
   clear hg
   have hHeld := hHeld.trans (hb.mono hHeld.size); clear hb
   refine hK.out _ _ hHeld (fun hHeld => ?_); clear hK K
   refine norm_ (a' := ?_) ?_ ?_; rotate_left
   ·show Act.put _ (some 3) _ = _
    simp only [Act.put, List.setIfInBounds_toArray, List.set_cons_zero, List.set_cons_succ, i64_w, i32_w]; rfl
   refine one_ (i := 0) (N := some 15) #[true, false, true, false, false, false, false, true, false, false] rfl rfl (one_of HT_.out (by kernel_rfl)) (by decide) (fun K hK => ?_)
   refine hf_row_step ?hg (N := 15) ?hd (cs := #[.int .i64 2, .int .i64 3]) (t := 2) (n := 2) ?hr ?_; (case hd => rfl); (case hg => rfl); (case hr => first | (go_simp; done) | (go_simp; rfl))
   intro g22 hg w1 hbox hb
   have CR23 := Aside0.mk (And.intro (hf_litC (d := (Kd.int .i64)) (W := w1) (g := g22) (e := 2) ([2, 3] : List Int) [.int .i64 2, .int .i64 3] hbox (Reps.snoc (Reps.snoc (Reps.none ((Kd.int .i64).K _) 1) rfl rfl) rfl rfl) (by decide)) (show ([2, 3] : List Int).length ≤ 2 from Nat.le_refl _)); clear hbox hg
   have HGg44 := Aside0.mk (blk_below HGg44.out hb); have HM := Aside0.mk (Nat.lt_of_lt_of_le HM.out (Below.size hb))
   have hHeld := hHeld.trans (hb.mono hHeld.size); clear hb
   refine hK.out _ _ hHeld (fun hHeld => ?_); clear hK K
   refine norm_ (a' := ?_) ?_ ?_; rotate_left
   ·show Act.put _ (some 15) _ = _
    simp only [Act.put, List.setIfInBounds_toArray, List.set_cons_zero, List.set_cons_succ, i64_w, i32_w]; rfl
   refine one_ (i := 1) (N := some 16) #[true, true, true, false, false, false, false, true, false, false] rfl rfl (one_of HT_.out (by kernel_rfl)) (by decide) (fun K hK => ?_)
   refine goes_ Try.func20 (by kernel_rfl) rfl #[.slice (some ⟨g22, 0, none⟩) ([2, 3] : List Int).length 2] (by rfl) rfl rfl (by first | rfl | (simp only [List.map_toArray, List.map_cons, List.map_nil]; rfl)) ?_
   refine (triglyphref03_Nums.calls k (some ⟨g22, 0, none⟩) 2 ([2, 3] : List Int) _ _ _ CR23.out.1 CR23.out.2 E25.out).mono ?_
   rintro e w1 ⟨v29, v33, rfl, hv29, hv33, hb⟩
   refine ⟨_, rfl, ?_⟩
   obtain ⟨A26, c27, hv_⟩ := Kd.R_slice hv29; subst hv_; have CR28 := Aside0.mk (And.intro (hf_F2 hv29 HM.out) (Kd.R_reads' hv29).2.1); clear hv29
   obtain ⟨A30, c31, hv_⟩ := Kd.R_slice hv33; subst hv_; have CR32 := Aside0.mk (And.intro (hf_F2 hv33 HM.out) (Kd.R_reads' hv33).2.1); clear hv33
   have HGg44 := Aside0.mk (blk_below HGg44.out hb); have HM := Aside0.mk (Nat.lt_of_lt_of_le HM.out (Below.size hb))
   have CR23 := Aside0.mk (And.intro (Kd.C_below CR23.out.1 hb) (show ([2, 3] : List Int).length ≤ 2 from Nat.le_refl _))
   have hHeld := hHeld.trans (hb.mono hHeld.size); clear hb
   refine hK.out _ _ hHeld (fun hHeld => ?_); clear hK K
   refine norm_ (a' := ?_) ?_ ?_; rotate_left
   ·show Act.put _ (some 16) _ = _
    simp only [Act.put, List.setIfInBounds_toArray, List.set_cons_zero, List.set_cons_succ, i64_w, i32_w]; rfl
   refine one_ (i := 3) (N := some 18) #[true, true, true, true, false, false, false, true, false, false] rfl rfl (one_of HT_.out (by kernel_rfl)) (by decide) (fun K hK => ?_)
   refine goes_ Try.func14 (by kernel_rfl) rfl #[.agg #[.slice A26 t24_1.length c27, .slice A30 t24_2.length c31], .agg #[.slice A13 t10_1.length c14, .slice A16 t10_2.length c17]] (by rfl) rfl rfl (by first | rfl | (simp only [List.map_toArray, List.map_cons, List.map_nil]; rfl)) ?_
   refine (layout_Reshape.calls k _ A26 c27 t24_1 _ A30 c31 t24_2 _ A13 c14 t10_1 _ A16 c17 t10_2 _ _ _ _ (Kd.V_mk CR28.out.2 CR28.out.1) (Kd.V_mk CR32.out.2 CR32.out.1) (Kd.V_mk CR15.out.2 (hf_F6 (Kd.C_F (Kd.heap_int .i64) CR15.out.1) hHeld)) (Kd.V_mk CR18.out.2 (hf_F6 (Kd.C_F k39_heap CR18.out.1) hHeld)) E35.out).mono ?_
   rintro e w1 ⟨v39, v43, rfl, hv39, hv43, hb⟩
   refine ⟨_, rfl, ?_⟩
   obtain ⟨A36, c37, hv_⟩ := Kd.R_slice hv39; subst hv_; have CR38 := Aside0.mk (And.intro (hf_F2 hv39 HM.out) (Kd.R_reads' hv39).2.1); clear hv39
   obtain ⟨A40, c41, hv_, hl_, hf_⟩ := (Kd.N_V (base' := 0) hv43); subst hv_; have CR42 := Aside0.mk (And.intro (Kd.F_mono (ok' := fun k_ => k_ ≠ g44) hf_ (fun k hk => by (try dsimp only at hk); have h1 := HLg44.out; have h2 := HM.out; omega)) hl_); clear hf_ hl_
   have HGg44 := Aside0.mk (blk_below HGg44.out hb); have HM := Aside0.mk (Nat.lt_of_lt_of_le HM.out (Below.size hb))
   have CR23 := Aside0.mk (And.intro (Kd.C_below CR23.out.1 hb) (show ([2, 3] : List Int).length ≤ 2 from Nat.le_refl _))
   have CR28 := Aside0.mk (And.intro (hf_F4 CR28.out.1 hb) CR28.out.2)
   have CR32 := Aside0.mk (And.intro (hf_F4 CR32.out.1 hb) CR32.out.2)
   have hHeld := hHeld.trans (hb.mono hHeld.size); clear hb
   refine hK.out _ _ hHeld (fun hHeld => ?_); clear hK K
   refine norm_ (a' := ?_) ?_ ?_; rotate_left
   ·show Act.put _ (some 18) _ = _
    simp only [Act.put, List.setIfInBounds_toArray, List.set_cons_zero, List.set_cons_succ, i64_w, i32_w]; rfl
   refine pure_ (i := 4) (N := some 14) (v := ?_) (a' := ?_) #[true, true, true, true, true, false, false, true, false, false] rfl rfl (any_of HT_.out (by kernel_rfl)) (fun _ _ _ h => h) (Or.inl ⟨by rfl, ?_⟩) ?_ ?_; rotate_left
   ·intro w'; go_simp; with_reducible rfl
   rotate_left
   ·simp only [Act.put, List.setIfInBounds_toArray, List.set_cons_zero, List.set_cons_succ, i64_w, i32_w]; rfl
   refine pure_ (i := 5) (N := some 19) (v := ?_) (a' := ?_) #[true, true, true, true, true, true, false, true, false, false] rfl rfl (any_of HT_.out (by kernel_rfl)) (fun _ _ _ h => h) (Or.inl ⟨by rfl, ?_⟩) ?_ ?_; rotate_left
   ·intro w'; go_simp; with_reducible rfl
   rotate_left
   ·simp only [Act.put, List.setIfInBounds_toArray, List.set_cons_zero, List.set_cons_succ, i64_w, i32_w]; rfl
   refine pure_ (i := 6) (N := some 20) (v := ?_) (a' := ?_) #[true, true, true, true, true, true, true, true, false, false] rfl rfl (any_of HT_.out (by kernel_rfl)) (fun _ _ _ h => h) (Or.inl ⟨by rfl, ?_⟩) ?_ ?_; rotate_left
   ·intro w'; go_simp; with_reducible rfl
   rotate_left
   ·simp only [Act.put, List.setIfInBounds_toArray, List.set_cons_zero, List.set_cons_succ, i64_w, i32_w]; rfl
   exact norm_ (by simp only [putAll, Act.put, List.setIfInBounds_toArray, List.set_cons_zero, List.set_cons_succ]) (hCont (g22, .slice A26 t24_1.length c27, .slice A30 t24_2.length c31, .slice A36 t34_1.length c37, .slice A40 t34_2.length c41, g44) _ ⟨hHeld, CR23.out.1, ⟨_, _, rfl, CR28.out.2, CR28.out.1⟩, ⟨_, _, rfl, CR32.out.2, CR32.out.1⟩, ⟨_, _, rfl, CR38.out.2, CR38.out.1⟩, ⟨_, _, rfl, CR42.out.2, CR42.out.1⟩, ⟨HGg44.out, HLg44.out⟩⟩)
 rintro ⟨g22, v29, v33, v39, v43, g44⟩ w45 ⟨hHeld, hF0_, hF1_, hF2_, hF3_, hF4_, hF5_⟩
 dsimp only at hF0_ hF1_ hF2_ hF3_ hF4_ hF5_
 clear hF0_
 obtain ⟨A26, c27, hv_, hl_, hf_⟩ := hF1_; have CR28 := Aside0.mk (And.intro hf_ hl_); clear hf_ hl_; subst hv_
 obtain ⟨A30, c31, hv_, hl_, hf_⟩ := hF2_; have CR32 := Aside0.mk (And.intro hf_ hl_); clear hf_ hl_; subst hv_
 obtain ⟨A36, c37, hv_, hl_, hf_⟩ := hF3_; have CR38 := Aside0.mk (And.intro hf_ hl_); clear hf_ hl_; subst hv_
 obtain ⟨A40, c41, hv_, hl_, hf_⟩ := hF4_; have CR42 := Aside0.mk (And.intro hf_ hl_); clear hf_ hl_; subst hv_
 have HG := Aside0.mk hF5_; clear hF5_
 refine norm_ (a' := ?_) ?_ ?_; rotate_left
 ·simp only [putAll, Act.put, List.setIfInBounds_toArray, List.set_cons_zero, List.set_cons_succ]; rfl
 refine one_ (i := 8) (N := none) #[true, true, true, true, true, true, true, true, true, false] rfl rfl (one_of HT_.out (by kernel_rfl)) (by decide) (fun K hK => ?_)
 have y0 : w45.cell? ⟨g44, 0, none⟩ = some (.slice none 0 0) := (blk_cell HG.out.1 0).trans rfl; have u0 := blk_frozen HG.out.1 0; have y1 : w45.cell? ⟨g44, 1, none⟩ = some (.slice none 0 0) := (blk_cell HG.out.1 1).trans rfl; have u1 := blk_frozen HG.out.1 1
 refine skip_ (w1 := ?_) (by rfl) rfl ?_ ?_; rotate_left
 ·go_simp; rfl
 have HB2 := Aside0.mk (hf_st2 hHeld HG.out.2 (.slice A36 t34_1.length c37) (.slice A40 t34_2.length c41))
 have CR28 := Aside0.mk (And.intro (hf_F5a CR28.out.1 (.slice A36 t34_1.length c37) (.slice A40 t34_2.length c41)) CR28.out.2)
 have CR32 := Aside0.mk (And.intro (hf_F5a CR32.out.1 (.slice A36 t34_1.length c37) (.slice A40 t34_2.length c41)) CR32.out.2)
 have CR38 := Aside0.mk (And.intro (hf_F5a CR38.out.1 (.slice A36 t34_1.length c37) (.slice A40 t34_2.length c41)) CR38.out.2)
 have CR42 := Aside0.mk (And.intro (hf_F5a CR42.out.1 (.slice A36 t34_1.length c37) (.slice A40 t34_2.length c41)) CR42.out.2)
 have HG := Aside0.mk (And.intro (hf_z2 HG.out.1 (.slice A36 t34_1.length c37) (.slice A40 t34_2.length c41)) HG.out.2)
 refine hK.out _ _ HB2.out (fun hHeld => ?_); clear hK K HB2 y0 u0 y1 u1
 generalize (w45.setCell _ _).setCell _ _ = w46 at hHeld HG CR28 CR32 CR38 CR42 ⊢
 refine pure_ (i := 9) (N := some 4) (v := ?_) (a' := ?_) #[true, true, true, true, true, true, true, true, true, true] rfl rfl (any_of HT_.out (by kernel_rfl)) (fun _ _ _ h => h) (Or.inl ⟨by rfl, ?_⟩) ?_ ?_; rotate_left
 ·intro w'; go_simp; with_reducible rfl
 rotate_left
 ·simp only [Act.put, List.setIfInBounds_toArray, List.set_cons_zero, List.set_cons_succ, i64_w, i32_w]; rfl
 refine done_ (done_of HT_.out (by kernel_rfl)) ?_
 have CR28 := Aside0.mk (And.intro (Kd.F_now CR28.out.1) CR28.out.2)
 have CR32 := Aside0.mk (And.intro (Kd.F_now CR32.out.1) CR32.out.2)
 have CR38 := Aside0.mk (And.intro (Kd.F_now CR38.out.1) CR38.out.2)
 have CR42 := Aside0.mk (And.intro (Kd.F_now CR42.out.1) CR42.out.2)
 have CR6 := Aside0.mk (And.intro (Kd.C_below CR6.out.1 hHeld) CR6.out.2)
 have CR9 := Aside0.mk (And.intro (Kd.C_below CR9.out.1 hHeld) CR9.out.2)
 have CR15 := Aside0.mk (And.intro (Kd.C_below CR15.out.1 hHeld) CR15.out.2)
 have CR18 := Aside0.mk (And.intro (Kd.C_below CR18.out.1 hHeld) CR18.out.2)
 have HS := Aside0.mk (BxS.add HS.out hHeld HG.out.1 HG.out.2)
 clear hHeld HG
 have z0_0 : w46.cell? ⟨g20, 0, none⟩ = some (.slice A13 t10_1.length c14) := (blk_cell (HS.out.at_ 1 rfl) 0).trans rfl; have z0_1 : w46.cell? ⟨g20, 1, none⟩ = some (.slice A16 t10_2.length c17) := (blk_cell (HS.out.at_ 1 rfl) 1).trans rfl; have z1_0 : w46.cell? ⟨g44, 0, none⟩ = some (.slice A36 t34_1.length c37) := (blk_cell (HS.out.at_ 0 rfl) 0).trans rfl; have z1_1 : w46.cell? ⟨g44, 1, none⟩ = some (.slice A40 t34_2.length c41) := (blk_cell (HS.out.at_ 0 rfl) 1).trans rfl
 obtain ⟨⟨t47_1, t47_2, t47_3⟩, q_, h⟩ := Option.bind_eq_some_iff.1 h; have E48 := Aside0.mk q_; clear q_; dsimp only at h
 go_upto_region 4 with (first | (go_at_call 11; (with_reducible refine (layout_Mo.calls k 11 A36 c37 t34_1 _ A40 c41 t34_2 _ _ _ _ CR38.out.1 CR38.out.2 (Kd.V_mk CR42.out.2 (Kd.C_F k39_heap CR42.out.1)) E48.out).mono ?_); rintro e w49 ⟨v0_, v1_, rfl, h0_, h1_, hb⟩; obtain ⟨A50, c51, hv_, hl_, hf_⟩ := h0_; have CR52 := Aside0.mk (And.intro (Kd.F_now hf_) hl_); clear hf_ hl_; subst hv_; obtain ⟨A53, c54, hv_, hl_, hf_⟩ := h1_; have CR55 := Aside0.mk (And.intro (Kd.F_now hf_) hl_); clear hf_ hl_; subst hv_; have CR6 := Aside0.mk (And.intro (Kd.C_below CR6.out.1 hb) CR6.out.2); have CR9 := Aside0.mk (And.intro (Kd.C_below CR9.out.1 hb) CR9.out.2); have CR15 := Aside0.mk (And.intro (Kd.C_below CR15.out.1 hb) CR15.out.2); have CR18 := Aside0.mk (And.intro (Kd.C_below CR18.out.1 hb) CR18.out.2); have CR28 := Aside0.mk (And.intro (Kd.C_below CR28.out.1 hb) CR28.out.2); have CR32 := Aside0.mk (And.intro (Kd.C_below CR32.out.1 hb) CR32.out.2); have CR38 := Aside0.mk (And.intro (Kd.C_below CR38.out.1 hb) CR38.out.2); have CR42 := Aside0.mk (And.intro (Kd.C_below CR42.out.1 hb) CR42.out.2); have HS := Aside0.mk (HS.out.step hb); clear hb; (try clear z0_0 z0_1 z1_0 z1_1); have z0_0 : w49.cell? ⟨g20, 0, none⟩ = some (.slice A13 t10_1.length c14) := (blk_cell (HS.out.at_ 1 rfl) 0).trans rfl; have z0_1 : w49.cell? ⟨g20, 1, none⟩ = some (.slice A16 t10_2.length c17) := (blk_cell (HS.out.at_ 1 rfl) 1).trans rfl; have z1_0 : w49.cell? ⟨g44, 0, none⟩ = some (.slice A36 t34_1.length c37) := (blk_cell (HS.out.at_ 0 rfl) 0).trans rfl; have z1_1 : w49.cell? ⟨g44, 1, none⟩ = some (.slice A40 t34_2.length c41) := (blk_cell (HS.out.at_ 0 rfl) 1).trans rfl))
 (try clear z0_0 z0_1 z1_0 z1_1 z2_0 z2_1); skip
 have HS := Aside0.mk (HS.out.cons' #[.slice A50 t47_1.length c51, .slice A53 t47_2.length c54] 25 (rfl))
 have CR6 := Aside0.mk (And.intro (Kd.C_alloc CR6.out.1 (.cells #[.slice A50 t47_1.length c51, .slice A53 t47_2.length c54] 25)) CR6.out.2)
 have CR9 := Aside0.mk (And.intro (Kd.C_alloc CR9.out.1 (.cells #[.slice A50 t47_1.length c51, .slice A53 t47_2.length c54] 25)) CR9.out.2)
 have CR15 := Aside0.mk (And.intro (Kd.C_alloc CR15.out.1 (.cells #[.slice A50 t47_1.length c51, .slice A53 t47_2.length c54] 25)) CR15.out.2)
 have CR18 := Aside0.mk (And.intro (Kd.C_alloc CR18.out.1 (.cells #[.slice A50 t47_1.length c51, .slice A53 t47_2.length c54] 25)) CR18.out.2)
 have CR28 := Aside0.mk (And.intro (Kd.C_alloc CR28.out.1 (.cells #[.slice A50 t47_1.length c51, .slice A53 t47_2.length c54] 25)) CR28.out.2)
 have CR32 := Aside0.mk (And.intro (Kd.C_alloc CR32.out.1 (.cells #[.slice A50 t47_1.length c51, .slice A53 t47_2.length c54] 25)) CR32.out.2)
 have CR38 := Aside0.mk (And.intro (Kd.C_alloc CR38.out.1 (.cells #[.slice A50 t47_1.length c51, .slice A53 t47_2.length c54] 25)) CR38.out.2)
 have CR42 := Aside0.mk (And.intro (Kd.C_alloc CR42.out.1 (.cells #[.slice A50 t47_1.length c51, .slice A53 t47_2.length c54] 25)) CR42.out.2)
 have CR52 := Aside0.mk (And.intro (Kd.C_alloc CR52.out.1 (.cells #[.slice A50 t47_1.length c51, .slice A53 t47_2.length c54] 25)) CR52.out.2)
 have CR55 := Aside0.mk (And.intro (Kd.C_alloc CR55.out.1 (.cells #[.slice A50 t47_1.length c51, .slice A53 t47_2.length c54] 25)) CR55.out.2)
 generalize w49.alloc (.cells #[.slice A50 t47_1.length c51, .slice A53 t47_2.length c54] 25) = w56 at HS CR6 CR9 CR15 CR18 CR28 CR32 CR38 CR42 CR52 CR55 ⊢
 generalize w49.heap.size = g57 at HS ⊢
 have z0_0 : w56.cell? ⟨g20, 0, none⟩ = some (.slice A13 t10_1.length c14) := (blk_cell (HS.out.at_ 2 rfl) 0).trans rfl; have z0_1 : w56.cell? ⟨g20, 1, none⟩ = some (.slice A16 t10_2.length c17) := (blk_cell (HS.out.at_ 2 rfl) 1).trans rfl; have z1_0 : w56.cell? ⟨g44, 0, none⟩ = some (.slice A36 t34_1.length c37) := (blk_cell (HS.out.at_ 1 rfl) 0).trans rfl; have z1_1 : w56.cell? ⟨g44, 1, none⟩ = some (.slice A40 t34_2.length c41) := (blk_cell (HS.out.at_ 1 rfl) 1).trans rfl; have z2_0 : w56.cell? ⟨g57, 0, none⟩ = some (.slice A50 t47_1.length c51) := (blk_cell (HS.out.at_ 0 rfl) 0).trans rfl; have z2_1 : w56.cell? ⟨g57, 1, none⟩ = some (.slice A53 t47_2.length c54) := (blk_cell (HS.out.at_ 0 rfl) 1).trans rfl
 obtain ⟨⟨t58_1, t58_2, t58_3⟩, q_, h⟩ := Option.bind_eq_some_iff.1 h; have E59 := Aside0.mk q_; clear q_; dsimp only at h
 go_upto_region 5 with (first | (go_at_call 11; (with_reducible refine (layout_Mo.calls k 0 A13 c14 t10_1 _ A16 c17 t10_2 _ _ _ _ CR15.out.1 CR15.out.2 (Kd.V_mk CR18.out.2 (Kd.C_F k39_heap CR18.out.1)) E59.out).mono ?_); rintro e w60 ⟨v0_, v1_, rfl, h0_, h1_, hb⟩; obtain ⟨A61, c62, hv_, hl_, hf_⟩ := h0_; have CR63 := Aside0.mk (And.intro (Kd.F_now hf_) hl_); clear hf_ hl_; subst hv_; obtain ⟨A64, c65, hv_, hl_, hf_⟩ := h1_; have CR66 := Aside0.mk (And.intro (Kd.F_now hf_) hl_); clear hf_ hl_; subst hv_; have CR6 := Aside0.mk (And.intro (Kd.C_below CR6.out.1 hb) CR6.out.2); have CR9 := Aside0.mk (And.intro (Kd.C_below CR9.out.1 hb) CR9.out.2); have CR15 := Aside0.mk (And.intro (Kd.C_below CR15.out.1 hb) CR15.out.2); have CR18 := Aside0.mk (And.intro (Kd.C_below CR18.out.1 hb) CR18.out.2); have CR28 := Aside0.mk (And.intro (Kd.C_below CR28.out.1 hb) CR28.out.2); have CR32 := Aside0.mk (And.intro (Kd.C_below CR32.out.1 hb) CR32.out.2); have CR38 := Aside0.mk (And.intro (Kd.C_below CR38.out.1 hb) CR38.out.2); have CR42 := Aside0.mk (And.intro (Kd.C_below CR42.out.1 hb) CR42.out.2); have CR52 := Aside0.mk (And.intro (Kd.C_below CR52.out.1 hb) CR52.out.2); have CR55 := Aside0.mk (And.intro (Kd.C_below CR55.out.1 hb) CR55.out.2); have HS := Aside0.mk (HS.out.step hb); clear hb; (try clear z0_0 z0_1 z1_0 z1_1 z2_0 z2_1); have z0_0 : w60.cell? ⟨g20, 0, none⟩ = some (.slice A13 t10_1.length c14) := (blk_cell (HS.out.at_ 2 rfl) 0).trans rfl; have z0_1 : w60.cell? ⟨g20, 1, none⟩ = some (.slice A16 t10_2.length c17) := (blk_cell (HS.out.at_ 2 rfl) 1).trans rfl; have z1_0 : w60.cell? ⟨g44, 0, none⟩ = some (.slice A36 t34_1.length c37) := (blk_cell (HS.out.at_ 1 rfl) 0).trans rfl; have z1_1 : w60.cell? ⟨g44, 1, none⟩ = some (.slice A40 t34_2.length c41) := (blk_cell (HS.out.at_ 1 rfl) 1).trans rfl; have z2_0 : w60.cell? ⟨g57, 0, none⟩ = some (.slice A50 t47_1.length c51) := (blk_cell (HS.out.at_ 0 rfl) 0).trans rfl; have z2_1 : w60.cell? ⟨g57, 1, none⟩ = some (.slice A53 t47_2.length c54) := (blk_cell (HS.out.at_ 0 rfl) 1).trans rfl))
 (try clear z0_0 z0_1 z1_0 z1_1 z2_0 z2_1 z3_0 z3_1); skip
 have HS := Aside0.mk (HS.out.cons' #[.slice A61 t58_1.length c62, .slice A64 t58_2.length c65] 25 (rfl))
 have CR6 := Aside0.mk (And.intro (Kd.C_alloc CR6.out.1 (.cells #[.slice A61 t58_1.length c62, .slice A64 t58_2.length c65] 25)) CR6.out.2)
 have CR9 := Aside0.mk (And.intro (Kd.C_alloc CR9.out.1 (.cells #[.slice A61 t58_1.length c62, .slice A64 t58_2.length c65] 25)) CR9.out.2)
 have CR15 := Aside0.mk (And.intro (Kd.C_alloc CR15.out.1 (.cells #[.slice A61 t58_1.length c62, .slice A64 t58_2.length c65] 25)) CR15.out.2)
 have CR18 := Aside0.mk (And.intro (Kd.C_alloc CR18.out.1 (.cells #[.slice A61 t58_1.length c62, .slice A64 t58_2.length c65] 25)) CR18.out.2)
 have CR28 := Aside0.mk (And.intro (Kd.C_alloc CR28.out.1 (.cells #[.slice A61 t58_1.length c62, .slice A64 t58_2.length c65] 25)) CR28.out.2)
 have CR32 := Aside0.mk (And.intro (Kd.C_alloc CR32.out.1 (.cells #[.slice A61 t58_1.length c62, .slice A64 t58_2.length c65] 25)) CR32.out.2)
 have CR38 := Aside0.mk (And.intro (Kd.C_alloc CR38.out.1 (.cells #[.slice A61 t58_1.length c62, .slice A64 t58_2.length c65] 25)) CR38.out.2)
 have CR42 := Aside0.mk (And.intro (Kd.C_alloc CR42.out.1 (.cells #[.slice A61 t58_1.length c62, .slice A64 t58_2.length c65] 25)) CR42.out.2)
 have CR52 := Aside0.mk (And.intro (Kd.C_alloc CR52.out.1 (.cells #[.slice A61 t58_1.length c62, .slice A64 t58_2.length c65] 25)) CR52.out.2)
 have CR55 := Aside0.mk (And.intro (Kd.C_alloc CR55.out.1 (.cells #[.slice A61 t58_1.length c62, .slice A64 t58_2.length c65] 25)) CR55.out.2)
 have CR63 := Aside0.mk (And.intro (Kd.C_alloc CR63.out.1 (.cells #[.slice A61 t58_1.length c62, .slice A64 t58_2.length c65] 25)) CR63.out.2)
 have CR66 := Aside0.mk (And.intro (Kd.C_alloc CR66.out.1 (.cells #[.slice A61 t58_1.length c62, .slice A64 t58_2.length c65] 25)) CR66.out.2)
 generalize w60.alloc (.cells #[.slice A61 t58_1.length c62, .slice A64 t58_2.length c65] 25) = w67 at HS CR6 CR9 CR15 CR18 CR28 CR32 CR38 CR42 CR52 CR55 CR63 CR66 ⊢
 generalize w60.heap.size = g68 at HS ⊢
 have z0_0 : w67.cell? ⟨g20, 0, none⟩ = some (.slice A13 t10_1.length c14) := (blk_cell (HS.out.at_ 3 rfl) 0).trans rfl; have z0_1 : w67.cell? ⟨g20, 1, none⟩ = some (.slice A16 t10_2.length c17) := (blk_cell (HS.out.at_ 3 rfl) 1).trans rfl; have z1_0 : w67.cell? ⟨g44, 0, none⟩ = some (.slice A36 t34_1.length c37) := (blk_cell (HS.out.at_ 2 rfl) 0).trans rfl; have z1_1 : w67.cell? ⟨g44, 1, none⟩ = some (.slice A40 t34_2.length c41) := (blk_cell (HS.out.at_ 2 rfl) 1).trans rfl; have z2_0 : w67.cell? ⟨g57, 0, none⟩ = some (.slice A50 t47_1.length c51) := (blk_cell (HS.out.at_ 1 rfl) 0).trans rfl; have z2_1 : w67.cell? ⟨g57, 1, none⟩ = some (.slice A53 t47_2.length c54) := (blk_cell (HS.out.at_ 1 rfl) 1).trans rfl; have z3_0 : w67.cell? ⟨g68, 0, none⟩ = some (.slice A61 t58_1.length c62) := (blk_cell (HS.out.at_ 0 rfl) 0).trans rfl; have z3_1 : w67.cell? ⟨g68, 1, none⟩ = some (.slice A64 t58_2.length c65) := (blk_cell (HS.out.at_ 0 rfl) 1).trans rfl
 by_cases q69 : t10_3 = 0
 ·rw [if_pos q69] at h
  have q69b0 := (beq_iff_eq.2 q69 : (t10_3 == 0) = true)
  clear q69
  by_cases q70 : t34_3 = 0
  ·rw [if_pos q70] at h
   have q70b0 := (beq_iff_eq.2 q70 : (t34_3 == 0) = true)
   clear q70
   by_cases q71 : t47_3 = 0
   ·rw [if_pos q71] at h
    have q71b0 := (beq_iff_eq.2 q71 : (t47_3 == 0) = true)
    clear q71
    by_cases q72 : (t47_1.length : Int) = 2
    ·rw [if_pos q72] at h
     have q72b0 := (beq_iff_eq.2 q72 : ((t47_1.length : Int) == 2) = true)
     clear q72
     by_cases q73 : (0 : Int) < (t47_1.length : Int)
     ·rw [if_pos q73] at h
      have q73b0 := q73
      clear q73
      obtain ⟨ad74, ea_, ad74_0⟩ := Kd.at_int CR52.out.1 (0 : Int) (by omega) (by omega); subst ea_
      rw [show Int.toNat 0 = 0 from rfl] at ad74_0
      rw [Addr.add_zero'] at ad74_0
      by_cases q75 : (rd t47_1 0) = 3
      ·rw [if_pos q75] at h
       have q75b0 := (beq_iff_eq.2 q75 : ((rd t47_1 0) == 3) = true)
       clear q75
       by_cases q76 : (1 : Int) < (t47_2.length : Int)
       ·rw [if_pos q76] at h
        have q76b0 := q76
        clear q76
        obtain ⟨ad77, A78, c79, ea_, ad77_0, ad77_1, ad77_2, ad77l2, ad77c2⟩ := at_T39 CR55.out.1 (1 : Int) (by omega) (by omega)
        subst ea_
        rw [show Int.toNat 1 * 3 = 3 from rfl] at ad77_0 ad77_1 ad77_2
        rw [hf_add _ 3 (by decide)] at ad77_0 ad77_1 ad77_2; (try dsimp only at ad77_0 ad77_1 ad77_2)
        have CR80 := Aside0.mk (And.intro ad77c2 ad77l2); clear ad77c2 ad77l2
        by_cases q81 : (rd_T39 t47_2 1).f1 = 3
        ·rw [if_pos q81] at h
         have q81b0 := (beq_iff_eq.2 q81 : ((rd_T39 t47_2 1).f1 == 3) = true)
         clear q81
         by_cases q82 : t58_3 = 1
         ·rw [if_pos q82] at h
          have q82b0 := (beq_iff_eq.2 q82 : (t58_3 == 1) = true)
          clear q82
          obtain rfl := Option.some.inj h
          go_wp2_with (fail)
          go_ret
          exact ⟨rfl, HS.out.bel⟩
         ·rw [if_neg q82] at h
          cases h
        ·rw [if_neg q81] at h
         cases h
       ·rw [if_neg q76] at h
        cases h
      ·rw [if_neg q75] at h
       cases h
     ·rw [if_neg q73] at h
      cases h
    ·rw [if_neg q72] at h
     cases h
   ·rw [if_neg q71] at h
    cases h
  ·rw [if_neg q70] at h
   cases h
 ·rw [if_neg q69] at h
  cases h
end Go.Proofs.Ytiegcghapchimaa.P
