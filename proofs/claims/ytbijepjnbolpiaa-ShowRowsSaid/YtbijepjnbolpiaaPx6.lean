/- Written by a program of this session: the functions that the laws reach, what each comes to, and each law as it is stated, for every input. No condition. -/
import Derived.Test.YtbijepjnbolpiaaPx0
import Derived.Test.YtbijepjnbolpiaaPx5
namespace Go.Proofs.Ytbijepjnbolpiaa.P
open Go.RowKit Go.Proofs.YtbijepjnbolpiaaW.PrintWords Go.Proofs.YtbijepjnbolpiaaW.PrintLast Go.Proofs.YtbijepjnbolpiaaW.PrintMore
attribute [local go_sem] max2_int min2_int max_two min_two max_three min_three max_four min_four   -- for this text's walks alone
set_option linter.unusedVariables false
set_option linter.unusedSimpArgs false
def triglyphref03_Nums.l0 : Nat → List Int → Int → List Int → List (S40) → Option (List Int × (List (S40)))
 | 0, _, _, _, _ => none
 | k + 1, x0, x4, x238000, x238001 => if x4 < (x0.length : Int) then (if 0 ≤ x4 then (if x238001.length < 3518437208883 then (triglyphref03_Nums.l0 k x0 (wrap64 (x4 + 1)) x238000 (x238001 ++ [(⟨0, rd x0 x4, ([] : List (S25))⟩ : S40)])) else (none)) else (none)) else (some (x238000, x238001))
def triglyphref03_Nums.f (k : Nat) (l0 : List Int) : Option (List Int × (List (S40))) := triglyphref03_Nums.l0 k l0 0 (([(l0.length : Int)] : List Int)) ([] : List (S40))
theorem triglyphref03_Nums.mono_l : ∀ k, (∀ y0 y1 y2 y3, LeO (triglyphref03_Nums.l0 k y0 y1 y2 y3) (triglyphref03_Nums.l0 (k + 1) y0 y1 y2 y3))
 | 0 => fun _ _ _ _ r h => by simp [triglyphref03_Nums.l0] at h
 | k + 1 => by
  have ih0 := triglyphref03_Nums.mono_l k
  ·intro y0 y1 y2 y3
   unfold triglyphref03_Nums.l0
   repeat' first
   | (with_reducible exact ih0 _ _ _ _)
   | (with_reducible exact LeO.refl _)
   | (with_reducible exact LeO.none _)
   | (with_reducible refine LeO.ite ?_ ?_)
   | (with_reducible refine LeO.bind ?_ (fun _ => ?_))
theorem triglyphref03_Nums.mono : ∀ a0 k, LeO (triglyphref03_Nums.f k a0) (triglyphref03_Nums.f (k + 1) a0) := by
 intro a0 k
 have ih0 := triglyphref03_Nums.mono_l k
 unfold triglyphref03_Nums.f
 repeat' first
   | (with_reducible exact ih0 _ _ _ _)
   | (with_reducible exact LeO.refl _)
   | (with_reducible exact LeO.none _)
   | (with_reducible refine LeO.ite ?_ ?_)
   | (with_reducible refine LeO.bind ?_ (fun _ => ?_))
def triglyphref03_Nums.T5 : Bool × List (List Nat × List Nat) := (true, [([], []), ([0], [0]), ([], []), ([], []), ([2, 3], [2, 3]), ([4], [4]), ([5], [5]), ([6], [6]), ([1, 7], [1, 7]), ([0, 1, 2, 3, 4, 5, 6, 7, 8], []), ([9, 8, 8, 0, 1, 2, 3, 4, 5, 6, 7, 8], [8, 9])])
def triglyphref03_Nums.B5 : List Nat := [0, 1, 0, 0, 12, 28, 60, 124, 255, 511, 1023]
theorem triglyphref03_Nums.tab5 : rtab .any (opsOf Try.f10 5) = triglyphref03_Nums.T5 := by kernel_rfl
theorem triglyphref03_Nums.bits5 : waitsOk triglyphref03_Nums.T5.2 triglyphref03_Nums.B5 = true := by kernel_rfl
set_option maxHeartbeats 8000000 in
set_option maxRecDepth 100000 in
theorem triglyphref03_Nums.calls (k : Nat) (A0 : Option Addr) (c0 : Nat) (l0 : List Int) (r1 : List Int) (r2 : List (S40)) (w : World) (hr0 : Kd.C (Kd.int .i64) w A0 l0.length l0) (hc0 : l0.length ≤ c0) (h : triglyphref03_Nums.f k l0 = some (r1, r2)) :
  Calls Try.prog 10 #[.slice A0 l0.length c0] w fun e w' => ∃ v0_ v1_ : Value, e = .returned (.agg #[v0_, v1_]) ∧ Kd.R (Kd.int .i64) 3 w' w.heap.size (fun _ => True) v0_ r1 ∧ Kd.R k40 40 w' w.heap.size (fun k_ => some k_ ≠ (v0_ : Value).ownBlock) v1_ r2 ∧ Below w.heap.size w w' := by
 have hu25 := Try.underlying25
 have hu40 := Try.underlying40
 have HR0 := gA hr0
 have HC0 := gA hc0
 clear hr0 hc0
 have HB := gA (Below.refl w.heap.size w)
 have H : (triglyphref03_Nums.l0 k l0 0 (([(l0.length : Int)] : List Int)) ([] : List (S40))) = some (r1, r2) := h
 clear h
 obtain ⟨y234, hy234⟩ : ∃ y_ : List Int, y_ = (([(l0.length : Int)] : List Int)) := ⟨_, rfl⟩
 replace H : (triglyphref03_Nums.l0 k l0 0 y234 ([] : List (S40))) = some (r1, r2) := by first | (rw [hy234]; with_reducible exact H) | (have H2_ := (Option.bind_some _ _).symm.trans H; rw [hy234]; with_reducible exact H2_) | (have H2_ := (Option.bind_some _ _).symm.trans H; with_reducible exact H2_) | with_reducible exact H | (rw [hy234]; exact H) | exact H
 have Ny234 := gA hy234
 clear hy234
 have H' := gA H
 clear H
 go_enter Try.func10, Try.ntmps10
 go_wp2_with (first | ((with_reducible refine gate_dst (N := 2) rfl ?_); refine box_event ?hg (N := 2) ?hd (cs := #[.slice none 0 0, .slice none 0 0]) (t := 25) ?hr ?_; (case hd => rfl); (case hg => rfl); (case hr => first | (go_simp; done) | (go_simp; rfl)); intro gb233 hg w2 hbox hb; have BK233 := gA (hbox); have GW233 := gA ((by rw [hg]; exact (below_size (gB HB)) : w.heap.size ≤ gb233)); have GE233 := gA ((by rw [hg]; exact (below_size (gB HB)) : w.heap.size ≤ gb233)); replace HB := gA (below_step (gB HB) hb); clear hb hbox hg) | ((with_reducible refine gate_dst (N := 7) rfl ?_); refine Kd.R_lit (Kd.int .i64) _ 3 ?hg (N := 7) ?hd (xs := ([(l0.length : Int)] : List Int)) (inner := [.int .i64 (l0.length : Int)]) (ok := fun _ => True) (okp := fun _ => True) ?hr ?hp (fun _ hk => hk) trivial (Below.refl _ _) (Nat.le_refl _) (by simp) ?_; (case hd => rfl); (case hg => rfl); (case hr => first | (go_simp; done) | (go_simp; rfl)); (case hp => exact (Reps.one (show Kd.M (Kd.int .i64) _ _ _ (l0.length : Int) [.int .i64 (l0.length : Int)] from rfl) (Reps.none _ _))); intro v235 w3 ho4 hb hg_ hnew_; clear hg_ hnew_; (first | rw [← Ny234.out] at ho4 | (simp only [Int.reduceToNat] at ho4; rw [← Ny234.out] at ho4)); have HO236 := gA (Kd.R_lower ho4 (below_size (gB HB))); replace BK233 := gA (blk_below (gK BK233) hb); replace HB := gA (below_step (gB HB) hb); clear hb ho4; obtain ⟨Ao5, co5, eo5⟩ := Kd.R_slice HO236.out; subst eo5) | ((with_reducible refine gate_dst (N := 3) rfl ?_); refine box_event ?hg (N := 3) ?hd (cs := #[.slice none 0 0, .slice none 0 0]) (t := 25) ?hr ?_; (case hd => rfl); (case hg => rfl); (case hr => first | (go_simp; done) | (go_simp; rfl)); intro gb237 hg w6 hbox hb; replace HO236 := gA (Kd.R_below (gR HO236) hb); have BK237 := gA (hbox); have GW237 := gA ((by rw [hg]; exact (below_size (gB HB)) : w.heap.size ≤ gb237)); have GE237 := gA ((by rw [hg]; exact (below_size (gB HB)) : w.heap.size ≤ gb237)); replace HB := gA (below_step (gB HB) hb); have NB233_237 := gA ((by rw [hg]; exact Nat.ne_of_lt (blk_lt (gK BK233)) : gb233 ≠ gb237)); have NB237_233 := gA ((by rw [hg]; exact Nat.ne_of_gt (blk_lt (gK BK233)) : gb237 ≠ gb233)); replace BK233 := gA (blk_below (gK BK233) hb); clear hb hbox hg; have hnb7 := NB237_233.out; have hnc7 := NB233_237.out; obtain ⟨hcz8_0, hcz8_1, hfz8_0, hfz8_1⟩ := gz2 BK237))
 go_loopg [4] k (fun kq v4 w' => ∃ (x4_1 : Int) (x238001_1 : List (S40)) (u238001 : Value), v4 = .int .i64 x4_1 ∧ Aside0 (triglyphref03_Nums.l0 kq l0 x4_1 y234 x238001_1 = some (r1, r2)) ∧ Aside0 (kq ≤ k) ∧ Aside0 (Kd.R (Kd.int .i64) 3 w' w.heap.size (fun _ => True) (.slice Ao5 y234.length co5) y234) ∧ Aside0 (Kd.R k40 40 w' w.heap.size (fun k_ => some k_ ≠ ((.slice Ao5 y234.length co5) : Value).ownBlock ∧ k_ ≠ gb233 ∧ k_ ≠ gb237) u238001 x238001_1) ∧ Aside0 (w'.heap[gb233]? = some (.cells #[(.slice none 0 0), (.slice none 0 0)] 25 (0, 0))) ∧ Aside0 (w'.heap[gb237]? = some (.cells #[(.slice Ao5 y234.length co5), u238001] 25 (0, 0))) ∧ Aside0 (Below w.heap.size w w'))
 case atStart => exact ⟨(0), (([] : List (S40))), (.slice none 0 0), (rfl), H', ⟨Nat.le_refl _⟩, ⟨Kd.R_mono (Kd.R_far (p := ⟨gb237, 1, none⟩) (Kd.R_far (p := ⟨gb237, 0, none⟩) (Kd.R_types HO236.out BK237.out (by decide)) (fun _ hk => hk.2) (.slice Ao5 y234.length co5)) (fun _ hk => hk.2) (.slice none 0 0)) (fun _ hk => trivial)⟩, ⟨by first | exact Kd.R_nil _ _ _ _ _ | exact Kd.N_nil _ _ _ _ _ | exact Kd.V_nil _ _ _ _ _ | exact Kd.Q_nil _ _ _ _ _ | exact Kd.S_nil _ _ _ _ _⟩, ⟨by refine blk_far ?_ NB233_237.out _; refine blk_far ?_ NB233_237.out _; exact gK BK233⟩, ⟨by refine blk_put (cs := #[.slice Ao5 y234.length co5, .slice none 0 0]) ?_ 1 _ rfl; refine blk_put (cs := #[.slice none 0 0, .slice none 0 0]) ?_ 0 _ rfl; exact gK BK237⟩, ⟨by repeat first | exact gB HB | refine below_set ?_ GE233.out | refine below_set ?_ GE237.out⟩⟩
 case round =>
  clear H'
  try clear c1
  try clear p2
  try clear c7
  try clear hcz8_0
  try clear hcz8_1
  try clear hfz8_0
  try clear hfz8_1
  obtain ⟨x4_1, x238001_1, u238001, rfl, HA, HK1, HO_238000, HO_238001, BK233, BK237, HB⟩ := hrel
  cases gk with
  | zero => exact absurd HA.out (by simp [triglyphref03_Nums.l0])
  | succ k1 =>
   have H := HA.out; clear HA
   simp only [triglyphref03_Nums.l0] at H
   by_cases c9 : x4_1 < (l0.length : Int)
   ·rw [if_pos c9] at H
    have c9b0 := decide_eq_true c9
    clear c9
    obtain ⟨c10, H⟩ := iS H
    have c10b0 := decide_eq_true c10
    clear c10
    obtain ⟨c11, H⟩ := iS H
    have LMc11 := gA c11
    clear c11
    obtain ⟨y239, hy239⟩ : ∃ y_ : List (S40), y_ = (x238001_1 ++ [(⟨0, rd l0 x4_1, ([] : List (S25))⟩ : S40)]) := ⟨_, rfl⟩
    replace H : (triglyphref03_Nums.l0 k1 l0 (wrap64 (x4_1 + 1)) y234 y239) = some (r1, r2) := by first | (rw [hy239]; with_reducible exact H) | (have H2_ := (Option.bind_some _ _).symm.trans H; rw [hy239]; with_reducible exact H2_) | (have H2_ := (Option.bind_some _ _).symm.trans H; with_reducible exact H2_) | with_reducible exact H | (rw [hy239]; exact H) | exact H
    have Ny239 := gA hy239
    clear hy239
    have H' := gA H
    clear H
    try go_wp2
    replace HO_238000 := gA (Kd.R_drew HO_238000.out); replace HO_238001 := gA (Kd.R_drew HO_238001.out); replace BK233 := gA (blk_drew BK233.out); replace BK237 := gA (blk_drew BK237.out); replace HB := gA (below_drew1 HB.out)
    have p238 : 0 ≤ (x4_1 : Int) := of_decide_eq_true (by assumption)
    have q238 : x4_1 < (l0.length : Int) := of_decide_eq_true (by assumption)
    obtain ⟨ad238, e238, hx238_0⟩ := Kd.at_int HR0.out x4_1 p238 q238
    have hw238_0 := hx238_0
    cases e238
    replace hx238_0 := (HB.out.cell (World.block_lt_of_cell? w _ hx238_0)).trans hx238_0
    replace p238 := eq_true p238
    replace q238 := eq_true q238
    refine start_ (n := 11) (S := fun w' => w'.cell? ⟨gb237, 0, none⟩ = some (.slice Ao5 y234.length co5) ∧ w'.cell? ⟨gb237, 1, none⟩ = some (u238001) ∧ w'.cell? (ad238.add (x4_1).toNat) = some (.int .i64 (rd l0 x4_1))) (ds := [10]) #[false, false, false, false, false, false, false, false, false, false, false] (by kernel_rfl) rfl rfl ⟨(blk_cell BK237.out 0).trans rfl, (blk_cell BK237.out 1).trans rfl, ((HB.out.cell (World.block_lt_of_cell? w _ hw238_0)).trans hw238_0)⟩ (fun hHeld => ?_); refine with_tabW triglyphref03_Nums.tab5 triglyphref03_Nums.bits5 (fun HT_ HW_ => ?_)
    generalize wr.drew = w12 at HO_238000 HO_238001 BK233 BK237 HB hx238_0 hHeld ⊢
    refine pure_ (i := 0) (N := some 15) (v := ?_) (a' := ?_) #[true, false, false, false, false, false, false, false, false, false, false] rfl rfl (any_of HT_.out (by kernel_rfl)) (fun _ _ _ h => h) (Or.inl ⟨by rfl, ?_⟩) ?_ ?_; rotate_left
    ·intro w'; go_simp; with_reducible rfl
    rotate_left
    ·simp only [Act.put, List.setIfInBounds_toArray, List.set_cons_zero, List.set_cons_succ, i64_w, i32_w]; rfl
    refine pure_ (i := 2) (N := some 17) (v := ?_) (a' := ?_) #[true, false, true, false, false, false, false, false, false, false, false] rfl rfl (any_of HT_.out (by kernel_rfl)) (fun _ _ _ h => h) (Or.inl ⟨by rfl, ?_⟩) ?_ ?_; rotate_left
    ·intro w'; go_simp; with_reducible rfl
    rotate_left
    ·simp only [Act.put, List.setIfInBounds_toArray, List.set_cons_zero, List.set_cons_succ, i64_w, i32_w]; rfl
    refine pure_ (i := 3) (N := some 18) (v := ?_) (a' := ?_) #[true, false, true, true, false, false, false, false, false, false, false] rfl rfl (any_of HT_.out (by kernel_rfl)) (fun _ _ _ h => h) (Or.inl ⟨by rfl, ?_⟩) ?_ ?_; rotate_left
    ·intro w'; go_simp; with_reducible rfl
    rotate_left
    ·simp only [Act.put, List.setIfInBounds_toArray, List.set_cons_zero, List.set_cons_succ, i64_w, i32_w]; rfl
    refine pure_ (i := 4) (N := some 19) (v := ?_) (a' := ?_) #[true, false, true, true, true, false, false, false, false, false, false] rfl rfl (any_of HT_.out (by kernel_rfl)) (fun _ _ _ h => h) (Or.inl ⟨by rfl, ?_⟩) ?_ ?_; rotate_left
    ·intro w'; go_simp; with_reducible rfl
    rotate_left
    ·simp only [Act.put, List.setIfInBounds_toArray, List.set_cons_zero, List.set_cons_succ, i64_w, i32_w]; rfl
    refine take_ (i := 1) (N := some 16) (v := ?_) (a' := ?_) #[true, true, true, true, true, false, false, false, false, false, false] rfl rfl (take_ofW HT_.out HW_.out (by kernel_rfl)) (fun _ _ _ h => h) (Or.inl ⟨by rfl, ?_⟩) hHeld ?_ ?_; rotate_left
    ·rintro w' ⟨s0, s1, s2⟩; go_simp; with_reducible rfl
    rotate_left
    ·simp only [Act.put, List.setIfInBounds_toArray, List.set_cons_zero, List.set_cons_succ, i64_w, i32_w]; rfl
    refine take_ (i := 5) (N := some 20) (v := ?_) (a' := ?_) #[true, true, true, true, true, true, false, false, false, false, false] rfl rfl (take_ofW HT_.out HW_.out (by kernel_rfl)) (fun _ _ _ h => h) (Or.inl ⟨by rfl, ?_⟩) hHeld ?_ ?_; rotate_left
    ·rintro w' ⟨s0, s1, s2⟩; go_simp; with_reducible rfl
    rotate_left
    ·simp only [Act.put, List.setIfInBounds_toArray, List.set_cons_zero, List.set_cons_succ, i64_w, i32_w]; rfl
    refine pure_ (i := 6) (N := some 21) (v := ?_) (a' := ?_) #[true, true, true, true, true, true, true, false, false, false, false] rfl rfl (any_of HT_.out (by kernel_rfl)) (fun _ _ _ h => h) (Or.inl ⟨by rfl, ?_⟩) ?_ ?_; rotate_left
    ·intro w'; go_simp; with_reducible rfl
    rotate_left
    ·simp only [Act.put, List.setIfInBounds_toArray, List.set_cons_zero, List.set_cons_succ, i64_w, i32_w]; rfl
    refine one_ (i := 7) (N := some 22) #[true, true, true, true, true, true, true, true, false, false, false] rfl rfl (one_of HT_.out (by kernel_rfl)) (by decide) (fun K hK => ?_)
    refine value_ (w1 := ?_) (v := ?_) (by rfl) rfl ?_ ?_
    rotate_left 2
    ·go_simp
     constructor
     ·rfl
     ·rfl
    refine hK.out _ _ ⟨(blk_cell (blk_alloc BK237.out _) 0).trans rfl, (blk_cell (blk_alloc BK237.out _) 1).trans rfl, (World.cell?_alloc_lt _ _ _ (World.block_lt_of_cell? _ _ (((HB.out.cell (World.block_lt_of_cell? w _ hw238_0)).trans hw238_0)))).trans (((HB.out.cell (World.block_lt_of_cell? w _ hw238_0)).trans hw238_0))⟩ (fun hHeld => ?_); clear hK K
    refine norm_ (a' := ?_) ?_ ?_; rotate_left
    ·show Act.put _ (some 22) _ = _
     simp only [Act.put, List.setIfInBounds_toArray, List.set_cons_zero, List.set_cons_succ, i64_w, i32_w]; rfl
    refine one_ (i := 8) (N := some 23) #[true, true, true, true, true, true, true, true, true, false, false] rfl rfl (one_of HT_.out (by kernel_rfl)) (by decide) (fun K hK => ?_)
    refine Kd.R_append_step k40 (w0 := w) w.heap.size (by rfl) (.tmp 16) (.tmp 22) 23 40 (.agg #[(.int .i64 0), (.int .i64 0), (.slice none 0 0)]) 40 rfl Try.underlying23 info40 rfl (by decide) (by omega) u238001 x238001_1 (⟨0, rd l0 x4_1, ([] : List (S25))⟩ : S40) [.int .i64 0, .int .i64 (rd l0 x4_1), .slice none 0 0] (fun k_ => some k_ ≠ (.slice Ao5 y234.length co5 : Value).ownBlock ∧ k_ ≠ gb233 ∧ k_ ≠ gb237) (fun k_ => ((fun k_ => some k_ ≠ (.slice Ao5 y234.length co5 : Value).ownBlock ∧ k_ ≠ gb233 ∧ k_ ≠ gb237)) k_ ∧ some k_ ≠ (u238001 : Value).ownBlock) rfl rfl ?aP (fun _ hk => hk) ?aF ?aO ?aB ?aS ?aL ?_
    (case aP => exact k40_mkM _ _ _ (⟨0, rd l0 x4_1, ([] : List (S25))⟩ : S40) (Kd.R_nil _ _ _ _ _))
    (case aB => exact (gB HB))
    (case aF => exact (fun k_ hk => ⟨Kd.fresh' (Kd.R_lt (gR HO_238000)) k_ hk, Kd.freshB (gK BK233) k_ hk, Kd.freshB (gK BK237) k_ hk⟩))
    (case aO => exact (gR HO_238001))
    (case aS => exact (below_size (gB HB)))
    (case aL => have := LMc11.out; omega)
    intro v240 w13 ho hb hg hat
    rw [← Ny239.out] at ho
    replace HO_238000 := gA (Kd.R_over' (gR HO_238000) (Kd.R_typed (gR HO_238001)) (by decide) hg); replace BK233 := gA (blk_grown (gK BK233) hg (Kd.R_ne HO_238001.out BK233.out (by decide))); replace BK237 := gA (blk_grown (gK BK237) hg (Kd.R_ne HO_238001.out BK237.out (by decide))); replace HB := gA (hb); have HO241 := gA (ho); clear HO_238001 ho hb hg hat
    obtain ⟨Ao14, co14, eo14⟩ := Kd.R_slice HO241.out
    (first | subst eo14 | (injection eo14 with f1_ f2_ f3_; have f4_ := f1_.symm; have f5_ := f3_.symm; clear f1_ f2_ f3_; subst f4_; subst f5_))
    refine hK.out _ _ ⟨(blk_cell BK237.out 0).trans rfl, (blk_cell BK237.out 1).trans rfl, ((HB.out.cell (World.block_lt_of_cell? w _ hw238_0)).trans hw238_0)⟩ (fun hHeld => ?_); clear hK K
    refine norm_ (a' := ?_) ?_ ?_; rotate_left
    ·show Act.put _ (some 23) _ = _
     simp only [Act.put, List.setIfInBounds_toArray, List.set_cons_zero, List.set_cons_succ, i64_w, i32_w]; rfl
    refine pure_ (i := 9) (N := some 24) (v := ?_) (a' := ?_) #[true, true, true, true, true, true, true, true, true, true, false] rfl rfl (any_of HT_.out (by kernel_rfl)) (fun _ _ _ h => h) (Or.inl ⟨by rfl, ?_⟩) ?_ ?_; rotate_left
    ·intro w'; go_simp; with_reducible rfl
    rotate_left
    ·simp only [Act.put, List.setIfInBounds_toArray, List.set_cons_zero, List.set_cons_succ, i64_w, i32_w]; rfl
    refine last_ (i := 10) (N := none) #[true, true, true, true, true, true, true, true, true, true, true] rfl rfl (one_of HT_.out (by kernel_rfl)) (by decide) (fun K hK => ?_)
    have hs15 := gz BK237 1 rfl
    have hfs15 := blk_frozen BK237.out 1
    have hns15_0 := NB233_237.out
    have hms15_0 := NB237_233.out
    refine skip_ (w1 := ?_) (by rfl) rfl ?_ ?_; rotate_left
    ·go_simp; rfl
    refine hK.out _ _ ?_; clear hK K
    refine done_ (done_of HT_.out (by kernel_rfl)) ?_
    try go_wp2
    go_roundg k1
    case measure => have := HK1.out; omega
    case rel => exact ⟨(wrap64 (x4_1 + 1)), (y239), (.slice Ao14 y239.length co14), (rfl), H', ⟨by have := HK1.out; omega⟩, ⟨Kd.R_mono (Kd.R_far (p := ⟨gb237, 1, none⟩) (Kd.R_types HO_238000.out BK237.out (by decide)) (fun _ hk => hk.2) (.slice Ao14 y239.length co14)) (fun _ hk => trivial)⟩, ⟨Kd.R_mono (Kd.R_far (p := ⟨gb237, 1, none⟩) (Kd.R_mono HO241.out (fun k_ hk => (⟨hk, hk.2.2⟩ : _ ∧ k_ ≠ gb237))) (fun _ hk => hk.2) (.slice Ao14 y239.length co14)) (fun _ hk => ⟨hk.1.1, ⟨hk.1.2.1, hk.1.2.2⟩⟩)⟩, ⟨by refine blk_far ?_ NB233_237.out _; exact gK BK233⟩, ⟨by refine blk_put (cs := #[.slice Ao5 y234.length co5, u238001]) ?_ 1 _ rfl; exact gK BK237⟩, ⟨by repeat first | exact gB HB | refine below_set ?_ GE233.out | refine below_set ?_ GE237.out⟩⟩
   ·rw [if_neg c9] at H
    have c9b0 := decide_eq_false c9
    clear c9
    simp only [Option.some.injEq, Prod.mk.injEq] at H
    obtain ⟨rfl, rfl⟩ := H
    have hnb16 := NB237_233.out
    have hnc16 := NB233_237.out
    obtain ⟨hcz17_0, hcz17_1, hfz17_0, hfz17_1⟩ := gz2 BK237
    obtain ⟨hcz18_0, hcz18_1, hfz18_0, hfz18_1⟩ := gz2 BK233
    obtain ⟨Ao19, co19, eo19⟩ := Kd.R_slice HO_238001.out
    subst eo19
    go_wp2
    refine bodyPost_ret (results_cell_row rfl _ _ gb233 25 #[.slice Ao5 y234.length co5, .slice Ao19 x238001_1.length co19] (0, 0) _ rfl (by refine blk_put (cs := #[.slice Ao5 y234.length co5, .slice none 0 0]) ?_ 1 _ rfl; refine blk_put (cs := #[.slice none 0 0, .slice none 0 0]) ?_ 0 _ rfl; exact gK BK233) Try.underlying25 rfl (by kernel_rfl)) rfl ?_
    exact ⟨_, _, rfl, Kd.R_mono (Kd.R_far (p := ⟨gb233, 1, none⟩) (Kd.R_far (p := ⟨gb233, 0, none⟩) (Kd.R_types HO_238000.out BK233.out (by decide)) (fun _ hk => hk.2) (.slice Ao5 y234.length co5)) (fun _ hk => hk.2) (.slice Ao19 x238001_1.length co19)) (fun _ hk => trivial), Kd.R_mono (Kd.R_far (p := ⟨gb233, 1, none⟩) (Kd.R_far (p := ⟨gb233, 0, none⟩) (Kd.R_mono HO_238001.out (fun k_ hk => (⟨hk, hk.2.1⟩ : _ ∧ k_ ≠ gb233))) (fun _ hk => hk.2) (.slice Ao5 y234.length co5)) (fun _ hk => hk.2) (.slice Ao19 x238001_1.length co19)) (fun _ hk => hk.1.1), by repeat first | exact gB HB | refine below_set ?_ GE233.out | refine below_set ?_ GE237.out⟩
def triglyphlaw27_works.f (k : Nat)  : Option (Bool) := (triglyphref03_Nums.f k (([1, (-2)] : List Int))).bind fun bt245 => ((show_Show.f k 0 bt245.1 bt245.2).bind fun bt251 => ((show_Show.f k 2 (([2, 1] : List Int)) (([(⟨0, 1, ([] : List (S25))⟩ : S40), (⟨0, 2, ([] : List (S25))⟩ : S40)] : List (S40)))).bind fun bt259 => ((show_Show.f k 3 ([] : List Int) ([] : List (S40))).bind fun bt261 => (if bt251.1.toList = ([49, 32, 194, 175, 50] : List UInt8) then (if bt251.2 = 0 then (if bt259.1.toList = ([49, 10, 50] : List UInt8) then (if bt259.2 = 0 then (some (bt261.2 == 1)) else (none)) else (none)) else (none)) else (none)))))
theorem triglyphlaw27_works.mono : ∀ k, LeO (triglyphlaw27_works.f k ) (triglyphlaw27_works.f (k + 1) ) := by
 intro  k
 unfold triglyphlaw27_works.f
 repeat' first
   | (with_reducible exact show_Show.mono _ _ _ _)
   | (with_reducible exact triglyphref03_Nums.mono _ _)
   | (with_reducible exact LeO.refl _)
   | (with_reducible exact LeO.none _)
   | (with_reducible refine LeO.ite ?_ ?_)
   | (with_reducible refine LeO.bind ?_ (fun _ => ?_))
   | exact show_Show.mono _ _ _ _
   | exact triglyphref03_Nums.mono _ _
set_option maxHeartbeats 8000000 in
set_option maxRecDepth 100000 in
theorem triglyphlaw27_works.calls (k : Nat)  (r : Bool) (w : World) (h : triglyphlaw27_works.f k  = some r) :
  Calls Try.prog 7 #[] w fun e w' => e = .returned (.bool r) ∧ Below w.heap.size w w' := by
 have hu40 := Try.underlying40
 have hu25 := Try.underlying25
 have HB := gA (Below.refl w.heap.size w)
 have H : ((triglyphref03_Nums.f k (([1, (-2)] : List Int))).bind fun bt245 => ((show_Show.f k 0 bt245.1 bt245.2).bind fun bt251 => ((show_Show.f k 2 (([2, 1] : List Int)) (([(⟨0, 1, ([] : List (S25))⟩ : S40), (⟨0, 2, ([] : List (S25))⟩ : S40)] : List (S40)))).bind fun bt259 => ((show_Show.f k 3 ([] : List Int) ([] : List (S40))).bind fun bt261 => (if bt251.1.toList = ([49, 32, 194, 175, 50] : List UInt8) then (if bt251.2 = 0 then (if bt259.1.toList = ([49, 10, 50] : List UInt8) then (if bt259.2 = 0 then (some (bt261.2 == 1)) else (none)) else (none)) else (none)) else (none)))))) = some r := h
 clear h
 obtain ⟨y242, hy242⟩ : ∃ y_ : List Int, y_ = (([1, (-2)] : List Int)) := ⟨_, rfl⟩
 replace H : ((triglyphref03_Nums.f k y242).bind fun bt245 => ((show_Show.f k 0 bt245.1 bt245.2).bind fun bt251 => ((show_Show.f k 2 (([2, 1] : List Int)) (([(⟨0, 1, ([] : List (S25))⟩ : S40), (⟨0, 2, ([] : List (S25))⟩ : S40)] : List (S40)))).bind fun bt259 => ((show_Show.f k 3 ([] : List Int) ([] : List (S40))).bind fun bt261 => (if bt251.1.toList = ([49, 32, 194, 175, 50] : List UInt8) then (if bt251.2 = 0 then (if bt259.1.toList = ([49, 10, 50] : List UInt8) then (if bt259.2 = 0 then (some (bt261.2 == 1)) else (none)) else (none)) else (none)) else (none)))))) = some r := by first | (rw [hy242]; with_reducible exact H) | (have H2_ := (Option.bind_some _ _).symm.trans H; rw [hy242]; with_reducible exact H2_) | (have H2_ := (Option.bind_some _ _).symm.trans H; with_reducible exact H2_) | with_reducible exact H | (rw [hy242]; exact H) | exact H
 have Ny242 := gA hy242
 clear hy242
 replace H := Option.bind_eq_some_iff.mp H
 obtain ⟨⟨t245, t248⟩, A10, H⟩ := H
 replace H : ((show_Show.f k 0 t245 t248).bind fun bt251 => ((show_Show.f k 2 (([2, 1] : List Int)) (([(⟨0, 1, ([] : List (S25))⟩ : S40), (⟨0, 2, ([] : List (S25))⟩ : S40)] : List (S40)))).bind fun bt259 => ((show_Show.f k 3 ([] : List Int) ([] : List (S40))).bind fun bt261 => (if bt251.1.toList = ([49, 32, 194, 175, 50] : List UInt8) then (if bt251.2 = 0 then (if bt259.1.toList = ([49, 10, 50] : List UInt8) then (if bt259.2 = 0 then (some (bt261.2 == 1)) else (none)) else (none)) else (none)) else (none))))) = some r := H
 have A1 := gA A10
 clear A10
 replace H := Option.bind_eq_some_iff.mp H
 obtain ⟨⟨t251, t252⟩, A20, H⟩ := H
 replace H : ((show_Show.f k 2 (([2, 1] : List Int)) (([(⟨0, 1, ([] : List (S25))⟩ : S40), (⟨0, 2, ([] : List (S25))⟩ : S40)] : List (S40)))).bind fun bt259 => ((show_Show.f k 3 ([] : List Int) ([] : List (S40))).bind fun bt261 => (if t251.toList = ([49, 32, 194, 175, 50] : List UInt8) then (if t252 = 0 then (if bt259.1.toList = ([49, 10, 50] : List UInt8) then (if bt259.2 = 0 then (some (bt261.2 == 1)) else (none)) else (none)) else (none)) else (none)))) = some r := H
 have A2 := gA A20
 clear A20
 obtain ⟨y253, hy253⟩ : ∃ y_ : List Int, y_ = (([2, 1] : List Int)) := ⟨_, rfl⟩
 replace H : ((show_Show.f k 2 y253 (([(⟨0, 1, ([] : List (S25))⟩ : S40), (⟨0, 2, ([] : List (S25))⟩ : S40)] : List (S40)))).bind fun bt259 => ((show_Show.f k 3 ([] : List Int) ([] : List (S40))).bind fun bt261 => (if t251.toList = ([49, 32, 194, 175, 50] : List UInt8) then (if t252 = 0 then (if bt259.1.toList = ([49, 10, 50] : List UInt8) then (if bt259.2 = 0 then (some (bt261.2 == 1)) else (none)) else (none)) else (none)) else (none)))) = some r := by first | (rw [hy253]; with_reducible exact H) | (have H2_ := (Option.bind_some _ _).symm.trans H; rw [hy253]; with_reducible exact H2_) | (have H2_ := (Option.bind_some _ _).symm.trans H; with_reducible exact H2_) | with_reducible exact H | (rw [hy253]; exact H) | exact H
 have Ny253 := gA hy253
 clear hy253
 obtain ⟨y256, hy256⟩ : ∃ y_ : List (S40), y_ = (([(⟨0, 1, ([] : List (S25))⟩ : S40), (⟨0, 2, ([] : List (S25))⟩ : S40)] : List (S40))) := ⟨_, rfl⟩
 replace H : ((show_Show.f k 2 y253 y256).bind fun bt259 => ((show_Show.f k 3 ([] : List Int) ([] : List (S40))).bind fun bt261 => (if t251.toList = ([49, 32, 194, 175, 50] : List UInt8) then (if t252 = 0 then (if bt259.1.toList = ([49, 10, 50] : List UInt8) then (if bt259.2 = 0 then (some (bt261.2 == 1)) else (none)) else (none)) else (none)) else (none)))) = some r := by first | (rw [hy256]; with_reducible exact H) | (have H2_ := (Option.bind_some _ _).symm.trans H; rw [hy256]; with_reducible exact H2_) | (have H2_ := (Option.bind_some _ _).symm.trans H; with_reducible exact H2_) | with_reducible exact H | (rw [hy256]; exact H) | exact H
 have Ny256 := gA hy256
 clear hy256
 replace H := Option.bind_eq_some_iff.mp H
 obtain ⟨⟨t259, t260⟩, A30, H⟩ := H
 replace H : ((show_Show.f k 3 ([] : List Int) ([] : List (S40))).bind fun bt261 => (if t251.toList = ([49, 32, 194, 175, 50] : List UInt8) then (if t252 = 0 then (if t259.toList = ([49, 10, 50] : List UInt8) then (if t260 = 0 then (some (bt261.2 == 1)) else (none)) else (none)) else (none)) else (none))) = some r := H
 have A3 := gA A30
 clear A30
 replace H := Option.bind_eq_some_iff.mp H
 obtain ⟨⟨t261, t262⟩, A40, H⟩ := H
 replace H : (if t251.toList = ([49, 32, 194, 175, 50] : List UInt8) then (if t252 = 0 then (if t259.toList = ([49, 10, 50] : List UInt8) then (if t260 = 0 then (some (t262 == 1)) else (none)) else (none)) else (none)) else (none)) = some r := H
 have A4 := gA A40
 clear A40
 obtain ⟨c5, H⟩ := iS H
 have c5b0 : (t251.toList == ([49, 32, 194, 175, 50] : List UInt8)) = true := beq_iff_eq.mpr c5
 have c5b1 : (t251.toList != ([49, 32, 194, 175, 50] : List UInt8)) = false := bne_eq_false_iff_eq.mpr c5
 clear c5
 obtain ⟨c6, H⟩ := iS H
 have c6b0 : (t252 == 0) = true := beq_iff_eq.mpr c6
 have c6b1 : (t252 != 0) = false := bne_eq_false_iff_eq.mpr c6
 clear c6
 obtain ⟨c7, H⟩ := iS H
 have c7b0 : (t259.toList == ([49, 10, 50] : List UInt8)) = true := beq_iff_eq.mpr c7
 have c7b1 : (t259.toList != ([49, 10, 50] : List UInt8)) = false := bne_eq_false_iff_eq.mpr c7
 clear c7
 obtain ⟨c8, H⟩ := iS H
 have c8b0 : (t260 == 0) = true := beq_iff_eq.mpr c8
 have c8b1 : (t260 != 0) = false := bne_eq_false_iff_eq.mpr c8
 clear c8
 obtain rfl := Option.some.inj H
 go_enter Try.func7, Try.ntmps7
 go_wp2_with (first | ((with_reducible refine gate_dst (N := 8) rfl ?_); refine Kd.R_lit (Kd.int .i64) _ 2 ?hg (N := 8) ?hd (xs := ([1, (-2)] : List Int)) (inner := [.int .i64 1, .int .i64 (-2)]) (ok := fun _ => True) (okp := fun _ => True) ?hr ?hp (fun _ hk => hk) trivial (Below.refl _ _) (Nat.le_refl _) (by simp) ?_; (case hd => rfl); (case hg => rfl); (case hr => first | (go_simp; done) | (go_simp; rfl)); (case hp => exact (Reps.one (show Kd.M (Kd.int .i64) _ _ _ 1 [.int .i64 1] from rfl) (Reps.one (show Kd.M (Kd.int .i64) _ _ _ (-2) [.int .i64 (-2)] from rfl) (Reps.none _ _)))); intro v243 w9 ho10 hb hg_ hnew_; clear hg_ hnew_; (first | rw [← Ny242.out] at ho10 | (simp only [Int.reduceToNat] at ho10; rw [← Ny242.out] at ho10)); have HO244 := gA (Kd.R_lower ho10 (below_size (gB HB))); replace HB := gA (below_step (gB HB) hb); clear hb ho10; obtain ⟨Ao11, co11, eo11⟩ := Kd.R_slice HO244.out; subst eo11) | ((with_reducible refine gate_callee (f := 10) rfl ?_); refine goesL_ (some 9) rfl rfl Try.func10 (by kernel_rfl) rfl #[.slice Ao11 y242.length co11] rfl (by (try simp only [List.map_toArray, List.map_cons, List.map_nil]); first | done | rfl | (simp only [List.length_drop, List.length_take]; rfl)) ?_; (with_reducible refine (triglyphref03_Nums.calls k _ _ y242 t245 t248 _ ?side1 ?side2 A1.out).mono ?_); (case side1 => repeat (first | exact (Kd.R_reads' HO244.out).2.2 | (with_reducible refine Kd.C_alloc ?_ _) | (with_reducible refine Kd.C_drewN ?_ _) | (with_reducible refine Kd.C_drew ?_))); (case side2 => exact (Kd.R_reads' HO244.out).2.1); rintro e w12 ⟨v246, v249, rfl, ho0, ho1, hb⟩; refine ⟨_, rfl, ?_⟩; replace HO244 := gA (Kd.R_below (gR HO244) hb); have HO247 := gA (Kd.R_lower ho0 (below_size (gB HB))); have HO250 := gA (Kd.R_lower ho1 (below_size (gB HB))); replace HB := gA (below_step (gB HB) hb); (try clear hb); (try clear ho0); (try clear ho1); obtain ⟨Ao13, co13, eo13⟩ := Kd.R_slice HO247.out; subst eo13; obtain ⟨Ao14, co14, eo14⟩ := Kd.R_slice HO250.out; subst eo14) | ((with_reducible refine gate_callee (f := 8) rfl ?_); refine goesL_ (some 10) rfl rfl Try.func8 (by kernel_rfl) rfl #[.int .i64 0, .agg #[.slice Ao13 t245.length co13, .slice Ao14 t248.length co14]] rfl (by (try simp only [List.map_toArray, List.map_cons, List.map_nil]); first | done | rfl | (simp only [List.length_drop, List.length_take]; rfl)) ?_; (with_reducible refine (show_Show.calls k 0 _ _ t245 _ _ t248 t251 t252 _ ?side1 ?side2 ?side3 ?side4 A2.out).mono ?_); (case side1 => repeat (first | exact (Kd.R_reads' HO247.out).2.2 | (with_reducible refine Kd.C_alloc ?_ _) | (with_reducible refine Kd.C_drewN ?_ _) | (with_reducible refine Kd.C_drew ?_))); (case side2 => exact (Kd.R_reads' HO247.out).2.1); (case side3 => repeat (first | exact (Kd.R_reads' HO250.out).2.2 | (with_reducible refine Kd.C_alloc ?_ _) | (with_reducible refine Kd.C_drewN ?_ _) | (with_reducible refine Kd.C_drew ?_))); (case side4 => exact (Kd.R_reads' HO250.out).2.1); rintro e w15 ⟨rfl, hb⟩; refine ⟨_, rfl, ?_⟩; replace HO244 := gA (Kd.R_below (gR HO244) hb); replace HO247 := gA (Kd.R_below (gR HO247) hb); replace HO250 := gA (Kd.R_below (gR HO250) hb); replace HB := gA (below_step (gB HB) hb); (try clear hb)) | ((with_reducible refine gate_dst (N := 14) rfl ?_); refine Kd.R_lit (Kd.int .i64) _ 3 ?hg (N := 14) ?hd (xs := ([2, 1] : List Int)) (inner := [.int .i64 2, .int .i64 1]) (ok := fun _ => True) (okp := fun _ => True) ?hr ?hp (fun _ hk => hk) trivial (Below.refl _ _) (Nat.le_refl _) (by simp) ?_; (case hd => rfl); (case hg => rfl); (case hr => first | (go_simp; done) | (go_simp; rfl)); (case hp => exact (Reps.one (show Kd.M (Kd.int .i64) _ _ _ 2 [.int .i64 2] from rfl) (Reps.one (show Kd.M (Kd.int .i64) _ _ _ 1 [.int .i64 1] from rfl) (Reps.none _ _)))); intro v254 w16 ho17 hb hg_ hnew_; clear hg_ hnew_; (first | rw [← Ny253.out] at ho17 | (simp only [Int.reduceToNat] at ho17; rw [← Ny253.out] at ho17)); replace HO244 := gA (Kd.R_below (gR HO244) hb); replace HO250 := gA (Kd.R_elder' (gR HO250) (Kd.R_base ho17) hb); have HO255 := gA (Kd.R_lower (Kd.R_new' ho17 (Kd.R_lt (gR HO247))) (below_size (gB HB))); replace HO247 := gA (Kd.R_elder' (gR HO247) (Kd.R_base ho17) hb); replace HB := gA (below_step (gB HB) hb); clear hb ho17) | ((with_reducible refine gate_dst (N := 17) rfl ?_); refine Kd.R_lit k40 _ 40 ?hg (N := 17) ?hd (xs := ([(⟨0, 1, ([] : List (S25))⟩ : S40), (⟨0, 2, ([] : List (S25))⟩ : S40)] : List (S40))) (inner := [.int .i64 0, .int .i64 1, .slice none 0 0, .int .i64 0, .int .i64 2, .slice none 0 0]) (ok := fun _ => True) (okp := fun _ => True) ?hr ?hp (fun _ hk => hk) trivial (Below.refl _ _) (Nat.le_refl _) (by simp) ?_; (case hd => rfl); (case hg => rfl); (case hr => first | (go_simp; done) | (go_simp; rfl)); (case hp => exact (Reps.c3 (show Kd.M k40 _ _ _ (⟨0, 1, ([] : List (S25))⟩ : S40) [.int .i64 0, .int .i64 1, .slice none 0 0] from (k40_mkM _ _ _ (⟨0, 1, ([] : List (S25))⟩ : S40) (Kd.R_nil _ _ _ _ _))) (Reps.c3 (show Kd.M k40 _ _ _ (⟨0, 2, ([] : List (S25))⟩ : S40) [.int .i64 0, .int .i64 2, .slice none 0 0] from (k40_mkM _ _ _ (⟨0, 2, ([] : List (S25))⟩ : S40) (Kd.R_nil _ _ _ _ _))) (Reps.none _ _)))); intro v257 w18 ho19 hb hg_ hnew_; clear hg_ hnew_; (first | rw [← Ny256.out] at ho19 | (simp only [Int.reduceToNat] at ho19; rw [← Ny256.out] at ho19)); replace HO244 := gA (Kd.R_below (gR HO244) hb); have HO258 := gA (Kd.R_lower (Kd.R_new' (Kd.R_new' (Kd.R_new' ho19 (Kd.R_lt (gR HO247))) (Kd.R_lt (gR HO250))) (Kd.R_lt (gR HO255))) (below_size (gB HB))); replace HO247 := gA (Kd.R_below (gR HO247) hb); replace HO250 := gA (Kd.R_elder' (gR HO250) (Kd.R_base ho19) hb); replace HO255 := gA (Kd.R_below (gR HO255) hb); replace HB := gA (below_step (gB HB) hb); clear hb ho19; obtain ⟨Ao20, co20, eo20⟩ := Kd.R_slice HO258.out; subst eo20; obtain ⟨Ao21, co21, eo21⟩ := Kd.R_slice HO255.out; subst eo21) | ((with_reducible refine gate_callee (f := 8) rfl ?_); refine goesL_ (some 19) rfl rfl Try.func8 (by kernel_rfl) rfl #[.int .i64 2, .agg #[.slice Ao21 y253.length co21, .slice Ao20 y256.length co20]] rfl (by (try simp only [List.map_toArray, List.map_cons, List.map_nil]); first | done | rfl | (simp only [List.length_drop, List.length_take]; rfl)) ?_; (with_reducible refine (show_Show.calls k 2 _ _ y253 _ _ y256 t259 t260 _ ?side1 ?side2 ?side3 ?side4 A3.out).mono ?_); (case side1 => repeat (first | exact (Kd.R_reads' HO255.out).2.2 | (with_reducible refine Kd.C_alloc ?_ _) | (with_reducible refine Kd.C_drewN ?_ _) | (with_reducible refine Kd.C_drew ?_))); (case side2 => exact (Kd.R_reads' HO255.out).2.1); (case side3 => repeat (first | exact (Kd.R_reads' HO258.out).2.2 | (with_reducible refine Kd.C_alloc ?_ _) | (with_reducible refine Kd.C_drewN ?_ _) | (with_reducible refine Kd.C_drew ?_))); (case side4 => exact (Kd.R_reads' HO258.out).2.1); rintro e w22 ⟨rfl, hb⟩; refine ⟨_, rfl, ?_⟩; replace HO244 := gA (Kd.R_below (gR HO244) hb); replace HO247 := gA (Kd.R_below (gR HO247) hb); replace HO250 := gA (Kd.R_below (gR HO250) hb); replace HO255 := gA (Kd.R_below (gR HO255) hb); replace HO258 := gA (Kd.R_below (gR HO258) hb); replace HB := gA (below_step (gB HB) hb); (try clear hb)) | ((with_reducible refine gate_callee (f := 8) rfl ?_); refine goesL_ (some 24) rfl rfl Try.func8 (by kernel_rfl) rfl #[.int .i64 3, .agg #[.slice none 0 0, .slice none 0 0]] rfl (by (try simp only [List.map_toArray, List.map_cons, List.map_nil]); first | done | rfl | (simp only [List.length_drop, List.length_take]; rfl)) ?_; (refine (show_Show.calls k 3 _ _ ([] : List Int) _ _ ([] : List (S40)) t261 t262 _ ?side1 ?side2 ?side3 ?side4 A4.out).mono ?_); (case side1 => exact Kd.C_nil _ _); (case side2 => exact Nat.le_refl _); (case side3 => exact Kd.C_nil _ _); (case side4 => exact Nat.le_refl _); rintro e w23 ⟨rfl, hb⟩; refine ⟨_, rfl, ?_⟩; replace HO244 := gA (Kd.R_below (gR HO244) hb); replace HO247 := gA (Kd.R_below (gR HO247) hb); replace HO250 := gA (Kd.R_below (gR HO250) hb); replace HO255 := gA (Kd.R_below (gR HO255) hb); replace HO258 := gA (Kd.R_below (gR HO258) hb); replace HB := gA (below_step (gB HB) hb); (try clear hb)))
 go_ret
 exact ⟨rfl, gB HB⟩
mutual
def triglyphref03_Size.l0 : Nat → List Int → Bool → Int → Option (Int × Int)
 | 0, _, _, _ => none
 | k + 1, x0, x4, x5 => if x5 < (x0.length : Int) then (if 0 ≤ x5 then (if (rd x0 x5) < 0 then (some (0, 1)) else (if (rd x0 x5) = 0 then (triglyphref03_Size.l0 k x0 true (wrap64 (x5 + 1))) else (triglyphref03_Size.l0 k x0 x4 (wrap64 (x5 + 1))))) else (none)) else (if x4 = true then (some (0, 0)) else (triglyphref03_Size.l1 k x0 1 0))
def triglyphref03_Size.l1 : Nat → List Int → Int → Int → Option (Int × Int)
 | 0, _, _, _ => none
 | k + 1, x0, x6, x7 => if x7 < (x0.length : Int) then (if 0 ≤ x7 then (if (rd x0 x7) > 16384 then (some (0, 12)) else (if (wrap64 (x6 * (rd x0 x7))) > 16384 then (some (0, 12)) else (triglyphref03_Size.l1 k x0 (wrap64 (x6 * (rd x0 x7))) (wrap64 (x7 + 1))))) else (none)) else (some (x6, 0))
end
def triglyphref03_Size.f (k : Nat) (l0 : List Int) : Option (Int × Int) := if (l0.length : Int) > 8 then (some (0, 6)) else (triglyphref03_Size.l0 k l0 false 0)
theorem triglyphref03_Size.mono_l : ∀ k, (∀ y0 y1 y2, LeO (triglyphref03_Size.l0 k y0 y1 y2) (triglyphref03_Size.l0 (k + 1) y0 y1 y2)) ∧ (∀ y0 y1 y2, LeO (triglyphref03_Size.l1 k y0 y1 y2) (triglyphref03_Size.l1 (k + 1) y0 y1 y2))
 | 0 => ⟨fun _ _ _ r h => by simp [triglyphref03_Size.l0] at h, fun _ _ _ r h => by simp [triglyphref03_Size.l1] at h⟩
 | k + 1 => by
  obtain ⟨ih0, ih1⟩ := triglyphref03_Size.mono_l k
  refine ⟨?_, ?_⟩
  ·intro y0 y1 y2
   unfold triglyphref03_Size.l0
   repeat' first
   | (with_reducible exact ih0 _ _ _)
   | (with_reducible exact ih1 _ _ _)
   | (with_reducible exact LeO.refl _)
   | (with_reducible exact LeO.none _)
   | (with_reducible refine LeO.ite ?_ ?_)
   | (with_reducible refine LeO.bind ?_ (fun _ => ?_))





  ·intro y0 y1 y2
   unfold triglyphref03_Size.l1
   repeat' first
   | (with_reducible exact ih0 _ _ _)
   | (with_reducible exact ih1 _ _ _)
   | (with_reducible exact LeO.refl _)
   | (with_reducible exact LeO.none _)
   | (with_reducible refine LeO.ite ?_ ?_)
   | (with_reducible refine LeO.bind ?_ (fun _ => ?_))
theorem triglyphref03_Size.mono : ∀ a0 k, LeO (triglyphref03_Size.f k a0) (triglyphref03_Size.f (k + 1) a0) := by
 intro a0 k
 obtain ⟨ih0, ih1⟩ := triglyphref03_Size.mono_l k
 unfold triglyphref03_Size.f
 repeat' first
   | (with_reducible exact ih0 _ _ _)
   | (with_reducible exact ih1 _ _ _)
   | (with_reducible exact LeO.refl _)
   | (with_reducible exact LeO.none _)
   | (with_reducible refine LeO.ite ?_ ?_)
   | (with_reducible refine LeO.bind ?_ (fun _ => ?_))
set_option maxHeartbeats 8000000 in
set_option maxRecDepth 100000 in
theorem triglyphref03_Size.calls (k : Nat) (A0 : Option Addr) (c0 : Nat) (l0 : List Int) (r1 : Int) (r2 : Int) (w : World) (hr0 : Kd.C (Kd.int .i64) w A0 l0.length l0) (hc0 : l0.length ≤ c0) (h : triglyphref03_Size.f k l0 = some (r1, r2)) :
  Calls Try.prog 26 #[.slice A0 l0.length c0] w fun e w' => e = .returned (.tuple #[.int .i64 r1, .int .i64 r2]) ∧ Drawn0 w w' := by
 have HR0 := gA hr0
 have HC0 := gA hc0
 clear hr0 hc0
 have H : (if (l0.length : Int) > 8 then (some (0, 6)) else (triglyphref03_Size.l0 k l0 false 0)) = some (r1, r2) := h
 clear h
 by_cases c2 : (l0.length : Int) > 8
 ·rw [if_pos c2] at H
  have c2b0 : decide (8 < (l0.length : Int)) = true := decide_eq_true c2
  have c2b1 : decide (8 < l0.length) = true := decide_eq_true (by omega)
  clear c2
  simp only [Option.some.injEq, Prod.mk.injEq] at H
  obtain ⟨rfl, rfl⟩ := H
  go_enter Try.func26, Try.ntmps26
  go_wp2
  go_ret2
  exact ⟨rfl, by repeat (first | exact Drawn0.refl _ | apply Drawn0.step)⟩
 ·rw [if_neg c2] at H
  have c2b0 : decide (8 < (l0.length : Int)) = false := decide_eq_false c2
  have c2b1 : decide (8 < l0.length) = false := decide_eq_false (by omega)
  clear c2
  have H' := gA H
  clear H
  go_enter Try.func26, Try.ntmps26
  go_wp2
  go_loopg [4, 5] k (fun kq v4 v5 w' => ∃ (x4_1 : Bool) (x5_1 : Int), v4 = .bool x4_1 ∧ v5 = .int .i64 x5_1 ∧ Aside0 (triglyphref03_Size.l0 kq l0 x4_1 x5_1 = some (r1, r2)) ∧ Aside0 (kq ≤ k) ∧ Drawn0 w w')
  case atStart => exact ⟨(false), (0), (rfl), (rfl), H', ⟨Nat.le_refl _⟩, by repeat (first | exact Drawn0.refl _ | apply Drawn0.step)⟩
  case round =>
   clear H'
   try clear c2
   try clear c2b0
   try clear c2b1
   try clear p2
   obtain ⟨x4_1, x5_1, rfl, rfl, HA, HK1, ⟨m1, rfl⟩⟩ := hrel
   cases gk with
   | zero => exact absurd HA.out (by simp [triglyphref03_Size.l0])
   | succ k1 =>
    have H := HA.out; clear HA
    simp only [triglyphref03_Size.l0] at H
    by_cases c3 : x5_1 < (l0.length : Int)
    ·rw [if_pos c3] at H
     have c3b0 := decide_eq_true c3
     clear c3
     obtain ⟨c4, H⟩ := iS H
     have c4b0 := decide_eq_true c4
     clear c4
     by_cases c5 : (rd l0 x5_1) < 0
     ·rw [if_pos c5] at H
      have c5b0 := decide_eq_true c5
      clear c5
      simp only [Option.some.injEq, Prod.mk.injEq] at H
      obtain ⟨rfl, rfl⟩ := H
      have p263 : 0 ≤ (x5_1 : Int) := of_decide_eq_true (by assumption)
      have q263 : x5_1 < (l0.length : Int) := of_decide_eq_true (by assumption)
      obtain ⟨ad263, e263, hx263_0⟩ := Kd.at_int HR0.out x5_1 p263 q263
      cases e263
      replace p263 := eq_true p263
      replace q263 := eq_true q263
      go_wp2
      go_ret2
      exact ⟨rfl, by repeat (first | exact Drawn0.refl _ | apply Drawn0.step)⟩
     ·rw [if_neg c5] at H
      have c5b0 := decide_eq_false c5
      clear c5
      by_cases c6 : (rd l0 x5_1) = 0
      ·rw [if_pos c6] at H
       have c6b0 : ((rd l0 x5_1) == 0) = true := beq_iff_eq.mpr c6
       have c6b1 : ((rd l0 x5_1) != 0) = false := bne_eq_false_iff_eq.mpr c6
       clear c6
       have H' := gA H
       clear H
       have p263 : 0 ≤ (x5_1 : Int) := of_decide_eq_true (by assumption)
       have q263 : x5_1 < (l0.length : Int) := of_decide_eq_true (by assumption)
       obtain ⟨ad263, e263, hx263_0⟩ := Kd.at_int HR0.out x5_1 p263 q263
       cases e263
       replace p263 := eq_true p263
       replace q263 := eq_true q263
       have p264 : 0 ≤ (x5_1 : Int) := of_decide_eq_true (by assumption)
       have q264 : x5_1 < (l0.length : Int) := of_decide_eq_true (by assumption)
       obtain ⟨ad264, e264, hx264_0⟩ := Kd.at_int HR0.out x5_1 p264 q264
       obtain rfl : ad263 = ad264 := (by injection e264)
       replace p264 := eq_true p264
       replace q264 := eq_true q264
       go_wp2
       go_roundg k1
       case measure => have := HK1.out; omega
       case rel => exact ⟨(true), (wrap64 (x5_1 + 1)), (rfl), (rfl), H', ⟨by have := HK1.out; omega⟩, by repeat (first | exact Drawn0.refl _ | apply Drawn0.step)⟩
      ·rw [if_neg c6] at H
       have c6b0 : ((rd l0 x5_1) == 0) = false := beq_eq_false_iff_ne.mpr c6
       have c6b1 : ((rd l0 x5_1) != 0) = true := bne_iff_ne.mpr c6
       have H' := gA H
       clear H
       have p263 : 0 ≤ (x5_1 : Int) := of_decide_eq_true (by assumption)
       have q263 : x5_1 < (l0.length : Int) := of_decide_eq_true (by assumption)
       obtain ⟨ad263, e263, hx263_0⟩ := Kd.at_int HR0.out x5_1 p263 q263
       cases e263
       replace p263 := eq_true p263
       replace q263 := eq_true q263
       have p264 : 0 ≤ (x5_1 : Int) := of_decide_eq_true (by assumption)
       have q264 : x5_1 < (l0.length : Int) := of_decide_eq_true (by assumption)
       obtain ⟨ad264, e264, hx264_0⟩ := Kd.at_int HR0.out x5_1 p264 q264
       obtain rfl : ad263 = ad264 := (by injection e264)
       replace p264 := eq_true p264
       replace q264 := eq_true q264
       go_wp2
       go_roundg k1
       case measure => have := HK1.out; omega
       case rel => exact ⟨(x4_1), (wrap64 (x5_1 + 1)), (rfl), (rfl), H', ⟨by have := HK1.out; omega⟩, by repeat (first | exact Drawn0.refl _ | apply Drawn0.step)⟩
    ·rw [if_neg c3] at H
     have c3b0 := decide_eq_false c3
     clear c3
     by_cases c7 : x4_1 = true
     ·subst c7
      have H1 : (some (0, 0)) = some (r1, r2) := by rw [if_pos rfl] at H; exact H
      clear H; have H := H1; clear H1
      simp only [Option.some.injEq, Prod.mk.injEq] at H
      obtain ⟨rfl, rfl⟩ := H
      go_wp2
      go_ret2
      exact ⟨rfl, by repeat (first | exact Drawn0.refl _ | apply Drawn0.step)⟩
     ·replace c7 := Bool.eq_false_iff.mpr c7
      subst c7
      have H1 : (triglyphref03_Size.l1 k1 l0 1 0) = some (r1, r2) := by rw [if_neg (show ¬ (false = true) by decide)] at H; exact H
      clear H; have H := H1; clear H1
      have H' := gA H
      clear H
      go_wp2
      go_loopg [6, 7] k1 (fun kq v6 v7 w' => ∃ (x6_2 : Int) (x7_2 : Int), v6 = .int .i64 x6_2 ∧ v7 = .int .i64 x7_2 ∧ Aside0 (triglyphref03_Size.l1 kq l0 x6_2 x7_2 = some (r1, r2)) ∧ Aside0 (kq ≤ k1) ∧ Drawn0 w w')
      case atStart => exact ⟨(1), (0), (rfl), (rfl), H', ⟨Nat.le_refl _⟩, by repeat (first | exact Drawn0.refl _ | apply Drawn0.step)⟩
      case round =>
       clear H'
       try clear c2
       try clear c2b0
       try clear c2b1
       try clear p2
       try clear q2
       try clear hx2
       try clear c3
       try clear c3b0
       try clear c4
       try clear c4b0
       try clear c5
       try clear c5b0
       try clear c6
       try clear c6b0
       try clear c6b1
       try clear p6
       try clear c7
       try clear hx263_0
       try clear hx264_0
       try clear p2
       try clear p263
       try clear p264
       try clear q263
       try clear q264
       obtain ⟨x6_2, x7_2, rfl, rfl, HA, HK2, ⟨m2, rfl⟩⟩ := hrel
       cases gk with
       | zero => exact absurd HA.out (by simp [triglyphref03_Size.l1])
       | succ k2 =>
        have H := HA.out; clear HA
        simp only [triglyphref03_Size.l1] at H
        by_cases c8 : x7_2 < (l0.length : Int)
        ·rw [if_pos c8] at H
         have c8b0 := decide_eq_true c8
         clear c8
         obtain ⟨c9, H⟩ := iS H
         have c9b0 := decide_eq_true c9
         clear c9
         by_cases c10 : (rd l0 x7_2) > 16384
         ·rw [if_pos c10] at H
          have c10b0 : decide (16384 < (rd l0 x7_2)) = true := decide_eq_true c10
          clear c10
          simp only [Option.some.injEq, Prod.mk.injEq] at H
          obtain ⟨rfl, rfl⟩ := H
          have p265 : 0 ≤ (x7_2 : Int) := of_decide_eq_true (by assumption)
          have q265 : x7_2 < (l0.length : Int) := of_decide_eq_true (by assumption)
          obtain ⟨ad265, e265, hx265_0⟩ := Kd.at_int HR0.out x7_2 p265 q265
          cases e265
          replace p265 := eq_true p265
          replace q265 := eq_true q265
          go_wp2
          go_ret2
          exact ⟨rfl, by repeat (first | exact Drawn0.refl _ | apply Drawn0.step)⟩
         ·rw [if_neg c10] at H
          have c10b0 : decide (16384 < (rd l0 x7_2)) = false := decide_eq_false c10
          clear c10
          by_cases c11 : (wrap64 (x6_2 * (rd l0 x7_2))) > 16384
          ·rw [if_pos c11] at H
           have c11b0 : decide (16384 < (wrap64 (x6_2 * (rd l0 x7_2)))) = true := decide_eq_true c11
           clear c11
           simp only [Option.some.injEq, Prod.mk.injEq] at H
           obtain ⟨rfl, rfl⟩ := H
           have p265 : 0 ≤ (x7_2 : Int) := of_decide_eq_true (by assumption)
           have q265 : x7_2 < (l0.length : Int) := of_decide_eq_true (by assumption)
           obtain ⟨ad265, e265, hx265_0⟩ := Kd.at_int HR0.out x7_2 p265 q265
           cases e265
           replace p265 := eq_true p265
           replace q265 := eq_true q265
           have p266 : 0 ≤ (x7_2 : Int) := of_decide_eq_true (by assumption)
           have q266 : x7_2 < (l0.length : Int) := of_decide_eq_true (by assumption)
           obtain ⟨ad266, e266, hx266_0⟩ := Kd.at_int HR0.out x7_2 p266 q266
           obtain rfl : ad265 = ad266 := (by injection e266)
           replace p266 := eq_true p266
           replace q266 := eq_true q266
           go_wp2
           go_ret2
           exact ⟨rfl, by repeat (first | exact Drawn0.refl _ | apply Drawn0.step)⟩
          ·rw [if_neg c11] at H
           have c11b0 : decide (16384 < (wrap64 (x6_2 * (rd l0 x7_2)))) = false := decide_eq_false c11
           clear c11
           have H' := gA H
           clear H
           have p265 : 0 ≤ (x7_2 : Int) := of_decide_eq_true (by assumption)
           have q265 : x7_2 < (l0.length : Int) := of_decide_eq_true (by assumption)
           obtain ⟨ad265, e265, hx265_0⟩ := Kd.at_int HR0.out x7_2 p265 q265
           cases e265
           replace p265 := eq_true p265
           replace q265 := eq_true q265
           have p266 : 0 ≤ (x7_2 : Int) := of_decide_eq_true (by assumption)
           have q266 : x7_2 < (l0.length : Int) := of_decide_eq_true (by assumption)
           obtain ⟨ad266, e266, hx266_0⟩ := Kd.at_int HR0.out x7_2 p266 q266
           obtain rfl : ad265 = ad266 := (by injection e266)
           replace p266 := eq_true p266
           replace q266 := eq_true q266
           go_wp2
           go_roundg k2
           case measure => have := HK1.out; have := HK2.out; omega
           case rel => exact ⟨(wrap64 (x6_2 * (rd l0 x7_2))), (wrap64 (x7_2 + 1)), (rfl), (rfl), H', ⟨by have := HK1.out; have := HK2.out; omega⟩, by repeat (first | exact Drawn0.refl _ | apply Drawn0.step)⟩
        ·rw [if_neg c8] at H
         have c8b0 := decide_eq_false c8
         clear c8
         simp only [Option.some.injEq, Prod.mk.injEq] at H
         obtain ⟨rfl, rfl⟩ := H
         go_wp2
         go_ret2
         exact ⟨rfl, by repeat (first | exact Drawn0.refl _ | apply Drawn0.step)⟩
def triglyphref02_Good.f (a0 : Int) : Option (Bool) := if a0 ≥ 0 then (if a0 < 55296 then (some true) else (if a0 > 57343 then (some (decide (a0 < 1114112))) else (some false))) else (if a0 > 57343 then (some (decide (a0 < 1114112))) else (some false))
set_option maxHeartbeats 8000000 in
set_option maxRecDepth 100000 in
theorem triglyphref02_Good.calls (a0 : Int) (r : Bool) (w : World) (h : triglyphref02_Good.f a0 = some r) :
  Calls Try.prog 41 #[.int .i64 a0] w fun e w' => e = .returned (.bool r) ∧ Drawn0 w w' := by
 have H : (if a0 ≥ 0 then (if a0 < 55296 then (some true) else (if a0 > 57343 then (some (decide (a0 < 1114112))) else (some false))) else (if a0 > 57343 then (some (decide (a0 < 1114112))) else (some false))) = some r := h
 clear h
 by_cases c2 : a0 ≥ 0
 ·rw [if_pos c2] at H
  have c2b0 : decide (0 ≤ a0) = true := decide_eq_true c2
  clear c2
  by_cases c3 : a0 < 55296
  ·rw [if_pos c3] at H
   have c3b0 := decide_eq_true c3
   clear c3
   obtain rfl := Option.some.inj H
   go_enter Try.func41, Try.ntmps41
   go_wp2
   go_ret
   exact ⟨rfl, by repeat (first | exact Drawn0.refl _ | apply Drawn0.step)⟩
  ·rw [if_neg c3] at H
   have c3b0 := decide_eq_false c3
   clear c3
   by_cases c4 : a0 > 57343
   ·rw [if_pos c4] at H
    have c4b0 : decide (57343 < a0) = true := decide_eq_true c4
    clear c4
    obtain rfl := Option.some.inj H
    go_enter Try.func41, Try.ntmps41
    go_wp2
    go_ret
    exact ⟨rfl, by repeat (first | exact Drawn0.refl _ | apply Drawn0.step)⟩
   ·rw [if_neg c4] at H
    have c4b0 : decide (57343 < a0) = false := decide_eq_false c4
    clear c4
    obtain rfl := Option.some.inj H
    go_enter Try.func41, Try.ntmps41
    go_wp2
    go_ret
    exact ⟨rfl, by repeat (first | exact Drawn0.refl _ | apply Drawn0.step)⟩
 ·rw [if_neg c2] at H
  have c2b0 : decide (0 ≤ a0) = false := decide_eq_false c2
  clear c2
  by_cases c5 : a0 > 57343
  ·rw [if_pos c5] at H
   have c5b0 : decide (57343 < a0) = true := decide_eq_true c5
   clear c5
   obtain rfl := Option.some.inj H
   go_enter Try.func41, Try.ntmps41
   go_wp2
   go_ret
   exact ⟨rfl, by repeat (first | exact Drawn0.refl _ | apply Drawn0.step)⟩
  ·rw [if_neg c5] at H
   have c5b0 : decide (57343 < a0) = false := decide_eq_false c5
   clear c5
   obtain rfl := Option.some.inj H
   go_enter Try.func41, Try.ntmps41
   go_wp2
   go_ret
   exact ⟨rfl, by repeat (first | exact Drawn0.refl _ | apply Drawn0.step)⟩
end Go.Proofs.Ytbijepjnbolpiaa.P
