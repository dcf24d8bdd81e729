/- Written by a program of this session: the functions that the laws reach, what each comes to, and each law as it is stated, for every input. No condition. -/
import Derived.Test.YtemlommdfmeabaaPx0
import Derived.Test.YtemlommdfmeabaaPx3
import Derived.Test.YtemlommdfmeabaaPx6
namespace Go.Proofs.Ytemlommdfmeabaa.P
open Go.RowKit Go.Proofs.YtemlommdfmeabaaW.PrintWords Go.Proofs.YtemlommdfmeabaaW.PrintLast Go.Proofs.YtemlommdfmeabaaW.PrintMore
attribute [local go_sem] max2_int min2_int max_two min_two max_three min_three max_four min_four   -- for this text's walks alone
set_option linter.unusedVariables false
set_option linter.unusedSimpArgs false
def triglyphref03_Nums.l0 : Nat → List Int → Int → List Int → List (S35) → Option (List Int × (List (S35)))
  | 0, _, _, _, _ => none
  | k + 1, x0, x4, x187000, x187001 => if x4 < (x0.length : Int) then (if 0 ≤ x4 then (if x187001.length < 3518437208883 then (triglyphref03_Nums.l0 k x0 (wrap64 (x4 + 1)) x187000 (x187001 ++ [(⟨0, rd x0 x4, ([] : List (S25))⟩ : S35)])) else (none)) else (none)) else (some (x187000, x187001))
def triglyphref03_Nums.f (k : Nat) (l0 : List Int) : Option (List Int × (List (S35))) := triglyphref03_Nums.l0 k l0 0 (([(l0.length : Int)] : List Int)) ([] : List (S35))
theorem triglyphref03_Nums.mono_l : ∀ k, (∀ y0 y1 y2 y3, LeO (triglyphref03_Nums.l0 k y0 y1 y2 y3) (triglyphref03_Nums.l0 (k + 1) y0 y1 y2 y3))
  | 0 => fun _ _ _ _ r h => by simp [triglyphref03_Nums.l0] at h
  | k + 1 => by
    have ih0 := triglyphref03_Nums.mono_l k
    · intro y0 y1 y2 y3
      unfold triglyphref03_Nums.l0
      repeat' first
      | (with_reducible exact ih0 _ _ _ _)
      | (with_reducible exact LeO.refl _)
      | (with_reducible exact LeO.none _)
      | (with_reducible refine LeO.ite ?_ ?_)
      | (with_reducible refine LeO.bind ?_ (fun _ => ?_))
      | exact ih0 _ _ _ _
      | exact LeO.none _
      | refine LeO.ite ?_ ?_
      | refine LeO.bind ?_ (fun _ => ?_)
theorem triglyphref03_Nums.mono : ∀ a0 k, LeO (triglyphref03_Nums.f k a0) (triglyphref03_Nums.f (k + 1) a0) := by
  intro a0 k
  have ih0 := triglyphref03_Nums.mono_l k
  unfold triglyphref03_Nums.f
  repeat' first
      | (with_reducible exact ih0 _ _ _ _)
      | (with_reducible exact LeO.refl _)
      | (with_reducible exact LeO.none _)
      | (with_reducible refine LeO.ite ?_ ?_)
      | (with_reducible refine LeO.bind ?_ (fun _ => ?_))
      | exact ih0 _ _ _ _
      | exact LeO.none _
      | refine LeO.ite ?_ ?_
      | refine LeO.bind ?_ (fun _ => ?_)
def triglyphref03_Nums.T5 : Bool × List (List Nat × List Nat) := (true, [([], []), ([0], [0]), ([], []), ([], []), ([2, 3], [2, 3]), ([4], [4]), ([5], [5]), ([6], [6]), ([1, 7], [1, 7]), ([0, 1, 2, 3, 4, 5, 6, 7, 8], []), ([9, 8, 8, 0, 1, 2, 3, 4, 5, 6, 7, 8], [8, 9])])
def triglyphref03_Nums.B5 : List Nat := [0, 1, 0, 0, 12, 28, 60, 124, 255, 511, 1023]
theorem triglyphref03_Nums.tab5 : rtab .any (opsOf Try.f25 5) = triglyphref03_Nums.T5 := by kernel_rfl
theorem triglyphref03_Nums.bits5 : waitsOk triglyphref03_Nums.T5.2 triglyphref03_Nums.B5 = true := by kernel_rfl
set_option maxHeartbeats 8000000 in
set_option maxRecDepth 100000 in
theorem triglyphref03_Nums.calls (k : Nat) (A0 : Option Addr) (c0 : Nat) (l0 : List Int) (r1 : List Int) (r2 : List (S35)) (w : World) (hr0 : Kd.C (Kd.int .i64) w A0 l0.length l0) (hc0 : l0.length ≤ c0) (h : triglyphref03_Nums.f k l0 = some (r1, r2)) :
    Calls Try.prog 25 #[.slice A0 l0.length c0] w fun e w' => ∃ v0_ v1_ : Value, e = .returned (.agg #[v0_, v1_]) ∧ Kd.R (Kd.int .i64) 3 w' w.heap.size (fun _ => True) v0_ r1 ∧ Kd.R k35 35 w' w.heap.size (fun k_ => some k_ ≠ (v0_ : Value).ownBlock) v1_ r2 ∧ Below w.heap.size w w' := by
  have hu25 := Try.underlying25
  have hu35 := Try.underlying35
  have HR0 := Aside0.mk hr0
  have HC0 := Aside0.mk hc0
  clear hr0 hc0
  have HB := Aside0.mk (Below.refl w.heap.size w)
  have H : (triglyphref03_Nums.l0 k l0 0 (([(l0.length : Int)] : List Int)) ([] : List (S35))) = some (r1, r2) := h
  clear h
  obtain ⟨y183, hy183⟩ : ∃ y_ : List Int, y_ = (([(l0.length : Int)] : List Int)) := ⟨_, rfl⟩
  replace H : (triglyphref03_Nums.l0 k l0 0 y183 ([] : List (S35))) = some (r1, r2) := by first | (rw [hy183]; with_reducible exact H) | (have H2_ := (Option.bind_some _ _).symm.trans H; rw [hy183]; with_reducible exact H2_) | (have H2_ := (Option.bind_some _ _).symm.trans H; with_reducible exact H2_) | with_reducible exact H | (rw [hy183]; exact H) | exact H
  have Ny183 := Aside0.mk hy183
  clear hy183
  have H' := Aside0.mk H
  clear H
  go_enter Try.func25, Try.ntmps25
  go_wp2_with (first | ((with_reducible refine gate_dst (N := 2) rfl ?_); refine box_event ?hg (N := 2) ?hd (cs := #[.slice none 0 0, .slice none 0 0]) (t := 25) ?hr ?_; (case hd => rfl); (case hg => rfl); (case hr => first | (go_simp; done) | (go_simp; rfl)); intro gb182 hg w2 hbox hb; have n0_ := Aside0.mk (below_step (by repeat (first | (with_reducible first | exact HB.out | apply below_alloc | apply pw_below_drewN | apply below_drew1) | exact HB.out)) hb); have n1_ := Aside0.mk (hbox); have n2_ := Aside0.mk ((by rw [hg]; exact (below_size (by repeat (first | (with_reducible first | exact HB.out | apply below_alloc | apply pw_below_drewN | apply below_drew1) | exact HB.out))) : w.heap.size ≤ gb182)); have n3_ := Aside0.mk ((by rw [hg]; exact (below_size (by repeat (first | (with_reducible first | exact HB.out | apply below_alloc | apply pw_below_drewN | apply below_drew1) | exact HB.out))) : w.heap.size ≤ gb182)); clear HB; have HB := n0_; have BK182 := n1_; have GW182 := n2_; have GE182 := n3_; clear n0_ n1_ n2_ n3_; clear hb hbox hg) | ((with_reducible refine gate_dst (N := 7) rfl ?_); refine Kd.R_lit (Kd.int .i64) _ 3 ?hg (N := 7) ?hd (xs := ([(l0.length : Int)] : List Int)) (inner := [.int .i64 (l0.length : Int)]) (ok := fun _ => True) (okp := fun _ => True) ?hr ?hp (fun _ hk => hk) trivial (Below.refl _ _) (Nat.le_refl _) (by simp) ?_; (case hd => rfl); (case hg => rfl); (case hr => first | (go_simp; done) | (go_simp; rfl)); (case hp => exact (Reps.one (show Kd.M (Kd.int .i64) _ _ _ (l0.length : Int) [.int .i64 (l0.length : Int)] from rfl) (Reps.none _ _))); intro v184 w3 ho4 hb hg_ hnew_; clear hg_ hnew_; (first | rw [← Ny183.out] at ho4 | (simp only [Int.reduceToNat] at ho4; rw [← Ny183.out] at ho4)); have n0_ := Aside0.mk (Kd.R_lower ho4 (below_size (by repeat (first | (with_reducible first | exact HB.out | apply below_alloc | apply pw_below_drewN | apply below_drew1 | refine below_set ?_ GE182.out) | exact HB.out)))); have n1_ := Aside0.mk (blk_below (g := gb182) (o := .cells #[.slice none 0 0, .slice none 0 0] 25 (0, 0)) (by (with_reducible repeat (first | refine blk_drewN ?_ _ | refine blk_drew ?_ | refine blk_alloc ?_ _)); exact BK182.out) hb); have n2_ := Aside0.mk (below_step (by repeat (first | (with_reducible first | exact HB.out | apply below_alloc | apply pw_below_drewN | apply below_drew1 | refine below_set ?_ GE182.out) | exact HB.out)) hb); clear BK182; clear HB; have HO185 := n0_; have BK182 := n1_; have HB := n2_; clear n0_ n1_ n2_; clear hb ho4; obtain ⟨Ao5, co5, eo5⟩ := Kd.R_slice HO185.out; subst eo5) | ((with_reducible refine gate_dst (N := 3) rfl ?_); refine box_event ?hg (N := 3) ?hd (cs := #[.slice none 0 0, .slice none 0 0]) (t := 25) ?hr ?_; (case hd => rfl); (case hg => rfl); (case hr => first | (go_simp; done) | (go_simp; rfl)); intro gb186 hg w6 hbox hb; have n0_ := Aside0.mk (Kd.R_below (by (with_reducible repeat (first | apply Kd.R_alloc | apply Kd.R_drewN | apply Kd.R_drew)); exact HO185.out) hb); have n1_ := Aside0.mk (blk_below (g := gb182) (o := .cells #[.slice none 0 0, .slice none 0 0] 25 (0, 0)) (by (with_reducible repeat (first | refine blk_drewN ?_ _ | refine blk_drew ?_ | refine blk_alloc ?_ _)); exact BK182.out) hb); have n2_ := Aside0.mk (below_step (by repeat (first | (with_reducible first | exact HB.out | apply below_alloc | apply pw_below_drewN | apply below_drew1 | refine below_set ?_ GE182.out) | exact HB.out)) hb); have n3_ := Aside0.mk (hbox); have n4_ := Aside0.mk ((by rw [hg]; exact (below_size (by repeat (first | (with_reducible first | exact HB.out | apply below_alloc | apply pw_below_drewN | apply below_drew1 | refine below_set ?_ GE182.out) | exact HB.out))) : w.heap.size ≤ gb186)); have n5_ := Aside0.mk ((by rw [hg]; exact (below_size (by repeat (first | (with_reducible first | exact HB.out | apply below_alloc | apply pw_below_drewN | apply below_drew1 | refine below_set ?_ GE182.out) | exact HB.out))) : w.heap.size ≤ gb186)); have n6_ := Aside0.mk ((by rw [hg]; exact Nat.ne_of_lt (blk_lt (g := gb182) (o := .cells #[.slice none 0 0, .slice none 0 0] 25 (0, 0)) (by (with_reducible repeat (first | refine blk_drewN ?_ _ | refine blk_drew ?_ | refine blk_alloc ?_ _)); exact BK182.out)) : gb182 ≠ gb186)); have n7_ := Aside0.mk ((by rw [hg]; exact Nat.ne_of_gt (blk_lt (g := gb182) (o := .cells #[.slice none 0 0, .slice none 0 0] 25 (0, 0)) (by (with_reducible repeat (first | refine blk_drewN ?_ _ | refine blk_drew ?_ | refine blk_alloc ?_ _)); exact BK182.out)) : gb186 ≠ gb182)); clear HO185; clear BK182; clear HB; have HO185 := n0_; have BK182 := n1_; have HB := n2_; have BK186 := n3_; have GW186 := n4_; have GE186 := n5_; have NB182_186 := n6_; have NB186_182 := n7_; clear n0_ n1_ n2_ n3_ n4_ n5_ n6_ n7_; clear hb hbox hg; have hnb7 := NB186_182.out; have hnc7 := NB182_186.out; have hcz8_0 : w6.cell? ⟨gb186, 0, none⟩ = some (.slice none 0 0) := (blk_cell BK186.out 0).trans rfl; have hcz8_1 : w6.cell? ⟨gb186, 1, none⟩ = some (.slice none 0 0) := (blk_cell BK186.out 1).trans rfl; have hfz8_0 := blk_frozen BK186.out 0; have hfz8_1 := blk_frozen BK186.out 1))
  go_loopg [4] k (fun kq v4 w' => ∃ (x4_1 : Int) (x187001_1 : List (S35)) (u187001 : Value), v4 = .int .i64 x4_1 ∧ Aside0 (triglyphref03_Nums.l0 kq l0 x4_1 y183 x187001_1 = some (r1, r2)) ∧ Aside0 (kq ≤ k) ∧ Aside0 (Kd.R (Kd.int .i64) 3 w' w.heap.size (fun _ => True) (.slice Ao5 y183.length co5) y183) ∧ Aside0 (Kd.R k35 35 w' w.heap.size (fun k_ => some k_ ≠ ((.slice Ao5 y183.length co5) : Value).ownBlock ∧ k_ ≠ gb182 ∧ k_ ≠ gb186) u187001 x187001_1) ∧ Aside0 (w'.heap[gb182]? = some (.cells #[(.slice none 0 0), (.slice none 0 0)] 25 (0, 0))) ∧ Aside0 (w'.heap[gb186]? = some (.cells #[(.slice Ao5 y183.length co5), u187001] 25 (0, 0))) ∧ Aside0 (Below w.heap.size w w'))
  case atStart => exact ⟨(0), (([] : List (S35))), (.slice none 0 0), (by first | rfl | (simp; done) | (simp [*]; done)), H', ⟨Nat.le_refl _⟩, ⟨by (with_reducible repeat (first | apply Kd.R_alloc | apply Kd.R_drewN | apply Kd.R_drew)); exact Kd.R_mono (Kd.R_far (p := ⟨gb186, 1, none⟩) (Kd.R_far (p := ⟨gb186, 0, none⟩) (Kd.R_types HO185.out BK186.out (by decide)) (fun _ hk => hk.2) (.slice Ao5 y183.length co5)) (fun _ hk => hk.2) (.slice none 0 0)) (fun _ hk => trivial)⟩, ⟨by first | exact Kd.R_nil _ _ _ _ _ | exact Kd.N_nil _ _ _ _ _ | exact Kd.V_nil _ _ _ _ _ | exact Kd.Q_nil _ _ _ _ _ | exact Kd.S_nil _ _ _ _ _⟩, ⟨by (with_reducible repeat (first | refine blk_drewN ?_ _ | refine blk_drew ?_ | refine blk_alloc ?_ _)); refine blk_far ?_ NB182_186.out _; (with_reducible repeat (first | refine blk_drewN ?_ _ | refine blk_drew ?_ | refine blk_alloc ?_ _)); refine blk_far ?_ NB182_186.out _; (with_reducible repeat (first | refine blk_drewN ?_ _ | refine blk_drew ?_ | refine blk_alloc ?_ _)); exact BK182.out⟩, ⟨by (with_reducible repeat (first | refine blk_drewN ?_ _ | refine blk_drew ?_ | refine blk_alloc ?_ _)); refine blk_put (cs := #[.slice Ao5 y183.length co5, .slice none 0 0]) ?_ 1 _ rfl; (with_reducible repeat (first | refine blk_drewN ?_ _ | refine blk_drew ?_ | refine blk_alloc ?_ _)); refine blk_put (cs := #[.slice none 0 0, .slice none 0 0]) ?_ 0 _ rfl; (with_reducible repeat (first | refine blk_drewN ?_ _ | refine blk_drew ?_ | refine blk_alloc ?_ _)); exact BK186.out⟩, ⟨by repeat (first | (with_reducible first | exact HB.out | apply below_alloc | apply pw_below_drewN | apply below_drew1 | refine below_set ?_ GE182.out | refine below_set ?_ GE186.out) | exact HB.out)⟩⟩
  case round =>
    clear H'
    try clear c2
    try clear p2
    try clear c7
    try clear hcz8_0
    try clear hcz8_1
    try clear hfz8_0
    try clear hfz8_1
    obtain ⟨x4_1, x187001_1, u187001, rfl, HA, HK1, HO_187000, HO_187001, BK182, BK186, HB⟩ := hrel
    cases gk with
    | zero => exact absurd HA.out (by simp [triglyphref03_Nums.l0])
    | succ k1 =>
      have H := HA.out; clear HA
      simp only [triglyphref03_Nums.l0] at H
      by_cases c9 : x4_1 < (l0.length : Int)
      · rw [if_pos c9] at H
        have c9b0 : decide (x4_1 < (l0.length : Int)) = true := decide_eq_true c9
        clear c9
        by_cases c10 : 0 ≤ x4_1
        · rw [if_pos c10] at H
          have c10b0 : decide (0 ≤ x4_1) = true := decide_eq_true c10
          clear c10
          by_cases c11 : x187001_1.length < 3518437208883
          · rw [if_pos c11] at H
            have LMc11 := Aside0.mk c11
            clear c11
            obtain ⟨y188, hy188⟩ : ∃ y_ : List (S35), y_ = (x187001_1 ++ [(⟨0, rd l0 x4_1, ([] : List (S25))⟩ : S35)]) := ⟨_, rfl⟩
            replace H : (triglyphref03_Nums.l0 k1 l0 (wrap64 (x4_1 + 1)) y183 y188) = some (r1, r2) := by first | (rw [hy188]; with_reducible exact H) | (have H2_ := (Option.bind_some _ _).symm.trans H; rw [hy188]; with_reducible exact H2_) | (have H2_ := (Option.bind_some _ _).symm.trans H; with_reducible exact H2_) | with_reducible exact H | (rw [hy188]; exact H) | exact H
            have Ny188 := Aside0.mk hy188
            clear hy188
            have H' := Aside0.mk H
            clear H
            try go_wp2
            have n0_ := Aside0.mk (Kd.R_drew HO_187000.out)
            have n1_ := Aside0.mk (Kd.R_drew HO_187001.out)
            have n2_ := Aside0.mk (blk_drew BK182.out)
            have n3_ := Aside0.mk (blk_drew BK186.out)
            have n4_ := Aside0.mk (below_drew1 HB.out); clear HO_187000; clear HO_187001; clear BK182; clear BK186; clear HB; have HO_187000 := n0_; have HO_187001 := n1_; have BK182 := n2_; have BK186 := n3_; have HB := n4_; clear n0_ n1_ n2_ n3_ n4_
            have p187 : 0 ≤ (x4_1 : Int) := of_decide_eq_true (by first | (with_reducible assumption) | assumption)
            have q187 : x4_1 < (l0.length : Int) := of_decide_eq_true (by first | (with_reducible assumption) | assumption)
            obtain ⟨ad187, e187, hx187_0⟩ := Kd.at_int HR0.out x4_1 p187 q187
            have hw187_0 := hx187_0
            cases e187
            replace hx187_0 := (HB.out.cell (World.block_lt_of_cell? w _ hx187_0)).trans hx187_0
            replace p187 := eq_true p187
            replace q187 := eq_true q187
            refine start_ (n := 11) (S := fun w' => w'.cell? ⟨gb186, 0, none⟩ = some (.slice Ao5 y183.length co5) ∧ w'.cell? ⟨gb186, 1, none⟩ = some (u187001) ∧ w'.cell? (ad187.add (x4_1).toNat) = some (.int .i64 (rd l0 x4_1))) (ds := [10]) #[false, false, false, false, false, false, false, false, false, false, false] (by kernel_rfl) rfl rfl ⟨(blk_cell BK186.out 0).trans rfl, (blk_cell BK186.out 1).trans rfl, ((HB.out.cell (World.block_lt_of_cell? w _ hw187_0)).trans hw187_0)⟩ (fun hHeld => ?_); refine with_tabW triglyphref03_Nums.tab5 triglyphref03_Nums.bits5 (fun HT_ HW_ => ?_)
            generalize wr.drew = w12 at HO_187000 HO_187001 BK182 BK186 HB hx187_0 hHeld ⊢
            refine pure_ (i := 0) (N := some 15) (v := ?_) (a' := ?_) #[true, false, false, false, false, false, false, false, false, false, false] rfl rfl (any_of HT_.out (by kernel_rfl)) (fun _ _ _ h => h) (Or.inl ⟨by rfl, ?_⟩) ?_ ?_; rotate_left
            · intro w'; go_simp; with_reducible rfl
            rotate_left
            · simp only [Act.put, List.setIfInBounds_toArray, List.set_cons_zero, List.set_cons_succ, i64_w, i32_w]; rfl
            refine pure_ (i := 2) (N := some 17) (v := ?_) (a' := ?_) #[true, false, true, false, false, false, false, false, false, false, false] rfl rfl (any_of HT_.out (by kernel_rfl)) (fun _ _ _ h => h) (Or.inl ⟨by rfl, ?_⟩) ?_ ?_; rotate_left
            · intro w'; go_simp; with_reducible rfl
            rotate_left
            · simp only [Act.put, List.setIfInBounds_toArray, List.set_cons_zero, List.set_cons_succ, i64_w, i32_w]; rfl
            refine pure_ (i := 3) (N := some 18) (v := ?_) (a' := ?_) #[true, false, true, true, false, false, false, false, false, false, false] rfl rfl (any_of HT_.out (by kernel_rfl)) (fun _ _ _ h => h) (Or.inl ⟨by rfl, ?_⟩) ?_ ?_; rotate_left
            · intro w'; go_simp; with_reducible rfl
            rotate_left
            · simp only [Act.put, List.setIfInBounds_toArray, List.set_cons_zero, List.set_cons_succ, i64_w, i32_w]; rfl
            refine pure_ (i := 4) (N := some 19) (v := ?_) (a' := ?_) #[true, false, true, true, true, false, false, false, false, false, false] rfl rfl (any_of HT_.out (by kernel_rfl)) (fun _ _ _ h => h) (Or.inl ⟨by rfl, ?_⟩) ?_ ?_; rotate_left
            · intro w'; go_simp; with_reducible rfl
            rotate_left
            · simp only [Act.put, List.setIfInBounds_toArray, List.set_cons_zero, List.set_cons_succ, i64_w, i32_w]; rfl
            refine take_ (i := 1) (N := some 16) (v := ?_) (a' := ?_) #[true, true, true, true, true, false, false, false, false, false, false] rfl rfl (take_ofW HT_.out HW_.out (by kernel_rfl)) (fun _ _ _ h => h) (Or.inl ⟨by rfl, ?_⟩) hHeld ?_ ?_; rotate_left
            · rintro w' ⟨s0, s1, s2⟩; go_simp; with_reducible rfl
            rotate_left
            · simp only [Act.put, List.setIfInBounds_toArray, List.set_cons_zero, List.set_cons_succ, i64_w, i32_w]; rfl
            refine take_ (i := 5) (N := some 20) (v := ?_) (a' := ?_) #[true, true, true, true, true, true, false, false, false, false, false] rfl rfl (take_ofW HT_.out HW_.out (by kernel_rfl)) (fun _ _ _ h => h) (Or.inl ⟨by rfl, ?_⟩) hHeld ?_ ?_; rotate_left
            · rintro w' ⟨s0, s1, s2⟩; go_simp; with_reducible rfl
            rotate_left
            · simp only [Act.put, List.setIfInBounds_toArray, List.set_cons_zero, List.set_cons_succ, i64_w, i32_w]; rfl
            refine pure_ (i := 6) (N := some 21) (v := ?_) (a' := ?_) #[true, true, true, true, true, true, true, false, false, false, false] rfl rfl (any_of HT_.out (by kernel_rfl)) (fun _ _ _ h => h) (Or.inl ⟨by rfl, ?_⟩) ?_ ?_; rotate_left
            · intro w'; go_simp; with_reducible rfl
            rotate_left
            · simp only [Act.put, List.setIfInBounds_toArray, List.set_cons_zero, List.set_cons_succ, i64_w, i32_w]; rfl
            refine one_ (i := 7) (N := some 22) #[true, true, true, true, true, true, true, true, false, false, false] rfl rfl (one_of HT_.out (by kernel_rfl)) (by decide) (fun K hK => ?_)
            refine value_ (w1 := ?_) (v := ?_) (by rfl) rfl ?_ ?_
            rotate_left 2
            · go_simp
              constructor
              · rfl
              · rfl
            refine hK.out _ _ ⟨(blk_cell (blk_alloc BK186.out _) 0).trans rfl, (blk_cell (blk_alloc BK186.out _) 1).trans rfl, (World.cell?_alloc_lt _ _ _ (World.block_lt_of_cell? _ _ (((HB.out.cell (World.block_lt_of_cell? w _ hw187_0)).trans hw187_0)))).trans (((HB.out.cell (World.block_lt_of_cell? w _ hw187_0)).trans hw187_0))⟩ (fun hHeld => ?_); clear hK K
            refine norm_ (a' := ?_) ?_ ?_; rotate_left
            · show Act.put _ (some 22) _ = _
              simp only [Act.put, List.setIfInBounds_toArray, List.set_cons_zero, List.set_cons_succ, i64_w, i32_w]; rfl
            refine one_ (i := 8) (N := some 23) #[true, true, true, true, true, true, true, true, true, false, false] rfl rfl (one_of HT_.out (by kernel_rfl)) (by decide) (fun K hK => ?_)
            refine Kd.R_append_step k35 (w0 := w) w.heap.size (by rfl) (.tmp 16) (.tmp 22) 23 35 (.agg #[(.int .i64 0), (.int .i64 0), (.slice none 0 0)]) 40 rfl Try.underlying23 info35 rfl (by decide) (by omega) u187001 x187001_1 (⟨0, rd l0 x4_1, ([] : List (S25))⟩ : S35) [.int .i64 0, .int .i64 (rd l0 x4_1), .slice none 0 0] (fun k_ => some k_ ≠ (.slice Ao5 y183.length co5 : Value).ownBlock ∧ k_ ≠ gb182 ∧ k_ ≠ gb186) (fun k_ => ((fun k_ => some k_ ≠ (.slice Ao5 y183.length co5 : Value).ownBlock ∧ k_ ≠ gb182 ∧ k_ ≠ gb186)) k_ ∧ some k_ ≠ (u187001 : Value).ownBlock) rfl rfl ?aP (fun _ hk => hk) ?aF ?aO ?aB ?aS ?aL ?_
            (case aP => exact k35_mkM _ _ _ (⟨0, rd l0 x4_1, ([] : List (S25))⟩ : S35) (Kd.R_nil _ _ _ _ _))
            (case aB => exact (by repeat (first | (with_reducible first | exact HB.out | apply below_alloc | apply pw_below_drewN | apply below_drew1 | refine below_set ?_ GE182.out | refine below_set ?_ GE186.out) | exact HB.out)))
            (case aF => exact (fun k_ hk => ⟨Kd.fresh' (Kd.R_lt (by (with_reducible repeat (first | apply Kd.R_alloc | apply Kd.R_drewN | apply Kd.R_drew)); exact HO_187000.out)) k_ hk, Kd.freshB (g := gb182) (o := .cells #[.slice none 0 0, .slice none 0 0] 25 (0, 0)) (by (with_reducible repeat (first | refine blk_drewN ?_ _ | refine blk_drew ?_ | refine blk_alloc ?_ _)); exact BK182.out) k_ hk, Kd.freshB (g := gb186) (o := .cells #[.slice Ao5 y183.length co5, u187001] 25 (0, 0)) (by (with_reducible repeat (first | refine blk_drewN ?_ _ | refine blk_drew ?_ | refine blk_alloc ?_ _)); exact BK186.out) k_ hk⟩))
            (case aO => exact (by (with_reducible repeat (first | apply Kd.R_alloc | apply Kd.R_drewN | apply Kd.R_drew)); exact HO_187001.out))
            (case aS => exact (below_size (by repeat (first | (with_reducible first | exact HB.out | apply below_alloc | apply pw_below_drewN | apply below_drew1 | refine below_set ?_ GE182.out | refine below_set ?_ GE186.out) | exact HB.out))))
            (case aL => have := LMc11.out; omega)
            intro v189 w13 ho hb hg hat
            rw [← Ny188.out] at ho
            have n0_ := Aside0.mk (Kd.R_over' (by (with_reducible repeat (first | apply Kd.R_alloc | apply Kd.R_drewN | apply Kd.R_drew)); exact HO_187000.out) (Kd.R_typed (by (with_reducible repeat (first | apply Kd.R_alloc | apply Kd.R_drewN | apply Kd.R_drew)); exact HO_187001.out)) (by decide) hg)
            have n1_ := Aside0.mk (blk_grown (g := gb182) (o := .cells #[.slice none 0 0, .slice none 0 0] 25 (0, 0)) (by (with_reducible repeat (first | refine blk_drewN ?_ _ | refine blk_drew ?_ | refine blk_alloc ?_ _)); exact BK182.out) hg (Kd.R_ne HO_187001.out BK182.out (by decide)))
            have n2_ := Aside0.mk (blk_grown (g := gb186) (o := .cells #[.slice Ao5 y183.length co5, u187001] 25 (0, 0)) (by (with_reducible repeat (first | refine blk_drewN ?_ _ | refine blk_drew ?_ | refine blk_alloc ?_ _)); exact BK186.out) hg (Kd.R_ne HO_187001.out BK186.out (by decide)))
            have n3_ := Aside0.mk (hb)
            have n4_ := Aside0.mk (ho); clear HO_187000; clear BK182; clear BK186; clear HB; clear HO_187001; have HO_187000 := n0_; have BK182 := n1_; have BK186 := n2_; have HB := n3_; have HO190 := n4_; clear n0_ n1_ n2_ n3_ n4_; clear ho hb hg hat
            obtain ⟨Ao14, co14, eo14⟩ := Kd.R_slice HO190.out
            (first | subst eo14 | (injection eo14 with f1_ f2_ f3_; have f4_ := f1_.symm; have f5_ := f3_.symm; clear f1_ f2_ f3_; subst f4_; subst f5_))
            refine hK.out _ _ ⟨(blk_cell BK186.out 0).trans rfl, (blk_cell BK186.out 1).trans rfl, ((HB.out.cell (World.block_lt_of_cell? w _ hw187_0)).trans hw187_0)⟩ (fun hHeld => ?_); clear hK K
            refine norm_ (a' := ?_) ?_ ?_; rotate_left
            · show Act.put _ (some 23) _ = _
              simp only [Act.put, List.setIfInBounds_toArray, List.set_cons_zero, List.set_cons_succ, i64_w, i32_w]; rfl
            refine pure_ (i := 9) (N := some 24) (v := ?_) (a' := ?_) #[true, true, true, true, true, true, true, true, true, true, false] rfl rfl (any_of HT_.out (by kernel_rfl)) (fun _ _ _ h => h) (Or.inl ⟨by rfl, ?_⟩) ?_ ?_; rotate_left
            · intro w'; go_simp; with_reducible rfl
            rotate_left
            · simp only [Act.put, List.setIfInBounds_toArray, List.set_cons_zero, List.set_cons_succ, i64_w, i32_w]; rfl
            refine last_ (i := 10) (N := none) #[true, true, true, true, true, true, true, true, true, true, true] rfl rfl (one_of HT_.out (by kernel_rfl)) (by decide) (fun K hK => ?_)
            have hs15 : w13.cell? ⟨gb186, 1, none⟩ = some (u187001) := (blk_cell BK186.out 1).trans rfl
            have hfs15 := blk_frozen BK186.out 1
            have hns15_0 := NB182_186.out
            have hms15_0 := NB186_182.out
            refine skip_ (w1 := ?_) (by rfl) rfl ?_ ?_; rotate_left
            · go_simp; rfl
            refine hK.out _ _ ?_; clear hK K
            refine done_ (done_of HT_.out (by kernel_rfl)) ?_
            try go_wp2
            go_roundg k1
            case measure => have := HK1.out; omega
            case rel => exact ⟨(wrap64 (x4_1 + 1)), (y188), (.slice Ao14 y188.length co14), (by first | rfl | (simp; done) | (simp [*]; done)), H', ⟨by have := HK1.out; omega⟩, ⟨by (with_reducible repeat (first | apply Kd.R_alloc | apply Kd.R_drewN | apply Kd.R_drew)); exact Kd.R_mono (Kd.R_far (p := ⟨gb186, 1, none⟩) (Kd.R_types HO_187000.out BK186.out (by decide)) (fun _ hk => hk.2) (.slice Ao14 y188.length co14)) (fun _ hk => trivial)⟩, ⟨by (with_reducible repeat (first | apply Kd.R_alloc | apply Kd.R_drewN | apply Kd.R_drew)); exact Kd.R_mono (Kd.R_far (p := ⟨gb186, 1, none⟩) (Kd.R_mono HO190.out (fun k_ hk => (⟨hk, hk.2.2⟩ : _ ∧ k_ ≠ gb186))) (fun _ hk => hk.2) (.slice Ao14 y188.length co14)) (fun _ hk => ⟨hk.1.1, ⟨hk.1.2.1, hk.1.2.2⟩⟩)⟩, ⟨by (with_reducible repeat (first | refine blk_drewN ?_ _ | refine blk_drew ?_ | refine blk_alloc ?_ _)); refine blk_far ?_ NB182_186.out _; (with_reducible repeat (first | refine blk_drewN ?_ _ | refine blk_drew ?_ | refine blk_alloc ?_ _)); exact BK182.out⟩, ⟨by (with_reducible repeat (first | refine blk_drewN ?_ _ | refine blk_drew ?_ | refine blk_alloc ?_ _)); refine blk_put (cs := #[.slice Ao5 y183.length co5, u187001]) ?_ 1 _ rfl; (with_reducible repeat (first | refine blk_drewN ?_ _ | refine blk_drew ?_ | refine blk_alloc ?_ _)); exact BK186.out⟩, ⟨by repeat (first | (with_reducible first | exact HB.out | apply below_alloc | apply pw_below_drewN | apply below_drew1 | refine below_set ?_ GE182.out | refine below_set ?_ GE186.out) | exact HB.out)⟩⟩
          · rw [if_neg c11] at H
            exact absurd H (by simp)
        · rw [if_neg c10] at H
          exact absurd H (by simp)
      · rw [if_neg c9] at H
        have c9b0 : decide (x4_1 < (l0.length : Int)) = false := decide_eq_false c9
        clear c9
        simp only [Option.some.injEq, Prod.mk.injEq] at H
        obtain ⟨rfl, rfl⟩ := H
        have hnb16 := NB186_182.out
        have hnc16 := NB182_186.out
        have hcz17_0 : wr.cell? ⟨gb186, 0, none⟩ = some (.slice Ao5 y183.length co5) := (blk_cell BK186.out 0).trans rfl
        have hcz17_1 : wr.cell? ⟨gb186, 1, none⟩ = some (u187001) := (blk_cell BK186.out 1).trans rfl
        have hfz17_0 := blk_frozen BK186.out 0
        have hfz17_1 := blk_frozen BK186.out 1
        have hcz18_0 : wr.cell? ⟨gb182, 0, none⟩ = some (.slice none 0 0) := (blk_cell BK182.out 0).trans rfl
        have hcz18_1 : wr.cell? ⟨gb182, 1, none⟩ = some (.slice none 0 0) := (blk_cell BK182.out 1).trans rfl
        have hfz18_0 := blk_frozen BK182.out 0
        have hfz18_1 := blk_frozen BK182.out 1
        obtain ⟨Ao19, co19, eo19⟩ := Kd.R_slice HO_187001.out
        subst eo19
        go_wp2
        refine bodyPost_ret (results_cell_row rfl _ _ gb182 25 #[.slice Ao5 y183.length co5, .slice Ao19 x187001_1.length co19] (0, 0) _ rfl (by (with_reducible repeat (first | refine blk_drewN ?_ _ | refine blk_drew ?_ | refine blk_alloc ?_ _)); refine blk_put (cs := #[.slice Ao5 y183.length co5, .slice none 0 0]) ?_ 1 _ rfl; (with_reducible repeat (first | refine blk_drewN ?_ _ | refine blk_drew ?_ | refine blk_alloc ?_ _)); refine blk_put (cs := #[.slice none 0 0, .slice none 0 0]) ?_ 0 _ rfl; (with_reducible repeat (first | refine blk_drewN ?_ _ | refine blk_drew ?_ | refine blk_alloc ?_ _)); exact BK182.out) Try.underlying25 rfl (by kernel_rfl)) rfl ?_
        exact ⟨_, _, by first | rfl | (simp [errW_none, errW_some] <;> rfl) | (simp [*, errW_none, errW_some] <;> rfl), by (with_reducible repeat (first | apply Kd.R_alloc | apply Kd.R_drewN | apply Kd.R_drew)); exact Kd.R_mono (Kd.R_far (p := ⟨gb182, 1, none⟩) (Kd.R_far (p := ⟨gb182, 0, none⟩) (Kd.R_types HO_187000.out BK182.out (by decide)) (fun _ hk => hk.2) (.slice Ao5 y183.length co5)) (fun _ hk => hk.2) (.slice Ao19 x187001_1.length co19)) (fun _ hk => trivial), by (with_reducible repeat (first | apply Kd.R_alloc | apply Kd.R_drewN | apply Kd.R_drew)); exact Kd.R_mono (Kd.R_far (p := ⟨gb182, 1, none⟩) (Kd.R_far (p := ⟨gb182, 0, none⟩) (Kd.R_mono HO_187001.out (fun k_ hk => (⟨hk, hk.2.1⟩ : _ ∧ k_ ≠ gb182))) (fun _ hk => hk.2) (.slice Ao5 y183.length co5)) (fun _ hk => hk.2) (.slice Ao19 x187001_1.length co19)) (fun _ hk => hk.1.1), by repeat (first | (with_reducible first | exact HB.out | apply below_alloc | apply pw_below_drewN | apply below_drew1 | refine below_set ?_ GE182.out | refine below_set ?_ GE186.out) | exact HB.out)⟩
def triglyphref03_Atom.f (a0 : Int) : Option (List Int × (List (S35))) := some (([] : List Int), (([(⟨0, a0, ([] : List (S25))⟩ : S35)] : List (S35))))
set_option maxHeartbeats 8000000 in
set_option maxRecDepth 100000 in
theorem triglyphref03_Atom.calls (a0 : Int) (r1 : List Int) (r2 : List (S35)) (w : World) (h : triglyphref03_Atom.f a0 = some (r1, r2)) :
    Calls Try.prog 26 #[.int .i64 a0] w fun e w' => ∃ v0_ v1_ : Value, e = .returned (.agg #[v0_, v1_]) ∧ Kd.R (Kd.int .i64) 3 w' w.heap.size (fun _ => True) v0_ r1 ∧ Kd.R k35 35 w' w.heap.size (fun k_ => some k_ ≠ (v0_ : Value).ownBlock) v1_ r2 ∧ Below w.heap.size w w' := by
  have hu25 := Try.underlying25
  have hu35 := Try.underlying35
  have HB := Aside0.mk (Below.refl w.heap.size w)
  have H : (some (([] : List Int), (([(⟨0, a0, ([] : List (S25))⟩ : S35)] : List (S35))))) = some (r1, r2) := h
  clear h
  obtain ⟨y192, hy192⟩ : ∃ y_ : List (S35), y_ = (([(⟨0, a0, ([] : List (S25))⟩ : S35)] : List (S35))) := ⟨_, rfl⟩
  replace H : (some (([] : List Int), y192)) = some (r1, r2) := by first | (rw [hy192]; with_reducible exact H) | (have H2_ := (Option.bind_some _ _).symm.trans H; rw [hy192]; with_reducible exact H2_) | (have H2_ := (Option.bind_some _ _).symm.trans H; with_reducible exact H2_) | with_reducible exact H | (rw [hy192]; exact H) | exact H
  have Ny192 := Aside0.mk hy192
  clear hy192
  simp only [Option.some.injEq, Prod.mk.injEq] at H
  obtain ⟨rfl, rfl⟩ := H
  go_enter Try.func26, Try.ntmps26
  go_wp2_with (first | ((with_reducible refine gate_dst (N := 2) rfl ?_); refine box_event ?hg (N := 2) ?hd (cs := #[.slice none 0 0, .slice none 0 0]) (t := 25) ?hr ?_; (case hd => rfl); (case hg => rfl); (case hr => first | (go_simp; done) | (go_simp; rfl)); intro gb191 hg w2 hbox hb; have n0_ := Aside0.mk (below_step (by repeat (first | (with_reducible first | exact HB.out | apply below_alloc | apply pw_below_drewN | apply below_drew1) | exact HB.out)) hb); have n1_ := Aside0.mk (hbox); have n2_ := Aside0.mk ((by rw [hg]; exact (below_size (by repeat (first | (with_reducible first | exact HB.out | apply below_alloc | apply pw_below_drewN | apply below_drew1) | exact HB.out))) : w.heap.size ≤ gb191)); have n3_ := Aside0.mk ((by rw [hg]; exact (below_size (by repeat (first | (with_reducible first | exact HB.out | apply below_alloc | apply pw_below_drewN | apply below_drew1) | exact HB.out))) : w.heap.size ≤ gb191)); clear HB; have HB := n0_; have BK191 := n1_; have GW191 := n2_; have GE191 := n3_; clear n0_ n1_ n2_ n3_; clear hb hbox hg) | ((with_reducible refine gate_dst (N := 5) rfl ?_); refine Kd.R_lit k35 _ 35 ?hg (N := 5) ?hd (xs := ([(⟨0, a0, ([] : List (S25))⟩ : S35)] : List (S35))) (inner := [.int .i64 0, .int .i64 a0, .slice none 0 0]) (ok := fun _ => True) (okp := fun _ => True) ?hr ?hp (fun _ hk => hk) trivial (Below.refl _ _) (Nat.le_refl _) (by simp) ?_; (case hd => rfl); (case hg => rfl); (case hr => first | (go_simp; done) | (go_simp; rfl)); (case hp => exact (Reps.c3 (show Kd.M k35 _ _ _ (⟨0, a0, ([] : List (S25))⟩ : S35) [.int .i64 0, .int .i64 a0, .slice none 0 0] from (k35_mkM _ _ _ (⟨0, a0, ([] : List (S25))⟩ : S35) (Kd.R_nil _ _ _ _ _))) (Reps.none _ _))); intro v193 w3 ho4 hb hg_ hnew_; clear hg_ hnew_; (first | rw [← Ny192.out] at ho4 | (simp only [Int.reduceToNat] at ho4; rw [← Ny192.out] at ho4)); have n0_ := Aside0.mk (Kd.R_lower (Kd.R_newB ho4 (g := gb191) (o := .cells #[.slice none 0 0, .slice none 0 0] 25 (0, 0)) (by (with_reducible repeat (first | refine blk_drewN ?_ _ | refine blk_drew ?_ | refine blk_alloc ?_ _)); exact BK191.out)) (below_size (by repeat (first | (with_reducible first | exact HB.out | apply below_alloc | apply pw_below_drewN | apply below_drew1 | refine below_set ?_ GE191.out) | exact HB.out)))); have n1_ := Aside0.mk (blk_below (g := gb191) (o := .cells #[.slice none 0 0, .slice none 0 0] 25 (0, 0)) (by (with_reducible repeat (first | refine blk_drewN ?_ _ | refine blk_drew ?_ | refine blk_alloc ?_ _)); exact BK191.out) hb); have n2_ := Aside0.mk (below_step (by repeat (first | (with_reducible first | exact HB.out | apply below_alloc | apply pw_below_drewN | apply below_drew1 | refine below_set ?_ GE191.out) | exact HB.out)) hb); clear BK191; clear HB; have HO194 := n0_; have BK191 := n1_; have HB := n2_; clear n0_ n1_ n2_; clear hb ho4; obtain ⟨Ao5, co5, eo5⟩ := Kd.R_slice HO194.out; subst eo5; have hcz6_0 : w3.cell? ⟨gb191, 0, none⟩ = some (.slice none 0 0) := (blk_cell BK191.out 0).trans rfl; have hcz6_1 : w3.cell? ⟨gb191, 1, none⟩ = some (.slice none 0 0) := (blk_cell BK191.out 1).trans rfl; have hfz6_0 := blk_frozen BK191.out 0; have hfz6_1 := blk_frozen BK191.out 1))
  refine bodyPost_ret (results_cell_row rfl _ _ gb191 25 #[.slice none 0 0, .slice Ao5 y192.length co5] (0, 0) _ rfl (by (with_reducible repeat (first | refine blk_drewN ?_ _ | refine blk_drew ?_ | refine blk_alloc ?_ _)); refine blk_put (cs := #[.slice none 0 0, .slice none 0 0]) ?_ 1 _ rfl; (with_reducible repeat (first | refine blk_drewN ?_ _ | refine blk_drew ?_ | refine blk_alloc ?_ _)); refine blk_put (cs := #[.slice none 0 0, .slice none 0 0]) ?_ 0 _ rfl; (with_reducible repeat (first | refine blk_drewN ?_ _ | refine blk_drew ?_ | refine blk_alloc ?_ _)); exact BK191.out) Try.underlying25 rfl (by kernel_rfl)) rfl ?_
  exact ⟨_, _, by first | rfl | (simp [errW_none, errW_some] <;> rfl) | (simp [*, errW_none, errW_some] <;> rfl), by first | exact Kd.R_nil _ _ _ _ _ | exact Kd.N_nil _ _ _ _ _ | exact Kd.V_nil _ _ _ _ _ | exact Kd.Q_nil _ _ _ _ _ | exact Kd.S_nil _ _ _ _ _, by (with_reducible repeat (first | apply Kd.R_alloc | apply Kd.R_drewN | apply Kd.R_drew)); exact Kd.R_mono (Kd.R_far (p := ⟨gb191, 1, none⟩) (Kd.R_far (p := ⟨gb191, 0, none⟩) (Kd.R_mono HO194.out (fun k_ hk => (⟨hk, hk.2⟩ : _ ∧ k_ ≠ gb191))) (fun _ hk => hk.2) (.slice none 0 0)) (fun _ hk => hk.2) (.slice Ao5 y192.length co5)) (fun _ hk => (by simp [Value.ownBlock])), by repeat (first | (with_reducible first | exact HB.out | apply below_alloc | apply pw_below_drewN | apply below_drew1 | refine below_set ?_ GE191.out) | exact HB.out)⟩
theorem hf_litC {α : Type} {d : Kd α} {W : World} {g e : Nat} (xs : List α) (inner : List Value) (h : W.heap[g]? = some (.cells inner.toArray e (0, 0))) (hr : Reps (d.K W) d.sz xs inner) (hm : xs.length ≤ 9223372036854775807) : d.C W (some ⟨g, 0, none⟩) xs.length xs := by
  refine ⟨rfl, hm, fun _ => ⟨_, rfl, fun j p hj => ⟨(inner.drop (j * d.sz)).take d.sz, d.K_len (hr.2 j p hj), hr.2 j p hj, fun i u hu => ?_⟩⟩⟩
  rw [add_plain, blk_cell h (j * d.sz + i)]
  have hi : i < d.sz := by
    have := (List.getElem?_eq_some_iff.1 hu).1
    rw [List.length_take] at this
    omega
  rw [List.getElem?_take_of_lt hi, List.getElem?_drop] at hu
  simpa using hu
section
variable {α : Type} {d : Kd α} {e base n c g : Nat} {ok : Nat → Prop} {W w1 : World} {A : Option Addr} {xs : List α}
theorem hf_F1 (h : d.R e W base ok (.slice A n c) xs) : Kd.F d W (fun _ => True) A n xs := Kd.F_mono (Kd.R_F h) (fun _ _ => trivial)
theorem hf_F2 (h : d.R e W base ok (.slice A n c) xs) (hg : g < base) : Kd.F d W (fun k => k ≠ g) A n xs := Kd.F_mono (Kd.R_F (Kd.R_bound h)) (fun _ hk => Nat.ne_of_gt (Nat.lt_of_lt_of_le hg hk.2.1))
theorem hf_F3 (hg : g = W.heap.size) (h : Kd.F d W (fun _ => True) A n xs) (hb : Below W.heap.size W w1) : Kd.F d w1 (fun k => k ≠ g) A n xs := Kd.F_mono (Foot.old h hb) (fun _ hk => hg ▸ Nat.ne_of_lt hk.2)
theorem hf_F4 (h : Kd.F d W ok A n xs) (hb : Below W.heap.size W w1) : Kd.F d w1 ok A n xs := Foot.step h (fun k _ hlt => hb.block k hlt)
theorem hf_F5a (h : Kd.F d W (fun k => k ≠ g) A n xs) (x y : Value) : Kd.F d ((W.setCell ⟨g, 0, none⟩ x).setCell ⟨g, 1, none⟩ y) (fun k => k ≠ g) A n xs := Foot.step h (fun k hk _ => (Below.heap_setCell _ ⟨g, 1, none⟩ y k hk).trans (Below.heap_setCell _ ⟨g, 0, none⟩ x k hk))
end
theorem hf_st2 {w W : World} {g : Nat} (h : Below w.heap.size w W) (hg : w.heap.size ≤ g) (x y : Value) : Below w.heap.size w ((W.setCell ⟨g, 0, none⟩ x).setCell ⟨g, 1, none⟩ y) := below_set (below_set h hg) hg
theorem BxS.add {w W W' : World} {L : List (Nat × Array Value × Nat)} (h : BxS w W L) (hb : Below W.heap.size W W') {g t : Nat} {cs : Array Value} (hg : W'.heap[g]? = some (.cells cs t (0, 0))) (hl : W.heap.size ≤ g) : BxS w W' ((g, cs, t) :: L) := by
  refine ⟨below_step h.bel hb, fun p hp => ?_, fun p hp => ?_⟩
  · rcases List.mem_cons.1 hp with rfl | hp
    · exact hg
    · exact blk_below (h.blk p hp) hb
  · rcases List.mem_cons.1 hp with rfl | hp
    · exact Nat.le_trans h.bel.size hl
    · exact h.fr p hp
theorem hf_row_step {P : Program} {ops : Array Oper} {o : Oper} {a : Act} {Q : Exit → Act → World → Prop} {Kc : Act → World → Prop} {W : World} (hw : Region.wanted o (yielded ops a.tmps) = true) {N : Tmp} (_hd : o.dst = some N) {cs : Array Value} {t : TypeId} {n : Nat}
    (hrun : (execOp a.eval o).run P W = .ok (.value (.slice (some ⟨W.heap.size, 0, none⟩) n n)) (W.alloc (.cells cs t (0, 0))))
    (h : ∀ g, g = W.heap.size → ∀ w1, w1.heap[g]? = some (.cells cs t (0, 0)) → Below W.heap.size W w1 → Kc (a.put o.dst (.slice (some ⟨g, 0, none⟩) n n)) w1) : if Region.wanted o (yielded ops a.tmps) = true then Oper.wp P o a W Kc Q else Kc (a.put o.dst undef) W :=
  event_step hw hrun (h _ rfl _ (blk_new W _) (below_alloc (Below.refl _ _) _))
theorem hf_add (a : Addr) (n : Nat) (h : n ≠ 0) : a.add n = ⟨a.block, a.off + n, none⟩ := by unfold Addr.add; rw [if_neg h]
def triglyphlaw04_works.f (k : Nat)  : Option (Bool) :=
  (triglyphref03_Nums.f k ([1, 2, 3] : List Int)).bind fun t2 => ((triglyphref03_Atom.f 5).bind fun t15 => ((atomic_Dy.f k 21 t2.1 t2.2 t15.1 t15.2).bind fun t25 => ((atomic_Mo.f k 1 t2.1 t2.2).bind fun t38 => ((triglyphref03_Nums.f k ([1, 2] : List Int)).bind fun t52 => ((atomic_Dy.f k 21 t2.1 t2.2 t52.1 t52.2).bind fun t62 => (if t25.2.2 = 0 then (if (t25.2.1.length : Int) = 3 then (if (2 : Int) < (t25.2.1.length : Int) then (if (rd_T35 t25.2.1 2).f1 = 8 then (if t38.2.2 = 0 then (if (0 : Int) < (t38.2.1.length : Int) then (if (rd_T35 t38.2.1 0).f1 = (-1) then (if t62.2.2 = 7 then (some true) else (none)) else (none)) else (none)) else (none)) else (none)) else (none)) else (none)) else (none)))))))
theorem triglyphlaw04_works.mono : ∀ k, LeO (triglyphlaw04_works.f k ) (triglyphlaw04_works.f (k + 1) ) := by
  intro  k
  unfold triglyphlaw04_works.f
  repeat (first | exact LeO.refl _ | exact LeO.none _ | refine LeO.ite ?_ ?_ | refine LeO.bind (atomic_Dy.mono _ _ _ _ _ _) (fun _ => ?_) | refine LeO.bind (atomic_Mo.mono _ _ _ _) (fun _ => ?_) | refine LeO.bind (triglyphref03_Nums.mono _ _) (fun _ => ?_) | refine LeO.bind (LeO.refl _) (fun _ => ?_))
def triglyphlaw04_works.T2 : Bool × List (List Nat × List Nat) := (true, [([], []), ([], []), ([0, 1, 1], [0, 1]), ([2], [2]), ([3], [3]), ([3], [3]), ([], []), ([6, 4, 2, 0, 1, 2, 3, 4, 6], [4, 6]), ([5, 7, 0, 1, 2, 3, 4, 5, 6, 7], [5])])
def triglyphlaw04_works.B2 : List Nat := [0, 0, 3, 7, 15, 15, 0, 95, 255]
theorem triglyphlaw04_works.tab2 : rtab .any (opsOf Try.f10 2) = triglyphlaw04_works.T2 := by kernel_rfl
theorem triglyphlaw04_works.bits2 : waitsOk triglyphlaw04_works.T2.2 triglyphlaw04_works.B2 = true := by kernel_rfl
def triglyphlaw04_works.T4 : Bool × List (List Nat × List Nat) := (true, [([], []), ([], []), ([1], [1]), ([0, 2, 2], [0, 2]), ([3], [3]), ([4], [4]), ([4], [4]), ([], []), ([7, 5, 3, 0, 1, 2, 3, 4, 5, 7], [5, 7]), ([6, 8, 0, 1, 2, 3, 4, 5, 6, 7, 8], [6])])
def triglyphlaw04_works.B4 : List Nat := [0, 0, 2, 7, 15, 31, 31, 0, 191, 511]
theorem triglyphlaw04_works.tab4 : rtab .any (opsOf Try.f10 4) = triglyphlaw04_works.T4 := by kernel_rfl
theorem triglyphlaw04_works.bits4 : waitsOk triglyphlaw04_works.T4.2 triglyphlaw04_works.B4 = true := by kernel_rfl
set_option maxHeartbeats 8000000 in
set_option maxRecDepth 100000 in
theorem triglyphlaw04_works.calls (k : Nat)  (r : Bool) (w : World)  (h : triglyphlaw04_works.f k  = some r) :
    Calls Try.prog 10 #[] w fun e w' => e = .returned (.bool r) ∧ Below w.heap.size w w' := by
  have HS := Aside0.mk (BxS.nil w)
  unfold triglyphlaw04_works.f at h
  go_enter Try.func10, Try.ntmps10
  obtain ⟨⟨t2_1, t2_2⟩, q_, h⟩ := Option.bind_eq_some_iff.1 h; have E3 := Aside0.mk q_; clear q_; dsimp only at h
  go_upto_region 2 with (first | (go_at_call 25; (refine (triglyphref03_Nums.calls k (some ⟨w.heap.size, 0, none⟩) 3 ([1, 2, 3] : List Int) _ _ _ (hf_litC (d := (Kd.int .i64)) ([1, 2, 3] : List Int) [.int .i64 1, .int .i64 2, .int .i64 3] (blk_new _ (.cells #[.int .i64 1, .int .i64 2, .int .i64 3] 2 (0, 0))) (Reps.snoc (Reps.snoc (Reps.snoc (Reps.none ((Kd.int .i64).K _) 1) rfl rfl) rfl rfl) rfl rfl) (by decide)) (Nat.le_refl _) E3.out).mono ?_); rintro e w4 ⟨v0_, v1_, rfl, h0_, h1_, hb⟩; have CR11 := Aside0.mk (And.intro (Kd.C_below (hf_litC (d := (Kd.int .i64)) ([1, 2, 3] : List Int) [.int .i64 1, .int .i64 2, .int .i64 3] (blk_new _ (.cells #[.int .i64 1, .int .i64 2, .int .i64 3] 2 (0, 0))) (Reps.snoc (Reps.snoc (Reps.snoc (Reps.none ((Kd.int .i64).K _) 1) rfl rfl) rfl rfl) rfl rfl) (by decide)) hb) (show (([1, 2, 3] : List Int)).length ≤ 3 from Nat.le_refl _)); obtain ⟨A5, c6, hv_, hl_, hf_⟩ := Kd.R_reads h0_; clear h0_; have CR7 := Aside0.mk (And.intro hf_ hl_); clear hf_ hl_; subst hv_; obtain ⟨A8, c9, hv_, hl_, hf_⟩ := Kd.R_reads h1_; clear h1_; have CR10 := Aside0.mk (And.intro hf_ hl_); clear hf_ hl_; subst hv_; have HS := Aside0.mk (HS.out.step (hf_ac hb)); clear hb; skip))
  (try clear z0_0 z0_1); skip
  have HS := Aside0.mk (HS.out.cons' #[.slice A5 t2_1.length c6, .slice A8 t2_2.length c9] 25 (rfl))
  have CR7 := Aside0.mk (And.intro (Kd.C_alloc CR7.out.1 (.cells #[.slice A5 t2_1.length c6, .slice A8 t2_2.length c9] 25)) CR7.out.2)
  have CR10 := Aside0.mk (And.intro (Kd.C_alloc CR10.out.1 (.cells #[.slice A5 t2_1.length c6, .slice A8 t2_2.length c9] 25)) CR10.out.2)
  have CR11 := Aside0.mk (And.intro (Kd.C_alloc CR11.out.1 (.cells #[.slice A5 t2_1.length c6, .slice A8 t2_2.length c9] 25)) CR11.out.2)
  generalize w4.alloc (.cells #[.slice A5 t2_1.length c6, .slice A8 t2_2.length c9] 25) = w12 at HS CR7 CR10 CR11 ⊢
  generalize w4.heap.size = g13 at HS ⊢
  have z0_0 : w12.cell? ⟨g13, 0, none⟩ = some (.slice A5 t2_1.length c6) := (blk_cell (HS.out.at_ 0 rfl) 0).trans rfl; have z0_1 : w12.cell? ⟨g13, 1, none⟩ = some (.slice A8 t2_2.length c9) := (blk_cell (HS.out.at_ 0 rfl) 1).trans rfl
  obtain ⟨⟨t15_1, t15_2⟩, q_, h⟩ := Option.bind_eq_some_iff.1 h; have E16 := Aside0.mk q_; clear q_; dsimp only at h
  obtain ⟨⟨t25_1, t25_2, t25_3⟩, q_, h⟩ := Option.bind_eq_some_iff.1 h; have E26 := Aside0.mk q_; clear q_; dsimp only at h
  go_upto_region 2 with (fail)
  refine start_ (n := 9) (S := fun W' => Below w12.drew.heap.size w12.drew W') (ds := []) #[false, false, false, false, false, false, false, false, false] (by kernel_rfl) rfl rfl (Below.refl _ _) (fun hHeld => ?_)
  refine with_tabW triglyphlaw04_works.tab2 triglyphlaw04_works.bits2 (fun HT_ HW_ => ?_)
  (try clear z0_0 z0_1); have HS := Aside0.mk (HS.out.step (below_drew (Below.refl _ _)))
  have CR7 := Aside0.mk (And.intro (Kd.C_below CR7.out.1 (below_drew (Below.refl _ _))) CR7.out.2)
  have CR10 := Aside0.mk (And.intro (Kd.C_below CR10.out.1 (below_drew (Below.refl _ _))) CR10.out.2)
  have CR11 := Aside0.mk (And.intro (Kd.C_below CR11.out.1 (below_drew (Below.refl _ _))) CR11.out.2)
  generalize w12.drew = W14 at HS CR7 CR10 CR11 hHeld ⊢
  refine take_ (i := 0) (N := some 11) (v := ?_) (a' := ?_) #[true, false, false, false, false, false, false, false, false] rfl rfl (take_ofW HT_.out HW_.out (by kernel_rfl)) (fun _ _ _ h => h) (Or.inl ⟨by rfl, ?_⟩) hHeld ?_ ?_; rotate_left
  · intro w' s0; have y0 : w'.cell? ⟨g13, 0, none⟩ = some (.slice A5 t2_1.length c6) := (blk_cell ((HS.out.step s0).at_ 0 rfl) 0).trans rfl; have y1 : w'.cell? ⟨g13, 1, none⟩ = some (.slice A8 t2_2.length c9) := (blk_cell ((HS.out.step s0).at_ 0 rfl) 1).trans rfl; go_simp; with_reducible rfl
  rotate_left
  · simp only [Act.put, List.setIfInBounds_toArray, List.set_cons_zero, List.set_cons_succ, i64_w, i32_w]; rfl
  refine join_ (σ := Value × Value × Value × Value × Nat) 2 #[true, true, true, true, true, true, true, false, false] (fun s_ => [(12, .agg #[s_.1, s_.2.1]), (13, .tuple #[.agg #[s_.2.2.1, s_.2.2.2.1], .int .i64 t25_3]), (2, .pointer (some ⟨s_.2.2.2.2, 0, none⟩)), (10, .tuple #[.agg #[s_.2.2.1, s_.2.2.2.1], .int .i64 t25_3]), (14, .agg #[s_.2.2.1, s_.2.2.2.1]), (15, .int .i64 t25_3)]) (fun s_ w' => Below W14.heap.size W14 w' ∧ (∃ A_ c_, s_.1 = .slice A_ (t15_1).length c_ ∧ (t15_1).length ≤ c_ ∧ Kd.F (Kd.int .i64) w' (fun k_ => k_ ≠ s_.2.2.2.2) A_ (t15_1).length t15_1) ∧ (∃ A_ c_, s_.2.1 = .slice A_ (t15_2).length c_ ∧ (t15_2).length ≤ c_ ∧ Kd.F k35 w' (fun k_ => k_ ≠ s_.2.2.2.2) A_ (t15_2).length t15_2) ∧ (∃ A_ c_, s_.2.2.1 = .slice A_ (t25_1).length c_ ∧ (t25_1).length ≤ c_ ∧ Kd.F (Kd.int .i64) w' (fun k_ => k_ ≠ s_.2.2.2.2) A_ (t25_1).length t25_1) ∧ (∃ A_ c_, s_.2.2.2.1 = .slice A_ (t25_2).length c_ ∧ (t25_2).length ≤ c_ ∧ Kd.F k35 w' (fun k_ => k_ ≠ s_.2.2.2.2) A_ (t25_2).length t25_2) ∧ (w'.heap[s_.2.2.2.2]? = some (.cells #[.slice none 0 0, .slice none 0 0] 25 (0, 0)) ∧ W14.heap.size ≤ s_.2.2.2.2)) ?_ ?_; rotate_left
  · intro hCont
    refine two_ (i := 1) (j := 6) (Ni := some 12) (Nj := some 2) #[true, true, false, false, false, false, false, false, false] #[true, false, false, false, false, false, true, false, false] rfl rfl rfl rfl (two_of HT_.out (by kernel_rfl)) (by decide) (by decide) (fun K hK => ?_) (fun K hK => ?_)
    · skip
      refine goes_ Try.func26 (by kernel_rfl) rfl #[.int .i64 5] (by rfl) rfl rfl (by first | rfl | (simp only [List.map_toArray, List.map_cons, List.map_nil]; rfl)) ?_
      refine (triglyphref03_Atom.calls 5 _ _ _ E16.out).mono ?_
      rintro e w1 ⟨v20, v24, rfl, hv20, hv24, hb⟩
      refine ⟨_, rfl, ?_⟩
      obtain ⟨A17, c18, hv_⟩ := Kd.R_slice hv20; subst hv_; have CR19 := Aside0.mk (And.intro (hf_F1 hv20) (Kd.R_reads' hv20).2.1); clear hv20
      obtain ⟨A21, c22, hv_⟩ := Kd.R_slice hv24; subst hv_; have CR23 := Aside0.mk (And.intro (hf_F1 hv24) (Kd.R_reads' hv24).2.1); clear hv24
      have hHeld := hHeld.trans (hb.mono hHeld.size); clear hb
      refine hK.out _ _ hHeld (fun hHeld => ?_); clear hK K
      refine norm_ (a' := ?_) ?_ ?_; rotate_left
      · show Act.put _ (some 12) _ = _
        simp only [Act.put, List.setIfInBounds_toArray, List.set_cons_zero, List.set_cons_succ, i64_w, i32_w]; rfl
      refine two_ (i := 2) (j := 6) (Ni := some 13) (Nj := some 2) #[true, true, true, false, false, false, false, false, false] #[true, true, false, false, false, false, true, false, false] rfl rfl rfl rfl (two_of HT_.out (by kernel_rfl)) (by decide) (by decide) (fun K hK => ?_) (fun K hK => ?_)
      · skip
        refine goes_ Try.func18 (by kernel_rfl) rfl #[.int .i64 21, .agg #[.slice A5 t2_1.length c6, .slice A8 t2_2.length c9], .agg #[.slice A17 t15_1.length c18, .slice A21 t15_2.length c22]] (by rfl) rfl rfl (by first | rfl | (simp only [List.map_toArray, List.map_cons, List.map_nil]; rfl)) ?_
        refine (atomic_Dy.calls k 21 A5 c6 t2_1 A8 c9 t2_2 A17 c18 t15_1 A21 c22 t15_2 _ _ _ _ (Kd.C_below CR7.out.1 hHeld) CR7.out.2 (Kd.C_below CR10.out.1 hHeld) CR10.out.2 (Kd.F_now CR19.out.1) CR19.out.2 (Kd.F_now CR23.out.1) CR23.out.2 E26.out).mono ?_
        rintro e w1 ⟨v30, v34, rfl, hv30, hv34, hb⟩
        refine ⟨_, rfl, ?_⟩
        obtain ⟨A27, c28, hv_⟩ := Kd.R_slice hv30; subst hv_; have CR29 := Aside0.mk (And.intro (hf_F1 hv30) (Kd.R_reads' hv30).2.1); clear hv30
        obtain ⟨A31, c32, hv_⟩ := Kd.R_slice hv34; subst hv_; have CR33 := Aside0.mk (And.intro (hf_F1 hv34) (Kd.R_reads' hv34).2.1); clear hv34
        have CR19 := Aside0.mk (And.intro (hf_F4 CR19.out.1 hb) CR19.out.2)
        have CR23 := Aside0.mk (And.intro (hf_F4 CR23.out.1 hb) CR23.out.2)
        have hHeld := hHeld.trans (hb.mono hHeld.size); clear hb
        refine hK.out _ _ hHeld (fun hHeld => ?_); clear hK K
        refine norm_ (a' := ?_) ?_ ?_; rotate_left
        · show Act.put _ (some 13) _ = _
          simp only [Act.put, List.setIfInBounds_toArray, List.set_cons_zero, List.set_cons_succ, i64_w, i32_w]; rfl
        refine pure_ (i := 3) (N := some 10) (v := ?_) (a' := ?_) #[true, true, true, true, false, false, false, false, false] rfl rfl (any_of HT_.out (by kernel_rfl)) (fun _ _ _ h => h) (Or.inl ⟨by rfl, ?_⟩) ?_ ?_; rotate_left
        · intro w'; go_simp; with_reducible rfl
        rotate_left
        · simp only [Act.put, List.setIfInBounds_toArray, List.set_cons_zero, List.set_cons_succ, i64_w, i32_w]; rfl
        refine pure_ (i := 4) (N := some 14) (v := ?_) (a' := ?_) #[true, true, true, true, true, false, false, false, false] rfl rfl (any_of HT_.out (by kernel_rfl)) (fun _ _ _ h => h) (Or.inl ⟨by rfl, ?_⟩) ?_ ?_; rotate_left
        · intro w'; go_simp; with_reducible rfl
        rotate_left
        · simp only [Act.put, List.setIfInBounds_toArray, List.set_cons_zero, List.set_cons_succ, i64_w, i32_w]; rfl
        refine pure_ (i := 5) (N := some 15) (v := ?_) (a' := ?_) #[true, true, true, true, true, true, false, false, false] rfl rfl (any_of HT_.out (by kernel_rfl)) (fun _ _ _ h => h) (Or.inl ⟨by rfl, ?_⟩) ?_ ?_; rotate_left
        · intro w'; go_simp; with_reducible rfl
        rotate_left
        · simp only [Act.put, List.setIfInBounds_toArray, List.set_cons_zero, List.set_cons_succ, i64_w, i32_w]; rfl
        refine one_ (i := 6) (N := some 2) #[true, true, true, true, true, true, true, false, false] rfl rfl (one_of HT_.out (by kernel_rfl)) (by decide) (fun K hK => ?_)
        refine box_step ?hg (N := 2) ?hd (cs := #[.slice none 0 0, .slice none 0 0]) (t := 25) ?hr ?_; (case hd => rfl); (case hg => rfl); (case hr => first | (go_simp; done) | (go_simp; rfl))
        intro g35 hg w1 hbox hb
        have HGg35 := Aside0.mk hbox; have HLg35 : Aside0 (W14.heap.size ≤ g35) := ⟨Nat.le_trans hHeld.size (Nat.le_of_eq hg.symm)⟩; have HM : Aside0 (g35 < w1.heap.size) := ⟨blk_lt hbox⟩; clear hbox
        have CR19 := Aside0.mk (And.intro (hf_F3 hg CR19.out.1 hb) CR19.out.2)
        have CR23 := Aside0.mk (And.intro (hf_F3 hg CR23.out.1 hb) CR23.out.2)
        have CR29 := Aside0.mk (And.intro (hf_F3 hg CR29.out.1 hb) CR29.out.2)
        have CR33 := Aside0.mk (And.intro (hf_F3 hg CR33.out.1 hb) CR33.out.2)
        clear hg
        have hHeld := hHeld.trans (hb.mono hHeld.size); clear hb
        refine hK.out _ _ hHeld (fun hHeld => ?_); clear hK K
        refine norm_ (a' := ?_) ?_ ?_; rotate_left
        · show Act.put _ (some 2) _ = _
          simp only [Act.put, List.setIfInBounds_toArray, List.set_cons_zero, List.set_cons_succ, i64_w, i32_w]; rfl
        exact norm_ (by simp only [putAll, Act.put, List.setIfInBounds_toArray, List.set_cons_zero, List.set_cons_succ]) (hCont (.slice A17 t15_1.length c18, .slice A21 t15_2.length c22, .slice A27 t25_1.length c28, .slice A31 t25_2.length c32, g35) _ ⟨hHeld, ⟨_, _, rfl, CR19.out.2, CR19.out.1⟩, ⟨_, _, rfl, CR23.out.2, CR23.out.1⟩, ⟨_, _, rfl, CR29.out.2, CR29.out.1⟩, ⟨_, _, rfl, CR33.out.2, CR33.out.1⟩, ⟨HGg35.out, HLg35.out⟩⟩)
      · skip
        refine box_step ?hg (N := 2) ?hd (cs := #[.slice none 0 0, .slice none 0 0]) (t := 25) ?hr ?_; (case hd => rfl); (case hg => rfl); (case hr => first | (go_simp; done) | (go_simp; rfl))
        intro g35 hg w1 hbox hb
        have HGg35 := Aside0.mk hbox; have HLg35 : Aside0 (W14.heap.size ≤ g35) := ⟨Nat.le_trans hHeld.size (Nat.le_of_eq hg.symm)⟩; have HM : Aside0 (g35 < w1.heap.size) := ⟨blk_lt hbox⟩; clear hbox
        have CR19 := Aside0.mk (And.intro (hf_F3 hg CR19.out.1 hb) CR19.out.2)
        have CR23 := Aside0.mk (And.intro (hf_F3 hg CR23.out.1 hb) CR23.out.2)
        clear hg
        have hHeld := hHeld.trans (hb.mono hHeld.size); clear hb
        refine hK.out _ _ hHeld (fun hHeld => ?_); clear hK K
        refine norm_ (a' := ?_) ?_ ?_; rotate_left
        · show Act.put _ (some 2) _ = _
          simp only [Act.put, List.setIfInBounds_toArray, List.set_cons_zero, List.set_cons_succ, i64_w, i32_w]; rfl
        refine one_ (i := 2) (N := some 13) #[true, true, true, false, false, false, true, false, false] rfl rfl (one_of HT_.out (by kernel_rfl)) (by decide) (fun K hK => ?_)
        refine goes_ Try.func18 (by kernel_rfl) rfl #[.int .i64 21, .agg #[.slice A5 t2_1.length c6, .slice A8 t2_2.length c9], .agg #[.slice A17 t15_1.length c18, .slice A21 t15_2.length c22]] (by rfl) rfl rfl (by first | rfl | (simp only [List.map_toArray, List.map_cons, List.map_nil]; rfl)) ?_
        refine (atomic_Dy.calls k 21 A5 c6 t2_1 A8 c9 t2_2 A17 c18 t15_1 A21 c22 t15_2 _ _ _ _ (Kd.C_below CR7.out.1 hHeld) CR7.out.2 (Kd.C_below CR10.out.1 hHeld) CR10.out.2 (Kd.F_now CR19.out.1) CR19.out.2 (Kd.F_now CR23.out.1) CR23.out.2 E26.out).mono ?_
        rintro e w1 ⟨v30, v34, rfl, hv30, hv34, hb⟩
        refine ⟨_, rfl, ?_⟩
        obtain ⟨A27, c28, hv_⟩ := Kd.R_slice hv30; subst hv_; have CR29 := Aside0.mk (And.intro (hf_F2 hv30 HM.out) (Kd.R_reads' hv30).2.1); clear hv30
        obtain ⟨A31, c32, hv_⟩ := Kd.R_slice hv34; subst hv_; have CR33 := Aside0.mk (And.intro (hf_F2 hv34 HM.out) (Kd.R_reads' hv34).2.1); clear hv34
        have CR19 := Aside0.mk (And.intro (hf_F4 CR19.out.1 hb) CR19.out.2)
        have CR23 := Aside0.mk (And.intro (hf_F4 CR23.out.1 hb) CR23.out.2)
        have HGg35 := Aside0.mk (blk_below HGg35.out hb); have HM := Aside0.mk (Nat.lt_of_lt_of_le HM.out (Below.size hb))
        have hHeld := hHeld.trans (hb.mono hHeld.size); clear hb
        refine hK.out _ _ hHeld (fun hHeld => ?_); clear hK K
        refine norm_ (a' := ?_) ?_ ?_; rotate_left
        · show Act.put _ (some 13) _ = _
          simp only [Act.put, List.setIfInBounds_toArray, List.set_cons_zero, List.set_cons_succ, i64_w, i32_w]; rfl
        refine pure_ (i := 3) (N := some 10) (v := ?_) (a' := ?_) #[true, true, true, true, false, false, true, false, false] rfl rfl (any_of HT_.out (by kernel_rfl)) (fun _ _ _ h => h) (Or.inl ⟨by rfl, ?_⟩) ?_ ?_; rotate_left
        · intro w'; go_simp; with_reducible rfl
        rotate_left
        · simp only [Act.put, List.setIfInBounds_toArray, List.set_cons_zero, List.set_cons_succ, i64_w, i32_w]; rfl
        refine pure_ (i := 4) (N := some 14) (v := ?_) (a' := ?_) #[true, true, true, true, true, false, true, false, false] rfl rfl (any_of HT_.out (by kernel_rfl)) (fun _ _ _ h => h) (Or.inl ⟨by rfl, ?_⟩) ?_ ?_; rotate_left
        · intro w'; go_simp; with_reducible rfl
        rotate_left
        · simp only [Act.put, List.setIfInBounds_toArray, List.set_cons_zero, List.set_cons_succ, i64_w, i32_w]; rfl
        refine pure_ (i := 5) (N := some 15) (v := ?_) (a' := ?_) #[true, true, true, true, true, true, true, false, false] rfl rfl (any_of HT_.out (by kernel_rfl)) (fun _ _ _ h => h) (Or.inl ⟨by rfl, ?_⟩) ?_ ?_; rotate_left
        · intro w'; go_simp; with_reducible rfl
        rotate_left
        · simp only [Act.put, List.setIfInBounds_toArray, List.set_cons_zero, List.set_cons_succ, i64_w, i32_w]; rfl
        exact norm_ (by simp only [putAll, Act.put, List.setIfInBounds_toArray, List.set_cons_zero, List.set_cons_succ]) (hCont (.slice A17 t15_1.length c18, .slice A21 t15_2.length c22, .slice A27 t25_1.length c28, .slice A31 t25_2.length c32, g35) _ ⟨hHeld, ⟨_, _, rfl, CR19.out.2, CR19.out.1⟩, ⟨_, _, rfl, CR23.out.2, CR23.out.1⟩, ⟨_, _, rfl, CR29.out.2, CR29.out.1⟩, ⟨_, _, rfl, CR33.out.2, CR33.out.1⟩, ⟨HGg35.out, HLg35.out⟩⟩)
    · skip
      refine box_step ?hg (N := 2) ?hd (cs := #[.slice none 0 0, .slice none 0 0]) (t := 25) ?hr ?_; (case hd => rfl); (case hg => rfl); (case hr => first | (go_simp; done) | (go_simp; rfl))
      intro g35 hg w1 hbox hb
      have HGg35 := Aside0.mk hbox; have HLg35 : Aside0 (W14.heap.size ≤ g35) := ⟨Nat.le_trans hHeld.size (Nat.le_of_eq hg.symm)⟩; have HM : Aside0 (g35 < w1.heap.size) := ⟨blk_lt hbox⟩; clear hbox
      clear hg
      have hHeld := hHeld.trans (hb.mono hHeld.size); clear hb
      refine hK.out _ _ hHeld (fun hHeld => ?_); clear hK K
      refine norm_ (a' := ?_) ?_ ?_; rotate_left
      · show Act.put _ (some 2) _ = _
        simp only [Act.put, List.setIfInBounds_toArray, List.set_cons_zero, List.set_cons_succ, i64_w, i32_w]; rfl
      refine one_ (i := 1) (N := some 12) #[true, true, false, false, false, false, true, false, false] rfl rfl (one_of HT_.out (by kernel_rfl)) (by decide) (fun K hK => ?_)
      refine goes_ Try.func26 (by kernel_rfl) rfl #[.int .i64 5] (by rfl) rfl rfl (by first | rfl | (simp only [List.map_toArray, List.map_cons, List.map_nil]; rfl)) ?_
      refine (triglyphref03_Atom.calls 5 _ _ _ E16.out).mono ?_
      rintro e w1 ⟨v20, v24, rfl, hv20, hv24, hb⟩
      refine ⟨_, rfl, ?_⟩
      obtain ⟨A17, c18, hv_⟩ := Kd.R_slice hv20; subst hv_; have CR19 := Aside0.mk (And.intro (hf_F2 hv20 HM.out) (Kd.R_reads' hv20).2.1); clear hv20
      obtain ⟨A21, c22, hv_⟩ := Kd.R_slice hv24; subst hv_; have CR23 := Aside0.mk (And.intro (hf_F2 hv24 HM.out) (Kd.R_reads' hv24).2.1); clear hv24
      have HGg35 := Aside0.mk (blk_below HGg35.out hb); have HM := Aside0.mk (Nat.lt_of_lt_of_le HM.out (Below.size hb))
      have hHeld := hHeld.trans (hb.mono hHeld.size); clear hb
      refine hK.out _ _ hHeld (fun hHeld => ?_); clear hK K
      refine norm_ (a' := ?_) ?_ ?_; rotate_left
      · show Act.put _ (some 12) _ = _
        simp only [Act.put, List.setIfInBounds_toArray, List.set_cons_zero, List.set_cons_succ, i64_w, i32_w]; rfl
      refine one_ (i := 2) (N := some 13) #[true, true, true, false, false, false, true, false, false] rfl rfl (one_of HT_.out (by kernel_rfl)) (by decide) (fun K hK => ?_)
      refine goes_ Try.func18 (by kernel_rfl) rfl #[.int .i64 21, .agg #[.slice A5 t2_1.length c6, .slice A8 t2_2.length c9], .agg #[.slice A17 t15_1.length c18, .slice A21 t15_2.length c22]] (by rfl) rfl rfl (by first | rfl | (simp only [List.map_toArray, List.map_cons, List.map_nil]; rfl)) ?_
      refine (atomic_Dy.calls k 21 A5 c6 t2_1 A8 c9 t2_2 A17 c18 t15_1 A21 c22 t15_2 _ _ _ _ (Kd.C_below CR7.out.1 hHeld) CR7.out.2 (Kd.C_below CR10.out.1 hHeld) CR10.out.2 (Kd.F_now CR19.out.1) CR19.out.2 (Kd.F_now CR23.out.1) CR23.out.2 E26.out).mono ?_
      rintro e w1 ⟨v30, v34, rfl, hv30, hv34, hb⟩
      refine ⟨_, rfl, ?_⟩
      obtain ⟨A27, c28, hv_⟩ := Kd.R_slice hv30; subst hv_; have CR29 := Aside0.mk (And.intro (hf_F2 hv30 HM.out) (Kd.R_reads' hv30).2.1); clear hv30
      obtain ⟨A31, c32, hv_⟩ := Kd.R_slice hv34; subst hv_; have CR33 := Aside0.mk (And.intro (hf_F2 hv34 HM.out) (Kd.R_reads' hv34).2.1); clear hv34
      have HGg35 := Aside0.mk (blk_below HGg35.out hb); have HM := Aside0.mk (Nat.lt_of_lt_of_le HM.out (Below.size hb))
      have CR19 := Aside0.mk (And.intro (hf_F4 CR19.out.1 hb) CR19.out.2)
      have CR23 := Aside0.mk (And.intro (hf_F4 CR23.out.1 hb) CR23.out.2)
      have hHeld := hHeld.trans (hb.mono hHeld.size); clear hb
      refine hK.out _ _ hHeld (fun hHeld => ?_); clear hK K
      refine norm_ (a' := ?_) ?_ ?_; rotate_left
      · show Act.put _ (some 13) _ = _
        simp only [Act.put, List.setIfInBounds_toArray, List.set_cons_zero, List.set_cons_succ, i64_w, i32_w]; rfl
      refine pure_ (i := 3) (N := some 10) (v := ?_) (a' := ?_) #[true, true, true, true, false, false, true, false, false] rfl rfl (any_of HT_.out (by kernel_rfl)) (fun _ _ _ h => h) (Or.inl ⟨by rfl, ?_⟩) ?_ ?_; rotate_left
      · intro w'; go_simp; with_reducible rfl
      rotate_left
      · simp only [Act.put, List.setIfInBounds_toArray, List.set_cons_zero, List.set_cons_succ, i64_w, i32_w]; rfl
      refine pure_ (i := 4) (N := some 14) (v := ?_) (a' := ?_) #[true, true, true, true, true, false, true, false, false] rfl rfl (any_of HT_.out (by kernel_rfl)) (fun _ _ _ h => h) (Or.inl ⟨by rfl, ?_⟩) ?_ ?_; rotate_left
      · intro w'; go_simp; with_reducible rfl
      rotate_left
      · simp only [Act.put, List.setIfInBounds_toArray, List.set_cons_zero, List.set_cons_succ, i64_w, i32_w]; rfl
      refine pure_ (i := 5) (N := some 15) (v := ?_) (a' := ?_) #[true, true, true, true, true, true, true, false, false] rfl rfl (any_of HT_.out (by kernel_rfl)) (fun _ _ _ h => h) (Or.inl ⟨by rfl, ?_⟩) ?_ ?_; rotate_left
      · intro w'; go_simp; with_reducible rfl
      rotate_left
      · simp only [Act.put, List.setIfInBounds_toArray, List.set_cons_zero, List.set_cons_succ, i64_w, i32_w]; rfl
      exact norm_ (by simp only [putAll, Act.put, List.setIfInBounds_toArray, List.set_cons_zero, List.set_cons_succ]) (hCont (.slice A17 t15_1.length c18, .slice A21 t15_2.length c22, .slice A27 t25_1.length c28, .slice A31 t25_2.length c32, g35) _ ⟨hHeld, ⟨_, _, rfl, CR19.out.2, CR19.out.1⟩, ⟨_, _, rfl, CR23.out.2, CR23.out.1⟩, ⟨_, _, rfl, CR29.out.2, CR29.out.1⟩, ⟨_, _, rfl, CR33.out.2, CR33.out.1⟩, ⟨HGg35.out, HLg35.out⟩⟩)
  rintro ⟨v20, v24, v30, v34, g35⟩ w36 ⟨hHeld, hF0_, hF1_, hF2_, hF3_, hF4_⟩
  dsimp only at hF0_ hF1_ hF2_ hF3_ hF4_
  obtain ⟨A17, c18, hv_, hl_, hf_⟩ := hF0_; have CR19 := Aside0.mk (And.intro hf_ hl_); clear hf_ hl_; subst hv_
  obtain ⟨A21, c22, hv_, hl_, hf_⟩ := hF1_; have CR23 := Aside0.mk (And.intro hf_ hl_); clear hf_ hl_; subst hv_
  obtain ⟨A27, c28, hv_, hl_, hf_⟩ := hF2_; have CR29 := Aside0.mk (And.intro hf_ hl_); clear hf_ hl_; subst hv_
  obtain ⟨A31, c32, hv_, hl_, hf_⟩ := hF3_; have CR33 := Aside0.mk (And.intro hf_ hl_); clear hf_ hl_; subst hv_
  have HG := Aside0.mk hF4_; clear hF4_
  refine norm_ (a' := ?_) ?_ ?_; rotate_left
  · simp only [putAll, Act.put, List.setIfInBounds_toArray, List.set_cons_zero, List.set_cons_succ]; rfl
  refine one_ (i := 7) (N := none) #[true, true, true, true, true, true, true, true, false] rfl rfl (one_of HT_.out (by kernel_rfl)) (by decide) (fun K hK => ?_)
  have y0 : w36.cell? ⟨g35, 0, none⟩ = some (.slice none 0 0) := (blk_cell HG.out.1 0).trans rfl; have u0 := blk_frozen HG.out.1 0; have y1 : w36.cell? ⟨g35, 1, none⟩ = some (.slice none 0 0) := (blk_cell HG.out.1 1).trans rfl; have u1 := blk_frozen HG.out.1 1
  refine skip_ (w1 := ?_) (by rfl) rfl ?_ ?_; rotate_left
  · go_simp; rfl
  have HB2 := Aside0.mk (hf_st2 hHeld HG.out.2 (.slice A27 t25_1.length c28) (.slice A31 t25_2.length c32))
  have CR19 := Aside0.mk (And.intro (hf_F5a CR19.out.1 (.slice A27 t25_1.length c28) (.slice A31 t25_2.length c32)) CR19.out.2)
  have CR23 := Aside0.mk (And.intro (hf_F5a CR23.out.1 (.slice A27 t25_1.length c28) (.slice A31 t25_2.length c32)) CR23.out.2)
  have CR29 := Aside0.mk (And.intro (hf_F5a CR29.out.1 (.slice A27 t25_1.length c28) (.slice A31 t25_2.length c32)) CR29.out.2)
  have CR33 := Aside0.mk (And.intro (hf_F5a CR33.out.1 (.slice A27 t25_1.length c28) (.slice A31 t25_2.length c32)) CR33.out.2)
  have HG := Aside0.mk (And.intro (hf_z2 HG.out.1 (.slice A27 t25_1.length c28) (.slice A31 t25_2.length c32)) HG.out.2)
  refine hK.out _ _ HB2.out (fun hHeld => ?_); clear hK K HB2 y0 u0 y1 u1
  generalize (w36.setCell _ _).setCell _ _ = w37 at hHeld HG CR19 CR23 CR29 CR33 ⊢
  refine pure_ (i := 8) (N := some 3) (v := ?_) (a' := ?_) #[true, true, true, true, true, true, true, true, true] rfl rfl (any_of HT_.out (by kernel_rfl)) (fun _ _ _ h => h) (Or.inl ⟨by rfl, ?_⟩) ?_ ?_; rotate_left
  · intro w'; go_simp; with_reducible rfl
  rotate_left
  · simp only [Act.put, List.setIfInBounds_toArray, List.set_cons_zero, List.set_cons_succ, i64_w, i32_w]; rfl
  refine done_ (done_of HT_.out (by kernel_rfl)) ?_
  have CR19 := Aside0.mk (And.intro (Kd.F_now CR19.out.1) CR19.out.2)
  have CR23 := Aside0.mk (And.intro (Kd.F_now CR23.out.1) CR23.out.2)
  have CR29 := Aside0.mk (And.intro (Kd.F_now CR29.out.1) CR29.out.2)
  have CR33 := Aside0.mk (And.intro (Kd.F_now CR33.out.1) CR33.out.2)
  have CR7 := Aside0.mk (And.intro (Kd.C_below CR7.out.1 hHeld) CR7.out.2)
  have CR10 := Aside0.mk (And.intro (Kd.C_below CR10.out.1 hHeld) CR10.out.2)
  have CR11 := Aside0.mk (And.intro (Kd.C_below CR11.out.1 hHeld) CR11.out.2)
  have HS := Aside0.mk (BxS.add HS.out hHeld HG.out.1 HG.out.2)
  clear hHeld HG
  have z0_0 : w37.cell? ⟨g13, 0, none⟩ = some (.slice A5 t2_1.length c6) := (blk_cell (HS.out.at_ 1 rfl) 0).trans rfl; have z0_1 : w37.cell? ⟨g13, 1, none⟩ = some (.slice A8 t2_2.length c9) := (blk_cell (HS.out.at_ 1 rfl) 1).trans rfl; have z1_0 : w37.cell? ⟨g35, 0, none⟩ = some (.slice A27 t25_1.length c28) := (blk_cell (HS.out.at_ 0 rfl) 0).trans rfl; have z1_1 : w37.cell? ⟨g35, 1, none⟩ = some (.slice A31 t25_2.length c32) := (blk_cell (HS.out.at_ 0 rfl) 1).trans rfl
  obtain ⟨⟨t38_1, t38_2, t38_3⟩, q_, h⟩ := Option.bind_eq_some_iff.1 h; have E39 := Aside0.mk q_; clear q_; dsimp only at h
  go_upto_region 4 with (first | (go_at_call 11; (with_reducible refine (atomic_Mo.calls k 1 A5 c6 t2_1 A8 c9 t2_2 _ _ _ _ CR7.out.1 CR7.out.2 CR10.out.1 CR10.out.2 E39.out).mono ?_); rintro e w40 ⟨v0_, v1_, rfl, h0_, h1_, hb⟩; obtain ⟨A41, c42, hv_, hl_, hf_⟩ := Kd.R_reads h0_; clear h0_; have CR43 := Aside0.mk (And.intro hf_ hl_); clear hf_ hl_; subst hv_; obtain ⟨A44, c45, hv_, hl_, hf_⟩ := Kd.R_reads h1_; clear h1_; have CR46 := Aside0.mk (And.intro hf_ hl_); clear hf_ hl_; subst hv_; have CR7 := Aside0.mk (And.intro (Kd.C_below CR7.out.1 hb) CR7.out.2); have CR10 := Aside0.mk (And.intro (Kd.C_below CR10.out.1 hb) CR10.out.2); have CR11 := Aside0.mk (And.intro (Kd.C_below CR11.out.1 hb) CR11.out.2); have CR19 := Aside0.mk (And.intro (Kd.C_below CR19.out.1 hb) CR19.out.2); have CR23 := Aside0.mk (And.intro (Kd.C_below CR23.out.1 hb) CR23.out.2); have CR29 := Aside0.mk (And.intro (Kd.C_below CR29.out.1 hb) CR29.out.2); have CR33 := Aside0.mk (And.intro (Kd.C_below CR33.out.1 hb) CR33.out.2); have HS := Aside0.mk (HS.out.step hb); clear hb; (try clear z0_0 z0_1 z1_0 z1_1); have z0_0 : w40.cell? ⟨g13, 0, none⟩ = some (.slice A5 t2_1.length c6) := (blk_cell (HS.out.at_ 1 rfl) 0).trans rfl; have z0_1 : w40.cell? ⟨g13, 1, none⟩ = some (.slice A8 t2_2.length c9) := (blk_cell (HS.out.at_ 1 rfl) 1).trans rfl; have z1_0 : w40.cell? ⟨g35, 0, none⟩ = some (.slice A27 t25_1.length c28) := (blk_cell (HS.out.at_ 0 rfl) 0).trans rfl; have z1_1 : w40.cell? ⟨g35, 1, none⟩ = some (.slice A31 t25_2.length c32) := (blk_cell (HS.out.at_ 0 rfl) 1).trans rfl))
  (try clear z0_0 z0_1 z1_0 z1_1 z2_0 z2_1); skip
  have HS := Aside0.mk (HS.out.cons' #[.slice A41 t38_1.length c42, .slice A44 t38_2.length c45] 25 (rfl))
  have CR7 := Aside0.mk (And.intro (Kd.C_alloc CR7.out.1 (.cells #[.slice A41 t38_1.length c42, .slice A44 t38_2.length c45] 25)) CR7.out.2)
  have CR10 := Aside0.mk (And.intro (Kd.C_alloc CR10.out.1 (.cells #[.slice A41 t38_1.length c42, .slice A44 t38_2.length c45] 25)) CR10.out.2)
  have CR11 := Aside0.mk (And.intro (Kd.C_alloc CR11.out.1 (.cells #[.slice A41 t38_1.length c42, .slice A44 t38_2.length c45] 25)) CR11.out.2)
  have CR19 := Aside0.mk (And.intro (Kd.C_alloc CR19.out.1 (.cells #[.slice A41 t38_1.length c42, .slice A44 t38_2.length c45] 25)) CR19.out.2)
  have CR23 := Aside0.mk (And.intro (Kd.C_alloc CR23.out.1 (.cells #[.slice A41 t38_1.length c42, .slice A44 t38_2.length c45] 25)) CR23.out.2)
  have CR29 := Aside0.mk (And.intro (Kd.C_alloc CR29.out.1 (.cells #[.slice A41 t38_1.length c42, .slice A44 t38_2.length c45] 25)) CR29.out.2)
  have CR33 := Aside0.mk (And.intro (Kd.C_alloc CR33.out.1 (.cells #[.slice A41 t38_1.length c42, .slice A44 t38_2.length c45] 25)) CR33.out.2)
  have CR43 := Aside0.mk (And.intro (Kd.C_alloc CR43.out.1 (.cells #[.slice A41 t38_1.length c42, .slice A44 t38_2.length c45] 25)) CR43.out.2)
  have CR46 := Aside0.mk (And.intro (Kd.C_alloc CR46.out.1 (.cells #[.slice A41 t38_1.length c42, .slice A44 t38_2.length c45] 25)) CR46.out.2)
  generalize w40.alloc (.cells #[.slice A41 t38_1.length c42, .slice A44 t38_2.length c45] 25) = w47 at HS CR7 CR10 CR11 CR19 CR23 CR29 CR33 CR43 CR46 ⊢
  generalize w40.heap.size = g48 at HS ⊢
  have z0_0 : w47.cell? ⟨g13, 0, none⟩ = some (.slice A5 t2_1.length c6) := (blk_cell (HS.out.at_ 2 rfl) 0).trans rfl; have z0_1 : w47.cell? ⟨g13, 1, none⟩ = some (.slice A8 t2_2.length c9) := (blk_cell (HS.out.at_ 2 rfl) 1).trans rfl; have z1_0 : w47.cell? ⟨g35, 0, none⟩ = some (.slice A27 t25_1.length c28) := (blk_cell (HS.out.at_ 1 rfl) 0).trans rfl; have z1_1 : w47.cell? ⟨g35, 1, none⟩ = some (.slice A31 t25_2.length c32) := (blk_cell (HS.out.at_ 1 rfl) 1).trans rfl; have z2_0 : w47.cell? ⟨g48, 0, none⟩ = some (.slice A41 t38_1.length c42) := (blk_cell (HS.out.at_ 0 rfl) 0).trans rfl; have z2_1 : w47.cell? ⟨g48, 1, none⟩ = some (.slice A44 t38_2.length c45) := (blk_cell (HS.out.at_ 0 rfl) 1).trans rfl
  obtain ⟨⟨t52_1, t52_2⟩, q_, h⟩ := Option.bind_eq_some_iff.1 h; have E53 := Aside0.mk q_; clear q_; dsimp only at h
  obtain ⟨⟨t62_1, t62_2, t62_3⟩, q_, h⟩ := Option.bind_eq_some_iff.1 h; have E63 := Aside0.mk q_; clear q_; dsimp only at h
  go_upto_region 4 with (fail)
  refine start_ (n := 10) (S := fun W' => Below w47.drew.heap.size w47.drew W') (ds := []) #[false, false, false, false, false, false, false, false, false, false] (by kernel_rfl) rfl rfl (Below.refl _ _) (fun hHeld => ?_)
  refine with_tabW triglyphlaw04_works.tab4 triglyphlaw04_works.bits4 (fun HT_ HW_ => ?_)
  (try clear z0_0 z0_1 z1_0 z1_1 z2_0 z2_1); have HS := Aside0.mk (HS.out.step (below_drew (Below.refl _ _)))
  have CR7 := Aside0.mk (And.intro (Kd.C_below CR7.out.1 (below_drew (Below.refl _ _))) CR7.out.2)
  have CR10 := Aside0.mk (And.intro (Kd.C_below CR10.out.1 (below_drew (Below.refl _ _))) CR10.out.2)
  have CR11 := Aside0.mk (And.intro (Kd.C_below CR11.out.1 (below_drew (Below.refl _ _))) CR11.out.2)
  have CR19 := Aside0.mk (And.intro (Kd.C_below CR19.out.1 (below_drew (Below.refl _ _))) CR19.out.2)
  have CR23 := Aside0.mk (And.intro (Kd.C_below CR23.out.1 (below_drew (Below.refl _ _))) CR23.out.2)
  have CR29 := Aside0.mk (And.intro (Kd.C_below CR29.out.1 (below_drew (Below.refl _ _))) CR29.out.2)
  have CR33 := Aside0.mk (And.intro (Kd.C_below CR33.out.1 (below_drew (Below.refl _ _))) CR33.out.2)
  have CR43 := Aside0.mk (And.intro (Kd.C_below CR43.out.1 (below_drew (Below.refl _ _))) CR43.out.2)
  have CR46 := Aside0.mk (And.intro (Kd.C_below CR46.out.1 (below_drew (Below.refl _ _))) CR46.out.2)
  generalize w47.drew = W49 at HS CR7 CR10 CR11 CR19 CR23 CR29 CR33 CR43 CR46 hHeld ⊢
  refine take_ (i := 0) (N := some 22) (v := ?_) (a' := ?_) #[true, false, false, false, false, false, false, false, false, false] rfl rfl (take_ofW HT_.out HW_.out (by kernel_rfl)) (fun _ _ _ h => h) (Or.inl ⟨by rfl, ?_⟩) hHeld ?_ ?_; rotate_left
  · intro w' s0; have y0 : w'.cell? ⟨g13, 0, none⟩ = some (.slice A5 t2_1.length c6) := (blk_cell ((HS.out.step s0).at_ 2 rfl) 0).trans rfl; have y1 : w'.cell? ⟨g13, 1, none⟩ = some (.slice A8 t2_2.length c9) := (blk_cell ((HS.out.step s0).at_ 2 rfl) 1).trans rfl; go_simp; with_reducible rfl
  rotate_left
  · simp only [Act.put, List.setIfInBounds_toArray, List.set_cons_zero, List.set_cons_succ, i64_w, i32_w]; rfl
  refine join_ (σ := Nat × Value × Value × Value × Value × Nat) 2 #[true, true, true, true, true, true, true, true, false, false] (fun s_ => [(23, .slice (some ⟨s_.1, 0, none⟩) 2 2), (24, .agg #[s_.2.1, s_.2.2.1]), (25, .tuple #[.agg #[s_.2.2.2.1, s_.2.2.2.2.1], .int .i64 t62_3]), (6, .pointer (some ⟨s_.2.2.2.2.2, 0, none⟩)), (21, .tuple #[.agg #[s_.2.2.2.1, s_.2.2.2.2.1], .int .i64 t62_3]), (26, .agg #[s_.2.2.2.1, s_.2.2.2.2.1]), (27, .int .i64 t62_3)]) (fun s_ w' => Below W49.heap.size W49 w' ∧ ((Kd.int .i64).C w' (some ⟨s_.1, 0, none⟩) 2 ([1, 2] : List Int)) ∧ (∃ A_ c_, s_.2.1 = .slice A_ (t52_1).length c_ ∧ (t52_1).length ≤ c_ ∧ Kd.F (Kd.int .i64) w' (fun k_ => k_ ≠ s_.2.2.2.2.2) A_ (t52_1).length t52_1) ∧ (∃ A_ c_, s_.2.2.1 = .slice A_ (t52_2).length c_ ∧ (t52_2).length ≤ c_ ∧ Kd.F k35 w' (fun k_ => k_ ≠ s_.2.2.2.2.2) A_ (t52_2).length t52_2) ∧ (∃ A_ c_, s_.2.2.2.1 = .slice A_ (t62_1).length c_ ∧ (t62_1).length ≤ c_ ∧ Kd.F (Kd.int .i64) w' (fun k_ => k_ ≠ s_.2.2.2.2.2) A_ (t62_1).length t62_1) ∧ (∃ A_ c_, s_.2.2.2.2.1 = .slice A_ (t62_2).length c_ ∧ (t62_2).length ≤ c_ ∧ Kd.F k35 w' (fun k_ => k_ ≠ s_.2.2.2.2.2) A_ (t62_2).length t62_2) ∧ (w'.heap[s_.2.2.2.2.2]? = some (.cells #[.slice none 0 0, .slice none 0 0] 25 (0, 0)) ∧ W49.heap.size ≤ s_.2.2.2.2.2)) ?_ ?_; rotate_left
  · intro hCont
    refine two_ (i := 1) (j := 7) (Ni := some 23) (Nj := some 6) #[true, true, false, false, false, false, false, false, false, false] #[true, false, false, false, false, false, false, true, false, false] rfl rfl rfl rfl (two_of HT_.out (by kernel_rfl)) (by decide) (by decide) (fun K hK => ?_) (fun K hK => ?_)
    · skip
      refine hf_row_step ?hg (N := 23) ?hd (cs := #[.int .i64 1, .int .i64 2]) (t := 2) (n := 2) ?hr ?_; (case hd => rfl); (case hg => rfl); (case hr => first | (go_simp; done) | (go_simp; rfl))
      intro g50 hg w1 hbox hb
      have CR51 := Aside0.mk (And.intro (hf_litC (d := (Kd.int .i64)) (W := w1) (g := g50) (e := 2) ([1, 2] : List Int) [.int .i64 1, .int .i64 2] hbox (Reps.snoc (Reps.snoc (Reps.none ((Kd.int .i64).K _) 1) rfl rfl) rfl rfl) (by decide)) (show ([1, 2] : List Int).length ≤ 2 from Nat.le_refl _)); clear hbox hg
      have hHeld := hHeld.trans (hb.mono hHeld.size); clear hb
      refine hK.out _ _ hHeld (fun hHeld => ?_); clear hK K
      refine norm_ (a' := ?_) ?_ ?_; rotate_left
      · show Act.put _ (some 23) _ = _
        simp only [Act.put, List.setIfInBounds_toArray, List.set_cons_zero, List.set_cons_succ, i64_w, i32_w]; rfl
      refine two_ (i := 2) (j := 7) (Ni := some 24) (Nj := some 6) #[true, true, true, false, false, false, false, false, false, false] #[true, true, false, false, false, false, false, true, false, false] rfl rfl rfl rfl (two_of HT_.out (by kernel_rfl)) (by decide) (by decide) (fun K hK => ?_) (fun K hK => ?_)
      · skip
        refine goes_ Try.func25 (by kernel_rfl) rfl #[.slice (some ⟨g50, 0, none⟩) ([1, 2] : List Int).length 2] (by rfl) rfl rfl (by first | rfl | (simp only [List.map_toArray, List.map_cons, List.map_nil]; rfl)) ?_
        refine (triglyphref03_Nums.calls k (some ⟨g50, 0, none⟩) 2 ([1, 2] : List Int) _ _ _ CR51.out.1 CR51.out.2 E53.out).mono ?_
        rintro e w1 ⟨v57, v61, rfl, hv57, hv61, hb⟩
        refine ⟨_, rfl, ?_⟩
        obtain ⟨A54, c55, hv_⟩ := Kd.R_slice hv57; subst hv_; have CR56 := Aside0.mk (And.intro (hf_F1 hv57) (Kd.R_reads' hv57).2.1); clear hv57
        obtain ⟨A58, c59, hv_⟩ := Kd.R_slice hv61; subst hv_; have CR60 := Aside0.mk (And.intro (hf_F1 hv61) (Kd.R_reads' hv61).2.1); clear hv61
        have CR51 := Aside0.mk (And.intro (Kd.C_below CR51.out.1 hb) (show ([1, 2] : List Int).length ≤ 2 from Nat.le_refl _))
        have hHeld := hHeld.trans (hb.mono hHeld.size); clear hb
        refine hK.out _ _ hHeld (fun hHeld => ?_); clear hK K
        refine norm_ (a' := ?_) ?_ ?_; rotate_left
        · show Act.put _ (some 24) _ = _
          simp only [Act.put, List.setIfInBounds_toArray, List.set_cons_zero, List.set_cons_succ, i64_w, i32_w]; rfl
        refine two_ (i := 3) (j := 7) (Ni := some 25) (Nj := some 6) #[true, true, true, true, false, false, false, false, false, false] #[true, true, true, false, false, false, false, true, false, false] rfl rfl rfl rfl (two_of HT_.out (by kernel_rfl)) (by decide) (by decide) (fun K hK => ?_) (fun K hK => ?_)
        · skip
          refine goes_ Try.func18 (by kernel_rfl) rfl #[.int .i64 21, .agg #[.slice A5 t2_1.length c6, .slice A8 t2_2.length c9], .agg #[.slice A54 t52_1.length c55, .slice A58 t52_2.length c59]] (by rfl) rfl rfl (by first | rfl | (simp only [List.map_toArray, List.map_cons, List.map_nil]; rfl)) ?_
          refine (atomic_Dy.calls k 21 A5 c6 t2_1 A8 c9 t2_2 A54 c55 t52_1 A58 c59 t52_2 _ _ _ _ (Kd.C_below CR7.out.1 hHeld) CR7.out.2 (Kd.C_below CR10.out.1 hHeld) CR10.out.2 (Kd.F_now CR56.out.1) CR56.out.2 (Kd.F_now CR60.out.1) CR60.out.2 E63.out).mono ?_
          rintro e w1 ⟨v67, v71, rfl, hv67, hv71, hb⟩
          refine ⟨_, rfl, ?_⟩
          obtain ⟨A64, c65, hv_⟩ := Kd.R_slice hv67; subst hv_; have CR66 := Aside0.mk (And.intro (hf_F1 hv67) (Kd.R_reads' hv67).2.1); clear hv67
          obtain ⟨A68, c69, hv_⟩ := Kd.R_slice hv71; subst hv_; have CR70 := Aside0.mk (And.intro (hf_F1 hv71) (Kd.R_reads' hv71).2.1); clear hv71
          have CR51 := Aside0.mk (And.intro (Kd.C_below CR51.out.1 hb) (show ([1, 2] : List Int).length ≤ 2 from Nat.le_refl _))
          have CR56 := Aside0.mk (And.intro (hf_F4 CR56.out.1 hb) CR56.out.2)
          have CR60 := Aside0.mk (And.intro (hf_F4 CR60.out.1 hb) CR60.out.2)
          have hHeld := hHeld.trans (hb.mono hHeld.size); clear hb
          refine hK.out _ _ hHeld (fun hHeld => ?_); clear hK K
          refine norm_ (a' := ?_) ?_ ?_; rotate_left
          · show Act.put _ (some 25) _ = _
            simp only [Act.put, List.setIfInBounds_toArray, List.set_cons_zero, List.set_cons_succ, i64_w, i32_w]; rfl
          refine pure_ (i := 4) (N := some 21) (v := ?_) (a' := ?_) #[true, true, true, true, true, false, false, false, false, false] rfl rfl (any_of HT_.out (by kernel_rfl)) (fun _ _ _ h => h) (Or.inl ⟨by rfl, ?_⟩) ?_ ?_; rotate_left
          · intro w'; go_simp; with_reducible rfl
          rotate_left
          · simp only [Act.put, List.setIfInBounds_toArray, List.set_cons_zero, List.set_cons_succ, i64_w, i32_w]; rfl
          refine pure_ (i := 5) (N := some 26) (v := ?_) (a' := ?_) #[true, true, true, true, true, true, false, false, false, false] rfl rfl (any_of HT_.out (by kernel_rfl)) (fun _ _ _ h => h) (Or.inl ⟨by rfl, ?_⟩) ?_ ?_; rotate_left
          · intro w'; go_simp; with_reducible rfl
          rotate_left
          · simp only [Act.put, List.setIfInBounds_toArray, List.set_cons_zero, List.set_cons_succ, i64_w, i32_w]; rfl
          refine pure_ (i := 6) (N := some 27) (v := ?_) (a' := ?_) #[true, true, true, true, true, true, true, false, false, false] rfl rfl (any_of HT_.out (by kernel_rfl)) (fun _ _ _ h => h) (Or.inl ⟨by rfl, ?_⟩) ?_ ?_; rotate_left
          · intro w'; go_simp; with_reducible rfl
          rotate_left
          · simp only [Act.put, List.setIfInBounds_toArray, List.set_cons_zero, List.set_cons_succ, i64_w, i32_w]; rfl
          refine one_ (i := 7) (N := some 6) #[true, true, true, true, true, true, true, true, false, false] rfl rfl (one_of HT_.out (by kernel_rfl)) (by decide) (fun K hK => ?_)
          refine box_step ?hg (N := 6) ?hd (cs := #[.slice none 0 0, .slice none 0 0]) (t := 25) ?hr ?_; (case hd => rfl); (case hg => rfl); (case hr => first | (go_simp; done) | (go_simp; rfl))
          intro g72 hg w1 hbox hb
          have HGg72 := Aside0.mk hbox; have HLg72 : Aside0 (W49.heap.size ≤ g72) := ⟨Nat.le_trans hHeld.size (Nat.le_of_eq hg.symm)⟩; have HM : Aside0 (g72 < w1.heap.size) := ⟨blk_lt hbox⟩; clear hbox
          have CR51 := Aside0.mk (And.intro (Kd.C_below CR51.out.1 hb) (show ([1, 2] : List Int).length ≤ 2 from Nat.le_refl _))
          have CR56 := Aside0.mk (And.intro (hf_F3 hg CR56.out.1 hb) CR56.out.2)
          have CR60 := Aside0.mk (And.intro (hf_F3 hg CR60.out.1 hb) CR60.out.2)
          have CR66 := Aside0.mk (And.intro (hf_F3 hg CR66.out.1 hb) CR66.out.2)
          have CR70 := Aside0.mk (And.intro (hf_F3 hg CR70.out.1 hb) CR70.out.2)
          clear hg
          have hHeld := hHeld.trans (hb.mono hHeld.size); clear hb
          refine hK.out _ _ hHeld (fun hHeld => ?_); clear hK K
          refine norm_ (a' := ?_) ?_ ?_; rotate_left
          · show Act.put _ (some 6) _ = _
            simp only [Act.put, List.setIfInBounds_toArray, List.set_cons_zero, List.set_cons_succ, i64_w, i32_w]; rfl
          exact norm_ (by simp only [putAll, Act.put, List.setIfInBounds_toArray, List.set_cons_zero, List.set_cons_succ]) (hCont (g50, .slice A54 t52_1.length c55, .slice A58 t52_2.length c59, .slice A64 t62_1.length c65, .slice A68 t62_2.length c69, g72) _ ⟨hHeld, CR51.out.1, ⟨_, _, rfl, CR56.out.2, CR56.out.1⟩, ⟨_, _, rfl, CR60.out.2, CR60.out.1⟩, ⟨_, _, rfl, CR66.out.2, CR66.out.1⟩, ⟨_, _, rfl, CR70.out.2, CR70.out.1⟩, ⟨HGg72.out, HLg72.out⟩⟩)
        · skip
          refine box_step ?hg (N := 6) ?hd (cs := #[.slice none 0 0, .slice none 0 0]) (t := 25) ?hr ?_; (case hd => rfl); (case hg => rfl); (case hr => first | (go_simp; done) | (go_simp; rfl))
          intro g72 hg w1 hbox hb
          have HGg72 := Aside0.mk hbox; have HLg72 : Aside0 (W49.heap.size ≤ g72) := ⟨Nat.le_trans hHeld.size (Nat.le_of_eq hg.symm)⟩; have HM : Aside0 (g72 < w1.heap.size) := ⟨blk_lt hbox⟩; clear hbox
          have CR51 := Aside0.mk (And.intro (Kd.C_below CR51.out.1 hb) (show ([1, 2] : List Int).length ≤ 2 from Nat.le_refl _))
          have CR56 := Aside0.mk (And.intro (hf_F3 hg CR56.out.1 hb) CR56.out.2)
          have CR60 := Aside0.mk (And.intro (hf_F3 hg CR60.out.1 hb) CR60.out.2)
          clear hg
          have hHeld := hHeld.trans (hb.mono hHeld.size); clear hb
          refine hK.out _ _ hHeld (fun hHeld => ?_); clear hK K
          refine norm_ (a' := ?_) ?_ ?_; rotate_left
          · show Act.put _ (some 6) _ = _
            simp only [Act.put, List.setIfInBounds_toArray, List.set_cons_zero, List.set_cons_succ, i64_w, i32_w]; rfl
          refine one_ (i := 3) (N := some 25) #[true, true, true, true, false, false, false, true, false, false] rfl rfl (one_of HT_.out (by kernel_rfl)) (by decide) (fun K hK => ?_)
          refine goes_ Try.func18 (by kernel_rfl) rfl #[.int .i64 21, .agg #[.slice A5 t2_1.length c6, .slice A8 t2_2.length c9], .agg #[.slice A54 t52_1.length c55, .slice A58 t52_2.length c59]] (by rfl) rfl rfl (by first | rfl | (simp only [List.map_toArray, List.map_cons, List.map_nil]; rfl)) ?_
          refine (atomic_Dy.calls k 21 A5 c6 t2_1 A8 c9 t2_2 A54 c55 t52_1 A58 c59 t52_2 _ _ _ _ (Kd.C_below CR7.out.1 hHeld) CR7.out.2 (Kd.C_below CR10.out.1 hHeld) CR10.out.2 (Kd.F_now CR56.out.1) CR56.out.2 (Kd.F_now CR60.out.1) CR60.out.2 E63.out).mono ?_
          rintro e w1 ⟨v67, v71, rfl, hv67, hv71, hb⟩
          refine ⟨_, rfl, ?_⟩
          obtain ⟨A64, c65, hv_⟩ := Kd.R_slice hv67; subst hv_; have CR66 := Aside0.mk (And.intro (hf_F2 hv67 HM.out) (Kd.R_reads' hv67).2.1); clear hv67
          obtain ⟨A68, c69, hv_⟩ := Kd.R_slice hv71; subst hv_; have CR70 := Aside0.mk (And.intro (hf_F2 hv71 HM.out) (Kd.R_reads' hv71).2.1); clear hv71
          have CR51 := Aside0.mk (And.intro (Kd.C_below CR51.out.1 hb) (show ([1, 2] : List Int).length ≤ 2 from Nat.le_refl _))
          have CR56 := Aside0.mk (And.intro (hf_F4 CR56.out.1 hb) CR56.out.2)
          have CR60 := Aside0.mk (And.intro (hf_F4 CR60.out.1 hb) CR60.out.2)
          have HGg72 := Aside0.mk (blk_below HGg72.out hb); have HM := Aside0.mk (Nat.lt_of_lt_of_le HM.out (Below.size hb))
          have hHeld := hHeld.trans (hb.mono hHeld.size); clear hb
          refine hK.out _ _ hHeld (fun hHeld => ?_); clear hK K
          refine norm_ (a' := ?_) ?_ ?_; rotate_left
          · show Act.put _ (some 25) _ = _
            simp only [Act.put, List.setIfInBounds_toArray, List.set_cons_zero, List.set_cons_succ, i64_w, i32_w]; rfl
          refine pure_ (i := 4) (N := some 21) (v := ?_) (a' := ?_) #[true, true, true, true, true, false, false, true, false, false] rfl rfl (any_of HT_.out (by kernel_rfl)) (fun _ _ _ h => h) (Or.inl ⟨by rfl, ?_⟩) ?_ ?_; rotate_left
          · intro w'; go_simp; with_reducible rfl
          rotate_left
          · simp only [Act.put, List.setIfInBounds_toArray, List.set_cons_zero, List.set_cons_succ, i64_w, i32_w]; rfl
          refine pure_ (i := 5) (N := some 26) (v := ?_) (a' := ?_) #[true, true, true, true, true, true, false, true, false, false] rfl rfl (any_of HT_.out (by kernel_rfl)) (fun _ _ _ h => h) (Or.inl ⟨by rfl, ?_⟩) ?_ ?_; rotate_left
          · intro w'; go_simp; with_reducible rfl
          rotate_left
          · simp only [Act.put, List.setIfInBounds_toArray, List.set_cons_zero, List.set_cons_succ, i64_w, i32_w]; rfl
          refine pure_ (i := 6) (N := some 27) (v := ?_) (a' := ?_) #[true, true, true, true, true, true, true, true, false, false] rfl rfl (any_of HT_.out (by kernel_rfl)) (fun _ _ _ h => h) (Or.inl ⟨by rfl, ?_⟩) ?_ ?_; rotate_left
          · intro w'; go_simp; with_reducible rfl
          rotate_left
          · simp only [Act.put, List.setIfInBounds_toArray, List.set_cons_zero, List.set_cons_succ, i64_w, i32_w]; rfl
          exact norm_ (by simp only [putAll, Act.put, List.setIfInBounds_toArray, List.set_cons_zero, List.set_cons_succ]) (hCont (g50, .slice A54 t52_1.length c55, .slice A58 t52_2.length c59, .slice A64 t62_1.length c65, .slice A68 t62_2.length c69, g72) _ ⟨hHeld, CR51.out.1, ⟨_, _, rfl, CR56.out.2, CR56.out.1⟩, ⟨_, _, rfl, CR60.out.2, CR60.out.1⟩, ⟨_, _, rfl, CR66.out.2, CR66.out.1⟩, ⟨_, _, rfl, CR70.out.2, CR70.out.1⟩, ⟨HGg72.out, HLg72.out⟩⟩)
      · skip
        refine box_step ?hg (N := 6) ?hd (cs := #[.slice none 0 0, .slice none 0 0]) (t := 25) ?hr ?_; (case hd => rfl); (case hg => rfl); (case hr => first | (go_simp; done) | (go_simp; rfl))
        intro g72 hg w1 hbox hb
        have HGg72 := Aside0.mk hbox; have HLg72 : Aside0 (W49.heap.size ≤ g72) := ⟨Nat.le_trans hHeld.size (Nat.le_of_eq hg.symm)⟩; have HM : Aside0 (g72 < w1.heap.size) := ⟨blk_lt hbox⟩; clear hbox
        have CR51 := Aside0.mk (And.intro (Kd.C_below CR51.out.1 hb) (show ([1, 2] : List Int).length ≤ 2 from Nat.le_refl _))
        clear hg
        have hHeld := hHeld.trans (hb.mono hHeld.size); clear hb
        refine hK.out _ _ hHeld (fun hHeld => ?_); clear hK K
        refine norm_ (a' := ?_) ?_ ?_; rotate_left
        · show Act.put _ (some 6) _ = _
          simp only [Act.put, List.setIfInBounds_toArray, List.set_cons_zero, List.set_cons_succ, i64_w, i32_w]; rfl
        refine one_ (i := 2) (N := some 24) #[true, true, true, false, false, false, false, true, false, false] rfl rfl (one_of HT_.out (by kernel_rfl)) (by decide) (fun K hK => ?_)
        refine goes_ Try.func25 (by kernel_rfl) rfl #[.slice (some ⟨g50, 0, none⟩) ([1, 2] : List Int).length 2] (by rfl) rfl rfl (by first | rfl | (simp only [List.map_toArray, List.map_cons, List.map_nil]; rfl)) ?_
        refine (triglyphref03_Nums.calls k (some ⟨g50, 0, none⟩) 2 ([1, 2] : List Int) _ _ _ CR51.out.1 CR51.out.2 E53.out).mono ?_
        rintro e w1 ⟨v57, v61, rfl, hv57, hv61, hb⟩
        refine ⟨_, rfl, ?_⟩
        obtain ⟨A54, c55, hv_⟩ := Kd.R_slice hv57; subst hv_; have CR56 := Aside0.mk (And.intro (hf_F2 hv57 HM.out) (Kd.R_reads' hv57).2.1); clear hv57
        obtain ⟨A58, c59, hv_⟩ := Kd.R_slice hv61; subst hv_; have CR60 := Aside0.mk (And.intro (hf_F2 hv61 HM.out) (Kd.R_reads' hv61).2.1); clear hv61
        have CR51 := Aside0.mk (And.intro (Kd.C_below CR51.out.1 hb) (show ([1, 2] : List Int).length ≤ 2 from Nat.le_refl _))
        have HGg72 := Aside0.mk (blk_below HGg72.out hb); have HM := Aside0.mk (Nat.lt_of_lt_of_le HM.out (Below.size hb))
        have hHeld := hHeld.trans (hb.mono hHeld.size); clear hb
        refine hK.out _ _ hHeld (fun hHeld => ?_); clear hK K
        refine norm_ (a' := ?_) ?_ ?_; rotate_left
        · show Act.put _ (some 24) _ = _
          simp only [Act.put, List.setIfInBounds_toArray, List.set_cons_zero, List.set_cons_succ, i64_w, i32_w]; rfl
        refine one_ (i := 3) (N := some 25) #[true, true, true, true, false, false, false, true, false, false] rfl rfl (one_of HT_.out (by kernel_rfl)) (by decide) (fun K hK => ?_)
        refine goes_ Try.func18 (by kernel_rfl) rfl #[.int .i64 21, .agg #[.slice A5 t2_1.length c6, .slice A8 t2_2.length c9], .agg #[.slice A54 t52_1.length c55, .slice A58 t52_2.length c59]] (by rfl) rfl rfl (by first | rfl | (simp only [List.map_toArray, List.map_cons, List.map_nil]; rfl)) ?_
        refine (atomic_Dy.calls k 21 A5 c6 t2_1 A8 c9 t2_2 A54 c55 t52_1 A58 c59 t52_2 _ _ _ _ (Kd.C_below CR7.out.1 hHeld) CR7.out.2 (Kd.C_below CR10.out.1 hHeld) CR10.out.2 (Kd.F_now CR56.out.1) CR56.out.2 (Kd.F_now CR60.out.1) CR60.out.2 E63.out).mono ?_
        rintro e w1 ⟨v67, v71, rfl, hv67, hv71, hb⟩
        refine ⟨_, rfl, ?_⟩
        obtain ⟨A64, c65, hv_⟩ := Kd.R_slice hv67; subst hv_; have CR66 := Aside0.mk (And.intro (hf_F2 hv67 HM.out) (Kd.R_reads' hv67).2.1); clear hv67
        obtain ⟨A68, c69, hv_⟩ := Kd.R_slice hv71; subst hv_; have CR70 := Aside0.mk (And.intro (hf_F2 hv71 HM.out) (Kd.R_reads' hv71).2.1); clear hv71
        have CR51 := Aside0.mk (And.intro (Kd.C_below CR51.out.1 hb) (show ([1, 2] : List Int).length ≤ 2 from Nat.le_refl _))
        have HGg72 := Aside0.mk (blk_below HGg72.out hb); have HM := Aside0.mk (Nat.lt_of_lt_of_le HM.out (Below.size hb))
        have CR56 := Aside0.mk (And.intro (hf_F4 CR56.out.1 hb) CR56.out.2)
        have CR60 := Aside0.mk (And.intro (hf_F4 CR60.out.1 hb) CR60.out.2)
        have hHeld := hHeld.trans (hb.mono hHeld.size); clear hb
        refine hK.out _ _ hHeld (fun hHeld => ?_); clear hK K
        refine norm_ (a' := ?_) ?_ ?_; rotate_left
        · show Act.put _ (some 25) _ = _
          simp only [Act.put, List.setIfInBounds_toArray, List.set_cons_zero, List.set_cons_succ, i64_w, i32_w]; rfl
        refine pure_ (i := 4) (N := some 21) (v := ?_) (a' := ?_) #[true, true, true, true, true, false, false, true, false, false] rfl rfl (any_of HT_.out (by kernel_rfl)) (fun _ _ _ h => h) (Or.inl ⟨by rfl, ?_⟩) ?_ ?_; rotate_left
        · intro w'; go_simp; with_reducible rfl
        rotate_left
        · simp only [Act.put, List.setIfInBounds_toArray, List.set_cons_zero, List.set_cons_succ, i64_w, i32_w]; rfl
        refine pure_ (i := 5) (N := some 26) (v := ?_) (a' := ?_) #[true, true, true, true, true, true, false, true, false, false] rfl rfl (any_of HT_.out (by kernel_rfl)) (fun _ _ _ h => h) (Or.inl ⟨by rfl, ?_⟩) ?_ ?_; rotate_left
        · intro w'; go_simp; with_reducible rfl
        rotate_left
        · simp only [Act.put, List.setIfInBounds_toArray, List.set_cons_zero, List.set_cons_succ, i64_w, i32_w]; rfl
        refine pure_ (i := 6) (N := some 27) (v := ?_) (a' := ?_) #[true, true, true, true, true, true, true, true, false, false] rfl rfl (any_of HT_.out (by kernel_rfl)) (fun _ _ _ h => h) (Or.inl ⟨by rfl, ?_⟩) ?_ ?_; rotate_left
        · intro w'; go_simp; with_reducible rfl
        rotate_left
        · simp only [Act.put, List.setIfInBounds_toArray, List.set_cons_zero, List.set_cons_succ, i64_w, i32_w]; rfl
        exact norm_ (by simp only [putAll, Act.put, List.setIfInBounds_toArray, List.set_cons_zero, List.set_cons_succ]) (hCont (g50, .slice A54 t52_1.length c55, .slice A58 t52_2.length c59, .slice A64 t62_1.length c65, .slice A68 t62_2.length c69, g72) _ ⟨hHeld, CR51.out.1, ⟨_, _, rfl, CR56.out.2, CR56.out.1⟩, ⟨_, _, rfl, CR60.out.2, CR60.out.1⟩, ⟨_, _, rfl, CR66.out.2, CR66.out.1⟩, ⟨_, _, rfl, CR70.out.2, CR70.out.1⟩, ⟨HGg72.out, HLg72.out⟩⟩)
    · skip
      refine box_step ?hg (N := 6) ?hd (cs := #[.slice none 0 0, .slice none 0 0]) (t := 25) ?hr ?_; (case hd => rfl); (case hg => rfl); (case hr => first | (go_simp; done) | (go_simp; rfl))
      intro g72 hg w1 hbox hb
      have HGg72 := Aside0.mk hbox; have HLg72 : Aside0 (W49.heap.size ≤ g72) := ⟨Nat.le_trans hHeld.size (Nat.le_of_eq hg.symm)⟩; have HM : Aside0 (g72 < w1.heap.size) := ⟨blk_lt hbox⟩; clear hbox
      clear hg
      have hHeld := hHeld.trans (hb.mono hHeld.size); clear hb
      refine hK.out _ _ hHeld (fun hHeld => ?_); clear hK K
      refine norm_ (a' := ?_) ?_ ?_; rotate_left
      · show Act.put _ (some 6) _ = _
        simp only [Act.put, List.setIfInBounds_toArray, List.set_cons_zero, List.set_cons_succ, i64_w, i32_w]; rfl
      refine one_ (i := 1) (N := some 23) #[true, true, false, false, false, false, false, true, false, false] rfl rfl (one_of HT_.out (by kernel_rfl)) (by decide) (fun K hK => ?_)
      refine hf_row_step ?hg (N := 23) ?hd (cs := #[.int .i64 1, .int .i64 2]) (t := 2) (n := 2) ?hr ?_; (case hd => rfl); (case hg => rfl); (case hr => first | (go_simp; done) | (go_simp; rfl))
      intro g50 hg w1 hbox hb
      have CR51 := Aside0.mk (And.intro (hf_litC (d := (Kd.int .i64)) (W := w1) (g := g50) (e := 2) ([1, 2] : List Int) [.int .i64 1, .int .i64 2] hbox (Reps.snoc (Reps.snoc (Reps.none ((Kd.int .i64).K _) 1) rfl rfl) rfl rfl) (by decide)) (show ([1, 2] : List Int).length ≤ 2 from Nat.le_refl _)); clear hbox hg
      have HGg72 := Aside0.mk (blk_below HGg72.out hb); have HM := Aside0.mk (Nat.lt_of_lt_of_le HM.out (Below.size hb))
      have hHeld := hHeld.trans (hb.mono hHeld.size); clear hb
      refine hK.out _ _ hHeld (fun hHeld => ?_); clear hK K
      refine norm_ (a' := ?_) ?_ ?_; rotate_left
      · show Act.put _ (some 23) _ = _
        simp only [Act.put, List.setIfInBounds_toArray, List.set_cons_zero, List.set_cons_succ, i64_w, i32_w]; rfl
      refine one_ (i := 2) (N := some 24) #[true, true, true, false, false, false, false, true, false, false] rfl rfl (one_of HT_.out (by kernel_rfl)) (by decide) (fun K hK => ?_)
      refine goes_ Try.func25 (by kernel_rfl) rfl #[.slice (some ⟨g50, 0, none⟩) ([1, 2] : List Int).length 2] (by rfl) rfl rfl (by first | rfl | (simp only [List.map_toArray, List.map_cons, List.map_nil]; rfl)) ?_
      refine (triglyphref03_Nums.calls k (some ⟨g50, 0, none⟩) 2 ([1, 2] : List Int) _ _ _ CR51.out.1 CR51.out.2 E53.out).mono ?_
      rintro e w1 ⟨v57, v61, rfl, hv57, hv61, hb⟩
      refine ⟨_, rfl, ?_⟩
      obtain ⟨A54, c55, hv_⟩ := Kd.R_slice hv57; subst hv_; have CR56 := Aside0.mk (And.intro (hf_F2 hv57 HM.out) (Kd.R_reads' hv57).2.1); clear hv57
      obtain ⟨A58, c59, hv_⟩ := Kd.R_slice hv61; subst hv_; have CR60 := Aside0.mk (And.intro (hf_F2 hv61 HM.out) (Kd.R_reads' hv61).2.1); clear hv61
      have HGg72 := Aside0.mk (blk_below HGg72.out hb); have HM := Aside0.mk (Nat.lt_of_lt_of_le HM.out (Below.size hb))
      have CR51 := Aside0.mk (And.intro (Kd.C_below CR51.out.1 hb) (show ([1, 2] : List Int).length ≤ 2 from Nat.le_refl _))
      have hHeld := hHeld.trans (hb.mono hHeld.size); clear hb
      refine hK.out _ _ hHeld (fun hHeld => ?_); clear hK K
      refine norm_ (a' := ?_) ?_ ?_; rotate_left
      · show Act.put _ (some 24) _ = _
        simp only [Act.put, List.setIfInBounds_toArray, List.set_cons_zero, List.set_cons_succ, i64_w, i32_w]; rfl
      refine one_ (i := 3) (N := some 25) #[true, true, true, true, false, false, false, true, false, false] rfl rfl (one_of HT_.out (by kernel_rfl)) (by decide) (fun K hK => ?_)
      refine goes_ Try.func18 (by kernel_rfl) rfl #[.int .i64 21, .agg #[.slice A5 t2_1.length c6, .slice A8 t2_2.length c9], .agg #[.slice A54 t52_1.length c55, .slice A58 t52_2.length c59]] (by rfl) rfl rfl (by first | rfl | (simp only [List.map_toArray, List.map_cons, List.map_nil]; rfl)) ?_
      refine (atomic_Dy.calls k 21 A5 c6 t2_1 A8 c9 t2_2 A54 c55 t52_1 A58 c59 t52_2 _ _ _ _ (Kd.C_below CR7.out.1 hHeld) CR7.out.2 (Kd.C_below CR10.out.1 hHeld) CR10.out.2 (Kd.F_now CR56.out.1) CR56.out.2 (Kd.F_now CR60.out.1) CR60.out.2 E63.out).mono ?_
      rintro e w1 ⟨v67, v71, rfl, hv67, hv71, hb⟩
      refine ⟨_, rfl, ?_⟩
      obtain ⟨A64, c65, hv_⟩ := Kd.R_slice hv67; subst hv_; have CR66 := Aside0.mk (And.intro (hf_F2 hv67 HM.out) (Kd.R_reads' hv67).2.1); clear hv67
      obtain ⟨A68, c69, hv_⟩ := Kd.R_slice hv71; subst hv_; have CR70 := Aside0.mk (And.intro (hf_F2 hv71 HM.out) (Kd.R_reads' hv71).2.1); clear hv71
      have HGg72 := Aside0.mk (blk_below HGg72.out hb); have HM := Aside0.mk (Nat.lt_of_lt_of_le HM.out (Below.size hb))
      have CR51 := Aside0.mk (And.intro (Kd.C_below CR51.out.1 hb) (show ([1, 2] : List Int).length ≤ 2 from Nat.le_refl _))
      have CR56 := Aside0.mk (And.intro (hf_F4 CR56.out.1 hb) CR56.out.2)
      have CR60 := Aside0.mk (And.intro (hf_F4 CR60.out.1 hb) CR60.out.2)
      have hHeld := hHeld.trans (hb.mono hHeld.size); clear hb
      refine hK.out _ _ hHeld (fun hHeld => ?_); clear hK K
      refine norm_ (a' := ?_) ?_ ?_; rotate_left
      · show Act.put _ (some 25) _ = _
        simp only [Act.put, List.setIfInBounds_toArray, List.set_cons_zero, List.set_cons_succ, i64_w, i32_w]; rfl
      refine pure_ (i := 4) (N := some 21) (v := ?_) (a' := ?_) #[true, true, true, true, true, false, false, true, false, false] rfl rfl (any_of HT_.out (by kernel_rfl)) (fun _ _ _ h => h) (Or.inl ⟨by rfl, ?_⟩) ?_ ?_; rotate_left
      · intro w'; go_simp; with_reducible rfl
      rotate_left
      · simp only [Act.put, List.setIfInBounds_toArray, List.set_cons_zero, List.set_cons_succ, i64_w, i32_w]; rfl
      refine pure_ (i := 5) (N := some 26) (v := ?_) (a' := ?_) #[true, true, true, true, true, true, false, true, false, false] rfl rfl (any_of HT_.out (by kernel_rfl)) (fun _ _ _ h => h) (Or.inl ⟨by rfl, ?_⟩) ?_ ?_; rotate_left
      · intro w'; go_simp; with_reducible rfl
      rotate_left
      · simp only [Act.put, List.setIfInBounds_toArray, List.set_cons_zero, List.set_cons_succ, i64_w, i32_w]; rfl
      refine pure_ (i := 6) (N := some 27) (v := ?_) (a' := ?_) #[true, true, true, true, true, true, true, true, false, false] rfl rfl (any_of HT_.out (by kernel_rfl)) (fun _ _ _ h => h) (Or.inl ⟨by rfl, ?_⟩) ?_ ?_; rotate_left
      · intro w'; go_simp; with_reducible rfl
      rotate_left
      · simp only [Act.put, List.setIfInBounds_toArray, List.set_cons_zero, List.set_cons_succ, i64_w, i32_w]; rfl
      exact norm_ (by simp only [putAll, Act.put, List.setIfInBounds_toArray, List.set_cons_zero, List.set_cons_succ]) (hCont (g50, .slice A54 t52_1.length c55, .slice A58 t52_2.length c59, .slice A64 t62_1.length c65, .slice A68 t62_2.length c69, g72) _ ⟨hHeld, CR51.out.1, ⟨_, _, rfl, CR56.out.2, CR56.out.1⟩, ⟨_, _, rfl, CR60.out.2, CR60.out.1⟩, ⟨_, _, rfl, CR66.out.2, CR66.out.1⟩, ⟨_, _, rfl, CR70.out.2, CR70.out.1⟩, ⟨HGg72.out, HLg72.out⟩⟩)
  rintro ⟨g50, v57, v61, v67, v71, g72⟩ w73 ⟨hHeld, hF0_, hF1_, hF2_, hF3_, hF4_, hF5_⟩
  dsimp only at hF0_ hF1_ hF2_ hF3_ hF4_ hF5_
  clear hF0_
  obtain ⟨A54, c55, hv_, hl_, hf_⟩ := hF1_; have CR56 := Aside0.mk (And.intro hf_ hl_); clear hf_ hl_; subst hv_
  obtain ⟨A58, c59, hv_, hl_, hf_⟩ := hF2_; have CR60 := Aside0.mk (And.intro hf_ hl_); clear hf_ hl_; subst hv_
  obtain ⟨A64, c65, hv_, hl_, hf_⟩ := hF3_; have CR66 := Aside0.mk (And.intro hf_ hl_); clear hf_ hl_; subst hv_
  obtain ⟨A68, c69, hv_, hl_, hf_⟩ := hF4_; have CR70 := Aside0.mk (And.intro hf_ hl_); clear hf_ hl_; subst hv_
  have HG := Aside0.mk hF5_; clear hF5_
  refine norm_ (a' := ?_) ?_ ?_; rotate_left
  · simp only [putAll, Act.put, List.setIfInBounds_toArray, List.set_cons_zero, List.set_cons_succ]; rfl
  refine one_ (i := 8) (N := none) #[true, true, true, true, true, true, true, true, true, false] rfl rfl (one_of HT_.out (by kernel_rfl)) (by decide) (fun K hK => ?_)
  have y0 : w73.cell? ⟨g72, 0, none⟩ = some (.slice none 0 0) := (blk_cell HG.out.1 0).trans rfl; have u0 := blk_frozen HG.out.1 0; have y1 : w73.cell? ⟨g72, 1, none⟩ = some (.slice none 0 0) := (blk_cell HG.out.1 1).trans rfl; have u1 := blk_frozen HG.out.1 1
  refine skip_ (w1 := ?_) (by rfl) rfl ?_ ?_; rotate_left
  · go_simp; rfl
  have HB2 := Aside0.mk (hf_st2 hHeld HG.out.2 (.slice A64 t62_1.length c65) (.slice A68 t62_2.length c69))
  have CR56 := Aside0.mk (And.intro (hf_F5a CR56.out.1 (.slice A64 t62_1.length c65) (.slice A68 t62_2.length c69)) CR56.out.2)
  have CR60 := Aside0.mk (And.intro (hf_F5a CR60.out.1 (.slice A64 t62_1.length c65) (.slice A68 t62_2.length c69)) CR60.out.2)
  have CR66 := Aside0.mk (And.intro (hf_F5a CR66.out.1 (.slice A64 t62_1.length c65) (.slice A68 t62_2.length c69)) CR66.out.2)
  have CR70 := Aside0.mk (And.intro (hf_F5a CR70.out.1 (.slice A64 t62_1.length c65) (.slice A68 t62_2.length c69)) CR70.out.2)
  have HG := Aside0.mk (And.intro (hf_z2 HG.out.1 (.slice A64 t62_1.length c65) (.slice A68 t62_2.length c69)) HG.out.2)
  refine hK.out _ _ HB2.out (fun hHeld => ?_); clear hK K HB2 y0 u0 y1 u1
  generalize (w73.setCell _ _).setCell _ _ = w74 at hHeld HG CR56 CR60 CR66 CR70 ⊢
  refine pure_ (i := 9) (N := some 7) (v := ?_) (a' := ?_) #[true, true, true, true, true, true, true, true, true, true] rfl rfl (any_of HT_.out (by kernel_rfl)) (fun _ _ _ h => h) (Or.inl ⟨by rfl, ?_⟩) ?_ ?_; rotate_left
  · intro w'; go_simp; with_reducible rfl
  rotate_left
  · simp only [Act.put, List.setIfInBounds_toArray, List.set_cons_zero, List.set_cons_succ, i64_w, i32_w]; rfl
  refine done_ (done_of HT_.out (by kernel_rfl)) ?_
  have CR56 := Aside0.mk (And.intro (Kd.F_now CR56.out.1) CR56.out.2)
  have CR60 := Aside0.mk (And.intro (Kd.F_now CR60.out.1) CR60.out.2)
  have CR66 := Aside0.mk (And.intro (Kd.F_now CR66.out.1) CR66.out.2)
  have CR70 := Aside0.mk (And.intro (Kd.F_now CR70.out.1) CR70.out.2)
  have CR7 := Aside0.mk (And.intro (Kd.C_below CR7.out.1 hHeld) CR7.out.2)
  have CR10 := Aside0.mk (And.intro (Kd.C_below CR10.out.1 hHeld) CR10.out.2)
  have CR11 := Aside0.mk (And.intro (Kd.C_below CR11.out.1 hHeld) CR11.out.2)
  have CR19 := Aside0.mk (And.intro (Kd.C_below CR19.out.1 hHeld) CR19.out.2)
  have CR23 := Aside0.mk (And.intro (Kd.C_below CR23.out.1 hHeld) CR23.out.2)
  have CR29 := Aside0.mk (And.intro (Kd.C_below CR29.out.1 hHeld) CR29.out.2)
  have CR33 := Aside0.mk (And.intro (Kd.C_below CR33.out.1 hHeld) CR33.out.2)
  have CR43 := Aside0.mk (And.intro (Kd.C_below CR43.out.1 hHeld) CR43.out.2)
  have CR46 := Aside0.mk (And.intro (Kd.C_below CR46.out.1 hHeld) CR46.out.2)
  have HS := Aside0.mk (BxS.add HS.out hHeld HG.out.1 HG.out.2)
  clear hHeld HG
  have z0_0 : w74.cell? ⟨g13, 0, none⟩ = some (.slice A5 t2_1.length c6) := (blk_cell (HS.out.at_ 3 rfl) 0).trans rfl; have z0_1 : w74.cell? ⟨g13, 1, none⟩ = some (.slice A8 t2_2.length c9) := (blk_cell (HS.out.at_ 3 rfl) 1).trans rfl; have z1_0 : w74.cell? ⟨g35, 0, none⟩ = some (.slice A27 t25_1.length c28) := (blk_cell (HS.out.at_ 2 rfl) 0).trans rfl; have z1_1 : w74.cell? ⟨g35, 1, none⟩ = some (.slice A31 t25_2.length c32) := (blk_cell (HS.out.at_ 2 rfl) 1).trans rfl; have z2_0 : w74.cell? ⟨g48, 0, none⟩ = some (.slice A41 t38_1.length c42) := (blk_cell (HS.out.at_ 1 rfl) 0).trans rfl; have z2_1 : w74.cell? ⟨g48, 1, none⟩ = some (.slice A44 t38_2.length c45) := (blk_cell (HS.out.at_ 1 rfl) 1).trans rfl; have z3_0 : w74.cell? ⟨g72, 0, none⟩ = some (.slice A64 t62_1.length c65) := (blk_cell (HS.out.at_ 0 rfl) 0).trans rfl; have z3_1 : w74.cell? ⟨g72, 1, none⟩ = some (.slice A68 t62_2.length c69) := (blk_cell (HS.out.at_ 0 rfl) 1).trans rfl
  by_cases q75 : t25_3 = 0
  · rw [if_pos q75] at h
    have q75b0 := (beq_iff_eq.2 q75 : (t25_3 == 0) = true)
    clear q75
    by_cases q76 : (t25_2.length : Int) = 3
    · rw [if_pos q76] at h
      have q76b0 := (beq_iff_eq.2 q76 : ((t25_2.length : Int) == 3) = true)
      clear q76
      by_cases q77 : (2 : Int) < (t25_2.length : Int)
      · rw [if_pos q77] at h
        have q77b0 := q77
        clear q77
        obtain ⟨ad78, A79, c80, ea_, ad78_0, ad78_1, ad78_2, ad78l2, ad78c2⟩ := at_T35 CR33.out.1 (2 : Int) (by omega) (by omega)
        subst ea_
        rw [show Int.toNat 2 * 3 = 6 from rfl] at ad78_0 ad78_1 ad78_2
        rw [hf_add _ 6 (by decide)] at ad78_0 ad78_1 ad78_2; dsimp only at ad78_0 ad78_1 ad78_2
        have CR81 := Aside0.mk (And.intro ad78c2 ad78l2); clear ad78c2 ad78l2
        by_cases q82 : (rd_T35 t25_2 2).f1 = 8
        · rw [if_pos q82] at h
          have q82b0 := (beq_iff_eq.2 q82 : ((rd_T35 t25_2 2).f1 == 8) = true)
          clear q82
          by_cases q83 : t38_3 = 0
          · rw [if_pos q83] at h
            have q83b0 := (beq_iff_eq.2 q83 : (t38_3 == 0) = true)
            clear q83
            by_cases q84 : (0 : Int) < (t38_2.length : Int)
            · rw [if_pos q84] at h
              have q84b0 := q84
              clear q84
              obtain ⟨ad85, A86, c87, ea_, ad85_0, ad85_1, ad85_2, ad85l2, ad85c2⟩ := at_T35 CR46.out.1 (0 : Int) (by omega) (by omega)
              subst ea_
              rw [show Int.toNat 0 * 3 = 0 from rfl] at ad85_0 ad85_1 ad85_2
              rw [Addr.add_zero'] at ad85_0 ad85_1 ad85_2
              have CR88 := Aside0.mk (And.intro ad85c2 ad85l2); clear ad85c2 ad85l2
              by_cases q89 : (rd_T35 t38_2 0).f1 = (-1)
              · rw [if_pos q89] at h
                have q89b0 := (beq_iff_eq.2 q89 : ((rd_T35 t38_2 0).f1 == (-1)) = true)
                clear q89
                by_cases q90 : t62_3 = 7
                · rw [if_pos q90] at h
                  have q90b0 := (beq_iff_eq.2 q90 : (t62_3 == 7) = true)
                  clear q90
                  obtain rfl := Option.some.inj h
                  go_wp2_with (fail)
                  go_ret
                  exact ⟨rfl, HS.out.bel⟩
                · rw [if_neg q90] at h
                  cases h
              · rw [if_neg q89] at h
                cases h
            · rw [if_neg q84] at h
              cases h
          · rw [if_neg q83] at h
            cases h
        · rw [if_neg q82] at h
          cases h
      · rw [if_neg q77] at h
        cases h
    · rw [if_neg q76] at h
      cases h
  · rw [if_neg q75] at h
    cases h
def triglyphref04_truth.f (a0 : Bool) : Option (Int × Int × (List (S25))) := if a0 = true then (some (0, 1, ([] : List (S25)))) else (some (0, 0, ([] : List (S25))))
set_option maxHeartbeats 8000000 in
set_option maxRecDepth 100000 in
theorem triglyphref04_truth.calls (a0 : Bool) (r1 : Int) (r2 : Int) (r3 : List (S25)) (w : World) (h : triglyphref04_truth.f a0 = some (r1, r2, r3)) :
    Calls Try.prog 34 #[.bool a0] w fun e w' => ∃ v2_ : Value, e = .returned (.agg #[.int .i64 r1, .int .i64 r2, v2_]) ∧ Kd.R k25 25 w' w.heap.size (fun _ => True) v2_ r3 ∧ Below w.heap.size w w' := by
  have hu35 := Try.underlying35
  have HB := Aside0.mk (Below.refl w.heap.size w)
  have H : (if a0 = true then (some (0, 1, ([] : List (S25)))) else (some (0, 0, ([] : List (S25))))) = some (r1, r2, r3) := h
  clear h
  by_cases c2 : a0 = true
  · subst c2
    have H1 : (some (0, 1, ([] : List (S25)))) = some (r1, r2, r3) := by rw [if_pos rfl] at H; exact H
    clear H; have H := H1; clear H1
    simp only [Option.some.injEq, Prod.mk.injEq] at H
    obtain ⟨rfl, rfl, rfl⟩ := H
    go_enter Try.func34, Try.ntmps34
    go_wp2_with (first | ((with_reducible refine gate_dst (N := 2) rfl ?_); refine box_event ?hg (N := 2) ?hd (cs := #[.int .i64 0, .int .i64 0, .slice none 0 0]) (t := 35) ?hr ?_; (case hd => rfl); (case hg => rfl); (case hr => first | (go_simp; done) | (go_simp; rfl)); intro gb195 hg w3 hbox hb; have n0_ := Aside0.mk (below_step (by repeat (first | (with_reducible first | exact HB.out | apply below_alloc | apply pw_below_drewN | apply below_drew1) | exact HB.out)) hb); have n1_ := Aside0.mk (hbox); have n2_ := Aside0.mk ((by rw [hg]; exact (below_size (by repeat (first | (with_reducible first | exact HB.out | apply below_alloc | apply pw_below_drewN | apply below_drew1) | exact HB.out))) : w.heap.size ≤ gb195)); have n3_ := Aside0.mk ((by rw [hg]; exact (below_size (by repeat (first | (with_reducible first | exact HB.out | apply below_alloc | apply pw_below_drewN | apply below_drew1) | exact HB.out))) : w.heap.size ≤ gb195)); clear HB; have HB := n0_; have BK195 := n1_; have GW195 := n2_; have GE195 := n3_; clear n0_ n1_ n2_ n3_; clear hb hbox hg; have hcz4_0 : w3.cell? ⟨gb195, 0, none⟩ = some (.int .i64 0) := (blk_cell BK195.out 0).trans rfl; have hcz4_1 : w3.cell? ⟨gb195, 1, none⟩ = some (.int .i64 0) := (blk_cell BK195.out 1).trans rfl; have hcz4_2 : w3.cell? ⟨gb195, 2, none⟩ = some (.slice none 0 0) := (blk_cell BK195.out 2).trans rfl; have hfz4_0 := blk_frozen BK195.out 0; have hfz4_1 := blk_frozen BK195.out 1; have hfz4_2 := blk_frozen BK195.out 2))
    refine bodyPost_ret (results_cell_row rfl _ _ gb195 35 #[.int .i64 0, .int .i64 1, .slice none 0 0] (0, 0) _ rfl (by (with_reducible repeat (first | refine blk_drewN ?_ _ | refine blk_drew ?_ | refine blk_alloc ?_ _)); refine blk_put (cs := #[.int .i64 0, .int .i64 1, .slice none 0 0]) ?_ 2 _ rfl; (with_reducible repeat (first | refine blk_drewN ?_ _ | refine blk_drew ?_ | refine blk_alloc ?_ _)); refine blk_put (cs := #[.int .i64 0, .int .i64 0, .slice none 0 0]) ?_ 1 _ rfl; (with_reducible repeat (first | refine blk_drewN ?_ _ | refine blk_drew ?_ | refine blk_alloc ?_ _)); refine blk_put (cs := #[.int .i64 0, .int .i64 0, .slice none 0 0]) ?_ 0 _ rfl; (with_reducible repeat (first | refine blk_drewN ?_ _ | refine blk_drew ?_ | refine blk_alloc ?_ _)); exact BK195.out) Try.underlying35 rfl (by kernel_rfl)) rfl ?_
    exact ⟨_, by first | rfl | (simp [errW_none, errW_some] <;> rfl) | (simp [*, errW_none, errW_some] <;> rfl), by first | exact Kd.R_nil _ _ _ _ _ | exact Kd.N_nil _ _ _ _ _ | exact Kd.V_nil _ _ _ _ _ | exact Kd.Q_nil _ _ _ _ _ | exact Kd.S_nil _ _ _ _ _, by repeat (first | (with_reducible first | exact HB.out | apply below_alloc | apply pw_below_drewN | apply below_drew1 | refine below_set ?_ GE195.out) | exact HB.out)⟩
  · replace c2 := Bool.eq_false_iff.mpr c2
    subst c2
    have H1 : (some (0, 0, ([] : List (S25)))) = some (r1, r2, r3) := by rw [if_neg (show ¬ (false = true) by decide)] at H; exact H
    clear H; have H := H1; clear H1
    simp only [Option.some.injEq, Prod.mk.injEq] at H
    obtain ⟨rfl, rfl, rfl⟩ := H
    go_enter Try.func34, Try.ntmps34
    go_wp2_with (first | ((with_reducible refine gate_dst (N := 2) rfl ?_); refine box_event ?hg (N := 2) ?hd (cs := #[.int .i64 0, .int .i64 0, .slice none 0 0]) (t := 35) ?hr ?_; (case hd => rfl); (case hg => rfl); (case hr => first | (go_simp; done) | (go_simp; rfl)); intro gb195 hg w5 hbox hb; have n0_ := Aside0.mk (below_step (by repeat (first | (with_reducible first | exact HB.out | apply below_alloc | apply pw_below_drewN | apply below_drew1) | exact HB.out)) hb); have n1_ := Aside0.mk (hbox); have n2_ := Aside0.mk ((by rw [hg]; exact (below_size (by repeat (first | (with_reducible first | exact HB.out | apply below_alloc | apply pw_below_drewN | apply below_drew1) | exact HB.out))) : w.heap.size ≤ gb195)); have n3_ := Aside0.mk ((by rw [hg]; exact (below_size (by repeat (first | (with_reducible first | exact HB.out | apply below_alloc | apply pw_below_drewN | apply below_drew1) | exact HB.out))) : w.heap.size ≤ gb195)); clear HB; have HB := n0_; have BK195 := n1_; have GW195 := n2_; have GE195 := n3_; clear n0_ n1_ n2_ n3_; clear hb hbox hg; have hcz6_0 : w5.cell? ⟨gb195, 0, none⟩ = some (.int .i64 0) := (blk_cell BK195.out 0).trans rfl; have hcz6_1 : w5.cell? ⟨gb195, 1, none⟩ = some (.int .i64 0) := (blk_cell BK195.out 1).trans rfl; have hcz6_2 : w5.cell? ⟨gb195, 2, none⟩ = some (.slice none 0 0) := (blk_cell BK195.out 2).trans rfl; have hfz6_0 := blk_frozen BK195.out 0; have hfz6_1 := blk_frozen BK195.out 1; have hfz6_2 := blk_frozen BK195.out 2))
    refine bodyPost_ret (results_cell_row rfl _ _ gb195 35 #[.int .i64 0, .int .i64 0, .slice none 0 0] (0, 0) _ rfl (by (with_reducible repeat (first | refine blk_drewN ?_ _ | refine blk_drew ?_ | refine blk_alloc ?_ _)); refine blk_put (cs := #[.int .i64 0, .int .i64 0, .slice none 0 0]) ?_ 2 _ rfl; (with_reducible repeat (first | refine blk_drewN ?_ _ | refine blk_drew ?_ | refine blk_alloc ?_ _)); refine blk_put (cs := #[.int .i64 0, .int .i64 0, .slice none 0 0]) ?_ 1 _ rfl; (with_reducible repeat (first | refine blk_drewN ?_ _ | refine blk_drew ?_ | refine blk_alloc ?_ _)); refine blk_put (cs := #[.int .i64 0, .int .i64 0, .slice none 0 0]) ?_ 0 _ rfl; (with_reducible repeat (first | refine blk_drewN ?_ _ | refine blk_drew ?_ | refine blk_alloc ?_ _)); exact BK195.out) Try.underlying35 rfl (by kernel_rfl)) rfl ?_
    exact ⟨_, by first | rfl | (simp [errW_none, errW_some] <;> rfl) | (simp [*, errW_none, errW_some] <;> rfl), by first | exact Kd.R_nil _ _ _ _ _ | exact Kd.N_nil _ _ _ _ _ | exact Kd.V_nil _ _ _ _ _ | exact Kd.Q_nil _ _ _ _ _ | exact Kd.S_nil _ _ _ _ _, by repeat (first | (with_reducible first | exact HB.out | apply below_alloc | apply pw_below_drewN | apply below_drew1 | refine below_set ?_ GE195.out) | exact HB.out)⟩
end Go.Proofs.Ytemlommdfmeabaa.P
