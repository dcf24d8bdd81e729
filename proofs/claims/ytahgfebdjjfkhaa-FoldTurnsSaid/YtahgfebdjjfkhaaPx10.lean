/- Written by a program of this session: the functions that the laws reach, what each comes to, and each law as it is stated, for every input. No condition. -/
import Derived.Test.YtahgfebdjjfkhaaPx0
import Derived.Test.YtahgfebdjjfkhaaPx2
import Derived.Test.YtahgfebdjjfkhaaPx3
import Derived.Test.YtahgfebdjjfkhaaPx4
import Derived.Test.YtahgfebdjjfkhaaPx6
import Derived.Test.YtahgfebdjjfkhaaPx7
import Derived.Test.YtahgfebdjjfkhaaPx8
import Derived.Test.YtahgfebdjjfkhaaPx9
namespace Go.Proofs.Ytahgfebdjjfkhaa.P
open Go.RowKit Go.Proofs.YtahgfebdjjfkhaaW.PrintWords Go.Proofs.YtahgfebdjjfkhaaW.PrintLast Go.Proofs.YtahgfebdjjfkhaaW.PrintMore
attribute [local go_sem] max2_int min2_int max_two min_two max_three min_three max_four min_four   -- for this text's walks alone
set_option linter.unusedVariables false
set_option linter.unusedSimpArgs false
def fold_Outer.lj (k : Nat) (op : Int) (t : Bool) (x : S43) (l : List (S43)) : Nat → Nat → List (S43) → Option (Int × List (S43))
 | 0, _, acc => some (0, acc)
 | n + 1, j, acc => (fold_F_of.f k op t x.f0 x.f1 x.f2 (rd_T43 l (j : Int)).f0 (rd_T43 l (j : Int)).f1 (rd_T43 l (j : Int)).f2).bind fun b => if b.2.2.2 = 0 then (if acc.length < 3518437208883 then fold_Outer.lj k op t x l n (j + 1) (acc ++ [⟨b.1, b.2.1, b.2.2.1⟩]) else none) else some (b.2.2.2, [])
def fold_Outer.li (k : Nat) (op : Int) (t : Bool) (la l : List (S43)) : Nat → Nat → List (S43) → Option (Int × List (S43))
 | 0, _, acc => some (0, acc)
 | n + 1, i, acc => (fold_Outer.lj k op t (rd_T43 la (i : Int)) l l.length 0 acc).bind fun r => if r.1 = 0 then fold_Outer.li k op t la l n (i + 1) r.2 else some (r.1, [])
def fold_Outer.g (k : Nat) (op : Int) (t : Bool) (s : List Int) (la l : List (S43)) : Option (List Int × List (S43) × Int) :=
 (arr_Size.f k s).bind fun q => if q.2 = 0 then ((fold_Outer.li k op t la l la.length 0 []).bind fun r => if r.1 = 0 then some (s, r.2, 0) else some ([], [], r.1)) else some ([], [], q.2)
def fold_Outer.f (k : Nat) (a0_0 : Int) (a0_1 : Bool) (l1_0 : List Int) (l1_1 : List (S43)) (l2_0 : List Int) (l2_1 : List (S43)) : Option (List Int × List (S43) × Int) :=
 (fold_F_checked.f k a0_0 a0_1 [⟨l1_0, l1_1⟩, ⟨l2_0, l2_1⟩]).bind fun e => if e = 0 then (if l1_0.length + l2_0.length < 17592186044416 then fold_Outer.g k a0_0 a0_1 (l1_0 ++ l2_0) l1_1 l2_1 else none) else some ([], [], e)
theorem fold_Outer.mono_lj (k : Nat) (op : Int) (t : Bool) (x : S43) (l : List (S43)) : ∀ n j acc, LeO (fold_Outer.lj k op t x l n j acc) (fold_Outer.lj (k + 1) op t x l n j acc)
 | 0, _, _ => LeO.refl _
 | n + 1, j, acc => by
  unfold fold_Outer.lj
  exact LeO.bind (fold_F_of.mono _ _ _ _ _ _ _ _ _) (fun _ => LeO.ite (LeO.ite (fold_Outer.mono_lj k op t x l n _ _) (LeO.none _)) (LeO.refl _))
theorem fold_Outer.mono_li (k : Nat) (op : Int) (t : Bool) (la l : List (S43)) : ∀ n i acc, LeO (fold_Outer.li k op t la l n i acc) (fold_Outer.li (k + 1) op t la l n i acc)
 | 0, _, _ => LeO.refl _
 | n + 1, i, acc => by
  unfold fold_Outer.li
  exact LeO.bind (fold_Outer.mono_lj _ _ _ _ _ _ _ _) (fun _ => LeO.ite (fold_Outer.mono_li k op t la l n _ _) (LeO.refl _))
theorem fold_Outer.mono : ∀ a0 a1 a2 a3 a4 a5 k, LeO (fold_Outer.f k a0 a1 a2 a3 a4 a5) (fold_Outer.f (k + 1) a0 a1 a2 a3 a4 a5) := by
 intro a0 a1 a2 a3 a4 a5 k
 unfold fold_Outer.f fold_Outer.g
 exact LeO.bind (fold_F_checked.mono _ _ _ _) (fun _ => LeO.ite (LeO.ite (LeO.bind (arr_Size.mono _ _) (fun _ => LeO.ite (LeO.bind (fold_Outer.mono_li _ _ _ _ _ _ _ _) (fun _ => LeO.refl _)) (LeO.refl _))) (LeO.none _)) (LeO.refl _))
def fold_Outer.T4 : Bool × List (List Nat × List Nat) := (true, [([], []), ([0], [0]), ([1], [1]), ([], []), ([3], [3]), ([2, 4, 2], [2, 4]), ([5], [5]), ([], []), ([7, 6, 5, 0, 1, 2, 3, 4, 5, 6, 7], [6, 7])])
def fold_Outer.B4 : List Nat := [0, 1, 3, 0, 8, 31, 63, 0, 255]
theorem fold_Outer.tab4 : rtab .any (opsOf Try.f17 4) = fold_Outer.T4 := by kernel_rfl
theorem fold_Outer.bits4 : waitsOk fold_Outer.T4.2 fold_Outer.B4 = true := by kernel_rfl
set_option maxHeartbeats 8000000 in
set_option maxRecDepth 100000 in
theorem fold_Outer.calls (k : Nat) (a0_0 : Int) (a0_1 : Bool) (A1_0 : Option Addr) (c1_0 : Nat) (l1_0 : List Int) (A1_1 : Option Addr) (c1_1 : Nat) (l1_1 : List (S43)) (A2_0 : Option Addr) (c2_0 : Nat) (l2_0 : List Int) (A2_1 : Option Addr) (c2_1 : Nat) (l2_1 : List (S43)) (r1 : List Int) (r2 : List (S43)) (r3 : Int) (w : World) (hr1_0 : Kd.C (Kd.int .i64) w A1_0 l1_0.length l1_0) (hc1_0 : l1_0.length ≤ c1_0) (hr1_1 : Kd.C k43 w A1_1 l1_1.length l1_1) (hc1_1 : l1_1.length ≤ c1_1) (hr2_0 : Kd.C (Kd.int .i64) w A2_0 l2_0.length l2_0) (hc2_0 : l2_0.length ≤ c2_0) (hr2_1 : Kd.C k43 w A2_1 l2_1.length l2_1) (hc2_1 : l2_1.length ≤ c2_1) (h : fold_Outer.f k a0_0 a0_1 l1_0 l1_1 l2_0 l2_1 = some (r1, r2, r3)) :
  Calls Try.prog 17 #[.agg #[.int .i64 a0_0, .bool a0_1], .agg #[.slice A1_0 l1_0.length c1_0, .slice A1_1 l1_1.length c1_1], .agg #[.slice A2_0 l2_0.length c2_0, .slice A2_1 l2_1.length c2_1]] w fun e w' => ∃ v0_ v1_ : Value, e = .returned (.tuple #[.agg #[v0_, v1_], .int .i64 r3]) ∧ Kd.R (Kd.int .i64) 3 w' w.heap.size (fun _ => True) v0_ r1 ∧ Kd.R k43 43 w' w.heap.size (fun k_ => some k_ ≠ (v0_ : Value).ownBlock) v1_ r2 ∧ Below w.heap.size w w' := by
 have hu_a := Try.underlying25
 have hu_f := Try.underlying32
 have HR1 := Aside0.mk (And.intro (And.intro hr1_0 hc1_0) (And.intro hr1_1 hc1_1)); have HR2 := Aside0.mk (And.intro (And.intro hr2_0 hc2_0) (And.intro hr2_1 hc2_1)); clear hr1_0 hc1_0 hr1_1 hc1_1 hr2_0 hc2_0 hr2_1 hc2_1
 have HS := Aside0.mk (BxS.four w #[.int .i64 a0_0, .bool a0_1] 32 #[.slice A1_0 l1_0.length c1_0, .slice A1_1 l1_1.length c1_1] 25 #[.slice A2_0 l2_0.length c2_0, .slice A2_1 l2_1.length c2_1] 25 #[.slice none 0 0, .slice none 0 0] 25)
 unfold fold_Outer.f at h
 obtain ⟨e0, q0, h⟩ := Option.bind_eq_some_iff.1 h; have Q0 := Aside0.mk q0; clear q0
 go_enter Try.func17, Try.ntmps17
 go_upto_region 1 with (fail)
 generalize (((w.alloc (.cells #[.int .i64 a0_0, .bool a0_1] 32)).alloc (.cells #[.slice A1_0 l1_0.length c1_0, .slice A1_1 l1_1.length c1_1] 25)).alloc (.cells #[.slice A2_0 l2_0.length c2_0, .slice A2_1 l2_1.length c2_1] 25)).alloc (.cells #[.slice none 0 0, .slice none 0 0] 25) = W at HS ⊢
 have x0 : W.cell? ⟨w.heap.size, 0, none⟩ = some (.int .i64 a0_0) := (blk_cell (HS.out.at_ 3 rfl) 0).trans rfl; have x1 : W.cell? ⟨w.heap.size, 1, none⟩ = some (.bool a0_1) := (blk_cell (HS.out.at_ 3 rfl) 1).trans rfl; have y0 : W.cell? ⟨w.heap.size + 1, 0, none⟩ = some (.slice A1_0 l1_0.length c1_0) := (blk_cell (HS.out.at_ 2 rfl) 0).trans rfl; have y1 : W.cell? ⟨w.heap.size + 1, 1, none⟩ = some (.slice A1_1 l1_1.length c1_1) := (blk_cell (HS.out.at_ 2 rfl) 1).trans rfl; have u0 : W.cell? ⟨w.heap.size + 1 + 1, 0, none⟩ = some (.slice A2_0 l2_0.length c2_0) := (blk_cell (HS.out.at_ 1 rfl) 0).trans rfl; have u1 : W.cell? ⟨w.heap.size + 1 + 1, 1, none⟩ = some (.slice A2_1 l2_1.length c2_1) := (blk_cell (HS.out.at_ 1 rfl) 1).trans rfl; have z0 : W.cell? ⟨w.heap.size + 1 + 1 + 1, 0, none⟩ = some (.slice none 0 0) := (blk_cell (HS.out.at_ 0 rfl) 0).trans rfl; have z1 : W.cell? ⟨w.heap.size + 1 + 1 + 1, 1, none⟩ = some (.slice none 0 0) := (blk_cell (HS.out.at_ 0 rfl) 1).trans rfl; have f0 := blk_frozen (HS.out.at_ 0 rfl) 0; have f1 := blk_frozen (HS.out.at_ 0 rfl) 1
 go_upto_region 2 with (go_at_call 25; refine (fold_F_checked.calls k a0_0 a0_1 _ 2 [(⟨l1_0, l1_1⟩ : S25), ⟨l2_0, l2_1⟩] e0 _ (fo_C2 (blk_new W _) HR1.out.1.2 (Kd.C_alloc (Kd.C_below HR1.out.1.1 HS.out.bel) _) HR1.out.2.2 (Kd.C_alloc (Kd.C_below HR1.out.2.1 HS.out.bel) _) HR2.out.1.2 (Kd.C_alloc (Kd.C_below HR2.out.1.1 HS.out.bel) _) HR2.out.2.2 (Kd.C_alloc (Kd.C_below HR2.out.2.1 HS.out.bel) _)) (Nat.le_refl 2) Q0.out).mono ?_; rintro e w1 ⟨rfl, hb⟩; have HS := Aside0.mk (HS.out.step (hf_ac hb)); (try clear x0 x1 y0 y1 z0 z1 u0 u1 f0 f1); have x0 : w1.cell? ⟨w.heap.size, 0, none⟩ = some (.int .i64 a0_0) := (blk_cell (HS.out.at_ 3 rfl) 0).trans rfl; have x1 : w1.cell? ⟨w.heap.size, 1, none⟩ = some (.bool a0_1) := (blk_cell (HS.out.at_ 3 rfl) 1).trans rfl; have y0 : w1.cell? ⟨w.heap.size + 1, 0, none⟩ = some (.slice A1_0 l1_0.length c1_0) := (blk_cell (HS.out.at_ 2 rfl) 0).trans rfl; have y1 : w1.cell? ⟨w.heap.size + 1, 1, none⟩ = some (.slice A1_1 l1_1.length c1_1) := (blk_cell (HS.out.at_ 2 rfl) 1).trans rfl; have u0 : w1.cell? ⟨w.heap.size + 1 + 1, 0, none⟩ = some (.slice A2_0 l2_0.length c2_0) := (blk_cell (HS.out.at_ 1 rfl) 0).trans rfl; have u1 : w1.cell? ⟨w.heap.size + 1 + 1, 1, none⟩ = some (.slice A2_1 l2_1.length c2_1) := (blk_cell (HS.out.at_ 1 rfl) 1).trans rfl; have z0 : w1.cell? ⟨w.heap.size + 1 + 1 + 1, 0, none⟩ = some (.slice none 0 0) := (blk_cell (HS.out.at_ 0 rfl) 0).trans rfl; have z1 : w1.cell? ⟨w.heap.size + 1 + 1 + 1, 1, none⟩ = some (.slice none 0 0) := (blk_cell (HS.out.at_ 0 rfl) 1).trans rfl; have f0 := blk_frozen (HS.out.at_ 0 rfl) 0; have f1 := blk_frozen (HS.out.at_ 0 rfl) 1; clear hb)
 by_cases ce : e0 = 0
 rotate_left
 ·rw [if_neg ce] at h
  simp only [Option.some.injEq, Prod.mk.injEq] at h; obtain ⟨rfl, rfl, rfl⟩ := h
  have ceb : (e0 != 0) = true := bne_iff_ne.2 ce; clear ce
  go_wp2_with (fail)
  all_goals (refine bodyPost_ret (results_ct rfl _ _ (w.heap.size + 1 + 1 + 1) 25 #[.slice none 0 0, .slice none 0 0] (0, 0) _ rfl (hf_z2 (HS.out.at_ 0 rfl) _ _) Try.underlying25 rfl (by kernel_rfl)) rfl ?_; exact ⟨_, _, rfl, Kd.R_nil _ _ _ _ _, Kd.R_nil _ _ _ _ _, below_set (below_set HS.out.bel (HS.out.fr _ (List.mem_of_getElem? (i := 0) rfl))) (HS.out.fr _ (List.mem_of_getElem? (i := 0) rfl))⟩)
 rw [if_pos ce] at h; subst ce
 by_cases cl : l1_0.length + l2_0.length < 17592186044416
 rotate_left
 ·rw [if_neg cl] at h; cases h
 rw [if_pos cl] at h; have CL := Aside0.mk cl; have H := Aside0.mk h; clear h
 have HCF := Aside0.mk (show slices_Clone_int_int.f l1_0 = some l1_0 from if_pos (by omega)); clear cl
 go_upto_region 4 with (fail)
 refine start_ (n := 9) (S := fun W' => Below w1.drew.heap.size w1.drew W') (ds := []) #[false, false, false, false, false, false, false, false, false] (by kernel_rfl) rfl rfl (Below.refl _ _) (fun hHeld => ?_)
 refine with_tabW fold_Outer.tab4 fold_Outer.bits4 (fun HT_ HW_ => ?_)
 have HS := Aside0.mk (HS.out.step (below_drew (Below.refl _ _))); (try clear x0 x1 y0 y1 z0 z1 u0 u1 f0 f1); generalize w1.drew = Wr at HS hHeld ⊢
 refine pure_ (i := 0) (N := some 27) (v := ?_) (a' := ?_) #[true, false, false, false, false, false, false, false, false] rfl rfl (any_of HT_.out (by kernel_rfl)) (fun _ _ _ h => h) (Or.inl ⟨by rfl, ?_⟩) ?_ ?_; rotate_left
 ·intro w'; go_simp; with_reducible rfl
 rotate_left
 ·simp only [Act.put, List.setIfInBounds_toArray, List.set_cons_zero, List.set_cons_succ, i64_w, i32_w]; rfl
 refine take_ (i := 1) (N := some 28) (v := ?_) (a' := ?_) #[true, true, false, false, false, false, false, false, false] rfl rfl (take_ofW HT_.out HW_.out (by kernel_rfl)) (fun _ _ _ h => h) (Or.inl ⟨by rfl, ?_⟩) hHeld ?_ ?_; rotate_left
 ·intro w' s0; have y0 : w'.cell? ⟨w.heap.size + 1, 0, none⟩ = some (.slice A1_0 l1_0.length c1_0) := (blk_cell ((HS.out.step s0).at_ 2 rfl) 0).trans rfl; have y1 : w'.cell? ⟨w.heap.size + 1, 1, none⟩ = some (.slice A1_1 l1_1.length c1_1) := (blk_cell ((HS.out.step s0).at_ 2 rfl) 1).trans rfl; go_simp; with_reducible rfl
 rotate_left
 ·simp only [Act.put, List.setIfInBounds_toArray, List.set_cons_zero, List.set_cons_succ, i64_w, i32_w]; rfl
 refine pure_ (i := 3) (N := some 30) (v := ?_) (a' := ?_) #[true, true, false, true, false, false, false, false, false] rfl rfl (any_of HT_.out (by kernel_rfl)) (fun _ _ _ h => h) (Or.inl ⟨by rfl, ?_⟩) ?_ ?_; rotate_left
 ·intro w'; go_simp; with_reducible rfl
 rotate_left
 ·simp only [Act.put, List.setIfInBounds_toArray, List.set_cons_zero, List.set_cons_succ, i64_w, i32_w]; rfl
 refine take_ (i := 4) (N := some 31) (v := ?_) (a' := ?_) #[true, true, false, true, true, false, false, false, false] rfl rfl (take_ofW HT_.out HW_.out (by kernel_rfl)) (fun _ _ _ h => h) (Or.inl ⟨by rfl, ?_⟩) hHeld ?_ ?_; rotate_left
 ·intro w' s0; have u0 : w'.cell? ⟨w.heap.size + 1 + 1, 0, none⟩ = some (.slice A2_0 l2_0.length c2_0) := (blk_cell ((HS.out.step s0).at_ 1 rfl) 0).trans rfl; have u1 : w'.cell? ⟨w.heap.size + 1 + 1, 1, none⟩ = some (.slice A2_1 l2_1.length c2_1) := (blk_cell ((HS.out.step s0).at_ 1 rfl) 1).trans rfl; go_simp; with_reducible rfl
 rotate_left
 ·simp only [Act.put, List.setIfInBounds_toArray, List.set_cons_zero, List.set_cons_succ, i64_w, i32_w]; rfl
 refine join_ (σ := Value × Option Addr × Nat × Nat) 1 #[true, true, true, true, true, true, true, true, false] (fun s_ => [(29, s_.1), (32, .slice s_.2.1 (l1_0.length + l2_0.length) s_.2.2.1), (33, .agg #[.slice s_.2.1 (l1_0.length + l2_0.length) s_.2.2.1, .slice none 0 0]), (9, .pointer (some ⟨s_.2.2.2, 0, none⟩))]) (fun s_ w' => Below Wr.heap.size Wr w' ∧ Kd.R (Kd.int .i64) 3 w' Wr.heap.size (fun _ => True) (.slice s_.2.1 (l1_0.length + l2_0.length) s_.2.2.1) (l1_0 ++ l2_0) ∧ w'.heap[s_.2.2.2]? = some (.cells #[.slice none 0 0, .slice none 0 0] 25 (0, 0)) ∧ Wr.heap.size ≤ s_.2.2.2) ?_ ?_; rotate_left
 ·intro hCont
  refine two_ (i := 2) (j := 7) (Ni := some 29) (Nj := some 9) #[true, true, true, true, true, false, false, false, false] #[true, true, false, true, true, false, false, true, false] rfl rfl rfl rfl (two_of HT_.out (by kernel_rfl)) (by decide) (by decide) (fun K hK => ?_) (fun K hK => ?_)
  ·skip
   refine goes_ Try.func29 (by kernel_rfl) rfl #[.slice A1_0 l1_0.length c1_0] (by rfl) rfl rfl (by first | rfl | (simp only [List.map_toArray, List.map_cons, List.map_nil]; rfl)) ?_
   refine (slices_Clone_int_int.calls _ _ l1_0 l1_0 _ (Kd.C_below HR1.out.1.1 ((HS.out.step hHeld).bel)) HR1.out.1.2 HCF.out).mono ?_; rintro e w3 ⟨v3, rfl, hR, hb⟩; refine ⟨_, rfl, ?_⟩; have HC := Aside0.mk (Kd.R_lower hR hHeld.size); clear hR
   have hHeld := hHeld.trans (hb.mono hHeld.size)
   refine hK.out _ _ hHeld (fun hHeld => ?_); clear hK K hb
   refine norm_ (a' := ?_) ?_ ?_; rotate_left
   ·show Act.put _ (some 29) _ = _
    simp only [Act.put, List.setIfInBounds_toArray, List.set_cons_zero, List.set_cons_succ, i64_w, i32_w]; rfl
   refine two_ (i := 5) (j := 7) (Ni := some 32) (Nj := some 9) #[true, true, true, true, true, true, false, false, false] #[true, true, true, true, true, false, false, true, false] rfl rfl rfl rfl (two_of HT_.out (by kernel_rfl)) (by decide) (by decide) (fun K hK => ?_) (fun K hK => ?_)
   ·skip
    refine Kd.R_append_rows_step (Kd.int .i64) (w0 := Wr) Wr.heap.size (by rfl) (.tmp 29) (.tmp 31) 22 3 (.int .i64 0) 8 rfl Try.underlying22 info3 rfl (by decide) (by omega) v3 l1_0 l2_0 _ _ _ (fun _ => True) (fun _ => False) rfl rfl HC.out (Kd.C_below HR2.out.1.1 ((HS.out.step hHeld).bel)) (fun _ _ h => h) (fun _ h => h.elim) (fun _ _ => trivial) hHeld hHeld.size (by have := CL.out; omega) ?_; intro v4 w4 hR4 hb4 hg4 _; obtain ⟨A4, c4, hv⟩ := Kd.R_slice hR4; rw [List.length_append] at hv; subst hv
    have HD := Aside0.mk hR4; have hHeld := hb4; clear hR4 hg4 HC
    refine hK.out _ _ hHeld (fun hHeld => ?_); clear hK K hb4
    refine norm_ (a' := ?_) ?_ ?_; rotate_left
    ·show Act.put _ (some 32) _ = _
     simp only [Act.put, List.setIfInBounds_toArray, List.set_cons_zero, List.set_cons_succ, i64_w, i32_w]; rfl
    refine pure_ (i := 6) (N := some 33) (v := ?_) (a' := ?_) #[true, true, true, true, true, true, true, false, false] rfl rfl (any_of HT_.out (by kernel_rfl)) (fun _ _ _ h => h) (Or.inl ⟨by rfl, ?_⟩) ?_ ?_; rotate_left
    ·intro w'; go_simp; with_reducible rfl
    rotate_left
    ·simp only [Act.put, List.setIfInBounds_toArray, List.set_cons_zero, List.set_cons_succ, i64_w, i32_w]; rfl
    refine one_ (i := 7) (N := some 9) #[true, true, true, true, true, true, true, true, false] rfl rfl (one_of HT_.out (by kernel_rfl)) (by decide) (fun K hK => ?_)
    refine box_step ?hg (N := 9) ?hd (cs := #[.slice none 0 0, .slice none 0 0]) (t := 25) ?hr ?_; (case hd => rfl); (case hg => rfl); (case hr => first | (go_simp; done) | (go_simp; rfl))
    intro g hg w8 hbox hb
    have HD := Aside0.mk (Kd.R_below HD.out hb)
    have HG := Aside0.mk hbox; have HL := Aside0.mk (Nat.le_trans hHeld.size (Nat.le_of_eq hg.symm))
    have hHeld := hHeld.trans (hb.mono hHeld.size)
    refine hK.out _ _ hHeld (fun hHeld => ?_); clear hK K hb hbox hg
    refine norm_ (a' := ?_) ?_ ?_; rotate_left
    ·show Act.put _ (some 9) _ = _
     simp only [Act.put, List.setIfInBounds_toArray, List.set_cons_zero, List.set_cons_succ, i64_w, i32_w]; rfl
    exact norm_ (by simp only [putAll, Act.put, List.setIfInBounds_toArray, List.set_cons_zero, List.set_cons_succ]) (hCont (v3, A4, c4, g) _ ⟨hHeld, HD.out, HG.out, HL.out⟩)
   ·skip
    refine box_step ?hg (N := 9) ?hd (cs := #[.slice none 0 0, .slice none 0 0]) (t := 25) ?hr ?_; (case hd => rfl); (case hg => rfl); (case hr => first | (go_simp; done) | (go_simp; rfl))
    intro g hg w8 hbox hb
    have HC := Aside0.mk (Kd.R_below HC.out hb)
    have HG := Aside0.mk hbox; have HL := Aside0.mk (Nat.le_trans hHeld.size (Nat.le_of_eq hg.symm))
    have hHeld := hHeld.trans (hb.mono hHeld.size)
    refine hK.out _ _ hHeld (fun hHeld => ?_); clear hK K hb hbox hg
    refine norm_ (a' := ?_) ?_ ?_; rotate_left
    ·show Act.put _ (some 9) _ = _
     simp only [Act.put, List.setIfInBounds_toArray, List.set_cons_zero, List.set_cons_succ, i64_w, i32_w]; rfl
    refine one_ (i := 5) (N := some 32) #[true, true, true, true, true, true, false, true, false] rfl rfl (one_of HT_.out (by kernel_rfl)) (by decide) (fun K hK => ?_)
    refine Kd.R_append_rows_step (Kd.int .i64) (w0 := Wr) Wr.heap.size (by rfl) (.tmp 29) (.tmp 31) 22 3 (.int .i64 0) 8 rfl Try.underlying22 info3 rfl (by decide) (by omega) v3 l1_0 l2_0 _ _ _ (fun _ => True) (fun _ => False) rfl rfl HC.out (Kd.C_below HR2.out.1.1 ((HS.out.step hHeld).bel)) (fun _ _ h => h) (fun _ h => h.elim) (fun _ _ => trivial) hHeld hHeld.size (by have := CL.out; omega) ?_; intro v4 w4 hR4 hb4 hg4 _; obtain ⟨A4, c4, hv⟩ := Kd.R_slice hR4; rw [List.length_append] at hv; subst hv
    have HG := Aside0.mk (blk_grown HG.out hg4 (Kd.R_ne HC.out HG.out (by decide)))
    have HD := Aside0.mk hR4; have hHeld := hb4; clear hR4 hg4 HC
    refine hK.out _ _ hHeld (fun hHeld => ?_); clear hK K hb4
    refine norm_ (a' := ?_) ?_ ?_; rotate_left
    ·show Act.put _ (some 32) _ = _
     simp only [Act.put, List.setIfInBounds_toArray, List.set_cons_zero, List.set_cons_succ, i64_w, i32_w]; rfl
    refine pure_ (i := 6) (N := some 33) (v := ?_) (a' := ?_) #[true, true, true, true, true, true, true, true, false] rfl rfl (any_of HT_.out (by kernel_rfl)) (fun _ _ _ h => h) (Or.inl ⟨by rfl, ?_⟩) ?_ ?_; rotate_left
    ·intro w'; go_simp; with_reducible rfl
    rotate_left
    ·simp only [Act.put, List.setIfInBounds_toArray, List.set_cons_zero, List.set_cons_succ, i64_w, i32_w]; rfl
    exact norm_ (by simp only [putAll, Act.put, List.setIfInBounds_toArray, List.set_cons_zero, List.set_cons_succ]) (hCont (v3, A4, c4, g) _ ⟨hHeld, HD.out, HG.out, HL.out⟩)
  ·skip
   refine box_step ?hg (N := 9) ?hd (cs := #[.slice none 0 0, .slice none 0 0]) (t := 25) ?hr ?_; (case hd => rfl); (case hg => rfl); (case hr => first | (go_simp; done) | (go_simp; rfl))
   intro g hg w8 hbox hb
   have HG := Aside0.mk hbox; have HL := Aside0.mk (Nat.le_trans hHeld.size (Nat.le_of_eq hg.symm))
   have hHeld := hHeld.trans (hb.mono hHeld.size)
   refine hK.out _ _ hHeld (fun hHeld => ?_); clear hK K hb hbox hg
   refine norm_ (a' := ?_) ?_ ?_; rotate_left
   ·show Act.put _ (some 9) _ = _
    simp only [Act.put, List.setIfInBounds_toArray, List.set_cons_zero, List.set_cons_succ, i64_w, i32_w]; rfl
   refine one_ (i := 2) (N := some 29) #[true, true, true, true, true, false, false, true, false] rfl rfl (one_of HT_.out (by kernel_rfl)) (by decide) (fun K hK => ?_)
   refine goes_ Try.func29 (by kernel_rfl) rfl #[.slice A1_0 l1_0.length c1_0] (by rfl) rfl rfl (by first | rfl | (simp only [List.map_toArray, List.map_cons, List.map_nil]; rfl)) ?_
   refine (slices_Clone_int_int.calls _ _ l1_0 l1_0 _ (Kd.C_below HR1.out.1.1 ((HS.out.step hHeld).bel)) HR1.out.1.2 HCF.out).mono ?_; rintro e w3 ⟨v3, rfl, hR, hb⟩; refine ⟨_, rfl, ?_⟩; have HC := Aside0.mk (Kd.R_lower hR hHeld.size); clear hR
   have HG := Aside0.mk (blk_below HG.out hb)
   have hHeld := hHeld.trans (hb.mono hHeld.size)
   refine hK.out _ _ hHeld (fun hHeld => ?_); clear hK K hb
   refine norm_ (a' := ?_) ?_ ?_; rotate_left
   ·show Act.put _ (some 29) _ = _
    simp only [Act.put, List.setIfInBounds_toArray, List.set_cons_zero, List.set_cons_succ, i64_w, i32_w]; rfl
   refine one_ (i := 5) (N := some 32) #[true, true, true, true, true, true, false, true, false] rfl rfl (one_of HT_.out (by kernel_rfl)) (by decide) (fun K hK => ?_)
   refine Kd.R_append_rows_step (Kd.int .i64) (w0 := Wr) Wr.heap.size (by rfl) (.tmp 29) (.tmp 31) 22 3 (.int .i64 0) 8 rfl Try.underlying22 info3 rfl (by decide) (by omega) v3 l1_0 l2_0 _ _ _ (fun _ => True) (fun _ => False) rfl rfl HC.out (Kd.C_below HR2.out.1.1 ((HS.out.step hHeld).bel)) (fun _ _ h => h) (fun _ h => h.elim) (fun _ _ => trivial) hHeld hHeld.size (by have := CL.out; omega) ?_; intro v4 w4 hR4 hb4 hg4 _; obtain ⟨A4, c4, hv⟩ := Kd.R_slice hR4; rw [List.length_append] at hv; subst hv
   have HG := Aside0.mk (blk_grown HG.out hg4 (Kd.R_ne HC.out HG.out (by decide)))
   have HD := Aside0.mk hR4; have hHeld := hb4; clear hR4 hg4 HC
   refine hK.out _ _ hHeld (fun hHeld => ?_); clear hK K hb4
   refine norm_ (a' := ?_) ?_ ?_; rotate_left
   ·show Act.put _ (some 32) _ = _
    simp only [Act.put, List.setIfInBounds_toArray, List.set_cons_zero, List.set_cons_succ, i64_w, i32_w]; rfl
   refine pure_ (i := 6) (N := some 33) (v := ?_) (a' := ?_) #[true, true, true, true, true, true, true, true, false] rfl rfl (any_of HT_.out (by kernel_rfl)) (fun _ _ _ h => h) (Or.inl ⟨by rfl, ?_⟩) ?_ ?_; rotate_left
   ·intro w'; go_simp; with_reducible rfl
   rotate_left
   ·simp only [Act.put, List.setIfInBounds_toArray, List.set_cons_zero, List.set_cons_succ, i64_w, i32_w]; rfl
   exact norm_ (by simp only [putAll, Act.put, List.setIfInBounds_toArray, List.set_cons_zero, List.set_cons_succ]) (hCont (v3, A4, c4, g) _ ⟨hHeld, HD.out, HG.out, HL.out⟩)
 rintro ⟨v3, As, cs, go⟩ W1 ⟨hHeld, hR, hgo, hgol⟩; dsimp only at hR hgo hgol
 rw [← List.length_append] at hR ⊢; generalize hz : (l1_0 ++ l2_0) = z at hR H ⊢; clear hz
 refine norm_ (a' := ?_) ?_ ?_; rotate_left
 ·simp only [putAll, Act.put, List.setIfInBounds_toArray, List.set_cons_zero, List.set_cons_succ]; rfl
 refine one_ (i := 8) (N := none) #[true, true, true, true, true, true, true, true, true] rfl rfl (one_of HT_.out (by kernel_rfl)) (by decide) (fun K hK => ?_)
 have hs0 : W1.cell? ⟨go, 0, none⟩ = some (.slice none 0 0) := (blk_cell hgo 0).trans rfl; have hz0 := blk_frozen hgo 0; have hs1 : W1.cell? ⟨go, 1, none⟩ = some (.slice none 0 0) := (blk_cell hgo 1).trans rfl; have hz1 := blk_frozen hgo 1
 refine skip_ (w1 := ?_) (by rfl) rfl ?_ ?_; rotate_left
 ·go_simp; rfl
 have HT := Aside0.mk (OutS.mk2 (HS.out.step hHeld) rfl (fun p hp => Nat.ne_of_lt (Nat.lt_of_lt_of_le (blk_lt (HS.out.blk p hp)) hgol)) hgo (Nat.le_trans HS.out.bel.size hgol) (Kd.R_lower hR HS.out.bel.size))
 have hb : Below Wr.heap.size Wr ((W1.setCell ⟨go, 0, none⟩ (.slice As z.length cs)).setCell ⟨go, 1, none⟩ (.slice none 0 0)) := below_set (below_set hHeld hgol) hgol
 clear hs0 hs1 hz0 hz1 hR hgo hgol hHeld HS
 refine hK.out _ _ hb (fun hHeld => ?_); clear hK K
 clear hHeld hb
 generalize (W1.setCell _ _).setCell _ _ = W3 at HT ⊢
 refine done_ (done_of HT_.out (by kernel_rfl)) ?_
 try clear HT_ HW_
 have o0 : W3.cell? ⟨go, 0, none⟩ = some (.slice As z.length cs) := (blk_cell HT.out.out 0).trans rfl; have o1 : W3.cell? ⟨go, 1, none⟩ = some (.slice none 0 0) := (blk_cell HT.out.out 1).trans rfl; have x0 : W3.cell? ⟨w.heap.size, 0, none⟩ = some (.int .i64 a0_0) := (blk_cell (HT.out.bx.at_ 3 rfl) 0).trans rfl; have x1 : W3.cell? ⟨w.heap.size, 1, none⟩ = some (.bool a0_1) := (blk_cell (HT.out.bx.at_ 3 rfl) 1).trans rfl; have y0 : W3.cell? ⟨w.heap.size + 1, 0, none⟩ = some (.slice A1_0 l1_0.length c1_0) := (blk_cell (HT.out.bx.at_ 2 rfl) 0).trans rfl; have y1 : W3.cell? ⟨w.heap.size + 1, 1, none⟩ = some (.slice A1_1 l1_1.length c1_1) := (blk_cell (HT.out.bx.at_ 2 rfl) 1).trans rfl; have u0 : W3.cell? ⟨w.heap.size + 1 + 1, 0, none⟩ = some (.slice A2_0 l2_0.length c2_0) := (blk_cell (HT.out.bx.at_ 1 rfl) 0).trans rfl; have u1 : W3.cell? ⟨w.heap.size + 1 + 1, 1, none⟩ = some (.slice A2_1 l2_1.length c2_1) := (blk_cell (HT.out.bx.at_ 1 rfl) 1).trans rfl; have z0 : W3.cell? ⟨w.heap.size + 1 + 1 + 1, 0, none⟩ = some (.slice none 0 0) := (blk_cell (HT.out.bx.at_ 0 rfl) 0).trans rfl; have z1 : W3.cell? ⟨w.heap.size + 1 + 1 + 1, 1, none⟩ = some (.slice none 0 0) := (blk_cell (HT.out.bx.at_ 0 rfl) 1).trans rfl; have f0 := blk_frozen (HT.out.bx.at_ 0 rfl) 0; have f1 := blk_frozen (HT.out.bx.at_ 0 rfl) 1
 have HXC := Aside0.mk (Kd.R_reads' HT.out.r0)
 have h := H.out; unfold fold_Outer.g at h; clear H
 obtain ⟨⟨n1, n2⟩, qz, h⟩ := Option.bind_eq_some_iff.1 h; have QZ := Aside0.mk qz; clear qz; dsimp only at h
 go_upto_region 6 with (go_at_call 30; (with_reducible refine (arr_Size.calls k _ _ z n1 n2 _ HXC.out.2.2 HXC.out.2.1 QZ.out).mono ?_); rintro e w4 ⟨rfl, hb⟩; have HT := Aside0.mk (HT.out.step hb.below); clear hb HXC; (try clear x0 x1 y0 y1 z0 z1 u0 u1 f0 f1 o0 o1); have o0 : w4.cell? ⟨go, 0, none⟩ = some (.slice As z.length cs) := (blk_cell HT.out.out 0).trans rfl; have o1 : w4.cell? ⟨go, 1, none⟩ = some (.slice none 0 0) := (blk_cell HT.out.out 1).trans rfl; have x0 : w4.cell? ⟨w.heap.size, 0, none⟩ = some (.int .i64 a0_0) := (blk_cell (HT.out.bx.at_ 3 rfl) 0).trans rfl; have x1 : w4.cell? ⟨w.heap.size, 1, none⟩ = some (.bool a0_1) := (blk_cell (HT.out.bx.at_ 3 rfl) 1).trans rfl; have y0 : w4.cell? ⟨w.heap.size + 1, 0, none⟩ = some (.slice A1_0 l1_0.length c1_0) := (blk_cell (HT.out.bx.at_ 2 rfl) 0).trans rfl; have y1 : w4.cell? ⟨w.heap.size + 1, 1, none⟩ = some (.slice A1_1 l1_1.length c1_1) := (blk_cell (HT.out.bx.at_ 2 rfl) 1).trans rfl; have u0 : w4.cell? ⟨w.heap.size + 1 + 1, 0, none⟩ = some (.slice A2_0 l2_0.length c2_0) := (blk_cell (HT.out.bx.at_ 1 rfl) 0).trans rfl; have u1 : w4.cell? ⟨w.heap.size + 1 + 1, 1, none⟩ = some (.slice A2_1 l2_1.length c2_1) := (blk_cell (HT.out.bx.at_ 1 rfl) 1).trans rfl; have z0 : w4.cell? ⟨w.heap.size + 1 + 1 + 1, 0, none⟩ = some (.slice none 0 0) := (blk_cell (HT.out.bx.at_ 0 rfl) 0).trans rfl; have z1 : w4.cell? ⟨w.heap.size + 1 + 1 + 1, 1, none⟩ = some (.slice none 0 0) := (blk_cell (HT.out.bx.at_ 0 rfl) 1).trans rfl; have f0 := blk_frozen (HT.out.bx.at_ 0 rfl) 0; have f1 := blk_frozen (HT.out.bx.at_ 0 rfl) 1)
 by_cases ce : n2 = 0
 rotate_left
 ·rw [if_neg ce] at h
  simp only [Option.some.injEq, Prod.mk.injEq] at h; obtain ⟨rfl, rfl, rfl⟩ := h
  have ceb : (n2 != 0) = true := bne_iff_ne.2 ce; clear ce
  go_wp2_with (fail)
  all_goals (refine bodyPost_ret (results_ct rfl _ _ (w.heap.size + 1 + 1 + 1) 25 #[.slice none 0 0, .slice none 0 0] (0, 0) _ rfl (hf_z2 (HT.out.bx.at_ 0 rfl) _ _) Try.underlying25 rfl (by kernel_rfl)) rfl ?_; exact ⟨_, _, rfl, Kd.R_nil _ _ _ _ _, Kd.R_nil _ _ _ _ _, below_set (below_set HT.out.bx.bel (HT.out.bx.fr _ (List.mem_of_getElem? (i := 0) rfl))) (HT.out.bx.fr _ (List.mem_of_getElem? (i := 0) rfl))⟩)
 rw [if_pos ce] at h; subst ce
 obtain ⟨rr, qi, h⟩ := Option.bind_eq_some_iff.1 h; have QI := Aside0.mk qi; have H := Aside0.mk h; clear qi h
 have HLN := Aside0.mk (And.intro HR1.out.2.1.2.1 HR2.out.2.1.2.1)
 go_wp2_with (fail)
 go_loopg [47] l1_1.length (fun kq v47 W' => ∃ (i : Nat) (acc : List (S43)) (v1 : Value), v47 = .int .i64 (i : Int) ∧ Aside0 (i + kq = l1_1.length) ∧ Aside0 (fold_Outer.li k a0_0 a0_1 l1_1 l2_1 kq i acc = some rr) ∧ Aside0 (OutS w W' [(w.heap.size + 1 + 1 + 1, #[.slice none 0 0, .slice none 0 0], 25), (w.heap.size + 1 + 1, #[.slice A2_0 l2_0.length c2_0, .slice A2_1 l2_1.length c2_1], 25), (w.heap.size + 1, #[.slice A1_0 l1_0.length c1_0, .slice A1_1 l1_1.length c1_1], 25), (w.heap.size, #[.int .i64 a0_0, .bool a0_1], 32)] go (.slice As z.length cs) v1 v1 z acc))
 case atStart => exact ⟨0, [], _, rfl, ⟨by omega⟩, QI, HT⟩
 case round =>
  clear QI HT o0 o1 x0 x1 y0 y1 z0 z1 u0 u1 f0 f1
  obtain ⟨i, acc, v1, rfl, HI, HQ, HT⟩ := hrel
  obtain ⟨Aq, cq, hv⟩ := Kd.R_slice HT.out.r1
  subst hv
  cases gk with
  | zero =>
   obtain rfl : ((0 : Int), acc) = rr := by have h := HQ.out; simp only [fold_Outer.li, Option.some.injEq] at h; exact h
   have h := H.out; rw [if_pos rfl] at h
   simp only [Option.some.injEq, Prod.mk.injEq] at h; obtain ⟨rfl, rfl, rfl⟩ := h
   have hn : ¬ i < l1_1.length := (by have := HI.out; omega)
   have o0 : wr.cell? ⟨go, 0, none⟩ = some (.slice As z.length cs) := (blk_cell HT.out.out 0).trans rfl; have o1 : wr.cell? ⟨go, 1, none⟩ = some (.slice Aq acc.length cq) := (blk_cell HT.out.out 1).trans rfl; have x0 : wr.cell? ⟨w.heap.size, 0, none⟩ = some (.int .i64 a0_0) := (blk_cell (HT.out.bx.at_ 3 rfl) 0).trans rfl; have x1 : wr.cell? ⟨w.heap.size, 1, none⟩ = some (.bool a0_1) := (blk_cell (HT.out.bx.at_ 3 rfl) 1).trans rfl; have y0 : wr.cell? ⟨w.heap.size + 1, 0, none⟩ = some (.slice A1_0 l1_0.length c1_0) := (blk_cell (HT.out.bx.at_ 2 rfl) 0).trans rfl; have y1 : wr.cell? ⟨w.heap.size + 1, 1, none⟩ = some (.slice A1_1 l1_1.length c1_1) := (blk_cell (HT.out.bx.at_ 2 rfl) 1).trans rfl; have u0 : wr.cell? ⟨w.heap.size + 1 + 1, 0, none⟩ = some (.slice A2_0 l2_0.length c2_0) := (blk_cell (HT.out.bx.at_ 1 rfl) 0).trans rfl; have u1 : wr.cell? ⟨w.heap.size + 1 + 1, 1, none⟩ = some (.slice A2_1 l2_1.length c2_1) := (blk_cell (HT.out.bx.at_ 1 rfl) 1).trans rfl; have z0 : wr.cell? ⟨w.heap.size + 1 + 1 + 1, 0, none⟩ = some (.slice none 0 0) := (blk_cell (HT.out.bx.at_ 0 rfl) 0).trans rfl; have z1 : wr.cell? ⟨w.heap.size + 1 + 1 + 1, 1, none⟩ = some (.slice none 0 0) := (blk_cell (HT.out.bx.at_ 0 rfl) 1).trans rfl; have f0 := blk_frozen (HT.out.bx.at_ 0 rfl) 0; have f1 := blk_frozen (HT.out.bx.at_ 0 rfl) 1
   go_wp2_with (fail)
   refine bodyPost_ret (results_ct rfl _ _ (w.heap.size + 1 + 1 + 1) 25 #[.slice As z.length cs, .slice Aq acc.length cq] (0, 0) _ rfl (hf_z2 (HT.out.bx.at_ 0 rfl) _ _) Try.underlying25 rfl (by kernel_rfl)) rfl ?_; exact ⟨_, _, rfl, HT.out.ret (List.mem_of_getElem? (i := 0) rfl)⟩
  | succ m0 =>
   have h := HQ.out; rw [fold_Outer.li] at h; obtain ⟨rj, qj, h⟩ := Option.bind_eq_some_iff.1 h; have QJ := Aside0.mk qj; have HQ := Aside0.mk h; clear qj h
   have hn : i < l1_1.length := (by have := HI.out; omega)
   have HWI : Aside0 (wrap64 ((i : Int) + 1) = ((i + 1 : Nat) : Int)) := ⟨by have := HI.out; have := HLN.out.1; unfold wrap64; omega⟩
   obtain ⟨adp, Ep, ep, eap, xp0, xp1, xp2, xlp, xcp⟩ := at_T43 HR1.out.2.1 (i : Int) (by omega) (by omega)
   subst eap
   rw [Int.toNat_natCast] at xp0 xp1 xp2
   generalize rd_T43 l1_1 (i : Int) = px at xp0 xp1 xp2 xlp xcp QJ
   have XCp := Aside0.mk (And.intro xcp xlp)
   have yp0 := (HT.out.bx.bel.cell (World.block_lt_of_cell? w _ xp0)).trans xp0; have yp1 := (HT.out.bx.bel.cell (World.block_lt_of_cell? w _ xp1)).trans xp1; have yp2 := (HT.out.bx.bel.cell (World.block_lt_of_cell? w _ xp2)).trans xp2; clear xp0 xp1 xp2 xlp xcp
   have hi0 : (0 : Int) ≤ (i : Int) := (by omega); have hi1 : (i : Int) < (l1_1.length : Int) := (by omega)
   have o0 : wr.cell? ⟨go, 0, none⟩ = some (.slice As z.length cs) := (blk_cell HT.out.out 0).trans rfl; have o1 : wr.cell? ⟨go, 1, none⟩ = some (.slice Aq acc.length cq) := (blk_cell HT.out.out 1).trans rfl; have x0 : wr.cell? ⟨w.heap.size, 0, none⟩ = some (.int .i64 a0_0) := (blk_cell (HT.out.bx.at_ 3 rfl) 0).trans rfl; have x1 : wr.cell? ⟨w.heap.size, 1, none⟩ = some (.bool a0_1) := (blk_cell (HT.out.bx.at_ 3 rfl) 1).trans rfl; have y0 : wr.cell? ⟨w.heap.size + 1, 0, none⟩ = some (.slice A1_0 l1_0.length c1_0) := (blk_cell (HT.out.bx.at_ 2 rfl) 0).trans rfl; have y1 : wr.cell? ⟨w.heap.size + 1, 1, none⟩ = some (.slice (some adp) l1_1.length c1_1) := (blk_cell (HT.out.bx.at_ 2 rfl) 1).trans rfl; have u0 : wr.cell? ⟨w.heap.size + 1 + 1, 0, none⟩ = some (.slice A2_0 l2_0.length c2_0) := (blk_cell (HT.out.bx.at_ 1 rfl) 0).trans rfl; have u1 : wr.cell? ⟨w.heap.size + 1 + 1, 1, none⟩ = some (.slice A2_1 l2_1.length c2_1) := (blk_cell (HT.out.bx.at_ 1 rfl) 1).trans rfl; have z0 : wr.cell? ⟨w.heap.size + 1 + 1 + 1, 0, none⟩ = some (.slice none 0 0) := (blk_cell (HT.out.bx.at_ 0 rfl) 0).trans rfl; have z1 : wr.cell? ⟨w.heap.size + 1 + 1 + 1, 1, none⟩ = some (.slice none 0 0) := (blk_cell (HT.out.bx.at_ 0 rfl) 1).trans rfl; have f0 := blk_frozen (HT.out.bx.at_ 0 rfl) 0; have f1 := blk_frozen (HT.out.bx.at_ 0 rfl) 1
   go_upto_region 11 with (fail)
   have HT := Aside0.mk (HT.out.more #[.int .i64 px.f0, .int .i64 px.f1, .slice Ep px.f2.length ep] 43); clear yp0 yp1 yp2 hi0 hi1; (try clear x0 x1 y0 y1 z0 z1 u0 u1 f0 f1 o0 o1)
   generalize wr.alloc (.cells #[.int .i64 px.f0, .int .i64 px.f1, .slice Ep px.f2.length ep] 43) = W5 at HT ⊢; generalize wr.heap.size = gx at HT ⊢
   have o0 : W5.cell? ⟨go, 0, none⟩ = some (.slice As z.length cs) := (blk_cell HT.out.out 0).trans rfl; have o1 : W5.cell? ⟨go, 1, none⟩ = some (.slice Aq acc.length cq) := (blk_cell HT.out.out 1).trans rfl; have x0 : W5.cell? ⟨w.heap.size, 0, none⟩ = some (.int .i64 a0_0) := (blk_cell (HT.out.bx.at_ 4 rfl) 0).trans rfl; have x1 : W5.cell? ⟨w.heap.size, 1, none⟩ = some (.bool a0_1) := (blk_cell (HT.out.bx.at_ 4 rfl) 1).trans rfl; have y0 : W5.cell? ⟨w.heap.size + 1, 0, none⟩ = some (.slice A1_0 l1_0.length c1_0) := (blk_cell (HT.out.bx.at_ 3 rfl) 0).trans rfl; have y1 : W5.cell? ⟨w.heap.size + 1, 1, none⟩ = some (.slice (some adp) l1_1.length c1_1) := (blk_cell (HT.out.bx.at_ 3 rfl) 1).trans rfl; have u0 : W5.cell? ⟨w.heap.size + 1 + 1, 0, none⟩ = some (.slice A2_0 l2_0.length c2_0) := (blk_cell (HT.out.bx.at_ 2 rfl) 0).trans rfl; have u1 : W5.cell? ⟨w.heap.size + 1 + 1, 1, none⟩ = some (.slice A2_1 l2_1.length c2_1) := (blk_cell (HT.out.bx.at_ 2 rfl) 1).trans rfl; have z0 : W5.cell? ⟨w.heap.size + 1 + 1 + 1, 0, none⟩ = some (.slice none 0 0) := (blk_cell (HT.out.bx.at_ 1 rfl) 0).trans rfl; have z1 : W5.cell? ⟨w.heap.size + 1 + 1 + 1, 1, none⟩ = some (.slice none 0 0) := (blk_cell (HT.out.bx.at_ 1 rfl) 1).trans rfl; have f0 := blk_frozen (HT.out.bx.at_ 1 rfl) 0; have f1 := blk_frozen (HT.out.bx.at_ 1 rfl) 1
   go_wp2_with (fail)
   go_loopg [54] l2_1.length (fun kq v54 W' => ∃ (j : Nat) (acc : List (S43)) (v1 : Value), v54 = .int .i64 (j : Int) ∧ Aside0 (j + kq = l2_1.length) ∧ Aside0 (fold_Outer.lj k a0_0 a0_1 px l2_1 kq j acc = some rj) ∧ Aside0 (OutS w W' ((gx, #[.int .i64 px.f0, .int .i64 px.f1, .slice Ep px.f2.length ep], 43) :: [(w.heap.size + 1 + 1 + 1, #[.slice none 0 0, .slice none 0 0], 25), (w.heap.size + 1 + 1, #[.slice A2_0 l2_0.length c2_0, .slice A2_1 l2_1.length c2_1], 25), (w.heap.size + 1, #[.slice A1_0 l1_0.length c1_0, .slice (some adp) l1_1.length c1_1], 25), (w.heap.size, #[.int .i64 a0_0, .bool a0_1], 32)]) go (.slice As z.length cs) v1 v1 z acc))
   case atStart => exact ⟨0, acc, _, rfl, ⟨by omega⟩, QJ, HT⟩
   case round =>
    clear QJ HT o0 o1 x0 x1 y0 y1 z0 z1 u0 u1 f0 f1
    obtain ⟨j, acc, v1, rfl, HJ, QJ, HT⟩ := hrel
    obtain ⟨Aq, cq, hv⟩ := Kd.R_slice HT.out.r1
    subst hv
    cases gk with
    | zero =>
     obtain rfl : ((0 : Int), acc) = rj := by have h := QJ.out; simp only [fold_Outer.lj, Option.some.injEq] at h; exact h
     have h := HQ.out; rw [if_pos rfl] at h; have HQ := Aside0.mk h; clear h
     have hnj : ¬ j < l2_1.length := (by have := HJ.out; omega)
     go_wp2_with (fail)
     go_roundg m0; (case measure => omega)
     case rel => exact ⟨i + 1, acc, _, congrArg (Value.int .i64) HWI.out, ⟨by have := HI.out; omega⟩, HQ, ⟨HT.out.less⟩⟩
    | succ q0 =>
     have h := QJ.out; rw [fold_Outer.lj] at h; have QJ := Aside0.mk h; clear h
     have hnj : j < l2_1.length := (by have := HJ.out; omega)
     have HWJ : Aside0 (wrap64 ((j : Int) + 1) = ((j + 1 : Nat) : Int)) := ⟨by have := HJ.out; have := HLN.out.2; unfold wrap64; omega⟩
     obtain ⟨adq, Eq, eq, eaq, xq0, xq1, xq2, xlq, xcq⟩ := at_T43 HR2.out.2.1 (j : Int) (by omega) (by omega)
     subst eaq
     rw [Int.toNat_natCast] at xq0 xq1 xq2
     generalize rd_T43 l2_1 (j : Int) = py at xq0 xq1 xq2 xlq xcq QJ
     have XCq := Aside0.mk (And.intro xcq xlq)
     have yq0 := (HT.out.bx.bel.cell (World.block_lt_of_cell? w _ xq0)).trans xq0; have yq1 := (HT.out.bx.bel.cell (World.block_lt_of_cell? w _ xq1)).trans xq1; have yq2 := (HT.out.bx.bel.cell (World.block_lt_of_cell? w _ xq2)).trans xq2; clear xq0 xq1 xq2 xlq xcq
     have hj0 : (0 : Int) ≤ (j : Int) := (by omega); have hj1 : (j : Int) < (l2_1.length : Int) := (by omega)
     obtain ⟨⟨b1, b2, b3, b4⟩, qb, h⟩ := Option.bind_eq_some_iff.1 QJ.out; have QB := Aside0.mk qb; clear qb QJ; dsimp only at h; have H5 := Aside0.mk h; clear h
     have o0 : wr.cell? ⟨go, 0, none⟩ = some (.slice As z.length cs) := (blk_cell HT.out.out 0).trans rfl; have o1 : wr.cell? ⟨go, 1, none⟩ = some (.slice Aq acc.length cq) := (blk_cell HT.out.out 1).trans rfl; have x0 : wr.cell? ⟨w.heap.size, 0, none⟩ = some (.int .i64 a0_0) := (blk_cell (HT.out.bx.at_ 4 rfl) 0).trans rfl; have x1 : wr.cell? ⟨w.heap.size, 1, none⟩ = some (.bool a0_1) := (blk_cell (HT.out.bx.at_ 4 rfl) 1).trans rfl; have y0 : wr.cell? ⟨w.heap.size + 1, 0, none⟩ = some (.slice A1_0 l1_0.length c1_0) := (blk_cell (HT.out.bx.at_ 3 rfl) 0).trans rfl; have y1 : wr.cell? ⟨w.heap.size + 1, 1, none⟩ = some (.slice (some adp) l1_1.length c1_1) := (blk_cell (HT.out.bx.at_ 3 rfl) 1).trans rfl; have u0 : wr.cell? ⟨w.heap.size + 1 + 1, 0, none⟩ = some (.slice A2_0 l2_0.length c2_0) := (blk_cell (HT.out.bx.at_ 2 rfl) 0).trans rfl; have u1 : wr.cell? ⟨w.heap.size + 1 + 1, 1, none⟩ = some (.slice (some adq) l2_1.length c2_1) := (blk_cell (HT.out.bx.at_ 2 rfl) 1).trans rfl; have z0 : wr.cell? ⟨w.heap.size + 1 + 1 + 1, 0, none⟩ = some (.slice none 0 0) := (blk_cell (HT.out.bx.at_ 1 rfl) 0).trans rfl; have z1 : wr.cell? ⟨w.heap.size + 1 + 1 + 1, 1, none⟩ = some (.slice none 0 0) := (blk_cell (HT.out.bx.at_ 1 rfl) 1).trans rfl; have f0 := blk_frozen (HT.out.bx.at_ 1 rfl) 0; have f1 := blk_frozen (HT.out.bx.at_ 1 rfl) 1
     go_upto_region 14 with (fail)
     have HT := Aside0.mk (HT.out.more #[.int .i64 py.f0, .int .i64 py.f1, .slice Eq py.f2.length eq] 43); clear yq0 yq1 yq2 hj0 hj1; (try clear x0 x1 y0 y1 z0 z1 u0 u1 f0 f1 o0 o1)
     generalize wr.alloc (.cells #[.int .i64 py.f0, .int .i64 py.f1, .slice Eq py.f2.length eq] 43) = Wy at HT ⊢; generalize wr.heap.size = gy at HT ⊢
     have o0 : Wy.cell? ⟨go, 0, none⟩ = some (.slice As z.length cs) := (blk_cell HT.out.out 0).trans rfl; have o1 : Wy.cell? ⟨go, 1, none⟩ = some (.slice Aq acc.length cq) := (blk_cell HT.out.out 1).trans rfl; have x0 : Wy.cell? ⟨w.heap.size, 0, none⟩ = some (.int .i64 a0_0) := (blk_cell (HT.out.bx.at_ 5 rfl) 0).trans rfl; have x1 : Wy.cell? ⟨w.heap.size, 1, none⟩ = some (.bool a0_1) := (blk_cell (HT.out.bx.at_ 5 rfl) 1).trans rfl; have y0 : Wy.cell? ⟨w.heap.size + 1, 0, none⟩ = some (.slice A1_0 l1_0.length c1_0) := (blk_cell (HT.out.bx.at_ 4 rfl) 0).trans rfl; have y1 : Wy.cell? ⟨w.heap.size + 1, 1, none⟩ = some (.slice (some adp) l1_1.length c1_1) := (blk_cell (HT.out.bx.at_ 4 rfl) 1).trans rfl; have u0 : Wy.cell? ⟨w.heap.size + 1 + 1, 0, none⟩ = some (.slice A2_0 l2_0.length c2_0) := (blk_cell (HT.out.bx.at_ 3 rfl) 0).trans rfl; have u1 : Wy.cell? ⟨w.heap.size + 1 + 1, 1, none⟩ = some (.slice (some adq) l2_1.length c2_1) := (blk_cell (HT.out.bx.at_ 3 rfl) 1).trans rfl; have z0 : Wy.cell? ⟨w.heap.size + 1 + 1 + 1, 0, none⟩ = some (.slice none 0 0) := (blk_cell (HT.out.bx.at_ 2 rfl) 0).trans rfl; have z1 : Wy.cell? ⟨w.heap.size + 1 + 1 + 1, 1, none⟩ = some (.slice none 0 0) := (blk_cell (HT.out.bx.at_ 2 rfl) 1).trans rfl; have f0 := blk_frozen (HT.out.bx.at_ 2 rfl) 0; have f1 := blk_frozen (HT.out.bx.at_ 2 rfl) 1
     have pc0 : Wy.cell? ⟨gx, 0, none⟩ = some (.int .i64 px.f0) := (blk_cell (HT.out.bx.at_ 1 rfl) 0).trans rfl; have pc1 : Wy.cell? ⟨gx, 1, none⟩ = some (.int .i64 px.f1) := (blk_cell (HT.out.bx.at_ 1 rfl) 1).trans rfl; have pc2 : Wy.cell? ⟨gx, 2, none⟩ = some (.slice Ep px.f2.length ep) := (blk_cell (HT.out.bx.at_ 1 rfl) 2).trans rfl; have qc0 : Wy.cell? ⟨gy, 0, none⟩ = some (.int .i64 py.f0) := (blk_cell (HT.out.bx.at_ 0 rfl) 0).trans rfl; have qc1 : Wy.cell? ⟨gy, 1, none⟩ = some (.int .i64 py.f1) := (blk_cell (HT.out.bx.at_ 0 rfl) 1).trans rfl; have qc2 : Wy.cell? ⟨gy, 2, none⟩ = some (.slice Eq py.f2.length eq) := (blk_cell (HT.out.bx.at_ 0 rfl) 2).trans rfl
     by_cases ce : b4 = 0
     rotate_left
     ·have h := H5.out; rw [if_neg ce] at h; obtain rfl := Option.some.inj h; have h := HQ.out; rw [if_neg ce] at h; obtain rfl := Option.some.inj h; have h := H.out; rw [if_neg ce] at h
      simp only [Option.some.injEq, Prod.mk.injEq] at h; obtain ⟨rfl, rfl, rfl⟩ := h
      have ceb : (b4 != 0) = true := bne_iff_ne.2 ce; clear ce
      go_wp2_with (go_at_call 42; (with_reducible refine (fold_F_of.calls k a0_0 a0_1 px.f0 px.f1 _ _ px.f2 py.f0 py.f1 _ _ py.f2 b1 b2 b3 _ _ (Kd.C_below XCp.out.1 HT.out.bx.bel) XCp.out.2 (Kd.C_below XCq.out.1 HT.out.bx.bel) XCq.out.2 QB.out).mono ?_); rintro e w5 ⟨v2, rfl, hR, hb⟩; have HR := Aside0.mk (Kd.R_lower (Kd.R_mono (Kd.R_bound hR) (fun k hk => (hk.2.1 : Wy.heap.size ≤ k))) HT.out.bx.bel.size); clear hR; obtain ⟨Ab, cb, hv⟩ := Kd.R_slice HR.out; subst hv; have HT6 := Aside0.mk ((HT.out.step hb).step (below_alloc (Below.refl _ _) (.cells #[.int .i64 b1, .int .i64 b2, .slice Ab b3.length cb] 43))); clear hb; (try clear x0 x1 y0 y1 z0 z1 u0 u1 f0 f1 o0 o1); have o0 : (w5.alloc (.cells #[.int .i64 b1, .int .i64 b2, .slice Ab b3.length cb] 43)).cell? ⟨go, 0, none⟩ = some (.slice As z.length cs) := (blk_cell HT6.out.out 0).trans rfl; have o1 : (w5.alloc (.cells #[.int .i64 b1, .int .i64 b2, .slice Ab b3.length cb] 43)).cell? ⟨go, 1, none⟩ = some (.slice Aq acc.length cq) := (blk_cell HT6.out.out 1).trans rfl; have x0 : (w5.alloc (.cells #[.int .i64 b1, .int .i64 b2, .slice Ab b3.length cb] 43)).cell? ⟨w.heap.size, 0, none⟩ = some (.int .i64 a0_0) := (blk_cell (HT6.out.bx.at_ 5 rfl) 0).trans rfl; have x1 : (w5.alloc (.cells #[.int .i64 b1, .int .i64 b2, .slice Ab b3.length cb] 43)).cell? ⟨w.heap.size, 1, none⟩ = some (.bool a0_1) := (blk_cell (HT6.out.bx.at_ 5 rfl) 1).trans rfl; have y0 : (w5.alloc (.cells #[.int .i64 b1, .int .i64 b2, .slice Ab b3.length cb] 43)).cell? ⟨w.heap.size + 1, 0, none⟩ = some (.slice A1_0 l1_0.length c1_0) := (blk_cell (HT6.out.bx.at_ 4 rfl) 0).trans rfl; have y1 : (w5.alloc (.cells #[.int .i64 b1, .int .i64 b2, .slice Ab b3.length cb] 43)).cell? ⟨w.heap.size + 1, 1, none⟩ = some (.slice (some adp) l1_1.length c1_1) := (blk_cell (HT6.out.bx.at_ 4 rfl) 1).trans rfl; have u0 : (w5.alloc (.cells #[.int .i64 b1, .int .i64 b2, .slice Ab b3.length cb] 43)).cell? ⟨w.heap.size + 1 + 1, 0, none⟩ = some (.slice A2_0 l2_0.length c2_0) := (blk_cell (HT6.out.bx.at_ 3 rfl) 0).trans rfl; have u1 : (w5.alloc (.cells #[.int .i64 b1, .int .i64 b2, .slice Ab b3.length cb] 43)).cell? ⟨w.heap.size + 1 + 1, 1, none⟩ = some (.slice (some adq) l2_1.length c2_1) := (blk_cell (HT6.out.bx.at_ 3 rfl) 1).trans rfl; have z0 : (w5.alloc (.cells #[.int .i64 b1, .int .i64 b2, .slice Ab b3.length cb] 43)).cell? ⟨w.heap.size + 1 + 1 + 1, 0, none⟩ = some (.slice none 0 0) := (blk_cell (HT6.out.bx.at_ 2 rfl) 0).trans rfl; have z1 : (w5.alloc (.cells #[.int .i64 b1, .int .i64 b2, .slice Ab b3.length cb] 43)).cell? ⟨w.heap.size + 1 + 1 + 1, 1, none⟩ = some (.slice none 0 0) := (blk_cell (HT6.out.bx.at_ 2 rfl) 1).trans rfl; have f0 := blk_frozen (HT6.out.bx.at_ 2 rfl) 0; have f1 := blk_frozen (HT6.out.bx.at_ 2 rfl) 1)
      all_goals (refine bodyPost_ret (results_ct rfl _ _ (w.heap.size + 1 + 1 + 1) 25 #[.slice none 0 0, .slice none 0 0] (0, 0) _ rfl (hf_z2 (HT6.out.bx.at_ 2 rfl) _ _) Try.underlying25 rfl (by kernel_rfl)) rfl ?_; exact ⟨_, _, rfl, Kd.R_nil _ _ _ _ _, Kd.R_nil _ _ _ _ _, below_set (below_set HT6.out.bx.bel (HT6.out.bx.fr _ (List.mem_of_getElem? (i := 2) rfl))) (HT6.out.bx.fr _ (List.mem_of_getElem? (i := 2) rfl))⟩)
     have h := H5.out; rw [if_pos ce] at h; subst ce
     by_cases cl : acc.length < 3518437208883
     rotate_left
     ·rw [if_neg cl] at h; cases h
     rw [if_pos cl] at h; have QJ := Aside0.mk h; have CA := Aside0.mk cl; clear h cl H5
     go_wp2_with (first | (go_at_call 42; (with_reducible refine (fold_F_of.calls k a0_0 a0_1 px.f0 px.f1 _ _ px.f2 py.f0 py.f1 _ _ py.f2 b1 b2 b3 _ _ (Kd.C_below XCp.out.1 HT.out.bx.bel) XCp.out.2 (Kd.C_below XCq.out.1 HT.out.bx.bel) XCq.out.2 QB.out).mono ?_); rintro e w5 ⟨v2, rfl, hR, hb⟩; have HR := Aside0.mk (Kd.R_lower (Kd.R_mono (Kd.R_bound hR) (fun k hk => (hk.2.1 : Wy.heap.size ≤ k))) HT.out.bx.bel.size); clear hR; obtain ⟨Ab, cb, hv⟩ := Kd.R_slice HR.out; subst hv; have HT6 := Aside0.mk ((HT.out.step hb).step (below_alloc (Below.refl _ _) (.cells #[.int .i64 b1, .int .i64 b2, .slice Ab b3.length cb] 43))); clear hb; (try clear x0 x1 y0 y1 z0 z1 u0 u1 f0 f1 o0 o1); have o0 : (w5.alloc (.cells #[.int .i64 b1, .int .i64 b2, .slice Ab b3.length cb] 43)).cell? ⟨go, 0, none⟩ = some (.slice As z.length cs) := (blk_cell HT6.out.out 0).trans rfl; have o1 : (w5.alloc (.cells #[.int .i64 b1, .int .i64 b2, .slice Ab b3.length cb] 43)).cell? ⟨go, 1, none⟩ = some (.slice Aq acc.length cq) := (blk_cell HT6.out.out 1).trans rfl; have x0 : (w5.alloc (.cells #[.int .i64 b1, .int .i64 b2, .slice Ab b3.length cb] 43)).cell? ⟨w.heap.size, 0, none⟩ = some (.int .i64 a0_0) := (blk_cell (HT6.out.bx.at_ 5 rfl) 0).trans rfl; have x1 : (w5.alloc (.cells #[.int .i64 b1, .int .i64 b2, .slice Ab b3.length cb] 43)).cell? ⟨w.heap.size, 1, none⟩ = some (.bool a0_1) := (blk_cell (HT6.out.bx.at_ 5 rfl) 1).trans rfl; have y0 : (w5.alloc (.cells #[.int .i64 b1, .int .i64 b2, .slice Ab b3.length cb] 43)).cell? ⟨w.heap.size + 1, 0, none⟩ = some (.slice A1_0 l1_0.length c1_0) := (blk_cell (HT6.out.bx.at_ 4 rfl) 0).trans rfl; have y1 : (w5.alloc (.cells #[.int .i64 b1, .int .i64 b2, .slice Ab b3.length cb] 43)).cell? ⟨w.heap.size + 1, 1, none⟩ = some (.slice (some adp) l1_1.length c1_1) := (blk_cell (HT6.out.bx.at_ 4 rfl) 1).trans rfl; have u0 : (w5.alloc (.cells #[.int .i64 b1, .int .i64 b2, .slice Ab b3.length cb] 43)).cell? ⟨w.heap.size + 1 + 1, 0, none⟩ = some (.slice A2_0 l2_0.length c2_0) := (blk_cell (HT6.out.bx.at_ 3 rfl) 0).trans rfl; have u1 : (w5.alloc (.cells #[.int .i64 b1, .int .i64 b2, .slice Ab b3.length cb] 43)).cell? ⟨w.heap.size + 1 + 1, 1, none⟩ = some (.slice (some adq) l2_1.length c2_1) := (blk_cell (HT6.out.bx.at_ 3 rfl) 1).trans rfl; have z0 : (w5.alloc (.cells #[.int .i64 b1, .int .i64 b2, .slice Ab b3.length cb] 43)).cell? ⟨w.heap.size + 1 + 1 + 1, 0, none⟩ = some (.slice none 0 0) := (blk_cell (HT6.out.bx.at_ 2 rfl) 0).trans rfl; have z1 : (w5.alloc (.cells #[.int .i64 b1, .int .i64 b2, .slice Ab b3.length cb] 43)).cell? ⟨w.heap.size + 1 + 1 + 1, 1, none⟩ = some (.slice none 0 0) := (blk_cell (HT6.out.bx.at_ 2 rfl) 1).trans rfl; have f0 := blk_frozen (HT6.out.bx.at_ 2 rfl) 0; have f1 := blk_frozen (HT6.out.bx.at_ 2 rfl) 1) | ((with_reducible refine gate_builtin (b := .append) (xs := #[.tmp 70, .tmp 72]) rfl ?_); at_builtin; refine OutS.app HT6.out rfl (.tmp 70) (.tmp 72) 23 (.agg #[(.int .i64 0), (.int .i64 0), (.slice none 0 0)]) rfl Try.underlying23 info43 rfl rfl (by first | (go_simp; done) | (go_simp; rfl)) (⟨b1, b2, b3⟩ : S43) [.int .i64 b1, .int .i64 b2, .slice Ab b3.length cb] (fun k => Wy.heap.size ≤ k) (k43_mkM _ _ _ (⟨b1, b2, b3⟩ : S43) (Kd.R_alloc HR.out _)) (fun k hk => HT.out.okf k hk) (by have := CA.out; omega) ?_; intro v3 w7 hT7; have HT7 := Aside0.mk hT7; clear hT7; obtain ⟨A7, c7, hv⟩ := Kd.R_slice HT7.out.r1; rw [List.length_append, List.length_singleton] at hv; subst hv; have hq1 : w7.cell? ⟨go, 1, none⟩ = some (.slice Aq acc.length cq) := (blk_cell HT7.out.out 1).trans rfl; have hqf := blk_frozen HT7.out.out 1))
     go_roundg q0; (case measure => omega)
     case rel => exact ⟨j + 1, acc ++ [⟨b1, b2, b3⟩], .slice A7 (acc.length + 1) c7, congrArg (Value.int .i64) HWJ.out, ⟨by have := HJ.out; omega⟩, QJ, ⟨HT7.out.put1.less⟩⟩
def triglyphref03_Nums.l0 : Nat → List Int → Int → List Int → List (S43) → Option (List Int × (List (S43)))
 | 0, _, _, _, _ => none
 | k + 1, x0, x4, x253000, x253001 => if x4 < (x0.length : Int) then (if 0 ≤ x4 then (if x253001.length < 3518437208883 then (triglyphref03_Nums.l0 k x0 (wrap64 (x4 + 1)) x253000 (x253001 ++ [(⟨0, rd x0 x4, ([] : List (S25))⟩ : S43)])) else (none)) else (none)) else (some (x253000, x253001))
def triglyphref03_Nums.f (k : Nat) (l0 : List Int) : Option (List Int × (List (S43))) := triglyphref03_Nums.l0 k l0 0 (([(l0.length : Int)] : List Int)) ([] : List (S43))
theorem triglyphref03_Nums.mono_l : ∀ k, (∀ y0 y1 y2 y3, LeO (triglyphref03_Nums.l0 k y0 y1 y2 y3) (triglyphref03_Nums.l0 (k + 1) y0 y1 y2 y3))
 | 0 => fun _ _ _ _ r h => by simp [triglyphref03_Nums.l0] at h
 | k + 1 => by
  have ih0 := triglyphref03_Nums.mono_l k
  ·intro y0 y1 y2 y3
   unfold triglyphref03_Nums.l0
   repeat' first
   | (with_reducible exact ih0 _ _ _ _)
   | (with_reducible exact LeO.refl _)
   | (with_reducible exact LeO.none _)
   | (with_reducible refine LeO.ite ?_ ?_)
   | (with_reducible refine LeO.bind ?_ (fun _ => ?_))
theorem triglyphref03_Nums.mono : ∀ a0 k, LeO (triglyphref03_Nums.f k a0) (triglyphref03_Nums.f (k + 1) a0) := by
 intro a0 k
 have ih0 := triglyphref03_Nums.mono_l k
 unfold triglyphref03_Nums.f
 repeat' first
   | (with_reducible exact ih0 _ _ _ _)
   | (with_reducible exact LeO.refl _)
   | (with_reducible exact LeO.none _)
   | (with_reducible refine LeO.ite ?_ ?_)
   | (with_reducible refine LeO.bind ?_ (fun _ => ?_))
def triglyphref03_Nums.T5 : Bool × List (List Nat × List Nat) := (true, [([], []), ([0], [0]), ([], []), ([], []), ([2, 3], [2, 3]), ([4], [4]), ([5], [5]), ([6], [6]), ([1, 7], [1, 7]), ([0, 1, 2, 3, 4, 5, 6, 7, 8], []), ([9, 8, 8, 0, 1, 2, 3, 4, 5, 6, 7, 8], [8, 9])])
def triglyphref03_Nums.B5 : List Nat := [0, 1, 0, 0, 12, 28, 60, 124, 255, 511, 1023]
theorem triglyphref03_Nums.tab5 : rtab .any (opsOf Try.f19 5) = triglyphref03_Nums.T5 := by kernel_rfl
theorem triglyphref03_Nums.bits5 : waitsOk triglyphref03_Nums.T5.2 triglyphref03_Nums.B5 = true := by kernel_rfl
set_option maxHeartbeats 8000000 in
set_option maxRecDepth 100000 in
theorem triglyphref03_Nums.calls (k : Nat) (A0 : Option Addr) (c0 : Nat) (l0 : List Int) (r1 : List Int) (r2 : List (S43)) (w : World) (hr0 : Kd.C (Kd.int .i64) w A0 l0.length l0) (hc0 : l0.length ≤ c0) (h : triglyphref03_Nums.f k l0 = some (r1, r2)) :
  Calls Try.prog 19 #[.slice A0 l0.length c0] w fun e w' => ∃ v0_ v1_ : Value, e = .returned (.agg #[v0_, v1_]) ∧ Kd.R (Kd.int .i64) 3 w' w.heap.size (fun _ => True) v0_ r1 ∧ Kd.R k43 43 w' w.heap.size (fun k_ => some k_ ≠ (v0_ : Value).ownBlock) v1_ r2 ∧ Below w.heap.size w w' := by
 have hu25 := Try.underlying25
 have hu43 := Try.underlying43
 have HR0 := gA hr0
 have HC0 := gA hc0
 clear hr0 hc0
 have HB := gA (Below.refl w.heap.size w)
 have H : (triglyphref03_Nums.l0 k l0 0 (([(l0.length : Int)] : List Int)) ([] : List (S43))) = some (r1, r2) := h
 clear h
 obtain ⟨y249, hy249⟩ : ∃ y_ : List Int, y_ = (([(l0.length : Int)] : List Int)) := ⟨_, rfl⟩
 replace H : (triglyphref03_Nums.l0 k l0 0 y249 ([] : List (S43))) = some (r1, r2) := by first | (rw [hy249]; with_reducible exact H) | (have H2_ := (Option.bind_some _ _).symm.trans H; rw [hy249]; with_reducible exact H2_) | (have H2_ := (Option.bind_some _ _).symm.trans H; with_reducible exact H2_) | with_reducible exact H | (rw [hy249]; exact H) | exact H
 have Ny249 := gA hy249
 clear hy249
 have H' := gA H
 clear H
 go_enter Try.func19, Try.ntmps19
 go_wp2_with (first | ((with_reducible refine gate_dst (N := 2) rfl ?_); refine box_event ?hg (N := 2) ?hd (cs := #[.slice none 0 0, .slice none 0 0]) (t := 25) ?hr ?_; (case hd => rfl); (case hg => rfl); (case hr => first | (go_simp; done) | (go_simp; rfl)); intro gb248 hg w2 hbox hb; have BK248 := gA (hbox); have GW248 := gA ((by rw [hg]; exact (below_size (gB HB)) : w.heap.size ≤ gb248)); have GE248 := gA ((by rw [hg]; exact (below_size (gB HB)) : w.heap.size ≤ gb248)); replace HB := gA (below_step (gB HB) hb); clear hb hbox hg) | ((with_reducible refine gate_dst (N := 7) rfl ?_); refine Kd.R_lit (Kd.int .i64) _ 3 ?hg (N := 7) ?hd (xs := ([(l0.length : Int)] : List Int)) (inner := [.int .i64 (l0.length : Int)]) (ok := fun _ => True) (okp := fun _ => True) ?hr ?hp (fun _ hk => hk) trivial (Below.refl _ _) (Nat.le_refl _) (by simp) ?_; (case hd => rfl); (case hg => rfl); (case hr => first | (go_simp; done) | (go_simp; rfl)); (case hp => exact (Reps.one (show Kd.M (Kd.int .i64) _ _ _ (l0.length : Int) [.int .i64 (l0.length : Int)] from rfl) (Reps.none _ _))); intro v250 w3 ho4 hb hg_ hnew_; clear hg_ hnew_; (first | rw [← Ny249.out] at ho4 | (simp only [Int.reduceToNat] at ho4; rw [← Ny249.out] at ho4)); have HO251 := gA (Kd.R_lower ho4 (below_size (gB HB))); replace BK248 := gA (blk_below (gK BK248) hb); replace HB := gA (below_step (gB HB) hb); clear hb ho4; obtain ⟨Ao5, co5, eo5⟩ := Kd.R_slice HO251.out; subst eo5) | ((with_reducible refine gate_dst (N := 3) rfl ?_); refine box_event ?hg (N := 3) ?hd (cs := #[.slice none 0 0, .slice none 0 0]) (t := 25) ?hr ?_; (case hd => rfl); (case hg => rfl); (case hr => first | (go_simp; done) | (go_simp; rfl)); intro gb252 hg w6 hbox hb; replace HO251 := gA (Kd.R_below (gR HO251) hb); have BK252 := gA (hbox); have GW252 := gA ((by rw [hg]; exact (below_size (gB HB)) : w.heap.size ≤ gb252)); have GE252 := gA ((by rw [hg]; exact (below_size (gB HB)) : w.heap.size ≤ gb252)); replace HB := gA (below_step (gB HB) hb); have NB248_252 := gA ((by rw [hg]; exact Nat.ne_of_lt (blk_lt (gK BK248)) : gb248 ≠ gb252)); have NB252_248 := gA ((by rw [hg]; exact Nat.ne_of_gt (blk_lt (gK BK248)) : gb252 ≠ gb248)); replace BK248 := gA (blk_below (gK BK248) hb); clear hb hbox hg; have hnb7 := NB252_248.out; have hnc7 := NB248_252.out; obtain ⟨hcz8_0, hcz8_1, hfz8_0, hfz8_1⟩ := gz2 BK252))
 go_loopg [4] k (fun kq v4 w' => ∃ (x4_1 : Int) (x253001_1 : List (S43)) (u253001 : Value), v4 = .int .i64 x4_1 ∧ Aside0 (triglyphref03_Nums.l0 kq l0 x4_1 y249 x253001_1 = some (r1, r2)) ∧ Aside0 (kq ≤ k) ∧ Aside0 (Kd.R (Kd.int .i64) 3 w' w.heap.size (fun _ => True) (.slice Ao5 y249.length co5) y249) ∧ Aside0 (Kd.R k43 43 w' w.heap.size (fun k_ => some k_ ≠ ((.slice Ao5 y249.length co5) : Value).ownBlock ∧ k_ ≠ gb248 ∧ k_ ≠ gb252) u253001 x253001_1) ∧ Aside0 (w'.heap[gb248]? = some (.cells #[(.slice none 0 0), (.slice none 0 0)] 25 (0, 0))) ∧ Aside0 (w'.heap[gb252]? = some (.cells #[(.slice Ao5 y249.length co5), u253001] 25 (0, 0))) ∧ Aside0 (Below w.heap.size w w'))
 case atStart => exact ⟨(0), (([] : List (S43))), (.slice none 0 0), (rfl), H', ⟨Nat.le_refl _⟩, ⟨Kd.R_mono (Kd.R_far (p := ⟨gb252, 1, none⟩) (Kd.R_far (p := ⟨gb252, 0, none⟩) (Kd.R_types HO251.out BK252.out (by decide)) (fun _ hk => hk.2) (.slice Ao5 y249.length co5)) (fun _ hk => hk.2) (.slice none 0 0)) (fun _ hk => trivial)⟩, ⟨by first | exact Kd.R_nil _ _ _ _ _ | exact Kd.N_nil _ _ _ _ _ | exact Kd.V_nil _ _ _ _ _ | exact Kd.Q_nil _ _ _ _ _ | exact Kd.S_nil _ _ _ _ _⟩, ⟨by refine blk_far ?_ NB248_252.out _; refine blk_far ?_ NB248_252.out _; exact gK BK248⟩, ⟨by refine blk_put (cs := #[.slice Ao5 y249.length co5, .slice none 0 0]) ?_ 1 _ rfl; refine blk_put (cs := #[.slice none 0 0, .slice none 0 0]) ?_ 0 _ rfl; exact gK BK252⟩, ⟨by repeat first | exact gB HB | refine below_set ?_ GE248.out | refine below_set ?_ GE252.out⟩⟩
 case round =>
  clear H'
  try clear c1
  try clear p2
  try clear c7
  try clear hcz8_0
  try clear hcz8_1
  try clear hfz8_0
  try clear hfz8_1
  obtain ⟨x4_1, x253001_1, u253001, rfl, HA, HK1, HO_253000, HO_253001, BK248, BK252, HB⟩ := hrel
  cases gk with
  | zero => exact absurd HA.out (by simp [triglyphref03_Nums.l0])
  | succ k1 =>
   have H := HA.out; clear HA
   simp only [triglyphref03_Nums.l0] at H
   by_cases c9 : x4_1 < (l0.length : Int)
   ·rw [if_pos c9] at H
    have c9b0 := decide_eq_true c9
    clear c9
    obtain ⟨c10, H⟩ := iS H
    have c10b0 := decide_eq_true c10
    clear c10
    obtain ⟨c11, H⟩ := iS H
    have LMc11 := gA c11
    clear c11
    obtain ⟨y254, hy254⟩ : ∃ y_ : List (S43), y_ = (x253001_1 ++ [(⟨0, rd l0 x4_1, ([] : List (S25))⟩ : S43)]) := ⟨_, rfl⟩
    replace H : (triglyphref03_Nums.l0 k1 l0 (wrap64 (x4_1 + 1)) y249 y254) = some (r1, r2) := by first | (rw [hy254]; with_reducible exact H) | (have H2_ := (Option.bind_some _ _).symm.trans H; rw [hy254]; with_reducible exact H2_) | (have H2_ := (Option.bind_some _ _).symm.trans H; with_reducible exact H2_) | with_reducible exact H | (rw [hy254]; exact H) | exact H
    have Ny254 := gA hy254
    clear hy254
    have H' := gA H
    clear H
    try go_wp2
    replace HO_253000 := gA (Kd.R_drew HO_253000.out); replace HO_253001 := gA (Kd.R_drew HO_253001.out); replace BK248 := gA (blk_drew BK248.out); replace BK252 := gA (blk_drew BK252.out); replace HB := gA (below_drew1 HB.out)
    have p253 : 0 ≤ (x4_1 : Int) := of_decide_eq_true (by assumption)
    have q253 : x4_1 < (l0.length : Int) := of_decide_eq_true (by assumption)
    obtain ⟨ad253, e253, hx253_0⟩ := Kd.at_int HR0.out x4_1 p253 q253
    have hw253_0 := hx253_0
    cases e253
    replace hx253_0 := (HB.out.cell (World.block_lt_of_cell? w _ hx253_0)).trans hx253_0
    replace p253 := eq_true p253
    replace q253 := eq_true q253
    refine start_ (n := 11) (S := fun w' => w'.cell? ⟨gb252, 0, none⟩ = some (.slice Ao5 y249.length co5) ∧ w'.cell? ⟨gb252, 1, none⟩ = some (u253001) ∧ w'.cell? (ad253.add (x4_1).toNat) = some (.int .i64 (rd l0 x4_1))) (ds := [10]) #[false, false, false, false, false, false, false, false, false, false, false] (by kernel_rfl) rfl rfl ⟨(blk_cell BK252.out 0).trans rfl, (blk_cell BK252.out 1).trans rfl, ((HB.out.cell (World.block_lt_of_cell? w _ hw253_0)).trans hw253_0)⟩ (fun hHeld => ?_); refine with_tabW triglyphref03_Nums.tab5 triglyphref03_Nums.bits5 (fun HT_ HW_ => ?_)
    generalize wr.drew = w12 at HO_253000 HO_253001 BK248 BK252 HB hx253_0 hHeld ⊢
    refine pure_ (i := 0) (N := some 15) (v := ?_) (a' := ?_) #[true, false, false, false, false, false, false, false, false, false, false] rfl rfl (any_of HT_.out (by kernel_rfl)) (fun _ _ _ h => h) (Or.inl ⟨by rfl, ?_⟩) ?_ ?_; rotate_left
    ·intro w'; go_simp; with_reducible rfl
    rotate_left
    ·simp only [Act.put, List.setIfInBounds_toArray, List.set_cons_zero, List.set_cons_succ, i64_w, i32_w]; rfl
    refine pure_ (i := 2) (N := some 17) (v := ?_) (a' := ?_) #[true, false, true, false, false, false, false, false, false, false, false] rfl rfl (any_of HT_.out (by kernel_rfl)) (fun _ _ _ h => h) (Or.inl ⟨by rfl, ?_⟩) ?_ ?_; rotate_left
    ·intro w'; go_simp; with_reducible rfl
    rotate_left
    ·simp only [Act.put, List.setIfInBounds_toArray, List.set_cons_zero, List.set_cons_succ, i64_w, i32_w]; rfl
    refine pure_ (i := 3) (N := some 18) (v := ?_) (a' := ?_) #[true, false, true, true, false, false, false, false, false, false, false] rfl rfl (any_of HT_.out (by kernel_rfl)) (fun _ _ _ h => h) (Or.inl ⟨by rfl, ?_⟩) ?_ ?_; rotate_left
    ·intro w'; go_simp; with_reducible rfl
    rotate_left
    ·simp only [Act.put, List.setIfInBounds_toArray, List.set_cons_zero, List.set_cons_succ, i64_w, i32_w]; rfl
    refine pure_ (i := 4) (N := some 19) (v := ?_) (a' := ?_) #[true, false, true, true, true, false, false, false, false, false, false] rfl rfl (any_of HT_.out (by kernel_rfl)) (fun _ _ _ h => h) (Or.inl ⟨by rfl, ?_⟩) ?_ ?_; rotate_left
    ·intro w'; go_simp; with_reducible rfl
    rotate_left
    ·simp only [Act.put, List.setIfInBounds_toArray, List.set_cons_zero, List.set_cons_succ, i64_w, i32_w]; rfl
    refine take_ (i := 1) (N := some 16) (v := ?_) (a' := ?_) #[true, true, true, true, true, false, false, false, false, false, false] rfl rfl (take_ofW HT_.out HW_.out (by kernel_rfl)) (fun _ _ _ h => h) (Or.inl ⟨by rfl, ?_⟩) hHeld ?_ ?_; rotate_left
    ·rintro w' ⟨s0, s1, s2⟩; go_simp; with_reducible rfl
    rotate_left
    ·simp only [Act.put, List.setIfInBounds_toArray, List.set_cons_zero, List.set_cons_succ, i64_w, i32_w]; rfl
    refine take_ (i := 5) (N := some 20) (v := ?_) (a' := ?_) #[true, true, true, true, true, true, false, false, false, false, false] rfl rfl (take_ofW HT_.out HW_.out (by kernel_rfl)) (fun _ _ _ h => h) (Or.inl ⟨by rfl, ?_⟩) hHeld ?_ ?_; rotate_left
    ·rintro w' ⟨s0, s1, s2⟩; go_simp; with_reducible rfl
    rotate_left
    ·simp only [Act.put, List.setIfInBounds_toArray, List.set_cons_zero, List.set_cons_succ, i64_w, i32_w]; rfl
    refine pure_ (i := 6) (N := some 21) (v := ?_) (a' := ?_) #[true, true, true, true, true, true, true, false, false, false, false] rfl rfl (any_of HT_.out (by kernel_rfl)) (fun _ _ _ h => h) (Or.inl ⟨by rfl, ?_⟩) ?_ ?_; rotate_left
    ·intro w'; go_simp; with_reducible rfl
    rotate_left
    ·simp only [Act.put, List.setIfInBounds_toArray, List.set_cons_zero, List.set_cons_succ, i64_w, i32_w]; rfl
    refine one_ (i := 7) (N := some 22) #[true, true, true, true, true, true, true, true, false, false, false] rfl rfl (one_of HT_.out (by kernel_rfl)) (by decide) (fun K hK => ?_)
    refine value_ (w1 := ?_) (v := ?_) (by rfl) rfl ?_ ?_
    rotate_left 2
    ·go_simp
     constructor
     ·rfl
     ·rfl
    refine hK.out _ _ ⟨(blk_cell (blk_alloc BK252.out _) 0).trans rfl, (blk_cell (blk_alloc BK252.out _) 1).trans rfl, (World.cell?_alloc_lt _ _ _ (World.block_lt_of_cell? _ _ (((HB.out.cell (World.block_lt_of_cell? w _ hw253_0)).trans hw253_0)))).trans (((HB.out.cell (World.block_lt_of_cell? w _ hw253_0)).trans hw253_0))⟩ (fun hHeld => ?_); clear hK K
    refine norm_ (a' := ?_) ?_ ?_; rotate_left
    ·show Act.put _ (some 22) _ = _
     simp only [Act.put, List.setIfInBounds_toArray, List.set_cons_zero, List.set_cons_succ, i64_w, i32_w]; rfl
    refine one_ (i := 8) (N := some 23) #[true, true, true, true, true, true, true, true, true, false, false] rfl rfl (one_of HT_.out (by kernel_rfl)) (by decide) (fun K hK => ?_)
    refine Kd.R_append_step k43 (w0 := w) w.heap.size (by rfl) (.tmp 16) (.tmp 22) 23 43 (.agg #[(.int .i64 0), (.int .i64 0), (.slice none 0 0)]) 40 rfl Try.underlying23 info43 rfl (by decide) (by omega) u253001 x253001_1 (⟨0, rd l0 x4_1, ([] : List (S25))⟩ : S43) [.int .i64 0, .int .i64 (rd l0 x4_1), .slice none 0 0] (fun k_ => some k_ ≠ (.slice Ao5 y249.length co5 : Value).ownBlock ∧ k_ ≠ gb248 ∧ k_ ≠ gb252) (fun k_ => ((fun k_ => some k_ ≠ (.slice Ao5 y249.length co5 : Value).ownBlock ∧ k_ ≠ gb248 ∧ k_ ≠ gb252)) k_ ∧ some k_ ≠ (u253001 : Value).ownBlock) rfl rfl ?aP (fun _ hk => hk) ?aF ?aO ?aB ?aS ?aL ?_
    (case aP => exact k43_mkM _ _ _ (⟨0, rd l0 x4_1, ([] : List (S25))⟩ : S43) (Kd.R_nil _ _ _ _ _))
    (case aB => exact (gB HB))
    (case aF => exact (fun k_ hk => ⟨Kd.fresh' (Kd.R_lt (gR HO_253000)) k_ hk, Kd.freshB (gK BK248) k_ hk, Kd.freshB (gK BK252) k_ hk⟩))
    (case aO => exact (gR HO_253001))
    (case aS => exact (below_size (gB HB)))
    (case aL => have := LMc11.out; omega)
    intro v255 w13 ho hb hg hat
    rw [← Ny254.out] at ho
    replace HO_253000 := gA (Kd.R_over' (gR HO_253000) (Kd.R_typed (gR HO_253001)) (by decide) hg); replace BK248 := gA (blk_grown (gK BK248) hg (Kd.R_ne HO_253001.out BK248.out (by decide))); replace BK252 := gA (blk_grown (gK BK252) hg (Kd.R_ne HO_253001.out BK252.out (by decide))); replace HB := gA (hb); have HO256 := gA (ho); clear HO_253001 ho hb hg hat
    obtain ⟨Ao14, co14, eo14⟩ := Kd.R_slice HO256.out
    (first | subst eo14 | (injection eo14 with f1_ f2_ f3_; have f4_ := f1_.symm; have f5_ := f3_.symm; clear f1_ f2_ f3_; subst f4_; subst f5_))
    refine hK.out _ _ ⟨(blk_cell BK252.out 0).trans rfl, (blk_cell BK252.out 1).trans rfl, ((HB.out.cell (World.block_lt_of_cell? w _ hw253_0)).trans hw253_0)⟩ (fun hHeld => ?_); clear hK K
    refine norm_ (a' := ?_) ?_ ?_; rotate_left
    ·show Act.put _ (some 23) _ = _
     simp only [Act.put, List.setIfInBounds_toArray, List.set_cons_zero, List.set_cons_succ, i64_w, i32_w]; rfl
    refine pure_ (i := 9) (N := some 24) (v := ?_) (a' := ?_) #[true, true, true, true, true, true, true, true, true, true, false] rfl rfl (any_of HT_.out (by kernel_rfl)) (fun _ _ _ h => h) (Or.inl ⟨by rfl, ?_⟩) ?_ ?_; rotate_left
    ·intro w'; go_simp; with_reducible rfl
    rotate_left
    ·simp only [Act.put, List.setIfInBounds_toArray, List.set_cons_zero, List.set_cons_succ, i64_w, i32_w]; rfl
    refine last_ (i := 10) (N := none) #[true, true, true, true, true, true, true, true, true, true, true] rfl rfl (one_of HT_.out (by kernel_rfl)) (by decide) (fun K hK => ?_)
    have hs15 := gz BK252 1 rfl
    have hfs15 := blk_frozen BK252.out 1
    have hns15_0 := NB248_252.out
    have hms15_0 := NB252_248.out
    refine skip_ (w1 := ?_) (by rfl) rfl ?_ ?_; rotate_left
    ·go_simp; rfl
    refine hK.out _ _ ?_; clear hK K
    refine done_ (done_of HT_.out (by kernel_rfl)) ?_
    try go_wp2
    go_roundg k1
    case measure => have := HK1.out; omega
    case rel => exact ⟨(wrap64 (x4_1 + 1)), (y254), (.slice Ao14 y254.length co14), (rfl), H', ⟨by have := HK1.out; omega⟩, ⟨Kd.R_mono (Kd.R_far (p := ⟨gb252, 1, none⟩) (Kd.R_types HO_253000.out BK252.out (by decide)) (fun _ hk => hk.2) (.slice Ao14 y254.length co14)) (fun _ hk => trivial)⟩, ⟨Kd.R_mono (Kd.R_far (p := ⟨gb252, 1, none⟩) (Kd.R_mono HO256.out (fun k_ hk => (⟨hk, hk.2.2⟩ : _ ∧ k_ ≠ gb252))) (fun _ hk => hk.2) (.slice Ao14 y254.length co14)) (fun _ hk => ⟨hk.1.1, ⟨hk.1.2.1, hk.1.2.2⟩⟩)⟩, ⟨by refine blk_far ?_ NB248_252.out _; exact gK BK248⟩, ⟨by refine blk_put (cs := #[.slice Ao5 y249.length co5, u253001]) ?_ 1 _ rfl; exact gK BK252⟩, ⟨by repeat first | exact gB HB | refine below_set ?_ GE248.out | refine below_set ?_ GE252.out⟩⟩
   ·rw [if_neg c9] at H
    have c9b0 := decide_eq_false c9
    clear c9
    simp only [Option.some.injEq, Prod.mk.injEq] at H
    obtain ⟨rfl, rfl⟩ := H
    have hnb16 := NB252_248.out
    have hnc16 := NB248_252.out
    obtain ⟨hcz17_0, hcz17_1, hfz17_0, hfz17_1⟩ := gz2 BK252
    obtain ⟨hcz18_0, hcz18_1, hfz18_0, hfz18_1⟩ := gz2 BK248
    obtain ⟨Ao19, co19, eo19⟩ := Kd.R_slice HO_253001.out
    subst eo19
    go_wp2
    refine bodyPost_ret (results_cell_row rfl _ _ gb248 25 #[.slice Ao5 y249.length co5, .slice Ao19 x253001_1.length co19] (0, 0) _ rfl (by refine blk_put (cs := #[.slice Ao5 y249.length co5, .slice none 0 0]) ?_ 1 _ rfl; refine blk_put (cs := #[.slice none 0 0, .slice none 0 0]) ?_ 0 _ rfl; exact gK BK248) Try.underlying25 rfl (by kernel_rfl)) rfl ?_
    exact ⟨_, _, rfl, Kd.R_mono (Kd.R_far (p := ⟨gb248, 1, none⟩) (Kd.R_far (p := ⟨gb248, 0, none⟩) (Kd.R_types HO_253000.out BK248.out (by decide)) (fun _ hk => hk.2) (.slice Ao5 y249.length co5)) (fun _ hk => hk.2) (.slice Ao19 x253001_1.length co19)) (fun _ hk => trivial), Kd.R_mono (Kd.R_far (p := ⟨gb248, 1, none⟩) (Kd.R_far (p := ⟨gb248, 0, none⟩) (Kd.R_mono HO_253001.out (fun k_ hk => (⟨hk, hk.2.1⟩ : _ ∧ k_ ≠ gb248))) (fun _ hk => hk.2) (.slice Ao5 y249.length co5)) (fun _ hk => hk.2) (.slice Ao19 x253001_1.length co19)) (fun _ hk => hk.1.1), by repeat first | exact gB HB | refine below_set ?_ GE248.out | refine below_set ?_ GE252.out⟩
def triglyphlaw08_works.f (k : Nat)  : Option (Bool) :=
 (triglyphref03_Nums.f k ([1, 2, 3] : List Int)).bind fun t2 => ((fold_Red.f k 22 false t2.1 t2.2 true).bind fun t14 => ((fold_Scan.f k 21 false t2.1 t2.2 false).bind fun t25 => ((fold_Outer.f k 23 false t2.1 t2.2 t2.1 t2.2).bind fun t36 => ((triglyphref03_Nums.f k ([] : List (Int))).bind fun t47 => ((fold_Red.f k 25 false t47.1 t47.2 true).bind fun t56 => (if t14.2.2 = 0 then (if (t14.2.1.length : Int) = 1 then (if (0 : Int) < (t14.2.1.length : Int) then (if (rd_T43 t14.2.1 0).f1 = 2 then (if t25.2.2 = 0 then (if (2 : Int) < (t25.2.1.length : Int) then (if (rd_T43 t25.2.1 2).f1 = 6 then (if t36.2.2 = 0 then (if (t36.2.1.length : Int) = 9 then (if t56.2.2 = 5 then (some true) else (none)) else (none)) else (none)) else (none)) else (none)) else (none)) else (none)) else (none)) else (none)) else (none)))))))
theorem triglyphlaw08_works.mono : ∀ k, LeO (triglyphlaw08_works.f k ) (triglyphlaw08_works.f (k + 1) ) := by
 intro  k
 unfold triglyphlaw08_works.f
 repeat (first | exact LeO.refl _ | exact LeO.none _ | refine LeO.ite ?_ ?_ | refine LeO.bind (fold_Outer.mono _ _ _ _ _ _ _) (fun _ => ?_) | refine LeO.bind (fold_Red.mono _ _ _ _ _ _) (fun _ => ?_) | refine LeO.bind (fold_Scan.mono _ _ _ _ _ _) (fun _ => ?_) | refine LeO.bind (triglyphref03_Nums.mono _ _) (fun _ => ?_) | refine LeO.bind (LeO.refl _) (fun _ => ?_))
set_option maxHeartbeats 8000000 in
set_option maxRecDepth 100000 in
theorem triglyphlaw08_works.calls (k : Nat)  (r : Bool) (w : World)  (h : triglyphlaw08_works.f k  = some r) :
  Calls Try.prog 11 #[] w fun e w' => e = .returned (.bool r) ∧ Below w.heap.size w w' := by
 have HS := Aside0.mk (BxS.nil w)
 unfold triglyphlaw08_works.f at h
 go_enter Try.func11, Try.ntmps11
 obtain ⟨⟨t2_1, t2_2⟩, q_, h⟩ := Option.bind_eq_some_iff.1 h; have E3 := Aside0.mk q_; clear q_; (try dsimp only at h)
 go_upto_region 2 with (first | (go_at_call 19; (refine (triglyphref03_Nums.calls k (some ⟨w.heap.size, 0, none⟩) 3 ([1, 2, 3] : List Int) _ _ _ (hf_litC (d := (Kd.int .i64)) ([1, 2, 3] : List Int) [.int .i64 1, .int .i64 2, .int .i64 3] (blk_new _ (.cells #[.int .i64 1, .int .i64 2, .int .i64 3] 2 (0, 0))) (Reps.snoc (Reps.snoc (Reps.snoc (Reps.none ((Kd.int .i64).K _) 1) rfl rfl) rfl rfl) rfl rfl) (Nat.le_of_ble_eq_true rfl)) (Nat.le_refl _) E3.out).mono ?_); rintro e w4 ⟨v0_, v1_, rfl, h0_, h1_, hb⟩; have CR11 := Aside0.mk (And.intro (Kd.C_below (hf_litC (d := (Kd.int .i64)) ([1, 2, 3] : List Int) [.int .i64 1, .int .i64 2, .int .i64 3] (blk_new _ (.cells #[.int .i64 1, .int .i64 2, .int .i64 3] 2 (0, 0))) (Reps.snoc (Reps.snoc (Reps.snoc (Reps.none ((Kd.int .i64).K _) 1) rfl rfl) rfl rfl) rfl rfl) (Nat.le_of_ble_eq_true rfl)) hb) (show (([1, 2, 3] : List Int)).length ≤ 3 from Nat.le_refl _)); obtain ⟨A5, c6, hv_, hl_, hf_⟩ := Kd.R_reads h0_; clear h0_; have CR7 := Aside0.mk (And.intro hf_ hl_); clear hf_ hl_; subst hv_; obtain ⟨A8, c9, hv_, hl_, hf_⟩ := Kd.R_reads h1_; clear h1_; have CR10 := Aside0.mk (And.intro hf_ hl_); clear hf_ hl_; subst hv_; have HS := Aside0.mk (HS.out.step (hf_ac hb)); clear hb; skip))
 (try clear z0_0 z0_1); skip
 have HS := Aside0.mk (HS.out.cons' #[.slice A5 t2_1.length c6, .slice A8 t2_2.length c9] 25 (rfl))
 have CR7 := Aside0.mk (And.intro (Kd.C_alloc CR7.out.1 (.cells #[.slice A5 t2_1.length c6, .slice A8 t2_2.length c9] 25)) CR7.out.2)
 have CR10 := Aside0.mk (And.intro (Kd.C_alloc CR10.out.1 (.cells #[.slice A5 t2_1.length c6, .slice A8 t2_2.length c9] 25)) CR10.out.2)
 have CR11 := Aside0.mk (And.intro (Kd.C_alloc CR11.out.1 (.cells #[.slice A5 t2_1.length c6, .slice A8 t2_2.length c9] 25)) CR11.out.2)
 generalize w4.alloc (.cells #[.slice A5 t2_1.length c6, .slice A8 t2_2.length c9] 25) = w12 at HS CR7 CR10 CR11 ⊢
 generalize w4.heap.size = g13 at HS ⊢
 have z0_0 : w12.cell? ⟨g13, 0, none⟩ = some (.slice A5 t2_1.length c6) := (blk_cell (HS.out.at_ 0 rfl) 0).trans rfl; have z0_1 : w12.cell? ⟨g13, 1, none⟩ = some (.slice A8 t2_2.length c9) := (blk_cell (HS.out.at_ 0 rfl) 1).trans rfl
 obtain ⟨⟨t14_1, t14_2, t14_3⟩, q_, h⟩ := Option.bind_eq_some_iff.1 h; have E15 := Aside0.mk q_; clear q_; (try dsimp only at h)
 go_upto_region 3 with (first | (go_at_call 12; (with_reducible refine (fold_Red.calls k 22 false A5 c6 t2_1 _ A8 c9 t2_2 true _ _ _ _ CR7.out.1 CR7.out.2 (Kd.V_mk CR10.out.2 (Kd.C_F k43_heap CR10.out.1)) E15.out).mono ?_); rintro e w16 ⟨v0_, v1_, rfl, h0_, h1_, hb⟩; obtain ⟨A17, c18, hv_, hl_, hf_⟩ := Kd.R_reads h0_; clear h0_; have CR19 := Aside0.mk (And.intro hf_ hl_); clear hf_ hl_; subst hv_; obtain ⟨A20, c21, hv_, hl_, hf_⟩ := Kd.N_reads h1_; clear h1_; have CR22 := Aside0.mk (And.intro hf_ hl_); clear hf_ hl_; subst hv_; have CR7 := Aside0.mk (And.intro (Kd.C_below CR7.out.1 hb) CR7.out.2); have CR10 := Aside0.mk (And.intro (Kd.C_below CR10.out.1 hb) CR10.out.2); have CR11 := Aside0.mk (And.intro (Kd.C_below CR11.out.1 hb) CR11.out.2); have HS := Aside0.mk (HS.out.step hb); clear hb; (try clear z0_0 z0_1); have z0_0 : w16.cell? ⟨g13, 0, none⟩ = some (.slice A5 t2_1.length c6) := (blk_cell (HS.out.at_ 0 rfl) 0).trans rfl; have z0_1 : w16.cell? ⟨g13, 1, none⟩ = some (.slice A8 t2_2.length c9) := (blk_cell (HS.out.at_ 0 rfl) 1).trans rfl))
 (try clear z0_0 z0_1 z1_0 z1_1); skip
 have HS := Aside0.mk (HS.out.cons' #[.slice A17 t14_1.length c18, .slice A20 t14_2.length c21] 25 (rfl))
 have CR7 := Aside0.mk (And.intro (Kd.C_alloc CR7.out.1 (.cells #[.slice A17 t14_1.length c18, .slice A20 t14_2.length c21] 25)) CR7.out.2)
 have CR10 := Aside0.mk (And.intro (Kd.C_alloc CR10.out.1 (.cells #[.slice A17 t14_1.length c18, .slice A20 t14_2.length c21] 25)) CR10.out.2)
 have CR11 := Aside0.mk (And.intro (Kd.C_alloc CR11.out.1 (.cells #[.slice A17 t14_1.length c18, .slice A20 t14_2.length c21] 25)) CR11.out.2)
 have CR19 := Aside0.mk (And.intro (Kd.C_alloc CR19.out.1 (.cells #[.slice A17 t14_1.length c18, .slice A20 t14_2.length c21] 25)) CR19.out.2)
 have CR22 := Aside0.mk (And.intro (Kd.C_alloc CR22.out.1 (.cells #[.slice A17 t14_1.length c18, .slice A20 t14_2.length c21] 25)) CR22.out.2)
 generalize w16.alloc (.cells #[.slice A17 t14_1.length c18, .slice A20 t14_2.length c21] 25) = w23 at HS CR7 CR10 CR11 CR19 CR22 ⊢
 generalize w16.heap.size = g24 at HS ⊢
 have z0_0 : w23.cell? ⟨g13, 0, none⟩ = some (.slice A5 t2_1.length c6) := (blk_cell (HS.out.at_ 1 rfl) 0).trans rfl; have z0_1 : w23.cell? ⟨g13, 1, none⟩ = some (.slice A8 t2_2.length c9) := (blk_cell (HS.out.at_ 1 rfl) 1).trans rfl; have z1_0 : w23.cell? ⟨g24, 0, none⟩ = some (.slice A17 t14_1.length c18) := (blk_cell (HS.out.at_ 0 rfl) 0).trans rfl; have z1_1 : w23.cell? ⟨g24, 1, none⟩ = some (.slice A20 t14_2.length c21) := (blk_cell (HS.out.at_ 0 rfl) 1).trans rfl
 obtain ⟨⟨t25_1, t25_2, t25_3⟩, q_, h⟩ := Option.bind_eq_some_iff.1 h; have E26 := Aside0.mk q_; clear q_; (try dsimp only at h)
 go_upto_region 4 with (first | (go_at_call 15; (with_reducible refine (fold_Scan.calls k 21 false A5 c6 t2_1 _ A8 c9 t2_2 false _ _ _ _ CR7.out.1 CR7.out.2 (Kd.V_mk CR10.out.2 (Kd.C_F k43_heap CR10.out.1)) E26.out).mono ?_); rintro e w27 ⟨v0_, v1_, rfl, h0_, h1_, hb⟩; obtain ⟨A28, c29, hv_, hl_, hf_⟩ := Kd.R_reads h0_; clear h0_; have CR30 := Aside0.mk (And.intro hf_ hl_); clear hf_ hl_; subst hv_; obtain ⟨A31, c32, hv_, hl_, hf_⟩ := Kd.N_reads h1_; clear h1_; have CR33 := Aside0.mk (And.intro hf_ hl_); clear hf_ hl_; subst hv_; have CR7 := Aside0.mk (And.intro (Kd.C_below CR7.out.1 hb) CR7.out.2); have CR10 := Aside0.mk (And.intro (Kd.C_below CR10.out.1 hb) CR10.out.2); have CR11 := Aside0.mk (And.intro (Kd.C_below CR11.out.1 hb) CR11.out.2); have CR19 := Aside0.mk (And.intro (Kd.C_below CR19.out.1 hb) CR19.out.2); have CR22 := Aside0.mk (And.intro (Kd.C_below CR22.out.1 hb) CR22.out.2); have HS := Aside0.mk (HS.out.step hb); clear hb; (try clear z0_0 z0_1 z1_0 z1_1); have z0_0 : w27.cell? ⟨g13, 0, none⟩ = some (.slice A5 t2_1.length c6) := (blk_cell (HS.out.at_ 1 rfl) 0).trans rfl; have z0_1 : w27.cell? ⟨g13, 1, none⟩ = some (.slice A8 t2_2.length c9) := (blk_cell (HS.out.at_ 1 rfl) 1).trans rfl; have z1_0 : w27.cell? ⟨g24, 0, none⟩ = some (.slice A17 t14_1.length c18) := (blk_cell (HS.out.at_ 0 rfl) 0).trans rfl; have z1_1 : w27.cell? ⟨g24, 1, none⟩ = some (.slice A20 t14_2.length c21) := (blk_cell (HS.out.at_ 0 rfl) 1).trans rfl))
 (try clear z0_0 z0_1 z1_0 z1_1 z2_0 z2_1); skip
 have HS := Aside0.mk (HS.out.cons' #[.slice A28 t25_1.length c29, .slice A31 t25_2.length c32] 25 (rfl))
 have CR7 := Aside0.mk (And.intro (Kd.C_alloc CR7.out.1 (.cells #[.slice A28 t25_1.length c29, .slice A31 t25_2.length c32] 25)) CR7.out.2)
 have CR10 := Aside0.mk (And.intro (Kd.C_alloc CR10.out.1 (.cells #[.slice A28 t25_1.length c29, .slice A31 t25_2.length c32] 25)) CR10.out.2)
 have CR11 := Aside0.mk (And.intro (Kd.C_alloc CR11.out.1 (.cells #[.slice A28 t25_1.length c29, .slice A31 t25_2.length c32] 25)) CR11.out.2)
 have CR19 := Aside0.mk (And.intro (Kd.C_alloc CR19.out.1 (.cells #[.slice A28 t25_1.length c29, .slice A31 t25_2.length c32] 25)) CR19.out.2)
 have CR22 := Aside0.mk (And.intro (Kd.C_alloc CR22.out.1 (.cells #[.slice A28 t25_1.length c29, .slice A31 t25_2.length c32] 25)) CR22.out.2)
 have CR30 := Aside0.mk (And.intro (Kd.C_alloc CR30.out.1 (.cells #[.slice A28 t25_1.length c29, .slice A31 t25_2.length c32] 25)) CR30.out.2)
 have CR33 := Aside0.mk (And.intro (Kd.C_alloc CR33.out.1 (.cells #[.slice A28 t25_1.length c29, .slice A31 t25_2.length c32] 25)) CR33.out.2)
 generalize w27.alloc (.cells #[.slice A28 t25_1.length c29, .slice A31 t25_2.length c32] 25) = w34 at HS CR7 CR10 CR11 CR19 CR22 CR30 CR33 ⊢
 generalize w27.heap.size = g35 at HS ⊢
 have z0_0 : w34.cell? ⟨g13, 0, none⟩ = some (.slice A5 t2_1.length c6) := (blk_cell (HS.out.at_ 2 rfl) 0).trans rfl; have z0_1 : w34.cell? ⟨g13, 1, none⟩ = some (.slice A8 t2_2.length c9) := (blk_cell (HS.out.at_ 2 rfl) 1).trans rfl; have z1_0 : w34.cell? ⟨g24, 0, none⟩ = some (.slice A17 t14_1.length c18) := (blk_cell (HS.out.at_ 1 rfl) 0).trans rfl; have z1_1 : w34.cell? ⟨g24, 1, none⟩ = some (.slice A20 t14_2.length c21) := (blk_cell (HS.out.at_ 1 rfl) 1).trans rfl; have z2_0 : w34.cell? ⟨g35, 0, none⟩ = some (.slice A28 t25_1.length c29) := (blk_cell (HS.out.at_ 0 rfl) 0).trans rfl; have z2_1 : w34.cell? ⟨g35, 1, none⟩ = some (.slice A31 t25_2.length c32) := (blk_cell (HS.out.at_ 0 rfl) 1).trans rfl
 obtain ⟨⟨t36_1, t36_2, t36_3⟩, q_, h⟩ := Option.bind_eq_some_iff.1 h; have E37 := Aside0.mk q_; clear q_; (try dsimp only at h)
 go_upto_region 5 with (first | (go_at_call 17; (with_reducible refine (fold_Outer.calls k 23 false A5 c6 t2_1 A8 c9 t2_2 A5 c6 t2_1 A8 c9 t2_2 _ _ _ _ CR7.out.1 CR7.out.2 CR10.out.1 CR10.out.2 CR7.out.1 CR7.out.2 CR10.out.1 CR10.out.2 E37.out).mono ?_); rintro e w38 ⟨v0_, v1_, rfl, h0_, h1_, hb⟩; obtain ⟨A39, c40, hv_, hl_, hf_⟩ := Kd.R_reads h0_; clear h0_; have CR41 := Aside0.mk (And.intro hf_ hl_); clear hf_ hl_; subst hv_; obtain ⟨A42, c43, hv_, hl_, hf_⟩ := Kd.R_reads h1_; clear h1_; have CR44 := Aside0.mk (And.intro hf_ hl_); clear hf_ hl_; subst hv_; have CR7 := Aside0.mk (And.intro (Kd.C_below CR7.out.1 hb) CR7.out.2); have CR10 := Aside0.mk (And.intro (Kd.C_below CR10.out.1 hb) CR10.out.2); have CR11 := Aside0.mk (And.intro (Kd.C_below CR11.out.1 hb) CR11.out.2); have CR19 := Aside0.mk (And.intro (Kd.C_below CR19.out.1 hb) CR19.out.2); have CR22 := Aside0.mk (And.intro (Kd.C_below CR22.out.1 hb) CR22.out.2); have CR30 := Aside0.mk (And.intro (Kd.C_below CR30.out.1 hb) CR30.out.2); have CR33 := Aside0.mk (And.intro (Kd.C_below CR33.out.1 hb) CR33.out.2); have HS := Aside0.mk (HS.out.step hb); clear hb; (try clear z0_0 z0_1 z1_0 z1_1 z2_0 z2_1); have z0_0 : w38.cell? ⟨g13, 0, none⟩ = some (.slice A5 t2_1.length c6) := (blk_cell (HS.out.at_ 2 rfl) 0).trans rfl; have z0_1 : w38.cell? ⟨g13, 1, none⟩ = some (.slice A8 t2_2.length c9) := (blk_cell (HS.out.at_ 2 rfl) 1).trans rfl; have z1_0 : w38.cell? ⟨g24, 0, none⟩ = some (.slice A17 t14_1.length c18) := (blk_cell (HS.out.at_ 1 rfl) 0).trans rfl; have z1_1 : w38.cell? ⟨g24, 1, none⟩ = some (.slice A20 t14_2.length c21) := (blk_cell (HS.out.at_ 1 rfl) 1).trans rfl; have z2_0 : w38.cell? ⟨g35, 0, none⟩ = some (.slice A28 t25_1.length c29) := (blk_cell (HS.out.at_ 0 rfl) 0).trans rfl; have z2_1 : w38.cell? ⟨g35, 1, none⟩ = some (.slice A31 t25_2.length c32) := (blk_cell (HS.out.at_ 0 rfl) 1).trans rfl))
 (try clear z0_0 z0_1 z1_0 z1_1 z2_0 z2_1 z3_0 z3_1); skip
 have HS := Aside0.mk (HS.out.cons' #[.slice A39 t36_1.length c40, .slice A42 t36_2.length c43] 25 (rfl))
 have CR7 := Aside0.mk (And.intro (Kd.C_alloc CR7.out.1 (.cells #[.slice A39 t36_1.length c40, .slice A42 t36_2.length c43] 25)) CR7.out.2)
 have CR10 := Aside0.mk (And.intro (Kd.C_alloc CR10.out.1 (.cells #[.slice A39 t36_1.length c40, .slice A42 t36_2.length c43] 25)) CR10.out.2)
 have CR11 := Aside0.mk (And.intro (Kd.C_alloc CR11.out.1 (.cells #[.slice A39 t36_1.length c40, .slice A42 t36_2.length c43] 25)) CR11.out.2)
 have CR19 := Aside0.mk (And.intro (Kd.C_alloc CR19.out.1 (.cells #[.slice A39 t36_1.length c40, .slice A42 t36_2.length c43] 25)) CR19.out.2)
 have CR22 := Aside0.mk (And.intro (Kd.C_alloc CR22.out.1 (.cells #[.slice A39 t36_1.length c40, .slice A42 t36_2.length c43] 25)) CR22.out.2)
 have CR30 := Aside0.mk (And.intro (Kd.C_alloc CR30.out.1 (.cells #[.slice A39 t36_1.length c40, .slice A42 t36_2.length c43] 25)) CR30.out.2)
 have CR33 := Aside0.mk (And.intro (Kd.C_alloc CR33.out.1 (.cells #[.slice A39 t36_1.length c40, .slice A42 t36_2.length c43] 25)) CR33.out.2)
 have CR41 := Aside0.mk (And.intro (Kd.C_alloc CR41.out.1 (.cells #[.slice A39 t36_1.length c40, .slice A42 t36_2.length c43] 25)) CR41.out.2)
 have CR44 := Aside0.mk (And.intro (Kd.C_alloc CR44.out.1 (.cells #[.slice A39 t36_1.length c40, .slice A42 t36_2.length c43] 25)) CR44.out.2)
 generalize w38.alloc (.cells #[.slice A39 t36_1.length c40, .slice A42 t36_2.length c43] 25) = w45 at HS CR7 CR10 CR11 CR19 CR22 CR30 CR33 CR41 CR44 ⊢
 generalize w38.heap.size = g46 at HS ⊢
 have z0_0 : w45.cell? ⟨g13, 0, none⟩ = some (.slice A5 t2_1.length c6) := (blk_cell (HS.out.at_ 3 rfl) 0).trans rfl; have z0_1 : w45.cell? ⟨g13, 1, none⟩ = some (.slice A8 t2_2.length c9) := (blk_cell (HS.out.at_ 3 rfl) 1).trans rfl; have z1_0 : w45.cell? ⟨g24, 0, none⟩ = some (.slice A17 t14_1.length c18) := (blk_cell (HS.out.at_ 2 rfl) 0).trans rfl; have z1_1 : w45.cell? ⟨g24, 1, none⟩ = some (.slice A20 t14_2.length c21) := (blk_cell (HS.out.at_ 2 rfl) 1).trans rfl; have z2_0 : w45.cell? ⟨g35, 0, none⟩ = some (.slice A28 t25_1.length c29) := (blk_cell (HS.out.at_ 1 rfl) 0).trans rfl; have z2_1 : w45.cell? ⟨g35, 1, none⟩ = some (.slice A31 t25_2.length c32) := (blk_cell (HS.out.at_ 1 rfl) 1).trans rfl; have z3_0 : w45.cell? ⟨g46, 0, none⟩ = some (.slice A39 t36_1.length c40) := (blk_cell (HS.out.at_ 0 rfl) 0).trans rfl; have z3_1 : w45.cell? ⟨g46, 1, none⟩ = some (.slice A42 t36_2.length c43) := (blk_cell (HS.out.at_ 0 rfl) 1).trans rfl
 obtain ⟨⟨t47_1, t47_2⟩, q_, h⟩ := Option.bind_eq_some_iff.1 h; have E48 := Aside0.mk q_; clear q_; (try dsimp only at h)
 obtain ⟨⟨t56_1, t56_2, t56_3⟩, q_, h⟩ := Option.bind_eq_some_iff.1 h; have E57 := Aside0.mk q_; clear q_; (try dsimp only at h)
 go_upto_region 6 with (first | (go_at_call 19; (refine (triglyphref03_Nums.calls k none 0 ([] : List (Int)) _ _ _ (Kd.C_nil _ _) (Nat.le_refl _) E48.out).mono ?_); rintro e w49 ⟨v0_, v1_, rfl, h0_, h1_, hb⟩; obtain ⟨A50, c51, hv_, hl_, hf_⟩ := Kd.R_reads h0_; clear h0_; have CR52 := Aside0.mk (And.intro hf_ hl_); clear hf_ hl_; subst hv_; obtain ⟨A53, c54, hv_, hl_, hf_⟩ := Kd.R_reads h1_; clear h1_; have CR55 := Aside0.mk (And.intro hf_ hl_); clear hf_ hl_; subst hv_; have CR7 := Aside0.mk (And.intro (Kd.C_below CR7.out.1 hb) CR7.out.2); have CR10 := Aside0.mk (And.intro (Kd.C_below CR10.out.1 hb) CR10.out.2); have CR11 := Aside0.mk (And.intro (Kd.C_below CR11.out.1 hb) CR11.out.2); have CR19 := Aside0.mk (And.intro (Kd.C_below CR19.out.1 hb) CR19.out.2); have CR22 := Aside0.mk (And.intro (Kd.C_below CR22.out.1 hb) CR22.out.2); have CR30 := Aside0.mk (And.intro (Kd.C_below CR30.out.1 hb) CR30.out.2); have CR33 := Aside0.mk (And.intro (Kd.C_below CR33.out.1 hb) CR33.out.2); have CR41 := Aside0.mk (And.intro (Kd.C_below CR41.out.1 hb) CR41.out.2); have CR44 := Aside0.mk (And.intro (Kd.C_below CR44.out.1 hb) CR44.out.2); have HS := Aside0.mk (HS.out.step hb); clear hb; (try clear z0_0 z0_1 z1_0 z1_1 z2_0 z2_1 z3_0 z3_1); have z0_0 : w49.cell? ⟨g13, 0, none⟩ = some (.slice A5 t2_1.length c6) := (blk_cell (HS.out.at_ 3 rfl) 0).trans rfl; have z0_1 : w49.cell? ⟨g13, 1, none⟩ = some (.slice A8 t2_2.length c9) := (blk_cell (HS.out.at_ 3 rfl) 1).trans rfl; have z1_0 : w49.cell? ⟨g24, 0, none⟩ = some (.slice A17 t14_1.length c18) := (blk_cell (HS.out.at_ 2 rfl) 0).trans rfl; have z1_1 : w49.cell? ⟨g24, 1, none⟩ = some (.slice A20 t14_2.length c21) := (blk_cell (HS.out.at_ 2 rfl) 1).trans rfl; have z2_0 : w49.cell? ⟨g35, 0, none⟩ = some (.slice A28 t25_1.length c29) := (blk_cell (HS.out.at_ 1 rfl) 0).trans rfl; have z2_1 : w49.cell? ⟨g35, 1, none⟩ = some (.slice A31 t25_2.length c32) := (blk_cell (HS.out.at_ 1 rfl) 1).trans rfl; have z3_0 : w49.cell? ⟨g46, 0, none⟩ = some (.slice A39 t36_1.length c40) := (blk_cell (HS.out.at_ 0 rfl) 0).trans rfl; have z3_1 : w49.cell? ⟨g46, 1, none⟩ = some (.slice A42 t36_2.length c43) := (blk_cell (HS.out.at_ 0 rfl) 1).trans rfl) | (go_at_call 12; (with_reducible refine (fold_Red.calls k 25 false A50 c51 t47_1 _ A53 c54 t47_2 true _ _ _ _ CR52.out.1 CR52.out.2 (Kd.V_mk CR55.out.2 (Kd.C_F k43_heap CR55.out.1)) E57.out).mono ?_); rintro e w58 ⟨v0_, v1_, rfl, h0_, h1_, hb⟩; obtain ⟨A59, c60, hv_, hl_, hf_⟩ := Kd.R_reads h0_; clear h0_; have CR61 := Aside0.mk (And.intro hf_ hl_); clear hf_ hl_; subst hv_; obtain ⟨A62, c63, hv_, hl_, hf_⟩ := Kd.N_reads h1_; clear h1_; have CR64 := Aside0.mk (And.intro hf_ hl_); clear hf_ hl_; subst hv_; have CR7 := Aside0.mk (And.intro (Kd.C_below CR7.out.1 hb) CR7.out.2); have CR10 := Aside0.mk (And.intro (Kd.C_below CR10.out.1 hb) CR10.out.2); have CR11 := Aside0.mk (And.intro (Kd.C_below CR11.out.1 hb) CR11.out.2); have CR19 := Aside0.mk (And.intro (Kd.C_below CR19.out.1 hb) CR19.out.2); have CR22 := Aside0.mk (And.intro (Kd.C_below CR22.out.1 hb) CR22.out.2); have CR30 := Aside0.mk (And.intro (Kd.C_below CR30.out.1 hb) CR30.out.2); have CR33 := Aside0.mk (And.intro (Kd.C_below CR33.out.1 hb) CR33.out.2); have CR41 := Aside0.mk (And.intro (Kd.C_below CR41.out.1 hb) CR41.out.2); have CR44 := Aside0.mk (And.intro (Kd.C_below CR44.out.1 hb) CR44.out.2); have CR52 := Aside0.mk (And.intro (Kd.C_below CR52.out.1 hb) CR52.out.2); have CR55 := Aside0.mk (And.intro (Kd.C_below CR55.out.1 hb) CR55.out.2); have HS := Aside0.mk (HS.out.step hb); clear hb; (try clear z0_0 z0_1 z1_0 z1_1 z2_0 z2_1 z3_0 z3_1); have z0_0 : w58.cell? ⟨g13, 0, none⟩ = some (.slice A5 t2_1.length c6) := (blk_cell (HS.out.at_ 3 rfl) 0).trans rfl; have z0_1 : w58.cell? ⟨g13, 1, none⟩ = some (.slice A8 t2_2.length c9) := (blk_cell (HS.out.at_ 3 rfl) 1).trans rfl; have z1_0 : w58.cell? ⟨g24, 0, none⟩ = some (.slice A17 t14_1.length c18) := (blk_cell (HS.out.at_ 2 rfl) 0).trans rfl; have z1_1 : w58.cell? ⟨g24, 1, none⟩ = some (.slice A20 t14_2.length c21) := (blk_cell (HS.out.at_ 2 rfl) 1).trans rfl; have z2_0 : w58.cell? ⟨g35, 0, none⟩ = some (.slice A28 t25_1.length c29) := (blk_cell (HS.out.at_ 1 rfl) 0).trans rfl; have z2_1 : w58.cell? ⟨g35, 1, none⟩ = some (.slice A31 t25_2.length c32) := (blk_cell (HS.out.at_ 1 rfl) 1).trans rfl; have z3_0 : w58.cell? ⟨g46, 0, none⟩ = some (.slice A39 t36_1.length c40) := (blk_cell (HS.out.at_ 0 rfl) 0).trans rfl; have z3_1 : w58.cell? ⟨g46, 1, none⟩ = some (.slice A42 t36_2.length c43) := (blk_cell (HS.out.at_ 0 rfl) 1).trans rfl))
 (try clear z0_0 z0_1 z1_0 z1_1 z2_0 z2_1 z3_0 z3_1 z4_0 z4_1); skip
 have HS := Aside0.mk (HS.out.cons' #[.slice A59 t56_1.length c60, .slice A62 t56_2.length c63] 25 (rfl))
 have CR7 := Aside0.mk (And.intro (Kd.C_alloc CR7.out.1 (.cells #[.slice A59 t56_1.length c60, .slice A62 t56_2.length c63] 25)) CR7.out.2)
 have CR10 := Aside0.mk (And.intro (Kd.C_alloc CR10.out.1 (.cells #[.slice A59 t56_1.length c60, .slice A62 t56_2.length c63] 25)) CR10.out.2)
 have CR11 := Aside0.mk (And.intro (Kd.C_alloc CR11.out.1 (.cells #[.slice A59 t56_1.length c60, .slice A62 t56_2.length c63] 25)) CR11.out.2)
 have CR19 := Aside0.mk (And.intro (Kd.C_alloc CR19.out.1 (.cells #[.slice A59 t56_1.length c60, .slice A62 t56_2.length c63] 25)) CR19.out.2)
 have CR22 := Aside0.mk (And.intro (Kd.C_alloc CR22.out.1 (.cells #[.slice A59 t56_1.length c60, .slice A62 t56_2.length c63] 25)) CR22.out.2)
 have CR30 := Aside0.mk (And.intro (Kd.C_alloc CR30.out.1 (.cells #[.slice A59 t56_1.length c60, .slice A62 t56_2.length c63] 25)) CR30.out.2)
 have CR33 := Aside0.mk (And.intro (Kd.C_alloc CR33.out.1 (.cells #[.slice A59 t56_1.length c60, .slice A62 t56_2.length c63] 25)) CR33.out.2)
 have CR41 := Aside0.mk (And.intro (Kd.C_alloc CR41.out.1 (.cells #[.slice A59 t56_1.length c60, .slice A62 t56_2.length c63] 25)) CR41.out.2)
 have CR44 := Aside0.mk (And.intro (Kd.C_alloc CR44.out.1 (.cells #[.slice A59 t56_1.length c60, .slice A62 t56_2.length c63] 25)) CR44.out.2)
 have CR52 := Aside0.mk (And.intro (Kd.C_alloc CR52.out.1 (.cells #[.slice A59 t56_1.length c60, .slice A62 t56_2.length c63] 25)) CR52.out.2)
 have CR55 := Aside0.mk (And.intro (Kd.C_alloc CR55.out.1 (.cells #[.slice A59 t56_1.length c60, .slice A62 t56_2.length c63] 25)) CR55.out.2)
 have CR61 := Aside0.mk (And.intro (Kd.C_alloc CR61.out.1 (.cells #[.slice A59 t56_1.length c60, .slice A62 t56_2.length c63] 25)) CR61.out.2)
 have CR64 := Aside0.mk (And.intro (Kd.C_alloc CR64.out.1 (.cells #[.slice A59 t56_1.length c60, .slice A62 t56_2.length c63] 25)) CR64.out.2)
 generalize w58.alloc (.cells #[.slice A59 t56_1.length c60, .slice A62 t56_2.length c63] 25) = w65 at HS CR7 CR10 CR11 CR19 CR22 CR30 CR33 CR41 CR44 CR52 CR55 CR61 CR64 ⊢
 generalize w58.heap.size = g66 at HS ⊢
 have z0_0 : w65.cell? ⟨g13, 0, none⟩ = some (.slice A5 t2_1.length c6) := (blk_cell (HS.out.at_ 4 rfl) 0).trans rfl; have z0_1 : w65.cell? ⟨g13, 1, none⟩ = some (.slice A8 t2_2.length c9) := (blk_cell (HS.out.at_ 4 rfl) 1).trans rfl; have z1_0 : w65.cell? ⟨g24, 0, none⟩ = some (.slice A17 t14_1.length c18) := (blk_cell (HS.out.at_ 3 rfl) 0).trans rfl; have z1_1 : w65.cell? ⟨g24, 1, none⟩ = some (.slice A20 t14_2.length c21) := (blk_cell (HS.out.at_ 3 rfl) 1).trans rfl; have z2_0 : w65.cell? ⟨g35, 0, none⟩ = some (.slice A28 t25_1.length c29) := (blk_cell (HS.out.at_ 2 rfl) 0).trans rfl; have z2_1 : w65.cell? ⟨g35, 1, none⟩ = some (.slice A31 t25_2.length c32) := (blk_cell (HS.out.at_ 2 rfl) 1).trans rfl; have z3_0 : w65.cell? ⟨g46, 0, none⟩ = some (.slice A39 t36_1.length c40) := (blk_cell (HS.out.at_ 1 rfl) 0).trans rfl; have z3_1 : w65.cell? ⟨g46, 1, none⟩ = some (.slice A42 t36_2.length c43) := (blk_cell (HS.out.at_ 1 rfl) 1).trans rfl; have z4_0 : w65.cell? ⟨g66, 0, none⟩ = some (.slice A59 t56_1.length c60) := (blk_cell (HS.out.at_ 0 rfl) 0).trans rfl; have z4_1 : w65.cell? ⟨g66, 1, none⟩ = some (.slice A62 t56_2.length c63) := (blk_cell (HS.out.at_ 0 rfl) 1).trans rfl
 by_cases q67 : t14_3 = 0
 ·rw [if_pos q67] at h
  have q67b0 := (beq_iff_eq.2 q67 : (t14_3 == 0) = true)
  have Iq67 := Aside0.mk q67
  clear q67
  by_cases q68 : (t14_2.length : Int) = 1
  ·rw [if_pos q68] at h
   have q68b0 := (beq_iff_eq.2 q68 : ((t14_2.length : Int) == 1) = true)
   have Iq68 := Aside0.mk q68
   clear q68
   by_cases q69 : (0 : Int) < (t14_2.length : Int)
   ·rw [if_pos q69] at h
    have q69b0 := q69
    clear q69
    obtain ⟨ad70, A71, c72, ea_, ad70_0, ad70_1, ad70_2, ad70l2, ad70c2⟩ := at_T43 CR22.out.1 (0 : Int) (by omega) (by omega)
    subst ea_
    rw [show Int.toNat 0 * 3 = 0 from rfl] at ad70_0 ad70_1 ad70_2
    rw [Addr.add_zero'] at ad70_0 ad70_1 ad70_2
    have CR73 := Aside0.mk (And.intro ad70c2 ad70l2); clear ad70c2 ad70l2
    by_cases q74 : (rd_T43 t14_2 0).f1 = 2
    ·rw [if_pos q74] at h
     have q74b0 := (beq_iff_eq.2 q74 : ((rd_T43 t14_2 0).f1 == 2) = true)
     have Iq74 := Aside0.mk q74
     clear q74
     by_cases q75 : t25_3 = 0
     ·rw [if_pos q75] at h
      have q75b0 := (beq_iff_eq.2 q75 : (t25_3 == 0) = true)
      have Iq75 := Aside0.mk q75
      clear q75
      by_cases q76 : (2 : Int) < (t25_2.length : Int)
      ·rw [if_pos q76] at h
       have q76b0 := q76
       clear q76
       obtain ⟨ad77, A78, c79, ea_, ad77_0, ad77_1, ad77_2, ad77l2, ad77c2⟩ := at_T43 CR33.out.1 (2 : Int) (by omega) (by omega)
       subst ea_
       rw [show Int.toNat 2 * 3 = 6 from rfl] at ad77_0 ad77_1 ad77_2
       rw [hf_add _ 6 (by decide)] at ad77_0 ad77_1 ad77_2; (try dsimp only at ad77_0 ad77_1 ad77_2)
       have CR80 := Aside0.mk (And.intro ad77c2 ad77l2); clear ad77c2 ad77l2
       by_cases q81 : (rd_T43 t25_2 2).f1 = 6
       ·rw [if_pos q81] at h
        have q81b0 := (beq_iff_eq.2 q81 : ((rd_T43 t25_2 2).f1 == 6) = true)
        have Iq81 := Aside0.mk q81
        clear q81
        by_cases q82 : t36_3 = 0
        ·rw [if_pos q82] at h
         have q82b0 := (beq_iff_eq.2 q82 : (t36_3 == 0) = true)
         have Iq82 := Aside0.mk q82
         clear q82
         by_cases q83 : (t36_2.length : Int) = 9
         ·rw [if_pos q83] at h
          have q83b0 := (beq_iff_eq.2 q83 : ((t36_2.length : Int) == 9) = true)
          have Iq83 := Aside0.mk q83
          clear q83
          by_cases q84 : t56_3 = 5
          ·rw [if_pos q84] at h
           have q84b0 := (beq_iff_eq.2 q84 : (t56_3 == 5) = true)
           have Iq84 := Aside0.mk q84
           clear q84
           obtain rfl := Option.some.inj h
           go_wp2_with (fail)
           go_ret
           exact ⟨rfl, HS.out.bel⟩
          ·rw [if_neg q84] at h
           cases h
         ·rw [if_neg q83] at h
          cases h
        ·rw [if_neg q82] at h
         cases h
       ·rw [if_neg q81] at h
        cases h
      ·rw [if_neg q76] at h
       cases h
     ·rw [if_neg q75] at h
      cases h
    ·rw [if_neg q74] at h
     cases h
   ·rw [if_neg q69] at h
    cases h
  ·rw [if_neg q68] at h
   cases h
 ·rw [if_neg q67] at h
  cases h
def triglyphref03_ints.f (a0 : Int) (a1 : Int) : Option (Int) := if a0 < a1 then (some (-1)) else (if a0 > a1 then (some 1) else (some 0))
set_option maxHeartbeats 8000000 in
set_option maxRecDepth 100000 in
theorem triglyphref03_ints.calls (a0 : Int) (a1 : Int) (r : Int) (w : World) (h : triglyphref03_ints.f a0 a1 = some r) :
  Calls Try.prog 44 #[.int .i64 a0, .int .i64 a1] w fun e w' => e = .returned (.int .i64 r) ∧ Drawn0 w w' := by
 have H : (if a0 < a1 then (some (-1)) else (if a0 > a1 then (some 1) else (some 0))) = some r := h
 clear h
 by_cases c3 : a0 < a1
 ·rw [if_pos c3] at H
  have c3b0 := decide_eq_true c3
  clear c3
  obtain rfl := Option.some.inj H
  go_enter Try.func44, Try.ntmps44
  go_wp2
  go_ret
  exact ⟨rfl, by repeat (first | exact Drawn0.refl _ | apply Drawn0.step)⟩
 ·rw [if_neg c3] at H
  have c3b0 := decide_eq_false c3
  clear c3
  by_cases c4 : a0 > a1
  ·rw [if_pos c4] at H
   have c4b0 : decide (a1 < a0) = true := decide_eq_true c4
   clear c4
   obtain rfl := Option.some.inj H
   go_enter Try.func44, Try.ntmps44
   go_wp2
   go_ret
   exact ⟨rfl, by repeat (first | exact Drawn0.refl _ | apply Drawn0.step)⟩
  ·rw [if_neg c4] at H
   have c4b0 : decide (a1 < a0) = false := decide_eq_false c4
   clear c4
   obtain rfl := Option.some.inj H
   go_enter Try.func44, Try.ntmps44
   go_wp2
   go_ret
   exact ⟨rfl, by repeat (first | exact Drawn0.refl _ | apply Drawn0.step)⟩
end Go.Proofs.Ytahgfebdjjfkhaa.P
