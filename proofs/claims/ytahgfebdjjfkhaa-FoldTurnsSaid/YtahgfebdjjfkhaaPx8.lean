/- Written by a program of this session: the functions that the laws reach, what each comes to, and each law as it is stated, for every input. No condition. -/
import Derived.Test.YtahgfebdjjfkhaaPx0
import Derived.Test.YtahgfebdjjfkhaaPx5
import Derived.Test.YtahgfebdjjfkhaaPx6
import Derived.Test.YtahgfebdjjfkhaaPx7
namespace Go.Proofs.Ytahgfebdjjfkhaa.P
open Go.RowKit Go.Proofs.YtahgfebdjjfkhaaW.PrintWords Go.Proofs.YtahgfebdjjfkhaaW.PrintLast Go.Proofs.YtahgfebdjjfkhaaW.PrintMore
attribute [local go_sem] max2_int min2_int max_two min_two max_three min_three max_four min_four   -- for this text's walks alone
set_option linter.unusedVariables false
set_option linter.unusedSimpArgs false
def fold_F_row.lp (k : Nat) (op : Int) (t : Bool) (l : List (S43)) : Nat → S43 → Option (Int × Int × (List (S25)) × Int)
 | 0, c => some (c.f0, c.f1, c.f2, 0)
 | i + 1, c => (fold_F_of.f k op t (rd_T43 l (i : Int)).f0 (rd_T43 l (i : Int)).f1 (rd_T43 l (i : Int)).f2 c.f0 c.f1 c.f2).bind fun b => if b.2.2.2 = 0 then fold_F_row.lp k op t l i ⟨b.1, b.2.1, b.2.2.1⟩ else some (0, 0, [], b.2.2.2)
def fold_F_row.f (k : Nat) (a0_0 : Int) (a0_1 : Bool) (l1 : List (S43)) : Option (Int × Int × (List (S25)) × Int) :=
 if l1.length = 1 then some ((rd_T43 l1 0).f0, (rd_T43 l1 0).f1, (rd_T43 l1 0).f2, 0)
 else if l1.length = 0 then (if a0_0 = 21 ∨ a0_0 = 22 then some (0, 0, [], 0) else if a0_0 = 23 then some (0, 1, [], 0) else some (0, 0, [], 5))
 else if a0_0 = 21 ∨ a0_0 = 23 then ((fold_numbers.f k l1).bind fun b => if b.2 = 0 then (if a0_0 = 23 then num_Prod.f k b.1 else num_Sum.f b.1).bind fun c => some (0, c.1, [], c.2) else some (0, 0, [], b.2))
 else fold_F_row.lp k a0_0 a0_1 l1 (l1.length - 1) (rd_T43 l1 ((l1.length - 1 : Nat) : Int))
theorem fold_F_row.mono_lp (k : Nat) (op : Int) (t : Bool) (l : List (S43)) : ∀ i c, LeO (fold_F_row.lp k op t l i c) (fold_F_row.lp (k + 1) op t l i c)
 | 0, _ => LeO.refl _
 | i + 1, c => by
  unfold fold_F_row.lp
  exact LeO.bind (fold_F_of.mono _ _ _ _ _ _ _ _ _) (fun _ => LeO.ite (fold_F_row.mono_lp k op t l i _) (LeO.refl _))
theorem fold_F_row.mono : ∀ a0 a1 a2 k, LeO (fold_F_row.f k a0 a1 a2) (fold_F_row.f (k + 1) a0 a1 a2) := by
 intro a0 a1 a2 k
 unfold fold_F_row.f
 exact LeO.ite (LeO.refl _) (LeO.ite (LeO.refl _) (LeO.ite (LeO.bind (fold_numbers.mono _ _) (fun _ => LeO.ite (LeO.bind (LeO.ite (num_Prod.mono _ _) (LeO.refl _)) (fun _ => LeO.refl _)) (LeO.refl _))) (fold_F_row.mono_lp _ _ _ _ _ _)))
def fold_F_row.T23 : Bool × List (List Nat × List Nat) := (true, [([], []), ([], []), ([], []), ([1, 2], [1, 2]), ([3], [3]), ([], []), ([0, 4, 5], [0, 4, 5]), ([6], [6]), ([7], [7]), ([7], [7]), ([8, 6, 0, 1, 2, 3, 4, 5, 6, 7, 8], [8]), ([9, 10, 0, 1, 2, 3, 4, 5, 6, 7, 8, 9, 10], [9])])
def fold_F_row.B23 : List Nat := [0, 0, 0, 6, 14, 0, 63, 127, 255, 255, 511, 2047]
theorem fold_F_row.tab23 : rtab .any (opsOf Try.f32 23) = fold_F_row.T23 := by kernel_rfl
theorem fold_F_row.bits23 : waitsOk fold_F_row.T23.2 fold_F_row.B23 = true := by kernel_rfl
set_option maxHeartbeats 8000000 in
set_option maxRecDepth 100000 in
theorem fold_F_row.calls (k : Nat) (a0_0 : Int) (a0_1 : Bool) (P1_ : Nat → Prop) (A1 : Option Addr) (c1 : Nat) (l1 : List (S43)) (r1 : Int) (r2 : Int) (r3 : List (S25)) (r4 : Int) (w : World) (hs1 : Kd.V k43 43 w w.heap.size (fun k_ => P1_ k_) (.slice A1 l1.length c1) l1) (h : fold_F_row.f k a0_0 a0_1 l1 = some (r1, r2, r3, r4)) :
  Calls Try.prog 32 #[.agg #[.int .i64 a0_0, .bool a0_1], .slice A1 l1.length c1] w fun e w' => ∃ v2_ : Value, e = .returned (.tuple #[.agg #[.int .i64 r1, .int .i64 r2, v2_], .int .i64 r4]) ∧ Kd.V k25 25 w' w.heap.size (fun k_ => (P1_ k_ ∨ w.heap.size ≤ k_)) v2_ r3 ∧ Below w.heap.size w w' := by
 have hu_c := Try.underlying43; have hu_f := Try.underlying32
 have HV := Aside0.mk hs1; clear hs1
 have HS := Aside0.mk (BxS.pair w #[.int .i64 a0_0, .bool a0_1] 32 #[.int .i64 0, .int .i64 0, .slice none 0 0] 43)
 have HP := Aside0.mk (Kd.V_bound HV.out)
 unfold fold_F_row.f at h
 by_cases c1 : l1.length = 1
 ·rw [if_pos c1] at h
  simp only [Option.some.injEq, Prod.mk.injEq] at h; obtain ⟨rfl, rfl, rfl, rfl⟩ := h
  obtain ⟨ad, A2, c2, ea, x0_, x1_, x2_, xl, xF⟩ := fat_C (Kd.V_at HP.out).2.2 0 (by omega) (by omega)
  subst ea; rw [show Int.toNat 0 * 3 = 0 from rfl, Addr.add_zero'] at x0_ x1_ x2_
  generalize rd_T43 l1 0 = c at x0_ x1_ x2_ xl xF ⊢
  have q1 : ((l1.length : Int) == 1) = true := by simp; omega
  have q2 : (0 : Int) < (l1.length : Int) := by omega
  have q3 : (0 < l1.length) = True := eq_true (by omega)
  have XF := Aside0.mk (And.intro xl xF); have X0 := Aside0.mk (And.intro x0_ (And.intro x1_ x2_)); clear c1 xl xF x0_ x1_ x2_
  go_enter Try.func32, Try.ntmps32
  go_upto_region 1 with (fail)
  generalize ((w.alloc (.cells #[.int .i64 a0_0, .bool a0_1] 32)).alloc (.cells #[.int .i64 0, .int .i64 0, .slice none 0 0] 43)) = W at HS ⊢
  have x0 : W.cell? ⟨w.heap.size, 0, none⟩ = some (.int .i64 a0_0) := (blk_cell (HS.out.at_ 1 rfl) 0).trans rfl; have x1 : W.cell? ⟨w.heap.size, 1, none⟩ = some (.bool a0_1) := (blk_cell (HS.out.at_ 1 rfl) 1).trans rfl; have z0 : W.cell? ⟨w.heap.size + 1, 0, none⟩ = some (.int .i64 0) := (blk_cell (HS.out.at_ 0 rfl) 0).trans rfl; have z1 : W.cell? ⟨w.heap.size + 1, 1, none⟩ = some (.int .i64 0) := (blk_cell (HS.out.at_ 0 rfl) 1).trans rfl; have z2 : W.cell? ⟨w.heap.size + 1, 2, none⟩ = some (.slice none 0 0) := (blk_cell (HS.out.at_ 0 rfl) 2).trans rfl; have f0 := blk_frozen (HS.out.at_ 0 rfl) 0; have f1 := blk_frozen (HS.out.at_ 0 rfl) 1; have f2 := blk_frozen (HS.out.at_ 0 rfl) 2
  have y0 := (HS.out.bel.cell (World.block_lt_of_cell? w _ X0.out.1)).trans X0.out.1; have y1 := (HS.out.bel.cell (World.block_lt_of_cell? w _ X0.out.2.1)).trans X0.out.2.1; have y2 := (HS.out.bel.cell (World.block_lt_of_cell? w _ X0.out.2.2)).trans X0.out.2.2
  go_wp2_with (fail)
  all_goals (refine bodyPost_ret (results_ct rfl _ _ (w.heap.size + 1) 43 #[.int .i64 (c.f0), .int .i64 (c.f1), .slice A2 c.f2.length c2] (0, 0) _ rfl (hf_z3 (HS.out.at_ 0 rfl) _ _ _) Try.underlying43 rfl (by kernel_rfl)) rfl ?_; exact ⟨_, rfl, fs_V3 (Kd.V_below (Kd.V_mk XF.out.1 XF.out.2 : Kd.V _ 25 w w.heap.size _ _ _) HS.out.bel) (fun k_ hk => Nat.ne_of_lt (Nat.lt_of_lt_of_le hk.2 (Nat.le_succ _))) (fun k_ hk => Or.inl hk.1) _ _ _, fs_bel3 HS.out (List.mem_of_getElem? (i := 0) rfl) _ _ _⟩)
 rw [if_neg c1] at h; have q1 : ((l1.length : Int) == 1) = false := by simp; omega
 by_cases c0 : l1.length = 0
 ·rw [if_pos c0] at h; have q2 : ((l1.length : Int) == 0) = true := by simp; exact List.eq_nil_of_length_eq_zero c0
  clear c1 c0
  by_cases o1 : a0_0 = 21 ∨ a0_0 = 22
  ·rw [if_pos o1] at h
   simp only [Option.some.injEq, Prod.mk.injEq] at h; obtain ⟨rfl, rfl, rfl, rfl⟩ := h
   rcases o1 with o1 | o1
   ·have o21b : (a0_0 == 21) = true := beq_iff_eq.2 o1; clear o1
    go_enter Try.func32, Try.ntmps32
    go_upto_region 1 with (fail)
    generalize ((w.alloc (.cells #[.int .i64 a0_0, .bool a0_1] 32)).alloc (.cells #[.int .i64 0, .int .i64 0, .slice none 0 0] 43)) = W at HS ⊢
    have x0 : W.cell? ⟨w.heap.size, 0, none⟩ = some (.int .i64 a0_0) := (blk_cell (HS.out.at_ 1 rfl) 0).trans rfl; have x1 : W.cell? ⟨w.heap.size, 1, none⟩ = some (.bool a0_1) := (blk_cell (HS.out.at_ 1 rfl) 1).trans rfl; have z0 : W.cell? ⟨w.heap.size + 1, 0, none⟩ = some (.int .i64 0) := (blk_cell (HS.out.at_ 0 rfl) 0).trans rfl; have z1 : W.cell? ⟨w.heap.size + 1, 1, none⟩ = some (.int .i64 0) := (blk_cell (HS.out.at_ 0 rfl) 1).trans rfl; have z2 : W.cell? ⟨w.heap.size + 1, 2, none⟩ = some (.slice none 0 0) := (blk_cell (HS.out.at_ 0 rfl) 2).trans rfl; have f0 := blk_frozen (HS.out.at_ 0 rfl) 0; have f1 := blk_frozen (HS.out.at_ 0 rfl) 1; have f2 := blk_frozen (HS.out.at_ 0 rfl) 2
    go_wp2_with (fail)
    all_goals (refine bodyPost_ret (results_ct rfl _ _ (w.heap.size + 1) 43 #[.int .i64 (0), .int .i64 (0), .slice none 0 0] (0, 0) _ rfl (hf_z3 (HS.out.at_ 0 rfl) _ _ _) Try.underlying43 rfl (by kernel_rfl)) rfl ?_; exact ⟨_, rfl, Kd.V_nil _ _ _ _ _, fs_bel3 HS.out (List.mem_of_getElem? (i := 0) rfl) _ _ _⟩)
   ·have o21b : (a0_0 == 21) = false := beq_eq_false_iff_ne.2 (by omega); have o22b : (a0_0 == 22) = true := beq_iff_eq.2 o1; clear o1
    go_enter Try.func32, Try.ntmps32
    go_upto_region 1 with (fail)
    generalize ((w.alloc (.cells #[.int .i64 a0_0, .bool a0_1] 32)).alloc (.cells #[.int .i64 0, .int .i64 0, .slice none 0 0] 43)) = W at HS ⊢
    have x0 : W.cell? ⟨w.heap.size, 0, none⟩ = some (.int .i64 a0_0) := (blk_cell (HS.out.at_ 1 rfl) 0).trans rfl; have x1 : W.cell? ⟨w.heap.size, 1, none⟩ = some (.bool a0_1) := (blk_cell (HS.out.at_ 1 rfl) 1).trans rfl; have z0 : W.cell? ⟨w.heap.size + 1, 0, none⟩ = some (.int .i64 0) := (blk_cell (HS.out.at_ 0 rfl) 0).trans rfl; have z1 : W.cell? ⟨w.heap.size + 1, 1, none⟩ = some (.int .i64 0) := (blk_cell (HS.out.at_ 0 rfl) 1).trans rfl; have z2 : W.cell? ⟨w.heap.size + 1, 2, none⟩ = some (.slice none 0 0) := (blk_cell (HS.out.at_ 0 rfl) 2).trans rfl; have f0 := blk_frozen (HS.out.at_ 0 rfl) 0; have f1 := blk_frozen (HS.out.at_ 0 rfl) 1; have f2 := blk_frozen (HS.out.at_ 0 rfl) 2
    go_wp2_with (fail)
    all_goals (refine bodyPost_ret (results_ct rfl _ _ (w.heap.size + 1) 43 #[.int .i64 (0), .int .i64 (0), .slice none 0 0] (0, 0) _ rfl (hf_z3 (HS.out.at_ 0 rfl) _ _ _) Try.underlying43 rfl (by kernel_rfl)) rfl ?_; exact ⟨_, rfl, Kd.V_nil _ _ _ _ _, fs_bel3 HS.out (List.mem_of_getElem? (i := 0) rfl) _ _ _⟩)
  rw [if_neg o1] at h; have o1b : (a0_0 == 21) = false := beq_eq_false_iff_ne.2 (by omega); have o2b : (a0_0 == 22) = false := beq_eq_false_iff_ne.2 (by omega)
  by_cases o3 : a0_0 = 23
  ·rw [if_pos o3] at h
   simp only [Option.some.injEq, Prod.mk.injEq] at h; obtain ⟨rfl, rfl, rfl, rfl⟩ := h
   have o3b : (a0_0 == 23) = true := beq_iff_eq.2 o3
   clear o1 o3
   go_enter Try.func32, Try.ntmps32
   go_upto_region 1 with (fail)
   generalize ((w.alloc (.cells #[.int .i64 a0_0, .bool a0_1] 32)).alloc (.cells #[.int .i64 0, .int .i64 0, .slice none 0 0] 43)) = W at HS ⊢
   have x0 : W.cell? ⟨w.heap.size, 0, none⟩ = some (.int .i64 a0_0) := (blk_cell (HS.out.at_ 1 rfl) 0).trans rfl; have x1 : W.cell? ⟨w.heap.size, 1, none⟩ = some (.bool a0_1) := (blk_cell (HS.out.at_ 1 rfl) 1).trans rfl; have z0 : W.cell? ⟨w.heap.size + 1, 0, none⟩ = some (.int .i64 0) := (blk_cell (HS.out.at_ 0 rfl) 0).trans rfl; have z1 : W.cell? ⟨w.heap.size + 1, 1, none⟩ = some (.int .i64 0) := (blk_cell (HS.out.at_ 0 rfl) 1).trans rfl; have z2 : W.cell? ⟨w.heap.size + 1, 2, none⟩ = some (.slice none 0 0) := (blk_cell (HS.out.at_ 0 rfl) 2).trans rfl; have f0 := blk_frozen (HS.out.at_ 0 rfl) 0; have f1 := blk_frozen (HS.out.at_ 0 rfl) 1; have f2 := blk_frozen (HS.out.at_ 0 rfl) 2
   go_wp2_with (fail)
   all_goals (refine bodyPost_ret (results_ct rfl _ _ (w.heap.size + 1) 43 #[.int .i64 (0), .int .i64 (1), .slice none 0 0] (0, 0) _ rfl (hf_z3 (HS.out.at_ 0 rfl) _ _ _) Try.underlying43 rfl (by kernel_rfl)) rfl ?_; exact ⟨_, rfl, Kd.V_nil _ _ _ _ _, fs_bel3 HS.out (List.mem_of_getElem? (i := 0) rfl) _ _ _⟩)
  rw [if_neg o3] at h
  simp only [Option.some.injEq, Prod.mk.injEq] at h; obtain ⟨rfl, rfl, rfl, rfl⟩ := h
  have o3b : (a0_0 == 23) = false := beq_eq_false_iff_ne.2 o3
  clear o1 o3
  go_enter Try.func32, Try.ntmps32
  go_upto_region 1 with (fail)
  generalize ((w.alloc (.cells #[.int .i64 a0_0, .bool a0_1] 32)).alloc (.cells #[.int .i64 0, .int .i64 0, .slice none 0 0] 43)) = W at HS ⊢
  have x0 : W.cell? ⟨w.heap.size, 0, none⟩ = some (.int .i64 a0_0) := (blk_cell (HS.out.at_ 1 rfl) 0).trans rfl; have x1 : W.cell? ⟨w.heap.size, 1, none⟩ = some (.bool a0_1) := (blk_cell (HS.out.at_ 1 rfl) 1).trans rfl; have z0 : W.cell? ⟨w.heap.size + 1, 0, none⟩ = some (.int .i64 0) := (blk_cell (HS.out.at_ 0 rfl) 0).trans rfl; have z1 : W.cell? ⟨w.heap.size + 1, 1, none⟩ = some (.int .i64 0) := (blk_cell (HS.out.at_ 0 rfl) 1).trans rfl; have z2 : W.cell? ⟨w.heap.size + 1, 2, none⟩ = some (.slice none 0 0) := (blk_cell (HS.out.at_ 0 rfl) 2).trans rfl; have f0 := blk_frozen (HS.out.at_ 0 rfl) 0; have f1 := blk_frozen (HS.out.at_ 0 rfl) 1; have f2 := blk_frozen (HS.out.at_ 0 rfl) 2
  go_wp2_with (fail)
  all_goals (refine bodyPost_ret (results_ct rfl _ _ (w.heap.size + 1) 43 #[.int .i64 (0), .int .i64 (0), .slice none 0 0] (0, 0) _ rfl (hf_z3 (HS.out.at_ 0 rfl) _ _ _) Try.underlying43 rfl (by kernel_rfl)) rfl ?_; exact ⟨_, rfl, Kd.V_nil _ _ _ _ _, fs_bel3 HS.out (List.mem_of_getElem? (i := 0) rfl) _ _ _⟩)
 rw [if_neg c0] at h; have q2 : ((l1.length : Int) == 0) = false := by simp; exact fun e => c0 (by rw [e]; rfl)
 by_cases o1 : a0_0 = 21 ∨ a0_0 = 23
 ·rw [if_pos o1] at h
  clear c0 c1
  obtain ⟨⟨b1, b2⟩, qn, h⟩ := Option.bind_eq_some_iff.1 h; have QN := Aside0.mk qn; clear qn; dsimp only at h
  by_cases e2 : b2 = 0
  rotate_left
  ·rw [if_neg e2] at h
   simp only [Option.some.injEq, Prod.mk.injEq] at h; obtain ⟨rfl, rfl, rfl, rfl⟩ := h
   have e2b : (b2 != 0) = true := bne_iff_ne.2 e2; clear e2
   rcases o1 with o1 | o1
   ·have o21b : (a0_0 == 21) = true := beq_iff_eq.2 o1; have o23b : (a0_0 == 23) = false := beq_eq_false_iff_ne.2 (by omega); clear o1
    go_enter Try.func32, Try.ntmps32
    go_upto_region 1 with (fail)
    generalize ((w.alloc (.cells #[.int .i64 a0_0, .bool a0_1] 32)).alloc (.cells #[.int .i64 0, .int .i64 0, .slice none 0 0] 43)) = W at HS ⊢
    have x0 : W.cell? ⟨w.heap.size, 0, none⟩ = some (.int .i64 a0_0) := (blk_cell (HS.out.at_ 1 rfl) 0).trans rfl; have x1 : W.cell? ⟨w.heap.size, 1, none⟩ = some (.bool a0_1) := (blk_cell (HS.out.at_ 1 rfl) 1).trans rfl; have z0 : W.cell? ⟨w.heap.size + 1, 0, none⟩ = some (.int .i64 0) := (blk_cell (HS.out.at_ 0 rfl) 0).trans rfl; have z1 : W.cell? ⟨w.heap.size + 1, 1, none⟩ = some (.int .i64 0) := (blk_cell (HS.out.at_ 0 rfl) 1).trans rfl; have z2 : W.cell? ⟨w.heap.size + 1, 2, none⟩ = some (.slice none 0 0) := (blk_cell (HS.out.at_ 0 rfl) 2).trans rfl; have f0 := blk_frozen (HS.out.at_ 0 rfl) 0; have f1 := blk_frozen (HS.out.at_ 0 rfl) 1; have f2 := blk_frozen (HS.out.at_ 0 rfl) 2
    go_wp2_with (go_at_call 55; (with_reducible refine (fold_numbers.calls k _ _ l1 _ _ _ (Kd.C_below (Kd.V_reads' HV.out).2.2 HS.out.bel) (Kd.V_reads' HV.out).2.1 QN.out).mono ?_); rintro e w1 ⟨vn, rfl, hr, hb⟩; obtain ⟨An, cn, hv⟩ := Kd.R_slice hr; subst hv; have HN := Aside0.mk (Kd.R_reads' hr); have HS := Aside0.mk (HS.out.step hb); clear hr hb; (try clear x0 x1 z0 z1 z2 f0 f1 f2); have x0 : w1.cell? ⟨w.heap.size, 0, none⟩ = some (.int .i64 a0_0) := (blk_cell (HS.out.at_ 1 rfl) 0).trans rfl; have x1 : w1.cell? ⟨w.heap.size, 1, none⟩ = some (.bool a0_1) := (blk_cell (HS.out.at_ 1 rfl) 1).trans rfl; have z0 : w1.cell? ⟨w.heap.size + 1, 0, none⟩ = some (.int .i64 0) := (blk_cell (HS.out.at_ 0 rfl) 0).trans rfl; have z1 : w1.cell? ⟨w.heap.size + 1, 1, none⟩ = some (.int .i64 0) := (blk_cell (HS.out.at_ 0 rfl) 1).trans rfl; have z2 : w1.cell? ⟨w.heap.size + 1, 2, none⟩ = some (.slice none 0 0) := (blk_cell (HS.out.at_ 0 rfl) 2).trans rfl; have f0 := blk_frozen (HS.out.at_ 0 rfl) 0; have f1 := blk_frozen (HS.out.at_ 0 rfl) 1; have f2 := blk_frozen (HS.out.at_ 0 rfl) 2)
    all_goals (refine bodyPost_ret (results_ct rfl _ _ (w.heap.size + 1) 43 #[.int .i64 (0), .int .i64 (0), .slice none 0 0] (0, 0) _ rfl (hf_z3 (HS.out.at_ 0 rfl) _ _ _) Try.underlying43 rfl (by kernel_rfl)) rfl ?_; exact ⟨_, rfl, Kd.V_nil _ _ _ _ _, fs_bel3 HS.out (List.mem_of_getElem? (i := 0) rfl) _ _ _⟩)
   ·have o21b : (a0_0 == 21) = false := beq_eq_false_iff_ne.2 (by omega); have o23b : (a0_0 == 23) = true := beq_iff_eq.2 o1; clear o1
    go_enter Try.func32, Try.ntmps32
    go_upto_region 1 with (fail)
    generalize ((w.alloc (.cells #[.int .i64 a0_0, .bool a0_1] 32)).alloc (.cells #[.int .i64 0, .int .i64 0, .slice none 0 0] 43)) = W at HS ⊢
    have x0 : W.cell? ⟨w.heap.size, 0, none⟩ = some (.int .i64 a0_0) := (blk_cell (HS.out.at_ 1 rfl) 0).trans rfl; have x1 : W.cell? ⟨w.heap.size, 1, none⟩ = some (.bool a0_1) := (blk_cell (HS.out.at_ 1 rfl) 1).trans rfl; have z0 : W.cell? ⟨w.heap.size + 1, 0, none⟩ = some (.int .i64 0) := (blk_cell (HS.out.at_ 0 rfl) 0).trans rfl; have z1 : W.cell? ⟨w.heap.size + 1, 1, none⟩ = some (.int .i64 0) := (blk_cell (HS.out.at_ 0 rfl) 1).trans rfl; have z2 : W.cell? ⟨w.heap.size + 1, 2, none⟩ = some (.slice none 0 0) := (blk_cell (HS.out.at_ 0 rfl) 2).trans rfl; have f0 := blk_frozen (HS.out.at_ 0 rfl) 0; have f1 := blk_frozen (HS.out.at_ 0 rfl) 1; have f2 := blk_frozen (HS.out.at_ 0 rfl) 2
    go_wp2_with (go_at_call 55; (with_reducible refine (fold_numbers.calls k _ _ l1 _ _ _ (Kd.C_below (Kd.V_reads' HV.out).2.2 HS.out.bel) (Kd.V_reads' HV.out).2.1 QN.out).mono ?_); rintro e w1 ⟨vn, rfl, hr, hb⟩; obtain ⟨An, cn, hv⟩ := Kd.R_slice hr; subst hv; have HN := Aside0.mk (Kd.R_reads' hr); have HS := Aside0.mk (HS.out.step hb); clear hr hb; (try clear x0 x1 z0 z1 z2 f0 f1 f2); have x0 : w1.cell? ⟨w.heap.size, 0, none⟩ = some (.int .i64 a0_0) := (blk_cell (HS.out.at_ 1 rfl) 0).trans rfl; have x1 : w1.cell? ⟨w.heap.size, 1, none⟩ = some (.bool a0_1) := (blk_cell (HS.out.at_ 1 rfl) 1).trans rfl; have z0 : w1.cell? ⟨w.heap.size + 1, 0, none⟩ = some (.int .i64 0) := (blk_cell (HS.out.at_ 0 rfl) 0).trans rfl; have z1 : w1.cell? ⟨w.heap.size + 1, 1, none⟩ = some (.int .i64 0) := (blk_cell (HS.out.at_ 0 rfl) 1).trans rfl; have z2 : w1.cell? ⟨w.heap.size + 1, 2, none⟩ = some (.slice none 0 0) := (blk_cell (HS.out.at_ 0 rfl) 2).trans rfl; have f0 := blk_frozen (HS.out.at_ 0 rfl) 0; have f1 := blk_frozen (HS.out.at_ 0 rfl) 1; have f2 := blk_frozen (HS.out.at_ 0 rfl) 2)
    all_goals (refine bodyPost_ret (results_ct rfl _ _ (w.heap.size + 1) 43 #[.int .i64 (0), .int .i64 (0), .slice none 0 0] (0, 0) _ rfl (hf_z3 (HS.out.at_ 0 rfl) _ _ _) Try.underlying43 rfl (by kernel_rfl)) rfl ?_; exact ⟨_, rfl, Kd.V_nil _ _ _ _ _, fs_bel3 HS.out (List.mem_of_getElem? (i := 0) rfl) _ _ _⟩)
  rw [if_pos e2] at h; subst e2
  obtain ⟨⟨s1, s2⟩, qs, h⟩ := Option.bind_eq_some_iff.1 h; have QS := Aside0.mk qs; clear qs; dsimp only at h
  simp only [Option.some.injEq, Prod.mk.injEq] at h; obtain ⟨rfl, rfl, rfl, rfl⟩ := h
  rcases o1 with o1 | o1
  ·have QS := Aside0.mk (by have := QS.out; rw [if_neg (by omega)] at this; exact this)
   have o21b : (a0_0 == 21) = true := beq_iff_eq.2 o1; have o23b : (a0_0 == 23) = false := beq_eq_false_iff_ne.2 (by omega); clear o1
   go_enter Try.func32, Try.ntmps32
   go_upto_region 1 with (fail)
   generalize ((w.alloc (.cells #[.int .i64 a0_0, .bool a0_1] 32)).alloc (.cells #[.int .i64 0, .int .i64 0, .slice none 0 0] 43)) = W at HS ⊢
   have x0 : W.cell? ⟨w.heap.size, 0, none⟩ = some (.int .i64 a0_0) := (blk_cell (HS.out.at_ 1 rfl) 0).trans rfl; have x1 : W.cell? ⟨w.heap.size, 1, none⟩ = some (.bool a0_1) := (blk_cell (HS.out.at_ 1 rfl) 1).trans rfl; have z0 : W.cell? ⟨w.heap.size + 1, 0, none⟩ = some (.int .i64 0) := (blk_cell (HS.out.at_ 0 rfl) 0).trans rfl; have z1 : W.cell? ⟨w.heap.size + 1, 1, none⟩ = some (.int .i64 0) := (blk_cell (HS.out.at_ 0 rfl) 1).trans rfl; have z2 : W.cell? ⟨w.heap.size + 1, 2, none⟩ = some (.slice none 0 0) := (blk_cell (HS.out.at_ 0 rfl) 2).trans rfl; have f0 := blk_frozen (HS.out.at_ 0 rfl) 0; have f1 := blk_frozen (HS.out.at_ 0 rfl) 1; have f2 := blk_frozen (HS.out.at_ 0 rfl) 2
   go_wp2_with (first | (go_at_call 55; (with_reducible refine (fold_numbers.calls k _ _ l1 _ _ _ (Kd.C_below (Kd.V_reads' HV.out).2.2 HS.out.bel) (Kd.V_reads' HV.out).2.1 QN.out).mono ?_); rintro e w1 ⟨vn, rfl, hr, hb⟩; obtain ⟨An, cn, hv⟩ := Kd.R_slice hr; subst hv; have HN := Aside0.mk (Kd.R_reads' hr); have HS := Aside0.mk (HS.out.step hb); clear hr hb; (try clear x0 x1 z0 z1 z2 f0 f1 f2); have x0 : w1.cell? ⟨w.heap.size, 0, none⟩ = some (.int .i64 a0_0) := (blk_cell (HS.out.at_ 1 rfl) 0).trans rfl; have x1 : w1.cell? ⟨w.heap.size, 1, none⟩ = some (.bool a0_1) := (blk_cell (HS.out.at_ 1 rfl) 1).trans rfl; have z0 : w1.cell? ⟨w.heap.size + 1, 0, none⟩ = some (.int .i64 0) := (blk_cell (HS.out.at_ 0 rfl) 0).trans rfl; have z1 : w1.cell? ⟨w.heap.size + 1, 1, none⟩ = some (.int .i64 0) := (blk_cell (HS.out.at_ 0 rfl) 1).trans rfl; have z2 : w1.cell? ⟨w.heap.size + 1, 2, none⟩ = some (.slice none 0 0) := (blk_cell (HS.out.at_ 0 rfl) 2).trans rfl; have f0 := blk_frozen (HS.out.at_ 0 rfl) 0; have f1 := blk_frozen (HS.out.at_ 0 rfl) 1; have f2 := blk_frozen (HS.out.at_ 0 rfl) 2) | (go_at_call 56; (with_reducible refine (num_Sum.calls _ _ b1 _ _ _ (HN.out.2.2) HN.out.2.1 QS.out).mono ?_); rintro e w2 ⟨rfl, hd⟩; have HS := Aside0.mk (HS.out.step hd); clear hd; (try clear x0 x1 z0 z1 z2 f0 f1 f2); have x0 : w2.cell? ⟨w.heap.size, 0, none⟩ = some (.int .i64 a0_0) := (blk_cell (HS.out.at_ 1 rfl) 0).trans rfl; have x1 : w2.cell? ⟨w.heap.size, 1, none⟩ = some (.bool a0_1) := (blk_cell (HS.out.at_ 1 rfl) 1).trans rfl; have z0 : w2.cell? ⟨w.heap.size + 1, 0, none⟩ = some (.int .i64 0) := (blk_cell (HS.out.at_ 0 rfl) 0).trans rfl; have z1 : w2.cell? ⟨w.heap.size + 1, 1, none⟩ = some (.int .i64 0) := (blk_cell (HS.out.at_ 0 rfl) 1).trans rfl; have z2 : w2.cell? ⟨w.heap.size + 1, 2, none⟩ = some (.slice none 0 0) := (blk_cell (HS.out.at_ 0 rfl) 2).trans rfl; have f0 := blk_frozen (HS.out.at_ 0 rfl) 0; have f1 := blk_frozen (HS.out.at_ 0 rfl) 1; have f2 := blk_frozen (HS.out.at_ 0 rfl) 2))
   all_goals (refine bodyPost_ret (results_ct rfl _ _ (w.heap.size + 1) 43 #[.int .i64 (0), .int .i64 (s1), .slice none 0 0] (0, 0) _ rfl (hf_z3 (HS.out.at_ 0 rfl) _ _ _) Try.underlying43 rfl (by kernel_rfl)) rfl ?_; exact ⟨_, rfl, Kd.V_nil _ _ _ _ _, fs_bel3 HS.out (List.mem_of_getElem? (i := 0) rfl) _ _ _⟩)
  ·have QS := Aside0.mk (by have := QS.out; rw [if_pos (by omega)] at this; exact this)
   have o21b : (a0_0 == 21) = false := beq_eq_false_iff_ne.2 (by omega); have o23b : (a0_0 == 23) = true := beq_iff_eq.2 o1; clear o1
   go_enter Try.func32, Try.ntmps32
   go_upto_region 1 with (fail)
   generalize ((w.alloc (.cells #[.int .i64 a0_0, .bool a0_1] 32)).alloc (.cells #[.int .i64 0, .int .i64 0, .slice none 0 0] 43)) = W at HS ⊢
   have x0 : W.cell? ⟨w.heap.size, 0, none⟩ = some (.int .i64 a0_0) := (blk_cell (HS.out.at_ 1 rfl) 0).trans rfl; have x1 : W.cell? ⟨w.heap.size, 1, none⟩ = some (.bool a0_1) := (blk_cell (HS.out.at_ 1 rfl) 1).trans rfl; have z0 : W.cell? ⟨w.heap.size + 1, 0, none⟩ = some (.int .i64 0) := (blk_cell (HS.out.at_ 0 rfl) 0).trans rfl; have z1 : W.cell? ⟨w.heap.size + 1, 1, none⟩ = some (.int .i64 0) := (blk_cell (HS.out.at_ 0 rfl) 1).trans rfl; have z2 : W.cell? ⟨w.heap.size + 1, 2, none⟩ = some (.slice none 0 0) := (blk_cell (HS.out.at_ 0 rfl) 2).trans rfl; have f0 := blk_frozen (HS.out.at_ 0 rfl) 0; have f1 := blk_frozen (HS.out.at_ 0 rfl) 1; have f2 := blk_frozen (HS.out.at_ 0 rfl) 2
   go_wp2_with (first | (go_at_call 55; (with_reducible refine (fold_numbers.calls k _ _ l1 _ _ _ (Kd.C_below (Kd.V_reads' HV.out).2.2 HS.out.bel) (Kd.V_reads' HV.out).2.1 QN.out).mono ?_); rintro e w1 ⟨vn, rfl, hr, hb⟩; obtain ⟨An, cn, hv⟩ := Kd.R_slice hr; subst hv; have HN := Aside0.mk (Kd.R_reads' hr); have HS := Aside0.mk (HS.out.step hb); clear hr hb; (try clear x0 x1 z0 z1 z2 f0 f1 f2); have x0 : w1.cell? ⟨w.heap.size, 0, none⟩ = some (.int .i64 a0_0) := (blk_cell (HS.out.at_ 1 rfl) 0).trans rfl; have x1 : w1.cell? ⟨w.heap.size, 1, none⟩ = some (.bool a0_1) := (blk_cell (HS.out.at_ 1 rfl) 1).trans rfl; have z0 : w1.cell? ⟨w.heap.size + 1, 0, none⟩ = some (.int .i64 0) := (blk_cell (HS.out.at_ 0 rfl) 0).trans rfl; have z1 : w1.cell? ⟨w.heap.size + 1, 1, none⟩ = some (.int .i64 0) := (blk_cell (HS.out.at_ 0 rfl) 1).trans rfl; have z2 : w1.cell? ⟨w.heap.size + 1, 2, none⟩ = some (.slice none 0 0) := (blk_cell (HS.out.at_ 0 rfl) 2).trans rfl; have f0 := blk_frozen (HS.out.at_ 0 rfl) 0; have f1 := blk_frozen (HS.out.at_ 0 rfl) 1; have f2 := blk_frozen (HS.out.at_ 0 rfl) 2) | (go_at_call 57; (with_reducible refine (num_Prod.calls k _ _ b1 _ _ _ (HN.out.2.2) HN.out.2.1 QS.out).mono ?_); rintro e w2 ⟨rfl, hd⟩; have HS := Aside0.mk (HS.out.step hd.below); clear hd; (try clear x0 x1 z0 z1 z2 f0 f1 f2); have x0 : w2.cell? ⟨w.heap.size, 0, none⟩ = some (.int .i64 a0_0) := (blk_cell (HS.out.at_ 1 rfl) 0).trans rfl; have x1 : w2.cell? ⟨w.heap.size, 1, none⟩ = some (.bool a0_1) := (blk_cell (HS.out.at_ 1 rfl) 1).trans rfl; have z0 : w2.cell? ⟨w.heap.size + 1, 0, none⟩ = some (.int .i64 0) := (blk_cell (HS.out.at_ 0 rfl) 0).trans rfl; have z1 : w2.cell? ⟨w.heap.size + 1, 1, none⟩ = some (.int .i64 0) := (blk_cell (HS.out.at_ 0 rfl) 1).trans rfl; have z2 : w2.cell? ⟨w.heap.size + 1, 2, none⟩ = some (.slice none 0 0) := (blk_cell (HS.out.at_ 0 rfl) 2).trans rfl; have f0 := blk_frozen (HS.out.at_ 0 rfl) 0; have f1 := blk_frozen (HS.out.at_ 0 rfl) 1; have f2 := blk_frozen (HS.out.at_ 0 rfl) 2))
   all_goals (refine bodyPost_ret (results_ct rfl _ _ (w.heap.size + 1) 43 #[.int .i64 (0), .int .i64 (s1), .slice none 0 0] (0, 0) _ rfl (hf_z3 (HS.out.at_ 0 rfl) _ _ _) Try.underlying43 rfl (by kernel_rfl)) rfl ?_; exact ⟨_, rfl, Kd.V_nil _ _ _ _ _, fs_bel3 HS.out (List.mem_of_getElem? (i := 0) rfl) _ _ _⟩)
 rw [if_neg o1] at h; have o1b : (a0_0 == 21) = false := beq_eq_false_iff_ne.2 (by omega); have o3b : (a0_0 == 23) = false := beq_eq_false_iff_ne.2 (by omega)
 have hlen := (Kd.V_reads' HV.out).2.2.2.1
 have hge : (2 : Int) ≤ (l1.length : Int) := by omega
 have hm1 : (l1.length : Int) ≤ 9223372036854775807 := by omega
 obtain ⟨ad, A2, c2, ea, x0_, x1_, x2_, xl, xF⟩ := fat_C (Kd.V_at HP.out).2.2 ((l1.length : Int) - 1) (by omega) (by omega)
 subst ea
 rw [show ((l1.length - 1 : Nat) : Int) = (l1.length : Int) - 1 by omega] at h; rw [show ((l1.length : Int) - 1).toNat = l1.length - 1 by omega] at x0_ x1_ x2_
 generalize rd_T43 l1 ((l1.length : Int) - 1) = c at x0_ x1_ x2_ xl xF h
 have H := Aside0.mk h; have XF := Aside0.mk (And.intro xl xF); have X0 := Aside0.mk (And.intro x0_ (And.intro x1_ x2_)); clear c1 c0 o1 xl xF x0_ x1_ x2_ h hlen
 have hg1 : (1 : Int) ≤ (l1.length : Int) := (by omega); have hlt1 : (l1.length : Int) - 1 < (l1.length : Int) := (by omega); have hg0 : (0 : Int) ≤ (l1.length : Int) - 1 := (by omega)
 go_enter Try.func32, Try.ntmps32
 go_upto_region 1 with (fail)
 generalize ((w.alloc (.cells #[.int .i64 a0_0, .bool a0_1] 32)).alloc (.cells #[.int .i64 0, .int .i64 0, .slice none 0 0] 43)) = W at HS ⊢
 have x0 : W.cell? ⟨w.heap.size, 0, none⟩ = some (.int .i64 a0_0) := (blk_cell (HS.out.at_ 1 rfl) 0).trans rfl; have x1 : W.cell? ⟨w.heap.size, 1, none⟩ = some (.bool a0_1) := (blk_cell (HS.out.at_ 1 rfl) 1).trans rfl; have z0 : W.cell? ⟨w.heap.size + 1, 0, none⟩ = some (.int .i64 0) := (blk_cell (HS.out.at_ 0 rfl) 0).trans rfl; have z1 : W.cell? ⟨w.heap.size + 1, 1, none⟩ = some (.int .i64 0) := (blk_cell (HS.out.at_ 0 rfl) 1).trans rfl; have z2 : W.cell? ⟨w.heap.size + 1, 2, none⟩ = some (.slice none 0 0) := (blk_cell (HS.out.at_ 0 rfl) 2).trans rfl; have f0 := blk_frozen (HS.out.at_ 0 rfl) 0; have f1 := blk_frozen (HS.out.at_ 0 rfl) 1; have f2 := blk_frozen (HS.out.at_ 0 rfl) 2
 have y0 := (HS.out.bel.cell (World.block_lt_of_cell? w _ X0.out.1)).trans X0.out.1; have y1 := (HS.out.bel.cell (World.block_lt_of_cell? w _ X0.out.2.1)).trans X0.out.2.1; have y2 := (HS.out.bel.cell (World.block_lt_of_cell? w _ X0.out.2.2)).trans X0.out.2.2
 go_upto_region 20 with (fail)
 have HSC := Aside0.mk (HS.out.cons #[.int .i64 c.f0, .int .i64 c.f1, .slice A2 c.f2.length c2] 43); have HGW := Aside0.mk (show w.heap.size + 1 < W.heap.size from blk_lt (HS.out.at_ 0 rfl))
 have HVC := Aside0.mk (show Kd.V k25 25 (W.alloc (.cells #[.int .i64 c.f0, .int .i64 c.f1, .slice A2 c.f2.length c2] 43)) w.heap.size (fun k_ => (P1_ k_ ∧ k_ < w.heap.size) ∨ W.heap.size < k_) (.slice A2 c.f2.length c2) c.f2 from Kd.V_mono (Kd.V_below (Kd.V_mk XF.out.1 XF.out.2 : Kd.V _ 25 w w.heap.size _ _ _) (HS.out.step (below_alloc (Below.refl _ _) _)).bel) (fun k_ hk => Or.inl hk))
 clear XF X0 y0 y1 y2 x0 x1 z0 z1 z2 f0 f1 f2
 generalize W.alloc (.cells #[.int .i64 c.f0, .int .i64 c.f1, .slice A2 c.f2.length c2] 43) = W2 at HSC HVC ⊢
 generalize W.heap.size = g at HSC HGW HVC ⊢; clear HS
 go_wp2_with (fail)
 go_loopg [12, 13] l1.length (fun kq v12 v13 W' => ∃ (i : Nat) (c : S43) (A2 : Option Addr) (c2 : Nat), v12 = .int .i64 0 ∧ ((i = 0 ∧ v13 = .int .i64 (-1)) ∨ (∃ i', i = i' + 1 ∧ v13 = .int .i64 (i' : Int))) ∧ Aside0 (kq = i + 1 ∧ i < l1.length) ∧ Aside0 (fold_F_row.lp k a0_0 a0_1 l1 i c = some (r1, r2, r3, r4)) ∧ Aside0 (BxS w W' [(g, #[.int .i64 c.f0, .int .i64 c.f1, .slice A2 c.f2.length c2], 43), (w.heap.size + 1, #[.int .i64 0, .int .i64 0, .slice none 0 0], 43), (w.heap.size, #[.int .i64 a0_0, .bool a0_1], 32)]) ∧ Aside0 (Kd.V k25 25 W' w.heap.size (fun k_ => (P1_ k_ ∧ k_ < w.heap.size) ∨ g < k_) (.slice A2 c.f2.length c2) c.f2))
 case atStart => exact ⟨l1.length - 1, c, A2, c2, rfl, Or.inr ⟨l1.length - 2, by omega, congrArg (Value.int .i64) (by omega)⟩, ⟨by omega, by omega⟩, H, HSC, HVC⟩
 case round =>
  clear H HSC HVC
  obtain ⟨i, c, A2, c2, rfl, hv, HJ, H, HS, HX⟩ := hrel
  rcases hv with ⟨rfl, rfl⟩ | ⟨i, rfl, rfl⟩
  ·have hr := Option.some.inj H.out; simp only [Prod.mk.injEq] at hr; obtain ⟨e1, e2, e3, e4⟩ := hr; subst e1 e2 e3 e4; clear H HJ
   have y0 : wr.cell? ⟨g, 0, none⟩ = some (.int .i64 c.f0) := (blk_cell (HS.out.at_ 0 rfl) 0).trans rfl; have y1 : wr.cell? ⟨g, 1, none⟩ = some (.int .i64 c.f1) := (blk_cell (HS.out.at_ 0 rfl) 1).trans rfl; have y2 : wr.cell? ⟨g, 2, none⟩ = some (.slice A2 c.f2.length c2) := (blk_cell (HS.out.at_ 0 rfl) 2).trans rfl; have z0 : wr.cell? ⟨w.heap.size + 1, 0, none⟩ = some (.int .i64 0) := (blk_cell (HS.out.at_ 1 rfl) 0).trans rfl; have z1 : wr.cell? ⟨w.heap.size + 1, 1, none⟩ = some (.int .i64 0) := (blk_cell (HS.out.at_ 1 rfl) 1).trans rfl; have z2 : wr.cell? ⟨w.heap.size + 1, 2, none⟩ = some (.slice none 0 0) := (blk_cell (HS.out.at_ 1 rfl) 2).trans rfl; have f0 := blk_frozen (HS.out.at_ 1 rfl) 0; have f1 := blk_frozen (HS.out.at_ 1 rfl) 1; have f2 := blk_frozen (HS.out.at_ 1 rfl) 2
   go_wp2_with (fail)
   refine bodyPost_ret (results_ct rfl _ _ (w.heap.size + 1) 43 #[.int .i64 c.f0, .int .i64 c.f1, .slice A2 c.f2.length c2] (0, 0) _ rfl (hf_z3 (HS.out.at_ 1 rfl) _ _ _) Try.underlying43 rfl (by kernel_rfl)) rfl ?_; exact ⟨_, rfl, fs_V3 HX.out (fun k_ hk => hk.elim (fun h => by have := h.2; have := HGW.out; omega) (fun h => by have := HGW.out; omega)) (fun k_ hk => hk.elim (fun h => Or.inl h.1) (fun h => Or.inr (by have := HGW.out; omega))) _ _ _, fs_bel3 HS.out (List.mem_of_getElem? (i := 1) rfl) _ _ _⟩
  obtain ⟨⟨b1, b2, b3, b4⟩, qb, h⟩ := Option.bind_eq_some_iff.1 H.out; have QB := Aside0.mk qb; clear qb H; dsimp only at h
  have hi0 : (0 : Int) ≤ (i : Int) := (by omega); have hi1 : (i : Int) < (l1.length : Int) := (by have := HJ.out; omega); have hi2 : i < l1.length := (by have := HJ.out; omega)
  obtain ⟨q, rfl⟩ : ∃ q, gk = q + 1 := ⟨gk - 1, by have := HJ.out; omega⟩
  have HV2 := Aside0.mk (Kd.V_at (Kd.V_below HP.out HS.out.bel)).2.2
  obtain ⟨ad2, E2, e2, ea, x0_, x1_, x2_, xl, xF⟩ := fat_C HV2.out (i : Int) (by omega) (by omega)
  have ea := (Option.some.inj ea).symm; subst ea; rw [Int.toNat_natCast] at x0_ x1_ x2_
  generalize rd_T43 l1 (i : Int) = x at x0_ x1_ x2_ xl xF QB
  have XF := Aside0.mk (And.intro xl xF); have X0 := Aside0.mk (And.intro x0_ (And.intro x1_ x2_)); clear xl xF x0_ x1_ x2_
  go_upto_region 23 with (fail)
  refine start_ (n := 12) (S := fun W' => Below wr.drew.heap.size wr.drew W') (ds := [10]) #[false, false, false, false, false, false, false, false, false, false, false, false] (by kernel_rfl) rfl rfl (Below.refl _ _) (fun hHeld => ?_)
  refine with_tabW fold_F_row.tab23 fold_F_row.bits23 (fun HT_ HW_ => ?_)
  have HS := Aside0.mk (HS.out.step (below_drew (Below.refl _ _))); have HX := Aside0.mk (Kd.V_below HX.out (below_drew (Below.refl _ _))); have XF := Aside0.mk (And.intro XF.out.1 (Kd.F_below XF.out.2 (below_drew (Below.refl _ _)))); have X0 : Aside0 (_ ∧ _ ∧ _) := ⟨⟨((below_drew (Below.refl _ _)).cell (World.block_lt_of_cell? _ _ X0.out.1)).trans X0.out.1, ((below_drew (Below.refl _ _)).cell (World.block_lt_of_cell? _ _ X0.out.2.1)).trans X0.out.2.1, ((below_drew (Below.refl _ _)).cell (World.block_lt_of_cell? _ _ X0.out.2.2)).trans X0.out.2.2⟩⟩
  generalize wr.drew = Wr at HS HX XF X0 hHeld ⊢
  refine pure_ (i := 0) (N := some 96) (v := ?_) (a' := ?_) #[true, false, false, false, false, false, false, false, false, false, false, false] rfl rfl (any_of HT_.out (by kernel_rfl)) (fun _ _ _ h => h) (Or.inl ⟨by rfl, ?_⟩) ?_ ?_; rotate_left
  ·intro w'; go_simp; with_reducible rfl
  rotate_left
  ·simp only [Act.put, List.setIfInBounds_toArray, List.set_cons_zero, List.set_cons_succ, i64_w, i32_w]; rfl
  refine pure_ (i := 1) (N := some 97) (v := ?_) (a' := ?_) #[true, true, false, false, false, false, false, false, false, false, false, false] rfl rfl (any_of HT_.out (by kernel_rfl)) (fun _ _ _ h => h) (Or.inl ⟨by rfl, ?_⟩) ?_ ?_; rotate_left
  ·intro w'; go_simp; with_reducible rfl
  rotate_left
  ·simp only [Act.put, List.setIfInBounds_toArray, List.set_cons_zero, List.set_cons_succ, i64_w, i32_w]; rfl
  refine pure_ (i := 2) (N := some 98) (v := ?_) (a' := ?_) #[true, true, true, false, false, false, false, false, false, false, false, false] rfl rfl (any_of HT_.out (by kernel_rfl)) (fun _ _ _ h => h) (Or.inl ⟨by rfl, ?_⟩) ?_ ?_; rotate_left
  ·intro w'; go_simp; with_reducible rfl
  rotate_left
  ·simp only [Act.put, List.setIfInBounds_toArray, List.set_cons_zero, List.set_cons_succ, i64_w, i32_w]; rfl
  refine pure_ (i := 3) (N := some 99) (v := ?_) (a' := ?_) #[true, true, true, true, false, false, false, false, false, false, false, false] rfl rfl (any_of HT_.out (by kernel_rfl)) (fun _ _ _ h => h) (Or.inl ⟨by rfl, ?_⟩) ?_ ?_; rotate_left
  ·intro w'; go_simp; with_reducible rfl
  rotate_left
  ·simp only [Act.put, List.setIfInBounds_toArray, List.set_cons_zero, List.set_cons_succ, i64_w, i32_w]; rfl
  refine take_ (i := 4) (N := some 100) (v := ?_) (a' := ?_) #[true, true, true, true, true, false, false, false, false, false, false, false] rfl rfl (take_ofW HT_.out HW_.out (by kernel_rfl)) (fun _ _ _ h => h) (Or.inl ⟨by rfl, ?_⟩) hHeld ?_ ?_; rotate_left
  ·intro w' s0; have h0 := (s0.cell (World.block_lt_of_cell? _ _ X0.out.1)).trans X0.out.1; have h1 := (s0.cell (World.block_lt_of_cell? _ _ X0.out.2.1)).trans X0.out.2.1; have h2 := (s0.cell (World.block_lt_of_cell? _ _ X0.out.2.2)).trans X0.out.2.2; go_simp; with_reducible rfl
  rotate_left
  ·simp only [Act.put, List.setIfInBounds_toArray, List.set_cons_zero, List.set_cons_succ, i64_w, i32_w]; rfl
  refine take_ (i := 5) (N := some 101) (v := ?_) (a' := ?_) #[true, true, true, true, true, true, false, false, false, false, false, false] rfl rfl (take_ofW HT_.out HW_.out (by kernel_rfl)) (fun _ _ _ h => h) (Or.inl ⟨by rfl, ?_⟩) hHeld ?_ ?_; rotate_left
  ·intro w' s0; have y0 : w'.cell? ⟨g, 0, none⟩ = some (.int .i64 c.f0) := (blk_cell ((HS.out.step s0).at_ 0 rfl) 0).trans rfl; have y1 : w'.cell? ⟨g, 1, none⟩ = some (.int .i64 c.f1) := (blk_cell ((HS.out.step s0).at_ 0 rfl) 1).trans rfl; have y2 : w'.cell? ⟨g, 2, none⟩ = some (.slice A2 c.f2.length c2) := (blk_cell ((HS.out.step s0).at_ 0 rfl) 2).trans rfl; go_simp; with_reducible rfl
  rotate_left
  ·simp only [Act.put, List.setIfInBounds_toArray, List.set_cons_zero, List.set_cons_succ, i64_w, i32_w]; rfl
  refine one_ (i := 6) (N := some 102) #[true, true, true, true, true, true, true, false, false, false, false, false] rfl rfl (one_of HT_.out (by kernel_rfl)) (by decide) (fun K hK => ?_)
  refine call_ 42 #[.agg #[.int .i64 a0_0, .bool a0_1], .agg #[.int .i64 x.f0, .int .i64 x.f1, .slice E2 x.f2.length e2], .agg #[.int .i64 c.f0, .int .i64 c.f1, .slice A2 c.f2.length c2]] (by rfl) rfl ?hrun ?_
  case hrun => go_simp
  refine (fold_F_of.calls k a0_0 a0_1 x.f0 x.f1 _ _ x.f2 c.f0 c.f1 _ _ c.f2 b1 b2 b3 b4 _ (Kd.F_now XF.out.2) XF.out.1 (Kd.V_reads' HX.out).2.2 (Kd.V_reads' HX.out).2.1 QB.out).mono ?_
  rintro e w1 ⟨v2, rfl, hR, hb⟩; refine ⟨_, rfl, ?_⟩; obtain ⟨A3, c3, hv⟩ := Kd.R_slice hR; subst hv
  have HGR : Aside0 (g < Wr.heap.size) := ⟨blk_lt (HS.out.at_ 0 rfl)⟩
  have HX := Aside0.mk (show Kd.V k25 25 w1 w.heap.size (fun k_ => g < k_) (.slice A3 b3.length c3) b3 from Kd.V_mono (Kd.R_V (Kd.R_bound hR)) (fun k_ hk => Nat.lt_of_lt_of_le HGR.out hk.2.1)); clear hR
  have HS := Aside0.mk (HS.out.step hb)
  refine hK.out _ _ (hHeld.trans (hb.mono hHeld.size)) (fun hHeld => ?_); clear hK K
  refine norm_ (a' := ?_) ?_ ?_; rotate_left
  ·show Act.put _ (some 102) _ = _
   simp only [Act.put, List.setIfInBounds_toArray, List.set_cons_zero, List.set_cons_succ, i64_w, i32_w]; rfl
  clear hb
  refine pure_ (i := 7) (N := some 95) (v := ?_) (a' := ?_) #[true, true, true, true, true, true, true, true, false, false, false, false] rfl rfl (any_of HT_.out (by kernel_rfl)) (fun _ _ _ h => h) (Or.inl ⟨by rfl, ?_⟩) ?_ ?_; rotate_left
  ·intro w'; go_simp; with_reducible rfl
  rotate_left
  ·simp only [Act.put, List.setIfInBounds_toArray, List.set_cons_zero, List.set_cons_succ, i64_w, i32_w]; rfl
  refine pure_ (i := 8) (N := some 103) (v := ?_) (a' := ?_) #[true, true, true, true, true, true, true, true, true, false, false, false] rfl rfl (any_of HT_.out (by kernel_rfl)) (fun _ _ _ h => h) (Or.inl ⟨by rfl, ?_⟩) ?_ ?_; rotate_left
  ·intro w'; go_simp; with_reducible rfl
  rotate_left
  ·simp only [Act.put, List.setIfInBounds_toArray, List.set_cons_zero, List.set_cons_succ, i64_w, i32_w]; rfl
  refine pure_ (i := 9) (N := some 104) (v := ?_) (a' := ?_) #[true, true, true, true, true, true, true, true, true, true, false, false] rfl rfl (any_of HT_.out (by kernel_rfl)) (fun _ _ _ h => h) (Or.inl ⟨by rfl, ?_⟩) ?_ ?_; rotate_left
  ·intro w'; go_simp; with_reducible rfl
  rotate_left
  ·simp only [Act.put, List.setIfInBounds_toArray, List.set_cons_zero, List.set_cons_succ, i64_w, i32_w]; rfl
  refine last_ (i := 10) (N := none) #[true, true, true, true, true, true, true, true, true, true, true, false] rfl rfl (one_of HT_.out (by kernel_rfl)) (by decide) (fun K hK => ?_)
  have y0 : w1.cell? ⟨g, 0, none⟩ = some (.int .i64 c.f0) := (blk_cell (HS.out.at_ 0 rfl) 0).trans rfl; have y1 : w1.cell? ⟨g, 1, none⟩ = some (.int .i64 c.f1) := (blk_cell (HS.out.at_ 0 rfl) 1).trans rfl; have y2 : w1.cell? ⟨g, 2, none⟩ = some (.slice A2 c.f2.length c2) := (blk_cell (HS.out.at_ 0 rfl) 2).trans rfl; have f0 := blk_frozen (HS.out.at_ 0 rfl) 0; have f1 := blk_frozen (HS.out.at_ 0 rfl) 1; have f2 := blk_frozen (HS.out.at_ 0 rfl) 2
  refine skip_ (w1 := ?_) (by rfl) rfl ?_ ?_; rotate_left
  ·go_simp; rfl
  have HS := Aside0.mk (HS.out.put3 (fun p hp => by rcases List.mem_cons.1 hp with rfl | hp; exact Nat.ne_of_lt HGW.out; rw [List.mem_singleton.1 hp]; have := HGW.out; exact (fun e => by rw [← e] at this; omega)) (.int .i64 b1) (.int .i64 b2) (.slice A3 b3.length c3))
  have HX := Aside0.mk (fs_V3 (g := g) (ok' := fun k_ => g < k_) HX.out (fun k_ hk => Nat.ne_of_gt hk) (fun _ h => h) (.int .i64 b1) (.int .i64 b2) (.slice A3 b3.length c3))
  refine hK.out _ _ ?_; clear hK K y0 y1 y2 f0 f1 f2
  generalize ((w1.setCell _ _).setCell _ _).setCell _ _ = W3 at HS HX ⊢
  refine pure_ (i := 11) (N := some 12) (v := ?_) (a' := ?_) #[true, true, true, true, true, true, true, true, true, true, true, true] rfl rfl (any_of HT_.out (by kernel_rfl)) (fun _ _ _ h => h) (Or.inl ⟨by rfl, ?_⟩) ?_ ?_; rotate_left
  ·intro w'; go_simp; with_reducible rfl
  rotate_left
  ·simp only [Act.put, List.setIfInBounds_toArray, List.set_cons_zero, List.set_cons_succ, i64_w, i32_w]; rfl
  refine done_ (done_of HT_.out (by kernel_rfl)) ?_
  by_cases ce : b4 = 0
  ·rw [if_pos ce] at h; subst ce; have H := Aside0.mk h; clear h
   go_wp2_with (fail)
   go_roundg q; (case measure => have := HJ.out; omega)
   case rel => exact ⟨i, ⟨b1, b2, b3⟩, A3, c3, rfl, (by cases i with | zero => exact Or.inl ⟨rfl, rfl⟩ | succ i => exact Or.inr ⟨i, rfl, congrArg (Value.int .i64) (by omega)⟩), ⟨by have := HJ.out; omega, by have := HJ.out; omega⟩, H, HS, ⟨Kd.V_mono HX.out (fun _ hk => Or.inr hk)⟩⟩
  ·rw [if_neg ce] at h
   simp only [Option.some.injEq, Prod.mk.injEq] at h; obtain ⟨rfl, rfl, rfl, rfl⟩ := h
   have ceb : (b4 != 0) = true := bne_iff_ne.2 ce; clear ce
   have z0 : W3.cell? ⟨w.heap.size + 1, 0, none⟩ = some (.int .i64 0) := (blk_cell (HS.out.at_ 1 rfl) 0).trans rfl; have z1 : W3.cell? ⟨w.heap.size + 1, 1, none⟩ = some (.int .i64 0) := (blk_cell (HS.out.at_ 1 rfl) 1).trans rfl; have z2 : W3.cell? ⟨w.heap.size + 1, 2, none⟩ = some (.slice none 0 0) := (blk_cell (HS.out.at_ 1 rfl) 2).trans rfl; have f0 := blk_frozen (HS.out.at_ 1 rfl) 0; have f1 := blk_frozen (HS.out.at_ 1 rfl) 1; have f2 := blk_frozen (HS.out.at_ 1 rfl) 2
   go_wp2_with (fail)
   refine bodyPost_ret (results_ct rfl _ _ (w.heap.size + 1) 43 #[.int .i64 0, .int .i64 0, .slice none 0 0] (0, 0) _ rfl (hf_z3 (HS.out.at_ 1 rfl) _ _ _) Try.underlying43 rfl (by kernel_rfl)) rfl ?_; exact ⟨_, rfl, Kd.V_nil _ _ _ _ _, fs_bel3 HS.out (List.mem_of_getElem? (i := 1) rfl) _ _ _⟩
def fold_line.l0 : Nat → List (S43) → Int → Int → List (S43) → Int → Int → Option ((List (S43)))
 | 0, _, _, _, _, _, _ => none
 | k + 1, x0, x1, x2, x9, x13, x14 => if x14 < x13 then (if 0 ≤ (wrap64 (x1 + (wrap64 (x14 * x2)))) then (if (wrap64 (x1 + (wrap64 (x14 * x2)))) < (x0.length : Int) then (if x9.length < 3518437208883 then (fold_line.l0 k x0 x1 x2 (x9 ++ [(⟨(rd_T43 x0 (wrap64 (x1 + (wrap64 (x14 * x2))))).f0, (rd_T43 x0 (wrap64 (x1 + (wrap64 (x14 * x2))))).f1, (rd_T43 x0 (wrap64 (x1 + (wrap64 (x14 * x2))))).f2⟩ : S43)]) x13 (wrap64 (x14 + 1))) else (none)) else (none)) else (none)) else (some x9)
def fold_line.f (k : Nat) (l0 : List (S43)) (a1 : Int) (a2 : Int) (a3 : Int) : Option ((List (S43))) := if 0 ≤ a3 then (if (a3 : Int).toNat ≤ 7036874417766 then (fold_line.l0 k l0 a1 a2 (List.replicate 0 z43) a3 0) else (none)) else (none)
theorem fold_line.mono_l : ∀ k, (∀ y0 y1 y2 y3 y4 y5, LeO (fold_line.l0 k y0 y1 y2 y3 y4 y5) (fold_line.l0 (k + 1) y0 y1 y2 y3 y4 y5))
 | 0 => fun _ _ _ _ _ _ r h => by simp [fold_line.l0] at h
 | k + 1 => by
  have ih0 := fold_line.mono_l k
  ·intro y0 y1 y2 y3 y4 y5
   unfold fold_line.l0
   repeat' first
   | (with_reducible exact ih0 _ _ _ _ _ _)
   | (with_reducible exact LeO.refl _)
   | (with_reducible exact LeO.none _)
   | (with_reducible refine LeO.ite ?_ ?_)
   | (with_reducible refine LeO.bind ?_ (fun _ => ?_))
theorem fold_line.mono : ∀ a0 a1 a2 a3 k, LeO (fold_line.f k a0 a1 a2 a3) (fold_line.f (k + 1) a0 a1 a2 a3) := by
 intro a0 a1 a2 a3 k
 have ih0 := fold_line.mono_l k
 unfold fold_line.f
 repeat' first
   | (with_reducible exact ih0 _ _ _ _ _ _)
   | (with_reducible exact LeO.refl _)
   | (with_reducible exact LeO.none _)
   | (with_reducible refine LeO.ite ?_ ?_)
   | (with_reducible refine LeO.bind ?_ (fun _ => ?_))
set_option maxHeartbeats 8000000 in
set_option maxRecDepth 100000 in
theorem fold_line.calls (k : Nat) (P0_ : Nat → Prop) (A0 : Option Addr) (c0 : Nat) (l0 : List (S43)) (a1 : Int) (a2 : Int) (a3 : Int) (r : List (S43)) (w : World) (hs0 : Kd.V k43 43 w w.heap.size (fun k_ => P0_ k_) (.slice A0 l0.length c0) l0) (h : fold_line.f k l0 a1 a2 a3 = some r) :
  Calls Try.prog 33 #[.slice A0 l0.length c0, .int .i64 a1, .int .i64 a2, .int .i64 a3] w fun e w' => ∃ v0_ : Value, e = .returned (v0_) ∧ Kd.N k43 43 w' w.heap.size (fun k_ => (P0_ k_ ∨ w.heap.size ≤ k_)) v0_ r ∧ Below w.heap.size w w' := by
 have hu43 := Try.underlying43
 have HO0 := gA (show Kd.V k43 43 w w.heap.size (fun k_ => (P0_ k_ ∨ w.heap.size ≤ k_)) (.slice A0 l0.length c0) l0 from Kd.V_mono hs0 (fun k_ hk => .inl hk))
 have HB := gA (Below.refl w.heap.size w)
 have H : (if 0 ≤ a3 then (if (a3 : Int).toNat ≤ 7036874417766 then (fold_line.l0 k l0 a1 a2 (List.replicate 0 z43) a3 0) else (none)) else (none)) = some r := h
 clear h
 obtain ⟨c5, H⟩ := iS H
 have c5b0 := eq_true c5
 have c5b1 := decide_eq_true c5
 clear c5
 obtain ⟨c6, H⟩ := iS H
 have c6b0 := eq_true c6
 have c6b1 := decide_eq_true c6
 clear c6
 obtain ⟨y241, hy241⟩ : ∃ y_ : List (S43), y_ = (List.replicate 0 z43) := ⟨_, rfl⟩
 replace H : (fold_line.l0 k l0 a1 a2 y241 a3 0) = some r := by first | (rw [hy241]; with_reducible exact H) | (have H2_ := (Option.bind_some _ _).symm.trans H; rw [hy241]; with_reducible exact H2_) | (have H2_ := (Option.bind_some _ _).symm.trans H; with_reducible exact H2_) | with_reducible exact H | (rw [hy241]; exact H) | exact H
 have Ny241 := gA hy241
 clear hy241
 have H' := gA H
 clear H
 go_enter Try.func33, Try.ntmps33
 go_wp2_with (first | ((with_reducible refine gate_dst (N := 12) rfl ?_); refine Kd.N_makecap k43 _ 43 rfl (N' := 12) rfl 23 _ _ rfl a3 rfl rfl Try.underlying23 (.agg #[(.int .i64 0), (.int .i64 0), (.slice none 0 0)]) 40 info43 rfl (by decide) (by omega) z43 (ok := fun k_ => w.heap.size ≤ k_) (okp := fun _ => False) (k43_mkF _ _ z43 (Nat.le_refl _) (Kd.F_nil _ _ _)) (fun _ hk => hk.elim) (Nat.le_refl _) (of_decide_eq_true (by assumption)) (Nat.le_trans (Nat.mul_le_mul_right _ (of_decide_eq_true (by assumption) : a3.toNat ≤ 7036874417766)) (by omega)) (Below.refl _ _) (Nat.le_refl _) ?_; intro v242 w7 ho8 hb hg_ hnew_; clear hg_ hnew_; (first | rw [← Ny241.out] at ho8 | (simp only [Int.reduceToNat] at ho8; rw [← Ny241.out] at ho8)); replace HO0 := gA (Kd.V_elder' (gV HO0) (Kd.N_base ho8) hb); have HO243 := gA (Kd.N_lower (Kd.N_mono (ok' := fun k_ => (P0_ k_ ∨ w.heap.size ≤ k_)) ho8 (fun k_ hk_ => (.inr (Nat.le_trans (below_size (gB HB)) hk_)))) (below_size (gB HB))); replace HB := gA (below_step (gB HB) hb); clear hb ho8))
 go_loopg [9, 14] k (fun kq v9 v14 w' => ∃ (x9_1 : List (S43)) (x14_1 : Int), v14 = .int .i64 x14_1 ∧ Aside0 (fold_line.l0 kq l0 a1 a2 x9_1 a3 x14_1 = some r) ∧ Aside0 (kq ≤ k) ∧ Aside0 (Kd.V k43 43 w' w.heap.size (fun k_ => (P0_ k_ ∨ w.heap.size ≤ k_) ∧ some k_ ≠ (v9 : Value).ownBlock) (.slice A0 l0.length c0) l0) ∧ Aside0 (Kd.N k43 43 w' w.heap.size (fun k_ => (P0_ k_ ∨ w.heap.size ≤ k_)) v9 x9_1) ∧ Aside0 (Below w.heap.size w w'))
 case atStart => exact ⟨(y241), (0), (rfl), H', ⟨Nat.le_refl _⟩, ⟨gV HO0⟩, ⟨gN HO243⟩, ⟨gB HB⟩⟩
 case round =>
  clear H'
  try clear p2
  try clear c3
  try clear c5
  try clear c5b0
  try clear c5b1
  try clear c6
  try clear c6b0
  try clear c6b1
  obtain ⟨x9_1, x14_1, rfl, HA, HK1, HO_0, HO_9, HB⟩ := hrel
  cases gk with
  | zero => exact absurd HA.out (by simp [fold_line.l0])
  | succ k1 =>
   have H := HA.out; clear HA
   simp only [fold_line.l0] at H
   by_cases c9 : x14_1 < a3
   ·rw [if_pos c9] at H
    have c9b0 := decide_eq_true c9
    clear c9
    obtain ⟨ji10, hji10⟩ : ∃ j_ : Int, (wrap64 (a1 + (wrap64 (x14_1 * a2)))) = j_ := ⟨_, rfl⟩
    replace H : (if 0 ≤ (ji10) then (if (ji10) < (l0.length : Int) then (if x9_1.length < 3518437208883 then (fold_line.l0 k1 l0 a1 a2 (x9_1 ++ [(⟨(rd_T43 l0 (ji10)).f0, (rd_T43 l0 (ji10)).f1, (rd_T43 l0 (ji10)).f2⟩ : S43)]) a3 (wrap64 (x14_1 + 1))) else (none)) else (none)) else (none)) = some r := by first | (rw [hji10] at H; exact H) | (simp only [hji10] at H ⊢; exact H)
    have hji10w : (IntKind.i64.wrap (a1 + (wrap64 (x14_1 * a2)))) = ji10 := (i64_w _).trans hji10
    obtain ⟨c11, H⟩ := iS H
    have c11b0 := decide_eq_true c11
    clear c11
    obtain ⟨c12, H⟩ := iS H
    have c12b0 := decide_eq_true c12
    clear c12
    obtain ⟨c13, H⟩ := iS H
    have LMc13 := gA c13
    clear c13
    obtain ⟨y245, hy245⟩ : ∃ y_ : List (S43), y_ = (x9_1 ++ [(⟨(rd_T43 l0 (ji10)).f0, (rd_T43 l0 (ji10)).f1, (rd_T43 l0 (ji10)).f2⟩ : S43)]) := ⟨_, rfl⟩
    replace H : (fold_line.l0 k1 l0 a1 a2 y245 a3 (wrap64 (x14_1 + 1))) = some r := by first | (rw [hy245]; with_reducible exact H) | (have H2_ := (Option.bind_some _ _).symm.trans H; rw [hy245]; with_reducible exact H2_) | (have H2_ := (Option.bind_some _ _).symm.trans H; with_reducible exact H2_) | with_reducible exact H | (rw [hy245]; exact H) | exact H
    have Ny245 := gA hy245
    clear hy245
    have H' := gA H
    clear H
    have p244 : 0 ≤ ((ji10) : Int) := of_decide_eq_true (by assumption)
    have q244 : (ji10) < (l0.length : Int) := of_decide_eq_true (by assumption)
    obtain ⟨ad244, A244_2, c244_2, e244, hx244_0, hx244_1, hx244_2, hl244_2, hi244_2⟩ := at_T43 (Kd.V_reads' HO_0.out).2.2 (ji10) p244 q244
    cases e244
    obtain ⟨ce244, hce244, hMe244, hcc244⟩ := Kd.V_get HO_0.out z43 (ji10) p244 (by first | exact q244 | exact of_decide_eq_true (by assumption) | (have e_ := (Kd.V_reads' HO_0.out).1; omega))
    obtain ⟨ua244_2, uc244_2, rfl, ul244_2, ge244_2⟩ := k43_openF hMe244
    have hv244_2 := hcc244 2 _ rfl
    rw [add_field _ _ 2 (by omega)] at hv244_2
    replace hv244_2 := Option.some.inj (hv244_2.symm.trans hx244_2)
    injection hv244_2 with hva_ hvn_ hvc_
    rw [hva_] at ge244_2
    rw [hvc_] at ul244_2
    have HL244_2 := gA (show Kd.V k25 25 _ w.heap.size _ _ ((rd_T43 l0 (ji10)).f2) from Kd.V_mk ul244_2 ge244_2)
    clear hva_ hvn_ hvc_ ge244_2 ul244_2 hcc244 hce244
    have HR244_2 := gA hi244_2
    have HC244_2 := gA hl244_2
    clear hi244_2 hl244_2
    replace p244 := eq_true p244
    replace q244 := eq_true q244
    go_wp2_with (first | ((with_reducible refine gate_builtin (b := .append) (xs := #[.tmp 17, .tmp 26]) rfl ?_); at_builtin; refine Kd.N_append k43 (w0 := w) w.heap.size rfl (.tmp 17) (.tmp 26) 23 43 (.agg #[(.int .i64 0), (.int .i64 0), (.slice none 0 0)]) 40 rfl Try.underlying23 info43 rfl (by decide) (by omega) u9 x9_1 (⟨(rd_T43 l0 (ji10)).f0, (rd_T43 l0 (ji10)).f1, (rd_T43 l0 (ji10)).f2⟩ : S43) [.int .i64 ((rd_T43 l0 (ji10)).f0), .int .i64 ((rd_T43 l0 (ji10)).f1), .slice A244_2 ((rd_T43 l0 (ji10)).f2).length c244_2] (fun k_ => (P0_ k_ ∨ w.heap.size ≤ k_)) (fun k_ => ((fun k_ => (P0_ k_ ∨ w.heap.size ≤ k_))) k_ ∧ some k_ ≠ (u9 : Value).ownBlock) rfl rfl ?aP (fun _ hk => hk) ?aF ?aO ?aB ?aS ?aL ?_; (case aP => exact (k43_mkF _ _ (⟨(rd_T43 l0 (ji10)).f0, (rd_T43 l0 (ji10)).f1, (rd_T43 l0 (ji10)).f2⟩ : S43) (Kd.V_reads' (Kd.V_mono (ok' := (fun k_ => ((fun k_ => (P0_ k_ ∨ w.heap.size ≤ k_))) k_ ∧ some k_ ≠ (u9 : Value).ownBlock)) (HL244_2.out) (fun k_ hk => ⟨hk.1, hk.2⟩))).2.1 (Kd.V_F (Kd.V_mono (ok' := (fun k_ => ((fun k_ => (P0_ k_ ∨ w.heap.size ≤ k_))) k_ ∧ some k_ ≠ (u9 : Value).ownBlock)) (HL244_2.out) (fun k_ hk => ⟨hk.1, hk.2⟩))))); (case aB => exact (gB HB)); (case aF => exact (fun k_ hk => (.inr (Nat.le_trans (below_size (gB HB)) hk)))); (case aO => exact (gN HO_9)); (case aS => exact (below_size (gB HB))); (case aL => have := LMc13.out; omega); intro v246 w14 ho hb hg hat; rw [← Ny245.out] at ho; replace HO_0 := gA (Kd.V_afterv (ok := (fun k_ => (P0_ k_ ∨ w.heap.size ≤ k_))) (gV HO_0) hg hat); replace HL244_2 := gA (Kd.V_afterv (ok := (fun k_ => (P0_ k_ ∨ w.heap.size ≤ k_))) (gV HL244_2) hg hat); replace HB := gA (hb); have HO247 := gA (ho); clear HO_9 ho hb hg hat))
    go_roundg k1
    case measure => have := HK1.out; omega
    case rel => exact ⟨(y245), (wrap64 (x14_1 + 1)), (rfl), H', ⟨by have := HK1.out; omega⟩, ⟨gV HO_0⟩, ⟨gN HO247⟩, ⟨gB HB⟩⟩
   ·rw [if_neg c9] at H
    have c9b0 := decide_eq_false c9
    clear c9
    obtain rfl := Option.some.inj H
    go_wp2
    go_ret
    exact ⟨_, rfl, gN HO_9, gB HB⟩
theorem hf_litC {α : Type} {d : Kd α} {W : World} {g e : Nat} (xs : List α) (inner : List Value) (h : W.heap[g]? = some (.cells inner.toArray e (0, 0))) (hr : Reps (d.K W) d.sz xs inner) (hm : xs.length ≤ 9223372036854775807) : d.C W (some ⟨g, 0, none⟩) xs.length xs := by
 refine ⟨rfl, hm, fun _ => ⟨_, rfl, fun j p hj => ⟨(inner.drop (j * d.sz)).take d.sz, d.K_len (hr.2 j p hj), hr.2 j p hj, fun i u hu => ?_⟩⟩⟩
 rw [add_plain, blk_cell h (j * d.sz + i)]
 have hi : i < d.sz := by
  have := (List.getElem?_eq_some_iff.1 hu).1
  rw [List.length_take] at this
  omega
 rw [List.getElem?_take_of_lt hi, List.getElem?_drop] at hu
 simpa using hu
theorem BxS.add {w W W' : World} {L : List (Nat × Array Value × Nat)} (h : BxS w W L) (hb : Below W.heap.size W W') {g t : Nat} {cs : Array Value} (hg : W'.heap[g]? = some (.cells cs t (0, 0))) (hl : W.heap.size ≤ g) : BxS w W' ((g, cs, t) :: L) := by
 refine ⟨below_step h.bel hb, fun p hp => ?_, fun p hp => ?_⟩
 ·rcases List.mem_cons.1 hp with rfl | hp
  ·exact hg
  ·exact blk_below (h.blk p hp) hb
 ·rcases List.mem_cons.1 hp with rfl | hp
  ·exact Nat.le_trans h.bel.size hl
  ·exact h.fr p hp
theorem hf_add (a : Addr) (n : Nat) (h : n ≠ 0) : a.add n = ⟨a.block, a.off + n, none⟩ := by unfold Addr.add; rw [if_neg h]
section
variable {w W W2 : World} {L : List (Nat × Array Value × Nat)} {g go t : Nat} {x y vs u v1 v2 : Value} {P : Nat → Prop} {acc : List S43}
theorem BxS.grown (h : BxS w W L) (hb : Below w.heap.size w W2) {row : Option Nat} (hg : W.grownBy W2 row) (hne : ∀ p ∈ L, some p.1 ≠ row) : BxS w W2 L := ⟨hb, fun p hp => blk_grown (h.blk p hp) hg (hne p hp), h.fr⟩
theorem BxS.set1 (h : BxS w W ((g, #[x, y], t) :: L)) (hL : ∀ p ∈ L, p.1 ≠ g) (b : Value) : BxS w (W.setCell ⟨g, 1, none⟩ b) ((g, #[x, b], t) :: L) := by
 have hg := h.fr _ List.mem_cons_self
 refine ⟨below_set h.bel hg, fun p hp => ?_, fun p hp => ?_⟩
 ·rcases List.mem_cons.1 hp with rfl | hp
  ·exact blk_put (cs := #[x, y]) (h.blk _ List.mem_cons_self) 1 b rfl
  ·exact blk_far (h.blk p (List.mem_cons_of_mem _ hp)) (hL p hp) _
 ·rcases List.mem_cons.1 hp with rfl | hp
  ·exact hg
  ·exact h.fr p (List.mem_cons_of_mem _ hp)
structure OutN (w W : World) (L : List (Nat × Array Value × Nat)) (P : Nat → Prop) (go : Nat) (vs u v1 : Value) (acc : List S43) : Prop where
 bx : BxS w W ((go, #[vs, u], 25) :: L)
 fr : ∀ p ∈ L, p.1 ≠ go
 r1 : Kd.N k43 43 W w.heap.size (fun k => ((P k ∧ k < w.heap.size) ∨ w.heap.size ≤ k) ∧ k ≠ go ∧ ∀ p ∈ L, k ≠ p.1) v1 acc
theorem OutN.step (h : OutN w W L P go vs u v1 acc) (hb : Below W.heap.size W W2) : OutN w W2 L P go vs u v1 acc := ⟨h.bx.step hb, h.fr, Kd.N_below h.r1 hb⟩
theorem OutN.put1 (h : OutN w W L P go vs u v1 acc) : OutN w (W.setCell ⟨go, 1, none⟩ v1) L P go vs v1 v1 acc := ⟨h.bx.set1 h.fr v1, h.fr, Kd.N_far h.r1 (fun _ hk => hk.2.1) _⟩
theorem OutN.fresh (h : OutN w W L P go vs u v1 acc) : ∀ k, W.heap.size ≤ k → (((P k ∧ k < w.heap.size) ∨ w.heap.size ≤ k) ∧ k ≠ go ∧ ∀ p ∈ L, k ≠ p.1) ∧ some k ≠ v1.ownBlock :=
 fun k hk => ⟨⟨Or.inr (Nat.le_trans h.bx.bel.size hk), Kd.freshB (h.bx.blk _ List.mem_cons_self) k hk, fun p hp => Kd.freshB (h.bx.blk p (List.mem_cons_of_mem _ hp)) k hk⟩, Kd.fresh' (Kd.N_lt h.r1) k hk⟩
theorem OutN.elder (h : OutN w W L P go vs u v1 acc) : ∀ k, P k ∧ k < w.heap.size → (((P k ∧ k < w.heap.size) ∨ w.heap.size ≤ k) ∧ k ≠ go ∧ ∀ p ∈ L, k ≠ p.1) ∧ some k ≠ v1.ownBlock :=
 fun k hk => ⟨⟨Or.inl hk, fun e => absurd (h.bx.fr _ List.mem_cons_self) (by rw [← e]; exact Nat.not_le_of_lt hk.2), fun p hp e => absurd (h.bx.fr p (List.mem_cons_of_mem _ hp)) (by rw [← e]; exact Nat.not_le_of_lt hk.2)⟩, fun e => absurd (Kd.N_base h.r1 k e.symm) (Nat.not_le_of_lt hk.2)⟩
end
section
variable {P0 : Program} {ops : Array Oper} {o : Oper} {rest : List Oper} {a : Act} {Q : Exit → Act → World → Prop} {w W : World} {L : List (Nat × Array Value × Nat)} {go : Nat} {vs u v1 : Value} {P : Nat → Prop} {acc : List S43}
theorem OutN.app (h : OutN w W L P go vs u v1 acc) (hgd : o.guard = none) (sx x : Operand) (t : TypeId) (z : Value) (ho : o.op = .call { callee := .builtin .append, args := #[sx, x], argTypes := #[t, t] })
  (ht : P0.underlying t = some (.slice 43)) (hinfo : (P0.info? 43).map (fun i => (i.zero, i.size, i.bytes)) = some (some z, 3, 40)) (hz : z.cells.size = 3) (hs : a.eval sx = v1) (hx : a.eval x = .slice (some ⟨W.heap.size, 0, none⟩) 1 1)
  (p : S43) (cs : List Value) (okp : Nat → Prop) (hp : Kd.FK k43 W okp p cs) (hok : ∀ k, okp k → (((P k ∧ k < w.heap.size) ∨ w.heap.size ≤ k) ∧ k ≠ go ∧ ∀ p ∈ L, k ≠ p.1) ∧ some k ≠ v1.ownBlock) (hl : (acc.length + 1) * 40 ≤ 140737488355328)
  (hK : ∀ v2 w2, OutN w w2 L P go vs u v2 (acc ++ [p]) → wpList P0 ops Q rest (a.put o.dst v2) w2) : wpList P0 ops Q (o :: rest) a (W.alloc (.cells cs.toArray 43)) := by
 refine Kd.N_append k43 (w0 := w) w.heap.size hgd sx x t 43 z 40 ho ht hinfo hz (by decide) (by omega) v1 acc p cs _ okp hs hx hp hok (fun k hk => (h.fresh k hk).1) h.r1 h.bx.bel h.bx.bel.size hl ?_
 intro v2 w2 h1 hb hg hat
 refine hK v2 w2 ⟨h.bx.grown hb hg ?_, h.fr, h1⟩
 intro q hq he
 rcases List.mem_cons.1 hq with rfl | hq
 ·exact Kd.N_away h.r1 (fun k hk => hk.2.1) he
 ·exact Kd.N_away h.r1 (fun k hk => hk.2.2 q hq) he
end
theorem fo_C1 {W : World} {g : Nat} {s : List Int} {c : List S43} {A0 A1 : Option Addr} {c0 c1 : Nat} (hb : W.heap[g]? = some (.cells #[.slice A0 s.length c0, .slice A1 c.length c1] 25 (0, 0))) (h0 : s.length ≤ c0) (h1 : (Kd.int .i64).C W A0 s.length s) (h2 : c.length ≤ c1) (h3 : k43.C W A1 c.length c) : k25.C W (some ⟨g, 0, none⟩) 1 [⟨s, c⟩] :=
 hf_litC (d := k25) [⟨s, c⟩] [.slice A0 s.length c0, .slice A1 c.length c1] hb ⟨rfl, fun j p hj => by
  cases j with
  | zero =>
   obtain rfl : (⟨s, c⟩ : S25) = p := by simpa using hj
   exact k25_mk W ⟨s, c⟩ h0 h1 h2 h3
  | succ j => simp at hj⟩ (by simp)
theorem fo_C2 {W : World} {g : Nat} {s1 s2 : List Int} {q1 q2 : List S43} {A0 A1 B0 B1 : Option Addr} {c0 c1 d0 d1 : Nat} (hb : W.heap[g]? = some (.cells #[.slice A0 s1.length c0, .slice A1 q1.length c1, .slice B0 s2.length d0, .slice B1 q2.length d1] 25 (0, 0))) (h0 : s1.length ≤ c0) (h1 : (Kd.int .i64).C W A0 s1.length s1) (h2 : q1.length ≤ c1) (h3 : k43.C W A1 q1.length q1) (g0 : s2.length ≤ d0) (g1 : (Kd.int .i64).C W B0 s2.length s2) (g2 : q2.length ≤ d1) (g3 : k43.C W B1 q2.length q2) : k25.C W (some ⟨g, 0, none⟩) 2 [⟨s1, q1⟩, ⟨s2, q2⟩] :=
 hf_litC (d := k25) [⟨s1, q1⟩, ⟨s2, q2⟩] [.slice A0 s1.length c0, .slice A1 q1.length c1, .slice B0 s2.length d0, .slice B1 q2.length d1] hb ⟨rfl, fun j p hj => by
  rcases j with _ | _ | j
  ·obtain rfl : (⟨s1, q1⟩ : S25) = p := by simpa using hj
   exact k25_mk W ⟨s1, q1⟩ h0 h1 h2 h3
  ·obtain rfl : (⟨s2, q2⟩ : S25) = p := by simpa using hj
   exact k25_mk W ⟨s2, q2⟩ g0 g1 g2 g3
  ·simp at hj⟩ (by simp)
/-- What a copy made is told: stored into the result's box. -/
theorem fo_ret {w W2 : World} {L : List (Nat × Array Value × Nat)} {p : Nat × Array Value × Nat} {B : Nat} {P ok0 : Nat → Prop} {v0 v1 : Value} {r1 : List Int} {r2 : List S43} (HS : BxS w W2 L) (hp : p ∈ L) (hs : w.heap.size ≤ B) (hg : p.1 < B) (h0 : Kd.R (Kd.int .i64) 3 W2 B (fun k => B ≤ k) v0 r1) (h1 : Kd.N k43 43 W2 B (fun k => (ok0 k ∨ B ≤ k) ∧ some k ≠ v0.ownBlock) v1 r2) (hok : ∀ k, ok0 k → k ≠ p.1 ∧ (P k ∨ w.heap.size ≤ k)) :
  Kd.R (Kd.int .i64) 3 ((W2.setCell ⟨p.1, 0, none⟩ v0).setCell ⟨p.1, 1, none⟩ v1) w.heap.size (fun k => w.heap.size ≤ k) v0 r1 ∧ Kd.N k43 43 ((W2.setCell ⟨p.1, 0, none⟩ v0).setCell ⟨p.1, 1, none⟩ v1) w.heap.size (fun k => (P k ∨ w.heap.size ≤ k) ∧ some k ≠ v0.ownBlock) v1 r2 ∧ Below w.heap.size w ((W2.setCell ⟨p.1, 0, none⟩ v0).setCell ⟨p.1, 1, none⟩ v1) := by
 have e1 : ∀ k, (ok0 k ∨ B ≤ k) → k ≠ p.1 := fun k hk => hk.elim (fun h => (hok k h).1) (fun h => Nat.ne_of_gt (Nat.lt_of_lt_of_le hg h))
 refine ⟨Kd.R_mono (Kd.R_far (Kd.R_far (Kd.R_lower h0 hs) (fun k hk => Nat.ne_of_gt (Nat.lt_of_lt_of_le hg hk)) _) (fun k hk => Nat.ne_of_gt (Nat.lt_of_lt_of_le hg hk)) _) (fun k hk => Nat.le_trans hs hk), Kd.N_mono (Kd.N_far (Kd.N_far (Kd.N_lower h1 hs) (fun k hk => e1 k hk.1) _) (fun k hk => e1 k hk.1) _) (fun k hk => ⟨hk.1.elim (fun h => (hok k h).2) (fun h => Or.inr (Nat.le_trans hs h)), hk.2⟩), below_set (below_set HS.bel (HS.fr p hp)) (HS.fr p hp)⟩
theorem BxS.addB {w W : World} {L : List (Nat × Array Value × Nat)} {g t : Nat} {cs : Array Value} (h : BxS w W L) (hl : w.heap.size ≤ g) (hg : W.heap[g]? = some (.cells cs t (0, 0))) : BxS w W ((g, cs, t) :: L) := by
 refine ⟨h.bel, fun p hp => ?_, fun p hp => ?_⟩
 ·rcases List.mem_cons.1 hp with rfl | hp
  ·exact hg
  ·exact h.blk p hp
 ·rcases List.mem_cons.1 hp with rfl | hp
  ·exact hl
  ·exact h.fr p hp
theorem OutN.mk1 {w W : World} {L : List (Nat × Array Value × Nat)} {P : Nat → Prop} (h : BxS w W L) (v : Value) {v1 : Value} {xs : List S43} (h1 : Kd.N k43 43 W w.heap.size (fun k => ((P k ∧ k < w.heap.size) ∨ w.heap.size ≤ k) ∧ ∀ p ∈ L, k ≠ p.1) v1 xs) : OutN w (W.alloc (.cells #[v, v1] 25)) L P W.heap.size v v1 v1 xs :=
 ⟨h.cons _ _, fun p hp => Nat.ne_of_lt (blk_lt (h.blk p hp)), Kd.N_mono (Kd.N_alloc (Kd.N_bound h1) _) (fun k hk => ⟨hk.1.1, Nat.ne_of_lt hk.2, hk.1.2⟩)⟩
theorem OutN.mk0 {w W : World} {L : List (Nat × Array Value × Nat)} {P : Nat → Prop} (h : BxS w W L) (v : Value) : OutN w (W.alloc (.cells #[v, .slice none 0 0] 25)) L P W.heap.size v (.slice none 0 0) (.slice none 0 0) [] := ⟨h.cons _ _, fun p hp => Nat.ne_of_lt (blk_lt (h.blk p hp)), Kd.N_nil _ _ _ _ _⟩
section
variable {P0 : Program} {ops : Array Oper} {o : Oper} {rest : List Oper} {a : Act} {Q : Exit → Act → World → Prop} {w W : World} {L : List (Nat × Array Value × Nat)} {go g n cap : Nat} {vs u : Value} {P : Nat → Prop} {acc : List S43}
theorem OutN.store (h : OutN w W L P go vs u (.slice (some ⟨g, 0, none⟩) n cap) acc) (hN : o.dst = none) (hgd : o.guard = none) (p x : Operand) (ho : o.op = .store 43 p x) (i : Int) (h0 : 0 ≤ i) (hi : i < n) (haddr : a.eval p = .pointer (some ⟨g, i.toNat * 3, none⟩)) (x' : S43) (cs : List Value) (hx : (a.eval x).cells.toList = cs) (hinfo : (P0.info? 43).map (·.size) = some 3)
  (okp : Nat → Prop) (hM : Kd.FK k43 W okp x' cs) (hok : ∀ k, okp k → (((P k ∧ k < w.heap.size) ∨ w.heap.size ≤ k) ∧ k ≠ go ∧ ∀ p ∈ L, k ≠ p.1) ∧ some k ≠ (Value.slice (some ⟨g, 0, none⟩) n cap).ownBlock)
  (hK : ∀ w1, OutN w w1 L P go vs u (.slice (some ⟨g, 0, none⟩) n cap) (acc.set i.toNat x') → W.grownBy w1 (some g) → wpList P0 ops Q rest a w1) : wpList P0 ops Q (o :: rest) a W := by
 obtain ⟨c, hcl, _, hcc, _⟩ := Kd.N_elem h.r1 z43 i h0 hi
 obtain ⟨A2, c2, rfl, hl2, hF⟩ := k43_openF hM
 have hc3 : c.length = 3 := hcl
 refine Kd.N_store k43 w.heap.size hN hgd 43 p x ho 43 i 0 acc x' _ _ c _ okp haddr rfl rfl hx hinfo (by intro q hq; simp at hq; rcases hq with rfl | rfl | rfl <;> rfl) h.r1 h0 hi hcl hcc (by exact Nat.le_refl 3) (by rw [List.take_zero, List.nil_append, List.drop_eq_nil_of_le (by rw [hc3]; exact Nat.le_refl 3), List.append_nil]; exact hM) (fun k hk => ⟨(hok k hk).1, fun e => (hok k hk).2 (by rw [e]; simp [Value.ownBlock])⟩) h.bx.bel ?_
 intro w1 h1 hb hg
 refine hK w1 ⟨h.bx.grown hb hg ?_, h.fr, h1⟩ hg
 intro q hq he
 rcases List.mem_cons.1 hq with rfl | hq
 ·exact Kd.N_away h.r1 (fun k hk => hk.2.1) (by rw [he]; simp [Value.ownBlock])
 ·exact Kd.N_away h.r1 (fun k hk => hk.2.2 q hq) (by rw [he]; simp [Value.ownBlock])
end
/-- A row of numbers whose block is kept as it is. -/
theorem fo_hold {W : World} {base g n c t : Nat} {ok : Nat → Prop} {xs : List Int} {cells : Array Value} (h : Kd.R (Kd.int .i64) 3 W base ok (.slice (some ⟨g, 0, none⟩) n c) xs) (hb : W.heap[g]? = some (.cells cells t (0, 0))) : ∀ X : World, X.heap[g]? = some (.cells cells t (0, 0)) → Kd.R (Kd.int .i64) 3 X base ok (.slice (some ⟨g, 0, none⟩) n c) xs := fun X hX =>
 Kd.R_mono (Kd.R_step (Kd.R_tight rfl h) (fun k hk _ => by
  have e : g = k := by simpa [Value.ownBlock] using hk.symm
  rw [← e, hX, hb])) (fun k hk => h.1 k hk.symm)
/-- What was put together is told as it is. -/
theorem fo_ret2 {w W : World} {L : List (Nat × Array Value × Nat)} {P : Nat → Prop} {go gs n0 cap0 : Nat} {cur : Array Value} {vs u v1 : Value} {acc : List S43} {s : List Int} (HT : OutN w W ((gs, cur, 3) :: L) P go vs u v1 acc) (HX : ∀ X : World, X.heap[gs]? = some (.cells cur 3 (0, 0)) → Kd.R (Kd.int .i64) 3 X w.heap.size (fun k => w.heap.size ≤ k) (.slice (some ⟨gs, 0, none⟩) n0 cap0) s) {p : Nat × Array Value × Nat} (hp : p ∈ L) (hne : p.1 ≠ gs) :
  Kd.R (Kd.int .i64) 3 ((W.setCell ⟨p.1, 0, none⟩ (.slice (some ⟨gs, 0, none⟩) n0 cap0)).setCell ⟨p.1, 1, none⟩ v1) w.heap.size (fun k => w.heap.size ≤ k) (.slice (some ⟨gs, 0, none⟩) n0 cap0) s ∧ Kd.N k43 43 ((W.setCell ⟨p.1, 0, none⟩ (.slice (some ⟨gs, 0, none⟩) n0 cap0)).setCell ⟨p.1, 1, none⟩ v1) w.heap.size (fun k => (P k ∨ w.heap.size ≤ k) ∧ some k ≠ (Value.slice (some ⟨gs, 0, none⟩) n0 cap0).ownBlock) v1 acc ∧ Below w.heap.size w ((W.setCell ⟨p.1, 0, none⟩ (.slice (some ⟨gs, 0, none⟩) n0 cap0)).setCell ⟨p.1, 1, none⟩ v1) := by
 have hm : p ∈ (gs, cur, 3) :: L := List.mem_cons_of_mem _ hp
 have hf : w.heap.size ≤ p.1 := HT.bx.fr p (List.mem_cons_of_mem _ hm)
 refine ⟨HX _ (blk_far (blk_far (HT.bx.blk (gs, cur, 3) (List.mem_cons_of_mem _ List.mem_cons_self)) hne.symm _) hne.symm _), Kd.N_mono (Kd.N_far (Kd.N_far HT.r1 (fun k hk => hk.2.2 p hm) _) (fun k hk => hk.2.2 p hm) _) (fun k hk => ⟨hk.1.elim (fun h => Or.inl h.1) Or.inr, ?_⟩), below_set (below_set HT.bx.bel hf) hf⟩
 have := hk.2.2 (gs, cur, 3) List.mem_cons_self
 simpa [Value.ownBlock] using this
section
variable {w W : World} {L : List (Nat × Array Value × Nat)} {go : Nat} {v0 u1 v1 : Value} {s : List Int} {c : List S43}
theorem OutS.more (h : OutS w W L go v0 u1 v1 s c) (cs : Array Value) (t : Nat) : OutS w (W.alloc (.cells cs t)) ((W.heap.size, cs, t) :: L) go v0 u1 v1 s c := by
 refine ⟨h.bx.cons cs t, fun p hp => ?_, blk_alloc h.out _, h.ofr, Kd.R_mono (Kd.R_alloc (Kd.R_bound h.r0) _) (fun k hk => ⟨hk.1.1, fun p hp => ?_⟩), Kd.R_mono (Kd.R_alloc (Kd.R_bound h.r1) _) (fun k hk => ⟨hk.1.1, hk.1.2.1, fun p hp => ?_⟩)⟩
 ·rcases List.mem_cons.1 hp with rfl | hp
  ·exact Nat.ne_of_gt (blk_lt h.out)
  ·exact h.fr p hp
 ·rcases List.mem_cons.1 hp with rfl | hp
  ·exact Nat.ne_of_lt hk.2.2.1
  ·exact hk.1.2 p hp
 ·rcases List.mem_cons.1 hp with rfl | hp
  ·exact Nat.ne_of_lt hk.2.2.1
  ·exact hk.1.2.2 p hp
theorem OutS.less {p : Nat × Array Value × Nat} (h : OutS w W (p :: L) go v0 u1 v1 s c) : OutS w W L go v0 u1 v1 s c :=
 ⟨h.bx.drop, fun q hq => h.fr q (List.mem_cons_of_mem _ hq), h.out, h.ofr, Kd.R_mono h.r0 (fun _ hk => ⟨hk.1, fun q hq => hk.2 q (List.mem_cons_of_mem _ hq)⟩), Kd.R_mono h.r1 (fun _ hk => ⟨hk.1, hk.2.1, fun q hq => hk.2.2 q (List.mem_cons_of_mem _ hq)⟩)⟩
/-- A box that is there, and a row that is put into it. -/
theorem OutS.mk2 {x y : Value} (h : BxS w W L) (hL : L.all (fun p => p.2.2 != 3) = true) (hne : ∀ p ∈ L, p.1 ≠ go) (hgo : W.heap[go]? = some (.cells #[x, y] 25 (0, 0))) (hfr : w.heap.size ≤ go) (h0 : Kd.R (Kd.int .i64) 3 W w.heap.size (fun _ => True) v0 s) : OutS w ((W.setCell ⟨go, 0, none⟩ v0).setCell ⟨go, 1, none⟩ (.slice none 0 0)) L go v0 (.slice none 0 0) (.slice none 0 0) s [] := by
 have hq : ∀ (k : Nat) (t : Nat) (cs : Array Value), W.heap[k]? = some (.cells cs t (0, 0)) → t ≠ 3 → (∃ q, q ∈ 3 :: (Kd.int .i64).E ∧ ∃ cells, W.heap[k]? = some (.cells cells q (0, 0))) → False := by
  rintro k t cs h1 h2 ⟨q, hq, cells, hc⟩
  have hq2 : q = 3 := by simpa [Kd.int, Kd.scalar] using hq
  rw [h1] at hc
  injection hc with hc
  injection hc with _ h3 _
  exact h2 (h3.trans hq2)
 have h1 : Kd.R (Kd.int .i64) 3 W w.heap.size (fun k => k ≠ go ∧ ∀ p ∈ L, k ≠ p.1) v0 s := Kd.R_mono (Kd.R_bound h0) (fun k hk => ⟨fun e => hq go _ _ hgo (by decide) (e ▸ hk.2.2.2), fun p hp e => hq p.1 _ _ (h.blk p hp) (by have := List.all_eq_true.1 hL p hp; simpa using this) (e ▸ hk.2.2.2)⟩)
 exact ⟨⟨below_set (below_set h.bel hfr) hfr, fun p hp => blk_far (blk_far (h.blk p hp) (hne p hp) _) (hne p hp) _, h.fr⟩, hne, hf_z2 hgo _ _, hfr, Kd.R_far (Kd.R_far h1 (fun k hk => hk.1) _) (fun k hk => hk.1) _, Kd.R_nil _ _ _ _ _⟩
end
end Go.Proofs.Ytahgfebdjjfkhaa.P
