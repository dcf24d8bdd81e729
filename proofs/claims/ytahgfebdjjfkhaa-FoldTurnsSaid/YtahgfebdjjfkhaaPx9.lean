/- Written by a program of this session: the functions that the laws reach, what each comes to, and each law as it is stated, for every input. No condition. -/
import Derived.Test.YtahgfebdjjfkhaaPx0
import Derived.Test.YtahgfebdjjfkhaaPx2
import Derived.Test.YtahgfebdjjfkhaaPx3
import Derived.Test.YtahgfebdjjfkhaaPx4
import Derived.Test.YtahgfebdjjfkhaaPx7
import Derived.Test.YtahgfebdjjfkhaaPx8
namespace Go.Proofs.Ytahgfebdjjfkhaa.P
open Go.RowKit Go.Proofs.YtahgfebdjjfkhaaW.PrintWords Go.Proofs.YtahgfebdjjfkhaaW.PrintLast Go.Proofs.YtahgfebdjjfkhaaW.PrintMore
attribute [local go_sem] max2_int min2_int max_two min_two max_three min_three max_four min_four   -- for this text's walks alone
set_option linter.unusedVariables false
set_option linter.unusedSimpArgs false
def fold_Red.lj (k : Nat) (op : Int) (t : Bool) (l : List (S43)) (T G : Int) (i : Nat) : Nat → Nat → List (S43) → Option (Int × List (S43))
 | 0, _, acc => some (0, acc)
 | n + 1, j, acc => (fold_line.f k l (wrap64 (wrap64 (wrap64 ((i : Int) * T) * G) + (j : Int))) T G).bind fun x => (fold_F_row.f k op t x).bind fun b => if b.2.2.2 = 0 then (if acc.length < 3518437208883 then fold_Red.lj k op t l T G i n (j + 1) (acc ++ [⟨b.1, b.2.1, b.2.2.1⟩]) else none) else some (b.2.2.2, [])
def fold_Red.li (k : Nat) (op : Int) (t : Bool) (l : List (S43)) (T G : Int) : Nat → Nat → List (S43) → Option (Int × List (S43))
 | 0, _, acc => some (0, acc)
 | n + 1, i, acc => (fold_Red.lj k op t l T G i T.toNat 0 acc).bind fun r => if r.1 = 0 then fold_Red.li k op t l T G n (i + 1) r.2 else some (r.1, [])
def fold_Red.ax (s : List Int) (last : Bool) : Nat := if last = true then s.length - 1 else 0
def fold_Red.end_ (k : Nat) (z : List Int) (r : Int × List (S43)) : Option (List Int × List (S43) × Int) := if r.1 = 0 then (arr_Copy.f k z r.2).bind fun c => some (c.1, c.2, 0) else some ([], [], r.1)
def fold_Red.g (k : Nat) (op : Int) (t : Bool) (s z : List Int) (l : List (S43)) (a : Nat) : Option (List Int × List (S43) × Int) :=
 (arr_Size.f k z).bind fun q => if q.2 = 0 then ((fold_lines.f s (a : Int)).bind fun o => if o.1 ≤ 9223372036854775807 ∧ o.2.1 ≤ 9223372036854775807 then ((fold_Red.li k op t l o.2.1 o.2.2 o.1.toNat 0 []).bind fun r => fold_Red.end_ k z r) else none) else some ([], [], q.2)
def fold_Red.f (k : Nat) (a0_0 : Int) (a0_1 : Bool) (l1_0 : List Int) (l1_1 : List (S43)) (a2 : Bool) : Option (List Int × List (S43) × Int) :=
 (fold_F_checked.f k a0_0 a0_1 [⟨l1_0, l1_1⟩]).bind fun e => if e = 0 then (if l1_0.length = 0 then (arr_Copy.f k l1_0 l1_1).bind fun c => some (c.1, c.2, 0) else if l1_0.length < 17592186044416 then fold_Red.g k a0_0 a0_1 l1_0 (l1_0.take (fold_Red.ax l1_0 a2) ++ l1_0.drop (fold_Red.ax l1_0 a2 + 1)) l1_1 (fold_Red.ax l1_0 a2) else none) else some ([], [], e)
theorem fold_Red.mono_lj (k : Nat) (op : Int) (t : Bool) (l : List (S43)) (T G : Int) (i : Nat) : ∀ n j acc, LeO (fold_Red.lj k op t l T G i n j acc) (fold_Red.lj (k + 1) op t l T G i n j acc)
 | 0, _, _ => LeO.refl _
 | n + 1, j, acc => by
  unfold fold_Red.lj
  exact LeO.bind (fold_line.mono _ _ _ _ _) (fun _ => LeO.bind (fold_F_row.mono _ _ _ _) (fun _ => LeO.ite (LeO.ite (fold_Red.mono_lj k op t l T G i n _ _) (LeO.none _)) (LeO.refl _)))
theorem fold_Red.mono_li (k : Nat) (op : Int) (t : Bool) (l : List (S43)) (T G : Int) : ∀ n i acc, LeO (fold_Red.li k op t l T G n i acc) (fold_Red.li (k + 1) op t l T G n i acc)
 | 0, _, _ => LeO.refl _
 | n + 1, i, acc => by
  unfold fold_Red.li
  exact LeO.bind (fold_Red.mono_lj _ _ _ _ _ _ _ _ _ _) (fun _ => LeO.ite (fold_Red.mono_li k op t l T G n _ _) (LeO.refl _))
theorem fold_Red.mono_end (k : Nat) (z : List Int) (r : Int × List (S43)) : LeO (fold_Red.end_ k z r) (fold_Red.end_ (k + 1) z r) := LeO.ite (LeO.bind (arr_Copy.mono _ _ _) (fun _ => LeO.refl _)) (LeO.refl _)
theorem fold_Red.mono : ∀ a0 a1 a2 a3 a4 k, LeO (fold_Red.f k a0 a1 a2 a3 a4) (fold_Red.f (k + 1) a0 a1 a2 a3 a4) := by
 intro a0 a1 a2 a3 a4 k
 unfold fold_Red.f fold_Red.g
 exact LeO.bind (fold_F_checked.mono _ _ _ _) (fun _ => LeO.ite (LeO.ite (LeO.bind (arr_Copy.mono _ _ _) (fun _ => LeO.refl _)) (LeO.ite (LeO.bind (arr_Size.mono _ _) (fun _ => LeO.ite (LeO.bind (LeO.refl _) (fun _ => LeO.ite (LeO.bind (fold_Red.mono_li _ _ _ _ _ _ _ _ _) (fun _ => fold_Red.mono_end _ _ _)) (LeO.none _))) (LeO.refl _))) (LeO.none _))) (LeO.refl _))
def fold_Red.T18 : Bool × List (List Nat × List Nat) := (true, [([], []), ([], []), ([1], [1]), ([], []), ([], []), ([3, 4], [3, 4]), ([], []), ([5, 6], [5, 6]), ([], []), ([7, 8], [7, 8]), ([], []), ([], []), ([2, 9, 10, 11], [2, 9, 10, 11]), ([0, 12, 12], [0, 12]), ([13], [13]), ([14], [14]), ([14], [14]), ([], []), ([17, 15, 13, 0, 1, 2, 3, 4, 5, 6, 7, 8, 9, 10, 11, 12, 13, 14, 15, 17], [15, 17]), ([16, 18, 0, 1, 2, 3, 4, 5, 6, 7, 8, 9, 10, 11, 12, 13, 14, 15, 16, 17, 18], [16])])
def fold_Red.B18 : List Nat := [0, 0, 2, 0, 0, 24, 0, 120, 0, 504, 0, 0, 4094, 8191, 16383, 32767, 32767, 0, 196607, 524287]
theorem fold_Red.tab18 : rtab .any (opsOf Try.f12 18) = fold_Red.T18 := by kernel_rfl
theorem fold_Red.bits18 : waitsOk fold_Red.T18.2 fold_Red.B18 = true := by kernel_rfl
set_option maxHeartbeats 8000000 in
set_option maxRecDepth 100000 in
theorem fold_Red.calls (k : Nat) (a0_0 : Int) (a0_1 : Bool) (A1_0 : Option Addr) (c1_0 : Nat) (l1_0 : List Int) (P1_1_ : Nat → Prop) (A1_1 : Option Addr) (c1_1 : Nat) (l1_1 : List (S43)) (a2 : Bool) (r1 : List Int) (r2 : List (S43)) (r3 : Int) (w : World) (hr1_0 : Kd.C (Kd.int .i64) w A1_0 l1_0.length l1_0) (hc1_0 : l1_0.length ≤ c1_0) (hs1_1 : Kd.V k43 43 w w.heap.size (fun k_ => P1_1_ k_) (.slice A1_1 l1_1.length c1_1) l1_1) (h : fold_Red.f k a0_0 a0_1 l1_0 l1_1 a2 = some (r1, r2, r3)) :
  Calls Try.prog 12 #[.agg #[.int .i64 a0_0, .bool a0_1], .agg #[.slice A1_0 l1_0.length c1_0, .slice A1_1 l1_1.length c1_1], .bool a2] w fun e w' => ∃ v0_ v1_ : Value, e = .returned (.tuple #[.agg #[v0_, v1_], .int .i64 r3]) ∧ Kd.R (Kd.int .i64) 3 w' w.heap.size (fun k_ => (w.heap.size ≤ k_)) v0_ r1 ∧ Kd.N k43 43 w' w.heap.size (fun k_ => (P1_1_ k_ ∨ w.heap.size ≤ k_) ∧ some k_ ≠ (v0_ : Value).ownBlock) v1_ r2 ∧ Below w.heap.size w w' := by
 have hu_a := Try.underlying25
 have hu_f := Try.underlying32
 have HR := Aside0.mk (And.intro hr1_0 hc1_0); have HV := Aside0.mk (Kd.V_bound hs1_1); clear hr1_0 hc1_0 hs1_1
 have HS := Aside0.mk (BxS.three w #[.int .i64 a0_0, .bool a0_1] 32 #[.slice A1_0 l1_0.length c1_0, .slice A1_1 l1_1.length c1_1] 25 #[.slice none 0 0, .slice none 0 0] 25)
 unfold fold_Red.f at h
 obtain ⟨e0, q0, h⟩ := Option.bind_eq_some_iff.1 h; have Q0 := Aside0.mk q0; clear q0
 go_enter Try.func12, Try.ntmps12
 go_upto_region 1 with (fail)
 generalize ((w.alloc (.cells #[.int .i64 a0_0, .bool a0_1] 32)).alloc (.cells #[.slice A1_0 l1_0.length c1_0, .slice A1_1 l1_1.length c1_1] 25)).alloc (.cells #[.slice none 0 0, .slice none 0 0] 25) = W at HS ⊢
 have x0 : W.cell? ⟨w.heap.size, 0, none⟩ = some (.int .i64 a0_0) := (blk_cell (HS.out.at_ 2 rfl) 0).trans rfl; have x1 : W.cell? ⟨w.heap.size, 1, none⟩ = some (.bool a0_1) := (blk_cell (HS.out.at_ 2 rfl) 1).trans rfl; have y0 : W.cell? ⟨w.heap.size + 1, 0, none⟩ = some (.slice A1_0 l1_0.length c1_0) := (blk_cell (HS.out.at_ 1 rfl) 0).trans rfl; have y1 : W.cell? ⟨w.heap.size + 1, 1, none⟩ = some (.slice A1_1 l1_1.length c1_1) := (blk_cell (HS.out.at_ 1 rfl) 1).trans rfl; have z0 : W.cell? ⟨w.heap.size + 1 + 1, 0, none⟩ = some (.slice none 0 0) := (blk_cell (HS.out.at_ 0 rfl) 0).trans rfl; have z1 : W.cell? ⟨w.heap.size + 1 + 1, 1, none⟩ = some (.slice none 0 0) := (blk_cell (HS.out.at_ 0 rfl) 1).trans rfl; have f0 := blk_frozen (HS.out.at_ 0 rfl) 0; have f1 := blk_frozen (HS.out.at_ 0 rfl) 1
 go_upto_region 2 with (go_at_call 25; refine (fold_F_checked.calls k a0_0 a0_1 _ 1 [(⟨l1_0, l1_1⟩ : S25)] e0 _ (fo_C1 (blk_new W _) HR.out.2 (Kd.C_alloc (Kd.C_below HR.out.1 HS.out.bel) _) (Kd.V_reads' HV.out).2.1 (Kd.C_alloc (Kd.C_below (Kd.V_reads' HV.out).2.2 HS.out.bel) _)) (Nat.le_refl 1) Q0.out).mono ?_; rintro e w1 ⟨rfl, hb⟩; have HS := Aside0.mk (HS.out.step (hf_ac hb)); (try clear x0 x1 y0 y1 z0 z1 f0 f1); have x0 : w1.cell? ⟨w.heap.size, 0, none⟩ = some (.int .i64 a0_0) := (blk_cell (HS.out.at_ 2 rfl) 0).trans rfl; have x1 : w1.cell? ⟨w.heap.size, 1, none⟩ = some (.bool a0_1) := (blk_cell (HS.out.at_ 2 rfl) 1).trans rfl; have y0 : w1.cell? ⟨w.heap.size + 1, 0, none⟩ = some (.slice A1_0 l1_0.length c1_0) := (blk_cell (HS.out.at_ 1 rfl) 0).trans rfl; have y1 : w1.cell? ⟨w.heap.size + 1, 1, none⟩ = some (.slice A1_1 l1_1.length c1_1) := (blk_cell (HS.out.at_ 1 rfl) 1).trans rfl; have z0 : w1.cell? ⟨w.heap.size + 1 + 1, 0, none⟩ = some (.slice none 0 0) := (blk_cell (HS.out.at_ 0 rfl) 0).trans rfl; have z1 : w1.cell? ⟨w.heap.size + 1 + 1, 1, none⟩ = some (.slice none 0 0) := (blk_cell (HS.out.at_ 0 rfl) 1).trans rfl; have f0 := blk_frozen (HS.out.at_ 0 rfl) 0; have f1 := blk_frozen (HS.out.at_ 0 rfl) 1; clear hb)
 by_cases ce : e0 = 0
 rotate_left
 ·rw [if_neg ce] at h
  simp only [Option.some.injEq, Prod.mk.injEq] at h; obtain ⟨rfl, rfl, rfl⟩ := h
  have ceb : (e0 != 0) = true := bne_iff_ne.2 ce; clear ce
  go_wp2_with (fail)
  all_goals (refine bodyPost_ret (results_ct rfl _ _ (w.heap.size + 1 + 1) 25 #[.slice none 0 0, .slice none 0 0] (0, 0) _ rfl (hf_z2 (HS.out.at_ 0 rfl) _ _) Try.underlying25 rfl (by kernel_rfl)) rfl ?_; exact ⟨_, _, rfl, Kd.R_nil _ _ _ _ _, Kd.N_nil _ _ _ _ _, below_set (below_set HS.out.bel (HS.out.fr _ (List.mem_of_getElem? (i := 0) rfl))) (HS.out.fr _ (List.mem_of_getElem? (i := 0) rfl))⟩)
 rw [if_pos ce] at h; subst ce
 by_cases c0 : l1_0.length = 0
 ·rw [if_pos c0] at h; have c0b : ((l1_0.length : Int) == 0) = true := by simp; exact List.eq_nil_of_length_eq_zero c0
  clear c0
  obtain ⟨⟨y1_, y2_⟩, qc, h⟩ := Option.bind_eq_some_iff.1 h; have QC := Aside0.mk qc; clear qc; dsimp only at h
  simp only [Option.some.injEq, Prod.mk.injEq] at h; obtain ⟨rfl, rfl, rfl⟩ := h
  go_wp2_with (go_at_call 26; (with_reducible refine (arr_Copy.calls k _ _ l1_0 (fun k_ => P1_1_ k_ ∧ k_ < w.heap.size) _ _ l1_1 y1_ y2_ _ (Kd.C_below HR.out.1 HS.out.bel) HR.out.2 (Kd.V_below HV.out HS.out.bel) QC.out).mono ?_); rintro e w2 ⟨v0, v1, rfl, h0, h1, hb⟩; obtain ⟨Ac0, cc0, hv⟩ := Kd.R_slice h0; subst hv; obtain ⟨Ac1, cc1, hv⟩ := Kd.N_slice h1; subst hv; have H0 := Aside0.mk h0; have H1 := Aside0.mk h1; clear h0 h1; have HB := Aside0.mk (And.intro HS.out.bel.size (blk_lt (HS.out.at_ 0 rfl))); have HS := Aside0.mk (HS.out.step hb); (try clear x0 x1 y0 y1 z0 z1 f0 f1); have x0 : w2.cell? ⟨w.heap.size, 0, none⟩ = some (.int .i64 a0_0) := (blk_cell (HS.out.at_ 2 rfl) 0).trans rfl; have x1 : w2.cell? ⟨w.heap.size, 1, none⟩ = some (.bool a0_1) := (blk_cell (HS.out.at_ 2 rfl) 1).trans rfl; have y0 : w2.cell? ⟨w.heap.size + 1, 0, none⟩ = some (.slice A1_0 l1_0.length c1_0) := (blk_cell (HS.out.at_ 1 rfl) 0).trans rfl; have y1 : w2.cell? ⟨w.heap.size + 1, 1, none⟩ = some (.slice A1_1 l1_1.length c1_1) := (blk_cell (HS.out.at_ 1 rfl) 1).trans rfl; have z0 : w2.cell? ⟨w.heap.size + 1 + 1, 0, none⟩ = some (.slice none 0 0) := (blk_cell (HS.out.at_ 0 rfl) 0).trans rfl; have z1 : w2.cell? ⟨w.heap.size + 1 + 1, 1, none⟩ = some (.slice none 0 0) := (blk_cell (HS.out.at_ 0 rfl) 1).trans rfl; have f0 := blk_frozen (HS.out.at_ 0 rfl) 0; have f1 := blk_frozen (HS.out.at_ 0 rfl) 1)
  all_goals (refine bodyPost_ret (results_ct rfl _ _ (w.heap.size + 1 + 1) 25 #[.slice Ac0 y1_.length cc0, .slice Ac1 y2_.length cc1] (0, 0) _ rfl (hf_z2 (HS.out.at_ 0 rfl) _ _) Try.underlying25 rfl (by kernel_rfl)) rfl ?_; exact ⟨_, _, rfl, fo_ret HS.out (List.mem_of_getElem? (i := 0) rfl) HB.out.1 HB.out.2 H0.out H1.out (fun k_ hk => ⟨Nat.ne_of_lt (Nat.lt_of_lt_of_le hk.2 (Nat.le_add_right _ 2)), Or.inl hk.1⟩)⟩)
 rw [if_neg c0] at h; have c0b : ((l1_0.length : Int) == 0) = false := by simp; exact fun e => c0 (by rw [e]; rfl)
 by_cases cl : l1_0.length < 17592186044416
 rotate_left
 ·rw [if_neg cl] at h; cases h
 rw [if_pos cl] at h; have HCF := Aside0.mk (show slices_Clone_int_int.f l1_0 = some l1_0 from if_pos cl)
 have ha : fold_Red.ax l1_0 a2 < l1_0.length := by unfold fold_Red.ax; split <;> omega
 have HA := Aside0.mk (show fold_axis.f l1_0 l1_1 a2 = some ((fold_Red.ax l1_0 a2 : Nat) : Int) from by unfold fold_axis.f fold_Red.ax; split; exact congrArg some (by unfold wrap64; omega); rfl)
 generalize fold_Red.ax l1_0 a2 = a at ha HA h
 have HAL := Aside0.mk ha; have haw : wrap64 ((a : Int) + 1) = (a : Int) + 1 := by unfold wrap64; omega
 clear ha cl c0
 have H := Aside0.mk h; clear h
 go_upto_region 7 with (go_at_call 27; (with_reducible refine (fold_axis.calls _ _ l1_0 _ _ l1_1 a2 (a : Int) _ (Kd.C_below HR.out.1 HS.out.bel) HR.out.2 (Kd.C_below (Kd.V_reads' HV.out).2.2 HS.out.bel) (Kd.V_reads' HV.out).2.1 HA.out).mono ?_); rintro e w2 ⟨rfl, hb⟩; have HS := Aside0.mk (HS.out.step hb); (try clear x0 x1 y0 y1 z0 z1 f0 f1); have x0 : w2.cell? ⟨w.heap.size, 0, none⟩ = some (.int .i64 a0_0) := (blk_cell (HS.out.at_ 2 rfl) 0).trans rfl; have x1 : w2.cell? ⟨w.heap.size, 1, none⟩ = some (.bool a0_1) := (blk_cell (HS.out.at_ 2 rfl) 1).trans rfl; have y0 : w2.cell? ⟨w.heap.size + 1, 0, none⟩ = some (.slice A1_0 l1_0.length c1_0) := (blk_cell (HS.out.at_ 1 rfl) 0).trans rfl; have y1 : w2.cell? ⟨w.heap.size + 1, 1, none⟩ = some (.slice A1_1 l1_1.length c1_1) := (blk_cell (HS.out.at_ 1 rfl) 1).trans rfl; have z0 : w2.cell? ⟨w.heap.size + 1 + 1, 0, none⟩ = some (.slice none 0 0) := (blk_cell (HS.out.at_ 0 rfl) 0).trans rfl; have z1 : w2.cell? ⟨w.heap.size + 1 + 1, 1, none⟩ = some (.slice none 0 0) := (blk_cell (HS.out.at_ 0 rfl) 1).trans rfl; have f0 := blk_frozen (HS.out.at_ 0 rfl) 0; have f1 := blk_frozen (HS.out.at_ 0 rfl) 1; clear hb)
 generalize hz : (l1_0.take a ++ l1_0.drop (a + 1)) = z at H
 have HZ := Aside0.mk hz; clear hz
 have HSZ := Aside0.mk HS.out.bel.size
 go_upto_region 8 with (first | (go_at_call 29; (with_reducible refine (slices_Clone_int_int.calls _ _ l1_0 l1_0 _ (Kd.C_below HR.out.1 HS.out.bel) HR.out.2 HCF.out).mono ?_); rintro e w3 ⟨v3, rfl, hR, hb⟩; have HC := Aside0.mk hR; have HS2 := HS; have HB3 := Aside0.mk hb; have HS := Aside0.mk (HS.out.step hb); (try clear x0 x1 y0 y1 z0 z1 f0 f1); have x0 : w3.cell? ⟨w.heap.size, 0, none⟩ = some (.int .i64 a0_0) := (blk_cell (HS.out.at_ 2 rfl) 0).trans rfl; have x1 : w3.cell? ⟨w.heap.size, 1, none⟩ = some (.bool a0_1) := (blk_cell (HS.out.at_ 2 rfl) 1).trans rfl; have y0 : w3.cell? ⟨w.heap.size + 1, 0, none⟩ = some (.slice A1_0 l1_0.length c1_0) := (blk_cell (HS.out.at_ 1 rfl) 0).trans rfl; have y1 : w3.cell? ⟨w.heap.size + 1, 1, none⟩ = some (.slice A1_1 l1_1.length c1_1) := (blk_cell (HS.out.at_ 1 rfl) 1).trans rfl; have z0 : w3.cell? ⟨w.heap.size + 1 + 1, 0, none⟩ = some (.slice none 0 0) := (blk_cell (HS.out.at_ 0 rfl) 0).trans rfl; have z1 : w3.cell? ⟨w.heap.size + 1 + 1, 1, none⟩ = some (.slice none 0 0) := (blk_cell (HS.out.at_ 0 rfl) 1).trans rfl; have f0 := blk_frozen (HS.out.at_ 0 rfl) 0; have f1 := blk_frozen (HS.out.at_ 0 rfl) 1; clear hb hR) | (go_at_call 28; (with_reducible refine (slices_Delete_int_int.calls _ w2.heap.size v3 l1_0 a HC.out HAL.out).mono ?_); rintro e w4 ⟨gs, cap, cur, rfl, hcp, hgl, hblk, hX, hb, hkeep⟩; rw [HZ.out] at hcp hX ⊢; have HX := Aside0.mk (And.intro hcp hX); have HGS := Aside0.mk (And.intro hgl hblk); clear hX hcp hgl hblk hkeep HC; have HS := HS2; have HS := Aside0.mk (HS.out.step (HB3.out.trans hb)); (try clear x0 x1 y0 y1 z0 z1 f0 f1); have x0 : w4.cell? ⟨w.heap.size, 0, none⟩ = some (.int .i64 a0_0) := (blk_cell (HS.out.at_ 2 rfl) 0).trans rfl; have x1 : w4.cell? ⟨w.heap.size, 1, none⟩ = some (.bool a0_1) := (blk_cell (HS.out.at_ 2 rfl) 1).trans rfl; have y0 : w4.cell? ⟨w.heap.size + 1, 0, none⟩ = some (.slice A1_0 l1_0.length c1_0) := (blk_cell (HS.out.at_ 1 rfl) 0).trans rfl; have y1 : w4.cell? ⟨w.heap.size + 1, 1, none⟩ = some (.slice A1_1 l1_1.length c1_1) := (blk_cell (HS.out.at_ 1 rfl) 1).trans rfl; have z0 : w4.cell? ⟨w.heap.size + 1 + 1, 0, none⟩ = some (.slice none 0 0) := (blk_cell (HS.out.at_ 0 rfl) 0).trans rfl; have z1 : w4.cell? ⟨w.heap.size + 1 + 1, 1, none⟩ = some (.slice none 0 0) := (blk_cell (HS.out.at_ 0 rfl) 1).trans rfl; have f0 := blk_frozen (HS.out.at_ 0 rfl) 0; have f1 := blk_frozen (HS.out.at_ 0 rfl) 1; clear hb HB3))
 have HT := Aside0.mk (show OutN w _ [(gs, cur, 3), (w.heap.size + 1 + 1, #[.slice none 0 0, .slice none 0 0], 25), (w.heap.size + 1, #[.slice A1_0 l1_0.length c1_0, .slice A1_1 l1_1.length c1_1], 25), (w.heap.size, #[.int .i64 a0_0, .bool a0_1], 32)] P1_1_ w4.heap.size (.slice (some ⟨gs, 0, none⟩) z.length cap) (.slice none 0 0) (.slice none 0 0) [] from OutN.mk0 (HS.out.addB (Nat.le_trans HSZ.out HGS.out.1) HGS.out.2) (.slice (some ⟨gs, 0, none⟩) z.length cap))
 (try clear x0 x1 y0 y1 z0 z1 f0 f1); clear HS HGS HSZ
 generalize w4.alloc (.cells #[.slice (some ⟨gs, 0, none⟩) z.length cap, .slice none 0 0] 25) = W3 at HT ⊢
 generalize w4.heap.size = go at HT ⊢
 have o0 : W3.cell? ⟨go, 0, none⟩ = some (.slice (some ⟨gs, 0, none⟩) z.length cap) := (blk_cell (HT.out.bx.at_ 0 rfl) 0).trans rfl; have o1 : W3.cell? ⟨go, 1, none⟩ = some (.slice none 0 0) := (blk_cell (HT.out.bx.at_ 0 rfl) 1).trans rfl; have x0 : W3.cell? ⟨w.heap.size, 0, none⟩ = some (.int .i64 a0_0) := (blk_cell (HT.out.bx.at_ 4 rfl) 0).trans rfl; have x1 : W3.cell? ⟨w.heap.size, 1, none⟩ = some (.bool a0_1) := (blk_cell (HT.out.bx.at_ 4 rfl) 1).trans rfl; have y0 : W3.cell? ⟨w.heap.size + 1, 0, none⟩ = some (.slice A1_0 l1_0.length c1_0) := (blk_cell (HT.out.bx.at_ 3 rfl) 0).trans rfl; have y1 : W3.cell? ⟨w.heap.size + 1, 1, none⟩ = some (.slice A1_1 l1_1.length c1_1) := (blk_cell (HT.out.bx.at_ 3 rfl) 1).trans rfl; have z0 : W3.cell? ⟨w.heap.size + 1 + 1, 0, none⟩ = some (.slice none 0 0) := (blk_cell (HT.out.bx.at_ 2 rfl) 0).trans rfl; have z1 : W3.cell? ⟨w.heap.size + 1 + 1, 1, none⟩ = some (.slice none 0 0) := (blk_cell (HT.out.bx.at_ 2 rfl) 1).trans rfl; have f0 := blk_frozen (HT.out.bx.at_ 2 rfl) 0; have f1 := blk_frozen (HT.out.bx.at_ 2 rfl) 1
 have h := H.out; unfold fold_Red.g at h; clear H
 obtain ⟨⟨n1, n2⟩, qz, h⟩ := Option.bind_eq_some_iff.1 h; have QZ := Aside0.mk qz; clear qz; dsimp only at h
 go_upto_region 9 with (go_at_call 30; (with_reducible refine (arr_Size.calls k _ _ z n1 n2 _ (HX.out.2 _ (HT.out.bx.at_ 1 rfl)) HX.out.1 QZ.out).mono ?_); rintro e w4 ⟨rfl, hb⟩; have HT := Aside0.mk (HT.out.step hb.below); clear hb; (try clear x0 x1 y0 y1 z0 z1 f0 f1 o0 o1); have o0 : w4.cell? ⟨go, 0, none⟩ = some (.slice (some ⟨gs, 0, none⟩) z.length cap) := (blk_cell (HT.out.bx.at_ 0 rfl) 0).trans rfl; have o1 : w4.cell? ⟨go, 1, none⟩ = some (.slice none 0 0) := (blk_cell (HT.out.bx.at_ 0 rfl) 1).trans rfl; have x0 : w4.cell? ⟨w.heap.size, 0, none⟩ = some (.int .i64 a0_0) := (blk_cell (HT.out.bx.at_ 4 rfl) 0).trans rfl; have x1 : w4.cell? ⟨w.heap.size, 1, none⟩ = some (.bool a0_1) := (blk_cell (HT.out.bx.at_ 4 rfl) 1).trans rfl; have y0 : w4.cell? ⟨w.heap.size + 1, 0, none⟩ = some (.slice A1_0 l1_0.length c1_0) := (blk_cell (HT.out.bx.at_ 3 rfl) 0).trans rfl; have y1 : w4.cell? ⟨w.heap.size + 1, 1, none⟩ = some (.slice A1_1 l1_1.length c1_1) := (blk_cell (HT.out.bx.at_ 3 rfl) 1).trans rfl; have z0 : w4.cell? ⟨w.heap.size + 1 + 1, 0, none⟩ = some (.slice none 0 0) := (blk_cell (HT.out.bx.at_ 2 rfl) 0).trans rfl; have z1 : w4.cell? ⟨w.heap.size + 1 + 1, 1, none⟩ = some (.slice none 0 0) := (blk_cell (HT.out.bx.at_ 2 rfl) 1).trans rfl; have f0 := blk_frozen (HT.out.bx.at_ 2 rfl) 0; have f1 := blk_frozen (HT.out.bx.at_ 2 rfl) 1)
 by_cases ce : n2 = 0
 rotate_left
 ·rw [if_neg ce] at h
  simp only [Option.some.injEq, Prod.mk.injEq] at h; obtain ⟨rfl, rfl, rfl⟩ := h
  have ceb : (n2 != 0) = true := bne_iff_ne.2 ce; clear ce
  go_wp2_with (fail)
  all_goals (refine bodyPost_ret (results_ct rfl _ _ (w.heap.size + 1 + 1) 25 #[.slice none 0 0, .slice none 0 0] (0, 0) _ rfl (hf_z2 (HT.out.bx.at_ 2 rfl) _ _) Try.underlying25 rfl (by kernel_rfl)) rfl ?_; exact ⟨_, _, rfl, Kd.R_nil _ _ _ _ _, Kd.N_nil _ _ _ _ _, below_set (below_set HT.out.bx.bel (HT.out.bx.fr _ (List.mem_of_getElem? (i := 2) rfl))) (HT.out.bx.fr _ (List.mem_of_getElem? (i := 2) rfl))⟩)
 rw [if_pos ce] at h; subst ce
 obtain ⟨⟨O, T, G⟩, ql, h⟩ := Option.bind_eq_some_iff.1 h; have QL := Aside0.mk ql; clear ql; dsimp only at h
 by_cases co : O ≤ 9223372036854775807 ∧ T ≤ 9223372036854775807
 rotate_left
 ·rw [if_neg co] at h; cases h
 rw [if_pos co] at h; have CO := Aside0.mk co; clear co
 obtain ⟨rr, qi, h⟩ := Option.bind_eq_some_iff.1 h; have QI := Aside0.mk qi; have H := Aside0.mk h; clear qi h
 go_upto_region 12 with (go_at_call 31; (with_reducible refine (fold_lines.calls _ _ l1_0 (a : Int) O T G _ (Kd.C_below HR.out.1 HT.out.bx.bel) HR.out.2 QL.out).mono ?_); rintro e w5 ⟨rfl, hb⟩; have HT := Aside0.mk (HT.out.step hb.below); clear hb; (try clear x0 x1 y0 y1 z0 z1 f0 f1 o0 o1); have o0 : w5.cell? ⟨go, 0, none⟩ = some (.slice (some ⟨gs, 0, none⟩) z.length cap) := (blk_cell (HT.out.bx.at_ 0 rfl) 0).trans rfl; have o1 : w5.cell? ⟨go, 1, none⟩ = some (.slice none 0 0) := (blk_cell (HT.out.bx.at_ 0 rfl) 1).trans rfl; have x0 : w5.cell? ⟨w.heap.size, 0, none⟩ = some (.int .i64 a0_0) := (blk_cell (HT.out.bx.at_ 4 rfl) 0).trans rfl; have x1 : w5.cell? ⟨w.heap.size, 1, none⟩ = some (.bool a0_1) := (blk_cell (HT.out.bx.at_ 4 rfl) 1).trans rfl; have y0 : w5.cell? ⟨w.heap.size + 1, 0, none⟩ = some (.slice A1_0 l1_0.length c1_0) := (blk_cell (HT.out.bx.at_ 3 rfl) 0).trans rfl; have y1 : w5.cell? ⟨w.heap.size + 1, 1, none⟩ = some (.slice A1_1 l1_1.length c1_1) := (blk_cell (HT.out.bx.at_ 3 rfl) 1).trans rfl; have z0 : w5.cell? ⟨w.heap.size + 1 + 1, 0, none⟩ = some (.slice none 0 0) := (blk_cell (HT.out.bx.at_ 2 rfl) 0).trans rfl; have z1 : w5.cell? ⟨w.heap.size + 1 + 1, 1, none⟩ = some (.slice none 0 0) := (blk_cell (HT.out.bx.at_ 2 rfl) 1).trans rfl; have f0 := blk_frozen (HT.out.bx.at_ 2 rfl) 0; have f1 := blk_frozen (HT.out.bx.at_ 2 rfl) 1)
 go_wp2_with (fail)
 go_loopg [64] O.toNat (fun kq v64 W' => ∃ (i : Nat) (acc : List (S43)) (v1 : Value), v64 = .int .i64 (i : Int) ∧ Aside0 (i + kq = O.toNat) ∧ Aside0 (fold_Red.li k a0_0 a0_1 l1_1 T G kq i acc = some rr) ∧ Aside0 (OutN w W' [(gs, cur, 3), (w.heap.size + 1 + 1, #[.slice none 0 0, .slice none 0 0], 25), (w.heap.size + 1, #[.slice A1_0 l1_0.length c1_0, .slice A1_1 l1_1.length c1_1], 25), (w.heap.size, #[.int .i64 a0_0, .bool a0_1], 32)] P1_1_ go (.slice (some ⟨gs, 0, none⟩) z.length cap) v1 v1 acc))
 case atStart => exact ⟨0, [], _, rfl, ⟨by omega⟩, QI, HT⟩
 case round =>
  clear QI HT o0 o1 x0 x1 y0 y1 z0 z1 f0 f1
  obtain ⟨i, acc, v1, rfl, HI, HQ, HT⟩ := hrel
  obtain ⟨Aq, cq, hv⟩ := Kd.N_slice HT.out.r1
  subst hv
  cases gk with
  | zero =>
   obtain rfl : ((0 : Int), acc) = rr := by have h := HQ.out; simp only [fold_Red.li, Option.some.injEq] at h; exact h
   have h := H.out; unfold fold_Red.end_ at h; rw [if_pos rfl] at h; obtain ⟨⟨y1_, y2_⟩, qc, h⟩ := Option.bind_eq_some_iff.1 h; have QC := Aside0.mk qc; clear qc; dsimp only at h
   simp only [Option.some.injEq, Prod.mk.injEq] at h; obtain ⟨rfl, rfl, rfl⟩ := h
   have hn : decide ((i : Int) < O) = false := decide_eq_false (by have := HI.out; omega)
   have o0 : wr.cell? ⟨go, 0, none⟩ = some (.slice (some ⟨gs, 0, none⟩) z.length cap) := (blk_cell (HT.out.bx.at_ 0 rfl) 0).trans rfl; have o1 : wr.cell? ⟨go, 1, none⟩ = some (.slice Aq acc.length cq) := (blk_cell (HT.out.bx.at_ 0 rfl) 1).trans rfl; have x0 : wr.cell? ⟨w.heap.size, 0, none⟩ = some (.int .i64 a0_0) := (blk_cell (HT.out.bx.at_ 4 rfl) 0).trans rfl; have x1 : wr.cell? ⟨w.heap.size, 1, none⟩ = some (.bool a0_1) := (blk_cell (HT.out.bx.at_ 4 rfl) 1).trans rfl; have y0 : wr.cell? ⟨w.heap.size + 1, 0, none⟩ = some (.slice A1_0 l1_0.length c1_0) := (blk_cell (HT.out.bx.at_ 3 rfl) 0).trans rfl; have y1 : wr.cell? ⟨w.heap.size + 1, 1, none⟩ = some (.slice A1_1 l1_1.length c1_1) := (blk_cell (HT.out.bx.at_ 3 rfl) 1).trans rfl; have z0 : wr.cell? ⟨w.heap.size + 1 + 1, 0, none⟩ = some (.slice none 0 0) := (blk_cell (HT.out.bx.at_ 2 rfl) 0).trans rfl; have z1 : wr.cell? ⟨w.heap.size + 1 + 1, 1, none⟩ = some (.slice none 0 0) := (blk_cell (HT.out.bx.at_ 2 rfl) 1).trans rfl; have f0 := blk_frozen (HT.out.bx.at_ 2 rfl) 0; have f1 := blk_frozen (HT.out.bx.at_ 2 rfl) 1
   go_wp2_with (go_at_call 26; (with_reducible refine (arr_Copy.calls k _ _ z (fun k_ => ((P1_1_ k_ ∧ k_ < w.heap.size) ∨ w.heap.size ≤ k_) ∧ k_ ≠ go ∧ ∀ p ∈ [(gs, cur, 3), (w.heap.size + 1 + 1, #[.slice none 0 0, .slice none 0 0], 25), (w.heap.size + 1, #[.slice A1_0 l1_0.length c1_0, .slice A1_1 l1_1.length c1_1], 25), (w.heap.size, #[.int .i64 a0_0, .bool a0_1], 32)], k_ ≠ p.1) _ _ acc y1_ y2_ _ (HX.out.2 _ (HT.out.bx.at_ 1 rfl)) HX.out.1 (Kd.N_V HT.out.r1) QC.out).mono ?_); rintro e w2 ⟨v0, v1, rfl, h0, h1, hb⟩; obtain ⟨Ac0, cc0, hv⟩ := Kd.R_slice h0; subst hv; obtain ⟨Ac1, cc1, hv⟩ := Kd.N_slice h1; subst hv; have H0 := Aside0.mk h0; have H1 := Aside0.mk h1; clear h0 h1; have HB := Aside0.mk (And.intro HT.out.bx.bel.size (blk_lt (HT.out.bx.at_ 2 rfl))); have HT := Aside0.mk (HT.out.step hb); clear hb; (try clear x0 x1 y0 y1 z0 z1 f0 f1 o0 o1); have o0 : w2.cell? ⟨go, 0, none⟩ = some (.slice (some ⟨gs, 0, none⟩) z.length cap) := (blk_cell (HT.out.bx.at_ 0 rfl) 0).trans rfl; have o1 : w2.cell? ⟨go, 1, none⟩ = some (.slice Aq acc.length cq) := (blk_cell (HT.out.bx.at_ 0 rfl) 1).trans rfl; have x0 : w2.cell? ⟨w.heap.size, 0, none⟩ = some (.int .i64 a0_0) := (blk_cell (HT.out.bx.at_ 4 rfl) 0).trans rfl; have x1 : w2.cell? ⟨w.heap.size, 1, none⟩ = some (.bool a0_1) := (blk_cell (HT.out.bx.at_ 4 rfl) 1).trans rfl; have y0 : w2.cell? ⟨w.heap.size + 1, 0, none⟩ = some (.slice A1_0 l1_0.length c1_0) := (blk_cell (HT.out.bx.at_ 3 rfl) 0).trans rfl; have y1 : w2.cell? ⟨w.heap.size + 1, 1, none⟩ = some (.slice A1_1 l1_1.length c1_1) := (blk_cell (HT.out.bx.at_ 3 rfl) 1).trans rfl; have z0 : w2.cell? ⟨w.heap.size + 1 + 1, 0, none⟩ = some (.slice none 0 0) := (blk_cell (HT.out.bx.at_ 2 rfl) 0).trans rfl; have z1 : w2.cell? ⟨w.heap.size + 1 + 1, 1, none⟩ = some (.slice none 0 0) := (blk_cell (HT.out.bx.at_ 2 rfl) 1).trans rfl; have f0 := blk_frozen (HT.out.bx.at_ 2 rfl) 0; have f1 := blk_frozen (HT.out.bx.at_ 2 rfl) 1)
   all_goals (refine bodyPost_ret (results_ct rfl _ _ (w.heap.size + 1 + 1) 25 #[.slice Ac0 y1_.length cc0, .slice Ac1 y2_.length cc1] (0, 0) _ rfl (hf_z2 (HT.out.bx.at_ 2 rfl) _ _) Try.underlying25 rfl (by kernel_rfl)) rfl ?_; exact ⟨_, _, rfl, fo_ret HT.out.bx (List.mem_of_getElem? (i := 2) rfl) HB.out.1 HB.out.2 H0.out H1.out (fun k_ hk => ⟨hk.2.2 _ (List.mem_of_getElem? (i := 1) rfl), hk.1.elim (fun h => Or.inl h.1) Or.inr⟩)⟩)
  | succ m =>
   have hn : decide ((i : Int) < O) = true := decide_eq_true (by have := HI.out; omega)
   have h := HQ.out; rw [fold_Red.li] at h; obtain ⟨rj, qj, h⟩ := Option.bind_eq_some_iff.1 h; have QJ := Aside0.mk qj; have HQ := Aside0.mk h; clear qj h
   have HWI : Aside0 (wrap64 ((i : Int) + 1) = ((i + 1 : Nat) : Int)) := ⟨by have := HI.out; have := CO.out.1; unfold wrap64; omega⟩
   go_wp2_with (fail)
   go_loopg [68] T.toNat (fun kq v68 W' => ∃ (j : Nat) (acc : List (S43)) (v1 : Value), v68 = .int .i64 (j : Int) ∧ Aside0 (j + kq = T.toNat) ∧ Aside0 (fold_Red.lj k a0_0 a0_1 l1_1 T G i kq j acc = some rj) ∧ Aside0 (OutN w W' [(gs, cur, 3), (w.heap.size + 1 + 1, #[.slice none 0 0, .slice none 0 0], 25), (w.heap.size + 1, #[.slice A1_0 l1_0.length c1_0, .slice A1_1 l1_1.length c1_1], 25), (w.heap.size, #[.int .i64 a0_0, .bool a0_1], 32)] P1_1_ go (.slice (some ⟨gs, 0, none⟩) z.length cap) v1 v1 acc))
   case atStart => exact ⟨0, acc, _, rfl, ⟨by omega⟩, QJ, HT⟩
   case round =>
    clear QJ HT
    obtain ⟨j, acc, v1, rfl, HJ, QJ, HT⟩ := hrel
    obtain ⟨Aq, cq, hv⟩ := Kd.N_slice HT.out.r1
    subst hv
    cases gk with
    | zero =>
     obtain rfl : ((0 : Int), acc) = rj := by have h := QJ.out; simp only [fold_Red.lj, Option.some.injEq] at h; exact h
     have h := HQ.out; rw [if_pos rfl] at h; have HQ := Aside0.mk h; clear h
     have hnj : decide ((j : Int) < T) = false := decide_eq_false (by have := HJ.out; omega)
     go_wp2_with (fail)
     go_roundg m; (case measure => omega)
     case rel => exact ⟨i + 1, acc, _, congrArg (Value.int .i64) HWI.out, ⟨by have := HI.out; omega⟩, HQ, HT⟩
    | succ q =>
     have hnj : decide ((j : Int) < T) = true := decide_eq_true (by have := HJ.out; omega)
     have h := QJ.out; rw [fold_Red.lj] at h; obtain ⟨x, qx, h⟩ := Option.bind_eq_some_iff.1 h; have QX := Aside0.mk qx; clear qx; obtain ⟨⟨b1, b2, b3, b4⟩, qb, h⟩ := Option.bind_eq_some_iff.1 h; have QB := Aside0.mk qb; clear qb; dsimp only at h
     have HWJ : Aside0 (wrap64 ((j : Int) + 1) = ((j + 1 : Nat) : Int)) := ⟨by have := HJ.out; have := CO.out.2; unfold wrap64; omega⟩
     have HAT : Aside0 (fold_line.f k l1_1 (wrap64 (wrap64 (wrap64 ((i : Int) * T) * G) + (j : Int))) T G = some x) := QX; clear QX QJ
     have H5 := Aside0.mk h; clear h
     go_upto_region 18 with (fail)
     refine start_ (n := 20) (S := fun W' => Below wr.drew.heap.size wr.drew W') (ds := []) #[false, false, false, false, false, false, false, false, false, false, false, false, false, false, false, false, false, false, false, false] (by kernel_rfl) rfl rfl (Below.refl _ _) (fun hHeld => ?_)
     refine with_tabW fold_Red.tab18 fold_Red.bits18 (fun HT_ HW_ => ?_)
     have HT := Aside0.mk (HT.out.step (below_drew (Below.refl _ _)))
     generalize wr.drew = Wr at HT hHeld ⊢
     have HE := Aside0.mk (And.intro HT.out.elder HT.out.fresh)
     refine take_ (i := 0) (N := some 72) (v := ?_) (a' := ?_) #[true, false, false, false, false, false, false, false, false, false, false, false, false, false, false, false, false, false, false, false] rfl rfl (take_ofW HT_.out HW_.out (by kernel_rfl)) (fun _ _ _ h => h) (Or.inl ⟨by rfl, ?_⟩) hHeld ?_ ?_; rotate_left
     ·intro w' s0; have x0 : w'.cell? ⟨w.heap.size, 0, none⟩ = some (.int .i64 a0_0) := (blk_cell ((HT.out.step s0).bx.at_ 4 rfl) 0).trans rfl; have x1 : w'.cell? ⟨w.heap.size, 1, none⟩ = some (.bool a0_1) := (blk_cell ((HT.out.step s0).bx.at_ 4 rfl) 1).trans rfl; go_simp; with_reducible rfl
     rotate_left
     ·simp only [Act.put, List.setIfInBounds_toArray, List.set_cons_zero, List.set_cons_succ, i64_w, i32_w]; rfl
     refine pure_ (i := 1) (N := some 73) (v := ?_) (a' := ?_) #[true, true, false, false, false, false, false, false, false, false, false, false, false, false, false, false, false, false, false, false] rfl rfl (any_of HT_.out (by kernel_rfl)) (fun _ _ _ h => h) (Or.inl ⟨by rfl, ?_⟩) ?_ ?_; rotate_left
     ·intro w'; go_simp; with_reducible rfl
     rotate_left
     ·simp only [Act.put, List.setIfInBounds_toArray, List.set_cons_zero, List.set_cons_succ, i64_w, i32_w]; rfl
     refine take_ (i := 2) (N := some 74) (v := ?_) (a' := ?_) #[true, true, true, false, false, false, false, false, false, false, false, false, false, false, false, false, false, false, false, false] rfl rfl (take_ofW HT_.out HW_.out (by kernel_rfl)) (fun _ _ _ h => h) (Or.inl ⟨by rfl, ?_⟩) hHeld ?_ ?_; rotate_left
     ·intro w' s0; have y0 : w'.cell? ⟨w.heap.size + 1, 0, none⟩ = some (.slice A1_0 l1_0.length c1_0) := (blk_cell ((HT.out.step s0).bx.at_ 3 rfl) 0).trans rfl; have y1 : w'.cell? ⟨w.heap.size + 1, 1, none⟩ = some (.slice A1_1 l1_1.length c1_1) := (blk_cell ((HT.out.step s0).bx.at_ 3 rfl) 1).trans rfl; go_simp; with_reducible rfl
     rotate_left
     ·simp only [Act.put, List.setIfInBounds_toArray, List.set_cons_zero, List.set_cons_succ, i64_w, i32_w]; rfl
     refine pure_ (i := 3) (N := some 75) (v := ?_) (a' := ?_) #[true, true, true, true, false, false, false, false, false, false, false, false, false, false, false, false, false, false, false, false] rfl rfl (any_of HT_.out (by kernel_rfl)) (fun _ _ _ h => h) (Or.inl ⟨by rfl, ?_⟩) ?_ ?_; rotate_left
     ·intro w'; go_simp; with_reducible rfl
     rotate_left
     ·simp only [Act.put, List.setIfInBounds_toArray, List.set_cons_zero, List.set_cons_succ, i64_w, i32_w]; rfl
     refine pure_ (i := 4) (N := some 76) (v := ?_) (a' := ?_) #[true, true, true, true, true, false, false, false, false, false, false, false, false, false, false, false, false, false, false, false] rfl rfl (any_of HT_.out (by kernel_rfl)) (fun _ _ _ h => h) (Or.inl ⟨by rfl, ?_⟩) ?_ ?_; rotate_left
     ·intro w'; go_simp; with_reducible rfl
     rotate_left
     ·simp only [Act.put, List.setIfInBounds_toArray, List.set_cons_zero, List.set_cons_succ, i64_w, i32_w]; rfl
     refine pure_ (i := 5) (N := some 77) (v := ?_) (a' := ?_) #[true, true, true, true, true, true, false, false, false, false, false, false, false, false, false, false, false, false, false, false] rfl rfl (any_of HT_.out (by kernel_rfl)) (fun _ _ _ h => h) (Or.inl ⟨by rfl, ?_⟩) ?_ ?_; rotate_left
     ·intro w'; go_simp; with_reducible rfl
     rotate_left
     ·simp only [Act.put, List.setIfInBounds_toArray, List.set_cons_zero, List.set_cons_succ, i64_w, i32_w]; rfl
     refine pure_ (i := 6) (N := some 78) (v := ?_) (a' := ?_) #[true, true, true, true, true, true, true, false, false, false, false, false, false, false, false, false, false, false, false, false] rfl rfl (any_of HT_.out (by kernel_rfl)) (fun _ _ _ h => h) (Or.inl ⟨by rfl, ?_⟩) ?_ ?_; rotate_left
     ·intro w'; go_simp; with_reducible rfl
     rotate_left
     ·simp only [Act.put, List.setIfInBounds_toArray, List.set_cons_zero, List.set_cons_succ, i64_w, i32_w]; rfl
     refine pure_ (i := 7) (N := some 79) (v := ?_) (a' := ?_) #[true, true, true, true, true, true, true, true, false, false, false, false, false, false, false, false, false, false, false, false] rfl rfl (any_of HT_.out (by kernel_rfl)) (fun _ _ _ h => h) (Or.inl ⟨by rfl, ?_⟩) ?_ ?_; rotate_left
     ·intro w'; go_simp; with_reducible rfl
     rotate_left
     ·simp only [Act.put, List.setIfInBounds_toArray, List.set_cons_zero, List.set_cons_succ, i64_w, i32_w]; rfl
     refine pure_ (i := 8) (N := some 80) (v := ?_) (a' := ?_) #[true, true, true, true, true, true, true, true, true, false, false, false, false, false, false, false, false, false, false, false] rfl rfl (any_of HT_.out (by kernel_rfl)) (fun _ _ _ h => h) (Or.inl ⟨by rfl, ?_⟩) ?_ ?_; rotate_left
     ·intro w'; go_simp; with_reducible rfl
     rotate_left
     ·simp only [Act.put, List.setIfInBounds_toArray, List.set_cons_zero, List.set_cons_succ, i64_w, i32_w]; rfl
     refine pure_ (i := 9) (N := some 81) (v := ?_) (a' := ?_) #[true, true, true, true, true, true, true, true, true, true, false, false, false, false, false, false, false, false, false, false] rfl rfl (any_of HT_.out (by kernel_rfl)) (fun _ _ _ h => h) (Or.inl ⟨by rfl, ?_⟩) ?_ ?_; rotate_left
     ·intro w'; go_simp; with_reducible rfl
     rotate_left
     ·simp only [Act.put, List.setIfInBounds_toArray, List.set_cons_zero, List.set_cons_succ, i64_w, i32_w]; rfl
     refine pure_ (i := 10) (N := some 82) (v := ?_) (a' := ?_) #[true, true, true, true, true, true, true, true, true, true, true, false, false, false, false, false, false, false, false, false] rfl rfl (any_of HT_.out (by kernel_rfl)) (fun _ _ _ h => h) (Or.inl ⟨by rfl, ?_⟩) ?_ ?_; rotate_left
     ·intro w'; go_simp; with_reducible rfl
     rotate_left
     ·simp only [Act.put, List.setIfInBounds_toArray, List.set_cons_zero, List.set_cons_succ, i64_w, i32_w]; rfl
     refine pure_ (i := 11) (N := some 83) (v := ?_) (a' := ?_) #[true, true, true, true, true, true, true, true, true, true, true, true, false, false, false, false, false, false, false, false] rfl rfl (any_of HT_.out (by kernel_rfl)) (fun _ _ _ h => h) (Or.inl ⟨by rfl, ?_⟩) ?_ ?_; rotate_left
     ·intro w'; go_simp; with_reducible rfl
     rotate_left
     ·simp only [Act.put, List.setIfInBounds_toArray, List.set_cons_zero, List.set_cons_succ, i64_w, i32_w]; rfl
     refine join_ (σ := Option Addr × Nat × Option Addr × Nat × Nat) 2 #[true, true, true, true, true, true, true, true, true, true, true, true, true, true, true, true, true, true, false, false] (fun s_ => [(84, .slice s_.1 x.length s_.2.1), (85, .tuple #[.agg #[.int .i64 b1, .int .i64 b2, .slice s_.2.2.1 b3.length s_.2.2.2.1], .int .i64 b4]), (71, .tuple #[.agg #[.int .i64 b1, .int .i64 b2, .slice s_.2.2.1 b3.length s_.2.2.2.1], .int .i64 b4]), (86, .agg #[.int .i64 b1, .int .i64 b2, .slice s_.2.2.1 b3.length s_.2.2.2.1]), (87, .int .i64 b4), (18, .pointer (some ⟨s_.2.2.2.2, 0, none⟩))]) (fun s_ w' => Below Wr.heap.size Wr w' ∧ Kd.V k25 25 w' w.heap.size (fun k_ => ((P1_1_ k_ ∧ k_ < w.heap.size) ∨ Wr.heap.size ≤ k_) ∧ k_ ≠ s_.2.2.2.2) (.slice s_.2.2.1 b3.length s_.2.2.2.1) b3 ∧ w'.heap[s_.2.2.2.2]? = some (.cells #[.int .i64 0, .int .i64 0, .slice none 0 0] 43 (0, 0)) ∧ Wr.heap.size ≤ s_.2.2.2.2) ?_ ?_; rotate_left
     ·intro hCont
      refine two_ (i := 12) (j := 17) (Ni := some 84) (Nj := some 18) #[true, true, true, true, true, true, true, true, true, true, true, true, true, false, false, false, false, false, false, false] #[true, true, true, true, true, true, true, true, true, true, true, true, false, false, false, false, false, true, false, false] rfl rfl rfl rfl (two_of HT_.out (by kernel_rfl)) (by decide) (by decide) (fun K hK => ?_) (fun K hK => ?_)
      ·skip
       refine goes_ Try.func33 (by kernel_rfl) rfl #[.slice A1_1 l1_1.length c1_1, .int .i64 (wrap64 (wrap64 (wrap64 ((i : Int) * T) * G) + (j : Int))), .int .i64 T, .int .i64 G] (by rfl) rfl rfl (by first | rfl | (simp only [List.map_toArray, List.map_cons, List.map_nil]; rfl)) ?_
       refine (fold_line.calls k (fun k_ => P1_1_ k_ ∧ k_ < w.heap.size) _ _ l1_1 (wrap64 (wrap64 (wrap64 ((i : Int) * T) * G) + (j : Int))) T G x _ (by exact Kd.V_below HV.out ((HT.out.step hHeld).bx.bel)) HAT.out).mono ?_; rintro e w6 ⟨vl, rfl, hN, hb⟩; obtain ⟨Al, cl, hv⟩ := Kd.N_slice hN; subst hv; refine ⟨_, rfl, ?_⟩
       have HN := Aside0.mk (show Kd.V k43 43 w6 w.heap.size (fun k_ => ((P1_1_ k_ ∧ k_ < w.heap.size) ∨ Wr.heap.size ≤ k_)) (.slice Al x.length cl) x from Kd.V_mono (Kd.N_V hN (base' := 0)) (fun k_ hk => hk.elim Or.inl (fun h => Or.inr (Nat.le_trans hHeld.size h)))); clear hN
       have hHeld := hHeld.trans (hb.mono hHeld.size)
       refine hK.out _ _ hHeld (fun hHeld => ?_); clear hK K hb
       refine norm_ (a' := ?_) ?_ ?_; rotate_left
       ·show Act.put _ (some 84) _ = _
        simp only [Act.put, List.setIfInBounds_toArray, List.set_cons_zero, List.set_cons_succ, i64_w, i32_w]; rfl
       refine two_ (i := 13) (j := 17) (Ni := some 85) (Nj := some 18) #[true, true, true, true, true, true, true, true, true, true, true, true, true, true, false, false, false, false, false, false] #[true, true, true, true, true, true, true, true, true, true, true, true, true, false, false, false, false, true, false, false] rfl rfl rfl rfl (two_of HT_.out (by kernel_rfl)) (by decide) (by decide) (fun K hK => ?_) (fun K hK => ?_)
       ·skip
        refine goes_ Try.func32 (by kernel_rfl) rfl #[.agg #[.int .i64 a0_0, .bool a0_1], .slice Al x.length cl] (by rfl) rfl rfl (by first | rfl | (simp only [List.map_toArray, List.map_cons, List.map_nil]; rfl)) ?_
        refine (fold_F_row.calls k a0_0 a0_1 _ _ _ x b1 b2 b3 b4 _ HN.out QB.out).mono ?_; rintro e w7 ⟨v2, rfl, hV, hb⟩; obtain ⟨A3, c3, hv⟩ := Kd.V_slice hV; subst hv; refine ⟨_, rfl, ?_⟩; clear HN
        have HX2 := Aside0.mk (show Kd.V k25 25 w7 w.heap.size (fun k_ => ((P1_1_ k_ ∧ k_ < w.heap.size) ∨ Wr.heap.size ≤ k_)) (.slice A3 b3.length c3) b3 from Kd.V_mono hV (fun k_ hk => hk.elim id (fun h => Or.inr (Nat.le_trans hHeld.size h))))
        clear hV
        have hHeld := hHeld.trans (hb.mono hHeld.size)
        refine hK.out _ _ hHeld (fun hHeld => ?_); clear hK K hb
        refine norm_ (a' := ?_) ?_ ?_; rotate_left
        ·show Act.put _ (some 85) _ = _
         simp only [Act.put, List.setIfInBounds_toArray, List.set_cons_zero, List.set_cons_succ, i64_w, i32_w]; rfl
        refine pure_ (i := 14) (N := some 71) (v := ?_) (a' := ?_) #[true, true, true, true, true, true, true, true, true, true, true, true, true, true, true, false, false, false, false, false] rfl rfl (any_of HT_.out (by kernel_rfl)) (fun _ _ _ h => h) (Or.inl ⟨by rfl, ?_⟩) ?_ ?_; rotate_left
        ·intro w'; go_simp; with_reducible rfl
        rotate_left
        ·simp only [Act.put, List.setIfInBounds_toArray, List.set_cons_zero, List.set_cons_succ, i64_w, i32_w]; rfl
        refine pure_ (i := 15) (N := some 86) (v := ?_) (a' := ?_) #[true, true, true, true, true, true, true, true, true, true, true, true, true, true, true, true, false, false, false, false] rfl rfl (any_of HT_.out (by kernel_rfl)) (fun _ _ _ h => h) (Or.inl ⟨by rfl, ?_⟩) ?_ ?_; rotate_left
        ·intro w'; go_simp; with_reducible rfl
        rotate_left
        ·simp only [Act.put, List.setIfInBounds_toArray, List.set_cons_zero, List.set_cons_succ, i64_w, i32_w]; rfl
        refine pure_ (i := 16) (N := some 87) (v := ?_) (a' := ?_) #[true, true, true, true, true, true, true, true, true, true, true, true, true, true, true, true, true, false, false, false] rfl rfl (any_of HT_.out (by kernel_rfl)) (fun _ _ _ h => h) (Or.inl ⟨by rfl, ?_⟩) ?_ ?_; rotate_left
        ·intro w'; go_simp; with_reducible rfl
        rotate_left
        ·simp only [Act.put, List.setIfInBounds_toArray, List.set_cons_zero, List.set_cons_succ, i64_w, i32_w]; rfl
        refine one_ (i := 17) (N := some 18) #[true, true, true, true, true, true, true, true, true, true, true, true, true, true, true, true, true, true, false, false] rfl rfl (one_of HT_.out (by kernel_rfl)) (by decide) (fun K hK => ?_)
        refine box_step ?hg (N := 18) ?hd (cs := #[.int .i64 0, .int .i64 0, .slice none 0 0]) (t := 43) ?hr ?_; (case hd => rfl); (case hg => rfl); (case hr => first | (go_simp; done) | (go_simp; rfl))
        intro g hg w8 hbox hb
        have HX2 := Aside0.mk (Kd.V_below (Kd.V_elderB HX2.out g (Nat.le_of_eq hg.symm)) hb)
        have HG := Aside0.mk hbox; have HM := Aside0.mk (blk_lt hbox); have HL := Aside0.mk (Nat.le_trans hHeld.size (Nat.le_of_eq hg.symm))
        have hHeld := hHeld.trans (hb.mono hHeld.size)
        refine hK.out _ _ hHeld (fun hHeld => ?_); clear hK K hb hbox hg
        refine norm_ (a' := ?_) ?_ ?_; rotate_left
        ·show Act.put _ (some 18) _ = _
         simp only [Act.put, List.setIfInBounds_toArray, List.set_cons_zero, List.set_cons_succ, i64_w, i32_w]; rfl
        exact norm_ (by simp only [putAll, Act.put, List.setIfInBounds_toArray, List.set_cons_zero, List.set_cons_succ]) (hCont (Al, cl, A3, c3, g) _ ⟨hHeld, HX2.out, HG.out, HL.out⟩)
       ·skip
        refine box_step ?hg (N := 18) ?hd (cs := #[.int .i64 0, .int .i64 0, .slice none 0 0]) (t := 43) ?hr ?_; (case hd => rfl); (case hg => rfl); (case hr => first | (go_simp; done) | (go_simp; rfl))
        intro g hg w8 hbox hb
        have HN := Aside0.mk (Kd.V_below (Kd.V_elderB HN.out g (Nat.le_of_eq hg.symm)) hb)
        have HG := Aside0.mk hbox; have HM := Aside0.mk (blk_lt hbox); have HL := Aside0.mk (Nat.le_trans hHeld.size (Nat.le_of_eq hg.symm))
        have hHeld := hHeld.trans (hb.mono hHeld.size)
        refine hK.out _ _ hHeld (fun hHeld => ?_); clear hK K hb hbox hg
        refine norm_ (a' := ?_) ?_ ?_; rotate_left
        ·show Act.put _ (some 18) _ = _
         simp only [Act.put, List.setIfInBounds_toArray, List.set_cons_zero, List.set_cons_succ, i64_w, i32_w]; rfl
        refine one_ (i := 13) (N := some 85) #[true, true, true, true, true, true, true, true, true, true, true, true, true, true, false, false, false, true, false, false] rfl rfl (one_of HT_.out (by kernel_rfl)) (by decide) (fun K hK => ?_)
        refine goes_ Try.func32 (by kernel_rfl) rfl #[.agg #[.int .i64 a0_0, .bool a0_1], .slice Al x.length cl] (by rfl) rfl rfl (by first | rfl | (simp only [List.map_toArray, List.map_cons, List.map_nil]; rfl)) ?_
        refine (fold_F_row.calls k a0_0 a0_1 _ _ _ x b1 b2 b3 b4 _ HN.out QB.out).mono ?_; rintro e w7 ⟨v2, rfl, hV, hb⟩; obtain ⟨A3, c3, hv⟩ := Kd.V_slice hV; subst hv; refine ⟨_, rfl, ?_⟩; clear HN
        have HX2 := Aside0.mk (show Kd.V k25 25 w7 w.heap.size (fun k_ => ((P1_1_ k_ ∧ k_ < w.heap.size) ∨ Wr.heap.size ≤ k_) ∧ k_ ≠ g) (.slice A3 b3.length c3) b3 from Kd.V_mono hV (fun k_ hk => hk.elim id (fun h => ⟨Or.inr (Nat.le_trans hHeld.size h), Nat.ne_of_gt (Nat.lt_of_lt_of_le HM.out h)⟩))); have HG := Aside0.mk (blk_below HG.out hb)
        clear hV
        have hHeld := hHeld.trans (hb.mono hHeld.size)
        refine hK.out _ _ hHeld (fun hHeld => ?_); clear hK K hb
        refine norm_ (a' := ?_) ?_ ?_; rotate_left
        ·show Act.put _ (some 85) _ = _
         simp only [Act.put, List.setIfInBounds_toArray, List.set_cons_zero, List.set_cons_succ, i64_w, i32_w]; rfl
        refine pure_ (i := 14) (N := some 71) (v := ?_) (a' := ?_) #[true, true, true, true, true, true, true, true, true, true, true, true, true, true, true, false, false, true, false, false] rfl rfl (any_of HT_.out (by kernel_rfl)) (fun _ _ _ h => h) (Or.inl ⟨by rfl, ?_⟩) ?_ ?_; rotate_left
        ·intro w'; go_simp; with_reducible rfl
        rotate_left
        ·simp only [Act.put, List.setIfInBounds_toArray, List.set_cons_zero, List.set_cons_succ, i64_w, i32_w]; rfl
        refine pure_ (i := 15) (N := some 86) (v := ?_) (a' := ?_) #[true, true, true, true, true, true, true, true, true, true, true, true, true, true, true, true, false, true, false, false] rfl rfl (any_of HT_.out (by kernel_rfl)) (fun _ _ _ h => h) (Or.inl ⟨by rfl, ?_⟩) ?_ ?_; rotate_left
        ·intro w'; go_simp; with_reducible rfl
        rotate_left
        ·simp only [Act.put, List.setIfInBounds_toArray, List.set_cons_zero, List.set_cons_succ, i64_w, i32_w]; rfl
        refine pure_ (i := 16) (N := some 87) (v := ?_) (a' := ?_) #[true, true, true, true, true, true, true, true, true, true, true, true, true, true, true, true, true, true, false, false] rfl rfl (any_of HT_.out (by kernel_rfl)) (fun _ _ _ h => h) (Or.inl ⟨by rfl, ?_⟩) ?_ ?_; rotate_left
        ·intro w'; go_simp; with_reducible rfl
        rotate_left
        ·simp only [Act.put, List.setIfInBounds_toArray, List.set_cons_zero, List.set_cons_succ, i64_w, i32_w]; rfl
        exact norm_ (by simp only [putAll, Act.put, List.setIfInBounds_toArray, List.set_cons_zero, List.set_cons_succ]) (hCont (Al, cl, A3, c3, g) _ ⟨hHeld, HX2.out, HG.out, HL.out⟩)
      ·skip
       refine box_step ?hg (N := 18) ?hd (cs := #[.int .i64 0, .int .i64 0, .slice none 0 0]) (t := 43) ?hr ?_; (case hd => rfl); (case hg => rfl); (case hr => first | (go_simp; done) | (go_simp; rfl))
       intro g hg w8 hbox hb
       have HG := Aside0.mk hbox; have HM := Aside0.mk (blk_lt hbox); have HL := Aside0.mk (Nat.le_trans hHeld.size (Nat.le_of_eq hg.symm))
       have hHeld := hHeld.trans (hb.mono hHeld.size)
       refine hK.out _ _ hHeld (fun hHeld => ?_); clear hK K hb hbox hg
       refine norm_ (a' := ?_) ?_ ?_; rotate_left
       ·show Act.put _ (some 18) _ = _
        simp only [Act.put, List.setIfInBounds_toArray, List.set_cons_zero, List.set_cons_succ, i64_w, i32_w]; rfl
       refine one_ (i := 12) (N := some 84) #[true, true, true, true, true, true, true, true, true, true, true, true, true, false, false, false, false, true, false, false] rfl rfl (one_of HT_.out (by kernel_rfl)) (by decide) (fun K hK => ?_)
       refine goes_ Try.func33 (by kernel_rfl) rfl #[.slice A1_1 l1_1.length c1_1, .int .i64 (wrap64 (wrap64 (wrap64 ((i : Int) * T) * G) + (j : Int))), .int .i64 T, .int .i64 G] (by rfl) rfl rfl (by first | rfl | (simp only [List.map_toArray, List.map_cons, List.map_nil]; rfl)) ?_
       refine (fold_line.calls k (fun k_ => P1_1_ k_ ∧ k_ < w.heap.size) _ _ l1_1 (wrap64 (wrap64 (wrap64 ((i : Int) * T) * G) + (j : Int))) T G x _ (by exact Kd.V_below HV.out ((HT.out.step hHeld).bx.bel)) HAT.out).mono ?_; rintro e w6 ⟨vl, rfl, hN, hb⟩; obtain ⟨Al, cl, hv⟩ := Kd.N_slice hN; subst hv; refine ⟨_, rfl, ?_⟩
       have HN := Aside0.mk (show Kd.V k43 43 w6 w.heap.size (fun k_ => ((P1_1_ k_ ∧ k_ < w.heap.size) ∨ Wr.heap.size ≤ k_) ∧ k_ ≠ g) (.slice Al x.length cl) x from Kd.V_mono (Kd.N_V hN (base' := 0)) (fun k_ hk => ⟨hk.elim Or.inl (fun h => Or.inr (Nat.le_trans hHeld.size h)), hk.elim (fun h => Nat.ne_of_lt (Nat.lt_of_lt_of_le h.2 (Nat.le_trans HT.out.bx.bel.size HL.out))) (fun h => Nat.ne_of_gt (Nat.lt_of_lt_of_le HM.out h))⟩)); clear hN
       have HG := Aside0.mk (blk_below HG.out hb); have HM := Aside0.mk (Nat.lt_of_lt_of_le HM.out hb.size)
       have hHeld := hHeld.trans (hb.mono hHeld.size)
       refine hK.out _ _ hHeld (fun hHeld => ?_); clear hK K hb
       refine norm_ (a' := ?_) ?_ ?_; rotate_left
       ·show Act.put _ (some 84) _ = _
        simp only [Act.put, List.setIfInBounds_toArray, List.set_cons_zero, List.set_cons_succ, i64_w, i32_w]; rfl
       refine one_ (i := 13) (N := some 85) #[true, true, true, true, true, true, true, true, true, true, true, true, true, true, false, false, false, true, false, false] rfl rfl (one_of HT_.out (by kernel_rfl)) (by decide) (fun K hK => ?_)
       refine goes_ Try.func32 (by kernel_rfl) rfl #[.agg #[.int .i64 a0_0, .bool a0_1], .slice Al x.length cl] (by rfl) rfl rfl (by first | rfl | (simp only [List.map_toArray, List.map_cons, List.map_nil]; rfl)) ?_
       refine (fold_F_row.calls k a0_0 a0_1 _ _ _ x b1 b2 b3 b4 _ HN.out QB.out).mono ?_; rintro e w7 ⟨v2, rfl, hV, hb⟩; obtain ⟨A3, c3, hv⟩ := Kd.V_slice hV; subst hv; refine ⟨_, rfl, ?_⟩; clear HN
       have HX2 := Aside0.mk (show Kd.V k25 25 w7 w.heap.size (fun k_ => ((P1_1_ k_ ∧ k_ < w.heap.size) ∨ Wr.heap.size ≤ k_) ∧ k_ ≠ g) (.slice A3 b3.length c3) b3 from Kd.V_mono hV (fun k_ hk => hk.elim id (fun h => ⟨Or.inr (Nat.le_trans hHeld.size h), Nat.ne_of_gt (Nat.lt_of_lt_of_le HM.out h)⟩))); have HG := Aside0.mk (blk_below HG.out hb)
       clear hV
       have hHeld := hHeld.trans (hb.mono hHeld.size)
       refine hK.out _ _ hHeld (fun hHeld => ?_); clear hK K hb
       refine norm_ (a' := ?_) ?_ ?_; rotate_left
       ·show Act.put _ (some 85) _ = _
        simp only [Act.put, List.setIfInBounds_toArray, List.set_cons_zero, List.set_cons_succ, i64_w, i32_w]; rfl
       refine pure_ (i := 14) (N := some 71) (v := ?_) (a' := ?_) #[true, true, true, true, true, true, true, true, true, true, true, true, true, true, true, false, false, true, false, false] rfl rfl (any_of HT_.out (by kernel_rfl)) (fun _ _ _ h => h) (Or.inl ⟨by rfl, ?_⟩) ?_ ?_; rotate_left
       ·intro w'; go_simp; with_reducible rfl
       rotate_left
       ·simp only [Act.put, List.setIfInBounds_toArray, List.set_cons_zero, List.set_cons_succ, i64_w, i32_w]; rfl
       refine pure_ (i := 15) (N := some 86) (v := ?_) (a' := ?_) #[true, true, true, true, true, true, true, true, true, true, true, true, true, true, true, true, false, true, false, false] rfl rfl (any_of HT_.out (by kernel_rfl)) (fun _ _ _ h => h) (Or.inl ⟨by rfl, ?_⟩) ?_ ?_; rotate_left
       ·intro w'; go_simp; with_reducible rfl
       rotate_left
       ·simp only [Act.put, List.setIfInBounds_toArray, List.set_cons_zero, List.set_cons_succ, i64_w, i32_w]; rfl
       refine pure_ (i := 16) (N := some 87) (v := ?_) (a' := ?_) #[true, true, true, true, true, true, true, true, true, true, true, true, true, true, true, true, true, true, false, false] rfl rfl (any_of HT_.out (by kernel_rfl)) (fun _ _ _ h => h) (Or.inl ⟨by rfl, ?_⟩) ?_ ?_; rotate_left
       ·intro w'; go_simp; with_reducible rfl
       rotate_left
       ·simp only [Act.put, List.setIfInBounds_toArray, List.set_cons_zero, List.set_cons_succ, i64_w, i32_w]; rfl
       exact norm_ (by simp only [putAll, Act.put, List.setIfInBounds_toArray, List.set_cons_zero, List.set_cons_succ]) (hCont (Al, cl, A3, c3, g) _ ⟨hHeld, HX2.out, HG.out, HL.out⟩)
     rintro ⟨Al, cl, A3, c3, g⟩ W1 ⟨hHeld, hX, hG, hL⟩; dsimp only at hX hG hL
     refine norm_ (a' := ?_) ?_ ?_; rotate_left
     ·simp only [putAll, Act.put, List.setIfInBounds_toArray, List.set_cons_zero, List.set_cons_succ]; rfl
     refine one_ (i := 18) (N := none) #[true, true, true, true, true, true, true, true, true, true, true, true, true, true, true, true, true, true, true, false] rfl rfl (one_of HT_.out (by kernel_rfl)) (by decide) (fun K hK => ?_)
     have hs0 : W1.cell? ⟨g, 0, none⟩ = some (.int .i64 0) := (blk_cell hG 0).trans rfl; have hz0 := blk_frozen hG 0; have hs1 : W1.cell? ⟨g, 1, none⟩ = some (.int .i64 0) := (blk_cell hG 1).trans rfl; have hz1 := blk_frozen hG 1; have hs2 : W1.cell? ⟨g, 2, none⟩ = some (.slice none 0 0) := (blk_cell hG 2).trans rfl; have hz2 := blk_frozen hG 2
     refine skip_ (w1 := ?_) (by rfl) rfl ?_ ?_; rotate_left
     ·go_simp; rfl
     have HBX := Aside0.mk (hf_z3 hG (.int .i64 b1) (.int .i64 b2) (.slice A3 b3.length c3))
     have hb : Below Wr.heap.size Wr (((W1.setCell ⟨g, 0, none⟩ (.int .i64 b1)).setCell ⟨g, 1, none⟩ (.int .i64 b2)).setCell ⟨g, 2, none⟩ (.slice A3 b3.length c3)) := below_set (below_set (below_set hHeld hL) hL) hL
     have HX2 := Aside0.mk (fs_V3 (g := g) (ok' := fun k_ => ((P1_1_ k_ ∧ k_ < w.heap.size) ∨ Wr.heap.size ≤ k_)) hX (fun k_ hk => hk.2) (fun _ h => h.1) (.int .i64 b1) (.int .i64 b2) (.slice A3 b3.length c3))
     have HT := Aside0.mk (HT.out.step hb)
     clear hX hG hL hHeld hs0 hs1 hs2 hz0 hz1 hz2
     refine hK.out _ _ hb (fun hHeld => ?_); clear hK K
     clear hHeld hb
     generalize ((W1.setCell _ _).setCell _ _).setCell _ _ = W4 at HBX HX2 HT ⊢
     refine pure_ (i := 19) (N := some 19) (v := ?_) (a' := ?_) #[true, true, true, true, true, true, true, true, true, true, true, true, true, true, true, true, true, true, true, true] rfl rfl (any_of HT_.out (by kernel_rfl)) (fun _ _ _ h => h) (Or.inl ⟨by rfl, ?_⟩) ?_ ?_; rotate_left
     ·intro w'; go_simp; with_reducible rfl
     rotate_left
     ·simp only [Act.put, List.setIfInBounds_toArray, List.set_cons_zero, List.set_cons_succ, i64_w, i32_w]; rfl
     refine done_ (done_of HT_.out (by kernel_rfl)) ?_
     try clear HT_ HW_
     have b0_ : W4.cell? ⟨g, 0, none⟩ = some (.int .i64 b1) := (blk_cell HBX.out 0).trans rfl; have b1_ : W4.cell? ⟨g, 1, none⟩ = some (.int .i64 b2) := (blk_cell HBX.out 1).trans rfl; have b2_ : W4.cell? ⟨g, 2, none⟩ = some (.slice A3 b3.length c3) := (blk_cell HBX.out 2).trans rfl
     have o0 : W4.cell? ⟨go, 0, none⟩ = some (.slice (some ⟨gs, 0, none⟩) z.length cap) := (blk_cell (HT.out.bx.at_ 0 rfl) 0).trans rfl; have o1 : W4.cell? ⟨go, 1, none⟩ = some (.slice Aq acc.length cq) := (blk_cell (HT.out.bx.at_ 0 rfl) 1).trans rfl; have x0 : W4.cell? ⟨w.heap.size, 0, none⟩ = some (.int .i64 a0_0) := (blk_cell (HT.out.bx.at_ 4 rfl) 0).trans rfl; have x1 : W4.cell? ⟨w.heap.size, 1, none⟩ = some (.bool a0_1) := (blk_cell (HT.out.bx.at_ 4 rfl) 1).trans rfl; have y0 : W4.cell? ⟨w.heap.size + 1, 0, none⟩ = some (.slice A1_0 l1_0.length c1_0) := (blk_cell (HT.out.bx.at_ 3 rfl) 0).trans rfl; have y1 : W4.cell? ⟨w.heap.size + 1, 1, none⟩ = some (.slice A1_1 l1_1.length c1_1) := (blk_cell (HT.out.bx.at_ 3 rfl) 1).trans rfl; have z0 : W4.cell? ⟨w.heap.size + 1 + 1, 0, none⟩ = some (.slice none 0 0) := (blk_cell (HT.out.bx.at_ 2 rfl) 0).trans rfl; have z1 : W4.cell? ⟨w.heap.size + 1 + 1, 1, none⟩ = some (.slice none 0 0) := (blk_cell (HT.out.bx.at_ 2 rfl) 1).trans rfl; have f0 := blk_frozen (HT.out.bx.at_ 2 rfl) 0; have f1 := blk_frozen (HT.out.bx.at_ 2 rfl) 1
     have h := H5.out; clear H5
     by_cases ce : b4 = 0
     rotate_left
     ·rw [if_neg ce] at h
      obtain rfl := Option.some.inj h; have h := HQ.out; rw [if_neg ce] at h; obtain rfl := Option.some.inj h; have h := H.out; unfold fold_Red.end_ at h; rw [if_neg ce] at h
      simp only [Option.some.injEq, Prod.mk.injEq] at h; obtain ⟨rfl, rfl, rfl⟩ := h
      have ceb : (b4 != 0) = true := bne_iff_ne.2 ce; clear ce
      go_wp2_with (fail)
      all_goals (refine bodyPost_ret (results_ct rfl _ _ (w.heap.size + 1 + 1) 25 #[.slice none 0 0, .slice none 0 0] (0, 0) _ rfl (hf_z2 (HT.out.bx.at_ 2 rfl) _ _) Try.underlying25 rfl (by kernel_rfl)) rfl ?_; exact ⟨_, _, rfl, Kd.R_nil _ _ _ _ _, Kd.N_nil _ _ _ _ _, below_set (below_set HT.out.bx.bel (HT.out.bx.fr _ (List.mem_of_getElem? (i := 2) rfl))) (HT.out.bx.fr _ (List.mem_of_getElem? (i := 2) rfl))⟩)
     rw [if_pos ce] at h; subst ce
     by_cases cl_ : acc.length < 3518437208883
     rotate_left
     ·rw [if_neg cl_] at h; cases h
     rw [if_pos cl_] at h; have QJ := Aside0.mk h; have CA := Aside0.mk cl_; clear h cl_
     go_wp2_with ((with_reducible refine gate_builtin (b := .append) (xs := #[.tmp 93, .tmp 95]) rfl ?_); at_builtin; refine OutN.app HT.out rfl (.tmp 93) (.tmp 95) 23 (.agg #[.int .i64 0, .int .i64 0, .slice none 0 0]) rfl Try.underlying23 info43 rfl rfl (by first | (go_simp; done) | (go_simp; rfl)) (⟨b1, b2, b3⟩ : S43) [.int .i64 b1, .int .i64 b2, .slice A3 b3.length c3] (fun k_ => ((P1_1_ k_ ∧ k_ < w.heap.size) ∨ Wr.heap.size ≤ k_)) (k43_mkF _ _ (⟨b1, b2, b3⟩ : S43) (Kd.V_at HX2.out).2.1 (Kd.V_at HX2.out).2.2) (fun k_ hk => hk.elim (HE.out.1 k_) (HE.out.2 k_)) (by have := CA.out; omega) ?_; intro v7 w7 hT7; obtain ⟨A7, c7, hv⟩ := Kd.N_slice hT7.r1; subst hv; rw [List.length_append, List.length_singleton] at hT7; have HT7 := Aside0.mk hT7; clear hT7; (try clear x0 x1 y0 y1 z0 z1 f0 f1 o0 o1); have o0 : w7.cell? ⟨go, 0, none⟩ = some (.slice (some ⟨gs, 0, none⟩) z.length cap) := (blk_cell (HT7.out.bx.at_ 0 rfl) 0).trans rfl; have o1 : w7.cell? ⟨go, 1, none⟩ = some (.slice Aq acc.length cq) := (blk_cell (HT7.out.bx.at_ 0 rfl) 1).trans rfl; have f0 := blk_frozen (HT7.out.bx.at_ 0 rfl) 0; have f1 := blk_frozen (HT7.out.bx.at_ 0 rfl) 1)
     go_roundg q; (case measure => omega)
     case rel => exact ⟨j + 1, acc ++ [⟨b1, b2, b3⟩], _, congrArg (Value.int .i64) HWJ.out, ⟨by have := HJ.out; omega⟩, QJ, ⟨HT7.out.put1⟩⟩
def fold_Scan.at_ (T G : Int) (i j : Nat) : Int := wrap64 (wrap64 (wrap64 ((i : Int) * T) * G) + (j : Int))
def fold_Scan.lk (k : Nat) (op : Int) (t : Bool) (x : List (S43)) (T at_ : Int) : Nat → Nat → List (S43) → Option (Int × List (S43))
 | 0, _, acc => some (0, acc)
 | n + 1, m, acc => (fold_F_row.f k op t (x.take (m + 1))).bind fun b => if b.2.2.2 = 0 then (if 0 ≤ wrap64 (at_ + wrap64 ((m : Int) * T)) ∧ wrap64 (at_ + wrap64 ((m : Int) * T)) < acc.length then fold_Scan.lk k op t x T at_ n (m + 1) (acc.set (wrap64 (at_ + wrap64 ((m : Int) * T))).toNat ⟨b.1, b.2.1, b.2.2.1⟩) else none) else some (b.2.2.2, [])
def fold_Scan.lj (k : Nat) (op : Int) (t : Bool) (l : List (S43)) (T G : Int) (i : Nat) : Nat → Nat → List (S43) → Option (Int × List (S43))
 | 0, _, acc => some (0, acc)
 | n + 1, j, acc => (fold_line.f k l (fold_Scan.at_ T G i j) T G).bind fun x => (fold_Scan.lk k op t x T (fold_Scan.at_ T G i j) (x.length - 1) 1 acc).bind fun r => if r.1 = 0 then fold_Scan.lj k op t l T G i n (j + 1) r.2 else some (r.1, [])
def fold_Scan.li (k : Nat) (op : Int) (t : Bool) (l : List (S43)) (T G : Int) : Nat → Nat → List (S43) → Option (Int × List (S43))
 | 0, _, acc => some (0, acc)
 | n + 1, i, acc => (fold_Scan.lj k op t l T G i T.toNat 0 acc).bind fun r => if r.1 = 0 then fold_Scan.li k op t l T G n (i + 1) r.2 else some (r.1, [])
def fold_Scan.ax (s : List Int) (last : Bool) : Nat := if last = true then s.length - 1 else 0
def fold_Scan.g (k : Nat) (op : Int) (t : Bool) (s : List Int) (l : List (S43)) (a : Nat) (c : List Int × List (S43)) : Option (List Int × List (S43) × Int) :=
 (fold_lines.f s (a : Int)).bind fun o => if o.1 ≤ 9223372036854775807 ∧ o.2.1 ≤ 9223372036854775807 then ((fold_Scan.li k op t l o.2.1 o.2.2 o.1.toNat 0 c.2).bind fun r => if r.1 = 0 then some (c.1, r.2, 0) else some ([], [], r.1)) else none
def fold_Scan.f (k : Nat) (a0_0 : Int) (a0_1 : Bool) (l1_0 : List Int) (l1_1 : List (S43)) (a2 : Bool) : Option (List Int × List (S43) × Int) :=
 (fold_F_checked.f k a0_0 a0_1 [⟨l1_0, l1_1⟩]).bind fun e => if e = 0 then ((arr_Copy.f k l1_0 l1_1).bind fun c => if l1_0.length = 0 then some (c.1, c.2, 0) else if l1_0.length < 17592186044416 then fold_Scan.g k a0_0 a0_1 l1_0 l1_1 (fold_Scan.ax l1_0 a2) c else none) else some ([], [], e)
theorem fold_Scan.mono_lk (k : Nat) (op : Int) (t : Bool) (x : List (S43)) (T at_ : Int) : ∀ n m acc, LeO (fold_Scan.lk k op t x T at_ n m acc) (fold_Scan.lk (k + 1) op t x T at_ n m acc)
 | 0, _, _ => LeO.refl _
 | n + 1, m, acc => by
  unfold fold_Scan.lk
  exact LeO.bind (fold_F_row.mono _ _ _ _) (fun _ => LeO.ite (LeO.ite (fold_Scan.mono_lk k op t x T at_ n _ _) (LeO.none _)) (LeO.refl _))
theorem fold_Scan.mono_lj (k : Nat) (op : Int) (t : Bool) (l : List (S43)) (T G : Int) (i : Nat) : ∀ n j acc, LeO (fold_Scan.lj k op t l T G i n j acc) (fold_Scan.lj (k + 1) op t l T G i n j acc)
 | 0, _, _ => LeO.refl _
 | n + 1, j, acc => by
  unfold fold_Scan.lj
  exact LeO.bind (fold_line.mono _ _ _ _ _) (fun _ => LeO.bind (fold_Scan.mono_lk _ _ _ _ _ _ _ _ _) (fun _ => LeO.ite (fold_Scan.mono_lj k op t l T G i n _ _) (LeO.refl _)))
theorem fold_Scan.mono_li (k : Nat) (op : Int) (t : Bool) (l : List (S43)) (T G : Int) : ∀ n i acc, LeO (fold_Scan.li k op t l T G n i acc) (fold_Scan.li (k + 1) op t l T G n i acc)
 | 0, _, _ => LeO.refl _
 | n + 1, i, acc => by
  unfold fold_Scan.li
  exact LeO.bind (fold_Scan.mono_lj _ _ _ _ _ _ _ _ _ _) (fun _ => LeO.ite (fold_Scan.mono_li k op t l T G n _ _) (LeO.refl _))
theorem fold_Scan.mono : ∀ a0 a1 a2 a3 a4 k, LeO (fold_Scan.f k a0 a1 a2 a3 a4) (fold_Scan.f (k + 1) a0 a1 a2 a3 a4) := by
 intro a0 a1 a2 a3 a4 k
 unfold fold_Scan.f fold_Scan.g
 exact LeO.bind (fold_F_checked.mono _ _ _ _) (fun _ => LeO.ite (LeO.bind (arr_Copy.mono _ _ _) (fun _ => LeO.ite (LeO.refl _) (LeO.ite (LeO.bind (LeO.refl _) (fun _ => LeO.ite (LeO.bind (fold_Scan.mono_li _ _ _ _ _ _ _ _ _) (fun _ => LeO.refl _)) (LeO.none _))) (LeO.none _)))) (LeO.refl _))
theorem fold_Scan.shape0 : ∀ (k : Nat) (x11 : List (S43)) (x12 x13 : Int) (s : List Int) (acc : List (S43)) (r : List Int × List (S43)), arr_Copy.l0 k x11 x12 x13 s acc = some r → r.1 = s
 | 0, _, _, _, _, _, _, h => by simp [arr_Copy.l0] at h
 | k + 1, x11, x12, x13, s, acc, r, h => by
  rw [arr_Copy.l0] at h
  split at h
  ·split at h
   ·split at h
    ·obtain ⟨b, _, h⟩ := Option.bind_eq_some_iff.1 h
     split at h
     ·exact fold_Scan.shape0 k _ _ _ _ _ _ h
     ·cases h
    ·cases h
   ·cases h
  ·rw [← Option.some.inj h]
theorem fold_Scan.shape (k : Nat) (s : List Int) (l : List (S43)) (r : List Int × List (S43)) (h : arr_Copy.f k s l = some r) : r.1 = s := by
 cases k with
 | zero => simp [arr_Copy.f] at h
 | succ k =>
  rw [arr_Copy.f] at h
  split at h
  ·exact fold_Scan.shape0 _ _ _ _ _ _ _ h
  ·cases h
/-- A row of cells folded, of as many as are said. -/
theorem fold_Scan.rowc (k : Nat) (a0_0 : Int) (a0_1 : Bool) (P1_ : Nat → Prop) (A1 : Option Addr) (c1 n : Nat) (l1 : List (S43)) (r1 r2 : Int) (r3 : List (S25)) (r4 : Int) (w : World) (hs1 : Kd.V k43 43 w w.heap.size P1_ (.slice A1 n c1) l1) (h : fold_F_row.f k a0_0 a0_1 l1 = some (r1, r2, r3, r4)) :
  Calls Try.prog 32 #[.agg #[.int .i64 a0_0, .bool a0_1], .slice A1 n c1] w fun e w' => ∃ v2_ : Value, e = .returned (.tuple #[.agg #[.int .i64 r1, .int .i64 r2, v2_], .int .i64 r4]) ∧ Kd.V k25 25 w' w.heap.size (fun k_ => (P1_ k_ ∨ w.heap.size ≤ k_)) v2_ r3 ∧ Below w.heap.size w w' := by
 obtain ⟨rfl, _⟩ := Kd.V_at hs1
 exact fold_F_row.calls k a0_0 a0_1 P1_ A1 c1 l1 r1 r2 r3 r4 w hs1 h
def fold_Scan.T7 : Bool × List (List Nat × List Nat) := (true, [([], []), ([0], [0]), ([], []), ([], []), ([2, 3], [2, 3]), ([1, 4, 4], [1, 4]), ([5], [5]), ([6], [6]), ([6], [6]), ([6], [6]), ([7, 5, 0, 1, 2, 3, 4, 5, 6, 7], [7]), ([8, 10, 0, 1, 2, 3, 4, 5, 6, 7, 8, 10], [8]), ([9, 11, 0, 1, 2, 3, 4, 5, 6, 7, 8, 9, 10, 11], [9])])
def fold_Scan.B7 : List Nat := [0, 1, 0, 0, 12, 31, 63, 127, 127, 127, 255, 1535, 4095]
theorem fold_Scan.tab7 : rtab .any (opsOf Try.f15 7) = fold_Scan.T7 := by kernel_rfl
theorem fold_Scan.bits7 : waitsOk fold_Scan.T7.2 fold_Scan.B7 = true := by kernel_rfl
def fold_Scan.T19 : Bool × List (List Nat × List Nat) := (true, [([], []), ([], []), ([], []), ([2], [2]), ([1, 3], [1, 3]), ([0, 4], [0, 4]), ([5], [5]), ([6], [6]), ([6], [6]), ([], []), ([9, 7, 5, 0, 1, 2, 3, 4, 5, 6, 7, 9], [7, 9]), ([8, 10, 0, 1, 2, 3, 4, 5, 6, 7, 8, 9, 10], [8])])
def fold_Scan.B19 : List Nat := [0, 0, 0, 4, 14, 31, 63, 127, 127, 0, 767, 2047]
theorem fold_Scan.tab19 : rtab .any (opsOf Try.f15 19) = fold_Scan.T19 := by kernel_rfl
theorem fold_Scan.bits19 : waitsOk fold_Scan.T19.2 fold_Scan.B19 = true := by kernel_rfl
set_option maxHeartbeats 8000000 in
set_option maxRecDepth 100000 in
theorem fold_Scan.calls (k : Nat) (a0_0 : Int) (a0_1 : Bool) (A1_0 : Option Addr) (c1_0 : Nat) (l1_0 : List Int) (P1_1_ : Nat → Prop) (A1_1 : Option Addr) (c1_1 : Nat) (l1_1 : List (S43)) (a2 : Bool) (r1 : List Int) (r2 : List (S43)) (r3 : Int) (w : World) (hr1_0 : Kd.C (Kd.int .i64) w A1_0 l1_0.length l1_0) (hc1_0 : l1_0.length ≤ c1_0) (hs1_1 : Kd.V k43 43 w w.heap.size (fun k_ => P1_1_ k_) (.slice A1_1 l1_1.length c1_1) l1_1) (h : fold_Scan.f k a0_0 a0_1 l1_0 l1_1 a2 = some (r1, r2, r3)) :
  Calls Try.prog 15 #[.agg #[.int .i64 a0_0, .bool a0_1], .agg #[.slice A1_0 l1_0.length c1_0, .slice A1_1 l1_1.length c1_1], .bool a2] w fun e w' => ∃ v0_ v1_ : Value, e = .returned (.tuple #[.agg #[v0_, v1_], .int .i64 r3]) ∧ Kd.R (Kd.int .i64) 3 w' w.heap.size (fun k_ => (w.heap.size ≤ k_)) v0_ r1 ∧ Kd.N k43 43 w' w.heap.size (fun k_ => (P1_1_ k_ ∨ w.heap.size ≤ k_) ∧ some k_ ≠ (v0_ : Value).ownBlock) v1_ r2 ∧ Below w.heap.size w w' := by
 have hu_a := Try.underlying25
 have hu_f := Try.underlying32
 have HR := Aside0.mk (And.intro hr1_0 hc1_0); have HV := Aside0.mk (Kd.V_bound hs1_1); clear hr1_0 hc1_0 hs1_1
 have HS := Aside0.mk (BxS.three w #[.int .i64 a0_0, .bool a0_1] 32 #[.slice A1_0 l1_0.length c1_0, .slice A1_1 l1_1.length c1_1] 25 #[.slice none 0 0, .slice none 0 0] 25)
 unfold fold_Scan.f at h
 obtain ⟨e0, q0, h⟩ := Option.bind_eq_some_iff.1 h; have Q0 := Aside0.mk q0; clear q0
 go_enter Try.func15, Try.ntmps15
 go_upto_region 1 with (fail)
 generalize ((w.alloc (.cells #[.int .i64 a0_0, .bool a0_1] 32)).alloc (.cells #[.slice A1_0 l1_0.length c1_0, .slice A1_1 l1_1.length c1_1] 25)).alloc (.cells #[.slice none 0 0, .slice none 0 0] 25) = W at HS ⊢
 have x0 : W.cell? ⟨w.heap.size, 0, none⟩ = some (.int .i64 a0_0) := (blk_cell (HS.out.at_ 2 rfl) 0).trans rfl; have x1 : W.cell? ⟨w.heap.size, 1, none⟩ = some (.bool a0_1) := (blk_cell (HS.out.at_ 2 rfl) 1).trans rfl; have y0 : W.cell? ⟨w.heap.size + 1, 0, none⟩ = some (.slice A1_0 l1_0.length c1_0) := (blk_cell (HS.out.at_ 1 rfl) 0).trans rfl; have y1 : W.cell? ⟨w.heap.size + 1, 1, none⟩ = some (.slice A1_1 l1_1.length c1_1) := (blk_cell (HS.out.at_ 1 rfl) 1).trans rfl; have z0 : W.cell? ⟨w.heap.size + 1 + 1, 0, none⟩ = some (.slice none 0 0) := (blk_cell (HS.out.at_ 0 rfl) 0).trans rfl; have z1 : W.cell? ⟨w.heap.size + 1 + 1, 1, none⟩ = some (.slice none 0 0) := (blk_cell (HS.out.at_ 0 rfl) 1).trans rfl; have f0 := blk_frozen (HS.out.at_ 0 rfl) 0; have f1 := blk_frozen (HS.out.at_ 0 rfl) 1
 go_upto_region 2 with (go_at_call 25; refine (fold_F_checked.calls k a0_0 a0_1 _ 1 [(⟨l1_0, l1_1⟩ : S25)] e0 _ (fo_C1 (blk_new W _) HR.out.2 (Kd.C_alloc (Kd.C_below HR.out.1 HS.out.bel) _) (Kd.V_reads' HV.out).2.1 (Kd.C_alloc (Kd.C_below (Kd.V_reads' HV.out).2.2 HS.out.bel) _)) (Nat.le_refl 1) Q0.out).mono ?_; rintro e w1 ⟨rfl, hb⟩; have HS := Aside0.mk (HS.out.step (hf_ac hb)); (try clear x0 x1 y0 y1 z0 z1 f0 f1); have x0 : w1.cell? ⟨w.heap.size, 0, none⟩ = some (.int .i64 a0_0) := (blk_cell (HS.out.at_ 2 rfl) 0).trans rfl; have x1 : w1.cell? ⟨w.heap.size, 1, none⟩ = some (.bool a0_1) := (blk_cell (HS.out.at_ 2 rfl) 1).trans rfl; have y0 : w1.cell? ⟨w.heap.size + 1, 0, none⟩ = some (.slice A1_0 l1_0.length c1_0) := (blk_cell (HS.out.at_ 1 rfl) 0).trans rfl; have y1 : w1.cell? ⟨w.heap.size + 1, 1, none⟩ = some (.slice A1_1 l1_1.length c1_1) := (blk_cell (HS.out.at_ 1 rfl) 1).trans rfl; have z0 : w1.cell? ⟨w.heap.size + 1 + 1, 0, none⟩ = some (.slice none 0 0) := (blk_cell (HS.out.at_ 0 rfl) 0).trans rfl; have z1 : w1.cell? ⟨w.heap.size + 1 + 1, 1, none⟩ = some (.slice none 0 0) := (blk_cell (HS.out.at_ 0 rfl) 1).trans rfl; have f0 := blk_frozen (HS.out.at_ 0 rfl) 0; have f1 := blk_frozen (HS.out.at_ 0 rfl) 1; clear hb)
 by_cases ce : e0 = 0
 rotate_left
 ·rw [if_neg ce] at h
  simp only [Option.some.injEq, Prod.mk.injEq] at h; obtain ⟨rfl, rfl, rfl⟩ := h
  have ceb : (e0 != 0) = true := bne_iff_ne.2 ce; clear ce
  go_wp2_with (fail)
  all_goals (refine bodyPost_ret (results_ct rfl _ _ (w.heap.size + 1 + 1) 25 #[.slice none 0 0, .slice none 0 0] (0, 0) _ rfl (hf_z2 (HS.out.at_ 0 rfl) _ _) Try.underlying25 rfl (by kernel_rfl)) rfl ?_; exact ⟨_, _, rfl, Kd.R_nil _ _ _ _ _, Kd.N_nil _ _ _ _ _, below_set (below_set HS.out.bel (HS.out.fr _ (List.mem_of_getElem? (i := 0) rfl))) (HS.out.fr _ (List.mem_of_getElem? (i := 0) rfl))⟩)
 rw [if_pos ce] at h; subst ce
 obtain ⟨⟨y1_, y2_⟩, qc, h⟩ := Option.bind_eq_some_iff.1 h; obtain rfl : l1_0 = y1_ := (fold_Scan.shape _ _ _ _ qc).symm; have QC := Aside0.mk qc; clear qc; dsimp only at h
 go_upto_region 5 with (go_at_call 26; (with_reducible refine (arr_Copy.calls k _ _ l1_0 (fun k_ => P1_1_ k_ ∧ k_ < w.heap.size) _ _ l1_1 l1_0 y2_ _ (Kd.C_below HR.out.1 HS.out.bel) HR.out.2 (Kd.V_below HV.out HS.out.bel) QC.out).mono ?_); rintro e w2 ⟨v0, v1, rfl, h0, h1, hb⟩; obtain ⟨Ac0, cc0, hv⟩ := Kd.R_slice h0; subst hv; obtain ⟨Ac1, cc1, hv⟩ := Kd.N_slice h1; subst hv; have H0 := Aside0.mk h0; have H1 := Aside0.mk h1; clear h0 h1; have HB := Aside0.mk (And.intro HS.out.bel.size (blk_lt (HS.out.at_ 0 rfl))); have HSO := Aside0.mk (show ∀ p ∈ _, p.1 < w1.heap.size from fun p hp => blk_lt (HS.out.blk p hp)); have HS := Aside0.mk (HS.out.step hb); (try clear x0 x1 y0 y1 z0 z1 f0 f1); have x0 : w2.cell? ⟨w.heap.size, 0, none⟩ = some (.int .i64 a0_0) := (blk_cell (HS.out.at_ 2 rfl) 0).trans rfl; have x1 : w2.cell? ⟨w.heap.size, 1, none⟩ = some (.bool a0_1) := (blk_cell (HS.out.at_ 2 rfl) 1).trans rfl; have y0 : w2.cell? ⟨w.heap.size + 1, 0, none⟩ = some (.slice A1_0 l1_0.length c1_0) := (blk_cell (HS.out.at_ 1 rfl) 0).trans rfl; have y1 : w2.cell? ⟨w.heap.size + 1, 1, none⟩ = some (.slice A1_1 l1_1.length c1_1) := (blk_cell (HS.out.at_ 1 rfl) 1).trans rfl; have z0 : w2.cell? ⟨w.heap.size + 1 + 1, 0, none⟩ = some (.slice none 0 0) := (blk_cell (HS.out.at_ 0 rfl) 0).trans rfl; have z1 : w2.cell? ⟨w.heap.size + 1 + 1, 1, none⟩ = some (.slice none 0 0) := (blk_cell (HS.out.at_ 0 rfl) 1).trans rfl; have f0 := blk_frozen (HS.out.at_ 0 rfl) 0; have f1 := blk_frozen (HS.out.at_ 0 rfl) 1)
 by_cases c0 : l1_0.length = 0
 ·rw [if_pos c0] at h; have c0b : ((l1_0.length : Int) == 0) = true := by simp; exact List.eq_nil_of_length_eq_zero c0
  clear c0
  simp only [Option.some.injEq, Prod.mk.injEq] at h; obtain ⟨rfl, rfl, rfl⟩ := h
  have HG := Aside0.mk (HS.out.cons #[.slice Ac0 l1_0.length cc0, .slice Ac1 y2_.length cc1] 25); have H0 := Aside0.mk (Kd.R_alloc H0.out (.cells #[.slice Ac0 l1_0.length cc0, .slice Ac1 y2_.length cc1] 25)); have H1 := Aside0.mk (Kd.N_alloc H1.out (.cells #[.slice Ac0 l1_0.length cc0, .slice Ac1 y2_.length cc1] 25)); (try clear x0 x1 y0 y1 z0 z1 f0 f1); clear HS
  generalize w2.alloc (.cells #[.slice Ac0 l1_0.length cc0, .slice Ac1 y2_.length cc1] 25) = W3 at HG H0 H1 ⊢; generalize w2.heap.size = go at HG ⊢
  have o0 : W3.cell? ⟨go, 0, none⟩ = some (.slice Ac0 l1_0.length cc0) := (blk_cell (HG.out.at_ 0 rfl) 0).trans rfl; have o1 : W3.cell? ⟨go, 1, none⟩ = some (.slice Ac1 y2_.length cc1) := (blk_cell (HG.out.at_ 0 rfl) 1).trans rfl; have y0 : W3.cell? ⟨w.heap.size + 1, 0, none⟩ = some (.slice A1_0 l1_0.length c1_0) := (blk_cell (HG.out.at_ 2 rfl) 0).trans rfl; have y1 : W3.cell? ⟨w.heap.size + 1, 1, none⟩ = some (.slice A1_1 l1_1.length c1_1) := (blk_cell (HG.out.at_ 2 rfl) 1).trans rfl; have z0 : W3.cell? ⟨w.heap.size + 1 + 1, 0, none⟩ = some (.slice none 0 0) := (blk_cell (HG.out.at_ 1 rfl) 0).trans rfl; have z1 : W3.cell? ⟨w.heap.size + 1 + 1, 1, none⟩ = some (.slice none 0 0) := (blk_cell (HG.out.at_ 1 rfl) 1).trans rfl; have f0 := blk_frozen (HG.out.at_ 1 rfl) 0; have f1 := blk_frozen (HG.out.at_ 1 rfl) 1
  go_wp2_with (fail)
  all_goals (refine bodyPost_ret (results_ct rfl _ _ (w.heap.size + 1 + 1) 25 #[.slice Ac0 l1_0.length cc0, .slice Ac1 y2_.length cc1] (0, 0) _ rfl (hf_z2 (HG.out.at_ 1 rfl) _ _) Try.underlying25 rfl (by kernel_rfl)) rfl ?_; exact ⟨_, _, rfl, fo_ret HG.out (List.mem_of_getElem? (i := 1) rfl) HB.out.1 HB.out.2 H0.out H1.out (fun k_ hk => ⟨Nat.ne_of_lt (Nat.lt_of_lt_of_le hk.2 (Nat.le_add_right _ 2)), Or.inl hk.1⟩)⟩)
 rw [if_neg c0] at h; have c0b : ((l1_0.length : Int) == 0) = false := by simp; exact fun e => c0 (by rw [e]; rfl)
 by_cases cl : l1_0.length < 17592186044416
 rotate_left
 ·rw [if_neg cl] at h; cases h
 rw [if_pos cl] at h
 have HA := Aside0.mk (show fold_axis.f l1_0 l1_1 a2 = some ((fold_Scan.ax l1_0 a2 : Nat) : Int) from by unfold fold_axis.f fold_Scan.ax; split; exact congrArg some (by unfold wrap64; omega); rfl)
 generalize fold_Scan.ax l1_0 a2 = a at HA h
 obtain ⟨gs, cap, hv, _, _, cur, hcur⟩ := Kd.R_form H0.out (Nat.pos_of_ne_zero c0); injection hv with hv1 hv3 hv2; clear hv3; subst hv1 hv2
 have HNE := Aside0.mk (show w.heap.size + 1 + 1 ≠ gs from Nat.ne_of_lt (Nat.lt_of_lt_of_le HB.out.2 (H0.out.1 gs (by simp [Value.ownBlock]))))
 have HX := Aside0.mk (fo_hold (Kd.R_mono (Kd.R_lower H0.out HB.out.1) (fun k_ hk => Nat.le_trans HB.out.1 hk)) hcur)
 have HGS := Aside0.mk (show w1.heap.size ≤ gs from H0.out.1 gs (by simp [Value.ownBlock]))
 have HP := Aside0.mk (show ∀ p ∈ [(gs, cur, 3), (w.heap.size + 1 + 1, #[.slice none 0 0, .slice none 0 0], 25), (w.heap.size + 1, #[.slice A1_0 l1_0.length c1_0, .slice A1_1 l1_1.length c1_1], 25), (w.heap.size, #[.int .i64 a0_0, .bool a0_1], 32)], p.1 < w1.heap.size ∨ p.1 = gs from fun p hp => by rcases List.mem_cons.1 hp with rfl | hp; exact Or.inr rfl; exact Or.inl (HSO.out p hp))
 have HT := Aside0.mk (show OutN w (w2.alloc (.cells #[.slice (some ⟨gs, 0, none⟩) l1_0.length cc0, .slice Ac1 y2_.length cc1] 25)) [(gs, cur, 3), (w.heap.size + 1 + 1, #[.slice none 0 0, .slice none 0 0], 25), (w.heap.size + 1, #[.slice A1_0 l1_0.length c1_0, .slice A1_1 l1_1.length c1_1], 25), (w.heap.size, #[.int .i64 a0_0, .bool a0_1], 32)] P1_1_ w2.heap.size (.slice (some ⟨gs, 0, none⟩) l1_0.length cc0) (.slice Ac1 y2_.length cc1) (.slice Ac1 y2_.length cc1) y2_ from OutN.mk1 (HS.out.addB (Nat.le_trans HB.out.1 HGS.out) hcur) _ (Kd.N_mono (Kd.N_lower H1.out HB.out.1) (fun k_ hk => ⟨hk.1.elim Or.inl (fun h => Or.inr (Nat.le_trans HB.out.1 h)), fun p hp e => (HP.out p hp).elim (fun h => hk.1.elim (fun h2 => absurd ((HS.out.addB (Nat.le_trans HB.out.1 HGS.out) hcur).fr p hp) (by rw [← e]; exact Nat.not_le_of_lt h2.2)) (fun h2 => absurd h (by rw [← e]; exact Nat.not_lt_of_le h2))) (fun h => hk.2 (by rw [e, h]; simp [Value.ownBlock]))⟩)))
 (try clear x0 x1 y0 y1 z0 z1 f0 f1); clear HS HGS HB H0 H1 HP HSO hcur c0 cl
 generalize w2.alloc (.cells #[.slice (some ⟨gs, 0, none⟩) l1_0.length cc0, .slice Ac1 y2_.length cc1] 25) = W3 at HT ⊢; generalize w2.heap.size = go at HT ⊢
 have o0 : W3.cell? ⟨go, 0, none⟩ = some (.slice (some ⟨gs, 0, none⟩) l1_0.length cc0) := (blk_cell (HT.out.bx.at_ 0 rfl) 0).trans rfl; have o1 : W3.cell? ⟨go, 1, none⟩ = some (.slice Ac1 y2_.length cc1) := (blk_cell (HT.out.bx.at_ 0 rfl) 1).trans rfl; have x0 : W3.cell? ⟨w.heap.size, 0, none⟩ = some (.int .i64 a0_0) := (blk_cell (HT.out.bx.at_ 4 rfl) 0).trans rfl; have x1 : W3.cell? ⟨w.heap.size, 1, none⟩ = some (.bool a0_1) := (blk_cell (HT.out.bx.at_ 4 rfl) 1).trans rfl; have y0 : W3.cell? ⟨w.heap.size + 1, 0, none⟩ = some (.slice A1_0 l1_0.length c1_0) := (blk_cell (HT.out.bx.at_ 3 rfl) 0).trans rfl; have y1 : W3.cell? ⟨w.heap.size + 1, 1, none⟩ = some (.slice A1_1 l1_1.length c1_1) := (blk_cell (HT.out.bx.at_ 3 rfl) 1).trans rfl; have z0 : W3.cell? ⟨w.heap.size + 1 + 1, 0, none⟩ = some (.slice none 0 0) := (blk_cell (HT.out.bx.at_ 2 rfl) 0).trans rfl; have z1 : W3.cell? ⟨w.heap.size + 1 + 1, 1, none⟩ = some (.slice none 0 0) := (blk_cell (HT.out.bx.at_ 2 rfl) 1).trans rfl; have f0 := blk_frozen (HT.out.bx.at_ 2 rfl) 0; have f1 := blk_frozen (HT.out.bx.at_ 2 rfl) 1
 have H := Aside0.mk h; clear h
 go_upto_region 7 with (fail)
 refine start_ (n := 13) (S := fun W' => Below W3.drew.heap.size W3.drew W') (ds := []) #[false, false, false, false, false, false, false, false, false, false, false, false, false] (by kernel_rfl) rfl rfl (Below.refl _ _) (fun hHeld => ?_)
 refine with_tabW fold_Scan.tab7 fold_Scan.bits7 (fun HT_ HW_ => ?_)
 have HT := Aside0.mk (HT.out.step (below_drew (Below.refl _ _))); (try clear x0 x1 y0 y1 z0 z1 f0 f1 o0 o1); generalize W3.drew = Wr at HT hHeld ⊢
 refine pure_ (i := 0) (N := some 36) (v := ?_) (a' := ?_) #[true, false, false, false, false, false, false, false, false, false, false, false, false] rfl rfl (any_of HT_.out (by kernel_rfl)) (fun _ _ _ h => h) (Or.inl ⟨by rfl, ?_⟩) ?_ ?_; rotate_left
 ·intro w'; go_simp; with_reducible rfl
 rotate_left
 ·simp only [Act.put, List.setIfInBounds_toArray, List.set_cons_zero, List.set_cons_succ, i64_w, i32_w]; rfl
 refine take_ (i := 1) (N := some 37) (v := ?_) (a' := ?_) #[true, true, false, false, false, false, false, false, false, false, false, false, false] rfl rfl (take_ofW HT_.out HW_.out (by kernel_rfl)) (fun _ _ _ h => h) (Or.inl ⟨by rfl, ?_⟩) hHeld ?_ ?_; rotate_left
 ·intro w' s0; have y0 : w'.cell? ⟨w.heap.size + 1, 0, none⟩ = some (.slice A1_0 l1_0.length c1_0) := (blk_cell ((HT.out.step s0).bx.at_ 3 rfl) 0).trans rfl; have y1 : w'.cell? ⟨w.heap.size + 1, 1, none⟩ = some (.slice A1_1 l1_1.length c1_1) := (blk_cell ((HT.out.step s0).bx.at_ 3 rfl) 1).trans rfl; go_simp; with_reducible rfl
 rotate_left
 ·simp only [Act.put, List.setIfInBounds_toArray, List.set_cons_zero, List.set_cons_succ, i64_w, i32_w]; rfl
 refine take_ (i := 2) (N := some 38) (v := ?_) (a' := ?_) #[true, true, true, false, false, false, false, false, false, false, false, false, false] rfl rfl (take_ofW HT_.out HW_.out (by kernel_rfl)) (fun _ _ _ h => h) (Or.inl ⟨by rfl, ?_⟩) hHeld ?_ ?_; rotate_left
 ·intro w' s0; have y0 : w'.cell? ⟨w.heap.size + 1, 0, none⟩ = some (.slice A1_0 l1_0.length c1_0) := (blk_cell ((HT.out.step s0).bx.at_ 3 rfl) 0).trans rfl; have y1 : w'.cell? ⟨w.heap.size + 1, 1, none⟩ = some (.slice A1_1 l1_1.length c1_1) := (blk_cell ((HT.out.step s0).bx.at_ 3 rfl) 1).trans rfl; go_simp; with_reducible rfl
 rotate_left
 ·simp only [Act.put, List.setIfInBounds_toArray, List.set_cons_zero, List.set_cons_succ, i64_w, i32_w]; rfl
 refine pure_ (i := 3) (N := some 39) (v := ?_) (a' := ?_) #[true, true, true, true, false, false, false, false, false, false, false, false, false] rfl rfl (any_of HT_.out (by kernel_rfl)) (fun _ _ _ h => h) (Or.inl ⟨by rfl, ?_⟩) ?_ ?_; rotate_left
 ·intro w'; go_simp; with_reducible rfl
 rotate_left
 ·simp only [Act.put, List.setIfInBounds_toArray, List.set_cons_zero, List.set_cons_succ, i64_w, i32_w]; rfl
 have h := H.out; unfold fold_Scan.g at h; clear H
 obtain ⟨⟨O, T, G⟩, ql, h⟩ := Option.bind_eq_some_iff.1 h; have QL := Aside0.mk ql; clear ql; dsimp only at h
 by_cases co : O ≤ 9223372036854775807 ∧ T ≤ 9223372036854775807
 rotate_left
 ·rw [if_neg co] at h; cases h
 rw [if_pos co] at h; have CO := Aside0.mk co; clear co
 obtain ⟨rr, qi, h⟩ := Option.bind_eq_some_iff.1 h; have QI := Aside0.mk qi; have H := Aside0.mk h; clear qi h
 refine one_ (i := 4) (N := some 40) #[true, true, true, true, true, false, false, false, false, false, false, false, false] rfl rfl (one_of HT_.out (by kernel_rfl)) (by decide) (fun K hK => ?_)
 refine goes_ Try.func27 (by kernel_rfl) rfl #[.agg #[.slice A1_0 l1_0.length c1_0, .slice A1_1 l1_1.length c1_1], .bool a2] (by rfl) rfl rfl (by first | rfl | (simp only [List.map_toArray, List.map_cons, List.map_nil]; rfl)) ?_
 refine (fold_axis.calls _ _ l1_0 _ _ l1_1 a2 (a : Int) _ (Kd.C_below HR.out.1 HT.out.bx.bel) HR.out.2 (Kd.C_below (Kd.V_reads' HV.out).2.2 HT.out.bx.bel) (Kd.V_reads' HV.out).2.1 HA.out).mono ?_; rintro e w4 ⟨rfl, hb⟩; refine ⟨_, rfl, ?_⟩; have HT := Aside0.mk (HT.out.step hb)
 refine hK.out _ _ (hHeld.trans (hb.mono hHeld.size)) (fun hHeld => ?_); clear hK K
 refine norm_ (a' := ?_) ?_ ?_; rotate_left
 ·show Act.put _ (some 40) _ = _
  simp only [Act.put, List.setIfInBounds_toArray, List.set_cons_zero, List.set_cons_succ, i64_w, i32_w]; rfl
 clear hb
 refine one_ (i := 5) (N := some 41) #[true, true, true, true, true, true, false, false, false, false, false, false, false] rfl rfl (one_of HT_.out (by kernel_rfl)) (by decide) (fun K hK => ?_)
 refine goes_ Try.func31 (by kernel_rfl) rfl #[.slice A1_0 l1_0.length c1_0, .int .i64 (a : Int)] (by rfl) rfl rfl (by first | rfl | (simp only [List.map_toArray, List.map_cons, List.map_nil]; rfl)) ?_
 refine (fold_lines.calls _ _ l1_0 (a : Int) O T G _ (Kd.C_below HR.out.1 HT.out.bx.bel) HR.out.2 QL.out).mono ?_; rintro e w5 ⟨rfl, hb⟩; refine ⟨_, rfl, ?_⟩; have HT := Aside0.mk (HT.out.step hb.below)
 refine hK.out _ _ (hHeld.trans (hb.below.mono hHeld.size)) (fun hHeld => ?_); clear hK K
 refine norm_ (a' := ?_) ?_ ?_; rotate_left
 ·show Act.put _ (some 41) _ = _
  simp only [Act.put, List.setIfInBounds_toArray, List.set_cons_zero, List.set_cons_succ, i64_w, i32_w]; rfl
 clear hb hHeld
 refine pure_ (i := 6) (N := some 35) (v := ?_) (a' := ?_) #[true, true, true, true, true, true, true, false, false, false, false, false, false] rfl rfl (any_of HT_.out (by kernel_rfl)) (fun _ _ _ h => h) (Or.inl ⟨by rfl, ?_⟩) ?_ ?_; rotate_left
 ·intro w'; go_simp; with_reducible rfl
 rotate_left
 ·simp only [Act.put, List.setIfInBounds_toArray, List.set_cons_zero, List.set_cons_succ, i64_w, i32_w]; rfl
 refine pure_ (i := 7) (N := some 42) (v := ?_) (a' := ?_) #[true, true, true, true, true, true, true, true, false, false, false, false, false] rfl rfl (any_of HT_.out (by kernel_rfl)) (fun _ _ _ h => h) (Or.inl ⟨by rfl, ?_⟩) ?_ ?_; rotate_left
 ·intro w'; go_simp; with_reducible rfl
 rotate_left
 ·simp only [Act.put, List.setIfInBounds_toArray, List.set_cons_zero, List.set_cons_succ, i64_w, i32_w]; rfl
 refine pure_ (i := 8) (N := some 43) (v := ?_) (a' := ?_) #[true, true, true, true, true, true, true, true, true, false, false, false, false] rfl rfl (any_of HT_.out (by kernel_rfl)) (fun _ _ _ h => h) (Or.inl ⟨by rfl, ?_⟩) ?_ ?_; rotate_left
 ·intro w'; go_simp; with_reducible rfl
 rotate_left
 ·simp only [Act.put, List.setIfInBounds_toArray, List.set_cons_zero, List.set_cons_succ, i64_w, i32_w]; rfl
 refine pure_ (i := 9) (N := some 44) (v := ?_) (a' := ?_) #[true, true, true, true, true, true, true, true, true, true, false, false, false] rfl rfl (any_of HT_.out (by kernel_rfl)) (fun _ _ _ h => h) (Or.inl ⟨by rfl, ?_⟩) ?_ ?_; rotate_left
 ·intro w'; go_simp; with_reducible rfl
 rotate_left
 ·simp only [Act.put, List.setIfInBounds_toArray, List.set_cons_zero, List.set_cons_succ, i64_w, i32_w]; rfl
 refine pure_ (i := 10) (N := some 10) (v := ?_) (a' := ?_) #[true, true, true, true, true, true, true, true, true, true, true, false, false] rfl rfl (any_of HT_.out (by kernel_rfl)) (fun _ _ _ h => h) (Or.inl ⟨by rfl, ?_⟩) ?_ ?_; rotate_left
 ·intro w'; go_simp; with_reducible rfl
 rotate_left
 ·simp only [Act.put, List.setIfInBounds_toArray, List.set_cons_zero, List.set_cons_succ, i64_w, i32_w]; rfl
 refine pure_ (i := 11) (N := some 11) (v := ?_) (a' := ?_) #[true, true, true, true, true, true, true, true, true, true, true, true, false] rfl rfl (any_of HT_.out (by kernel_rfl)) (fun _ _ _ h => h) (Or.inl ⟨by rfl, ?_⟩) ?_ ?_; rotate_left
 ·intro w'; go_simp; with_reducible rfl
 rotate_left
 ·simp only [Act.put, List.setIfInBounds_toArray, List.set_cons_zero, List.set_cons_succ, i64_w, i32_w]; rfl
 refine pure_ (i := 12) (N := some 12) (v := ?_) (a' := ?_) #[true, true, true, true, true, true, true, true, true, true, true, true, true] rfl rfl (any_of HT_.out (by kernel_rfl)) (fun _ _ _ h => h) (Or.inl ⟨by rfl, ?_⟩) ?_ ?_; rotate_left
 ·intro w'; go_simp; with_reducible rfl
 rotate_left
 ·simp only [Act.put, List.setIfInBounds_toArray, List.set_cons_zero, List.set_cons_succ, i64_w, i32_w]; rfl
 refine done_ (done_of HT_.out (by kernel_rfl)) ?_
 try clear HT_ HW_
 go_wp2_with (fail)
 go_loopg [46] O.toNat (fun kq v46 W' => ∃ (i : Nat) (acc : List (S43)), v46 = .int .i64 (i : Int) ∧ Aside0 (i + kq = O.toNat) ∧ Aside0 (fold_Scan.li k a0_0 a0_1 l1_1 T G kq i acc = some rr) ∧ Aside0 (OutN w W' [(gs, cur, 3), (w.heap.size + 1 + 1, #[.slice none 0 0, .slice none 0 0], 25), (w.heap.size + 1, #[.slice A1_0 l1_0.length c1_0, .slice A1_1 l1_1.length c1_1], 25), (w.heap.size, #[.int .i64 a0_0, .bool a0_1], 32)] P1_1_ go (.slice (some ⟨gs, 0, none⟩) l1_0.length cc0) (.slice Ac1 y2_.length cc1) (.slice Ac1 y2_.length cc1) acc))
 case atStart => exact ⟨0, y2_, rfl, ⟨by omega⟩, QI, HT⟩
 case round =>
  clear QI HT
  obtain ⟨i, acc, rfl, HI, HQ, HT⟩ := hrel
  cases gk with
  | zero =>
   obtain rfl : ((0 : Int), acc) = rr := by have h := HQ.out; simp only [fold_Scan.li, Option.some.injEq] at h; exact h
   have h := H.out; rw [if_pos rfl] at h
   simp only [Option.some.injEq, Prod.mk.injEq] at h; obtain ⟨rfl, rfl, rfl⟩ := h
   have hn : decide ((i : Int) < O) = false := decide_eq_false (by have := HI.out; omega)
   have o0 : wr.cell? ⟨go, 0, none⟩ = some (.slice (some ⟨gs, 0, none⟩) l1_0.length cc0) := (blk_cell (HT.out.bx.at_ 0 rfl) 0).trans rfl; have o1 : wr.cell? ⟨go, 1, none⟩ = some (.slice Ac1 y2_.length cc1) := (blk_cell (HT.out.bx.at_ 0 rfl) 1).trans rfl; have x0 : wr.cell? ⟨w.heap.size, 0, none⟩ = some (.int .i64 a0_0) := (blk_cell (HT.out.bx.at_ 4 rfl) 0).trans rfl; have x1 : wr.cell? ⟨w.heap.size, 1, none⟩ = some (.bool a0_1) := (blk_cell (HT.out.bx.at_ 4 rfl) 1).trans rfl; have y0 : wr.cell? ⟨w.heap.size + 1, 0, none⟩ = some (.slice A1_0 l1_0.length c1_0) := (blk_cell (HT.out.bx.at_ 3 rfl) 0).trans rfl; have y1 : wr.cell? ⟨w.heap.size + 1, 1, none⟩ = some (.slice A1_1 l1_1.length c1_1) := (blk_cell (HT.out.bx.at_ 3 rfl) 1).trans rfl; have z0 : wr.cell? ⟨w.heap.size + 1 + 1, 0, none⟩ = some (.slice none 0 0) := (blk_cell (HT.out.bx.at_ 2 rfl) 0).trans rfl; have z1 : wr.cell? ⟨w.heap.size + 1 + 1, 1, none⟩ = some (.slice none 0 0) := (blk_cell (HT.out.bx.at_ 2 rfl) 1).trans rfl; have f0 := blk_frozen (HT.out.bx.at_ 2 rfl) 0; have f1 := blk_frozen (HT.out.bx.at_ 2 rfl) 1
   go_wp2_with (fail)
   refine bodyPost_ret (results_ct rfl _ _ (w.heap.size + 1 + 1) 25 #[.slice (some ⟨gs, 0, none⟩) l1_0.length cc0, .slice Ac1 y2_.length cc1] (0, 0) _ rfl (hf_z2 (HT.out.bx.at_ 2 rfl) _ _) Try.underlying25 rfl (by kernel_rfl)) rfl ?_; exact ⟨_, _, rfl, fo_ret2 HT.out HX.out (List.mem_of_getElem? (i := 0) rfl) HNE.out⟩
  | succ m0 =>
   have hn : decide ((i : Int) < O) = true := decide_eq_true (by have := HI.out; omega)
   have h := HQ.out; rw [fold_Scan.li] at h; obtain ⟨rj, qj, h⟩ := Option.bind_eq_some_iff.1 h; have QJ := Aside0.mk qj; have HQ := Aside0.mk h; clear qj h
   have HWI : Aside0 (wrap64 ((i : Int) + 1) = ((i + 1 : Nat) : Int)) := ⟨by have := HI.out; have := CO.out.1; unfold wrap64; omega⟩
   go_wp2_with (fail)
   go_loopg [50] T.toNat (fun kq v50 W' => ∃ (j : Nat) (acc : List (S43)), v50 = .int .i64 (j : Int) ∧ Aside0 (j + kq = T.toNat) ∧ Aside0 (fold_Scan.lj k a0_0 a0_1 l1_1 T G i kq j acc = some rj) ∧ Aside0 (OutN w W' [(gs, cur, 3), (w.heap.size + 1 + 1, #[.slice none 0 0, .slice none 0 0], 25), (w.heap.size + 1, #[.slice A1_0 l1_0.length c1_0, .slice A1_1 l1_1.length c1_1], 25), (w.heap.size, #[.int .i64 a0_0, .bool a0_1], 32)] P1_1_ go (.slice (some ⟨gs, 0, none⟩) l1_0.length cc0) (.slice Ac1 y2_.length cc1) (.slice Ac1 y2_.length cc1) acc))
   case atStart => exact ⟨0, acc, rfl, ⟨by omega⟩, QJ, HT⟩
   case round =>
    clear QJ HT
    obtain ⟨j, acc, rfl, HJ, QJ, HT⟩ := hrel
    cases gk with
    | zero =>
     obtain rfl : ((0 : Int), acc) = rj := by have h := QJ.out; simp only [fold_Scan.lj, Option.some.injEq] at h; exact h
     have h := HQ.out; rw [if_pos rfl] at h; have HQ := Aside0.mk h; clear h
     have hnj : decide ((j : Int) < T) = false := decide_eq_false (by have := HJ.out; omega)
     go_wp2_with (fail)
     go_roundg m0; (case measure => omega)
     case rel => exact ⟨i + 1, acc, congrArg (Value.int .i64) HWI.out, ⟨by have := HI.out; omega⟩, HQ, HT⟩
    | succ q0 =>
     have hnj : decide ((j : Int) < T) = true := decide_eq_true (by have := HJ.out; omega)
     have h := QJ.out; rw [fold_Scan.lj] at h; obtain ⟨x, qx, h⟩ := Option.bind_eq_some_iff.1 h; have QX := Aside0.mk qx; clear qx; obtain ⟨rk, qk, h⟩ := Option.bind_eq_some_iff.1 h; have QK := Aside0.mk qk; have H5 := Aside0.mk h; clear qk h QJ
     have HWJ : Aside0 (wrap64 ((j : Int) + 1) = ((j + 1 : Nat) : Int)) := ⟨by have := HJ.out; have := CO.out.2; unfold wrap64; omega⟩
     have HAT : wrap64 (wrap64 (wrap64 ((i : Int) * T) * G) + (j : Int)) = fold_Scan.at_ T G i j := rfl
     generalize fold_Scan.at_ T G i j = at0 at HAT QX QK
     have HE := Aside0.mk (And.intro HT.out.elder HT.out.fresh)
     have HLE := Aside0.mk HT.out.bx.bel.size
     have o0 : wr.cell? ⟨go, 0, none⟩ = some (.slice (some ⟨gs, 0, none⟩) l1_0.length cc0) := (blk_cell (HT.out.bx.at_ 0 rfl) 0).trans rfl; have o1 : wr.cell? ⟨go, 1, none⟩ = some (.slice Ac1 y2_.length cc1) := (blk_cell (HT.out.bx.at_ 0 rfl) 1).trans rfl; have x0 : wr.cell? ⟨w.heap.size, 0, none⟩ = some (.int .i64 a0_0) := (blk_cell (HT.out.bx.at_ 4 rfl) 0).trans rfl; have x1 : wr.cell? ⟨w.heap.size, 1, none⟩ = some (.bool a0_1) := (blk_cell (HT.out.bx.at_ 4 rfl) 1).trans rfl; have y0 : wr.cell? ⟨w.heap.size + 1, 0, none⟩ = some (.slice A1_0 l1_0.length c1_0) := (blk_cell (HT.out.bx.at_ 3 rfl) 0).trans rfl; have y1 : wr.cell? ⟨w.heap.size + 1, 1, none⟩ = some (.slice A1_1 l1_1.length c1_1) := (blk_cell (HT.out.bx.at_ 3 rfl) 1).trans rfl; have z0 : wr.cell? ⟨w.heap.size + 1 + 1, 0, none⟩ = some (.slice none 0 0) := (blk_cell (HT.out.bx.at_ 2 rfl) 0).trans rfl; have z1 : wr.cell? ⟨w.heap.size + 1 + 1, 1, none⟩ = some (.slice none 0 0) := (blk_cell (HT.out.bx.at_ 2 rfl) 1).trans rfl; have f0 := blk_frozen (HT.out.bx.at_ 2 rfl) 0; have f1 := blk_frozen (HT.out.bx.at_ 2 rfl) 1
     go_upto_region 16 with (go_at_call 33; (with_reducible refine (fold_line.calls k (fun k_ => P1_1_ k_ ∧ k_ < w.heap.size) _ _ l1_1 at0 T G x _ (by exact Kd.V_below HV.out HT.out.bx.bel) QX.out).mono ?_); rintro e w6 ⟨vl, rfl, hN, hb⟩; obtain ⟨Al, cl, hv⟩ := Kd.N_slice hN; subst hv; have HN := Aside0.mk (Kd.N_bound hN); have HT := Aside0.mk (HT.out.step hb); have HLW := Aside0.mk hb.size; clear hN hb; (try clear x0 x1 y0 y1 z0 z1 f0 f1 o0 o1); have o0 : w6.cell? ⟨go, 0, none⟩ = some (.slice (some ⟨gs, 0, none⟩) l1_0.length cc0) := (blk_cell (HT.out.bx.at_ 0 rfl) 0).trans rfl; have o1 : w6.cell? ⟨go, 1, none⟩ = some (.slice Ac1 y2_.length cc1) := (blk_cell (HT.out.bx.at_ 0 rfl) 1).trans rfl; have x0 : w6.cell? ⟨w.heap.size, 0, none⟩ = some (.int .i64 a0_0) := (blk_cell (HT.out.bx.at_ 4 rfl) 0).trans rfl; have x1 : w6.cell? ⟨w.heap.size, 1, none⟩ = some (.bool a0_1) := (blk_cell (HT.out.bx.at_ 4 rfl) 1).trans rfl; have y0 : w6.cell? ⟨w.heap.size + 1, 0, none⟩ = some (.slice A1_0 l1_0.length c1_0) := (blk_cell (HT.out.bx.at_ 3 rfl) 0).trans rfl; have y1 : w6.cell? ⟨w.heap.size + 1, 1, none⟩ = some (.slice A1_1 l1_1.length c1_1) := (blk_cell (HT.out.bx.at_ 3 rfl) 1).trans rfl; have z0 : w6.cell? ⟨w.heap.size + 1 + 1, 0, none⟩ = some (.slice none 0 0) := (blk_cell (HT.out.bx.at_ 2 rfl) 0).trans rfl; have z1 : w6.cell? ⟨w.heap.size + 1 + 1, 1, none⟩ = some (.slice none 0 0) := (blk_cell (HT.out.bx.at_ 2 rfl) 1).trans rfl; have f0 := blk_frozen (HT.out.bx.at_ 2 rfl) 0; have f1 := blk_frozen (HT.out.bx.at_ 2 rfl) 1)
     have HN := Aside0.mk (show Kd.N k43 43 w6 w.heap.size (fun k_ => ((P1_1_ k_ ∧ k_ < w.heap.size) ∨ wr.heap.size ≤ k_) ∧ k_ < w6.heap.size) (.slice Al x.length cl) x from Kd.N_lower HN.out HLE.out)
     generalize wr.heap.size = B0 at HE HN HLE HLW; generalize hB1 : w6.heap.size = B1 at HN HLW; have HB01 := HLW; clear HLW
     have HB1 := Aside0.mk (Nat.le_of_eq hB1.symm); clear hB1
     go_wp2_with (fail)
     go_loopg [17] (x.length - 1) (fun kq v17 W' => ∃ (m : Nat) (acc : List (S43)), v17 = .int .i64 (m : Int) ∧ Aside0 (kq = x.length - m ∧ 1 ≤ m) ∧ Aside0 (fold_Scan.lk k a0_0 a0_1 x T at0 kq m acc = some rk) ∧ Aside0 (OutN w W' [(gs, cur, 3), (w.heap.size + 1 + 1, #[.slice none 0 0, .slice none 0 0], 25), (w.heap.size + 1, #[.slice A1_0 l1_0.length c1_0, .slice A1_1 l1_1.length c1_1], 25), (w.heap.size, #[.int .i64 a0_0, .bool a0_1], 32)] P1_1_ go (.slice (some ⟨gs, 0, none⟩) l1_0.length cc0) (.slice Ac1 y2_.length cc1) (.slice Ac1 y2_.length cc1) acc) ∧ Aside0 (Kd.N k43 43 W' w.heap.size (fun k_ => ((P1_1_ k_ ∧ k_ < w.heap.size) ∨ B0 ≤ k_) ∧ k_ < B1) (.slice Al x.length cl) x) ∧ Aside0 (B1 ≤ W'.heap.size))
     case atStart => exact ⟨1, acc, rfl, ⟨rfl, Nat.le_refl _⟩, QK, HT, HN, HB1⟩
     case round =>
      clear QK HT HN HB1 x0 x1 y0 y1 z0 z1 f0 f1 o0 o1
      obtain ⟨m, acc, rfl, HM0, QK, HT, HN, HB1⟩ := hrel
      cases gk with
      | zero =>
       obtain rfl : ((0 : Int), acc) = rk := by have h := QK.out; simp only [fold_Scan.lk, Option.some.injEq] at h; exact h
       have h := H5.out; rw [if_pos rfl] at h; have QJ := Aside0.mk h; clear h
       have hnm : ¬ m < x.length := (by have := HM0.out; omega)
       go_wp2_with (fail)
       go_roundg q0; (case measure => omega)
       case rel => exact ⟨j + 1, acc, congrArg (Value.int .i64) HWJ.out, ⟨by have := HJ.out; omega⟩, QJ, HT⟩
      | succ q =>
       have HXL := Aside0.mk (show x.length ≤ 9223372036854775807 ∧ x.length ≤ cl ∧ m < x.length ∧ 1 ≤ m from ⟨by have := (Kd.N_reads' HN.out).2.2.2.1; omega, (Kd.N_reads' HN.out).2.1, by have := HM0.out; omega, HM0.out.2⟩)
       have hnm : m < x.length := HXL.out.2.2.1
       have hwm : wrap64 ((m : Int) + 1) = ((m + 1 : Nat) : Int) := (by have := HXL.out; unfold wrap64; omega)
       have HWM := Aside0.mk hwm
       have hs0 : (0 : Int) ≤ (m : Int) + 1 := (by omega); have hs1 : (m : Int) + 1 ≤ (cl : Int) := (by have := HXL.out; omega)
       have h := QK.out; rw [fold_Scan.lk] at h; obtain ⟨⟨b1, b2, b3, b4⟩, qb, h⟩ := Option.bind_eq_some_iff.1 h; have QB := Aside0.mk qb; clear qb QK; dsimp only at h; have H6 := Aside0.mk h; clear h
       have HTK := Aside0.mk (Kd.N_V (base' := 0) (Kd.N_take HN.out (m := m + 1) (by have := HXL.out; omega)))
       go_upto_region 19 with (fail)
       refine start_ (n := 12) (S := fun W' => Below wr.drew.heap.size wr.drew W') (ds := []) #[false, false, false, false, false, false, false, false, false, false, false, false] (by kernel_rfl) rfl rfl (Below.refl _ _) (fun hHeld => ?_)
       refine with_tabW fold_Scan.tab19 fold_Scan.bits19 (fun HT_ HW_ => ?_)
       have HT := Aside0.mk (HT.out.step (below_drew (Below.refl _ _))); have HN := Aside0.mk (Kd.N_drew HN.out); have HTK := Aside0.mk (Kd.V_drew HTK.out); have HB1 : Aside0 (B1 ≤ wr.drew.heap.size) := ⟨Nat.le_trans HB1.out (below_drew (Below.refl 0 wr)).size⟩
       generalize wr.drew = Wr at HT HN HTK HB1 hHeld ⊢
       refine take_ (i := 0) (N := some 73) (v := ?_) (a' := ?_) #[true, false, false, false, false, false, false, false, false, false, false, false] rfl rfl (take_ofW HT_.out HW_.out (by kernel_rfl)) (fun _ _ _ h => h) (Or.inl ⟨by rfl, ?_⟩) hHeld ?_ ?_; rotate_left
       ·intro w' s0; have x0 : w'.cell? ⟨w.heap.size, 0, none⟩ = some (.int .i64 a0_0) := (blk_cell ((HT.out.step s0).bx.at_ 4 rfl) 0).trans rfl; have x1 : w'.cell? ⟨w.heap.size, 1, none⟩ = some (.bool a0_1) := (blk_cell ((HT.out.step s0).bx.at_ 4 rfl) 1).trans rfl; go_simp; with_reducible rfl
       rotate_left
       ·simp only [Act.put, List.setIfInBounds_toArray, List.set_cons_zero, List.set_cons_succ, i64_w, i32_w]; rfl
       refine pure_ (i := 1) (N := some 74) (v := ?_) (a' := ?_) #[true, true, false, false, false, false, false, false, false, false, false, false] rfl rfl (any_of HT_.out (by kernel_rfl)) (fun _ _ _ h => h) (Or.inl ⟨by rfl, ?_⟩) ?_ ?_; rotate_left
       ·intro w'; go_simp; with_reducible rfl
       rotate_left
       ·simp only [Act.put, List.setIfInBounds_toArray, List.set_cons_zero, List.set_cons_succ, i64_w, i32_w]; rfl
       refine pure_ (i := 2) (N := some 75) (v := ?_) (a' := ?_) #[true, true, true, false, false, false, false, false, false, false, false, false] rfl rfl (any_of HT_.out (by kernel_rfl)) (fun _ _ _ h => h) (Or.inl ⟨by rfl, ?_⟩) ?_ ?_; rotate_left
       ·intro w'; go_simp; with_reducible rfl
       rotate_left
       ·simp only [Act.put, List.setIfInBounds_toArray, List.set_cons_zero, List.set_cons_succ, i64_w, i32_w]; rfl
       refine pure_ (i := 3) (N := some 76) (v := ?_) (a' := ?_) #[true, true, true, true, false, false, false, false, false, false, false, false] rfl rfl (any_of HT_.out (by kernel_rfl)) (fun _ _ _ h => h) (Or.inl ⟨by rfl, ?_⟩) ?_ ?_; rotate_left
       ·intro w'; go_simp; with_reducible rfl
       rotate_left
       ·simp only [Act.put, List.setIfInBounds_toArray, List.set_cons_zero, List.set_cons_succ, i64_w, i32_w]; rfl
       refine pure_ (i := 4) (N := some 77) (v := ?_) (a' := ?_) #[true, true, true, true, true, false, false, false, false, false, false, false] rfl rfl (any_of HT_.out (by kernel_rfl)) (fun _ _ _ h => h) (Or.inl ⟨by rfl, ?_⟩) ?_ ?_; rotate_left
       ·intro w'; go_simp; with_reducible rfl
       rotate_left
       ·simp only [Act.put, List.setIfInBounds_toArray, List.set_cons_zero, List.set_cons_succ, i64_w, i32_w]; rfl
       refine join_ (σ := Option Addr × Nat × Nat) 2 #[true, true, true, true, true, true, true, true, true, true, false, false] (fun s_ => [(78, .tuple #[.agg #[.int .i64 b1, .int .i64 b2, .slice s_.1 b3.length s_.2.1], .int .i64 b4]), (72, .tuple #[.agg #[.int .i64 b1, .int .i64 b2, .slice s_.1 b3.length s_.2.1], .int .i64 b4]), (79, .agg #[.int .i64 b1, .int .i64 b2, .slice s_.1 b3.length s_.2.1]), (80, .int .i64 b4), (18, .pointer (some ⟨s_.2.2, 0, none⟩))]) (fun s_ w' => Below Wr.heap.size Wr w' ∧ Kd.V k25 25 w' w.heap.size (fun k_ => ((P1_1_ k_ ∧ k_ < w.heap.size) ∨ B0 ≤ k_) ∧ k_ ≠ s_.2.2) (.slice s_.1 b3.length s_.2.1) b3 ∧ w'.heap[s_.2.2]? = some (.cells #[.int .i64 0, .int .i64 0, .slice none 0 0] 43 (0, 0)) ∧ Wr.heap.size ≤ s_.2.2) ?_ ?_; rotate_left
       ·intro hCont
        refine two_ (i := 5) (j := 9) (Ni := some 78) (Nj := some 18) #[true, true, true, true, true, true, false, false, false, false, false, false] #[true, true, true, true, true, false, false, false, false, true, false, false] rfl rfl rfl rfl (two_of HT_.out (by kernel_rfl)) (by decide) (by decide) (fun K hK => ?_) (fun K hK => ?_)
        ·skip
         refine goes_ Try.func32 (by kernel_rfl) rfl #[.agg #[.int .i64 a0_0, .bool a0_1], .slice Al (m + 1) cl] (by rfl) rfl rfl (by first | rfl | (simp only [List.map_toArray, List.map_cons, List.map_nil]; rfl)) ?_
         refine (fold_Scan.rowc k a0_0 a0_1 (fun k_ => ((P1_1_ k_ ∧ k_ < w.heap.size) ∨ B0 ≤ k_) ∧ k_ < B1) _ _ _ _ b1 b2 b3 b4 _ (by exact Kd.V_below HTK.out hHeld) QB.out).mono ?_; rintro e w7 ⟨v2, rfl, hV, hb⟩; obtain ⟨A3, c3, hv⟩ := Kd.V_slice hV; subst hv; refine ⟨_, rfl, ?_⟩
         have HX2 := Aside0.mk (show Kd.V k25 25 w7 w.heap.size (fun k_ => ((P1_1_ k_ ∧ k_ < w.heap.size) ∨ B0 ≤ k_)) (.slice A3 b3.length c3) b3 from Kd.V_mono hV (fun k_ hk => hk.elim (fun h => h.1) (fun h => Or.inr (Nat.le_trans HB01.out (Nat.le_trans HB1.out (Nat.le_trans hHeld.size h))))))
         clear hV
         have hHeld := hHeld.trans (hb.mono hHeld.size)
         refine hK.out _ _ hHeld (fun hHeld => ?_); clear hK K hb
         refine norm_ (a' := ?_) ?_ ?_; rotate_left
         ·show Act.put _ (some 78) _ = _
          simp only [Act.put, List.setIfInBounds_toArray, List.set_cons_zero, List.set_cons_succ, i64_w, i32_w]; rfl
         refine pure_ (i := 6) (N := some 72) (v := ?_) (a' := ?_) #[true, true, true, true, true, true, true, false, false, false, false, false] rfl rfl (any_of HT_.out (by kernel_rfl)) (fun _ _ _ h => h) (Or.inl ⟨by rfl, ?_⟩) ?_ ?_; rotate_left
         ·intro w'; go_simp; with_reducible rfl
         rotate_left
         ·simp only [Act.put, List.setIfInBounds_toArray, List.set_cons_zero, List.set_cons_succ, i64_w, i32_w]; rfl
         refine pure_ (i := 7) (N := some 79) (v := ?_) (a' := ?_) #[true, true, true, true, true, true, true, true, false, false, false, false] rfl rfl (any_of HT_.out (by kernel_rfl)) (fun _ _ _ h => h) (Or.inl ⟨by rfl, ?_⟩) ?_ ?_; rotate_left
         ·intro w'; go_simp; with_reducible rfl
         rotate_left
         ·simp only [Act.put, List.setIfInBounds_toArray, List.set_cons_zero, List.set_cons_succ, i64_w, i32_w]; rfl
         refine pure_ (i := 8) (N := some 80) (v := ?_) (a' := ?_) #[true, true, true, true, true, true, true, true, true, false, false, false] rfl rfl (any_of HT_.out (by kernel_rfl)) (fun _ _ _ h => h) (Or.inl ⟨by rfl, ?_⟩) ?_ ?_; rotate_left
         ·intro w'; go_simp; with_reducible rfl
         rotate_left
         ·simp only [Act.put, List.setIfInBounds_toArray, List.set_cons_zero, List.set_cons_succ, i64_w, i32_w]; rfl
         refine one_ (i := 9) (N := some 18) #[true, true, true, true, true, true, true, true, true, true, false, false] rfl rfl (one_of HT_.out (by kernel_rfl)) (by decide) (fun K hK => ?_)
         refine box_step ?hg (N := 18) ?hd (cs := #[.int .i64 0, .int .i64 0, .slice none 0 0]) (t := 43) ?hr ?_; (case hd => rfl); (case hg => rfl); (case hr => first | (go_simp; done) | (go_simp; rfl))
         intro g hg w8 hbox hb
         have HX2 := Aside0.mk (Kd.V_below (Kd.V_elderB HX2.out g (Nat.le_of_eq hg.symm)) hb)
         have HG := Aside0.mk hbox; have HM := Aside0.mk (blk_lt hbox); have HL := Aside0.mk (Nat.le_trans hHeld.size (Nat.le_of_eq hg.symm))
         have hHeld := hHeld.trans (hb.mono hHeld.size)
         refine hK.out _ _ hHeld (fun hHeld => ?_); clear hK K hb hbox hg
         refine norm_ (a' := ?_) ?_ ?_; rotate_left
         ·show Act.put _ (some 18) _ = _
          simp only [Act.put, List.setIfInBounds_toArray, List.set_cons_zero, List.set_cons_succ, i64_w, i32_w]; rfl
         exact norm_ (by simp only [putAll, Act.put, List.setIfInBounds_toArray, List.set_cons_zero, List.set_cons_succ]) (hCont (A3, c3, g) _ ⟨hHeld, HX2.out, HG.out, HL.out⟩)
        ·skip
         refine box_step ?hg (N := 18) ?hd (cs := #[.int .i64 0, .int .i64 0, .slice none 0 0]) (t := 43) ?hr ?_; (case hd => rfl); (case hg => rfl); (case hr => first | (go_simp; done) | (go_simp; rfl))
         intro g hg w8 hbox hb
         have HG := Aside0.mk hbox; have HM := Aside0.mk (blk_lt hbox); have HL := Aside0.mk (Nat.le_trans hHeld.size (Nat.le_of_eq hg.symm))
         have hHeld := hHeld.trans (hb.mono hHeld.size)
         refine hK.out _ _ hHeld (fun hHeld => ?_); clear hK K hb hbox hg
         refine norm_ (a' := ?_) ?_ ?_; rotate_left
         ·show Act.put _ (some 18) _ = _
          simp only [Act.put, List.setIfInBounds_toArray, List.set_cons_zero, List.set_cons_succ, i64_w, i32_w]; rfl
         refine one_ (i := 5) (N := some 78) #[true, true, true, true, true, true, false, false, false, true, false, false] rfl rfl (one_of HT_.out (by kernel_rfl)) (by decide) (fun K hK => ?_)
         refine goes_ Try.func32 (by kernel_rfl) rfl #[.agg #[.int .i64 a0_0, .bool a0_1], .slice Al (m + 1) cl] (by rfl) rfl rfl (by first | rfl | (simp only [List.map_toArray, List.map_cons, List.map_nil]; rfl)) ?_
         refine (fold_Scan.rowc k a0_0 a0_1 (fun k_ => ((P1_1_ k_ ∧ k_ < w.heap.size) ∨ B0 ≤ k_) ∧ k_ < B1) _ _ _ _ b1 b2 b3 b4 _ (by exact Kd.V_below HTK.out hHeld) QB.out).mono ?_; rintro e w7 ⟨v2, rfl, hV, hb⟩; obtain ⟨A3, c3, hv⟩ := Kd.V_slice hV; subst hv; refine ⟨_, rfl, ?_⟩
         have HX2 := Aside0.mk (show Kd.V k25 25 w7 w.heap.size (fun k_ => ((P1_1_ k_ ∧ k_ < w.heap.size) ∨ B0 ≤ k_) ∧ k_ ≠ g) (.slice A3 b3.length c3) b3 from Kd.V_mono hV (fun k_ hk => hk.elim (fun h => ⟨h.1, Nat.ne_of_lt (Nat.lt_of_lt_of_le h.2 (Nat.le_trans HB1.out HL.out))⟩) (fun h => ⟨Or.inr (Nat.le_trans HB01.out (Nat.le_trans HB1.out (Nat.le_trans hHeld.size h))), Nat.ne_of_gt (Nat.lt_of_lt_of_le HM.out h)⟩))); have HG := Aside0.mk (blk_below HG.out hb)
         clear hV
         have hHeld := hHeld.trans (hb.mono hHeld.size)
         refine hK.out _ _ hHeld (fun hHeld => ?_); clear hK K hb
         refine norm_ (a' := ?_) ?_ ?_; rotate_left
         ·show Act.put _ (some 78) _ = _
          simp only [Act.put, List.setIfInBounds_toArray, List.set_cons_zero, List.set_cons_succ, i64_w, i32_w]; rfl
         refine pure_ (i := 6) (N := some 72) (v := ?_) (a' := ?_) #[true, true, true, true, true, true, true, false, false, true, false, false] rfl rfl (any_of HT_.out (by kernel_rfl)) (fun _ _ _ h => h) (Or.inl ⟨by rfl, ?_⟩) ?_ ?_; rotate_left
         ·intro w'; go_simp; with_reducible rfl
         rotate_left
         ·simp only [Act.put, List.setIfInBounds_toArray, List.set_cons_zero, List.set_cons_succ, i64_w, i32_w]; rfl
         refine pure_ (i := 7) (N := some 79) (v := ?_) (a' := ?_) #[true, true, true, true, true, true, true, true, false, true, false, false] rfl rfl (any_of HT_.out (by kernel_rfl)) (fun _ _ _ h => h) (Or.inl ⟨by rfl, ?_⟩) ?_ ?_; rotate_left
         ·intro w'; go_simp; with_reducible rfl
         rotate_left
         ·simp only [Act.put, List.setIfInBounds_toArray, List.set_cons_zero, List.set_cons_succ, i64_w, i32_w]; rfl
         refine pure_ (i := 8) (N := some 80) (v := ?_) (a' := ?_) #[true, true, true, true, true, true, true, true, true, true, false, false] rfl rfl (any_of HT_.out (by kernel_rfl)) (fun _ _ _ h => h) (Or.inl ⟨by rfl, ?_⟩) ?_ ?_; rotate_left
         ·intro w'; go_simp; with_reducible rfl
         rotate_left
         ·simp only [Act.put, List.setIfInBounds_toArray, List.set_cons_zero, List.set_cons_succ, i64_w, i32_w]; rfl
         exact norm_ (by simp only [putAll, Act.put, List.setIfInBounds_toArray, List.set_cons_zero, List.set_cons_succ]) (hCont (A3, c3, g) _ ⟨hHeld, HX2.out, HG.out, HL.out⟩)
       rintro ⟨A3, c3, g⟩ W1 ⟨hHeld, hX, hG, hL⟩; dsimp only at hX hG hL
       refine norm_ (a' := ?_) ?_ ?_; rotate_left
       ·simp only [putAll, Act.put, List.setIfInBounds_toArray, List.set_cons_zero, List.set_cons_succ]; rfl
       refine one_ (i := 10) (N := none) #[true, true, true, true, true, true, true, true, true, true, true, false] rfl rfl (one_of HT_.out (by kernel_rfl)) (by decide) (fun K hK => ?_)
       have hs0 : W1.cell? ⟨g, 0, none⟩ = some (.int .i64 0) := (blk_cell hG 0).trans rfl; have hz0 := blk_frozen hG 0; have hs1 : W1.cell? ⟨g, 1, none⟩ = some (.int .i64 0) := (blk_cell hG 1).trans rfl; have hz1 := blk_frozen hG 1; have hs2 : W1.cell? ⟨g, 2, none⟩ = some (.slice none 0 0) := (blk_cell hG 2).trans rfl; have hz2 := blk_frozen hG 2
       refine skip_ (w1 := ?_) (by rfl) rfl ?_ ?_; rotate_left
       ·go_simp; rfl
       have HBX := Aside0.mk (hf_z3 hG (.int .i64 b1) (.int .i64 b2) (.slice A3 b3.length c3))
       have hb : Below Wr.heap.size Wr (((W1.setCell ⟨g, 0, none⟩ (.int .i64 b1)).setCell ⟨g, 1, none⟩ (.int .i64 b2)).setCell ⟨g, 2, none⟩ (.slice A3 b3.length c3)) := below_set (below_set (below_set hHeld hL) hL) hL
       have HX2 := Aside0.mk (fs_V3 (g := g) (ok' := fun k_ => ((P1_1_ k_ ∧ k_ < w.heap.size) ∨ B0 ≤ k_)) hX (fun k_ hk => hk.2) (fun _ h => h.1) (.int .i64 b1) (.int .i64 b2) (.slice A3 b3.length c3))
       have HT := Aside0.mk (HT.out.step hb); have HN := Aside0.mk (Kd.N_below HN.out hb); have HB1 := Aside0.mk (Nat.le_trans HB1.out hb.size)
       clear hX hG hL hHeld hs0 hs1 hs2 hz0 hz1 hz2 HTK
       refine hK.out _ _ hb (fun hHeld => ?_); clear hK K
       clear hHeld hb
       generalize ((W1.setCell _ _).setCell _ _).setCell _ _ = W4 at HBX HX2 HT HN HB1 ⊢
       refine pure_ (i := 11) (N := some 19) (v := ?_) (a' := ?_) #[true, true, true, true, true, true, true, true, true, true, true, true] rfl rfl (any_of HT_.out (by kernel_rfl)) (fun _ _ _ h => h) (Or.inl ⟨by rfl, ?_⟩) ?_ ?_; rotate_left
       ·intro w'; go_simp; with_reducible rfl
       rotate_left
       ·simp only [Act.put, List.setIfInBounds_toArray, List.set_cons_zero, List.set_cons_succ, i64_w, i32_w]; rfl
       refine done_ (done_of HT_.out (by kernel_rfl)) ?_
       try clear HT_ HW_
       have b0_ : W4.cell? ⟨g, 0, none⟩ = some (.int .i64 b1) := (blk_cell HBX.out 0).trans rfl; have b1_ : W4.cell? ⟨g, 1, none⟩ = some (.int .i64 b2) := (blk_cell HBX.out 1).trans rfl; have b2_ : W4.cell? ⟨g, 2, none⟩ = some (.slice A3 b3.length c3) := (blk_cell HBX.out 2).trans rfl
       have o0 : W4.cell? ⟨go, 0, none⟩ = some (.slice (some ⟨gs, 0, none⟩) l1_0.length cc0) := (blk_cell (HT.out.bx.at_ 0 rfl) 0).trans rfl; have o1 : W4.cell? ⟨go, 1, none⟩ = some (.slice Ac1 y2_.length cc1) := (blk_cell (HT.out.bx.at_ 0 rfl) 1).trans rfl; have x0 : W4.cell? ⟨w.heap.size, 0, none⟩ = some (.int .i64 a0_0) := (blk_cell (HT.out.bx.at_ 4 rfl) 0).trans rfl; have x1 : W4.cell? ⟨w.heap.size, 1, none⟩ = some (.bool a0_1) := (blk_cell (HT.out.bx.at_ 4 rfl) 1).trans rfl; have y0 : W4.cell? ⟨w.heap.size + 1, 0, none⟩ = some (.slice A1_0 l1_0.length c1_0) := (blk_cell (HT.out.bx.at_ 3 rfl) 0).trans rfl; have y1 : W4.cell? ⟨w.heap.size + 1, 1, none⟩ = some (.slice A1_1 l1_1.length c1_1) := (blk_cell (HT.out.bx.at_ 3 rfl) 1).trans rfl; have z0 : W4.cell? ⟨w.heap.size + 1 + 1, 0, none⟩ = some (.slice none 0 0) := (blk_cell (HT.out.bx.at_ 2 rfl) 0).trans rfl; have z1 : W4.cell? ⟨w.heap.size + 1 + 1, 1, none⟩ = some (.slice none 0 0) := (blk_cell (HT.out.bx.at_ 2 rfl) 1).trans rfl; have f0 := blk_frozen (HT.out.bx.at_ 2 rfl) 0; have f1 := blk_frozen (HT.out.bx.at_ 2 rfl) 1
       have h := H6.out; clear H6
       by_cases ce : b4 = 0
       rotate_left
       ·rw [if_neg ce] at h
        obtain rfl := Option.some.inj h; have h := H5.out; rw [if_neg ce] at h; obtain rfl := Option.some.inj h; have h := HQ.out; rw [if_neg ce] at h; obtain rfl := Option.some.inj h; have h := H.out; rw [if_neg ce] at h
        simp only [Option.some.injEq, Prod.mk.injEq] at h; obtain ⟨rfl, rfl, rfl⟩ := h
        have ceb : (b4 != 0) = true := bne_iff_ne.2 ce; clear ce
        go_wp2_with (fail)
        all_goals (refine bodyPost_ret (results_ct rfl _ _ (w.heap.size + 1 + 1) 25 #[.slice none 0 0, .slice none 0 0] (0, 0) _ rfl (hf_z2 (HT.out.bx.at_ 2 rfl) _ _) Try.underlying25 rfl (by kernel_rfl)) rfl ?_; exact ⟨_, _, rfl, Kd.R_nil _ _ _ _ _, Kd.N_nil _ _ _ _ _, below_set (below_set HT.out.bx.bel (HT.out.bx.fr _ (List.mem_of_getElem? (i := 2) rfl))) (HT.out.bx.fr _ (List.mem_of_getElem? (i := 2) rfl))⟩)
       rw [if_pos ce] at h; subst ce
       by_cases cl_ : 0 ≤ wrap64 (at0 + wrap64 ((m : Int) * T)) ∧ wrap64 (at0 + wrap64 ((m : Int) * T)) < acc.length
       rotate_left
       ·rw [if_neg cl_] at h; cases h
       rw [if_pos cl_] at h; have QK := Aside0.mk h; clear h
       have hpl : acc.length = y2_.length := (Kd.N_reads' HT.out.r1).1.symm
       obtain ⟨gx, capx, hv, _⟩ := Kd.N_form HT.out.r1 (by omega); injection hv with hv1 hv3 hv2; clear hv3; subst hv1 hv2
       have hp0 := cl_.1; have hp1 : wrap64 (at0 + wrap64 ((m : Int) * T)) < (y2_.length : Int) := (by omega)
       have HPL := Aside0.mk (And.intro hp0 (show wrap64 (at0 + wrap64 ((m : Int) * T)) < ((y2_.length : Nat) : Int) from hp1)); clear cl_
       have HGX := Aside0.mk (show ∀ k_, ((P1_1_ k_ ∧ k_ < w.heap.size) ∨ B0 ≤ k_) → some k_ ≠ some gx from fun k_ hk e => (hk.elim (fun h => (HE.out.1 k_ h).2) (fun h => (HE.out.2 k_ h).2)) (by rw [e]; simp [Value.ownBlock]))
       clear hpl hs0 hs1 hnm hwm hn hnj
       go_wp2_with ((with_reducible refine gate_store (t := 43) (p := 93) rfl ?_); refine OutN.store HT.out rfl rfl (.tmp 93) (.tmp 92) rfl (wrap64 (at0 + wrap64 ((m : Int) * T))) HPL.out.1 HPL.out.2 (by first | rfl | (go_simp; done) | (go_simp; rfl)) (⟨b1, b2, b3⟩ : S43) [.int .i64 b1, .int .i64 b2, .slice A3 b3.length c3] (by first | rfl | (go_simp; rfl)) (by first | rfl | kernel_rfl | decide) (fun k_ => ((P1_1_ k_ ∧ k_ < w.heap.size) ∨ B0 ≤ k_)) (k43_mkF _ _ (⟨b1, b2, b3⟩ : S43) (Kd.V_at HX2.out).2.1 (Kd.V_at HX2.out).2.2) (fun k_ hk => hk.elim (HE.out.1 k_) (HE.out.2 k_)) ?_; intro w7 hT7 hg7; have HT7 := Aside0.mk hT7; have HN := Aside0.mk (Kd.N_grown HN.out hg7 (fun k_ hk e => HGX.out k_ hk.1 (by rw [e]))); have HB1 := Aside0.mk (Nat.le_trans HB1.out hg7.size); clear hT7 hg7)
       go_roundg q; (case measure => omega)
       case rel => exact ⟨m + 1, _, congrArg (Value.int .i64) HWM.out, ⟨by have := HM0.out; omega, by omega⟩, QK, HT7, HN, HB1⟩
end Go.Proofs.Ytahgfebdjjfkhaa.P
