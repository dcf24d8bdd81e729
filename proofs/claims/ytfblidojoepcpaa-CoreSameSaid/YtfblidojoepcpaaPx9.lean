/- Written by a program of this session: the functions that the laws reach, what each comes to, and each law as it is stated, for every input. No condition. -/
import Derived.Test.YtfblidojoepcpaaPx0
import Derived.Test.YtfblidojoepcpaaPx8
namespace Go.Proofs.Ytfblidojoepcpaa.P
open Go.RowKit Go.Proofs.YtfblidojoepcpaaW.PrintWords Go.Proofs.YtfblidojoepcpaaW.PrintLast Go.Proofs.YtfblidojoepcpaaW.PrintMore
attribute [local go_sem] max2_int min2_int max_two min_two max_three min_three max_four min_four   -- for this text's walks alone
set_option linter.unusedVariables false
set_option linter.unusedSimpArgs false
mutual
def triglyphref10_Same.j0 : Nat → Bool → Int → Int → ByteArray → List Int → List (S52) → List (S34) → Int → Int → Int → ByteArray → List Int → List (S52) → List (S34) → Int → Option (Bool)
 | 0, _, _, _, _, _, _, _, _, _, _, _, _, _, _, _ => none
 | k + 1, x41, x188000, x188001, x188002, x188003, x188004, x188005, x188006, x189000, x189001, x189002, x189003, x189004, x189005, x189006 => if x41 = true then (some false) else (triglyphref10_Same.l0 k 0 x188000 x188001 x188002 x188003 x188004 x188005 x188006 x189000 x189001 x189002 x189003 x189004 x189005 x189006)
def triglyphref10_Same.l0 : Nat → Int → Int → Int → ByteArray → List Int → List (S52) → List (S34) → Int → Int → Int → ByteArray → List Int → List (S52) → List (S34) → Int → Option (Bool)
 | 0, _, _, _, _, _, _, _, _, _, _, _, _, _, _, _ => none
 | k + 1, x5, x188000, x188001, x188002, x188003, x188004, x188005, x188006, x189000, x189001, x189002, x189003, x189004, x189005, x189006 => if x5 < (x188005.length : Int) then (if 0 ≤ x5 then (if x5 < (x189005.length : Int) then ((triglyphref10_Same.f k ((rd_T34 x188005 x5).f0) ((rd_T34 x188005 x5).f1) ((rd_T34 x188005 x5).f2) ((rd_T34 x188005 x5).f3.f0) ((rd_T34 x188005 x5).f3.f1) ((rd_T34 x188005 x5).f4) ((rd_T34 x188005 x5).f5) ((rd_T34 x189005 x5).f0) ((rd_T34 x189005 x5).f1) ((rd_T34 x189005 x5).f2) ((rd_T34 x189005 x5).f3.f0) ((rd_T34 x189005 x5).f3.f1) ((rd_T34 x189005 x5).f4) ((rd_T34 x189005 x5).f5)).bind fun t192 => (if t192 = true then (triglyphref10_Same.l0 k (wrap64 (x5 + 1)) x188000 x188001 x188002 x188003 x188004 x188005 x188006 x189000 x189001 x189002 x189003 x189004 x189005 x189006) else (some false))) else (none)) else (none)) else (some true)
def triglyphref10_Same.f : Nat → Int → Int → ByteArray → List Int → List (S52) → List (S34) → Int → Int → Int → ByteArray → List Int → List (S52) → List (S34) → Int → Option (Bool)
 | 0, _, _, _, _, _, _, _, _, _, _, _, _, _, _ => none
 | k + 1, a0_0, a0_1, a0_2, l0_3, l0_4, l0_5, a0_6, a1_0, a1_1, a1_2, l1_3, l1_4, l1_5, a1_6 => if a0_0 = a1_0 then (if a0_1 = a1_1 then (if a0_2.toList = a1_2.toList then (if (l0_5.length : Int) = (l1_5.length : Int) then ((triglyphref03_Cmp.f k l0_3 l0_4 l1_3 l1_4).bind fun t189 => (triglyphref10_Same.j0 k (t189 != 0) a0_0 a0_1 a0_2 l0_3 l0_4 l0_5 a0_6 a1_0 a1_1 a1_2 l1_3 l1_4 l1_5 a1_6)) else (triglyphref10_Same.j0 k true a0_0 a0_1 a0_2 l0_3 l0_4 l0_5 a0_6 a1_0 a1_1 a1_2 l1_3 l1_4 l1_5 a1_6)) else (triglyphref10_Same.j0 k true a0_0 a0_1 a0_2 l0_3 l0_4 l0_5 a0_6 a1_0 a1_1 a1_2 l1_3 l1_4 l1_5 a1_6)) else (triglyphref10_Same.j0 k true a0_0 a0_1 a0_2 l0_3 l0_4 l0_5 a0_6 a1_0 a1_1 a1_2 l1_3 l1_4 l1_5 a1_6)) else (triglyphref10_Same.j0 k true a0_0 a0_1 a0_2 l0_3 l0_4 l0_5 a0_6 a1_0 a1_1 a1_2 l1_3 l1_4 l1_5 a1_6)
end
theorem triglyphref10_Same.mono_l : ∀ k, (∀ y0 y1 y2 y3 y4 y5 y6 y7 y8 y9 y10 y11 y12 y13, LeO (triglyphref10_Same.f k y0 y1 y2 y3 y4 y5 y6 y7 y8 y9 y10 y11 y12 y13) (triglyphref10_Same.f (k + 1) y0 y1 y2 y3 y4 y5 y6 y7 y8 y9 y10 y11 y12 y13)) ∧ (∀ y0 y1 y2 y3 y4 y5 y6 y7 y8 y9 y10 y11 y12 y13 y14, LeO (triglyphref10_Same.j0 k y0 y1 y2 y3 y4 y5 y6 y7 y8 y9 y10 y11 y12 y13 y14) (triglyphref10_Same.j0 (k + 1) y0 y1 y2 y3 y4 y5 y6 y7 y8 y9 y10 y11 y12 y13 y14)) ∧ (∀ y0 y1 y2 y3 y4 y5 y6 y7 y8 y9 y10 y11 y12 y13 y14, LeO (triglyphref10_Same.l0 k y0 y1 y2 y3 y4 y5 y6 y7 y8 y9 y10 y11 y12 y13 y14) (triglyphref10_Same.l0 (k + 1) y0 y1 y2 y3 y4 y5 y6 y7 y8 y9 y10 y11 y12 y13 y14))
 | 0 => ⟨fun _ _ _ _ _ _ _ _ _ _ _ _ _ _ r h => by simp [triglyphref10_Same.f] at h, fun _ _ _ _ _ _ _ _ _ _ _ _ _ _ _ r h => by simp [triglyphref10_Same.j0] at h, fun _ _ _ _ _ _ _ _ _ _ _ _ _ _ _ r h => by simp [triglyphref10_Same.l0] at h⟩
 | k + 1 => by
  obtain ⟨ih0, ih1, ih2⟩ := triglyphref10_Same.mono_l k
  refine ⟨?_, ?_, ?_⟩
  ·intro y0 y1 y2 y3 y4 y5 y6 y7 y8 y9 y10 y11 y12 y13
   unfold triglyphref10_Same.f
   repeat' first
   | (with_reducible exact ih0 _ _ _ _ _ _ _ _ _ _ _ _ _ _)
   | (with_reducible exact ih1 _ _ _ _ _ _ _ _ _ _ _ _ _ _ _)
   | (with_reducible exact ih2 _ _ _ _ _ _ _ _ _ _ _ _ _ _ _)
   | (with_reducible exact triglyphref03_Cmp.mono _ _ _ _ _)
   | (with_reducible exact LeO.refl _)
   | (with_reducible exact LeO.none _)
   | (with_reducible refine LeO.ite ?_ ?_)
   | (with_reducible refine LeO.bind ?_ (fun _ => ?_))



   | exact triglyphref03_Cmp.mono _ _ _ _ _



  ·intro y0 y1 y2 y3 y4 y5 y6 y7 y8 y9 y10 y11 y12 y13 y14
   unfold triglyphref10_Same.j0
   repeat' first
   | (with_reducible exact ih0 _ _ _ _ _ _ _ _ _ _ _ _ _ _)
   | (with_reducible exact ih1 _ _ _ _ _ _ _ _ _ _ _ _ _ _ _)
   | (with_reducible exact ih2 _ _ _ _ _ _ _ _ _ _ _ _ _ _ _)
   | (with_reducible exact triglyphref03_Cmp.mono _ _ _ _ _)
   | (with_reducible exact LeO.refl _)
   | (with_reducible exact LeO.none _)
   | (with_reducible refine LeO.ite ?_ ?_)
   | (with_reducible refine LeO.bind ?_ (fun _ => ?_))



   | exact triglyphref03_Cmp.mono _ _ _ _ _



  ·intro y0 y1 y2 y3 y4 y5 y6 y7 y8 y9 y10 y11 y12 y13 y14
   unfold triglyphref10_Same.l0
   repeat' first
   | (with_reducible exact ih0 _ _ _ _ _ _ _ _ _ _ _ _ _ _)
   | (with_reducible exact ih1 _ _ _ _ _ _ _ _ _ _ _ _ _ _ _)
   | (with_reducible exact ih2 _ _ _ _ _ _ _ _ _ _ _ _ _ _ _)
   | (with_reducible exact triglyphref03_Cmp.mono _ _ _ _ _)
   | (with_reducible exact LeO.refl _)
   | (with_reducible exact LeO.none _)
   | (with_reducible refine LeO.ite ?_ ?_)
   | (with_reducible refine LeO.bind ?_ (fun _ => ?_))



   | exact triglyphref03_Cmp.mono _ _ _ _ _
theorem triglyphref10_Same.mono : ∀ a0 a1 a2 a3 a4 a5 a6 a7 a8 a9 a10 a11 a12 a13 k, LeO (triglyphref10_Same.f k a0 a1 a2 a3 a4 a5 a6 a7 a8 a9 a10 a11 a12 a13) (triglyphref10_Same.f (k + 1) a0 a1 a2 a3 a4 a5 a6 a7 a8 a9 a10 a11 a12 a13) := by
 intro a0 a1 a2 a3 a4 a5 a6 a7 a8 a9 a10 a11 a12 a13 k
 obtain ⟨ih0, ih1, ih2⟩ := triglyphref10_Same.mono_l k
 exact ih0 a0 a1 a2 a3 a4 a5 a6 a7 a8 a9 a10 a11 a12 a13
def triglyphref10_Same.T6 : Bool × List (List Nat × List Nat) := (true, [([], []), ([0], [0]), ([], []), ([1, 2], [1, 2]), ([3], [3]), ([], []), ([5], [5]), ([], []), ([6, 7], [6, 7]), ([8], [8]), ([4, 9], [4, 9]), ([10], [10])])
def triglyphref10_Same.B6 : List Nat := [0, 1, 0, 7, 15, 0, 32, 0, 224, 480, 1023, 2047]
theorem triglyphref10_Same.tab6 : rtab .any (opsOf Try.f17 6) = triglyphref10_Same.T6 := by kernel_rfl
theorem triglyphref10_Same.bits6 : waitsOk triglyphref10_Same.T6.2 triglyphref10_Same.B6 = true := by kernel_rfl
set_option maxHeartbeats 8000000 in
set_option maxRecDepth 100000 in
theorem triglyphref10_Same.calls (k : Nat) : ∀ (a0_0 : Int) (a0_1 : Int) (a0_2 : ByteArray) (A0_3 : Option Addr) (c0_3 : Nat) (l0_3 : List Int) (A0_4 : Option Addr) (c0_4 : Nat) (l0_4 : List (S52)) (A0_5 : Option Addr) (c0_5 : Nat) (l0_5 : List (S34)) (a0_6 : Int) (a1_0 : Int) (a1_1 : Int) (a1_2 : ByteArray) (A1_3 : Option Addr) (c1_3 : Nat) (l1_3 : List Int) (A1_4 : Option Addr) (c1_4 : Nat) (l1_4 : List (S52)) (A1_5 : Option Addr) (c1_5 : Nat) (l1_5 : List (S34)) (a1_6 : Int) (r : Bool) (w : World) (hr0_3 : Kd.C (Kd.int .i64) w A0_3 l0_3.length l0_3) (hc0_3 : l0_3.length ≤ c0_3) (hr0_4 : Kd.C k52 w A0_4 l0_4.length l0_4) (hc0_4 : l0_4.length ≤ c0_4) (hr0_5 : Kd.C k34 w A0_5 l0_5.length l0_5) (hc0_5 : l0_5.length ≤ c0_5) (hr1_3 : Kd.C (Kd.int .i64) w A1_3 l1_3.length l1_3) (hc1_3 : l1_3.length ≤ c1_3) (hr1_4 : Kd.C k52 w A1_4 l1_4.length l1_4) (hc1_4 : l1_4.length ≤ c1_4) (hr1_5 : Kd.C k34 w A1_5 l1_5.length l1_5) (hc1_5 : l1_5.length ≤ c1_5) (h : triglyphref10_Same.f k a0_0 a0_1 a0_2 l0_3 l0_4 l0_5 a0_6 a1_0 a1_1 a1_2 l1_3 l1_4 l1_5 a1_6 = some r),
  Calls Try.prog 17 #[.agg #[.int .i64 a0_0, .int .i64 a0_1, .string a0_2, .slice A0_3 l0_3.length c0_3, .slice A0_4 l0_4.length c0_4, .slice A0_5 l0_5.length c0_5, .int .i64 a0_6], .agg #[.int .i64 a1_0, .int .i64 a1_1, .string a1_2, .slice A1_3 l1_3.length c1_3, .slice A1_4 l1_4.length c1_4, .slice A1_5 l1_5.length c1_5, .int .i64 a1_6]] w fun e w' => e = .returned (.bool r) ∧ Below w.heap.size w w' := by
 induction k using Nat.strongRecOn with
 | _ k ih =>
 intro a0_0 a0_1 a0_2 A0_3 c0_3 l0_3 A0_4 c0_4 l0_4 A0_5 c0_5 l0_5 a0_6 a1_0 a1_1 a1_2 A1_3 c1_3 l1_3 A1_4 c1_4 l1_4 A1_5 c1_5 l1_5 a1_6 r w hr0_3 hc0_3 hr0_4 hc0_4 hr0_5 hc0_5 hr1_3 hc1_3 hr1_4 hc1_4 hr1_5 hc1_5 h
 cases k with
 | zero => exact absurd h (by simp [triglyphref10_Same.f])
 | succ k =>
 simp only [triglyphref10_Same.f] at h
 have hu34 := Try.underlying34
 have hu25 := Try.underlying25
 have HR0_3 := gA hr0_3
 have HC0_3 := gA hc0_3
 clear hr0_3 hc0_3
 have HR0_4 := gA hr0_4
 have HC0_4 := gA hc0_4
 clear hr0_4 hc0_4
 have HR0_5 := gA hr0_5
 have HC0_5 := gA hc0_5
 clear hr0_5 hc0_5
 have HR1_3 := gA hr1_3
 have HC1_3 := gA hc1_3
 clear hr1_3 hc1_3
 have HR1_4 := gA hr1_4
 have HC1_4 := gA hc1_4
 clear hr1_4 hc1_4
 have HR1_5 := gA hr1_5
 have HC1_5 := gA hc1_5
 clear hr1_5 hc1_5
 have HB := gA (Below.refl w.heap.size w)
 have H : (if a0_0 = a1_0 then (if a0_1 = a1_1 then (if a0_2.toList = a1_2.toList then (if (l0_5.length : Int) = (l1_5.length : Int) then ((triglyphref03_Cmp.f k l0_3 l0_4 l1_3 l1_4).bind fun t189 => (triglyphref10_Same.j0 k (t189 != 0) a0_0 a0_1 a0_2 l0_3 l0_4 l0_5 a0_6 a1_0 a1_1 a1_2 l1_3 l1_4 l1_5 a1_6)) else (triglyphref10_Same.j0 k true a0_0 a0_1 a0_2 l0_3 l0_4 l0_5 a0_6 a1_0 a1_1 a1_2 l1_3 l1_4 l1_5 a1_6)) else (triglyphref10_Same.j0 k true a0_0 a0_1 a0_2 l0_3 l0_4 l0_5 a0_6 a1_0 a1_1 a1_2 l1_3 l1_4 l1_5 a1_6)) else (triglyphref10_Same.j0 k true a0_0 a0_1 a0_2 l0_3 l0_4 l0_5 a0_6 a1_0 a1_1 a1_2 l1_3 l1_4 l1_5 a1_6)) else (triglyphref10_Same.j0 k true a0_0 a0_1 a0_2 l0_3 l0_4 l0_5 a0_6 a1_0 a1_1 a1_2 l1_3 l1_4 l1_5 a1_6)) = some r := h
 clear h
 have HC3 := gA H
 clear H
 go_enter Try.func17, Try.ntmps17
 go_upto_region 1 with (first | ((with_reducible refine gate_dst (N := 2) rfl ?_); (try (refine gate_guard (by rfl) ?_; dsimp only)); refine box_event ?hg (N := 2) ?hd (cs := #[.int .i64 a0_0, .int .i64 a0_1, .string a0_2, .slice A0_3 l0_3.length c0_3, .slice A0_4 l0_4.length c0_4, .slice A0_5 l0_5.length c0_5, .int .i64 a0_6]) (t := 34) ?hr ?_; (case hd => rfl); (case hg => rfl); (case hr => first | (go_simp; done) | (go_simp; rfl)); intro gb187 hg w4 hbox hb; have BK187 := gA (hbox); have GW187 := gA ((by rw [hg]; exact (below_size (gB HB)) : w.heap.size ≤ gb187)); have GE187 := gA ((by rw [hg]; exact (below_size (gB HB)) : w.heap.size ≤ gb187)); replace HB := gA (below_step (gB HB) hb); clear hb hbox hg) | ((with_reducible refine gate_dst (N := 3) rfl ?_); (try (refine gate_guard (by rfl) ?_; dsimp only)); refine box_event ?hg (N := 3) ?hd (cs := #[.int .i64 a1_0, .int .i64 a1_1, .string a1_2, .slice A1_3 l1_3.length c1_3, .slice A1_4 l1_4.length c1_4, .slice A1_5 l1_5.length c1_5, .int .i64 a1_6]) (t := 34) ?hr ?_; (case hd => rfl); (case hg => rfl); (case hr => first | (go_simp; done) | (go_simp; rfl)); intro gb188 hg w5 hbox hb; have BK188 := gA (hbox); have GW188 := gA ((by rw [hg]; exact (below_size (gB HB)) : w.heap.size ≤ gb188)); have GE188 := gA ((by rw [hg]; exact (below_size (gB HB)) : w.heap.size ≤ gb188)); replace HB := gA (below_step (gB HB) hb); have NB187_188 := gA ((by rw [hg]; exact Nat.ne_of_lt (blk_lt (gK BK187)) : gb187 ≠ gb188)); have NB188_187 := gA ((by rw [hg]; exact Nat.ne_of_gt (blk_lt (gK BK187)) : gb188 ≠ gb187)); replace BK187 := gA (blk_below (gK BK187) hb); clear hb hbox hg))
 (try simp only [Act.put, List.setIfInBounds_toArray, List.set_cons_zero, List.set_cons_succ])
 go_cut [41] (fun v41 wc => ∃ (kq : Nat) (x41_2 : Bool), v41 = .bool x41_2 ∧ Aside0 (triglyphref10_Same.j0 kq x41_2 a0_0 a0_1 a0_2 l0_3 l0_4 l0_5 a0_6 a1_0 a1_1 a1_2 l1_3 l1_4 l1_5 a1_6 = some r) ∧ Aside0 (kq ≤ k) ∧ Aside0 (wc.heap[gb187]? = some (.cells #[.int .i64 a0_0, .int .i64 a0_1, .string a0_2, (.slice A0_3 l0_3.length c0_3), (.slice A0_4 l0_4.length c0_4), (.slice A0_5 l0_5.length c0_5), .int .i64 a0_6] 34 (0, 0))) ∧ Aside0 (wc.heap[gb188]? = some (.cells #[.int .i64 a1_0, .int .i64 a1_1, .string a1_2, (.slice A1_3 l1_3.length c1_3), (.slice A1_4 l1_4.length c1_4), (.slice A1_5 l1_5.length c1_5), .int .i64 a1_6] 34 (0, 0))) ∧ Aside0 (Below w.heap.size w wc))
 case first =>
  have H := HC3.out; clear HC3
  by_cases c6 : a0_0 = a1_0
  ·rw [if_pos c6] at H
   have c6b0 : (a0_0 == a1_0) = true := beq_iff_eq.mpr c6
   have c6b1 : (a0_0 != a1_0) = false := bne_eq_false_iff_eq.mpr c6
   clear c6
   (first | rw [c6b0] | rw [c6b1] | (simp only [i64_w, i32_w]; rw [c6b0]) | skip)
   by_cases c7 : a0_1 = a1_1
   ·rw [if_pos c7] at H
    have c7b0 : (a0_1 == a1_1) = true := beq_iff_eq.mpr c7
    have c7b1 : (a0_1 != a1_1) = false := bne_eq_false_iff_eq.mpr c7
    clear c7
    by_cases c8 : a0_2.toList = a1_2.toList
    ·rw [if_pos c8] at H
     have c8b0 : (a0_2.toList == a1_2.toList) = true := beq_iff_eq.mpr c8
     have c8b1 : (a0_2.toList != a1_2.toList) = false := bne_eq_false_iff_eq.mpr c8
     clear c8
     by_cases c9 : (l0_5.length : Int) = (l1_5.length : Int)
     ·rw [if_pos c9] at H
      have c9b0 : ((l0_5.length : Int) == (l1_5.length : Int)) = true := beq_iff_eq.mpr c9
      have c9b1 : ((l0_5.length : Int) != (l1_5.length : Int)) = false := bne_eq_false_iff_eq.mpr c9
      have c9b2 : (l0_5.length == l1_5.length) = true := by first | simpa using c9 | (simp at c9 ⊢; omega)
      clear c9
      replace H := Option.bind_eq_some_iff.mp H
      obtain ⟨t189, A100, H⟩ := H
      replace H : (triglyphref10_Same.j0 k (t189 != 0) a0_0 a0_1 a0_2 l0_3 l0_4 l0_5 a0_6 a1_0 a1_1 a1_2 l1_3 l1_4 l1_5 a1_6) = some r := H
      have A10 := gA A100
      clear A100
      have H' := gA H
      clear H
      have hnb11 := NB187_188.out
      have hnc11 := NB188_187.out
      have hcz12_0 := gz BK187 0 rfl
      have hcz12_1 := gz BK187 1 rfl
      have hcz12_2 := gz BK187 2 rfl
      have hcz12_3 := gz BK187 3 rfl
      have hcz12_4 := gz BK187 4 rfl
      have hcz12_5 := gz BK187 5 rfl
      have hcz12_6 := gz BK187 6 rfl
      have hfz12_0 := blk_frozen BK187.out 0
      have hfz12_1 := blk_frozen BK187.out 1
      have hfz12_2 := blk_frozen BK187.out 2
      have hfz12_3 := blk_frozen BK187.out 3
      have hfz12_4 := blk_frozen BK187.out 4
      have hfz12_5 := blk_frozen BK187.out 5
      have hfz12_6 := blk_frozen BK187.out 6
      have hcz13_0 := gz BK188 0 rfl
      have hcz13_1 := gz BK188 1 rfl
      have hcz13_2 := gz BK188 2 rfl
      have hcz13_3 := gz BK188 3 rfl
      have hcz13_4 := gz BK188 4 rfl
      have hcz13_5 := gz BK188 5 rfl
      have hcz13_6 := gz BK188 6 rfl
      have hfz13_0 := blk_frozen BK188.out 0
      have hfz13_1 := blk_frozen BK188.out 1
      have hfz13_2 := blk_frozen BK188.out 2
      have hfz13_3 := blk_frozen BK188.out 3
      have hfz13_4 := blk_frozen BK188.out 4
      have hfz13_5 := blk_frozen BK188.out 5
      have hfz13_6 := blk_frozen BK188.out 6
      go_wp2_with (first | (go_at_call 35; (with_reducible refine (triglyphref03_Cmp.calls k _ _ l0_3 _ _ l0_4 _ _ l1_3 _ _ l1_4 t189 _ ?side1 ?side2 ?side3 ?side4 ?side5 ?side6 ?side7 ?side8 A10.out).mono ?_); (case side1 => exact gC HR0_3 HB); (case side2 => exact HC0_3.out); (case side3 => exact gC HR0_4 HB); (case side4 => exact HC0_4.out); (case side5 => exact gC HR1_3 HB); (case side6 => exact HC1_3.out); (case side7 => exact gC HR1_4 HB); (case side8 => exact HC1_4.out); rintro e w14 ⟨rfl, hb⟩; replace BK187 := gA (blk_below (gK BK187) hb); replace BK188 := gA (blk_below (gK BK188) hb); replace HB := gA (below_step (gB HB) hb); (try clear hb)))
      all_goals (go_meet; (case rel => exact ⟨_, ((t189 != 0)), (by first | rfl | (simp; done) | (simp [*]; done) | (exfalso; simp_all; done) | (exfalso; simp_all; omega)), H', ⟨by first | omega | exact Nat.le_refl _⟩, ⟨gK BK187⟩, ⟨gK BK188⟩, ⟨gB HB⟩⟩))
     ·rw [if_neg c9] at H
      have c9b0 : ((l0_5.length : Int) == (l1_5.length : Int)) = false := beq_eq_false_iff_ne.mpr c9
      have c9b1 : ((l0_5.length : Int) != (l1_5.length : Int)) = true := bne_iff_ne.mpr c9
      have c9b2 : (l0_5.length == l1_5.length) = false := by first | simpa using c9 | (simp at c9 ⊢; omega)
      have H' := gA H
      clear H
      have hnb15 := NB187_188.out
      have hnc15 := NB188_187.out
      have hcz16_0 := gz BK187 0 rfl
      have hcz16_1 := gz BK187 1 rfl
      have hcz16_2 := gz BK187 2 rfl
      have hcz16_3 := gz BK187 3 rfl
      have hcz16_4 := gz BK187 4 rfl
      have hcz16_5 := gz BK187 5 rfl
      have hcz16_6 := gz BK187 6 rfl
      have hfz16_0 := blk_frozen BK187.out 0
      have hfz16_1 := blk_frozen BK187.out 1
      have hfz16_2 := blk_frozen BK187.out 2
      have hfz16_3 := blk_frozen BK187.out 3
      have hfz16_4 := blk_frozen BK187.out 4
      have hfz16_5 := blk_frozen BK187.out 5
      have hfz16_6 := blk_frozen BK187.out 6
      have hcz17_0 := gz BK188 0 rfl
      have hcz17_1 := gz BK188 1 rfl
      have hcz17_2 := gz BK188 2 rfl
      have hcz17_3 := gz BK188 3 rfl
      have hcz17_4 := gz BK188 4 rfl
      have hcz17_5 := gz BK188 5 rfl
      have hcz17_6 := gz BK188 6 rfl
      have hfz17_0 := blk_frozen BK188.out 0
      have hfz17_1 := blk_frozen BK188.out 1
      have hfz17_2 := blk_frozen BK188.out 2
      have hfz17_3 := blk_frozen BK188.out 3
      have hfz17_4 := blk_frozen BK188.out 4
      have hfz17_5 := blk_frozen BK188.out 5
      have hfz17_6 := blk_frozen BK188.out 6
      go_wp2
      all_goals (go_meet; (case rel => exact ⟨_, (true), (by first | rfl | (simp; done) | (simp [*]; done) | (exfalso; simp_all; done) | (exfalso; simp_all; omega)), H', ⟨by first | omega | exact Nat.le_refl _⟩, ⟨gK BK187⟩, ⟨gK BK188⟩, ⟨gB HB⟩⟩))
    ·rw [if_neg c8] at H
     have c8b0 : (a0_2.toList == a1_2.toList) = false := beq_eq_false_iff_ne.mpr c8
     have c8b1 : (a0_2.toList != a1_2.toList) = true := bne_iff_ne.mpr c8
     have H' := gA H
     clear H
     have hnb18 := NB187_188.out
     have hnc18 := NB188_187.out
     have hcz19_0 := gz BK187 0 rfl
     have hcz19_1 := gz BK187 1 rfl
     have hcz19_2 := gz BK187 2 rfl
     have hcz19_3 := gz BK187 3 rfl
     have hcz19_4 := gz BK187 4 rfl
     have hcz19_5 := gz BK187 5 rfl
     have hcz19_6 := gz BK187 6 rfl
     have hfz19_0 := blk_frozen BK187.out 0
     have hfz19_1 := blk_frozen BK187.out 1
     have hfz19_2 := blk_frozen BK187.out 2
     have hfz19_3 := blk_frozen BK187.out 3
     have hfz19_4 := blk_frozen BK187.out 4
     have hfz19_5 := blk_frozen BK187.out 5
     have hfz19_6 := blk_frozen BK187.out 6
     have hcz20_0 := gz BK188 0 rfl
     have hcz20_1 := gz BK188 1 rfl
     have hcz20_2 := gz BK188 2 rfl
     have hcz20_3 := gz BK188 3 rfl
     have hcz20_4 := gz BK188 4 rfl
     have hcz20_5 := gz BK188 5 rfl
     have hcz20_6 := gz BK188 6 rfl
     have hfz20_0 := blk_frozen BK188.out 0
     have hfz20_1 := blk_frozen BK188.out 1
     have hfz20_2 := blk_frozen BK188.out 2
     have hfz20_3 := blk_frozen BK188.out 3
     have hfz20_4 := blk_frozen BK188.out 4
     have hfz20_5 := blk_frozen BK188.out 5
     have hfz20_6 := blk_frozen BK188.out 6
     go_wp2
     all_goals (go_meet; (case rel => exact ⟨_, (true), (by first | rfl | (simp; done) | (simp [*]; done) | (exfalso; simp_all; done) | (exfalso; simp_all; omega)), H', ⟨by first | omega | exact Nat.le_refl _⟩, ⟨gK BK187⟩, ⟨gK BK188⟩, ⟨gB HB⟩⟩))
   ·rw [if_neg c7] at H
    have c7b0 : (a0_1 == a1_1) = false := beq_eq_false_iff_ne.mpr c7
    have c7b1 : (a0_1 != a1_1) = true := bne_iff_ne.mpr c7
    have H' := gA H
    clear H
    have hnb21 := NB187_188.out
    have hnc21 := NB188_187.out
    have hcz22_0 := gz BK187 0 rfl
    have hcz22_1 := gz BK187 1 rfl
    have hcz22_2 := gz BK187 2 rfl
    have hcz22_3 := gz BK187 3 rfl
    have hcz22_4 := gz BK187 4 rfl
    have hcz22_5 := gz BK187 5 rfl
    have hcz22_6 := gz BK187 6 rfl
    have hfz22_0 := blk_frozen BK187.out 0
    have hfz22_1 := blk_frozen BK187.out 1
    have hfz22_2 := blk_frozen BK187.out 2
    have hfz22_3 := blk_frozen BK187.out 3
    have hfz22_4 := blk_frozen BK187.out 4
    have hfz22_5 := blk_frozen BK187.out 5
    have hfz22_6 := blk_frozen BK187.out 6
    have hcz23_0 := gz BK188 0 rfl
    have hcz23_1 := gz BK188 1 rfl
    have hcz23_2 := gz BK188 2 rfl
    have hcz23_3 := gz BK188 3 rfl
    have hcz23_4 := gz BK188 4 rfl
    have hcz23_5 := gz BK188 5 rfl
    have hcz23_6 := gz BK188 6 rfl
    have hfz23_0 := blk_frozen BK188.out 0
    have hfz23_1 := blk_frozen BK188.out 1
    have hfz23_2 := blk_frozen BK188.out 2
    have hfz23_3 := blk_frozen BK188.out 3
    have hfz23_4 := blk_frozen BK188.out 4
    have hfz23_5 := blk_frozen BK188.out 5
    have hfz23_6 := blk_frozen BK188.out 6
    go_wp2
    all_goals (go_meet; (case rel => exact ⟨_, (true), (by first | rfl | (simp; done) | (simp [*]; done) | (exfalso; simp_all; done) | (exfalso; simp_all; omega)), H', ⟨by first | omega | exact Nat.le_refl _⟩, ⟨gK BK187⟩, ⟨gK BK188⟩, ⟨gB HB⟩⟩))
  ·rw [if_neg c6] at H
   have c6b0 : (a0_0 == a1_0) = false := beq_eq_false_iff_ne.mpr c6
   have c6b1 : (a0_0 != a1_0) = true := bne_iff_ne.mpr c6
   (first | rw [c6b0] | rw [c6b1] | (simp only [i64_w, i32_w]; rw [c6b0]) | skip)
   have H' := gA H
   clear H
   have hnb24 := NB187_188.out
   have hnc24 := NB188_187.out
   have hcz25_0 := gz BK187 0 rfl
   have hcz25_1 := gz BK187 1 rfl
   have hcz25_2 := gz BK187 2 rfl
   have hcz25_3 := gz BK187 3 rfl
   have hcz25_4 := gz BK187 4 rfl
   have hcz25_5 := gz BK187 5 rfl
   have hcz25_6 := gz BK187 6 rfl
   have hfz25_0 := blk_frozen BK187.out 0
   have hfz25_1 := blk_frozen BK187.out 1
   have hfz25_2 := blk_frozen BK187.out 2
   have hfz25_3 := blk_frozen BK187.out 3
   have hfz25_4 := blk_frozen BK187.out 4
   have hfz25_5 := blk_frozen BK187.out 5
   have hfz25_6 := blk_frozen BK187.out 6
   have hcz26_0 := gz BK188 0 rfl
   have hcz26_1 := gz BK188 1 rfl
   have hcz26_2 := gz BK188 2 rfl
   have hcz26_3 := gz BK188 3 rfl
   have hcz26_4 := gz BK188 4 rfl
   have hcz26_5 := gz BK188 5 rfl
   have hcz26_6 := gz BK188 6 rfl
   have hfz26_0 := blk_frozen BK188.out 0
   have hfz26_1 := blk_frozen BK188.out 1
   have hfz26_2 := blk_frozen BK188.out 2
   have hfz26_3 := blk_frozen BK188.out 3
   have hfz26_4 := blk_frozen BK188.out 4
   have hfz26_5 := blk_frozen BK188.out 5
   have hfz26_6 := blk_frozen BK188.out 6
   go_wp2
   all_goals (go_meet; (case rel => exact ⟨_, (true), (by first | rfl | (simp; done) | (simp [*]; done) | (exfalso; simp_all; done) | (exfalso; simp_all; omega)), H', ⟨by first | omega | exact Nat.le_refl _⟩, ⟨gK BK187⟩, ⟨gK BK188⟩, ⟨gB HB⟩⟩))
 case rest =>
  clear HC3
  try clear c1
  try clear c2
  try clear p2
  try clear c6
  try clear c6b0
  try clear c6b1
  try clear c7
  try clear c7b0
  try clear c7b1
  try clear c8
  try clear c8b0
  try clear c8b1
  try clear c9
  try clear c9b0
  try clear c9b1
  try clear c9b2
  try clear c11
  try clear c15
  try clear c17
  try clear c18
  try clear c21
  try clear c24
  try clear hcz12_0
  try clear hcz12_1
  try clear hcz12_2
  try clear hcz12_3
  try clear hcz12_4
  try clear hcz12_5
  try clear hcz12_6
  try clear hcz13_0
  try clear hcz13_1
  try clear hcz13_2
  try clear hcz13_3
  try clear hcz13_4
  try clear hcz13_5
  try clear hcz13_6
  try clear hcz16_0
  try clear hcz16_1
  try clear hcz16_2
  try clear hcz16_3
  try clear hcz16_4
  try clear hcz16_5
  try clear hcz16_6
  try clear hcz17_0
  try clear hcz17_1
  try clear hcz17_2
  try clear hcz17_3
  try clear hcz17_4
  try clear hcz17_5
  try clear hcz17_6
  try clear hcz19_0
  try clear hcz19_1
  try clear hcz19_2
  try clear hcz19_3
  try clear hcz19_4
  try clear hcz19_5
  try clear hcz19_6
  try clear hcz20_0
  try clear hcz20_1
  try clear hcz20_2
  try clear hcz20_3
  try clear hcz20_4
  try clear hcz20_5
  try clear hcz20_6
  try clear hcz22_0
  try clear hcz22_1
  try clear hcz22_2
  try clear hcz22_3
  try clear hcz22_4
  try clear hcz22_5
  try clear hcz22_6
  try clear hcz23_0
  try clear hcz23_1
  try clear hcz23_2
  try clear hcz23_3
  try clear hcz23_4
  try clear hcz23_5
  try clear hcz23_6
  try clear hcz25_0
  try clear hcz25_1
  try clear hcz25_2
  try clear hcz25_3
  try clear hcz25_4
  try clear hcz25_5
  try clear hcz25_6
  try clear hcz26_0
  try clear hcz26_1
  try clear hcz26_2
  try clear hcz26_3
  try clear hcz26_4
  try clear hcz26_5
  try clear hcz26_6
  try clear hfz12_0
  try clear hfz12_1
  try clear hfz12_2
  try clear hfz12_3
  try clear hfz12_4
  try clear hfz12_5
  try clear hfz12_6
  try clear hfz13_0
  try clear hfz13_1
  try clear hfz13_2
  try clear hfz13_3
  try clear hfz13_4
  try clear hfz13_5
  try clear hfz13_6
  try clear hfz16_0
  try clear hfz16_1
  try clear hfz16_2
  try clear hfz16_3
  try clear hfz16_4
  try clear hfz16_5
  try clear hfz16_6
  try clear hfz17_0
  try clear hfz17_1
  try clear hfz17_2
  try clear hfz17_3
  try clear hfz17_4
  try clear hfz17_5
  try clear hfz17_6
  try clear hfz19_0
  try clear hfz19_1
  try clear hfz19_2
  try clear hfz19_3
  try clear hfz19_4
  try clear hfz19_5
  try clear hfz19_6
  try clear hfz20_0
  try clear hfz20_1
  try clear hfz20_2
  try clear hfz20_3
  try clear hfz20_4
  try clear hfz20_5
  try clear hfz20_6
  try clear hfz22_0
  try clear hfz22_1
  try clear hfz22_2
  try clear hfz22_3
  try clear hfz22_4
  try clear hfz22_5
  try clear hfz22_6
  try clear hfz23_0
  try clear hfz23_1
  try clear hfz23_2
  try clear hfz23_3
  try clear hfz23_4
  try clear hfz23_5
  try clear hfz23_6
  try clear hfz25_0
  try clear hfz25_1
  try clear hfz25_2
  try clear hfz25_3
  try clear hfz25_4
  try clear hfz25_5
  try clear hfz25_6
  try clear hfz26_0
  try clear hfz26_1
  try clear hfz26_2
  try clear hfz26_3
  try clear hfz26_4
  try clear hfz26_5
  try clear hfz26_6
  obtain ⟨kq, x41_2, rfl, HA, HJ2, BK187, BK188, HB⟩ := hcut
  cases kq with
  | zero => exact absurd HA.out (by simp [triglyphref10_Same.j0])
  | succ kj2 =>
   have H := HA.out; clear HA
   simp only [triglyphref10_Same.j0] at H
   by_cases c27 : x41_2 = true
   ·subst c27
    have H1 : (some false) = some r := by rw [if_pos rfl] at H; exact H
    clear H; have H := H1; clear H1
    obtain rfl := Option.some.inj H
    go_wp2
    go_ret
    exact ⟨rfl, by repeat first | exact gB HB | refine below_set ?_ GE187.out | refine below_set ?_ GE188.out⟩
   ·replace c27 := Bool.eq_false_iff.mpr c27
    subst c27
    have H1 : (triglyphref10_Same.l0 kj2 0 a0_0 a0_1 a0_2 l0_3 l0_4 l0_5 a0_6 a1_0 a1_1 a1_2 l1_3 l1_4 l1_5 a1_6) = some r := by rw [if_neg (show ¬ (false = true) by decide)] at H; exact H
    clear H; have H := H1; clear H1
    have H' := gA H
    clear H
    go_wp2
    go_loopg [5] kj2 (fun kq v5 w' => ∃ (x5_2 : Int), v5 = .int .i64 x5_2 ∧ Aside0 (triglyphref10_Same.l0 kq x5_2 a0_0 a0_1 a0_2 l0_3 l0_4 l0_5 a0_6 a1_0 a1_1 a1_2 l1_3 l1_4 l1_5 a1_6 = some r) ∧ Aside0 (kq ≤ kj2) ∧ Aside0 (w'.heap[gb187]? = some (.cells #[.int .i64 a0_0, .int .i64 a0_1, .string a0_2, (.slice A0_3 l0_3.length c0_3), (.slice A0_4 l0_4.length c0_4), (.slice A0_5 l0_5.length c0_5), .int .i64 a0_6] 34 (0, 0))) ∧ Aside0 (w'.heap[gb188]? = some (.cells #[.int .i64 a1_0, .int .i64 a1_1, .string a1_2, (.slice A1_3 l1_3.length c1_3), (.slice A1_4 l1_4.length c1_4), (.slice A1_5 l1_5.length c1_5), .int .i64 a1_6] 34 (0, 0))) ∧ Aside0 (Below w.heap.size w w'))
    case atStart => exact ⟨(0), (rfl), H', ⟨Nat.le_refl _⟩, ⟨gK BK187⟩, ⟨gK BK188⟩, ⟨by repeat first | exact gB HB | refine below_set ?_ GE187.out | refine below_set ?_ GE188.out⟩⟩
    case round =>
     clear H'
     try clear c1
     try clear c2
     try clear p2
     try clear c6
     try clear c6b0
     try clear c6b1
     try clear c7
     try clear c7b0
     try clear c7b1
     try clear c8
     try clear c8b0
     try clear c8b1
     try clear c9
     try clear c9b0
     try clear c9b1
     try clear c9b2
     try clear c11
     try clear c15
     try clear c17
     try clear c18
     try clear c21
     try clear c24
     try clear c27
     try clear hcz12_0
     try clear hcz12_1
     try clear hcz12_2
     try clear hcz12_3
     try clear hcz12_4
     try clear hcz12_5
     try clear hcz12_6
     try clear hcz13_0
     try clear hcz13_1
     try clear hcz13_2
     try clear hcz13_3
     try clear hcz13_4
     try clear hcz13_5
     try clear hcz13_6
     try clear hcz16_0
     try clear hcz16_1
     try clear hcz16_2
     try clear hcz16_3
     try clear hcz16_4
     try clear hcz16_5
     try clear hcz16_6
     try clear hcz17_0
     try clear hcz17_1
     try clear hcz17_2
     try clear hcz17_3
     try clear hcz17_4
     try clear hcz17_5
     try clear hcz17_6
     try clear hcz19_0
     try clear hcz19_1
     try clear hcz19_2
     try clear hcz19_3
     try clear hcz19_4
     try clear hcz19_5
     try clear hcz19_6
     try clear hcz20_0
     try clear hcz20_1
     try clear hcz20_2
     try clear hcz20_3
     try clear hcz20_4
     try clear hcz20_5
     try clear hcz20_6
     try clear hcz22_0
     try clear hcz22_1
     try clear hcz22_2
     try clear hcz22_3
     try clear hcz22_4
     try clear hcz22_5
     try clear hcz22_6
     try clear hcz23_0
     try clear hcz23_1
     try clear hcz23_2
     try clear hcz23_3
     try clear hcz23_4
     try clear hcz23_5
     try clear hcz23_6
     try clear hcz25_0
     try clear hcz25_1
     try clear hcz25_2
     try clear hcz25_3
     try clear hcz25_4
     try clear hcz25_5
     try clear hcz25_6
     try clear hcz26_0
     try clear hcz26_1
     try clear hcz26_2
     try clear hcz26_3
     try clear hcz26_4
     try clear hcz26_5
     try clear hcz26_6
     try clear hfz12_0
     try clear hfz12_1
     try clear hfz12_2
     try clear hfz12_3
     try clear hfz12_4
     try clear hfz12_5
     try clear hfz12_6
     try clear hfz13_0
     try clear hfz13_1
     try clear hfz13_2
     try clear hfz13_3
     try clear hfz13_4
     try clear hfz13_5
     try clear hfz13_6
     try clear hfz16_0
     try clear hfz16_1
     try clear hfz16_2
     try clear hfz16_3
     try clear hfz16_4
     try clear hfz16_5
     try clear hfz16_6
     try clear hfz17_0
     try clear hfz17_1
     try clear hfz17_2
     try clear hfz17_3
     try clear hfz17_4
     try clear hfz17_5
     try clear hfz17_6
     try clear hfz19_0
     try clear hfz19_1
     try clear hfz19_2
     try clear hfz19_3
     try clear hfz19_4
     try clear hfz19_5
     try clear hfz19_6
     try clear hfz20_0
     try clear hfz20_1
     try clear hfz20_2
     try clear hfz20_3
     try clear hfz20_4
     try clear hfz20_5
     try clear hfz20_6
     try clear hfz22_0
     try clear hfz22_1
     try clear hfz22_2
     try clear hfz22_3
     try clear hfz22_4
     try clear hfz22_5
     try clear hfz22_6
     try clear hfz23_0
     try clear hfz23_1
     try clear hfz23_2
     try clear hfz23_3
     try clear hfz23_4
     try clear hfz23_5
     try clear hfz23_6
     try clear hfz25_0
     try clear hfz25_1
     try clear hfz25_2
     try clear hfz25_3
     try clear hfz25_4
     try clear hfz25_5
     try clear hfz25_6
     try clear hfz26_0
     try clear hfz26_1
     try clear hfz26_2
     try clear hfz26_3
     try clear hfz26_4
     try clear hfz26_5
     try clear hfz26_6
     try clear p2
     obtain ⟨x5_2, rfl, HA, HK2, BK187, BK188, HB⟩ := hrel
     cases gk with
     | zero => exact absurd HA.out (by simp [triglyphref10_Same.l0])
     | succ k2 =>
      have H := HA.out; clear HA
      simp only [triglyphref10_Same.l0] at H
      by_cases c28 : x5_2 < (l0_5.length : Int)
      ·rw [if_pos c28] at H
       have c28b0 := decide_eq_true c28
       clear c28
       obtain ⟨c29, H⟩ := iS H
       have c29b0 := decide_eq_true c29
       clear c29
       obtain ⟨c30, H⟩ := iS H
       have c30b0 := decide_eq_true c30
       clear c30
       replace H := Option.bind_eq_some_iff.mp H
       obtain ⟨t192, A310, H⟩ := H
       replace H : (if t192 = true then (triglyphref10_Same.l0 k2 (wrap64 (x5_2 + 1)) a0_0 a0_1 a0_2 l0_3 l0_4 l0_5 a0_6 a1_0 a1_1 a1_2 l1_3 l1_4 l1_5 a1_6) else (some false)) = some r := H
       have A31 := gA A310
       clear A310
       by_cases c32 : t192 = true
       ·subst c32
        have H1 : (triglyphref10_Same.l0 k2 (wrap64 (x5_2 + 1)) a0_0 a0_1 a0_2 l0_3 l0_4 l0_5 a0_6 a1_0 a1_1 a1_2 l1_3 l1_4 l1_5 a1_6) = some r := by rw [if_pos rfl] at H; exact H
        clear H; have H := H1; clear H1
        have H' := gA H
        clear H
        have hnb33 := NB187_188.out
        have hnc33 := NB188_187.out
        have hcz34_0 := gz BK187 0 rfl
        have hcz34_1 := gz BK187 1 rfl
        have hcz34_2 := gz BK187 2 rfl
        have hcz34_3 := gz BK187 3 rfl
        have hcz34_4 := gz BK187 4 rfl
        have hcz34_5 := gz BK187 5 rfl
        have hcz34_6 := gz BK187 6 rfl
        have hfz34_0 := blk_frozen BK187.out 0
        have hfz34_1 := blk_frozen BK187.out 1
        have hfz34_2 := blk_frozen BK187.out 2
        have hfz34_3 := blk_frozen BK187.out 3
        have hfz34_4 := blk_frozen BK187.out 4
        have hfz34_5 := blk_frozen BK187.out 5
        have hfz34_6 := blk_frozen BK187.out 6
        try go_wp2
        replace BK187 := gA (blk_drew BK187.out); replace BK188 := gA (blk_drew BK188.out); replace HB := gA (below_drew1 HB.out)
        have p190 : 0 ≤ (x5_2 : Int) := of_decide_eq_true (by assumption)
        have q190 : x5_2 < (l0_5.length : Int) := of_decide_eq_true (by assumption)
        obtain ⟨ad190, A190_3, c190_3, A190_4, c190_4, A190_5, c190_5, e190, hx190_0, hx190_1, hx190_2, hx190_3, hx190_4, hx190_5, hx190_6, hl190_3, hi190_3, hl190_4, hi190_4, hl190_5, hi190_5⟩ := at_T34 HR0_5.out x5_2 p190 q190
        have hw190_6 := hx190_6
        have hw190_5 := hx190_5
        have hw190_4 := hx190_4
        have hw190_3 := hx190_3
        have hw190_2 := hx190_2
        have hw190_1 := hx190_1
        have hw190_0 := hx190_0
        cases e190
        replace hx190_0 := (HB.out.cell (World.block_lt_of_cell? w _ hx190_0)).trans hx190_0
        replace hx190_1 := (HB.out.cell (World.block_lt_of_cell? w _ hx190_1)).trans hx190_1
        replace hx190_2 := (HB.out.cell (World.block_lt_of_cell? w _ hx190_2)).trans hx190_2
        replace hx190_3 := (HB.out.cell (World.block_lt_of_cell? w _ hx190_3)).trans hx190_3
        replace hx190_4 := (HB.out.cell (World.block_lt_of_cell? w _ hx190_4)).trans hx190_4
        replace hx190_5 := (HB.out.cell (World.block_lt_of_cell? w _ hx190_5)).trans hx190_5
        replace hx190_6 := (HB.out.cell (World.block_lt_of_cell? w _ hx190_6)).trans hx190_6
        have HR190_3 := gA hi190_3
        have HC190_3 := gA hl190_3
        clear hi190_3 hl190_3
        have HR190_4 := gA hi190_4
        have HC190_4 := gA hl190_4
        clear hi190_4 hl190_4
        have HR190_5 := gA hi190_5
        have HC190_5 := gA hl190_5
        clear hi190_5 hl190_5
        replace p190 := eq_true p190
        replace q190 := eq_true q190
        have p191 : 0 ≤ (x5_2 : Int) := of_decide_eq_true (by assumption)
        have q191 : x5_2 < (l1_5.length : Int) := of_decide_eq_true (by assumption)
        obtain ⟨ad191, A191_3, c191_3, A191_4, c191_4, A191_5, c191_5, e191, hx191_0, hx191_1, hx191_2, hx191_3, hx191_4, hx191_5, hx191_6, hl191_3, hi191_3, hl191_4, hi191_4, hl191_5, hi191_5⟩ := at_T34 HR1_5.out x5_2 p191 q191
        have hw191_6 := hx191_6
        have hw191_5 := hx191_5
        have hw191_4 := hx191_4
        have hw191_3 := hx191_3
        have hw191_2 := hx191_2
        have hw191_1 := hx191_1
        have hw191_0 := hx191_0
        cases e191
        replace hx191_0 := (HB.out.cell (World.block_lt_of_cell? w _ hx191_0)).trans hx191_0
        replace hx191_1 := (HB.out.cell (World.block_lt_of_cell? w _ hx191_1)).trans hx191_1
        replace hx191_2 := (HB.out.cell (World.block_lt_of_cell? w _ hx191_2)).trans hx191_2
        replace hx191_3 := (HB.out.cell (World.block_lt_of_cell? w _ hx191_3)).trans hx191_3
        replace hx191_4 := (HB.out.cell (World.block_lt_of_cell? w _ hx191_4)).trans hx191_4
        replace hx191_5 := (HB.out.cell (World.block_lt_of_cell? w _ hx191_5)).trans hx191_5
        replace hx191_6 := (HB.out.cell (World.block_lt_of_cell? w _ hx191_6)).trans hx191_6
        have HR191_3 := gA hi191_3
        have HC191_3 := gA hl191_3
        clear hi191_3 hl191_3
        have HR191_4 := gA hi191_4
        have HC191_4 := gA hl191_4
        clear hi191_4 hl191_4
        have HR191_5 := gA hi191_5
        have HC191_5 := gA hl191_5
        clear hi191_5 hl191_5
        replace p191 := eq_true p191
        replace q191 := eq_true q191
        refine start_ (n := 12) (S := fun w' => w'.cell? ⟨gb187, 0, none⟩ = some (.int .i64 a0_0) ∧ w'.cell? ⟨gb187, 1, none⟩ = some (.int .i64 a0_1) ∧ w'.cell? ⟨gb187, 2, none⟩ = some (.string a0_2) ∧ w'.cell? ⟨gb187, 3, none⟩ = some (.slice A0_3 l0_3.length c0_3) ∧ w'.cell? ⟨gb187, 4, none⟩ = some (.slice A0_4 l0_4.length c0_4) ∧ w'.cell? ⟨gb187, 5, none⟩ = some (.slice (some ad190) l0_5.length c0_5) ∧ w'.cell? ⟨gb187, 6, none⟩ = some (.int .i64 a0_6) ∧ w'.cell? ⟨gb188, 0, none⟩ = some (.int .i64 a1_0) ∧ w'.cell? ⟨gb188, 1, none⟩ = some (.int .i64 a1_1) ∧ w'.cell? ⟨gb188, 2, none⟩ = some (.string a1_2) ∧ w'.cell? ⟨gb188, 3, none⟩ = some (.slice A1_3 l1_3.length c1_3) ∧ w'.cell? ⟨gb188, 4, none⟩ = some (.slice A1_4 l1_4.length c1_4) ∧ w'.cell? ⟨gb188, 5, none⟩ = some (.slice (some ad191) l1_5.length c1_5) ∧ w'.cell? ⟨gb188, 6, none⟩ = some (.int .i64 a1_6) ∧ w'.cell? (ad190.add ((x5_2).toNat * 7)) = some (.int .i64 ((rd_T34 l0_5 x5_2).f0)) ∧ w'.cell? ⟨(ad190.add ((x5_2).toNat * 7)).block, (ad190.add ((x5_2).toNat * 7)).off + 1, none⟩ = some (.int .i64 ((rd_T34 l0_5 x5_2).f1)) ∧ w'.cell? ⟨(ad190.add ((x5_2).toNat * 7)).block, (ad190.add ((x5_2).toNat * 7)).off + 2, none⟩ = some (.string ((rd_T34 l0_5 x5_2).f2)) ∧ w'.cell? ⟨(ad190.add ((x5_2).toNat * 7)).block, (ad190.add ((x5_2).toNat * 7)).off + 3, none⟩ = some (.slice A190_3 ((rd_T34 l0_5 x5_2).f3.f0).length c190_3) ∧ w'.cell? ⟨(ad190.add ((x5_2).toNat * 7)).block, (ad190.add ((x5_2).toNat * 7)).off + 4, none⟩ = some (.slice A190_4 ((rd_T34 l0_5 x5_2).f3.f1).length c190_4) ∧ w'.cell? ⟨(ad190.add ((x5_2).toNat * 7)).block, (ad190.add ((x5_2).toNat * 7)).off + 5, none⟩ = some (.slice A190_5 ((rd_T34 l0_5 x5_2).f4).length c190_5) ∧ w'.cell? ⟨(ad190.add ((x5_2).toNat * 7)).block, (ad190.add ((x5_2).toNat * 7)).off + 6, none⟩ = some (.int .i64 ((rd_T34 l0_5 x5_2).f5)) ∧ w'.cell? (ad191.add ((x5_2).toNat * 7)) = some (.int .i64 ((rd_T34 l1_5 x5_2).f0)) ∧ w'.cell? ⟨(ad191.add ((x5_2).toNat * 7)).block, (ad191.add ((x5_2).toNat * 7)).off + 1, none⟩ = some (.int .i64 ((rd_T34 l1_5 x5_2).f1)) ∧ w'.cell? ⟨(ad191.add ((x5_2).toNat * 7)).block, (ad191.add ((x5_2).toNat * 7)).off + 2, none⟩ = some (.string ((rd_T34 l1_5 x5_2).f2)) ∧ w'.cell? ⟨(ad191.add ((x5_2).toNat * 7)).block, (ad191.add ((x5_2).toNat * 7)).off + 3, none⟩ = some (.slice A191_3 ((rd_T34 l1_5 x5_2).f3.f0).length c191_3) ∧ w'.cell? ⟨(ad191.add ((x5_2).toNat * 7)).block, (ad191.add ((x5_2).toNat * 7)).off + 4, none⟩ = some (.slice A191_4 ((rd_T34 l1_5 x5_2).f3.f1).length c191_4) ∧ w'.cell? ⟨(ad191.add ((x5_2).toNat * 7)).block, (ad191.add ((x5_2).toNat * 7)).off + 5, none⟩ = some (.slice A191_5 ((rd_T34 l1_5 x5_2).f4).length c191_5) ∧ w'.cell? ⟨(ad191.add ((x5_2).toNat * 7)).block, (ad191.add ((x5_2).toNat * 7)).off + 6, none⟩ = some (.int .i64 ((rd_T34 l1_5 x5_2).f5))) (ds := []) #[false, false, false, false, false, false, false, false, false, false, false, false] (by kernel_rfl) rfl rfl ⟨(blk_cell BK187.out 0).trans rfl, (blk_cell BK187.out 1).trans rfl, (blk_cell BK187.out 2).trans rfl, (blk_cell BK187.out 3).trans rfl, (blk_cell BK187.out 4).trans rfl, (blk_cell BK187.out 5).trans rfl, (blk_cell BK187.out 6).trans rfl, (blk_cell BK188.out 0).trans rfl, (blk_cell BK188.out 1).trans rfl, (blk_cell BK188.out 2).trans rfl, (blk_cell BK188.out 3).trans rfl, (blk_cell BK188.out 4).trans rfl, (blk_cell BK188.out 5).trans rfl, (blk_cell BK188.out 6).trans rfl, ((HB.out.cell (World.block_lt_of_cell? w _ hw190_0)).trans hw190_0), ((HB.out.cell (World.block_lt_of_cell? w _ hw190_1)).trans hw190_1), ((HB.out.cell (World.block_lt_of_cell? w _ hw190_2)).trans hw190_2), ((HB.out.cell (World.block_lt_of_cell? w _ hw190_3)).trans hw190_3), ((HB.out.cell (World.block_lt_of_cell? w _ hw190_4)).trans hw190_4), ((HB.out.cell (World.block_lt_of_cell? w _ hw190_5)).trans hw190_5), ((HB.out.cell (World.block_lt_of_cell? w _ hw190_6)).trans hw190_6), ((HB.out.cell (World.block_lt_of_cell? w _ hw191_0)).trans hw191_0), ((HB.out.cell (World.block_lt_of_cell? w _ hw191_1)).trans hw191_1), ((HB.out.cell (World.block_lt_of_cell? w _ hw191_2)).trans hw191_2), ((HB.out.cell (World.block_lt_of_cell? w _ hw191_3)).trans hw191_3), ((HB.out.cell (World.block_lt_of_cell? w _ hw191_4)).trans hw191_4), ((HB.out.cell (World.block_lt_of_cell? w _ hw191_5)).trans hw191_5), ((HB.out.cell (World.block_lt_of_cell? w _ hw191_6)).trans hw191_6)⟩ (fun hHeld => ?_); refine with_tabW triglyphref10_Same.tab6 triglyphref10_Same.bits6 (fun HT_ HW_ => ?_)
        generalize wr.drew = w35 at BK187 BK188 HB HR190_3 HR190_4 HR190_5 HR191_3 HR191_4 HR191_5 hx190_0 hx190_1 hx190_2 hx190_3 hx190_4 hx190_5 hx190_6 hx191_0 hx191_1 hx191_2 hx191_3 hx191_4 hx191_5 hx191_6 hHeld ⊢
        refine pure_ (i := 0) (N := some 49) (v := ?_) (a' := ?_) #[true, false, false, false, false, false, false, false, false, false, false, false] rfl rfl (any_of HT_.out (by kernel_rfl)) (fun _ _ _ h => h) (Or.inl ⟨by rfl, ?_⟩) ?_ ?_; rotate_left
        ·intro w'; go_simp; with_reducible rfl
        rotate_left
        ·simp only [Act.put, List.setIfInBounds_toArray, List.set_cons_zero, List.set_cons_succ, i64_w, i32_w]; rfl
        refine pure_ (i := 2) (N := some 51) (v := ?_) (a' := ?_) #[true, false, true, false, false, false, false, false, false, false, false, false] rfl rfl (any_of HT_.out (by kernel_rfl)) (fun _ _ _ h => h) (Or.inl ⟨by rfl, ?_⟩) ?_ ?_; rotate_left
        ·intro w'; go_simp; with_reducible rfl
        rotate_left
        ·simp only [Act.put, List.setIfInBounds_toArray, List.set_cons_zero, List.set_cons_succ, i64_w, i32_w]; rfl
        refine pure_ (i := 5) (N := some 54) (v := ?_) (a' := ?_) #[true, false, true, false, false, true, false, false, false, false, false, false] rfl rfl (any_of HT_.out (by kernel_rfl)) (fun _ _ _ h => h) (Or.inl ⟨by rfl, ?_⟩) ?_ ?_; rotate_left
        ·intro w'; go_simp; with_reducible rfl
        rotate_left
        ·simp only [Act.put, List.setIfInBounds_toArray, List.set_cons_zero, List.set_cons_succ, i64_w, i32_w]; rfl
        refine pure_ (i := 7) (N := some 56) (v := ?_) (a' := ?_) #[true, false, true, false, false, true, false, true, false, false, false, false] rfl rfl (any_of HT_.out (by kernel_rfl)) (fun _ _ _ h => h) (Or.inl ⟨by rfl, ?_⟩) ?_ ?_; rotate_left
        ·intro w'; go_simp; with_reducible rfl
        rotate_left
        ·simp only [Act.put, List.setIfInBounds_toArray, List.set_cons_zero, List.set_cons_succ, i64_w, i32_w]; rfl
        refine take_ (i := 1) (N := some 50) (v := ?_) (a' := ?_) #[true, true, true, false, false, true, false, true, false, false, false, false] rfl rfl (take_ofW HT_.out HW_.out (by kernel_rfl)) (fun _ _ _ h => h) (Or.inl ⟨by rfl, ?_⟩) hHeld ?_ ?_; rotate_left
        ·rintro w' ⟨s0, s1, s2, s3, s4, s5, s6, s7, s8, s9, s10, s11, s12, s13, s14, s15, s16, s17, s18, s19, s20, s21, s22, s23, s24, s25, s26, s27⟩; go_simp; with_reducible rfl
        rotate_left
        ·simp only [Act.put, List.setIfInBounds_toArray, List.set_cons_zero, List.set_cons_succ, i64_w, i32_w]; rfl
        refine pure_ (i := 3) (N := some 52) (v := ?_) (a' := ?_) #[true, true, true, true, false, true, false, true, false, false, false, false] rfl rfl (any_of HT_.out (by kernel_rfl)) (fun _ _ _ h => h) (Or.inl ⟨by rfl, ?_⟩) ?_ ?_; rotate_left
        ·intro w'; go_simp; with_reducible rfl
        rotate_left
        ·simp only [Act.put, List.setIfInBounds_toArray, List.set_cons_zero, List.set_cons_succ, i64_w, i32_w]; rfl
        refine take_ (i := 4) (N := some 53) (v := ?_) (a' := ?_) #[true, true, true, true, true, true, false, true, false, false, false, false] rfl rfl (take_ofW HT_.out HW_.out (by kernel_rfl)) (fun _ _ _ h => h) (Or.inl ⟨by rfl, ?_⟩) hHeld ?_ ?_; rotate_left
        ·rintro w' ⟨s0, s1, s2, s3, s4, s5, s6, s7, s8, s9, s10, s11, s12, s13, s14, s15, s16, s17, s18, s19, s20, s21, s22, s23, s24, s25, s26, s27⟩; go_simp; with_reducible rfl
        rotate_left
        ·simp only [Act.put, List.setIfInBounds_toArray, List.set_cons_zero, List.set_cons_succ, i64_w, i32_w]; rfl
        refine take_ (i := 6) (N := some 55) (v := ?_) (a' := ?_) #[true, true, true, true, true, true, true, true, false, false, false, false] rfl rfl (take_ofW HT_.out HW_.out (by kernel_rfl)) (fun _ _ _ h => h) (Or.inl ⟨by rfl, ?_⟩) hHeld ?_ ?_; rotate_left
        ·rintro w' ⟨s0, s1, s2, s3, s4, s5, s6, s7, s8, s9, s10, s11, s12, s13, s14, s15, s16, s17, s18, s19, s20, s21, s22, s23, s24, s25, s26, s27⟩; go_simp; with_reducible rfl
        rotate_left
        ·simp only [Act.put, List.setIfInBounds_toArray, List.set_cons_zero, List.set_cons_succ, i64_w, i32_w]; rfl
        refine pure_ (i := 8) (N := some 57) (v := ?_) (a' := ?_) #[true, true, true, true, true, true, true, true, true, false, false, false] rfl rfl (any_of HT_.out (by kernel_rfl)) (fun _ _ _ h => h) (Or.inl ⟨by rfl, ?_⟩) ?_ ?_; rotate_left
        ·intro w'; go_simp; with_reducible rfl
        rotate_left
        ·simp only [Act.put, List.setIfInBounds_toArray, List.set_cons_zero, List.set_cons_succ, i64_w, i32_w]; rfl
        refine take_ (i := 9) (N := some 58) (v := ?_) (a' := ?_) #[true, true, true, true, true, true, true, true, true, true, false, false] rfl rfl (take_ofW HT_.out HW_.out (by kernel_rfl)) (fun _ _ _ h => h) (Or.inl ⟨by rfl, ?_⟩) hHeld ?_ ?_; rotate_left
        ·rintro w' ⟨s0, s1, s2, s3, s4, s5, s6, s7, s8, s9, s10, s11, s12, s13, s14, s15, s16, s17, s18, s19, s20, s21, s22, s23, s24, s25, s26, s27⟩; go_simp; with_reducible rfl
        rotate_left
        ·simp only [Act.put, List.setIfInBounds_toArray, List.set_cons_zero, List.set_cons_succ, i64_w, i32_w]; rfl
        refine one_ (i := 10) (N := some 59) #[true, true, true, true, true, true, true, true, true, true, true, false] rfl rfl (one_of HT_.out (by kernel_rfl)) (by decide) (fun K hK => ?_)
        refine goes_ Try.func17 (by kernel_rfl) rfl #[.agg #[.int .i64 ((rd_T34 l0_5 x5_2).f0), .int .i64 ((rd_T34 l0_5 x5_2).f1), .string ((rd_T34 l0_5 x5_2).f2), .slice A190_3 ((rd_T34 l0_5 x5_2).f3.f0).length c190_3, .slice A190_4 ((rd_T34 l0_5 x5_2).f3.f1).length c190_4, .slice A190_5 ((rd_T34 l0_5 x5_2).f4).length c190_5, .int .i64 ((rd_T34 l0_5 x5_2).f5)], .agg #[.int .i64 ((rd_T34 l1_5 x5_2).f0), .int .i64 ((rd_T34 l1_5 x5_2).f1), .string ((rd_T34 l1_5 x5_2).f2), .slice A191_3 ((rd_T34 l1_5 x5_2).f3.f0).length c191_3, .slice A191_4 ((rd_T34 l1_5 x5_2).f3.f1).length c191_4, .slice A191_5 ((rd_T34 l1_5 x5_2).f4).length c191_5, .int .i64 ((rd_T34 l1_5 x5_2).f5)]] (by rfl) rfl rfl (by (try simp only [List.map_toArray, List.map_cons, List.map_nil]); first | done | rfl | (simp only [List.length_drop, List.length_take]; rfl)) ?_
        with_reducible refine (ih k2 (by have := HJ2.out; have := HK2.out; omega) ((rd_T34 l0_5 x5_2).f0) ((rd_T34 l0_5 x5_2).f1) ((rd_T34 l0_5 x5_2).f2) _ _ ((rd_T34 l0_5 x5_2).f3.f0) _ _ ((rd_T34 l0_5 x5_2).f3.f1) _ _ ((rd_T34 l0_5 x5_2).f4) ((rd_T34 l0_5 x5_2).f5) ((rd_T34 l1_5 x5_2).f0) ((rd_T34 l1_5 x5_2).f1) ((rd_T34 l1_5 x5_2).f2) _ _ ((rd_T34 l1_5 x5_2).f3.f0) _ _ ((rd_T34 l1_5 x5_2).f3.f1) _ _ ((rd_T34 l1_5 x5_2).f4) ((rd_T34 l1_5 x5_2).f5) true _ ?side1 ?side2 ?side3 ?side4 ?side5 ?side6 ?side7 ?side8 ?side9 ?side10 ?side11 ?side12 A31.out).mono ?_
        (case side1 => exact gC HR190_3 HB)
        (case side2 => exact HC190_3.out)
        (case side3 => exact gC HR190_4 HB)
        (case side4 => exact HC190_4.out)
        (case side5 => exact gC HR190_5 HB)
        (case side6 => exact HC190_5.out)
        (case side7 => exact gC HR191_3 HB)
        (case side8 => exact HC191_3.out)
        (case side9 => exact gC HR191_4 HB)
        (case side10 => exact HC191_4.out)
        (case side11 => exact gC HR191_5 HB)
        (case side12 => exact HC191_5.out)
        rintro e w36 ⟨rfl, hb⟩
        refine ⟨_, rfl, ?_⟩
        replace BK187 := gA (blk_below (gK BK187) hb); replace BK188 := gA (blk_below (gK BK188) hb); replace HB := gA (below_step (gB HB) hb); (try clear hb)
        refine hK.out _ _ ⟨(blk_cell BK187.out 0).trans rfl, (blk_cell BK187.out 1).trans rfl, (blk_cell BK187.out 2).trans rfl, (blk_cell BK187.out 3).trans rfl, (blk_cell BK187.out 4).trans rfl, (blk_cell BK187.out 5).trans rfl, (blk_cell BK187.out 6).trans rfl, (blk_cell BK188.out 0).trans rfl, (blk_cell BK188.out 1).trans rfl, (blk_cell BK188.out 2).trans rfl, (blk_cell BK188.out 3).trans rfl, (blk_cell BK188.out 4).trans rfl, (blk_cell BK188.out 5).trans rfl, (blk_cell BK188.out 6).trans rfl, ((HB.out.cell (World.block_lt_of_cell? w _ hw190_0)).trans hw190_0), ((HB.out.cell (World.block_lt_of_cell? w _ hw190_1)).trans hw190_1), ((HB.out.cell (World.block_lt_of_cell? w _ hw190_2)).trans hw190_2), ((HB.out.cell (World.block_lt_of_cell? w _ hw190_3)).trans hw190_3), ((HB.out.cell (World.block_lt_of_cell? w _ hw190_4)).trans hw190_4), ((HB.out.cell (World.block_lt_of_cell? w _ hw190_5)).trans hw190_5), ((HB.out.cell (World.block_lt_of_cell? w _ hw190_6)).trans hw190_6), ((HB.out.cell (World.block_lt_of_cell? w _ hw191_0)).trans hw191_0), ((HB.out.cell (World.block_lt_of_cell? w _ hw191_1)).trans hw191_1), ((HB.out.cell (World.block_lt_of_cell? w _ hw191_2)).trans hw191_2), ((HB.out.cell (World.block_lt_of_cell? w _ hw191_3)).trans hw191_3), ((HB.out.cell (World.block_lt_of_cell? w _ hw191_4)).trans hw191_4), ((HB.out.cell (World.block_lt_of_cell? w _ hw191_5)).trans hw191_5), ((HB.out.cell (World.block_lt_of_cell? w _ hw191_6)).trans hw191_6)⟩ (fun hHeld => ?_); clear hK K
        refine norm_ (a' := ?_) ?_ ?_; rotate_left
        ·show Act.put _ (some 59) _ = _
         simp only [Act.put, List.setIfInBounds_toArray, List.set_cons_zero, List.set_cons_succ, i64_w, i32_w]; rfl
        refine pure_ (i := 11) (N := some 60) (v := ?_) (a' := ?_) #[true, true, true, true, true, true, true, true, true, true, true, true] rfl rfl (any_of HT_.out (by kernel_rfl)) (fun _ _ _ h => h) (Or.inl ⟨by rfl, ?_⟩) ?_ ?_; rotate_left
        ·intro w'; go_simp; with_reducible rfl
        rotate_left
        ·simp only [Act.put, List.setIfInBounds_toArray, List.set_cons_zero, List.set_cons_succ, i64_w, i32_w]; rfl
        refine done_ (done_of HT_.out (by kernel_rfl)) ?_
        try go_wp2
        go_roundg k2
        case measure => have := HJ2.out; have := HK2.out; omega
        case rel => exact ⟨(wrap64 (x5_2 + 1)), (rfl), H', ⟨by have := HJ2.out; have := HK2.out; omega⟩, ⟨gK BK187⟩, ⟨gK BK188⟩, ⟨gB HB⟩⟩
       ·replace c32 := Bool.eq_false_iff.mpr c32
        subst c32
        have H1 : (some false) = some r := by rw [if_neg (show ¬ (false = true) by decide)] at H; exact H
        clear H; have H := H1; clear H1
        obtain rfl := Option.some.inj H
        have hnb37 := NB187_188.out
        have hnc37 := NB188_187.out
        have hcz38_0 := gz BK187 0 rfl
        have hcz38_1 := gz BK187 1 rfl
        have hcz38_2 := gz BK187 2 rfl
        have hcz38_3 := gz BK187 3 rfl
        have hcz38_4 := gz BK187 4 rfl
        have hcz38_5 := gz BK187 5 rfl
        have hcz38_6 := gz BK187 6 rfl
        have hfz38_0 := blk_frozen BK187.out 0
        have hfz38_1 := blk_frozen BK187.out 1
        have hfz38_2 := blk_frozen BK187.out 2
        have hfz38_3 := blk_frozen BK187.out 3
        have hfz38_4 := blk_frozen BK187.out 4
        have hfz38_5 := blk_frozen BK187.out 5
        have hfz38_6 := blk_frozen BK187.out 6
        try go_wp2
        replace BK187 := gA (blk_drew BK187.out); replace BK188 := gA (blk_drew BK188.out); replace HB := gA (below_drew1 HB.out)
        have p190 : 0 ≤ (x5_2 : Int) := of_decide_eq_true (by assumption)
        have q190 : x5_2 < (l0_5.length : Int) := of_decide_eq_true (by assumption)
        obtain ⟨ad190, A190_3, c190_3, A190_4, c190_4, A190_5, c190_5, e190, hx190_0, hx190_1, hx190_2, hx190_3, hx190_4, hx190_5, hx190_6, hl190_3, hi190_3, hl190_4, hi190_4, hl190_5, hi190_5⟩ := at_T34 HR0_5.out x5_2 p190 q190
        have hw190_6 := hx190_6
        have hw190_5 := hx190_5
        have hw190_4 := hx190_4
        have hw190_3 := hx190_3
        have hw190_2 := hx190_2
        have hw190_1 := hx190_1
        have hw190_0 := hx190_0
        cases e190
        replace hx190_0 := (HB.out.cell (World.block_lt_of_cell? w _ hx190_0)).trans hx190_0
        replace hx190_1 := (HB.out.cell (World.block_lt_of_cell? w _ hx190_1)).trans hx190_1
        replace hx190_2 := (HB.out.cell (World.block_lt_of_cell? w _ hx190_2)).trans hx190_2
        replace hx190_3 := (HB.out.cell (World.block_lt_of_cell? w _ hx190_3)).trans hx190_3
        replace hx190_4 := (HB.out.cell (World.block_lt_of_cell? w _ hx190_4)).trans hx190_4
        replace hx190_5 := (HB.out.cell (World.block_lt_of_cell? w _ hx190_5)).trans hx190_5
        replace hx190_6 := (HB.out.cell (World.block_lt_of_cell? w _ hx190_6)).trans hx190_6
        have HR190_3 := gA hi190_3
        have HC190_3 := gA hl190_3
        clear hi190_3 hl190_3
        have HR190_4 := gA hi190_4
        have HC190_4 := gA hl190_4
        clear hi190_4 hl190_4
        have HR190_5 := gA hi190_5
        have HC190_5 := gA hl190_5
        clear hi190_5 hl190_5
        replace p190 := eq_true p190
        replace q190 := eq_true q190
        have p191 : 0 ≤ (x5_2 : Int) := of_decide_eq_true (by assumption)
        have q191 : x5_2 < (l1_5.length : Int) := of_decide_eq_true (by assumption)
        obtain ⟨ad191, A191_3, c191_3, A191_4, c191_4, A191_5, c191_5, e191, hx191_0, hx191_1, hx191_2, hx191_3, hx191_4, hx191_5, hx191_6, hl191_3, hi191_3, hl191_4, hi191_4, hl191_5, hi191_5⟩ := at_T34 HR1_5.out x5_2 p191 q191
        have hw191_6 := hx191_6
        have hw191_5 := hx191_5
        have hw191_4 := hx191_4
        have hw191_3 := hx191_3
        have hw191_2 := hx191_2
        have hw191_1 := hx191_1
        have hw191_0 := hx191_0
        cases e191
        replace hx191_0 := (HB.out.cell (World.block_lt_of_cell? w _ hx191_0)).trans hx191_0
        replace hx191_1 := (HB.out.cell (World.block_lt_of_cell? w _ hx191_1)).trans hx191_1
        replace hx191_2 := (HB.out.cell (World.block_lt_of_cell? w _ hx191_2)).trans hx191_2
        replace hx191_3 := (HB.out.cell (World.block_lt_of_cell? w _ hx191_3)).trans hx191_3
        replace hx191_4 := (HB.out.cell (World.block_lt_of_cell? w _ hx191_4)).trans hx191_4
        replace hx191_5 := (HB.out.cell (World.block_lt_of_cell? w _ hx191_5)).trans hx191_5
        replace hx191_6 := (HB.out.cell (World.block_lt_of_cell? w _ hx191_6)).trans hx191_6
        have HR191_3 := gA hi191_3
        have HC191_3 := gA hl191_3
        clear hi191_3 hl191_3
        have HR191_4 := gA hi191_4
        have HC191_4 := gA hl191_4
        clear hi191_4 hl191_4
        have HR191_5 := gA hi191_5
        have HC191_5 := gA hl191_5
        clear hi191_5 hl191_5
        replace p191 := eq_true p191
        replace q191 := eq_true q191
        refine start_ (n := 12) (S := fun w' => w'.cell? ⟨gb187, 0, none⟩ = some (.int .i64 a0_0) ∧ w'.cell? ⟨gb187, 1, none⟩ = some (.int .i64 a0_1) ∧ w'.cell? ⟨gb187, 2, none⟩ = some (.string a0_2) ∧ w'.cell? ⟨gb187, 3, none⟩ = some (.slice A0_3 l0_3.length c0_3) ∧ w'.cell? ⟨gb187, 4, none⟩ = some (.slice A0_4 l0_4.length c0_4) ∧ w'.cell? ⟨gb187, 5, none⟩ = some (.slice (some ad190) l0_5.length c0_5) ∧ w'.cell? ⟨gb187, 6, none⟩ = some (.int .i64 a0_6) ∧ w'.cell? ⟨gb188, 0, none⟩ = some (.int .i64 a1_0) ∧ w'.cell? ⟨gb188, 1, none⟩ = some (.int .i64 a1_1) ∧ w'.cell? ⟨gb188, 2, none⟩ = some (.string a1_2) ∧ w'.cell? ⟨gb188, 3, none⟩ = some (.slice A1_3 l1_3.length c1_3) ∧ w'.cell? ⟨gb188, 4, none⟩ = some (.slice A1_4 l1_4.length c1_4) ∧ w'.cell? ⟨gb188, 5, none⟩ = some (.slice (some ad191) l1_5.length c1_5) ∧ w'.cell? ⟨gb188, 6, none⟩ = some (.int .i64 a1_6) ∧ w'.cell? (ad190.add ((x5_2).toNat * 7)) = some (.int .i64 ((rd_T34 l0_5 x5_2).f0)) ∧ w'.cell? ⟨(ad190.add ((x5_2).toNat * 7)).block, (ad190.add ((x5_2).toNat * 7)).off + 1, none⟩ = some (.int .i64 ((rd_T34 l0_5 x5_2).f1)) ∧ w'.cell? ⟨(ad190.add ((x5_2).toNat * 7)).block, (ad190.add ((x5_2).toNat * 7)).off + 2, none⟩ = some (.string ((rd_T34 l0_5 x5_2).f2)) ∧ w'.cell? ⟨(ad190.add ((x5_2).toNat * 7)).block, (ad190.add ((x5_2).toNat * 7)).off + 3, none⟩ = some (.slice A190_3 ((rd_T34 l0_5 x5_2).f3.f0).length c190_3) ∧ w'.cell? ⟨(ad190.add ((x5_2).toNat * 7)).block, (ad190.add ((x5_2).toNat * 7)).off + 4, none⟩ = some (.slice A190_4 ((rd_T34 l0_5 x5_2).f3.f1).length c190_4) ∧ w'.cell? ⟨(ad190.add ((x5_2).toNat * 7)).block, (ad190.add ((x5_2).toNat * 7)).off + 5, none⟩ = some (.slice A190_5 ((rd_T34 l0_5 x5_2).f4).length c190_5) ∧ w'.cell? ⟨(ad190.add ((x5_2).toNat * 7)).block, (ad190.add ((x5_2).toNat * 7)).off + 6, none⟩ = some (.int .i64 ((rd_T34 l0_5 x5_2).f5)) ∧ w'.cell? (ad191.add ((x5_2).toNat * 7)) = some (.int .i64 ((rd_T34 l1_5 x5_2).f0)) ∧ w'.cell? ⟨(ad191.add ((x5_2).toNat * 7)).block, (ad191.add ((x5_2).toNat * 7)).off + 1, none⟩ = some (.int .i64 ((rd_T34 l1_5 x5_2).f1)) ∧ w'.cell? ⟨(ad191.add ((x5_2).toNat * 7)).block, (ad191.add ((x5_2).toNat * 7)).off + 2, none⟩ = some (.string ((rd_T34 l1_5 x5_2).f2)) ∧ w'.cell? ⟨(ad191.add ((x5_2).toNat * 7)).block, (ad191.add ((x5_2).toNat * 7)).off + 3, none⟩ = some (.slice A191_3 ((rd_T34 l1_5 x5_2).f3.f0).length c191_3) ∧ w'.cell? ⟨(ad191.add ((x5_2).toNat * 7)).block, (ad191.add ((x5_2).toNat * 7)).off + 4, none⟩ = some (.slice A191_4 ((rd_T34 l1_5 x5_2).f3.f1).length c191_4) ∧ w'.cell? ⟨(ad191.add ((x5_2).toNat * 7)).block, (ad191.add ((x5_2).toNat * 7)).off + 5, none⟩ = some (.slice A191_5 ((rd_T34 l1_5 x5_2).f4).length c191_5) ∧ w'.cell? ⟨(ad191.add ((x5_2).toNat * 7)).block, (ad191.add ((x5_2).toNat * 7)).off + 6, none⟩ = some (.int .i64 ((rd_T34 l1_5 x5_2).f5))) (ds := []) #[false, false, false, false, false, false, false, false, false, false, false, false] (by kernel_rfl) rfl rfl ⟨(blk_cell BK187.out 0).trans rfl, (blk_cell BK187.out 1).trans rfl, (blk_cell BK187.out 2).trans rfl, (blk_cell BK187.out 3).trans rfl, (blk_cell BK187.out 4).trans rfl, (blk_cell BK187.out 5).trans rfl, (blk_cell BK187.out 6).trans rfl, (blk_cell BK188.out 0).trans rfl, (blk_cell BK188.out 1).trans rfl, (blk_cell BK188.out 2).trans rfl, (blk_cell BK188.out 3).trans rfl, (blk_cell BK188.out 4).trans rfl, (blk_cell BK188.out 5).trans rfl, (blk_cell BK188.out 6).trans rfl, ((HB.out.cell (World.block_lt_of_cell? w _ hw190_0)).trans hw190_0), ((HB.out.cell (World.block_lt_of_cell? w _ hw190_1)).trans hw190_1), ((HB.out.cell (World.block_lt_of_cell? w _ hw190_2)).trans hw190_2), ((HB.out.cell (World.block_lt_of_cell? w _ hw190_3)).trans hw190_3), ((HB.out.cell (World.block_lt_of_cell? w _ hw190_4)).trans hw190_4), ((HB.out.cell (World.block_lt_of_cell? w _ hw190_5)).trans hw190_5), ((HB.out.cell (World.block_lt_of_cell? w _ hw190_6)).trans hw190_6), ((HB.out.cell (World.block_lt_of_cell? w _ hw191_0)).trans hw191_0), ((HB.out.cell (World.block_lt_of_cell? w _ hw191_1)).trans hw191_1), ((HB.out.cell (World.block_lt_of_cell? w _ hw191_2)).trans hw191_2), ((HB.out.cell (World.block_lt_of_cell? w _ hw191_3)).trans hw191_3), ((HB.out.cell (World.block_lt_of_cell? w _ hw191_4)).trans hw191_4), ((HB.out.cell (World.block_lt_of_cell? w _ hw191_5)).trans hw191_5), ((HB.out.cell (World.block_lt_of_cell? w _ hw191_6)).trans hw191_6)⟩ (fun hHeld => ?_); refine with_tabW triglyphref10_Same.tab6 triglyphref10_Same.bits6 (fun HT_ HW_ => ?_)
        generalize wr.drew = w39 at BK187 BK188 HB HR190_3 HR190_4 HR190_5 HR191_3 HR191_4 HR191_5 hx190_0 hx190_1 hx190_2 hx190_3 hx190_4 hx190_5 hx190_6 hx191_0 hx191_1 hx191_2 hx191_3 hx191_4 hx191_5 hx191_6 hHeld ⊢
        refine pure_ (i := 0) (N := some 49) (v := ?_) (a' := ?_) #[true, false, false, false, false, false, false, false, false, false, false, false] rfl rfl (any_of HT_.out (by kernel_rfl)) (fun _ _ _ h => h) (Or.inl ⟨by rfl, ?_⟩) ?_ ?_; rotate_left
        ·intro w'; go_simp; with_reducible rfl
        rotate_left
        ·simp only [Act.put, List.setIfInBounds_toArray, List.set_cons_zero, List.set_cons_succ, i64_w, i32_w]; rfl
        refine pure_ (i := 2) (N := some 51) (v := ?_) (a' := ?_) #[true, false, true, false, false, false, false, false, false, false, false, false] rfl rfl (any_of HT_.out (by kernel_rfl)) (fun _ _ _ h => h) (Or.inl ⟨by rfl, ?_⟩) ?_ ?_; rotate_left
        ·intro w'; go_simp; with_reducible rfl
        rotate_left
        ·simp only [Act.put, List.setIfInBounds_toArray, List.set_cons_zero, List.set_cons_succ, i64_w, i32_w]; rfl
        refine pure_ (i := 5) (N := some 54) (v := ?_) (a' := ?_) #[true, false, true, false, false, true, false, false, false, false, false, false] rfl rfl (any_of HT_.out (by kernel_rfl)) (fun _ _ _ h => h) (Or.inl ⟨by rfl, ?_⟩) ?_ ?_; rotate_left
        ·intro w'; go_simp; with_reducible rfl
        rotate_left
        ·simp only [Act.put, List.setIfInBounds_toArray, List.set_cons_zero, List.set_cons_succ, i64_w, i32_w]; rfl
        refine pure_ (i := 7) (N := some 56) (v := ?_) (a' := ?_) #[true, false, true, false, false, true, false, true, false, false, false, false] rfl rfl (any_of HT_.out (by kernel_rfl)) (fun _ _ _ h => h) (Or.inl ⟨by rfl, ?_⟩) ?_ ?_; rotate_left
        ·intro w'; go_simp; with_reducible rfl
        rotate_left
        ·simp only [Act.put, List.setIfInBounds_toArray, List.set_cons_zero, List.set_cons_succ, i64_w, i32_w]; rfl
        refine take_ (i := 1) (N := some 50) (v := ?_) (a' := ?_) #[true, true, true, false, false, true, false, true, false, false, false, false] rfl rfl (take_ofW HT_.out HW_.out (by kernel_rfl)) (fun _ _ _ h => h) (Or.inl ⟨by rfl, ?_⟩) hHeld ?_ ?_; rotate_left
        ·rintro w' ⟨s0, s1, s2, s3, s4, s5, s6, s7, s8, s9, s10, s11, s12, s13, s14, s15, s16, s17, s18, s19, s20, s21, s22, s23, s24, s25, s26, s27⟩; go_simp; with_reducible rfl
        rotate_left
        ·simp only [Act.put, List.setIfInBounds_toArray, List.set_cons_zero, List.set_cons_succ, i64_w, i32_w]; rfl
        refine pure_ (i := 3) (N := some 52) (v := ?_) (a' := ?_) #[true, true, true, true, false, true, false, true, false, false, false, false] rfl rfl (any_of HT_.out (by kernel_rfl)) (fun _ _ _ h => h) (Or.inl ⟨by rfl, ?_⟩) ?_ ?_; rotate_left
        ·intro w'; go_simp; with_reducible rfl
        rotate_left
        ·simp only [Act.put, List.setIfInBounds_toArray, List.set_cons_zero, List.set_cons_succ, i64_w, i32_w]; rfl
        refine take_ (i := 4) (N := some 53) (v := ?_) (a' := ?_) #[true, true, true, true, true, true, false, true, false, false, false, false] rfl rfl (take_ofW HT_.out HW_.out (by kernel_rfl)) (fun _ _ _ h => h) (Or.inl ⟨by rfl, ?_⟩) hHeld ?_ ?_; rotate_left
        ·rintro w' ⟨s0, s1, s2, s3, s4, s5, s6, s7, s8, s9, s10, s11, s12, s13, s14, s15, s16, s17, s18, s19, s20, s21, s22, s23, s24, s25, s26, s27⟩; go_simp; with_reducible rfl
        rotate_left
        ·simp only [Act.put, List.setIfInBounds_toArray, List.set_cons_zero, List.set_cons_succ, i64_w, i32_w]; rfl
        refine take_ (i := 6) (N := some 55) (v := ?_) (a' := ?_) #[true, true, true, true, true, true, true, true, false, false, false, false] rfl rfl (take_ofW HT_.out HW_.out (by kernel_rfl)) (fun _ _ _ h => h) (Or.inl ⟨by rfl, ?_⟩) hHeld ?_ ?_; rotate_left
        ·rintro w' ⟨s0, s1, s2, s3, s4, s5, s6, s7, s8, s9, s10, s11, s12, s13, s14, s15, s16, s17, s18, s19, s20, s21, s22, s23, s24, s25, s26, s27⟩; go_simp; with_reducible rfl
        rotate_left
        ·simp only [Act.put, List.setIfInBounds_toArray, List.set_cons_zero, List.set_cons_succ, i64_w, i32_w]; rfl
        refine pure_ (i := 8) (N := some 57) (v := ?_) (a' := ?_) #[true, true, true, true, true, true, true, true, true, false, false, false] rfl rfl (any_of HT_.out (by kernel_rfl)) (fun _ _ _ h => h) (Or.inl ⟨by rfl, ?_⟩) ?_ ?_; rotate_left
        ·intro w'; go_simp; with_reducible rfl
        rotate_left
        ·simp only [Act.put, List.setIfInBounds_toArray, List.set_cons_zero, List.set_cons_succ, i64_w, i32_w]; rfl
        refine take_ (i := 9) (N := some 58) (v := ?_) (a' := ?_) #[true, true, true, true, true, true, true, true, true, true, false, false] rfl rfl (take_ofW HT_.out HW_.out (by kernel_rfl)) (fun _ _ _ h => h) (Or.inl ⟨by rfl, ?_⟩) hHeld ?_ ?_; rotate_left
        ·rintro w' ⟨s0, s1, s2, s3, s4, s5, s6, s7, s8, s9, s10, s11, s12, s13, s14, s15, s16, s17, s18, s19, s20, s21, s22, s23, s24, s25, s26, s27⟩; go_simp; with_reducible rfl
        rotate_left
        ·simp only [Act.put, List.setIfInBounds_toArray, List.set_cons_zero, List.set_cons_succ, i64_w, i32_w]; rfl
        refine one_ (i := 10) (N := some 59) #[true, true, true, true, true, true, true, true, true, true, true, false] rfl rfl (one_of HT_.out (by kernel_rfl)) (by decide) (fun K hK => ?_)
        refine goes_ Try.func17 (by kernel_rfl) rfl #[.agg #[.int .i64 ((rd_T34 l0_5 x5_2).f0), .int .i64 ((rd_T34 l0_5 x5_2).f1), .string ((rd_T34 l0_5 x5_2).f2), .slice A190_3 ((rd_T34 l0_5 x5_2).f3.f0).length c190_3, .slice A190_4 ((rd_T34 l0_5 x5_2).f3.f1).length c190_4, .slice A190_5 ((rd_T34 l0_5 x5_2).f4).length c190_5, .int .i64 ((rd_T34 l0_5 x5_2).f5)], .agg #[.int .i64 ((rd_T34 l1_5 x5_2).f0), .int .i64 ((rd_T34 l1_5 x5_2).f1), .string ((rd_T34 l1_5 x5_2).f2), .slice A191_3 ((rd_T34 l1_5 x5_2).f3.f0).length c191_3, .slice A191_4 ((rd_T34 l1_5 x5_2).f3.f1).length c191_4, .slice A191_5 ((rd_T34 l1_5 x5_2).f4).length c191_5, .int .i64 ((rd_T34 l1_5 x5_2).f5)]] (by rfl) rfl rfl (by (try simp only [List.map_toArray, List.map_cons, List.map_nil]); first | done | rfl | (simp only [List.length_drop, List.length_take]; rfl)) ?_
        with_reducible refine (ih k2 (by have := HJ2.out; have := HK2.out; omega) ((rd_T34 l0_5 x5_2).f0) ((rd_T34 l0_5 x5_2).f1) ((rd_T34 l0_5 x5_2).f2) _ _ ((rd_T34 l0_5 x5_2).f3.f0) _ _ ((rd_T34 l0_5 x5_2).f3.f1) _ _ ((rd_T34 l0_5 x5_2).f4) ((rd_T34 l0_5 x5_2).f5) ((rd_T34 l1_5 x5_2).f0) ((rd_T34 l1_5 x5_2).f1) ((rd_T34 l1_5 x5_2).f2) _ _ ((rd_T34 l1_5 x5_2).f3.f0) _ _ ((rd_T34 l1_5 x5_2).f3.f1) _ _ ((rd_T34 l1_5 x5_2).f4) ((rd_T34 l1_5 x5_2).f5) false _ ?side1 ?side2 ?side3 ?side4 ?side5 ?side6 ?side7 ?side8 ?side9 ?side10 ?side11 ?side12 A31.out).mono ?_
        (case side1 => exact gC HR190_3 HB)
        (case side2 => exact HC190_3.out)
        (case side3 => exact gC HR190_4 HB)
        (case side4 => exact HC190_4.out)
        (case side5 => exact gC HR190_5 HB)
        (case side6 => exact HC190_5.out)
        (case side7 => exact gC HR191_3 HB)
        (case side8 => exact HC191_3.out)
        (case side9 => exact gC HR191_4 HB)
        (case side10 => exact HC191_4.out)
        (case side11 => exact gC HR191_5 HB)
        (case side12 => exact HC191_5.out)
        rintro e w40 ⟨rfl, hb⟩
        refine ⟨_, rfl, ?_⟩
        replace BK187 := gA (blk_below (gK BK187) hb); replace BK188 := gA (blk_below (gK BK188) hb); replace HB := gA (below_step (gB HB) hb); (try clear hb)
        refine hK.out _ _ ⟨(blk_cell BK187.out 0).trans rfl, (blk_cell BK187.out 1).trans rfl, (blk_cell BK187.out 2).trans rfl, (blk_cell BK187.out 3).trans rfl, (blk_cell BK187.out 4).trans rfl, (blk_cell BK187.out 5).trans rfl, (blk_cell BK187.out 6).trans rfl, (blk_cell BK188.out 0).trans rfl, (blk_cell BK188.out 1).trans rfl, (blk_cell BK188.out 2).trans rfl, (blk_cell BK188.out 3).trans rfl, (blk_cell BK188.out 4).trans rfl, (blk_cell BK188.out 5).trans rfl, (blk_cell BK188.out 6).trans rfl, ((HB.out.cell (World.block_lt_of_cell? w _ hw190_0)).trans hw190_0), ((HB.out.cell (World.block_lt_of_cell? w _ hw190_1)).trans hw190_1), ((HB.out.cell (World.block_lt_of_cell? w _ hw190_2)).trans hw190_2), ((HB.out.cell (World.block_lt_of_cell? w _ hw190_3)).trans hw190_3), ((HB.out.cell (World.block_lt_of_cell? w _ hw190_4)).trans hw190_4), ((HB.out.cell (World.block_lt_of_cell? w _ hw190_5)).trans hw190_5), ((HB.out.cell (World.block_lt_of_cell? w _ hw190_6)).trans hw190_6), ((HB.out.cell (World.block_lt_of_cell? w _ hw191_0)).trans hw191_0), ((HB.out.cell (World.block_lt_of_cell? w _ hw191_1)).trans hw191_1), ((HB.out.cell (World.block_lt_of_cell? w _ hw191_2)).trans hw191_2), ((HB.out.cell (World.block_lt_of_cell? w _ hw191_3)).trans hw191_3), ((HB.out.cell (World.block_lt_of_cell? w _ hw191_4)).trans hw191_4), ((HB.out.cell (World.block_lt_of_cell? w _ hw191_5)).trans hw191_5), ((HB.out.cell (World.block_lt_of_cell? w _ hw191_6)).trans hw191_6)⟩ (fun hHeld => ?_); clear hK K
        refine norm_ (a' := ?_) ?_ ?_; rotate_left
        ·show Act.put _ (some 59) _ = _
         simp only [Act.put, List.setIfInBounds_toArray, List.set_cons_zero, List.set_cons_succ, i64_w, i32_w]; rfl
        refine pure_ (i := 11) (N := some 60) (v := ?_) (a' := ?_) #[true, true, true, true, true, true, true, true, true, true, true, true] rfl rfl (any_of HT_.out (by kernel_rfl)) (fun _ _ _ h => h) (Or.inl ⟨by rfl, ?_⟩) ?_ ?_; rotate_left
        ·intro w'; go_simp; with_reducible rfl
        rotate_left
        ·simp only [Act.put, List.setIfInBounds_toArray, List.set_cons_zero, List.set_cons_succ, i64_w, i32_w]; rfl
        refine done_ (done_of HT_.out (by kernel_rfl)) ?_
        try go_wp2
        go_ret
        exact ⟨rfl, by repeat first | exact gB HB | refine below_set ?_ GE187.out | refine below_set ?_ GE188.out⟩
      ·rw [if_neg c28] at H
       have c28b0 := decide_eq_false c28
       clear c28
       obtain rfl := Option.some.inj H
       have hnb41 := NB187_188.out
       have hnc41 := NB188_187.out
       have hcz42_0 := gz BK187 0 rfl
       have hcz42_1 := gz BK187 1 rfl
       have hcz42_2 := gz BK187 2 rfl
       have hcz42_3 := gz BK187 3 rfl
       have hcz42_4 := gz BK187 4 rfl
       have hcz42_5 := gz BK187 5 rfl
       have hcz42_6 := gz BK187 6 rfl
       have hfz42_0 := blk_frozen BK187.out 0
       have hfz42_1 := blk_frozen BK187.out 1
       have hfz42_2 := blk_frozen BK187.out 2
       have hfz42_3 := blk_frozen BK187.out 3
       have hfz42_4 := blk_frozen BK187.out 4
       have hfz42_5 := blk_frozen BK187.out 5
       have hfz42_6 := blk_frozen BK187.out 6
       go_wp2
       go_ret
       exact ⟨rfl, by repeat first | exact gB HB | refine below_set ?_ GE187.out | refine below_set ?_ GE188.out⟩
end Go.Proofs.Ytfblidojoepcpaa.P
