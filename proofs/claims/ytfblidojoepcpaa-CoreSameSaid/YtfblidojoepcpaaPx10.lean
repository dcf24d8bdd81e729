/- Written by a program of this session: the functions that the laws reach, what each comes to, and each law as it is stated, for every input. No condition. -/
import Derived.Test.YtfblidojoepcpaaPx0
import Derived.Test.YtfblidojoepcpaaPx2
import Derived.Test.YtfblidojoepcpaaPx5
import Derived.Test.YtfblidojoepcpaaPx6
import Derived.Test.YtfblidojoepcpaaPx9
namespace Go.Proofs.Ytfblidojoepcpaa.P
open Go.RowKit Go.Proofs.YtfblidojoepcpaaW.PrintWords Go.Proofs.YtfblidojoepcpaaW.PrintLast Go.Proofs.YtfblidojoepcpaaW.PrintMore
attribute [local go_sem] max2_int min2_int max_two min_two max_three min_three max_four min_four   -- for this text's walks alone
set_option linter.unusedVariables false
set_option linter.unusedSimpArgs false
mutual
def triglyphref10_Bare.l0 : Nat → Int → Int → Int → ByteArray → List Int → List (S52) → List (S34) → Int → Int → Int → ByteArray → List Int → List (S52) → List (S34) → Int → Option (Int × Int × ByteArray × List Int × (List (S52)) × (List (S34)) × Int)
 | 0, _, _, _, _, _, _, _, _, _, _, _, _, _, _, _ => none
 | k + 1, x4, x194000, x194001, x194002, x194003, x194004, x194005, x194006, x196000, x196001, x196002, x196003, x196004, x196005, x196006 => if x4 < (x194005.length : Int) then (if 0 ≤ x4 then ((triglyphref10_Bare.f k ((rd_T34 x194005 x4).f0) ((rd_T34 x194005 x4).f1) ((rd_T34 x194005 x4).f2) ((rd_T34 x194005 x4).f3.f0) ((rd_T34 x194005 x4).f3.f1) ((rd_T34 x194005 x4).f4) ((rd_T34 x194005 x4).f5)).bind fun bt197 => (if x196005.length < 1256584717458 then (triglyphref10_Bare.l0 k (wrap64 (x4 + 1)) x194000 x194001 x194002 x194003 x194004 x194005 x194006 x196000 x196001 x196002 x196003 x196004 (x196005 ++ [(⟨bt197.1, bt197.2.1, bt197.2.2.1, (⟨bt197.2.2.2.1, bt197.2.2.2.2.1⟩ : S25), bt197.2.2.2.2.2.1, bt197.2.2.2.2.2.2⟩ : S34)]) x196006) else (none))) else (none)) else (some (x196000, x196001, x196002, x196003, x196004, x196005, x196006))
def triglyphref10_Bare.f : Nat → Int → Int → ByteArray → List Int → List (S52) → List (S34) → Int → Option (Int × Int × ByteArray × List Int × (List (S52)) × (List (S34)) × Int)
 | 0, _, _, _, _, _, _, _ => none
 | k + 1, a0_0, a0_1, a0_2, l0_3, l0_4, l0_5, a0_6 => triglyphref10_Bare.l0 k 0 a0_0 a0_1 a0_2 l0_3 l0_4 l0_5 a0_6 a0_0 a0_1 a0_2 l0_3 l0_4 ([] : List (S34)) 0
end
theorem triglyphref10_Bare.mono_l : ∀ k, (∀ y0 y1 y2 y3 y4 y5 y6, LeO (triglyphref10_Bare.f k y0 y1 y2 y3 y4 y5 y6) (triglyphref10_Bare.f (k + 1) y0 y1 y2 y3 y4 y5 y6)) ∧ (∀ y0 y1 y2 y3 y4 y5 y6 y7 y8 y9 y10 y11 y12 y13 y14, LeO (triglyphref10_Bare.l0 k y0 y1 y2 y3 y4 y5 y6 y7 y8 y9 y10 y11 y12 y13 y14) (triglyphref10_Bare.l0 (k + 1) y0 y1 y2 y3 y4 y5 y6 y7 y8 y9 y10 y11 y12 y13 y14))
 | 0 => ⟨fun _ _ _ _ _ _ _ r h => by simp [triglyphref10_Bare.f] at h, fun _ _ _ _ _ _ _ _ _ _ _ _ _ _ _ r h => by simp [triglyphref10_Bare.l0] at h⟩
 | k + 1 => by
  obtain ⟨ih0, ih1⟩ := triglyphref10_Bare.mono_l k
  refine ⟨?_, ?_⟩
  ·intro y0 y1 y2 y3 y4 y5 y6
   unfold triglyphref10_Bare.f
   repeat' first
   | (with_reducible exact ih0 _ _ _ _ _ _ _)
   | (with_reducible exact ih1 _ _ _ _ _ _ _ _ _ _ _ _ _ _ _)
   | (with_reducible exact LeO.refl _)
   | (with_reducible exact LeO.none _)
   | (with_reducible refine LeO.ite ?_ ?_)
   | (with_reducible refine LeO.bind ?_ (fun _ => ?_))





  ·intro y0 y1 y2 y3 y4 y5 y6 y7 y8 y9 y10 y11 y12 y13 y14
   unfold triglyphref10_Bare.l0
   repeat' first
   | (with_reducible exact ih0 _ _ _ _ _ _ _)
   | (with_reducible exact ih1 _ _ _ _ _ _ _ _ _ _ _ _ _ _ _)
   | (with_reducible exact LeO.refl _)
   | (with_reducible exact LeO.none _)
   | (with_reducible refine LeO.ite ?_ ?_)
   | (with_reducible refine LeO.bind ?_ (fun _ => ?_))
theorem triglyphref10_Bare.mono : ∀ a0 a1 a2 a3 a4 a5 a6 k, LeO (triglyphref10_Bare.f k a0 a1 a2 a3 a4 a5 a6) (triglyphref10_Bare.f (k + 1) a0 a1 a2 a3 a4 a5 a6) := by
 intro a0 a1 a2 a3 a4 a5 a6 k
 obtain ⟨ih0, ih1⟩ := triglyphref10_Bare.mono_l k
 exact ih0 a0 a1 a2 a3 a4 a5 a6
def triglyphref10_Bare.T5 : Bool × List (List Nat × List Nat) := (true, [([], []), ([0], [0]), ([], []), ([2], [2]), ([], []), ([3, 4], [3, 4]), ([5], [5]), ([6], [6]), ([7], [7]), ([1, 8, 7], [1, 8]), ([0, 1, 2, 3, 4, 5, 6, 7, 8, 9], []), ([10, 9, 9, 0, 1, 2, 3, 4, 5, 6, 7, 8, 9], [9, 10])])
def triglyphref10_Bare.B5 : List Nat := [0, 1, 0, 4, 0, 28, 60, 124, 252, 511, 1023, 2047]
theorem triglyphref10_Bare.tab5 : rtab .any (opsOf Try.f18 5) = triglyphref10_Bare.T5 := by kernel_rfl
theorem triglyphref10_Bare.bits5 : waitsOk triglyphref10_Bare.T5.2 triglyphref10_Bare.B5 = true := by kernel_rfl
set_option maxHeartbeats 8000000 in
set_option maxRecDepth 100000 in
theorem triglyphref10_Bare.calls (k : Nat) : ∀ (a0_0 : Int) (a0_1 : Int) (a0_2 : ByteArray) (P0_3_ : Nat → Prop) (A0_3 : Option Addr) (c0_3 : Nat) (l0_3 : List Int) (P0_4_ : Nat → Prop) (A0_4 : Option Addr) (c0_4 : Nat) (l0_4 : List (S52)) (P0_5_ : Nat → Prop) (A0_5 : Option Addr) (c0_5 : Nat) (l0_5 : List (S34)) (a0_6 : Int) (r1 : Int) (r2 : Int) (r3 : ByteArray) (r4 : List Int) (r5 : List (S52)) (r6 : List (S34)) (r7 : Int) (w : World) (hs0_3 : Kd.V (Kd.int .i64) 3 w w.heap.size (fun k_ => P0_3_ k_) (.slice A0_3 l0_3.length c0_3) l0_3) (hs0_4 : Kd.V k52 52 w w.heap.size (fun k_ => P0_4_ k_) (.slice A0_4 l0_4.length c0_4) l0_4) (hs0_5 : Kd.V k34 34 w w.heap.size (fun k_ => P0_5_ k_) (.slice A0_5 l0_5.length c0_5) l0_5) (h : triglyphref10_Bare.f k a0_0 a0_1 a0_2 l0_3 l0_4 l0_5 a0_6 = some (r1, r2, r3, r4, r5, r6, r7)),
  Calls Try.prog 18 #[.agg #[.int .i64 a0_0, .int .i64 a0_1, .string a0_2, .slice A0_3 l0_3.length c0_3, .slice A0_4 l0_4.length c0_4, .slice A0_5 l0_5.length c0_5, .int .i64 a0_6]] w fun e w' => ∃ v3_ v4_ v5_ : Value, e = .returned (.agg #[.int .i64 r1, .int .i64 r2, .string r3, v3_, v4_, v5_, .int .i64 r7]) ∧ Kd.V (Kd.int .i64) 3 w' w.heap.size (fun k_ => ((P0_3_ k_ ∨ P0_4_ k_ ∨ P0_5_ k_) ∨ w.heap.size ≤ k_) ∧ some k_ ≠ (v5_ : Value).ownBlock) v3_ r4 ∧ Kd.V k52 52 w' w.heap.size (fun k_ => ((P0_3_ k_ ∨ P0_4_ k_ ∨ P0_5_ k_) ∨ w.heap.size ≤ k_) ∧ some k_ ≠ (v5_ : Value).ownBlock) v4_ r5 ∧ Kd.N k34 34 w' w.heap.size (fun k_ => ((P0_3_ k_ ∨ P0_4_ k_ ∨ P0_5_ k_) ∨ w.heap.size ≤ k_)) v5_ r6 ∧ Below w.heap.size w w' := by
 induction k using Nat.strongRecOn with
 | _ k ih =>
 intro a0_0 a0_1 a0_2 P0_3_ A0_3 c0_3 l0_3 P0_4_ A0_4 c0_4 l0_4 P0_5_ A0_5 c0_5 l0_5 a0_6 r1 r2 r3 r4 r5 r6 r7 w hs0_3 hs0_4 hs0_5 h
 cases k with
 | zero => exact absurd h (by simp [triglyphref10_Bare.f])
 | succ k =>
 simp only [triglyphref10_Bare.f] at h
 have hu34 := Try.underlying34
 have hu25 := Try.underlying25
 have HO0_3 := gA (show Kd.V (Kd.int .i64) 3 w w.heap.size (fun k_ => ((P0_3_ k_ ∨ P0_4_ k_ ∨ P0_5_ k_) ∨ w.heap.size ≤ k_)) (.slice A0_3 l0_3.length c0_3) l0_3 from Kd.V_mono hs0_3 (fun k_ hk => .inl (.inl hk)))
 have HO0_4 := gA (show Kd.V k52 52 w w.heap.size (fun k_ => ((P0_3_ k_ ∨ P0_4_ k_ ∨ P0_5_ k_) ∨ w.heap.size ≤ k_)) (.slice A0_4 l0_4.length c0_4) l0_4 from Kd.V_mono hs0_4 (fun k_ hk => .inl (.inr (.inl hk))))
 have HO0_5 := gA (show Kd.V k34 34 w w.heap.size (fun k_ => ((P0_3_ k_ ∨ P0_4_ k_ ∨ P0_5_ k_) ∨ w.heap.size ≤ k_)) (.slice A0_5 l0_5.length c0_5) l0_5 from Kd.V_mono hs0_5 (fun k_ hk => .inl (.inr (.inr hk))))
 have HB := gA (Below.refl w.heap.size w)
 have H : (triglyphref10_Bare.l0 k 0 a0_0 a0_1 a0_2 l0_3 l0_4 l0_5 a0_6 a0_0 a0_1 a0_2 l0_3 l0_4 ([] : List (S34)) 0) = some (r1, r2, r3, r4, r5, r6, r7) := h
 clear h
 have H' := gA H
 clear H
 go_enter Try.func18, Try.ntmps18
 go_wp2_with (first | ((with_reducible refine gate_dst (N := 1) rfl ?_); refine box_event ?hg (N := 1) ?hd (cs := #[.int .i64 a0_0, .int .i64 a0_1, .string a0_2, .slice A0_3 l0_3.length c0_3, .slice A0_4 l0_4.length c0_4, .slice A0_5 l0_5.length c0_5, .int .i64 a0_6]) (t := 34) ?hr ?_; (case hd => rfl); (case hg => rfl); (case hr => first | (go_simp; done) | (go_simp; rfl)); intro gb193 hg w2 hbox hb; replace HO0_3 := gA (Kd.V_below (Kd.V_elderB (gV HO0_3) gb193 (Nat.le_of_eq hg.symm)) hb); replace HO0_4 := gA (Kd.V_below (Kd.V_elderB (gV HO0_4) gb193 (Nat.le_of_eq hg.symm)) hb); replace HO0_5 := gA (Kd.V_below (Kd.V_elderB (gV HO0_5) gb193 (Nat.le_of_eq hg.symm)) hb); have BK193 := gA (hbox); have GW193 := gA ((by rw [hg]; exact (below_size (gB HB)) : w.heap.size ≤ gb193)); have GE193 := gA ((by rw [hg]; exact (below_size (gB HB)) : w.heap.size ≤ gb193)); replace HB := gA (below_step (gB HB) hb); clear hb hbox hg) | ((with_reducible refine gate_dst (N := 2) rfl ?_); refine box_event ?hg (N := 2) ?hd (cs := #[.int .i64 0, .int .i64 0, .string (⟨#[]⟩ : ByteArray), .slice none 0 0, .slice none 0 0, .slice none 0 0, .int .i64 0]) (t := 34) ?hr ?_; (case hd => rfl); (case hg => rfl); (case hr => first | (go_simp; done) | (go_simp; rfl)); intro gb194 hg w3 hbox hb; replace HO0_3 := gA (Kd.V_below (Kd.V_elderB (gV HO0_3) gb194 (Nat.le_of_eq hg.symm)) hb); replace HO0_4 := gA (Kd.V_below (Kd.V_elderB (gV HO0_4) gb194 (Nat.le_of_eq hg.symm)) hb); replace HO0_5 := gA (Kd.V_below (Kd.V_elderB (gV HO0_5) gb194 (Nat.le_of_eq hg.symm)) hb); have BK194 := gA (hbox); have GW194 := gA ((by rw [hg]; exact (below_size (gB HB)) : w.heap.size ≤ gb194)); have GE194 := gA ((by rw [hg]; exact (below_size (gB HB)) : w.heap.size ≤ gb194)); replace HB := gA (below_step (gB HB) hb); have NB193_194 := gA ((by rw [hg]; exact Nat.ne_of_lt (blk_lt (gK BK193)) : gb193 ≠ gb194)); have NB194_193 := gA ((by rw [hg]; exact Nat.ne_of_gt (blk_lt (gK BK193)) : gb194 ≠ gb193)); replace BK193 := gA (blk_below (gK BK193) hb); clear hb hbox hg; have hnb4 := NB193_194.out; have hnc4 := NB194_193.out; have hcz5_0 := gz BK193 0 rfl; have hcz5_1 := gz BK193 1 rfl; have hcz5_2 := gz BK193 2 rfl; have hcz5_3 := gz BK193 3 rfl; have hcz5_4 := gz BK193 4 rfl; have hcz5_5 := gz BK193 5 rfl; have hcz5_6 := gz BK193 6 rfl; have hfz5_0 := blk_frozen BK193.out 0; have hfz5_1 := blk_frozen BK193.out 1; have hfz5_2 := blk_frozen BK193.out 2; have hfz5_3 := blk_frozen BK193.out 3; have hfz5_4 := blk_frozen BK193.out 4; have hfz5_5 := blk_frozen BK193.out 5; have hfz5_6 := blk_frozen BK193.out 6) | ((with_reducible refine gate_dst (N := 3) rfl ?_); refine box_event ?hg (N := 3) ?hd (cs := #[.int .i64 0, .int .i64 0, .string (⟨#[]⟩ : ByteArray), .slice none 0 0, .slice none 0 0, .slice none 0 0, .int .i64 0]) (t := 34) ?hr ?_; (case hd => rfl); (case hg => rfl); (case hr => first | (go_simp; done) | (go_simp; rfl)); intro gb195 hg w6 hbox hb; replace HO0_3 := gA (Kd.V_below (Kd.V_elderB (gV HO0_3) gb195 (Nat.le_of_eq hg.symm)) hb); replace HO0_4 := gA (Kd.V_below (Kd.V_elderB (gV HO0_4) gb195 (Nat.le_of_eq hg.symm)) hb); replace HO0_5 := gA (Kd.V_below (Kd.V_elderB (gV HO0_5) gb195 (Nat.le_of_eq hg.symm)) hb); have BK195 := gA (hbox); have GW195 := gA ((by rw [hg]; exact (below_size (gB HB)) : w.heap.size ≤ gb195)); have GE195 := gA ((by rw [hg]; exact (below_size (gB HB)) : w.heap.size ≤ gb195)); replace HB := gA (below_step (gB HB) hb); have NB193_195 := gA ((by rw [hg]; exact Nat.ne_of_lt (blk_lt (gK BK193)) : gb193 ≠ gb195)); have NB195_193 := gA ((by rw [hg]; exact Nat.ne_of_gt (blk_lt (gK BK193)) : gb195 ≠ gb193)); replace BK193 := gA (blk_below (gK BK193) hb); have NB194_195 := gA ((by rw [hg]; exact Nat.ne_of_lt (blk_lt (g := gb194) (o := .cells #[.int .i64 0, .int .i64 0, .string (⟨#[]⟩ : ByteArray), .slice none 0 0, .slice none 0 0, .slice none 0 0, .int .i64 0] 34 (0, 0)) (gK BK194)) : gb194 ≠ gb195)); have NB195_194 := gA ((by rw [hg]; exact Nat.ne_of_gt (blk_lt (g := gb194) (o := .cells #[.int .i64 0, .int .i64 0, .string (⟨#[]⟩ : ByteArray), .slice none 0 0, .slice none 0 0, .slice none 0 0, .int .i64 0] 34 (0, 0)) (gK BK194)) : gb195 ≠ gb194)); replace BK194 := gA (blk_below (g := gb194) (o := .cells #[.int .i64 0, .int .i64 0, .string (⟨#[]⟩ : ByteArray), .slice none 0 0, .slice none 0 0, .slice none 0 0, .int .i64 0] 34 (0, 0)) (gK BK194) hb); clear hb hbox hg; have hnb7 := NB195_193.out; have hnc7 := NB193_195.out; have hnb8 := NB195_194.out; have hnc8 := NB194_195.out; have hcz9_0 := gz BK195 0 rfl; have hcz9_1 := gz BK195 1 rfl; have hcz9_2 := gz BK195 2 rfl; have hcz9_3 := gz BK195 3 rfl; have hcz9_4 := gz BK195 4 rfl; have hcz9_5 := gz BK195 5 rfl; have hcz9_6 := gz BK195 6 rfl; have hfz9_0 := blk_frozen BK195.out 0; have hfz9_1 := blk_frozen BK195.out 1; have hfz9_2 := blk_frozen BK195.out 2; have hfz9_3 := blk_frozen BK195.out 3; have hfz9_4 := blk_frozen BK195.out 4; have hfz9_5 := blk_frozen BK195.out 5; have hfz9_6 := blk_frozen BK195.out 6))
 go_loopg [4] k (fun kq v4 w' => ∃ (x4_1 : Int) (x196005_1 : List (S34)) (u196005 : Value), v4 = .int .i64 x4_1 ∧ Aside0 (triglyphref10_Bare.l0 kq x4_1 a0_0 a0_1 a0_2 l0_3 l0_4 l0_5 a0_6 a0_0 a0_1 a0_2 l0_3 l0_4 x196005_1 0 = some (r1, r2, r3, r4, r5, r6, r7)) ∧ Aside0 (kq ≤ k) ∧ Aside0 (Kd.V (Kd.int .i64) 3 w' w.heap.size (fun k_ => ((P0_3_ k_ ∨ P0_4_ k_ ∨ P0_5_ k_) ∨ w.heap.size ≤ k_) ∧ some k_ ≠ (u196005 : Value).ownBlock ∧ k_ ≠ gb193 ∧ k_ ≠ gb194 ∧ k_ ≠ gb195) (.slice A0_3 l0_3.length c0_3) l0_3) ∧ Aside0 (Kd.V k52 52 w' w.heap.size (fun k_ => ((P0_3_ k_ ∨ P0_4_ k_ ∨ P0_5_ k_) ∨ w.heap.size ≤ k_) ∧ some k_ ≠ (u196005 : Value).ownBlock ∧ k_ ≠ gb193 ∧ k_ ≠ gb194 ∧ k_ ≠ gb195) (.slice A0_4 l0_4.length c0_4) l0_4) ∧ Aside0 (Kd.V k34 34 w' w.heap.size (fun k_ => ((P0_3_ k_ ∨ P0_4_ k_ ∨ P0_5_ k_) ∨ w.heap.size ≤ k_) ∧ some k_ ≠ (u196005 : Value).ownBlock ∧ k_ ≠ gb193 ∧ k_ ≠ gb194 ∧ k_ ≠ gb195) (.slice A0_5 l0_5.length c0_5) l0_5) ∧ Aside0 (Kd.V (Kd.int .i64) 3 w' w.heap.size (fun k_ => ((P0_3_ k_ ∨ P0_4_ k_ ∨ P0_5_ k_) ∨ w.heap.size ≤ k_) ∧ some k_ ≠ (u196005 : Value).ownBlock ∧ k_ ≠ gb193 ∧ k_ ≠ gb194 ∧ k_ ≠ gb195) (.slice A0_3 l0_3.length c0_3) l0_3) ∧ Aside0 (Kd.V k52 52 w' w.heap.size (fun k_ => ((P0_3_ k_ ∨ P0_4_ k_ ∨ P0_5_ k_) ∨ w.heap.size ≤ k_) ∧ some k_ ≠ (u196005 : Value).ownBlock ∧ k_ ≠ gb193 ∧ k_ ≠ gb194 ∧ k_ ≠ gb195) (.slice A0_4 l0_4.length c0_4) l0_4) ∧ Aside0 (Kd.N k34 34 w' w.heap.size (fun k_ => ((P0_3_ k_ ∨ P0_4_ k_ ∨ P0_5_ k_) ∨ w.heap.size ≤ k_) ∧ k_ ≠ gb193 ∧ k_ ≠ gb194 ∧ k_ ≠ gb195) u196005 x196005_1) ∧ Aside0 (w'.heap[gb193]? = some (.cells #[.int .i64 a0_0, .int .i64 a0_1, .string a0_2, (.slice A0_3 l0_3.length c0_3), (.slice A0_4 l0_4.length c0_4), (.slice A0_5 l0_5.length c0_5), .int .i64 a0_6] 34 (0, 0))) ∧ Aside0 (w'.heap[gb194]? = some (.cells #[.int .i64 0, .int .i64 0, .string (⟨#[]⟩ : ByteArray), (.slice none 0 0), (.slice none 0 0), (.slice none 0 0), .int .i64 0] 34 (0, 0))) ∧ Aside0 (w'.heap[gb195]? = some (.cells #[.int .i64 a0_0, .int .i64 a0_1, .string a0_2, (.slice A0_3 l0_3.length c0_3), (.slice A0_4 l0_4.length c0_4), u196005, .int .i64 0] 34 (0, 0))) ∧ Aside0 (Below w.heap.size w w'))
 case atStart => exact ⟨(0), (([] : List (S34))), (.slice none 0 0), (rfl), H', ⟨Nat.le_refl _⟩, ⟨Kd.V_mono (Kd.V_far (p := ⟨gb195, 6, none⟩) (Kd.V_far (p := ⟨gb195, 5, none⟩) (Kd.V_far (p := ⟨gb195, 4, none⟩) (Kd.V_far (p := ⟨gb195, 3, none⟩) (Kd.V_far (p := ⟨gb195, 2, none⟩) (Kd.V_far (p := ⟨gb195, 1, none⟩) (Kd.V_far (p := ⟨gb195, 0, none⟩) (Kd.V_mono HO0_3.out (fun k_ hk => (⟨hk, hk.2⟩ : _ ∧ k_ ≠ gb195))) (fun _ hk => hk.2) (.int .i64 a0_0)) (fun _ hk => hk.2) (.int .i64 a0_1)) (fun _ hk => hk.2) (.string a0_2)) (fun _ hk => hk.2) (.slice A0_3 l0_3.length c0_3)) (fun _ hk => hk.2) (.slice A0_4 l0_4.length c0_4)) (fun _ hk => hk.2) (.slice none 0 0)) (fun _ hk => hk.2) (.int .i64 0)) (fun _ hk => ⟨hk.1.1.1.1, ⟨(by simp [Value.ownBlock]), ⟨hk.1.1.1.2, ⟨hk.1.1.2, hk.1.2⟩⟩⟩⟩)⟩, ⟨Kd.V_mono (Kd.V_far (p := ⟨gb195, 6, none⟩) (Kd.V_far (p := ⟨gb195, 5, none⟩) (Kd.V_far (p := ⟨gb195, 4, none⟩) (Kd.V_far (p := ⟨gb195, 3, none⟩) (Kd.V_far (p := ⟨gb195, 2, none⟩) (Kd.V_far (p := ⟨gb195, 1, none⟩) (Kd.V_far (p := ⟨gb195, 0, none⟩) (Kd.V_mono HO0_4.out (fun k_ hk => (⟨hk, hk.2⟩ : _ ∧ k_ ≠ gb195))) (fun _ hk => hk.2) (.int .i64 a0_0)) (fun _ hk => hk.2) (.int .i64 a0_1)) (fun _ hk => hk.2) (.string a0_2)) (fun _ hk => hk.2) (.slice A0_3 l0_3.length c0_3)) (fun _ hk => hk.2) (.slice A0_4 l0_4.length c0_4)) (fun _ hk => hk.2) (.slice none 0 0)) (fun _ hk => hk.2) (.int .i64 0)) (fun _ hk => ⟨hk.1.1.1.1, ⟨(by simp [Value.ownBlock]), ⟨hk.1.1.1.2, ⟨hk.1.1.2, hk.1.2⟩⟩⟩⟩)⟩, ⟨Kd.V_mono (Kd.V_far (p := ⟨gb195, 6, none⟩) (Kd.V_far (p := ⟨gb195, 5, none⟩) (Kd.V_far (p := ⟨gb195, 4, none⟩) (Kd.V_far (p := ⟨gb195, 3, none⟩) (Kd.V_far (p := ⟨gb195, 2, none⟩) (Kd.V_far (p := ⟨gb195, 1, none⟩) (Kd.V_far (p := ⟨gb195, 0, none⟩) (Kd.V_mono HO0_5.out (fun k_ hk => (⟨hk, hk.2⟩ : _ ∧ k_ ≠ gb195))) (fun _ hk => hk.2) (.int .i64 a0_0)) (fun _ hk => hk.2) (.int .i64 a0_1)) (fun _ hk => hk.2) (.string a0_2)) (fun _ hk => hk.2) (.slice A0_3 l0_3.length c0_3)) (fun _ hk => hk.2) (.slice A0_4 l0_4.length c0_4)) (fun _ hk => hk.2) (.slice none 0 0)) (fun _ hk => hk.2) (.int .i64 0)) (fun _ hk => ⟨hk.1.1.1.1, ⟨(by simp [Value.ownBlock]), ⟨hk.1.1.1.2, ⟨hk.1.1.2, hk.1.2⟩⟩⟩⟩)⟩, ⟨Kd.V_mono (Kd.V_far (p := ⟨gb195, 6, none⟩) (Kd.V_far (p := ⟨gb195, 5, none⟩) (Kd.V_far (p := ⟨gb195, 4, none⟩) (Kd.V_far (p := ⟨gb195, 3, none⟩) (Kd.V_far (p := ⟨gb195, 2, none⟩) (Kd.V_far (p := ⟨gb195, 1, none⟩) (Kd.V_far (p := ⟨gb195, 0, none⟩) (Kd.V_mono HO0_3.out (fun k_ hk => (⟨hk, hk.2⟩ : _ ∧ k_ ≠ gb195))) (fun _ hk => hk.2) (.int .i64 a0_0)) (fun _ hk => hk.2) (.int .i64 a0_1)) (fun _ hk => hk.2) (.string a0_2)) (fun _ hk => hk.2) (.slice A0_3 l0_3.length c0_3)) (fun _ hk => hk.2) (.slice A0_4 l0_4.length c0_4)) (fun _ hk => hk.2) (.slice none 0 0)) (fun _ hk => hk.2) (.int .i64 0)) (fun _ hk => ⟨hk.1.1.1.1, ⟨(by simp [Value.ownBlock]), ⟨hk.1.1.1.2, ⟨hk.1.1.2, hk.1.2⟩⟩⟩⟩)⟩, ⟨Kd.V_mono (Kd.V_far (p := ⟨gb195, 6, none⟩) (Kd.V_far (p := ⟨gb195, 5, none⟩) (Kd.V_far (p := ⟨gb195, 4, none⟩) (Kd.V_far (p := ⟨gb195, 3, none⟩) (Kd.V_far (p := ⟨gb195, 2, none⟩) (Kd.V_far (p := ⟨gb195, 1, none⟩) (Kd.V_far (p := ⟨gb195, 0, none⟩) (Kd.V_mono HO0_4.out (fun k_ hk => (⟨hk, hk.2⟩ : _ ∧ k_ ≠ gb195))) (fun _ hk => hk.2) (.int .i64 a0_0)) (fun _ hk => hk.2) (.int .i64 a0_1)) (fun _ hk => hk.2) (.string a0_2)) (fun _ hk => hk.2) (.slice A0_3 l0_3.length c0_3)) (fun _ hk => hk.2) (.slice A0_4 l0_4.length c0_4)) (fun _ hk => hk.2) (.slice none 0 0)) (fun _ hk => hk.2) (.int .i64 0)) (fun _ hk => ⟨hk.1.1.1.1, ⟨(by simp [Value.ownBlock]), ⟨hk.1.1.1.2, ⟨hk.1.1.2, hk.1.2⟩⟩⟩⟩)⟩, ⟨by first | exact Kd.R_nil _ _ _ _ _ | exact Kd.N_nil _ _ _ _ _ | exact Kd.V_nil _ _ _ _ _ | exact Kd.Q_nil _ _ _ _ _ | exact Kd.S_nil _ _ _ _ _⟩, ⟨by refine blk_far ?_ NB193_195.out _; refine blk_far ?_ NB193_195.out _; refine blk_far ?_ NB193_195.out _; refine blk_far ?_ NB193_195.out _; refine blk_far ?_ NB193_195.out _; refine blk_far ?_ NB193_195.out _; refine blk_far ?_ NB193_195.out _; exact gK BK193⟩, ⟨by refine blk_far ?_ NB194_195.out _; refine blk_far ?_ NB194_195.out _; refine blk_far ?_ NB194_195.out _; refine blk_far ?_ NB194_195.out _; refine blk_far ?_ NB194_195.out _; refine blk_far ?_ NB194_195.out _; refine blk_far ?_ NB194_195.out _; exact gK BK194⟩, ⟨by refine blk_put (cs := #[.int .i64 a0_0, .int .i64 a0_1, .string a0_2, .slice A0_3 l0_3.length c0_3, .slice A0_4 l0_4.length c0_4, .slice none 0 0, .int .i64 0]) ?_ 6 _ rfl; refine blk_put (cs := #[.int .i64 a0_0, .int .i64 a0_1, .string a0_2, .slice A0_3 l0_3.length c0_3, .slice A0_4 l0_4.length c0_4, .slice none 0 0, .int .i64 0]) ?_ 5 _ rfl; refine blk_put (cs := #[.int .i64 a0_0, .int .i64 a0_1, .string a0_2, .slice A0_3 l0_3.length c0_3, .slice none 0 0, .slice none 0 0, .int .i64 0]) ?_ 4 _ rfl; refine blk_put (cs := #[.int .i64 a0_0, .int .i64 a0_1, .string a0_2, .slice none 0 0, .slice none 0 0, .slice none 0 0, .int .i64 0]) ?_ 3 _ rfl; refine blk_put (cs := #[.int .i64 a0_0, .int .i64 a0_1, .string (⟨#[]⟩ : ByteArray), .slice none 0 0, .slice none 0 0, .slice none 0 0, .int .i64 0]) ?_ 2 _ rfl; refine blk_put (cs := #[.int .i64 a0_0, .int .i64 0, .string (⟨#[]⟩ : ByteArray), .slice none 0 0, .slice none 0 0, .slice none 0 0, .int .i64 0]) ?_ 1 _ rfl; refine blk_put (cs := #[.int .i64 0, .int .i64 0, .string (⟨#[]⟩ : ByteArray), .slice none 0 0, .slice none 0 0, .slice none 0 0, .int .i64 0]) ?_ 0 _ rfl; exact gK BK195⟩, ⟨by repeat first | exact gB HB | refine below_set ?_ GE193.out | refine below_set ?_ GE194.out | refine below_set ?_ GE195.out⟩⟩
 case round =>
  clear H'
  try clear c1
  try clear p2
  try clear c4
  try clear c7
  try clear c8
  try clear hcz5_0
  try clear hcz5_1
  try clear hcz5_2
  try clear hcz5_3
  try clear hcz5_4
  try clear hcz5_5
  try clear hcz5_6
  try clear hcz9_0
  try clear hcz9_1
  try clear hcz9_2
  try clear hcz9_3
  try clear hcz9_4
  try clear hcz9_5
  try clear hcz9_6
  try clear hfz5_0
  try clear hfz5_1
  try clear hfz5_2
  try clear hfz5_3
  try clear hfz5_4
  try clear hfz5_5
  try clear hfz5_6
  try clear hfz9_0
  try clear hfz9_1
  try clear hfz9_2
  try clear hfz9_3
  try clear hfz9_4
  try clear hfz9_5
  try clear hfz9_6
  obtain ⟨x4_1, x196005_1, u196005, rfl, HA, HK1, HO_194003, HO_194004, HO_194005, HO_196003, HO_196004, HO_196005, BK193, BK194, BK195, HB⟩ := hrel
  cases gk with
  | zero => exact absurd HA.out (by simp [triglyphref10_Bare.l0])
  | succ k1 =>
   have H := HA.out; clear HA
   simp only [triglyphref10_Bare.l0] at H
   by_cases c10 : x4_1 < (l0_5.length : Int)
   ·rw [if_pos c10] at H
    have c10b0 := decide_eq_true c10
    clear c10
    obtain ⟨c11, H⟩ := iS H
    have c11b0 := decide_eq_true c11
    clear c11
    replace H := Option.bind_eq_some_iff.mp H
    obtain ⟨⟨t197, t198, t199, t200, t203, t206, t209⟩, A120, H⟩ := H
    replace H : (if x196005_1.length < 1256584717458 then (triglyphref10_Bare.l0 k1 (wrap64 (x4_1 + 1)) a0_0 a0_1 a0_2 l0_3 l0_4 l0_5 a0_6 a0_0 a0_1 a0_2 l0_3 l0_4 (x196005_1 ++ [(⟨t197, t198, t199, (⟨t200, t203⟩ : S25), t206, t209⟩ : S34)]) 0) else (none)) = some (r1, r2, r3, r4, r5, r6, r7) := H
    have A12 := gA A120
    clear A120
    obtain ⟨c13, H⟩ := iS H
    have LMc13 := gA c13
    clear c13
    obtain ⟨y210, hy210⟩ : ∃ y_ : List (S34), y_ = (x196005_1 ++ [(⟨t197, t198, t199, (⟨t200, t203⟩ : S25), t206, t209⟩ : S34)]) := ⟨_, rfl⟩
    replace H : (triglyphref10_Bare.l0 k1 (wrap64 (x4_1 + 1)) a0_0 a0_1 a0_2 l0_3 l0_4 l0_5 a0_6 a0_0 a0_1 a0_2 l0_3 l0_4 y210 0) = some (r1, r2, r3, r4, r5, r6, r7) := by first | (rw [hy210]; with_reducible exact H) | (have H2_ := (Option.bind_some _ _).symm.trans H; rw [hy210]; with_reducible exact H2_) | (have H2_ := (Option.bind_some _ _).symm.trans H; with_reducible exact H2_) | with_reducible exact H | (rw [hy210]; exact H) | exact H
    have Ny210 := gA hy210
    clear hy210
    have H' := gA H
    clear H
    have hnb14 := NB193_194.out
    have hnc14 := NB194_193.out
    have hnb15 := NB193_195.out
    have hnc15 := NB195_193.out
    have hcz16_0 := gz BK193 0 rfl
    have hcz16_1 := gz BK193 1 rfl
    have hcz16_2 := gz BK193 2 rfl
    have hcz16_3 := gz BK193 3 rfl
    have hcz16_4 := gz BK193 4 rfl
    have hcz16_5 := gz BK193 5 rfl
    have hcz16_6 := gz BK193 6 rfl
    have hfz16_0 := blk_frozen BK193.out 0
    have hfz16_1 := blk_frozen BK193.out 1
    have hfz16_2 := blk_frozen BK193.out 2
    have hfz16_3 := blk_frozen BK193.out 3
    have hfz16_4 := blk_frozen BK193.out 4
    have hfz16_5 := blk_frozen BK193.out 5
    have hfz16_6 := blk_frozen BK193.out 6
    try go_wp2
    replace HO_194003 := gA (Kd.V_drew HO_194003.out); replace HO_194004 := gA (Kd.V_drew HO_194004.out); replace HO_194005 := gA (Kd.V_drew HO_194005.out); replace HO_196003 := gA (Kd.V_drew HO_196003.out); replace HO_196004 := gA (Kd.V_drew HO_196004.out); replace HO_196005 := gA (Kd.N_drew HO_196005.out); replace BK193 := gA (blk_drew BK193.out); replace BK194 := gA (blk_drew BK194.out); replace BK195 := gA (blk_drew BK195.out); replace HB := gA (below_drew1 HB.out)
    have p196 : 0 ≤ (x4_1 : Int) := of_decide_eq_true (by assumption)
    have q196 : x4_1 < (l0_5.length : Int) := of_decide_eq_true (by assumption)
    obtain ⟨ad196, A196_3, c196_3, A196_4, c196_4, A196_5, c196_5, e196, hx196_0, hx196_1, hx196_2, hx196_3, hx196_4, hx196_5, hx196_6, hl196_3, hi196_3, hl196_4, hi196_4, hl196_5, hi196_5⟩ := at_T34 (Kd.V_reads' HO_194005.out).2.2 x4_1 p196 q196
    cases e196
    obtain ⟨ce196, hce196, hMe196, hcc196⟩ := Kd.V_get HO_194005.out z34 x4_1 p196 (by first | exact q196 | exact of_decide_eq_true (by assumption) | (have e_ := (Kd.V_reads' HO_194005.out).1; omega))
    obtain ⟨ua196_3, uc196_3, ua196_4, uc196_4, ua196_5, uc196_5, rfl, ul196_3, ge196_3, ul196_4, ge196_4, ul196_5, ge196_5⟩ := k34_openF hMe196
    have hv196_3 := hcc196 3 _ rfl
    rw [add_field _ _ 3 (by omega)] at hv196_3
    replace hv196_3 := Option.some.inj (hv196_3.symm.trans hx196_3)
    injection hv196_3 with hva_ hvn_ hvc_
    rw [hva_] at ge196_3
    rw [hvc_] at ul196_3
    have HL196_3 := gA (show Kd.V (Kd.int .i64) 3 _ w.heap.size _ _ ((rd_T34 l0_5 x4_1).f3.f0) from Kd.V_mk ul196_3 ge196_3)
    clear hva_ hvn_ hvc_ ge196_3 ul196_3
    have hv196_4 := hcc196 4 _ rfl
    rw [add_field _ _ 4 (by omega)] at hv196_4
    replace hv196_4 := Option.some.inj (hv196_4.symm.trans hx196_4)
    injection hv196_4 with hva_ hvn_ hvc_
    rw [hva_] at ge196_4
    rw [hvc_] at ul196_4
    have HL196_4 := gA (show Kd.V k52 52 _ w.heap.size _ _ ((rd_T34 l0_5 x4_1).f3.f1) from Kd.V_mk ul196_4 ge196_4)
    clear hva_ hvn_ hvc_ ge196_4 ul196_4
    have hv196_5 := hcc196 5 _ rfl
    rw [add_field _ _ 5 (by omega)] at hv196_5
    replace hv196_5 := Option.some.inj (hv196_5.symm.trans hx196_5)
    injection hv196_5 with hva_ hvn_ hvc_
    rw [hva_] at ge196_5
    rw [hvc_] at ul196_5
    have HL196_5 := gA (show Kd.V k34 34 _ w.heap.size _ _ ((rd_T34 l0_5 x4_1).f4) from Kd.V_mk ul196_5 ge196_5)
    clear hva_ hvn_ hvc_ ge196_5 ul196_5 hcc196 hce196
    have HR196_3 := gA hi196_3
    have HC196_3 := gA hl196_3
    clear hi196_3 hl196_3
    have HR196_4 := gA hi196_4
    have HC196_4 := gA hl196_4
    clear hi196_4 hl196_4
    have HR196_5 := gA hi196_5
    have HC196_5 := gA hl196_5
    clear hi196_5 hl196_5
    replace p196 := eq_true p196
    replace q196 := eq_true q196
    refine start_ (n := 12) (S := fun w' => w'.cell? ⟨gb195, 0, none⟩ = some (.int .i64 a0_0) ∧ w'.cell? ⟨gb195, 1, none⟩ = some (.int .i64 a0_1) ∧ w'.cell? ⟨gb195, 2, none⟩ = some (.string a0_2) ∧ w'.cell? ⟨gb195, 3, none⟩ = some (.slice A0_3 l0_3.length c0_3) ∧ w'.cell? ⟨gb195, 4, none⟩ = some (.slice A0_4 l0_4.length c0_4) ∧ w'.cell? ⟨gb195, 5, none⟩ = some (u196005) ∧ w'.cell? ⟨gb195, 6, none⟩ = some (.int .i64 0) ∧ w'.cell? ⟨gb193, 0, none⟩ = some (.int .i64 a0_0) ∧ w'.cell? ⟨gb193, 1, none⟩ = some (.int .i64 a0_1) ∧ w'.cell? ⟨gb193, 2, none⟩ = some (.string a0_2) ∧ w'.cell? ⟨gb193, 3, none⟩ = some (.slice A0_3 l0_3.length c0_3) ∧ w'.cell? ⟨gb193, 4, none⟩ = some (.slice A0_4 l0_4.length c0_4) ∧ w'.cell? ⟨gb193, 5, none⟩ = some (.slice (some ad196) l0_5.length c0_5) ∧ w'.cell? ⟨gb193, 6, none⟩ = some (.int .i64 a0_6) ∧ w'.cell? (ad196.add ((x4_1).toNat * 7)) = some (.int .i64 ((rd_T34 l0_5 x4_1).f0)) ∧ w'.cell? ⟨(ad196.add ((x4_1).toNat * 7)).block, (ad196.add ((x4_1).toNat * 7)).off + 1, none⟩ = some (.int .i64 ((rd_T34 l0_5 x4_1).f1)) ∧ w'.cell? ⟨(ad196.add ((x4_1).toNat * 7)).block, (ad196.add ((x4_1).toNat * 7)).off + 2, none⟩ = some (.string ((rd_T34 l0_5 x4_1).f2)) ∧ w'.cell? ⟨(ad196.add ((x4_1).toNat * 7)).block, (ad196.add ((x4_1).toNat * 7)).off + 3, none⟩ = some (.slice A196_3 ((rd_T34 l0_5 x4_1).f3.f0).length c196_3) ∧ w'.cell? ⟨(ad196.add ((x4_1).toNat * 7)).block, (ad196.add ((x4_1).toNat * 7)).off + 4, none⟩ = some (.slice A196_4 ((rd_T34 l0_5 x4_1).f3.f1).length c196_4) ∧ w'.cell? ⟨(ad196.add ((x4_1).toNat * 7)).block, (ad196.add ((x4_1).toNat * 7)).off + 5, none⟩ = some (.slice A196_5 ((rd_T34 l0_5 x4_1).f4).length c196_5) ∧ w'.cell? ⟨(ad196.add ((x4_1).toNat * 7)).block, (ad196.add ((x4_1).toNat * 7)).off + 6, none⟩ = some (.int .i64 ((rd_T34 l0_5 x4_1).f5))) (ds := [9, 11]) #[false, false, false, false, false, false, false, false, false, false, false, false] (by kernel_rfl) rfl rfl ⟨(blk_cell BK195.out 0).trans rfl, (blk_cell BK195.out 1).trans rfl, (blk_cell BK195.out 2).trans rfl, (blk_cell BK195.out 3).trans rfl, (blk_cell BK195.out 4).trans rfl, (blk_cell BK195.out 5).trans rfl, (blk_cell BK195.out 6).trans rfl, (blk_cell BK193.out 0).trans rfl, (blk_cell BK193.out 1).trans rfl, (blk_cell BK193.out 2).trans rfl, (blk_cell BK193.out 3).trans rfl, (blk_cell BK193.out 4).trans rfl, (blk_cell BK193.out 5).trans rfl, (blk_cell BK193.out 6).trans rfl, hx196_0, hx196_1, hx196_2, hx196_3, hx196_4, hx196_5, hx196_6⟩ (fun hHeld => ?_); refine with_tabW triglyphref10_Bare.tab5 triglyphref10_Bare.bits5 (fun HT_ HW_ => ?_)
    generalize wr.drew = w17 at HO_194003 HO_194004 HO_194005 HO_196003 HO_196004 HO_196005 BK193 BK194 BK195 HB HL196_3 HL196_4 HL196_5 HR196_3 HR196_4 HR196_5 hx196_0 hx196_1 hx196_2 hx196_3 hx196_4 hx196_5 hx196_6 hHeld ⊢
    refine pure_ (i := 0) (N := some 21) (v := ?_) (a' := ?_) #[true, false, false, false, false, false, false, false, false, false, false, false] rfl rfl (any_of HT_.out (by kernel_rfl)) (fun _ _ _ h => h) (Or.inl ⟨by rfl, ?_⟩) ?_ ?_; rotate_left
    ·intro w'; go_simp; with_reducible rfl
    rotate_left
    ·simp only [Act.put, List.setIfInBounds_toArray, List.set_cons_zero, List.set_cons_succ, i64_w, i32_w]; rfl
    refine pure_ (i := 2) (N := some 23) (v := ?_) (a' := ?_) #[true, false, true, false, false, false, false, false, false, false, false, false] rfl rfl (any_of HT_.out (by kernel_rfl)) (fun _ _ _ h => h) (Or.inl ⟨by rfl, ?_⟩) ?_ ?_; rotate_left
    ·intro w'; go_simp; with_reducible rfl
    rotate_left
    ·simp only [Act.put, List.setIfInBounds_toArray, List.set_cons_zero, List.set_cons_succ, i64_w, i32_w]; rfl
    refine pure_ (i := 4) (N := some 25) (v := ?_) (a' := ?_) #[true, false, true, false, true, false, false, false, false, false, false, false] rfl rfl (any_of HT_.out (by kernel_rfl)) (fun _ _ _ h => h) (Or.inl ⟨by rfl, ?_⟩) ?_ ?_; rotate_left
    ·intro w'; go_simp; with_reducible rfl
    rotate_left
    ·simp only [Act.put, List.setIfInBounds_toArray, List.set_cons_zero, List.set_cons_succ, i64_w, i32_w]; rfl
    refine take_ (i := 1) (N := some 22) (v := ?_) (a' := ?_) #[true, true, true, false, true, false, false, false, false, false, false, false] rfl rfl (take_ofW HT_.out HW_.out (by kernel_rfl)) (fun _ _ _ h => h) (Or.inl ⟨by rfl, ?_⟩) hHeld ?_ ?_; rotate_left
    ·rintro w' ⟨s0, s1, s2, s3, s4, s5, s6, s7, s8, s9, s10, s11, s12, s13, s14, s15, s16, s17, s18, s19, s20⟩; go_simp; with_reducible rfl
    rotate_left
    ·simp only [Act.put, List.setIfInBounds_toArray, List.set_cons_zero, List.set_cons_succ, i64_w, i32_w]; rfl
    refine take_ (i := 3) (N := some 24) (v := ?_) (a' := ?_) #[true, true, true, true, true, false, false, false, false, false, false, false] rfl rfl (take_ofW HT_.out HW_.out (by kernel_rfl)) (fun _ _ _ h => h) (Or.inl ⟨by rfl, ?_⟩) hHeld ?_ ?_; rotate_left
    ·rintro w' ⟨s0, s1, s2, s3, s4, s5, s6, s7, s8, s9, s10, s11, s12, s13, s14, s15, s16, s17, s18, s19, s20⟩; go_simp; with_reducible rfl
    rotate_left
    ·simp only [Act.put, List.setIfInBounds_toArray, List.set_cons_zero, List.set_cons_succ, i64_w, i32_w]; rfl
    refine pure_ (i := 5) (N := some 26) (v := ?_) (a' := ?_) #[true, true, true, true, true, true, false, false, false, false, false, false] rfl rfl (any_of HT_.out (by kernel_rfl)) (fun _ _ _ h => h) (Or.inl ⟨by rfl, ?_⟩) ?_ ?_; rotate_left
    ·intro w'; go_simp; with_reducible rfl
    rotate_left
    ·simp only [Act.put, List.setIfInBounds_toArray, List.set_cons_zero, List.set_cons_succ, i64_w, i32_w]; rfl
    refine take_ (i := 6) (N := some 27) (v := ?_) (a' := ?_) #[true, true, true, true, true, true, true, false, false, false, false, false] rfl rfl (take_ofW HT_.out HW_.out (by kernel_rfl)) (fun _ _ _ h => h) (Or.inl ⟨by rfl, ?_⟩) hHeld ?_ ?_; rotate_left
    ·rintro w' ⟨s0, s1, s2, s3, s4, s5, s6, s7, s8, s9, s10, s11, s12, s13, s14, s15, s16, s17, s18, s19, s20⟩; go_simp; with_reducible rfl
    rotate_left
    ·simp only [Act.put, List.setIfInBounds_toArray, List.set_cons_zero, List.set_cons_succ, i64_w, i32_w]; rfl
    refine one_ (i := 7) (N := some 28) #[true, true, true, true, true, true, true, true, false, false, false, false] rfl rfl (one_of HT_.out (by kernel_rfl)) (by decide) (fun K hK => ?_)
    refine goes_ Try.func18 (by kernel_rfl) rfl #[.agg #[.int .i64 ((rd_T34 l0_5 x4_1).f0), .int .i64 ((rd_T34 l0_5 x4_1).f1), .string ((rd_T34 l0_5 x4_1).f2), .slice A196_3 ((rd_T34 l0_5 x4_1).f3.f0).length c196_3, .slice A196_4 ((rd_T34 l0_5 x4_1).f3.f1).length c196_4, .slice A196_5 ((rd_T34 l0_5 x4_1).f4).length c196_5, .int .i64 ((rd_T34 l0_5 x4_1).f5)]] (by rfl) rfl rfl (by (try simp only [List.map_toArray, List.map_cons, List.map_nil]); first | done | rfl | (simp only [List.length_drop, List.length_take]; rfl)) ?_
    with_reducible refine (ih k1 (by have := HK1.out; omega) ((rd_T34 l0_5 x4_1).f0) ((rd_T34 l0_5 x4_1).f1) ((rd_T34 l0_5 x4_1).f2) (fun k_ => (((P0_3_ k_ ∨ P0_4_ k_ ∨ P0_5_ k_) ∨ w.heap.size ≤ k_) ∧ (some k_ ≠ (u196005 : Value).ownBlock ∧ (k_ ≠ gb193 ∧ (k_ ≠ gb194 ∧ k_ ≠ gb195))))) _ _ ((rd_T34 l0_5 x4_1).f3.f0) (fun k_ => (((P0_3_ k_ ∨ P0_4_ k_ ∨ P0_5_ k_) ∨ w.heap.size ≤ k_) ∧ (some k_ ≠ (u196005 : Value).ownBlock ∧ (k_ ≠ gb193 ∧ (k_ ≠ gb194 ∧ k_ ≠ gb195))))) _ _ ((rd_T34 l0_5 x4_1).f3.f1) (fun k_ => (((P0_3_ k_ ∨ P0_4_ k_ ∨ P0_5_ k_) ∨ w.heap.size ≤ k_) ∧ (some k_ ≠ (u196005 : Value).ownBlock ∧ (k_ ≠ gb193 ∧ (k_ ≠ gb194 ∧ k_ ≠ gb195))))) _ _ ((rd_T34 l0_5 x4_1).f4) ((rd_T34 l0_5 x4_1).f5) t197 t198 t199 t200 t203 t206 t209 _ ?side1 ?side2 ?side3 A12.out).mono ?_
    (case side1 => exact HL196_3.out)
    (case side2 => exact HL196_4.out)
    (case side3 => exact HL196_5.out)
    rintro e w18 ⟨v201, v204, v207, rfl, ho0, ho1, ho2, hb⟩
    have HS14_ := (hb.cell (World.block_lt_of_cell? _ _ (hHeld.2.2.2.2.2.2.2.2.2.2.2.2.2.2.1))).trans (hHeld.2.2.2.2.2.2.2.2.2.2.2.2.2.2.1)
    have HS15_ := (hb.cell (World.block_lt_of_cell? _ _ (hHeld.2.2.2.2.2.2.2.2.2.2.2.2.2.2.2.1))).trans (hHeld.2.2.2.2.2.2.2.2.2.2.2.2.2.2.2.1)
    have HS16_ := (hb.cell (World.block_lt_of_cell? _ _ (hHeld.2.2.2.2.2.2.2.2.2.2.2.2.2.2.2.2.1))).trans (hHeld.2.2.2.2.2.2.2.2.2.2.2.2.2.2.2.2.1)
    have HS17_ := (hb.cell (World.block_lt_of_cell? _ _ (hHeld.2.2.2.2.2.2.2.2.2.2.2.2.2.2.2.2.2.1))).trans (hHeld.2.2.2.2.2.2.2.2.2.2.2.2.2.2.2.2.2.1)
    have HS18_ := (hb.cell (World.block_lt_of_cell? _ _ (hHeld.2.2.2.2.2.2.2.2.2.2.2.2.2.2.2.2.2.2.1))).trans (hHeld.2.2.2.2.2.2.2.2.2.2.2.2.2.2.2.2.2.2.1)
    have HS19_ := (hb.cell (World.block_lt_of_cell? _ _ (hHeld.2.2.2.2.2.2.2.2.2.2.2.2.2.2.2.2.2.2.2.1))).trans (hHeld.2.2.2.2.2.2.2.2.2.2.2.2.2.2.2.2.2.2.2.1)
    have HS20_ := (hb.cell (World.block_lt_of_cell? _ _ (hHeld.2.2.2.2.2.2.2.2.2.2.2.2.2.2.2.2.2.2.2.2))).trans (hHeld.2.2.2.2.2.2.2.2.2.2.2.2.2.2.2.2.2.2.2.2)
    refine ⟨_, rfl, ?_⟩
    replace HO_194003 := gA (Kd.V_elder' (gV HO_194003) (Kd.N_base ho2) hb); replace HO_194004 := gA (Kd.V_elder' (gV HO_194004) (Kd.N_base ho2) hb); replace HO_194005 := gA (Kd.V_elder' (gV HO_194005) (Kd.N_base ho2) hb); replace HO_196003 := gA (Kd.V_elder' (gV HO_196003) (Kd.N_base ho2) hb); replace HO_196004 := gA (Kd.V_elder' (gV HO_196004) (Kd.N_base ho2) hb); replace HL196_3 := gA (Kd.V_elder' (gV HL196_3) (Kd.N_base ho2) hb); replace HL196_4 := gA (Kd.V_elder' (gV HL196_4) (Kd.N_base ho2) hb); replace HL196_5 := gA (Kd.V_elder' (gV HL196_5) (Kd.N_base ho2) hb); have HO202 := gA (Kd.V_lower (Kd.V_mono (ok' := fun k_ => ((P0_3_ k_ ∨ P0_4_ k_ ∨ P0_5_ k_) ∨ w.heap.size ≤ k_) ∧ some k_ ≠ (v207 : Value).ownBlock ∧ some k_ ≠ (u196005 : Value).ownBlock ∧ k_ ≠ gb193 ∧ k_ ≠ gb194 ∧ k_ ≠ gb195) ho0 (fun k_ hk_ => ⟨Or.elim hk_.1 (fun hs_ => Or.elim hs_ (fun hs_ => hs_.1) (fun hs_ => Or.elim hs_ (fun hs_ => hs_.1) (fun hs_ => hs_.1))) (fun hn_ => (.inr (Nat.le_trans (below_size (gB HB)) hn_))), hk_.2, Or.elim hk_.1 (fun hs_ => Or.elim hs_ (fun hs_ => hs_.2.1) (fun hs_ => Or.elim hs_ (fun hs_ => hs_.2.1) (fun hs_ => hs_.2.1))) (fun hn_ => (Kd.fresh' (Kd.N_lt (gN HO_196005)) k_ hn_)), Or.elim hk_.1 (fun hs_ => Or.elim hs_ (fun hs_ => hs_.2.2.1) (fun hs_ => Or.elim hs_ (fun hs_ => hs_.2.2.1) (fun hs_ => hs_.2.2.1))) (fun hn_ => (Kd.freshB (gK BK193) k_ hn_)), Or.elim hk_.1 (fun hs_ => Or.elim hs_ (fun hs_ => hs_.2.2.2.1) (fun hs_ => Or.elim hs_ (fun hs_ => hs_.2.2.2.1) (fun hs_ => hs_.2.2.2.1))) (fun hn_ => (Kd.freshB (g := gb194) (o := .cells #[.int .i64 0, .int .i64 0, .string (⟨#[]⟩ : ByteArray), .slice none 0 0, .slice none 0 0, .slice none 0 0, .int .i64 0] 34 (0, 0)) (gK BK194) k_ hn_)), Or.elim hk_.1 (fun hs_ => Or.elim hs_ (fun hs_ => hs_.2.2.2.2) (fun hs_ => Or.elim hs_ (fun hs_ => hs_.2.2.2.2) (fun hs_ => hs_.2.2.2.2))) (fun hn_ => (Kd.freshB (gK BK195) k_ hn_))⟩)) (below_size (gB HB))); have HO205 := gA (Kd.V_lower (Kd.V_mono (ok' := fun k_ => ((P0_3_ k_ ∨ P0_4_ k_ ∨ P0_5_ k_) ∨ w.heap.size ≤ k_) ∧ some k_ ≠ (v207 : Value).ownBlock ∧ some k_ ≠ (u196005 : Value).ownBlock ∧ k_ ≠ gb193 ∧ k_ ≠ gb194 ∧ k_ ≠ gb195) ho1 (fun k_ hk_ => ⟨Or.elim hk_.1 (fun hs_ => Or.elim hs_ (fun hs_ => hs_.1) (fun hs_ => Or.elim hs_ (fun hs_ => hs_.1) (fun hs_ => hs_.1))) (fun hn_ => (.inr (Nat.le_trans (below_size (gB HB)) hn_))), hk_.2, Or.elim hk_.1 (fun hs_ => Or.elim hs_ (fun hs_ => hs_.2.1) (fun hs_ => Or.elim hs_ (fun hs_ => hs_.2.1) (fun hs_ => hs_.2.1))) (fun hn_ => (Kd.fresh' (Kd.N_lt (gN HO_196005)) k_ hn_)), Or.elim hk_.1 (fun hs_ => Or.elim hs_ (fun hs_ => hs_.2.2.1) (fun hs_ => Or.elim hs_ (fun hs_ => hs_.2.2.1) (fun hs_ => hs_.2.2.1))) (fun hn_ => (Kd.freshB (gK BK193) k_ hn_)), Or.elim hk_.1 (fun hs_ => Or.elim hs_ (fun hs_ => hs_.2.2.2.1) (fun hs_ => Or.elim hs_ (fun hs_ => hs_.2.2.2.1) (fun hs_ => hs_.2.2.2.1))) (fun hn_ => (Kd.freshB (g := gb194) (o := .cells #[.int .i64 0, .int .i64 0, .string (⟨#[]⟩ : ByteArray), .slice none 0 0, .slice none 0 0, .slice none 0 0, .int .i64 0] 34 (0, 0)) (gK BK194) k_ hn_)), Or.elim hk_.1 (fun hs_ => Or.elim hs_ (fun hs_ => hs_.2.2.2.2) (fun hs_ => Or.elim hs_ (fun hs_ => hs_.2.2.2.2) (fun hs_ => hs_.2.2.2.2))) (fun hn_ => (Kd.freshB (gK BK195) k_ hn_))⟩)) (below_size (gB HB))); have HO208 := gA (Kd.N_lower (Kd.N_mono (ok' := fun k_ => ((P0_3_ k_ ∨ P0_4_ k_ ∨ P0_5_ k_) ∨ w.heap.size ≤ k_) ∧ some k_ ≠ (u196005 : Value).ownBlock ∧ k_ ≠ gb193 ∧ k_ ≠ gb194 ∧ k_ ≠ gb195) ho2 (fun k_ hk_ => ⟨Or.elim hk_ (fun hs_ => Or.elim hs_ (fun hs_ => hs_.1) (fun hs_ => Or.elim hs_ (fun hs_ => hs_.1) (fun hs_ => hs_.1))) (fun hn_ => (.inr (Nat.le_trans (below_size (gB HB)) hn_))), Or.elim hk_ (fun hs_ => Or.elim hs_ (fun hs_ => hs_.2.1) (fun hs_ => Or.elim hs_ (fun hs_ => hs_.2.1) (fun hs_ => hs_.2.1))) (fun hn_ => (Kd.fresh' (Kd.N_lt (gN HO_196005)) k_ hn_)), Or.elim hk_ (fun hs_ => Or.elim hs_ (fun hs_ => hs_.2.2.1) (fun hs_ => Or.elim hs_ (fun hs_ => hs_.2.2.1) (fun hs_ => hs_.2.2.1))) (fun hn_ => (Kd.freshB (gK BK193) k_ hn_)), Or.elim hk_ (fun hs_ => Or.elim hs_ (fun hs_ => hs_.2.2.2.1) (fun hs_ => Or.elim hs_ (fun hs_ => hs_.2.2.2.1) (fun hs_ => hs_.2.2.2.1))) (fun hn_ => (Kd.freshB (g := gb194) (o := .cells #[.int .i64 0, .int .i64 0, .string (⟨#[]⟩ : ByteArray), .slice none 0 0, .slice none 0 0, .slice none 0 0, .int .i64 0] 34 (0, 0)) (gK BK194) k_ hn_)), Or.elim hk_ (fun hs_ => Or.elim hs_ (fun hs_ => hs_.2.2.2.2) (fun hs_ => Or.elim hs_ (fun hs_ => hs_.2.2.2.2) (fun hs_ => hs_.2.2.2.2))) (fun hn_ => (Kd.freshB (gK BK195) k_ hn_))⟩)) (below_size (gB HB))); replace HO_196005 := gA (Kd.N_elder' (gN HO_196005) (Kd.N_base ho2) hb); replace BK193 := gA (blk_below (gK BK193) hb); replace BK194 := gA (blk_below (g := gb194) (o := .cells #[.int .i64 0, .int .i64 0, .string (⟨#[]⟩ : ByteArray), .slice none 0 0, .slice none 0 0, .slice none 0 0, .int .i64 0] 34 (0, 0)) (gK BK194) hb); replace BK195 := gA (blk_below (gK BK195) hb); replace HR196_3 := gA (Kd.C_below (by repeat (first | (with_reducible exact HR196_3.out) | (with_reducible refine Kd.C_alloc ?_ _) | (with_reducible refine Kd.C_drewN ?_ _) | (with_reducible refine Kd.C_drew ?_) | exact HR196_3.out)) hb); replace HR196_4 := gA (Kd.C_below (by repeat (first | (with_reducible exact HR196_4.out) | (with_reducible refine Kd.C_alloc ?_ _) | (with_reducible refine Kd.C_drewN ?_ _) | (with_reducible refine Kd.C_drew ?_) | exact HR196_4.out)) hb); replace HR196_5 := gA (Kd.C_below (by repeat (first | (with_reducible exact HR196_5.out) | (with_reducible refine Kd.C_alloc ?_ _) | (with_reducible refine Kd.C_drewN ?_ _) | (with_reducible refine Kd.C_drew ?_) | exact HR196_5.out)) hb); replace HB := gA (below_step (gB HB) hb); (try clear hb); (try clear ho0); (try clear ho1); (try clear ho2)
    obtain ⟨Ao20, co20, eo20⟩ := Kd.V_slice HO202.out
    (first | subst eo20 | (injection eo20 with f1_ f2_ f3_; have f4_ := f1_.symm; have f5_ := f3_.symm; clear f1_ f2_ f3_; subst f4_; subst f5_))
    obtain ⟨Ao21, co21, eo21⟩ := Kd.V_slice HO205.out
    (first | subst eo21 | (injection eo21 with f1_ f2_ f3_; have f4_ := f1_.symm; have f5_ := f3_.symm; clear f1_ f2_ f3_; subst f4_; subst f5_))
    obtain ⟨Ao22, co22, eo22⟩ := Kd.N_slice HO208.out
    (first | subst eo22 | (injection eo22 with f1_ f2_ f3_; have f4_ := f1_.symm; have f5_ := f3_.symm; clear f1_ f2_ f3_; subst f4_; subst f5_))
    refine hK.out _ _ ⟨(blk_cell BK195.out 0).trans rfl, (blk_cell BK195.out 1).trans rfl, (blk_cell BK195.out 2).trans rfl, (blk_cell BK195.out 3).trans rfl, (blk_cell BK195.out 4).trans rfl, (blk_cell BK195.out 5).trans rfl, (blk_cell BK195.out 6).trans rfl, (blk_cell BK193.out 0).trans rfl, (blk_cell BK193.out 1).trans rfl, (blk_cell BK193.out 2).trans rfl, (blk_cell BK193.out 3).trans rfl, (blk_cell BK193.out 4).trans rfl, (blk_cell BK193.out 5).trans rfl, (blk_cell BK193.out 6).trans rfl, HS14_, HS15_, HS16_, HS17_, HS18_, HS19_, HS20_⟩ (fun hHeld => ?_); clear hK K
    refine norm_ (a' := ?_) ?_ ?_; rotate_left
    ·show Act.put _ (some 28) _ = _
     simp only [Act.put, List.setIfInBounds_toArray, List.set_cons_zero, List.set_cons_succ, i64_w, i32_w]; rfl
    refine one_ (i := 8) (N := some 29) #[true, true, true, true, true, true, true, true, true, false, false, false] rfl rfl (one_of HT_.out (by kernel_rfl)) (by decide) (fun K hK => ?_)
    refine value_ (w1 := ?_) (v := ?_) (by rfl) rfl ?_ ?_
    rotate_left 2
    ·go_simp
     constructor
     ·rfl
     ·rfl
    refine hK.out _ _ ⟨(blk_cell (blk_alloc BK195.out _) 0).trans rfl, (blk_cell (blk_alloc BK195.out _) 1).trans rfl, (blk_cell (blk_alloc BK195.out _) 2).trans rfl, (blk_cell (blk_alloc BK195.out _) 3).trans rfl, (blk_cell (blk_alloc BK195.out _) 4).trans rfl, (blk_cell (blk_alloc BK195.out _) 5).trans rfl, (blk_cell (blk_alloc BK195.out _) 6).trans rfl, (blk_cell (blk_alloc BK193.out _) 0).trans rfl, (blk_cell (blk_alloc BK193.out _) 1).trans rfl, (blk_cell (blk_alloc BK193.out _) 2).trans rfl, (blk_cell (blk_alloc BK193.out _) 3).trans rfl, (blk_cell (blk_alloc BK193.out _) 4).trans rfl, (blk_cell (blk_alloc BK193.out _) 5).trans rfl, (blk_cell (blk_alloc BK193.out _) 6).trans rfl, (World.cell?_alloc_lt _ _ _ (World.block_lt_of_cell? _ _ (hHeld.2.2.2.2.2.2.2.2.2.2.2.2.2.2.1))).trans (hHeld.2.2.2.2.2.2.2.2.2.2.2.2.2.2.1), (World.cell?_alloc_lt _ _ _ (World.block_lt_of_cell? _ _ (hHeld.2.2.2.2.2.2.2.2.2.2.2.2.2.2.2.1))).trans (hHeld.2.2.2.2.2.2.2.2.2.2.2.2.2.2.2.1), (World.cell?_alloc_lt _ _ _ (World.block_lt_of_cell? _ _ (hHeld.2.2.2.2.2.2.2.2.2.2.2.2.2.2.2.2.1))).trans (hHeld.2.2.2.2.2.2.2.2.2.2.2.2.2.2.2.2.1), (World.cell?_alloc_lt _ _ _ (World.block_lt_of_cell? _ _ (hHeld.2.2.2.2.2.2.2.2.2.2.2.2.2.2.2.2.2.1))).trans (hHeld.2.2.2.2.2.2.2.2.2.2.2.2.2.2.2.2.2.1), (World.cell?_alloc_lt _ _ _ (World.block_lt_of_cell? _ _ (hHeld.2.2.2.2.2.2.2.2.2.2.2.2.2.2.2.2.2.2.1))).trans (hHeld.2.2.2.2.2.2.2.2.2.2.2.2.2.2.2.2.2.2.1), (World.cell?_alloc_lt _ _ _ (World.block_lt_of_cell? _ _ (hHeld.2.2.2.2.2.2.2.2.2.2.2.2.2.2.2.2.2.2.2.1))).trans (hHeld.2.2.2.2.2.2.2.2.2.2.2.2.2.2.2.2.2.2.2.1), (World.cell?_alloc_lt _ _ _ (World.block_lt_of_cell? _ _ (hHeld.2.2.2.2.2.2.2.2.2.2.2.2.2.2.2.2.2.2.2.2))).trans (hHeld.2.2.2.2.2.2.2.2.2.2.2.2.2.2.2.2.2.2.2.2)⟩ (fun hHeld => ?_); clear hK K
    refine norm_ (a' := ?_) ?_ ?_; rotate_left
    ·show Act.put _ (some 29) _ = _
     simp only [Act.put, List.setIfInBounds_toArray, List.set_cons_zero, List.set_cons_succ, i64_w, i32_w]; rfl
    refine last_ (i := 9) (N := some 30) #[true, true, true, true, true, true, true, true, true, true, false, false] rfl rfl (one_of HT_.out (by kernel_rfl)) (by decide) (fun K hK => ?_)
    refine Kd.N_append_step k34 (w0 := w) w.heap.size (by rfl) (.tmp 22) (.tmp 29) 32 34 (.agg #[(.int .i64 0), (.int .i64 0), (.string ⟨#[]⟩), (.slice none 0 0), (.slice none 0 0), (.slice none 0 0), (.int .i64 0)]) 112 rfl Try.underlying32 info34 rfl (by decide) (by omega) u196005 x196005_1 (⟨t197, t198, t199, (⟨t200, t203⟩ : S25), t206, t209⟩ : S34) [.int .i64 t197, .int .i64 t198, .string t199, .slice Ao20 t200.length co20, .slice Ao21 t203.length co21, .slice Ao22 t206.length co22, .int .i64 t209] (fun k_ => ((P0_3_ k_ ∨ P0_4_ k_ ∨ P0_5_ k_) ∨ w.heap.size ≤ k_) ∧ k_ ≠ gb193 ∧ k_ ≠ gb194 ∧ k_ ≠ gb195) (fun k_ => ((fun k_ => ((P0_3_ k_ ∨ P0_4_ k_ ∨ P0_5_ k_) ∨ w.heap.size ≤ k_) ∧ k_ ≠ gb193 ∧ k_ ≠ gb194 ∧ k_ ≠ gb195)) k_ ∧ some k_ ≠ (u196005 : Value).ownBlock) rfl rfl ?aP (fun _ hk => hk) ?aF ?aO ?aB ?aS ?aL ?_
    (case aP => exact (k34_mkF _ _ (⟨t197, t198, t199, (⟨t200, t203⟩ : S25), t206, t209⟩ : S34) (Kd.V_reads' (Kd.V_mono (ok' := (fun k_ => ((fun k_ => ((P0_3_ k_ ∨ P0_4_ k_ ∨ P0_5_ k_) ∨ w.heap.size ≤ k_) ∧ k_ ≠ gb193 ∧ k_ ≠ gb194 ∧ k_ ≠ gb195)) k_ ∧ some k_ ≠ (u196005 : Value).ownBlock)) (HO202.out) (fun k_ hk => ⟨⟨hk.1, ⟨hk.2.2.2.1, ⟨hk.2.2.2.2.1, hk.2.2.2.2.2⟩⟩⟩, hk.2.2.1⟩))).2.1 (Kd.V_F (Kd.V_mono (ok' := (fun k_ => ((fun k_ => ((P0_3_ k_ ∨ P0_4_ k_ ∨ P0_5_ k_) ∨ w.heap.size ≤ k_) ∧ k_ ≠ gb193 ∧ k_ ≠ gb194 ∧ k_ ≠ gb195)) k_ ∧ some k_ ≠ (u196005 : Value).ownBlock)) (HO202.out) (fun k_ hk => ⟨⟨hk.1, ⟨hk.2.2.2.1, ⟨hk.2.2.2.2.1, hk.2.2.2.2.2⟩⟩⟩, hk.2.2.1⟩))) (Kd.V_reads' (Kd.V_mono (ok' := (fun k_ => ((fun k_ => ((P0_3_ k_ ∨ P0_4_ k_ ∨ P0_5_ k_) ∨ w.heap.size ≤ k_) ∧ k_ ≠ gb193 ∧ k_ ≠ gb194 ∧ k_ ≠ gb195)) k_ ∧ some k_ ≠ (u196005 : Value).ownBlock)) (HO205.out) (fun k_ hk => ⟨⟨hk.1, ⟨hk.2.2.2.1, ⟨hk.2.2.2.2.1, hk.2.2.2.2.2⟩⟩⟩, hk.2.2.1⟩))).2.1 (Kd.V_F (Kd.V_mono (ok' := (fun k_ => ((fun k_ => ((P0_3_ k_ ∨ P0_4_ k_ ∨ P0_5_ k_) ∨ w.heap.size ≤ k_) ∧ k_ ≠ gb193 ∧ k_ ≠ gb194 ∧ k_ ≠ gb195)) k_ ∧ some k_ ≠ (u196005 : Value).ownBlock)) (HO205.out) (fun k_ hk => ⟨⟨hk.1, ⟨hk.2.2.2.1, ⟨hk.2.2.2.2.1, hk.2.2.2.2.2⟩⟩⟩, hk.2.2.1⟩))) (Kd.N_reads' (Kd.N_mono (ok' := (fun k_ => ((fun k_ => ((P0_3_ k_ ∨ P0_4_ k_ ∨ P0_5_ k_) ∨ w.heap.size ≤ k_) ∧ k_ ≠ gb193 ∧ k_ ≠ gb194 ∧ k_ ≠ gb195)) k_ ∧ some k_ ≠ (u196005 : Value).ownBlock)) (HO208.out) (fun k_ hk => ⟨⟨hk.1, ⟨hk.2.2.1, ⟨hk.2.2.2.1, hk.2.2.2.2⟩⟩⟩, hk.2.1⟩))).2.1 (Kd.N_F (Kd.N_mono (ok' := (fun k_ => ((fun k_ => ((P0_3_ k_ ∨ P0_4_ k_ ∨ P0_5_ k_) ∨ w.heap.size ≤ k_) ∧ k_ ≠ gb193 ∧ k_ ≠ gb194 ∧ k_ ≠ gb195)) k_ ∧ some k_ ≠ (u196005 : Value).ownBlock)) (HO208.out) (fun k_ hk => ⟨⟨hk.1, ⟨hk.2.2.1, ⟨hk.2.2.2.1, hk.2.2.2.2⟩⟩⟩, hk.2.1⟩)))))
    (case aB => exact (gB HB))
    (case aF => exact (fun k_ hk => ⟨(.inr (Nat.le_trans (below_size (gB HB)) hk)), Kd.freshB (gK BK193) k_ hk, Kd.freshB (g := gb194) (o := .cells #[.int .i64 0, .int .i64 0, .string (⟨#[]⟩ : ByteArray), .slice none 0 0, .slice none 0 0, .slice none 0 0, .int .i64 0] 34 (0, 0)) (gK BK194) k_ hk, Kd.freshB (gK BK195) k_ hk⟩))
    (case aO => exact (Kd.N_mono HO_196005.out (fun _ hk => ⟨hk.1.1, ⟨hk.1.2.1, ⟨hk.1.2.2.1, hk.1.2.2.2⟩⟩⟩)))
    (case aS => exact (below_size (gB HB)))
    (case aL => have := LMc13.out; omega)
    intro v211 w19 ho hb hg hat
    rw [← Ny210.out] at ho
    replace HO_194003 := gA (Kd.V_afterv (ok := (fun k_ => ((P0_3_ k_ ∨ P0_4_ k_ ∨ P0_5_ k_) ∨ w.heap.size ≤ k_) ∧ some k_ ≠ (.slice Ao22 t206.length co22 : Value).ownBlock ∧ k_ ≠ gb193 ∧ k_ ≠ gb194 ∧ k_ ≠ gb195)) (Kd.V_mono HO_194003.out (fun _ hk => ⟨⟨hk.1.1, ⟨hk.2, ⟨hk.1.2.2.1, ⟨hk.1.2.2.2.1, hk.1.2.2.2.2⟩⟩⟩⟩, hk.1.2.1⟩)) hg hat); replace HO_194004 := gA (Kd.V_afterv (ok := (fun k_ => ((P0_3_ k_ ∨ P0_4_ k_ ∨ P0_5_ k_) ∨ w.heap.size ≤ k_) ∧ some k_ ≠ (.slice Ao22 t206.length co22 : Value).ownBlock ∧ k_ ≠ gb193 ∧ k_ ≠ gb194 ∧ k_ ≠ gb195)) (Kd.V_mono HO_194004.out (fun _ hk => ⟨⟨hk.1.1, ⟨hk.2, ⟨hk.1.2.2.1, ⟨hk.1.2.2.2.1, hk.1.2.2.2.2⟩⟩⟩⟩, hk.1.2.1⟩)) hg hat); replace HO_194005 := gA (Kd.V_afterv (ok := (fun k_ => ((P0_3_ k_ ∨ P0_4_ k_ ∨ P0_5_ k_) ∨ w.heap.size ≤ k_) ∧ some k_ ≠ (.slice Ao22 t206.length co22 : Value).ownBlock ∧ k_ ≠ gb193 ∧ k_ ≠ gb194 ∧ k_ ≠ gb195)) (Kd.V_mono HO_194005.out (fun _ hk => ⟨⟨hk.1.1, ⟨hk.2, ⟨hk.1.2.2.1, ⟨hk.1.2.2.2.1, hk.1.2.2.2.2⟩⟩⟩⟩, hk.1.2.1⟩)) hg hat); replace HO_196003 := gA (Kd.V_afterv (ok := (fun k_ => ((P0_3_ k_ ∨ P0_4_ k_ ∨ P0_5_ k_) ∨ w.heap.size ≤ k_) ∧ some k_ ≠ (.slice Ao22 t206.length co22 : Value).ownBlock ∧ k_ ≠ gb193 ∧ k_ ≠ gb194 ∧ k_ ≠ gb195)) (Kd.V_mono HO_196003.out (fun _ hk => ⟨⟨hk.1.1, ⟨hk.2, ⟨hk.1.2.2.1, ⟨hk.1.2.2.2.1, hk.1.2.2.2.2⟩⟩⟩⟩, hk.1.2.1⟩)) hg hat); replace HO_196004 := gA (Kd.V_afterv (ok := (fun k_ => ((P0_3_ k_ ∨ P0_4_ k_ ∨ P0_5_ k_) ∨ w.heap.size ≤ k_) ∧ some k_ ≠ (.slice Ao22 t206.length co22 : Value).ownBlock ∧ k_ ≠ gb193 ∧ k_ ≠ gb194 ∧ k_ ≠ gb195)) (Kd.V_mono HO_196004.out (fun _ hk => ⟨⟨hk.1.1, ⟨hk.2, ⟨hk.1.2.2.1, ⟨hk.1.2.2.2.1, hk.1.2.2.2.2⟩⟩⟩⟩, hk.1.2.1⟩)) hg hat); replace BK193 := gA (blk_grown (gK BK193) hg (Kd.N_away HO_196005.out (fun _ hk => hk.1.2.1))); replace BK194 := gA (blk_grown (g := gb194) (o := .cells #[.int .i64 0, .int .i64 0, .string (⟨#[]⟩ : ByteArray), .slice none 0 0, .slice none 0 0, .slice none 0 0, .int .i64 0] 34 (0, 0)) (gK BK194) hg (Kd.N_away HO_196005.out (fun _ hk => hk.1.2.2.1))); replace BK195 := gA (blk_grown (gK BK195) hg (Kd.N_away HO_196005.out (fun _ hk => hk.1.2.2.2))); replace HL196_3 := gA (Kd.V_afterv (ok := (fun k_ => ((P0_3_ k_ ∨ P0_4_ k_ ∨ P0_5_ k_) ∨ w.heap.size ≤ k_) ∧ some k_ ≠ (.slice Ao22 t206.length co22 : Value).ownBlock ∧ k_ ≠ gb193 ∧ k_ ≠ gb194 ∧ k_ ≠ gb195)) (Kd.V_mono HL196_3.out (fun _ hk => ⟨⟨hk.1.1, ⟨hk.2, ⟨hk.1.2.2.1, ⟨hk.1.2.2.2.1, hk.1.2.2.2.2⟩⟩⟩⟩, hk.1.2.1⟩)) hg hat); replace HL196_4 := gA (Kd.V_afterv (ok := (fun k_ => ((P0_3_ k_ ∨ P0_4_ k_ ∨ P0_5_ k_) ∨ w.heap.size ≤ k_) ∧ some k_ ≠ (.slice Ao22 t206.length co22 : Value).ownBlock ∧ k_ ≠ gb193 ∧ k_ ≠ gb194 ∧ k_ ≠ gb195)) (Kd.V_mono HL196_4.out (fun _ hk => ⟨⟨hk.1.1, ⟨hk.2, ⟨hk.1.2.2.1, ⟨hk.1.2.2.2.1, hk.1.2.2.2.2⟩⟩⟩⟩, hk.1.2.1⟩)) hg hat); replace HL196_5 := gA (Kd.V_afterv (ok := (fun k_ => ((P0_3_ k_ ∨ P0_4_ k_ ∨ P0_5_ k_) ∨ w.heap.size ≤ k_) ∧ some k_ ≠ (.slice Ao22 t206.length co22 : Value).ownBlock ∧ k_ ≠ gb193 ∧ k_ ≠ gb194 ∧ k_ ≠ gb195)) (Kd.V_mono HL196_5.out (fun _ hk => ⟨⟨hk.1.1, ⟨hk.2, ⟨hk.1.2.2.1, ⟨hk.1.2.2.2.1, hk.1.2.2.2.2⟩⟩⟩⟩, hk.1.2.1⟩)) hg hat); replace HO202 := gA (Kd.V_afterv (ok := (fun k_ => ((P0_3_ k_ ∨ P0_4_ k_ ∨ P0_5_ k_) ∨ w.heap.size ≤ k_) ∧ some k_ ≠ (.slice Ao22 t206.length co22 : Value).ownBlock ∧ k_ ≠ gb193 ∧ k_ ≠ gb194 ∧ k_ ≠ gb195)) (Kd.V_mono HO202.out (fun _ hk => ⟨⟨hk.1, ⟨hk.2.1, ⟨hk.2.2.2.1, ⟨hk.2.2.2.2.1, hk.2.2.2.2.2⟩⟩⟩⟩, hk.2.2.1⟩)) hg hat); replace HO205 := gA (Kd.V_afterv (ok := (fun k_ => ((P0_3_ k_ ∨ P0_4_ k_ ∨ P0_5_ k_) ∨ w.heap.size ≤ k_) ∧ some k_ ≠ (.slice Ao22 t206.length co22 : Value).ownBlock ∧ k_ ≠ gb193 ∧ k_ ≠ gb194 ∧ k_ ≠ gb195)) (Kd.V_mono HO205.out (fun _ hk => ⟨⟨hk.1, ⟨hk.2.1, ⟨hk.2.2.2.1, ⟨hk.2.2.2.2.1, hk.2.2.2.2.2⟩⟩⟩⟩, hk.2.2.1⟩)) hg hat); replace HB := gA (hb); have HO212 := gA (ho); clear HO_196005 HO208 ho hb hg hat
    obtain ⟨Ao23, co23, eo23⟩ := Kd.N_slice HO212.out
    (first | subst eo23 | (injection eo23 with f1_ f2_ f3_; have f4_ := f1_.symm; have f5_ := f3_.symm; clear f1_ f2_ f3_; subst f4_; subst f5_))
    refine hK.out _ _ ?_; clear hK K
    refine norm_ (a' := ?_) ?_ ?_; rotate_left
    ·show Act.put _ (some 30) _ = _
     simp only [Act.put, List.setIfInBounds_toArray, List.set_cons_zero, List.set_cons_succ, i64_w, i32_w]; rfl
    refine pure_ (i := 10) (N := some 31) (v := ?_) (a' := ?_) #[true, true, true, true, true, true, true, true, true, true, true, false] rfl rfl (any_of HT_.out (by kernel_rfl)) (fun _ _ _ h => h) (Or.inl ⟨by rfl, ?_⟩) ?_ ?_; rotate_left
    ·intro w'; go_simp; with_reducible rfl
    rotate_left
    ·simp only [Act.put, List.setIfInBounds_toArray, List.set_cons_zero, List.set_cons_succ, i64_w, i32_w]; rfl
    refine last_ (i := 11) (N := none) #[true, true, true, true, true, true, true, true, true, true, true, true] rfl rfl (one_of HT_.out (by kernel_rfl)) (by decide) (fun K hK => ?_)
    have hs24 := gz BK195 5 rfl
    have hfs24 := blk_frozen BK195.out 5
    have hns24_0 := NB193_195.out
    have hns24_1 := NB194_195.out
    have hms24_0 := NB195_193.out
    have hms24_1 := NB195_194.out
    refine skip_ (w1 := ?_) (by rfl) rfl ?_ ?_; rotate_left
    ·go_simp; rfl
    refine hK.out _ _ ?_; clear hK K
    refine done_ (done_of HT_.out (by kernel_rfl)) ?_
    try go_wp2
    go_roundg k1
    case measure => have := HK1.out; omega
    case rel => exact ⟨(wrap64 (x4_1 + 1)), (y210), (.slice Ao23 y210.length co23), (rfl), H', ⟨by have := HK1.out; omega⟩, ⟨Kd.V_mono (Kd.V_far (p := ⟨gb195, 5, none⟩) (Kd.V_mono HO_194003.out (fun k_ hk => (⟨hk, hk.1.2.2.2.2⟩ : _ ∧ k_ ≠ gb195))) (fun _ hk => hk.2) (.slice Ao23 y210.length co23)) (fun _ hk => by first | exact ⟨hk.1.1.1, ⟨hk.1.2, ⟨hk.1.1.2.2.1, ⟨hk.1.1.2.2.2.1, hk.1.1.2.2.2.2⟩⟩⟩⟩ | (simp_all; done))⟩, ⟨Kd.V_mono (Kd.V_far (p := ⟨gb195, 5, none⟩) (Kd.V_mono HO_194004.out (fun k_ hk => (⟨hk, hk.1.2.2.2.2⟩ : _ ∧ k_ ≠ gb195))) (fun _ hk => hk.2) (.slice Ao23 y210.length co23)) (fun _ hk => by first | exact ⟨hk.1.1.1, ⟨hk.1.2, ⟨hk.1.1.2.2.1, ⟨hk.1.1.2.2.2.1, hk.1.1.2.2.2.2⟩⟩⟩⟩ | (simp_all; done))⟩, ⟨Kd.V_mono (Kd.V_far (p := ⟨gb195, 5, none⟩) (Kd.V_mono HO_194005.out (fun k_ hk => (⟨hk, hk.1.2.2.2.2⟩ : _ ∧ k_ ≠ gb195))) (fun _ hk => hk.2) (.slice Ao23 y210.length co23)) (fun _ hk => by first | exact ⟨hk.1.1.1, ⟨hk.1.2, ⟨hk.1.1.2.2.1, ⟨hk.1.1.2.2.2.1, hk.1.1.2.2.2.2⟩⟩⟩⟩ | (simp_all; done))⟩, ⟨Kd.V_mono (Kd.V_far (p := ⟨gb195, 5, none⟩) (Kd.V_mono HO_196003.out (fun k_ hk => (⟨hk, hk.1.2.2.2.2⟩ : _ ∧ k_ ≠ gb195))) (fun _ hk => hk.2) (.slice Ao23 y210.length co23)) (fun _ hk => by first | exact ⟨hk.1.1.1, ⟨hk.1.2, ⟨hk.1.1.2.2.1, ⟨hk.1.1.2.2.2.1, hk.1.1.2.2.2.2⟩⟩⟩⟩ | (simp_all; done))⟩, ⟨Kd.V_mono (Kd.V_far (p := ⟨gb195, 5, none⟩) (Kd.V_mono HO_196004.out (fun k_ hk => (⟨hk, hk.1.2.2.2.2⟩ : _ ∧ k_ ≠ gb195))) (fun _ hk => hk.2) (.slice Ao23 y210.length co23)) (fun _ hk => by first | exact ⟨hk.1.1.1, ⟨hk.1.2, ⟨hk.1.1.2.2.1, ⟨hk.1.1.2.2.2.1, hk.1.1.2.2.2.2⟩⟩⟩⟩ | (simp_all; done))⟩, ⟨Kd.N_mono (Kd.N_far (p := ⟨gb195, 5, none⟩) (Kd.N_mono HO212.out (fun k_ hk => (⟨hk, hk.2.2.2⟩ : _ ∧ k_ ≠ gb195))) (fun _ hk => hk.2) (.slice Ao23 y210.length co23)) (fun _ hk => ⟨hk.1.1, ⟨hk.1.2.1, ⟨hk.1.2.2.1, hk.1.2.2.2⟩⟩⟩)⟩, ⟨by refine blk_far ?_ NB193_195.out _; exact gK BK193⟩, ⟨by refine blk_far ?_ NB194_195.out _; exact gK BK194⟩, ⟨by refine blk_put (cs := #[.int .i64 a0_0, .int .i64 a0_1, .string a0_2, .slice A0_3 l0_3.length c0_3, .slice A0_4 l0_4.length c0_4, u196005, .int .i64 0]) ?_ 5 _ rfl; exact gK BK195⟩, ⟨by repeat first | exact gB HB | refine below_set ?_ GE193.out | refine below_set ?_ GE194.out | refine below_set ?_ GE195.out⟩⟩
   ·rw [if_neg c10] at H
    have c10b0 := decide_eq_false c10
    clear c10
    simp only [Option.some.injEq, Prod.mk.injEq] at H
    obtain ⟨rfl, rfl, rfl, rfl, rfl, rfl, rfl⟩ := H
    have hnb25 := NB193_194.out
    have hnc25 := NB194_193.out
    have hnb26 := NB193_195.out
    have hnc26 := NB195_193.out
    have hcz27_0 := gz BK193 0 rfl
    have hcz27_1 := gz BK193 1 rfl
    have hcz27_2 := gz BK193 2 rfl
    have hcz27_3 := gz BK193 3 rfl
    have hcz27_4 := gz BK193 4 rfl
    have hcz27_5 := gz BK193 5 rfl
    have hcz27_6 := gz BK193 6 rfl
    have hfz27_0 := blk_frozen BK193.out 0
    have hfz27_1 := blk_frozen BK193.out 1
    have hfz27_2 := blk_frozen BK193.out 2
    have hfz27_3 := blk_frozen BK193.out 3
    have hfz27_4 := blk_frozen BK193.out 4
    have hfz27_5 := blk_frozen BK193.out 5
    have hfz27_6 := blk_frozen BK193.out 6
    have hnb28 := NB195_194.out
    have hnc28 := NB194_195.out
    have hcz29_0 := gz BK195 0 rfl
    have hcz29_1 := gz BK195 1 rfl
    have hcz29_2 := gz BK195 2 rfl
    have hcz29_3 := gz BK195 3 rfl
    have hcz29_4 := gz BK195 4 rfl
    have hcz29_5 := gz BK195 5 rfl
    have hcz29_6 := gz BK195 6 rfl
    have hfz29_0 := blk_frozen BK195.out 0
    have hfz29_1 := blk_frozen BK195.out 1
    have hfz29_2 := blk_frozen BK195.out 2
    have hfz29_3 := blk_frozen BK195.out 3
    have hfz29_4 := blk_frozen BK195.out 4
    have hfz29_5 := blk_frozen BK195.out 5
    have hfz29_6 := blk_frozen BK195.out 6
    have hcz30_0 := gz BK194 0 rfl
    have hcz30_1 := gz BK194 1 rfl
    have hcz30_2 := gz BK194 2 rfl
    have hcz30_3 := gz BK194 3 rfl
    have hcz30_4 := gz BK194 4 rfl
    have hcz30_5 := gz BK194 5 rfl
    have hcz30_6 := gz BK194 6 rfl
    have hfz30_0 := blk_frozen BK194.out 0
    have hfz30_1 := blk_frozen BK194.out 1
    have hfz30_2 := blk_frozen BK194.out 2
    have hfz30_3 := blk_frozen BK194.out 3
    have hfz30_4 := blk_frozen BK194.out 4
    have hfz30_5 := blk_frozen BK194.out 5
    have hfz30_6 := blk_frozen BK194.out 6
    obtain ⟨Ao31, co31, eo31⟩ := Kd.N_slice HO_196005.out
    subst eo31
    go_wp2
    refine bodyPost_ret (results_cell_row rfl _ _ gb194 34 #[.int .i64 a0_0, .int .i64 a0_1, .string a0_2, .slice A0_3 l0_3.length c0_3, .slice A0_4 l0_4.length c0_4, .slice Ao31 x196005_1.length co31, .int .i64 0] (0, 0) _ rfl (by refine blk_put (cs := #[.int .i64 a0_0, .int .i64 a0_1, .string a0_2, .slice A0_3 l0_3.length c0_3, .slice A0_4 l0_4.length c0_4, .slice Ao31 x196005_1.length co31, .int .i64 0]) ?_ 6 _ rfl; refine blk_put (cs := #[.int .i64 a0_0, .int .i64 a0_1, .string a0_2, .slice A0_3 l0_3.length c0_3, .slice A0_4 l0_4.length c0_4, .slice none 0 0, .int .i64 0]) ?_ 5 _ rfl; refine blk_put (cs := #[.int .i64 a0_0, .int .i64 a0_1, .string a0_2, .slice A0_3 l0_3.length c0_3, .slice none 0 0, .slice none 0 0, .int .i64 0]) ?_ 4 _ rfl; refine blk_put (cs := #[.int .i64 a0_0, .int .i64 a0_1, .string a0_2, .slice none 0 0, .slice none 0 0, .slice none 0 0, .int .i64 0]) ?_ 3 _ rfl; refine blk_put (cs := #[.int .i64 a0_0, .int .i64 a0_1, .string (⟨#[]⟩ : ByteArray), .slice none 0 0, .slice none 0 0, .slice none 0 0, .int .i64 0]) ?_ 2 _ rfl; refine blk_put (cs := #[.int .i64 a0_0, .int .i64 0, .string (⟨#[]⟩ : ByteArray), .slice none 0 0, .slice none 0 0, .slice none 0 0, .int .i64 0]) ?_ 1 _ rfl; refine blk_put (cs := #[.int .i64 0, .int .i64 0, .string (⟨#[]⟩ : ByteArray), .slice none 0 0, .slice none 0 0, .slice none 0 0, .int .i64 0]) ?_ 0 _ rfl; exact gK BK194) Try.underlying34 rfl (by kernel_rfl)) rfl ?_
    exact ⟨_, _, _, rfl, Kd.V_mono (Kd.V_far (p := ⟨gb194, 6, none⟩) (Kd.V_far (p := ⟨gb194, 5, none⟩) (Kd.V_far (p := ⟨gb194, 4, none⟩) (Kd.V_far (p := ⟨gb194, 3, none⟩) (Kd.V_far (p := ⟨gb194, 2, none⟩) (Kd.V_far (p := ⟨gb194, 1, none⟩) (Kd.V_far (p := ⟨gb194, 0, none⟩) (Kd.V_mono HO_196003.out (fun k_ hk => (⟨hk, hk.2.2.2.1⟩ : _ ∧ k_ ≠ gb194))) (fun _ hk => hk.2) (.int .i64 a0_0)) (fun _ hk => hk.2) (.int .i64 a0_1)) (fun _ hk => hk.2) (.string a0_2)) (fun _ hk => hk.2) (.slice A0_3 l0_3.length c0_3)) (fun _ hk => hk.2) (.slice A0_4 l0_4.length c0_4)) (fun _ hk => hk.2) (.slice Ao31 x196005_1.length co31)) (fun _ hk => hk.2) (.int .i64 0)) (fun _ hk => ⟨hk.1.1, hk.1.2.1⟩), Kd.V_mono (Kd.V_far (p := ⟨gb194, 6, none⟩) (Kd.V_far (p := ⟨gb194, 5, none⟩) (Kd.V_far (p := ⟨gb194, 4, none⟩) (Kd.V_far (p := ⟨gb194, 3, none⟩) (Kd.V_far (p := ⟨gb194, 2, none⟩) (Kd.V_far (p := ⟨gb194, 1, none⟩) (Kd.V_far (p := ⟨gb194, 0, none⟩) (Kd.V_mono HO_196004.out (fun k_ hk => (⟨hk, hk.2.2.2.1⟩ : _ ∧ k_ ≠ gb194))) (fun _ hk => hk.2) (.int .i64 a0_0)) (fun _ hk => hk.2) (.int .i64 a0_1)) (fun _ hk => hk.2) (.string a0_2)) (fun _ hk => hk.2) (.slice A0_3 l0_3.length c0_3)) (fun _ hk => hk.2) (.slice A0_4 l0_4.length c0_4)) (fun _ hk => hk.2) (.slice Ao31 x196005_1.length co31)) (fun _ hk => hk.2) (.int .i64 0)) (fun _ hk => ⟨hk.1.1, hk.1.2.1⟩), Kd.N_mono (Kd.N_far (p := ⟨gb194, 6, none⟩) (Kd.N_far (p := ⟨gb194, 5, none⟩) (Kd.N_far (p := ⟨gb194, 4, none⟩) (Kd.N_far (p := ⟨gb194, 3, none⟩) (Kd.N_far (p := ⟨gb194, 2, none⟩) (Kd.N_far (p := ⟨gb194, 1, none⟩) (Kd.N_far (p := ⟨gb194, 0, none⟩) (Kd.N_mono HO_196005.out (fun k_ hk => (⟨hk, hk.2.2.1⟩ : _ ∧ k_ ≠ gb194))) (fun _ hk => hk.2) (.int .i64 a0_0)) (fun _ hk => hk.2) (.int .i64 a0_1)) (fun _ hk => hk.2) (.string a0_2)) (fun _ hk => hk.2) (.slice A0_3 l0_3.length c0_3)) (fun _ hk => hk.2) (.slice A0_4 l0_4.length c0_4)) (fun _ hk => hk.2) (.slice Ao31 x196005_1.length co31)) (fun _ hk => hk.2) (.int .i64 0)) (fun _ hk => hk.1.1), by repeat first | exact gB HB | refine below_set ?_ GE193.out | refine below_set ?_ GE194.out | refine below_set ?_ GE195.out⟩
def triglyphlaw10_CoreSame.j0 : Nat → Bool → Int → Int → ByteArray → List Int → List (S52) → List (S34) → Int → Int → Int → ByteArray → List Int → List (S52) → List (S34) → Int → Option (Bool)
 | 0, _, _, _, _, _, _, _, _, _, _, _, _, _, _, _ => none
 | k + 1, x12, x214000, x214001, x214002, x214003, x214004, x214005, x214006, x215000, x215001, x215002, x215003, x215004, x215005, x215006 => if x12 = true then ((triglyphlaw10_works.f k).bind fun t217 => (some t217)) else ((core_Same.f x214000 x214001 x214002 x214003 x214004 x214005 x214006 x215000 x215001 x215002 x215003 x215004 x215005 x215006).bind fun t218 => ((triglyphref10_Same.f k x214000 x214001 x214002 x214003 x214004 x214005 x214006 x215000 x215001 x215002 x215003 x215004 x215005 x215006).bind fun t219 => (if (t218 == t219) = true then ((triglyphref10_Bare.f k x214000 x214001 x214002 x214003 x214004 x214005 x214006).bind fun bt220 => ((core_Same.f x214000 x214001 x214002 x214003 x214004 x214005 x214006 bt220.1 bt220.2.1 bt220.2.2.1 bt220.2.2.2.1 bt220.2.2.2.2.1 bt220.2.2.2.2.2.1 bt220.2.2.2.2.2.2).bind fun t233 => ((triglyphref10_Bare.f k x214000 x214001 x214002 x214003 x214004 x214005 x214006).bind fun bt234 => ((triglyphref10_Same.f k x214000 x214001 x214002 x214003 x214004 x214005 x214006 bt234.1 bt234.2.1 bt234.2.2.1 bt234.2.2.2.1 bt234.2.2.2.2.1 bt234.2.2.2.2.2.1 bt234.2.2.2.2.2.2).bind fun t247 => (if (t233 == t247) = true then ((triglyphlaw10_works.f k).bind fun t248 => (some t248)) else (none)))))) else (none))))
def triglyphlaw10_CoreSame.f (k : Nat) (a0_0 : Int) (a0_1 : Int) (a0_2 : ByteArray) (l0_3 : List Int) (l0_4 : List (S52)) (l0_5 : List (S34)) (a0_6 : Int) (a1_0 : Int) (a1_1 : Int) (a1_2 : ByteArray) (l1_3 : List Int) (l1_4 : List (S52)) (l1_5 : List (S34)) (a1_6 : Int) : Option (Bool) := (triglyphlaw10_light.f k a0_0 a0_1 a0_2 l0_3 l0_4 l0_5 a0_6).bind fun t215 => (if t215 = true then ((triglyphlaw10_light.f k a1_0 a1_1 a1_2 l1_3 l1_4 l1_5 a1_6).bind fun t216 => (triglyphlaw10_CoreSame.j0 k (!t216) a0_0 a0_1 a0_2 l0_3 l0_4 l0_5 a0_6 a1_0 a1_1 a1_2 l1_3 l1_4 l1_5 a1_6)) else (triglyphlaw10_CoreSame.j0 k true a0_0 a0_1 a0_2 l0_3 l0_4 l0_5 a0_6 a1_0 a1_1 a1_2 l1_3 l1_4 l1_5 a1_6))
theorem triglyphlaw10_CoreSame.mono_l : ∀ k, (∀ y0 y1 y2 y3 y4 y5 y6 y7 y8 y9 y10 y11 y12 y13 y14, LeO (triglyphlaw10_CoreSame.j0 k y0 y1 y2 y3 y4 y5 y6 y7 y8 y9 y10 y11 y12 y13 y14) (triglyphlaw10_CoreSame.j0 (k + 1) y0 y1 y2 y3 y4 y5 y6 y7 y8 y9 y10 y11 y12 y13 y14))
 | 0 => fun _ _ _ _ _ _ _ _ _ _ _ _ _ _ _ r h => by simp [triglyphlaw10_CoreSame.j0] at h
 | k + 1 => by
  have ih0 := triglyphlaw10_CoreSame.mono_l k
  ·intro y0 y1 y2 y3 y4 y5 y6 y7 y8 y9 y10 y11 y12 y13 y14
   unfold triglyphlaw10_CoreSame.j0
   repeat' first
   | (with_reducible exact ih0 _ _ _ _ _ _ _ _ _ _ _ _ _ _ _)
   | (with_reducible exact triglyphlaw10_light.mono _ _ _ _ _ _ _ _)
   | (with_reducible exact triglyphlaw10_works.mono _)
   | (with_reducible exact triglyphref10_Bare.mono _ _ _ _ _ _ _ _)
   | (with_reducible exact triglyphref10_Same.mono _ _ _ _ _ _ _ _ _ _ _ _ _ _ _)
   | (with_reducible exact LeO.refl _)
   | (with_reducible exact LeO.none _)
   | (with_reducible refine LeO.ite ?_ ?_)
   | (with_reducible refine LeO.bind ?_ (fun _ => ?_))

   | exact triglyphlaw10_light.mono _ _ _ _ _ _ _ _
   | exact triglyphlaw10_works.mono _
   | exact triglyphref10_Bare.mono _ _ _ _ _ _ _ _
   | exact triglyphref10_Same.mono _ _ _ _ _ _ _ _ _ _ _ _ _ _ _
theorem triglyphlaw10_CoreSame.mono : ∀ a0 a1 a2 a3 a4 a5 a6 a7 a8 a9 a10 a11 a12 a13 k, LeO (triglyphlaw10_CoreSame.f k a0 a1 a2 a3 a4 a5 a6 a7 a8 a9 a10 a11 a12 a13) (triglyphlaw10_CoreSame.f (k + 1) a0 a1 a2 a3 a4 a5 a6 a7 a8 a9 a10 a11 a12 a13) := by
 intro a0 a1 a2 a3 a4 a5 a6 a7 a8 a9 a10 a11 a12 a13 k
 have ih0 := triglyphlaw10_CoreSame.mono_l k
 unfold triglyphlaw10_CoreSame.f
 repeat' first
   | (with_reducible exact ih0 _ _ _ _ _ _ _ _ _ _ _ _ _ _ _)
   | (with_reducible exact triglyphlaw10_light.mono _ _ _ _ _ _ _ _)
   | (with_reducible exact triglyphlaw10_works.mono _)
   | (with_reducible exact triglyphref10_Bare.mono _ _ _ _ _ _ _ _)
   | (with_reducible exact triglyphref10_Same.mono _ _ _ _ _ _ _ _ _ _ _ _ _ _ _)
   | (with_reducible exact LeO.refl _)
   | (with_reducible exact LeO.none _)
   | (with_reducible refine LeO.ite ?_ ?_)
   | (with_reducible refine LeO.bind ?_ (fun _ => ?_))

   | exact triglyphlaw10_light.mono _ _ _ _ _ _ _ _
   | exact triglyphlaw10_works.mono _
   | exact triglyphref10_Bare.mono _ _ _ _ _ _ _ _
   | exact triglyphref10_Same.mono _ _ _ _ _ _ _ _ _ _ _ _ _ _ _
def triglyphlaw10_CoreSame.T3 : Bool × List (List Nat × List Nat) := (true, [([], []), ([], []), ([0, 1], [0, 1]), ([], []), ([], []), ([3, 4, 2], [3, 4]), ([2, 5], [2, 5]), ([6, 5], [6]), ([7], [7]), ([7], [7]), ([9, 7, 7], [7, 9]), ([8, 10, 10, 7], [7, 8, 10]), ([7], [7]), ([7], [7]), ([13, 11, 7], [7, 13]), ([12, 14, 14, 7], [7, 12, 14]), ([11, 15, 7], [7, 11, 15]), ([7, 16], [7, 16]), ([17, 15], [17]), ([18, 18], [18]), ([18, 19], [18, 19]), ([20, 19, 0, 1, 2, 3, 4, 5, 6, 7, 8, 9, 10, 11, 12, 13, 14, 15, 16, 17, 18, 19, 20], [20])])
def triglyphlaw10_CoreSame.B3 : List Nat := [0, 0, 3, 0, 0, 31, 63, 127, 255, 255, 767, 2047, 255, 255, 12287, 32767, 65535, 131071, 262143, 524287, 1048575, 2097151]
theorem triglyphlaw10_CoreSame.tab3 : rtab .any (opsOf Try.f4 3) = triglyphlaw10_CoreSame.T3 := by kernel_rfl
theorem triglyphlaw10_CoreSame.bits3 : waitsOk triglyphlaw10_CoreSame.T3.2 triglyphlaw10_CoreSame.B3 = true := by kernel_rfl
set_option maxHeartbeats 8000000 in
set_option maxRecDepth 100000 in
theorem triglyphlaw10_CoreSame.calls (k : Nat) (a0_0 : Int) (a0_1 : Int) (a0_2 : ByteArray) (A0_3 : Option Addr) (c0_3 : Nat) (l0_3 : List Int) (A0_4 : Option Addr) (c0_4 : Nat) (l0_4 : List (S52)) (A0_5 : Option Addr) (c0_5 : Nat) (l0_5 : List (S34)) (a0_6 : Int) (a1_0 : Int) (a1_1 : Int) (a1_2 : ByteArray) (A1_3 : Option Addr) (c1_3 : Nat) (l1_3 : List Int) (A1_4 : Option Addr) (c1_4 : Nat) (l1_4 : List (S52)) (A1_5 : Option Addr) (c1_5 : Nat) (l1_5 : List (S34)) (a1_6 : Int) (r : Bool) (w : World) (hr0_3 : Kd.C (Kd.int .i64) w A0_3 l0_3.length l0_3) (hc0_3 : l0_3.length ≤ c0_3) (hr0_4 : Kd.C k52 w A0_4 l0_4.length l0_4) (hc0_4 : l0_4.length ≤ c0_4) (hr0_5 : Kd.C k34 w A0_5 l0_5.length l0_5) (hc0_5 : l0_5.length ≤ c0_5) (hr1_3 : Kd.C (Kd.int .i64) w A1_3 l1_3.length l1_3) (hc1_3 : l1_3.length ≤ c1_3) (hr1_4 : Kd.C k52 w A1_4 l1_4.length l1_4) (hc1_4 : l1_4.length ≤ c1_4) (hr1_5 : Kd.C k34 w A1_5 l1_5.length l1_5) (hc1_5 : l1_5.length ≤ c1_5) (h : triglyphlaw10_CoreSame.f k a0_0 a0_1 a0_2 l0_3 l0_4 l0_5 a0_6 a1_0 a1_1 a1_2 l1_3 l1_4 l1_5 a1_6 = some r) :
  Calls Try.prog 4 #[.agg #[.int .i64 a0_0, .int .i64 a0_1, .string a0_2, .slice A0_3 l0_3.length c0_3, .slice A0_4 l0_4.length c0_4, .slice A0_5 l0_5.length c0_5, .int .i64 a0_6], .agg #[.int .i64 a1_0, .int .i64 a1_1, .string a1_2, .slice A1_3 l1_3.length c1_3, .slice A1_4 l1_4.length c1_4, .slice A1_5 l1_5.length c1_5, .int .i64 a1_6]] w fun e w' => e = .returned (.bool r) ∧ Below w.heap.size w w' := by
 have hu34 := Try.underlying34
 have HR0_3 := gA hr0_3
 have HC0_3 := gA hc0_3
 clear hr0_3 hc0_3
 have HR0_4 := gA hr0_4
 have HC0_4 := gA hc0_4
 clear hr0_4 hc0_4
 have HR0_5 := gA hr0_5
 have HC0_5 := gA hc0_5
 clear hr0_5 hc0_5
 have HR1_3 := gA hr1_3
 have HC1_3 := gA hc1_3
 clear hr1_3 hc1_3
 have HR1_4 := gA hr1_4
 have HC1_4 := gA hc1_4
 clear hr1_4 hc1_4
 have HR1_5 := gA hr1_5
 have HC1_5 := gA hc1_5
 clear hr1_5 hc1_5
 have HB := gA (Below.refl w.heap.size w)
 have H : ((triglyphlaw10_light.f k a0_0 a0_1 a0_2 l0_3 l0_4 l0_5 a0_6).bind fun t215 => (if t215 = true then ((triglyphlaw10_light.f k a1_0 a1_1 a1_2 l1_3 l1_4 l1_5 a1_6).bind fun t216 => (triglyphlaw10_CoreSame.j0 k (!t216) a0_0 a0_1 a0_2 l0_3 l0_4 l0_5 a0_6 a1_0 a1_1 a1_2 l1_3 l1_4 l1_5 a1_6)) else (triglyphlaw10_CoreSame.j0 k true a0_0 a0_1 a0_2 l0_3 l0_4 l0_5 a0_6 a1_0 a1_1 a1_2 l1_3 l1_4 l1_5 a1_6))) = some r := h
 clear h
 have HC3 := gA H
 clear H
 go_enter Try.func4, Try.ntmps4
 go_upto_region 1 with (first | ((with_reducible refine gate_dst (N := 2) rfl ?_); refine box_event ?hg (N := 2) ?hd (cs := #[.int .i64 a0_0, .int .i64 a0_1, .string a0_2, .slice A0_3 l0_3.length c0_3, .slice A0_4 l0_4.length c0_4, .slice A0_5 l0_5.length c0_5, .int .i64 a0_6]) (t := 34) ?hr ?_; (case hd => rfl); (case hg => rfl); (case hr => first | (go_simp; done) | (go_simp; rfl)); intro gb213 hg w4 hbox hb; have BK213 := gA (hbox); have GW213 := gA ((by rw [hg]; exact (below_size (gB HB)) : w.heap.size ≤ gb213)); have GE213 := gA ((by rw [hg]; exact (below_size (gB HB)) : w.heap.size ≤ gb213)); replace HB := gA (below_step (gB HB) hb); clear hb hbox hg) | ((with_reducible refine gate_dst (N := 3) rfl ?_); refine box_event ?hg (N := 3) ?hd (cs := #[.int .i64 a1_0, .int .i64 a1_1, .string a1_2, .slice A1_3 l1_3.length c1_3, .slice A1_4 l1_4.length c1_4, .slice A1_5 l1_5.length c1_5, .int .i64 a1_6]) (t := 34) ?hr ?_; (case hd => rfl); (case hg => rfl); (case hr => first | (go_simp; done) | (go_simp; rfl)); intro gb214 hg w5 hbox hb; have BK214 := gA (hbox); have GW214 := gA ((by rw [hg]; exact (below_size (gB HB)) : w.heap.size ≤ gb214)); have GE214 := gA ((by rw [hg]; exact (below_size (gB HB)) : w.heap.size ≤ gb214)); replace HB := gA (below_step (gB HB) hb); have NB213_214 := gA ((by rw [hg]; exact Nat.ne_of_lt (blk_lt (gK BK213)) : gb213 ≠ gb214)); have NB214_213 := gA ((by rw [hg]; exact Nat.ne_of_gt (blk_lt (gK BK213)) : gb214 ≠ gb213)); replace BK213 := gA (blk_below (gK BK213) hb); clear hb hbox hg))
 (try simp only [Act.put, List.setIfInBounds_toArray, List.set_cons_zero, List.set_cons_succ])
 go_cut [12] (fun v12 wc => ∃ (kq : Nat) (x12_2 : Bool), v12 = .bool x12_2 ∧ Aside0 (triglyphlaw10_CoreSame.j0 kq x12_2 a0_0 a0_1 a0_2 l0_3 l0_4 l0_5 a0_6 a1_0 a1_1 a1_2 l1_3 l1_4 l1_5 a1_6 = some r) ∧ Aside0 (kq ≤ k) ∧ Aside0 (wc.heap[gb213]? = some (.cells #[.int .i64 a0_0, .int .i64 a0_1, .string a0_2, (.slice A0_3 l0_3.length c0_3), (.slice A0_4 l0_4.length c0_4), (.slice A0_5 l0_5.length c0_5), .int .i64 a0_6] 34 (0, 0))) ∧ Aside0 (wc.heap[gb214]? = some (.cells #[.int .i64 a1_0, .int .i64 a1_1, .string a1_2, (.slice A1_3 l1_3.length c1_3), (.slice A1_4 l1_4.length c1_4), (.slice A1_5 l1_5.length c1_5), .int .i64 a1_6] 34 (0, 0))) ∧ Aside0 (Below w.heap.size w wc))
 case first =>
  have H := HC3.out; clear HC3
  replace H := Option.bind_eq_some_iff.mp H
  obtain ⟨t215, A60, H⟩ := H
  replace H : (if t215 = true then ((triglyphlaw10_light.f k a1_0 a1_1 a1_2 l1_3 l1_4 l1_5 a1_6).bind fun t216 => (triglyphlaw10_CoreSame.j0 k (!t216) a0_0 a0_1 a0_2 l0_3 l0_4 l0_5 a0_6 a1_0 a1_1 a1_2 l1_3 l1_4 l1_5 a1_6)) else (triglyphlaw10_CoreSame.j0 k true a0_0 a0_1 a0_2 l0_3 l0_4 l0_5 a0_6 a1_0 a1_1 a1_2 l1_3 l1_4 l1_5 a1_6)) = some r := H
  have A6 := gA A60
  clear A60
  by_cases c7 : t215 = true
  ·subst c7
   have H1 : ((triglyphlaw10_light.f k a1_0 a1_1 a1_2 l1_3 l1_4 l1_5 a1_6).bind fun t216 => (triglyphlaw10_CoreSame.j0 k (!t216) a0_0 a0_1 a0_2 l0_3 l0_4 l0_5 a0_6 a1_0 a1_1 a1_2 l1_3 l1_4 l1_5 a1_6)) = some r := by rw [if_pos rfl] at H; exact H
   clear H; have H := H1; clear H1
   replace H := Option.bind_eq_some_iff.mp H
   obtain ⟨t216, A80, H⟩ := H
   replace H : (triglyphlaw10_CoreSame.j0 k (!t216) a0_0 a0_1 a0_2 l0_3 l0_4 l0_5 a0_6 a1_0 a1_1 a1_2 l1_3 l1_4 l1_5 a1_6) = some r := H
   have A8 := gA A80
   clear A80
   have H' := gA H
   clear H
   have hnb9 := NB213_214.out
   have hnc9 := NB214_213.out
   have hcz10_0 := gz BK213 0 rfl
   have hcz10_1 := gz BK213 1 rfl
   have hcz10_2 := gz BK213 2 rfl
   have hcz10_3 := gz BK213 3 rfl
   have hcz10_4 := gz BK213 4 rfl
   have hcz10_5 := gz BK213 5 rfl
   have hcz10_6 := gz BK213 6 rfl
   have hfz10_0 := blk_frozen BK213.out 0
   have hfz10_1 := blk_frozen BK213.out 1
   have hfz10_2 := blk_frozen BK213.out 2
   have hfz10_3 := blk_frozen BK213.out 3
   have hfz10_4 := blk_frozen BK213.out 4
   have hfz10_5 := blk_frozen BK213.out 5
   have hfz10_6 := blk_frozen BK213.out 6
   go_wp2_with (first | ((with_reducible refine gate_callee (f := 15) rfl ?_); refine goesL_ (some 6) rfl rfl Try.func15 (by kernel_rfl) rfl #[.agg #[.int .i64 a0_0, .int .i64 a0_1, .string a0_2, .slice A0_3 l0_3.length c0_3, .slice A0_4 l0_4.length c0_4, .slice A0_5 l0_5.length c0_5, .int .i64 a0_6]] rfl (by (try simp only [List.map_toArray, List.map_cons, List.map_nil]); first | done | rfl | (simp only [List.length_drop, List.length_take]; rfl)) ?_; (with_reducible refine (triglyphlaw10_light.calls k a0_0 a0_1 a0_2 _ _ l0_3 _ _ l0_4 _ _ l0_5 a0_6 true _ ?side1 ?side2 ?side3 ?side4 ?side5 ?side6 A6.out).mono ?_); (case side1 => exact gC HR0_3 HB); (case side2 => exact HC0_3.out); (case side3 => exact gC HR0_4 HB); (case side4 => exact HC0_4.out); (case side5 => exact gC HR0_5 HB); (case side6 => exact HC0_5.out); rintro e w11 ⟨rfl, hb⟩; refine ⟨_, rfl, ?_⟩; replace BK213 := gA (blk_below (gK BK213) hb); replace BK214 := gA (blk_below (gK BK214) hb); replace HB := gA (below_step (gB HB) hb); (try clear hb); have hcz12_0 := gz BK214 0 rfl; have hcz12_1 := gz BK214 1 rfl; have hcz12_2 := gz BK214 2 rfl; have hcz12_3 := gz BK214 3 rfl; have hcz12_4 := gz BK214 4 rfl; have hcz12_5 := gz BK214 5 rfl; have hcz12_6 := gz BK214 6 rfl; have hfz12_0 := blk_frozen BK214.out 0; have hfz12_1 := blk_frozen BK214.out 1; have hfz12_2 := blk_frozen BK214.out 2; have hfz12_3 := blk_frozen BK214.out 3; have hfz12_4 := blk_frozen BK214.out 4; have hfz12_5 := blk_frozen BK214.out 5; have hfz12_6 := blk_frozen BK214.out 6) | (go_at_call 15; (with_reducible refine (triglyphlaw10_light.calls k a1_0 a1_1 a1_2 _ _ l1_3 _ _ l1_4 _ _ l1_5 a1_6 t216 _ ?side1 ?side2 ?side3 ?side4 ?side5 ?side6 A8.out).mono ?_); (case side1 => exact gC HR1_3 HB); (case side2 => exact HC1_3.out); (case side3 => exact gC HR1_4 HB); (case side4 => exact HC1_4.out); (case side5 => exact gC HR1_5 HB); (case side6 => exact HC1_5.out); rintro e w13 ⟨rfl, hb⟩; replace BK213 := gA (blk_below (gK BK213) hb); replace BK214 := gA (blk_below (gK BK214) hb); replace HB := gA (below_step (gB HB) hb); (try clear hb)))
   all_goals (go_meet; (case rel => exact ⟨_, (!t216), (by first | rfl | (simp; done) | (simp [*]; done) | (exfalso; simp_all; done) | (exfalso; simp_all; omega)), H', ⟨by first | omega | exact Nat.le_refl _⟩, ⟨gK BK213⟩, ⟨gK BK214⟩, ⟨gB HB⟩⟩))
  ·replace c7 := Bool.eq_false_iff.mpr c7
   subst c7
   have H1 : (triglyphlaw10_CoreSame.j0 k true a0_0 a0_1 a0_2 l0_3 l0_4 l0_5 a0_6 a1_0 a1_1 a1_2 l1_3 l1_4 l1_5 a1_6) = some r := by rw [if_neg (show ¬ (false = true) by decide)] at H; exact H
   clear H; have H := H1; clear H1
   have H' := gA H
   clear H
   have hnb14 := NB213_214.out
   have hnc14 := NB214_213.out
   have hcz15_0 := gz BK213 0 rfl
   have hcz15_1 := gz BK213 1 rfl
   have hcz15_2 := gz BK213 2 rfl
   have hcz15_3 := gz BK213 3 rfl
   have hcz15_4 := gz BK213 4 rfl
   have hcz15_5 := gz BK213 5 rfl
   have hcz15_6 := gz BK213 6 rfl
   have hfz15_0 := blk_frozen BK213.out 0
   have hfz15_1 := blk_frozen BK213.out 1
   have hfz15_2 := blk_frozen BK213.out 2
   have hfz15_3 := blk_frozen BK213.out 3
   have hfz15_4 := blk_frozen BK213.out 4
   have hfz15_5 := blk_frozen BK213.out 5
   have hfz15_6 := blk_frozen BK213.out 6
   go_wp2_with (first | ((with_reducible refine gate_callee (f := 15) rfl ?_); refine goesL_ (some 6) rfl rfl Try.func15 (by kernel_rfl) rfl #[.agg #[.int .i64 a0_0, .int .i64 a0_1, .string a0_2, .slice A0_3 l0_3.length c0_3, .slice A0_4 l0_4.length c0_4, .slice A0_5 l0_5.length c0_5, .int .i64 a0_6]] rfl (by (try simp only [List.map_toArray, List.map_cons, List.map_nil]); first | done | rfl | (simp only [List.length_drop, List.length_take]; rfl)) ?_; (with_reducible refine (triglyphlaw10_light.calls k a0_0 a0_1 a0_2 _ _ l0_3 _ _ l0_4 _ _ l0_5 a0_6 false _ ?side1 ?side2 ?side3 ?side4 ?side5 ?side6 A6.out).mono ?_); (case side1 => exact gC HR0_3 HB); (case side2 => exact HC0_3.out); (case side3 => exact gC HR0_4 HB); (case side4 => exact HC0_4.out); (case side5 => exact gC HR0_5 HB); (case side6 => exact HC0_5.out); rintro e w16 ⟨rfl, hb⟩; refine ⟨_, rfl, ?_⟩; replace BK213 := gA (blk_below (gK BK213) hb); replace BK214 := gA (blk_below (gK BK214) hb); replace HB := gA (below_step (gB HB) hb); (try clear hb)))
   all_goals (go_meet; (case rel => exact ⟨_, (true), (by first | rfl | (simp; done) | (simp [*]; done) | (exfalso; simp_all; done) | (exfalso; simp_all; omega)), H', ⟨by first | omega | exact Nat.le_refl _⟩, ⟨gK BK213⟩, ⟨gK BK214⟩, ⟨gB HB⟩⟩))
 case rest =>
  clear HC3
  try clear c1
  try clear p2
  try clear c4
  try clear c7
  try clear c9
  try clear c14
  try clear c15
  try clear hcz10_0
  try clear hcz10_1
  try clear hcz10_2
  try clear hcz10_3
  try clear hcz10_4
  try clear hcz10_5
  try clear hcz10_6
  try clear hcz12_0
  try clear hcz12_1
  try clear hcz12_2
  try clear hcz12_3
  try clear hcz12_4
  try clear hcz12_5
  try clear hcz12_6
  try clear hcz15_0
  try clear hcz15_1
  try clear hcz15_2
  try clear hcz15_3
  try clear hcz15_4
  try clear hcz15_5
  try clear hcz15_6
  try clear hfz10_0
  try clear hfz10_1
  try clear hfz10_2
  try clear hfz10_3
  try clear hfz10_4
  try clear hfz10_5
  try clear hfz10_6
  try clear hfz12_0
  try clear hfz12_1
  try clear hfz12_2
  try clear hfz12_3
  try clear hfz12_4
  try clear hfz12_5
  try clear hfz12_6
  try clear hfz15_0
  try clear hfz15_1
  try clear hfz15_2
  try clear hfz15_3
  try clear hfz15_4
  try clear hfz15_5
  try clear hfz15_6
  obtain ⟨kq, x12_2, rfl, HA, HJ2, BK213, BK214, HB⟩ := hcut
  cases kq with
  | zero => exact absurd HA.out (by simp [triglyphlaw10_CoreSame.j0])
  | succ kj2 =>
   have H := HA.out; clear HA
   simp only [triglyphlaw10_CoreSame.j0] at H
   by_cases c17 : x12_2 = true
   ·subst c17
    have H1 : ((triglyphlaw10_works.f kj2).bind fun t217 => (some t217)) = some r := by rw [if_pos rfl] at H; exact H
    clear H; have H := H1; clear H1
    replace H := Option.bind_eq_some_iff.mp H
    obtain ⟨t217, A180, H⟩ := H
    replace H : (some t217) = some r := H
    have A18 := gA A180
    clear A180
    obtain rfl := Option.some.inj H
    go_wp2_with (first | ((with_reducible refine gate_callee (f := 8) rfl ?_); refine goesL_ (some 13) rfl rfl Try.func8 (by kernel_rfl) rfl #[] rfl (by (try simp only [List.map_toArray, List.map_cons, List.map_nil]); first | done | rfl | (simp only [List.length_drop, List.length_take]; rfl)) ?_; (with_reducible refine (triglyphlaw10_works.calls kj2  t217 _ A18.out).mono ?_); rintro e w19 ⟨rfl, hb⟩; refine ⟨_, rfl, ?_⟩; replace BK213 := gA (blk_below (gK BK213) hb); replace BK214 := gA (blk_below (gK BK214) hb); replace HB := gA (below_step (gB HB) hb); (try clear hb)))
    go_ret
    exact ⟨rfl, by repeat first | exact gB HB | refine below_set ?_ GE213.out | refine below_set ?_ GE214.out⟩
   ·replace c17 := Bool.eq_false_iff.mpr c17
    subst c17
    have H1 : ((core_Same.f a0_0 a0_1 a0_2 l0_3 l0_4 l0_5 a0_6 a1_0 a1_1 a1_2 l1_3 l1_4 l1_5 a1_6).bind fun t218 => ((triglyphref10_Same.f kj2 a0_0 a0_1 a0_2 l0_3 l0_4 l0_5 a0_6 a1_0 a1_1 a1_2 l1_3 l1_4 l1_5 a1_6).bind fun t219 => (if (t218 == t219) = true then ((triglyphref10_Bare.f kj2 a0_0 a0_1 a0_2 l0_3 l0_4 l0_5 a0_6).bind fun bt220 => ((core_Same.f a0_0 a0_1 a0_2 l0_3 l0_4 l0_5 a0_6 bt220.1 bt220.2.1 bt220.2.2.1 bt220.2.2.2.1 bt220.2.2.2.2.1 bt220.2.2.2.2.2.1 bt220.2.2.2.2.2.2).bind fun t233 => ((triglyphref10_Bare.f kj2 a0_0 a0_1 a0_2 l0_3 l0_4 l0_5 a0_6).bind fun bt234 => ((triglyphref10_Same.f kj2 a0_0 a0_1 a0_2 l0_3 l0_4 l0_5 a0_6 bt234.1 bt234.2.1 bt234.2.2.1 bt234.2.2.2.1 bt234.2.2.2.2.1 bt234.2.2.2.2.2.1 bt234.2.2.2.2.2.2).bind fun t247 => (if (t233 == t247) = true then ((triglyphlaw10_works.f kj2).bind fun t248 => (some t248)) else (none)))))) else (none)))) = some r := by rw [if_neg (show ¬ (false = true) by decide)] at H; exact H
    clear H; have H := H1; clear H1
    replace H := Option.bind_eq_some_iff.mp H
    obtain ⟨t218, A200, H⟩ := H
    replace H : ((triglyphref10_Same.f kj2 a0_0 a0_1 a0_2 l0_3 l0_4 l0_5 a0_6 a1_0 a1_1 a1_2 l1_3 l1_4 l1_5 a1_6).bind fun t219 => (if (t218 == t219) = true then ((triglyphref10_Bare.f kj2 a0_0 a0_1 a0_2 l0_3 l0_4 l0_5 a0_6).bind fun bt220 => ((core_Same.f a0_0 a0_1 a0_2 l0_3 l0_4 l0_5 a0_6 bt220.1 bt220.2.1 bt220.2.2.1 bt220.2.2.2.1 bt220.2.2.2.2.1 bt220.2.2.2.2.2.1 bt220.2.2.2.2.2.2).bind fun t233 => ((triglyphref10_Bare.f kj2 a0_0 a0_1 a0_2 l0_3 l0_4 l0_5 a0_6).bind fun bt234 => ((triglyphref10_Same.f kj2 a0_0 a0_1 a0_2 l0_3 l0_4 l0_5 a0_6 bt234.1 bt234.2.1 bt234.2.2.1 bt234.2.2.2.1 bt234.2.2.2.2.1 bt234.2.2.2.2.2.1 bt234.2.2.2.2.2.2).bind fun t247 => (if (t233 == t247) = true then ((triglyphlaw10_works.f kj2).bind fun t248 => (some t248)) else (none)))))) else (none))) = some r := H
    have A20 := gA A200
    clear A200
    replace H := Option.bind_eq_some_iff.mp H
    obtain ⟨t219, A210, H⟩ := H
    replace H : (if (t218 == t219) = true then ((triglyphref10_Bare.f kj2 a0_0 a0_1 a0_2 l0_3 l0_4 l0_5 a0_6).bind fun bt220 => ((core_Same.f a0_0 a0_1 a0_2 l0_3 l0_4 l0_5 a0_6 bt220.1 bt220.2.1 bt220.2.2.1 bt220.2.2.2.1 bt220.2.2.2.2.1 bt220.2.2.2.2.2.1 bt220.2.2.2.2.2.2).bind fun t233 => ((triglyphref10_Bare.f kj2 a0_0 a0_1 a0_2 l0_3 l0_4 l0_5 a0_6).bind fun bt234 => ((triglyphref10_Same.f kj2 a0_0 a0_1 a0_2 l0_3 l0_4 l0_5 a0_6 bt234.1 bt234.2.1 bt234.2.2.1 bt234.2.2.2.1 bt234.2.2.2.2.1 bt234.2.2.2.2.2.1 bt234.2.2.2.2.2.2).bind fun t247 => (if (t233 == t247) = true then ((triglyphlaw10_works.f kj2).bind fun t248 => (some t248)) else (none)))))) else (none)) = some r := H
    have A21 := gA A210
    clear A210
    by_cases c22 : (t218 == t219) = true
    ·rw [if_pos c22] at H
     have c22b0 : (t218 == t219) = true := c22
     (try (have c22b1 : decide (t218 = t219) = true := by simpa using c22))
     (try (have c22b2 : (t218 == t219) = true := by simpa using c22))
     clear c22
     replace H := Option.bind_eq_some_iff.mp H
     obtain ⟨⟨t220, t221, t222, t223, t226, t229, t232⟩, A230, H⟩ := H
     replace H : ((core_Same.f a0_0 a0_1 a0_2 l0_3 l0_4 l0_5 a0_6 t220 t221 t222 t223 t226 t229 t232).bind fun t233 => ((triglyphref10_Bare.f kj2 a0_0 a0_1 a0_2 l0_3 l0_4 l0_5 a0_6).bind fun bt234 => ((triglyphref10_Same.f kj2 a0_0 a0_1 a0_2 l0_3 l0_4 l0_5 a0_6 bt234.1 bt234.2.1 bt234.2.2.1 bt234.2.2.2.1 bt234.2.2.2.2.1 bt234.2.2.2.2.2.1 bt234.2.2.2.2.2.2).bind fun t247 => (if (t233 == t247) = true then ((triglyphlaw10_works.f kj2).bind fun t248 => (some t248)) else (none))))) = some r := H
     have A23 := gA A230
     clear A230
     replace H := Option.bind_eq_some_iff.mp H
     obtain ⟨t233, A240, H⟩ := H
     replace H : ((triglyphref10_Bare.f kj2 a0_0 a0_1 a0_2 l0_3 l0_4 l0_5 a0_6).bind fun bt234 => ((triglyphref10_Same.f kj2 a0_0 a0_1 a0_2 l0_3 l0_4 l0_5 a0_6 bt234.1 bt234.2.1 bt234.2.2.1 bt234.2.2.2.1 bt234.2.2.2.2.1 bt234.2.2.2.2.2.1 bt234.2.2.2.2.2.2).bind fun t247 => (if (t233 == t247) = true then ((triglyphlaw10_works.f kj2).bind fun t248 => (some t248)) else (none)))) = some r := H
     have A24 := gA A240
     clear A240
     replace H := Option.bind_eq_some_iff.mp H
     obtain ⟨⟨t234, t235, t236, t237, t240, t243, t246⟩, A250, H⟩ := H
     replace H : ((triglyphref10_Same.f kj2 a0_0 a0_1 a0_2 l0_3 l0_4 l0_5 a0_6 t234 t235 t236 t237 t240 t243 t246).bind fun t247 => (if (t233 == t247) = true then ((triglyphlaw10_works.f kj2).bind fun t248 => (some t248)) else (none))) = some r := H
     have A25 := gA A250
     clear A250
     replace H := Option.bind_eq_some_iff.mp H
     obtain ⟨t247, A260, H⟩ := H
     replace H : (if (t233 == t247) = true then ((triglyphlaw10_works.f kj2).bind fun t248 => (some t248)) else (none)) = some r := H
     have A26 := gA A260
     clear A260
     by_cases c27 : (t233 == t247) = true
     ·rw [if_pos c27] at H
      have c27b0 : (t233 == t247) = true := c27
      (try (have c27b1 : decide (t233 = t247) = true := by simpa using c27))
      (try (have c27b2 : (t233 == t247) = true := by simpa using c27))
      clear c27
      replace H := Option.bind_eq_some_iff.mp H
      obtain ⟨t248, A280, H⟩ := H
      replace H : (some t248) = some r := H
      have A28 := gA A280
      clear A280
      obtain rfl := Option.some.inj H
      try go_wp2
      replace BK213 := gA (blk_drew BK213.out); replace BK214 := gA (blk_drew BK214.out); replace HB := gA (below_drew1 HB.out)
      refine start_ (n := 22) (S := fun w' => w'.cell? ⟨gb213, 0, none⟩ = some (.int .i64 a0_0) ∧ w'.cell? ⟨gb213, 1, none⟩ = some (.int .i64 a0_1) ∧ w'.cell? ⟨gb213, 2, none⟩ = some (.string a0_2) ∧ w'.cell? ⟨gb213, 3, none⟩ = some (.slice A0_3 l0_3.length c0_3) ∧ w'.cell? ⟨gb213, 4, none⟩ = some (.slice A0_4 l0_4.length c0_4) ∧ w'.cell? ⟨gb213, 5, none⟩ = some (.slice A0_5 l0_5.length c0_5) ∧ w'.cell? ⟨gb213, 6, none⟩ = some (.int .i64 a0_6) ∧ w'.cell? ⟨gb214, 0, none⟩ = some (.int .i64 a1_0) ∧ w'.cell? ⟨gb214, 1, none⟩ = some (.int .i64 a1_1) ∧ w'.cell? ⟨gb214, 2, none⟩ = some (.string a1_2) ∧ w'.cell? ⟨gb214, 3, none⟩ = some (.slice A1_3 l1_3.length c1_3) ∧ w'.cell? ⟨gb214, 4, none⟩ = some (.slice A1_4 l1_4.length c1_4) ∧ w'.cell? ⟨gb214, 5, none⟩ = some (.slice A1_5 l1_5.length c1_5) ∧ w'.cell? ⟨gb214, 6, none⟩ = some (.int .i64 a1_6)) (ds := []) #[false, false, false, false, false, false, false, false, false, false, false, false, false, false, false, false, false, false, false, false, false, false] (by kernel_rfl) rfl rfl ⟨(blk_cell BK213.out 0).trans rfl, (blk_cell BK213.out 1).trans rfl, (blk_cell BK213.out 2).trans rfl, (blk_cell BK213.out 3).trans rfl, (blk_cell BK213.out 4).trans rfl, (blk_cell BK213.out 5).trans rfl, (blk_cell BK213.out 6).trans rfl, (blk_cell BK214.out 0).trans rfl, (blk_cell BK214.out 1).trans rfl, (blk_cell BK214.out 2).trans rfl, (blk_cell BK214.out 3).trans rfl, (blk_cell BK214.out 4).trans rfl, (blk_cell BK214.out 5).trans rfl, (blk_cell BK214.out 6).trans rfl⟩ (fun hHeld => ?_); refine with_tabW triglyphlaw10_CoreSame.tab3 triglyphlaw10_CoreSame.bits3 (fun HT_ HW_ => ?_)
      generalize wc.drew = w29 at BK213 BK214 HB hHeld ⊢
      refine take_ (i := 0) (N := some 14) (v := ?_) (a' := ?_) #[true, false, false, false, false, false, false, false, false, false, false, false, false, false, false, false, false, false, false, false, false, false] rfl rfl (take_ofW HT_.out HW_.out (by kernel_rfl)) (fun _ _ _ h => h) (Or.inl ⟨by rfl, ?_⟩) hHeld ?_ ?_; rotate_left
      ·rintro w' ⟨s0, s1, s2, s3, s4, s5, s6, s7, s8, s9, s10, s11, s12, s13⟩; go_simp; with_reducible rfl
      rotate_left
      ·simp only [Act.put, List.setIfInBounds_toArray, List.set_cons_zero, List.set_cons_succ, i64_w, i32_w]; rfl
      refine take_ (i := 1) (N := some 15) (v := ?_) (a' := ?_) #[true, true, false, false, false, false, false, false, false, false, false, false, false, false, false, false, false, false, false, false, false, false] rfl rfl (take_ofW HT_.out HW_.out (by kernel_rfl)) (fun _ _ _ h => h) (Or.inl ⟨by rfl, ?_⟩) hHeld ?_ ?_; rotate_left
      ·rintro w' ⟨s0, s1, s2, s3, s4, s5, s6, s7, s8, s9, s10, s11, s12, s13⟩; go_simp; with_reducible rfl
      rotate_left
      ·simp only [Act.put, List.setIfInBounds_toArray, List.set_cons_zero, List.set_cons_succ, i64_w, i32_w]; rfl
      refine take_ (i := 3) (N := some 17) (v := ?_) (a' := ?_) #[true, true, false, true, false, false, false, false, false, false, false, false, false, false, false, false, false, false, false, false, false, false] rfl rfl (take_ofW HT_.out HW_.out (by kernel_rfl)) (fun _ _ _ h => h) (Or.inl ⟨by rfl, ?_⟩) hHeld ?_ ?_; rotate_left
      ·rintro w' ⟨s0, s1, s2, s3, s4, s5, s6, s7, s8, s9, s10, s11, s12, s13⟩; go_simp; with_reducible rfl
      rotate_left
      ·simp only [Act.put, List.setIfInBounds_toArray, List.set_cons_zero, List.set_cons_succ, i64_w, i32_w]; rfl
      refine take_ (i := 4) (N := some 18) (v := ?_) (a' := ?_) #[true, true, false, true, true, false, false, false, false, false, false, false, false, false, false, false, false, false, false, false, false, false] rfl rfl (take_ofW HT_.out HW_.out (by kernel_rfl)) (fun _ _ _ h => h) (Or.inl ⟨by rfl, ?_⟩) hHeld ?_ ?_; rotate_left
      ·rintro w' ⟨s0, s1, s2, s3, s4, s5, s6, s7, s8, s9, s10, s11, s12, s13⟩; go_simp; with_reducible rfl
      rotate_left
      ·simp only [Act.put, List.setIfInBounds_toArray, List.set_cons_zero, List.set_cons_succ, i64_w, i32_w]; rfl
      refine one_ (i := 2) (N := some 16) #[true, true, true, true, true, false, false, false, false, false, false, false, false, false, false, false, false, false, false, false, false, false] rfl rfl (one_of HT_.out (by kernel_rfl)) (by decide) (fun K hK => ?_)
      refine goes_ Try.func16 (by kernel_rfl) rfl #[.agg #[.int .i64 a0_0, .int .i64 a0_1, .string a0_2, .slice A0_3 l0_3.length c0_3, .slice A0_4 l0_4.length c0_4, .slice A0_5 l0_5.length c0_5, .int .i64 a0_6], .agg #[.int .i64 a1_0, .int .i64 a1_1, .string a1_2, .slice A1_3 l1_3.length c1_3, .slice A1_4 l1_4.length c1_4, .slice A1_5 l1_5.length c1_5, .int .i64 a1_6]] (by rfl) rfl rfl (by (try simp only [List.map_toArray, List.map_cons, List.map_nil]); first | done | rfl | (simp only [List.length_drop, List.length_take]; rfl)) ?_
      with_reducible refine (core_Same.calls a0_0 a0_1 a0_2 _ _ l0_3 _ _ l0_4 _ _ l0_5 a0_6 a1_0 a1_1 a1_2 _ _ l1_3 _ _ l1_4 _ _ l1_5 a1_6 t218 _ ?side1 ?side2 ?side3 ?side4 ?side5 ?side6 ?side7 ?side8 ?side9 ?side10 ?side11 ?side12 A20.out).mono ?_
      (case side1 => exact gC HR0_3 HB)
      (case side2 => exact HC0_3.out)
      (case side3 => exact gC HR0_4 HB)
      (case side4 => exact HC0_4.out)
      (case side5 => exact gC HR0_5 HB)
      (case side6 => exact HC0_5.out)
      (case side7 => exact gC HR1_3 HB)
      (case side8 => exact HC1_3.out)
      (case side9 => exact gC HR1_4 HB)
      (case side10 => exact HC1_4.out)
      (case side11 => exact gC HR1_5 HB)
      (case side12 => exact HC1_5.out)
      rintro e w30 ⟨rfl, hb⟩
      refine ⟨_, rfl, ?_⟩
      replace BK213 := gA (blk_below (gK BK213) hb); replace BK214 := gA (blk_below (gK BK214) hb); replace HB := gA (below_step (gB HB) hb); (try clear hb)
      refine hK.out _ _ ⟨(blk_cell BK213.out 0).trans rfl, (blk_cell BK213.out 1).trans rfl, (blk_cell BK213.out 2).trans rfl, (blk_cell BK213.out 3).trans rfl, (blk_cell BK213.out 4).trans rfl, (blk_cell BK213.out 5).trans rfl, (blk_cell BK213.out 6).trans rfl, (blk_cell BK214.out 0).trans rfl, (blk_cell BK214.out 1).trans rfl, (blk_cell BK214.out 2).trans rfl, (blk_cell BK214.out 3).trans rfl, (blk_cell BK214.out 4).trans rfl, (blk_cell BK214.out 5).trans rfl, (blk_cell BK214.out 6).trans rfl⟩ (fun hHeld => ?_); clear hK K
      refine norm_ (a' := ?_) ?_ ?_; rotate_left
      ·show Act.put _ (some 16) _ = _
       simp only [Act.put, List.setIfInBounds_toArray, List.set_cons_zero, List.set_cons_succ, i64_w, i32_w]; rfl
      refine one_ (i := 5) (N := some 19) #[true, true, true, true, true, true, false, false, false, false, false, false, false, false, false, false, false, false, false, false, false, false] rfl rfl (one_of HT_.out (by kernel_rfl)) (by decide) (fun K hK => ?_)
      refine goes_ Try.func17 (by kernel_rfl) rfl #[.agg #[.int .i64 a0_0, .int .i64 a0_1, .string a0_2, .slice A0_3 l0_3.length c0_3, .slice A0_4 l0_4.length c0_4, .slice A0_5 l0_5.length c0_5, .int .i64 a0_6], .agg #[.int .i64 a1_0, .int .i64 a1_1, .string a1_2, .slice A1_3 l1_3.length c1_3, .slice A1_4 l1_4.length c1_4, .slice A1_5 l1_5.length c1_5, .int .i64 a1_6]] (by rfl) rfl rfl (by (try simp only [List.map_toArray, List.map_cons, List.map_nil]); first | done | rfl | (simp only [List.length_drop, List.length_take]; rfl)) ?_
      with_reducible refine (triglyphref10_Same.calls kj2 a0_0 a0_1 a0_2 _ _ l0_3 _ _ l0_4 _ _ l0_5 a0_6 a1_0 a1_1 a1_2 _ _ l1_3 _ _ l1_4 _ _ l1_5 a1_6 t219 _ ?side1 ?side2 ?side3 ?side4 ?side5 ?side6 ?side7 ?side8 ?side9 ?side10 ?side11 ?side12 A21.out).mono ?_
      (case side1 => exact gC HR0_3 HB)
      (case side2 => exact HC0_3.out)
      (case side3 => exact gC HR0_4 HB)
      (case side4 => exact HC0_4.out)
      (case side5 => exact gC HR0_5 HB)
      (case side6 => exact HC0_5.out)
      (case side7 => exact gC HR1_3 HB)
      (case side8 => exact HC1_3.out)
      (case side9 => exact gC HR1_4 HB)
      (case side10 => exact HC1_4.out)
      (case side11 => exact gC HR1_5 HB)
      (case side12 => exact HC1_5.out)
      rintro e w31 ⟨rfl, hb⟩
      refine ⟨_, rfl, ?_⟩
      replace BK213 := gA (blk_below (gK BK213) hb); replace BK214 := gA (blk_below (gK BK214) hb); replace HB := gA (below_step (gB HB) hb); (try clear hb)
      refine hK.out _ _ ⟨(blk_cell BK213.out 0).trans rfl, (blk_cell BK213.out 1).trans rfl, (blk_cell BK213.out 2).trans rfl, (blk_cell BK213.out 3).trans rfl, (blk_cell BK213.out 4).trans rfl, (blk_cell BK213.out 5).trans rfl, (blk_cell BK213.out 6).trans rfl, (blk_cell BK214.out 0).trans rfl, (blk_cell BK214.out 1).trans rfl, (blk_cell BK214.out 2).trans rfl, (blk_cell BK214.out 3).trans rfl, (blk_cell BK214.out 4).trans rfl, (blk_cell BK214.out 5).trans rfl, (blk_cell BK214.out 6).trans rfl⟩ (fun hHeld => ?_); clear hK K
      refine norm_ (a' := ?_) ?_ ?_; rotate_left
      ·show Act.put _ (some 19) _ = _
       simp only [Act.put, List.setIfInBounds_toArray, List.set_cons_zero, List.set_cons_succ, i64_w, i32_w]; rfl
      refine pure_ (i := 6) (N := some 20) (v := ?_) (a' := ?_) #[true, true, true, true, true, true, true, false, false, false, false, false, false, false, false, false, false, false, false, false, false, false] rfl rfl (any_of HT_.out (by kernel_rfl)) (fun _ _ _ h => h) (Or.inl ⟨by rfl, ?_⟩) ?_ ?_; rotate_left
      ·intro w'; go_simp; with_reducible rfl
      rotate_left
      ·simp only [Act.put, List.setIfInBounds_toArray, List.set_cons_zero, List.set_cons_succ, i64_w, i32_w]; rfl
      refine pure_ (i := 7) (N := some 21) (v := ?_) (a' := ?_) #[true, true, true, true, true, true, true, true, false, false, false, false, false, false, false, false, false, false, false, false, false, false] rfl rfl (any_of HT_.out (by kernel_rfl)) (fun _ _ _ h => h) (Or.inl ⟨by rfl, ?_⟩) ?_ ?_; rotate_left
      ·intro w'; go_simp; with_reducible rfl
      rotate_left
      ·simp only [Act.put, List.setIfInBounds_toArray, List.set_cons_zero, List.set_cons_succ, i64_w, i32_w]; rfl
      refine take_ (i := 8) (N := some 22) (v := ?_) (a' := ?_) #[true, true, true, true, true, true, true, true, true, false, false, false, false, false, false, false, false, false, false, false, false, false] rfl rfl (take_ofW HT_.out HW_.out (by kernel_rfl)) (fun _ _ _ h => h) (Or.inl ⟨by rfl, ?_⟩) hHeld ?_ ?_; rotate_left
      ·rintro w' ⟨s0, s1, s2, s3, s4, s5, s6, s7, s8, s9, s10, s11, s12, s13⟩; go_simp; with_reducible rfl
      rotate_left
      ·simp only [Act.put, List.setIfInBounds_toArray, List.set_cons_zero, List.set_cons_succ, i64_w, i32_w]; rfl
      refine take_ (i := 9) (N := some 23) (v := ?_) (a' := ?_) #[true, true, true, true, true, true, true, true, true, true, false, false, false, false, false, false, false, false, false, false, false, false] rfl rfl (take_ofW HT_.out HW_.out (by kernel_rfl)) (fun _ _ _ h => h) (Or.inl ⟨by rfl, ?_⟩) hHeld ?_ ?_; rotate_left
      ·rintro w' ⟨s0, s1, s2, s3, s4, s5, s6, s7, s8, s9, s10, s11, s12, s13⟩; go_simp; with_reducible rfl
      rotate_left
      ·simp only [Act.put, List.setIfInBounds_toArray, List.set_cons_zero, List.set_cons_succ, i64_w, i32_w]; rfl
      refine take_ (i := 12) (N := some 26) (v := ?_) (a' := ?_) #[true, true, true, true, true, true, true, true, true, true, false, false, true, false, false, false, false, false, false, false, false, false] rfl rfl (take_ofW HT_.out HW_.out (by kernel_rfl)) (fun _ _ _ h => h) (Or.inl ⟨by rfl, ?_⟩) hHeld ?_ ?_; rotate_left
      ·rintro w' ⟨s0, s1, s2, s3, s4, s5, s6, s7, s8, s9, s10, s11, s12, s13⟩; go_simp; with_reducible rfl
      rotate_left
      ·simp only [Act.put, List.setIfInBounds_toArray, List.set_cons_zero, List.set_cons_succ, i64_w, i32_w]; rfl
      refine take_ (i := 13) (N := some 27) (v := ?_) (a' := ?_) #[true, true, true, true, true, true, true, true, true, true, false, false, true, true, false, false, false, false, false, false, false, false] rfl rfl (take_ofW HT_.out HW_.out (by kernel_rfl)) (fun _ _ _ h => h) (Or.inl ⟨by rfl, ?_⟩) hHeld ?_ ?_; rotate_left
      ·rintro w' ⟨s0, s1, s2, s3, s4, s5, s6, s7, s8, s9, s10, s11, s12, s13⟩; go_simp; with_reducible rfl
      rotate_left
      ·simp only [Act.put, List.setIfInBounds_toArray, List.set_cons_zero, List.set_cons_succ, i64_w, i32_w]; rfl
      refine one_ (i := 10) (N := some 24) #[true, true, true, true, true, true, true, true, true, true, true, false, true, true, false, false, false, false, false, false, false, false] rfl rfl (one_of HT_.out (by kernel_rfl)) (by decide) (fun K hK => ?_)
      refine goes_ Try.func18 (by kernel_rfl) rfl #[.agg #[.int .i64 a0_0, .int .i64 a0_1, .string a0_2, .slice A0_3 l0_3.length c0_3, .slice A0_4 l0_4.length c0_4, .slice A0_5 l0_5.length c0_5, .int .i64 a0_6]] (by rfl) rfl rfl (by (try simp only [List.map_toArray, List.map_cons, List.map_nil]); first | done | rfl | (simp only [List.length_drop, List.length_take]; rfl)) ?_
      with_reducible refine (triglyphref10_Bare.calls kj2 a0_0 a0_1 a0_2 (fun k_ => k_ < w.heap.size) _ _ l0_3 (fun k_ => k_ < w.heap.size) _ _ l0_4 (fun k_ => k_ < w.heap.size) _ _ l0_5 a0_6 t220 t221 t222 t223 t226 t229 t232 _ ?side1 ?side2 ?side3 A23.out).mono ?_
      (case side1 => exact Kd.V_mk HC0_3.out (Kd.F_below (Kd.C_F (Kd.heap_int .i64) HR0_3.out) (gB HB)))
      (case side2 => exact Kd.V_mk HC0_4.out (Kd.F_below (Kd.C_F k52_heap HR0_4.out) (gB HB)))
      (case side3 => exact Kd.V_mk HC0_5.out (Kd.F_below (Kd.C_F k34_heap HR0_5.out) (gB HB)))
      rintro e w32 ⟨v224, v227, v230, rfl, ho0, ho1, ho2, hb⟩
      refine ⟨_, rfl, ?_⟩
      have HO225 := gA (Kd.V_lower (Kd.V_mono (ok' := fun k_ => some k_ ≠ (v230 : Value).ownBlock ∧ k_ ≠ gb213 ∧ k_ ≠ gb214) ho0 (fun k_ hk_ => ⟨hk_.2, Or.elim hk_.1 (fun hs_ => Or.elim hs_ (fun hs_ => fun e_ => Nat.not_le.2 hs_ (by rw [e_]; exact GW213.out)) (fun hs_ => Or.elim hs_ (fun hs_ => fun e_ => Nat.not_le.2 hs_ (by rw [e_]; exact GW213.out)) (fun hs_ => fun e_ => Nat.not_le.2 hs_ (by rw [e_]; exact GW213.out)))) (fun hn_ => (Kd.freshB (gK BK213) k_ hn_)), Or.elim hk_.1 (fun hs_ => Or.elim hs_ (fun hs_ => fun e_ => Nat.not_le.2 hs_ (by rw [e_]; exact GW214.out)) (fun hs_ => Or.elim hs_ (fun hs_ => fun e_ => Nat.not_le.2 hs_ (by rw [e_]; exact GW214.out)) (fun hs_ => fun e_ => Nat.not_le.2 hs_ (by rw [e_]; exact GW214.out)))) (fun hn_ => (Kd.freshB (gK BK214) k_ hn_))⟩)) (below_size (gB HB))); have HO228 := gA (Kd.V_lower (Kd.V_mono (ok' := fun k_ => some k_ ≠ (v230 : Value).ownBlock ∧ k_ ≠ gb213 ∧ k_ ≠ gb214) ho1 (fun k_ hk_ => ⟨hk_.2, Or.elim hk_.1 (fun hs_ => Or.elim hs_ (fun hs_ => fun e_ => Nat.not_le.2 hs_ (by rw [e_]; exact GW213.out)) (fun hs_ => Or.elim hs_ (fun hs_ => fun e_ => Nat.not_le.2 hs_ (by rw [e_]; exact GW213.out)) (fun hs_ => fun e_ => Nat.not_le.2 hs_ (by rw [e_]; exact GW213.out)))) (fun hn_ => (Kd.freshB (gK BK213) k_ hn_)), Or.elim hk_.1 (fun hs_ => Or.elim hs_ (fun hs_ => fun e_ => Nat.not_le.2 hs_ (by rw [e_]; exact GW214.out)) (fun hs_ => Or.elim hs_ (fun hs_ => fun e_ => Nat.not_le.2 hs_ (by rw [e_]; exact GW214.out)) (fun hs_ => fun e_ => Nat.not_le.2 hs_ (by rw [e_]; exact GW214.out)))) (fun hn_ => (Kd.freshB (gK BK214) k_ hn_))⟩)) (below_size (gB HB))); have HO231 := gA (Kd.N_lower (Kd.N_mono (ok' := fun k_ => k_ ≠ gb213 ∧ k_ ≠ gb214) ho2 (fun k_ hk_ => ⟨Or.elim hk_ (fun hs_ => Or.elim hs_ (fun hs_ => fun e_ => Nat.not_le.2 hs_ (by rw [e_]; exact GW213.out)) (fun hs_ => Or.elim hs_ (fun hs_ => fun e_ => Nat.not_le.2 hs_ (by rw [e_]; exact GW213.out)) (fun hs_ => fun e_ => Nat.not_le.2 hs_ (by rw [e_]; exact GW213.out)))) (fun hn_ => (Kd.freshB (gK BK213) k_ hn_)), Or.elim hk_ (fun hs_ => Or.elim hs_ (fun hs_ => fun e_ => Nat.not_le.2 hs_ (by rw [e_]; exact GW214.out)) (fun hs_ => Or.elim hs_ (fun hs_ => fun e_ => Nat.not_le.2 hs_ (by rw [e_]; exact GW214.out)) (fun hs_ => fun e_ => Nat.not_le.2 hs_ (by rw [e_]; exact GW214.out)))) (fun hn_ => (Kd.freshB (gK BK214) k_ hn_))⟩)) (below_size (gB HB))); replace BK213 := gA (blk_below (gK BK213) hb); replace BK214 := gA (blk_below (gK BK214) hb); replace HB := gA (below_step (gB HB) hb); (try clear hb); (try clear ho0); (try clear ho1); (try clear ho2)
      obtain ⟨Ao33, co33, eo33⟩ := Kd.V_slice HO225.out
      (first | subst eo33 | (injection eo33 with f1_ f2_ f3_; have f4_ := f1_.symm; have f5_ := f3_.symm; clear f1_ f2_ f3_; subst f4_; subst f5_))
      obtain ⟨Ao34, co34, eo34⟩ := Kd.V_slice HO228.out
      (first | subst eo34 | (injection eo34 with f1_ f2_ f3_; have f4_ := f1_.symm; have f5_ := f3_.symm; clear f1_ f2_ f3_; subst f4_; subst f5_))
      obtain ⟨Ao35, co35, eo35⟩ := Kd.N_slice HO231.out
      (first | subst eo35 | (injection eo35 with f1_ f2_ f3_; have f4_ := f1_.symm; have f5_ := f3_.symm; clear f1_ f2_ f3_; subst f4_; subst f5_))
      refine hK.out _ _ ⟨(blk_cell BK213.out 0).trans rfl, (blk_cell BK213.out 1).trans rfl, (blk_cell BK213.out 2).trans rfl, (blk_cell BK213.out 3).trans rfl, (blk_cell BK213.out 4).trans rfl, (blk_cell BK213.out 5).trans rfl, (blk_cell BK213.out 6).trans rfl, (blk_cell BK214.out 0).trans rfl, (blk_cell BK214.out 1).trans rfl, (blk_cell BK214.out 2).trans rfl, (blk_cell BK214.out 3).trans rfl, (blk_cell BK214.out 4).trans rfl, (blk_cell BK214.out 5).trans rfl, (blk_cell BK214.out 6).trans rfl⟩ (fun hHeld => ?_); clear hK K
      refine norm_ (a' := ?_) ?_ ?_; rotate_left
      ·show Act.put _ (some 24) _ = _
       simp only [Act.put, List.setIfInBounds_toArray, List.set_cons_zero, List.set_cons_succ, i64_w, i32_w]; rfl
      refine one_ (i := 11) (N := some 25) #[true, true, true, true, true, true, true, true, true, true, true, true, true, true, false, false, false, false, false, false, false, false] rfl rfl (one_of HT_.out (by kernel_rfl)) (by decide) (fun K hK => ?_)
      refine goes_ Try.func16 (by kernel_rfl) rfl #[.agg #[.int .i64 a0_0, .int .i64 a0_1, .string a0_2, .slice A0_3 l0_3.length c0_3, .slice A0_4 l0_4.length c0_4, .slice A0_5 l0_5.length c0_5, .int .i64 a0_6], .agg #[.int .i64 t220, .int .i64 t221, .string t222, .slice Ao33 t223.length co33, .slice Ao34 t226.length co34, .slice Ao35 t229.length co35, .int .i64 t232]] (by rfl) rfl rfl (by (try simp only [List.map_toArray, List.map_cons, List.map_nil]); first | done | rfl | (simp only [List.length_drop, List.length_take]; rfl)) ?_
      with_reducible refine (core_Same.calls a0_0 a0_1 a0_2 _ _ l0_3 _ _ l0_4 _ _ l0_5 a0_6 t220 t221 t222 _ _ t223 _ _ t226 _ _ t229 t232 t233 _ ?side1 ?side2 ?side3 ?side4 ?side5 ?side6 ?side7 ?side8 ?side9 ?side10 ?side11 ?side12 A24.out).mono ?_
      (case side1 => exact gC HR0_3 HB)
      (case side2 => exact HC0_3.out)
      (case side3 => exact gC HR0_4 HB)
      (case side4 => exact HC0_4.out)
      (case side5 => exact gC HR0_5 HB)
      (case side6 => exact HC0_5.out)
      (case side7 => repeat (first | exact (Kd.V_reads' HO225.out).2.2 | (with_reducible refine Kd.C_alloc ?_ _) | (with_reducible refine Kd.C_drewN ?_ _) | (with_reducible refine Kd.C_drew ?_)))
      (case side8 => exact (Kd.V_reads' HO225.out).2.1)
      (case side9 => repeat (first | exact (Kd.V_reads' HO228.out).2.2 | (with_reducible refine Kd.C_alloc ?_ _) | (with_reducible refine Kd.C_drewN ?_ _) | (with_reducible refine Kd.C_drew ?_)))
      (case side10 => exact (Kd.V_reads' HO228.out).2.1)
      (case side11 => repeat (first | exact (Kd.N_reads' HO231.out).2.2 | (with_reducible refine Kd.C_alloc ?_ _) | (with_reducible refine Kd.C_drewN ?_ _) | (with_reducible refine Kd.C_drew ?_)))
      (case side12 => exact (Kd.N_reads' HO231.out).2.1)
      rintro e w36 ⟨rfl, hb⟩
      refine ⟨_, rfl, ?_⟩
      replace HO225 := gA (Kd.V_below (gV HO225) hb); replace HO228 := gA (Kd.V_below (gV HO228) hb); replace HO231 := gA (Kd.N_below (gN HO231) hb); replace BK213 := gA (blk_below (gK BK213) hb); replace BK214 := gA (blk_below (gK BK214) hb); replace HB := gA (below_step (gB HB) hb); (try clear hb)
      refine hK.out _ _ ⟨(blk_cell BK213.out 0).trans rfl, (blk_cell BK213.out 1).trans rfl, (blk_cell BK213.out 2).trans rfl, (blk_cell BK213.out 3).trans rfl, (blk_cell BK213.out 4).trans rfl, (blk_cell BK213.out 5).trans rfl, (blk_cell BK213.out 6).trans rfl, (blk_cell BK214.out 0).trans rfl, (blk_cell BK214.out 1).trans rfl, (blk_cell BK214.out 2).trans rfl, (blk_cell BK214.out 3).trans rfl, (blk_cell BK214.out 4).trans rfl, (blk_cell BK214.out 5).trans rfl, (blk_cell BK214.out 6).trans rfl⟩ (fun hHeld => ?_); clear hK K
      refine norm_ (a' := ?_) ?_ ?_; rotate_left
      ·show Act.put _ (some 25) _ = _
       simp only [Act.put, List.setIfInBounds_toArray, List.set_cons_zero, List.set_cons_succ, i64_w, i32_w]; rfl
      refine one_ (i := 14) (N := some 28) #[true, true, true, true, true, true, true, true, true, true, true, true, true, true, true, false, false, false, false, false, false, false] rfl rfl (one_of HT_.out (by kernel_rfl)) (by decide) (fun K hK => ?_)
      refine goes_ Try.func18 (by kernel_rfl) rfl #[.agg #[.int .i64 a0_0, .int .i64 a0_1, .string a0_2, .slice A0_3 l0_3.length c0_3, .slice A0_4 l0_4.length c0_4, .slice A0_5 l0_5.length c0_5, .int .i64 a0_6]] (by rfl) rfl rfl (by (try simp only [List.map_toArray, List.map_cons, List.map_nil]); first | done | rfl | (simp only [List.length_drop, List.length_take]; rfl)) ?_
      with_reducible refine (triglyphref10_Bare.calls kj2 a0_0 a0_1 a0_2 (fun k_ => k_ < w.heap.size) _ _ l0_3 (fun k_ => k_ < w.heap.size) _ _ l0_4 (fun k_ => k_ < w.heap.size) _ _ l0_5 a0_6 t234 t235 t236 t237 t240 t243 t246 _ ?side1 ?side2 ?side3 A25.out).mono ?_
      (case side1 => exact Kd.V_mk HC0_3.out (Kd.F_below (Kd.C_F (Kd.heap_int .i64) HR0_3.out) (gB HB)))
      (case side2 => exact Kd.V_mk HC0_4.out (Kd.F_below (Kd.C_F k52_heap HR0_4.out) (gB HB)))
      (case side3 => exact Kd.V_mk HC0_5.out (Kd.F_below (Kd.C_F k34_heap HR0_5.out) (gB HB)))
      rintro e w37 ⟨v238, v241, v244, rfl, ho0, ho1, ho2, hb⟩
      refine ⟨_, rfl, ?_⟩
      replace HO225 := gA (Kd.V_elder' (gV HO225) (Kd.N_base ho2) hb); replace HO228 := gA (Kd.V_elder' (gV HO228) (Kd.N_base ho2) hb); have HO239 := gA (Kd.V_lower (Kd.V_mono (ok' := fun k_ => some k_ ≠ (v244 : Value).ownBlock ∧ some k_ ≠ (.slice Ao35 t229.length co35 : Value).ownBlock ∧ k_ ≠ gb213 ∧ k_ ≠ gb214) ho0 (fun k_ hk_ => ⟨hk_.2, Or.elim hk_.1 (fun hs_ => Or.elim hs_ (fun hs_ => fun e_ => Nat.not_le.2 hs_ (Kd.N_base HO231.out k_ e_.symm)) (fun hs_ => Or.elim hs_ (fun hs_ => fun e_ => Nat.not_le.2 hs_ (Kd.N_base HO231.out k_ e_.symm)) (fun hs_ => fun e_ => Nat.not_le.2 hs_ (Kd.N_base HO231.out k_ e_.symm)))) (fun hn_ => (Kd.fresh' (Kd.N_lt (gN HO231)) k_ hn_)), Or.elim hk_.1 (fun hs_ => Or.elim hs_ (fun hs_ => fun e_ => Nat.not_le.2 hs_ (by rw [e_]; exact GW213.out)) (fun hs_ => Or.elim hs_ (fun hs_ => fun e_ => Nat.not_le.2 hs_ (by rw [e_]; exact GW213.out)) (fun hs_ => fun e_ => Nat.not_le.2 hs_ (by rw [e_]; exact GW213.out)))) (fun hn_ => (Kd.freshB (gK BK213) k_ hn_)), Or.elim hk_.1 (fun hs_ => Or.elim hs_ (fun hs_ => fun e_ => Nat.not_le.2 hs_ (by rw [e_]; exact GW214.out)) (fun hs_ => Or.elim hs_ (fun hs_ => fun e_ => Nat.not_le.2 hs_ (by rw [e_]; exact GW214.out)) (fun hs_ => fun e_ => Nat.not_le.2 hs_ (by rw [e_]; exact GW214.out)))) (fun hn_ => (Kd.freshB (gK BK214) k_ hn_))⟩)) (below_size (gB HB))); have HO242 := gA (Kd.V_lower (Kd.V_mono (ok' := fun k_ => some k_ ≠ (v244 : Value).ownBlock ∧ some k_ ≠ (.slice Ao35 t229.length co35 : Value).ownBlock ∧ k_ ≠ gb213 ∧ k_ ≠ gb214) ho1 (fun k_ hk_ => ⟨hk_.2, Or.elim hk_.1 (fun hs_ => Or.elim hs_ (fun hs_ => fun e_ => Nat.not_le.2 hs_ (Kd.N_base HO231.out k_ e_.symm)) (fun hs_ => Or.elim hs_ (fun hs_ => fun e_ => Nat.not_le.2 hs_ (Kd.N_base HO231.out k_ e_.symm)) (fun hs_ => fun e_ => Nat.not_le.2 hs_ (Kd.N_base HO231.out k_ e_.symm)))) (fun hn_ => (Kd.fresh' (Kd.N_lt (gN HO231)) k_ hn_)), Or.elim hk_.1 (fun hs_ => Or.elim hs_ (fun hs_ => fun e_ => Nat.not_le.2 hs_ (by rw [e_]; exact GW213.out)) (fun hs_ => Or.elim hs_ (fun hs_ => fun e_ => Nat.not_le.2 hs_ (by rw [e_]; exact GW213.out)) (fun hs_ => fun e_ => Nat.not_le.2 hs_ (by rw [e_]; exact GW213.out)))) (fun hn_ => (Kd.freshB (gK BK213) k_ hn_)), Or.elim hk_.1 (fun hs_ => Or.elim hs_ (fun hs_ => fun e_ => Nat.not_le.2 hs_ (by rw [e_]; exact GW214.out)) (fun hs_ => Or.elim hs_ (fun hs_ => fun e_ => Nat.not_le.2 hs_ (by rw [e_]; exact GW214.out)) (fun hs_ => fun e_ => Nat.not_le.2 hs_ (by rw [e_]; exact GW214.out)))) (fun hn_ => (Kd.freshB (gK BK214) k_ hn_))⟩)) (below_size (gB HB))); have HO245 := gA (Kd.N_lower (Kd.N_mono (ok' := fun k_ => some k_ ≠ (.slice Ao35 t229.length co35 : Value).ownBlock ∧ k_ ≠ gb213 ∧ k_ ≠ gb214) ho2 (fun k_ hk_ => ⟨Or.elim hk_ (fun hs_ => Or.elim hs_ (fun hs_ => fun e_ => Nat.not_le.2 hs_ (Kd.N_base HO231.out k_ e_.symm)) (fun hs_ => Or.elim hs_ (fun hs_ => fun e_ => Nat.not_le.2 hs_ (Kd.N_base HO231.out k_ e_.symm)) (fun hs_ => fun e_ => Nat.not_le.2 hs_ (Kd.N_base HO231.out k_ e_.symm)))) (fun hn_ => (Kd.fresh' (Kd.N_lt (gN HO231)) k_ hn_)), Or.elim hk_ (fun hs_ => Or.elim hs_ (fun hs_ => fun e_ => Nat.not_le.2 hs_ (by rw [e_]; exact GW213.out)) (fun hs_ => Or.elim hs_ (fun hs_ => fun e_ => Nat.not_le.2 hs_ (by rw [e_]; exact GW213.out)) (fun hs_ => fun e_ => Nat.not_le.2 hs_ (by rw [e_]; exact GW213.out)))) (fun hn_ => (Kd.freshB (gK BK213) k_ hn_)), Or.elim hk_ (fun hs_ => Or.elim hs_ (fun hs_ => fun e_ => Nat.not_le.2 hs_ (by rw [e_]; exact GW214.out)) (fun hs_ => Or.elim hs_ (fun hs_ => fun e_ => Nat.not_le.2 hs_ (by rw [e_]; exact GW214.out)) (fun hs_ => fun e_ => Nat.not_le.2 hs_ (by rw [e_]; exact GW214.out)))) (fun hn_ => (Kd.freshB (gK BK214) k_ hn_))⟩)) (below_size (gB HB))); replace HO231 := gA (Kd.N_elder' (gN HO231) (Kd.N_base ho2) hb); replace BK213 := gA (blk_below (gK BK213) hb); replace BK214 := gA (blk_below (gK BK214) hb); replace HB := gA (below_step (gB HB) hb); (try clear hb); (try clear ho0); (try clear ho1); (try clear ho2)
      obtain ⟨Ao38, co38, eo38⟩ := Kd.V_slice HO239.out
      (first | subst eo38 | (injection eo38 with f1_ f2_ f3_; have f4_ := f1_.symm; have f5_ := f3_.symm; clear f1_ f2_ f3_; subst f4_; subst f5_))
      obtain ⟨Ao39, co39, eo39⟩ := Kd.V_slice HO242.out
      (first | subst eo39 | (injection eo39 with f1_ f2_ f3_; have f4_ := f1_.symm; have f5_ := f3_.symm; clear f1_ f2_ f3_; subst f4_; subst f5_))
      obtain ⟨Ao40, co40, eo40⟩ := Kd.N_slice HO245.out
      (first | subst eo40 | (injection eo40 with f1_ f2_ f3_; have f4_ := f1_.symm; have f5_ := f3_.symm; clear f1_ f2_ f3_; subst f4_; subst f5_))
      refine hK.out _ _ ⟨(blk_cell BK213.out 0).trans rfl, (blk_cell BK213.out 1).trans rfl, (blk_cell BK213.out 2).trans rfl, (blk_cell BK213.out 3).trans rfl, (blk_cell BK213.out 4).trans rfl, (blk_cell BK213.out 5).trans rfl, (blk_cell BK213.out 6).trans rfl, (blk_cell BK214.out 0).trans rfl, (blk_cell BK214.out 1).trans rfl, (blk_cell BK214.out 2).trans rfl, (blk_cell BK214.out 3).trans rfl, (blk_cell BK214.out 4).trans rfl, (blk_cell BK214.out 5).trans rfl, (blk_cell BK214.out 6).trans rfl⟩ (fun hHeld => ?_); clear hK K
      refine norm_ (a' := ?_) ?_ ?_; rotate_left
      ·show Act.put _ (some 28) _ = _
       simp only [Act.put, List.setIfInBounds_toArray, List.set_cons_zero, List.set_cons_succ, i64_w, i32_w]; rfl
      refine one_ (i := 15) (N := some 29) #[true, true, true, true, true, true, true, true, true, true, true, true, true, true, true, true, false, false, false, false, false, false] rfl rfl (one_of HT_.out (by kernel_rfl)) (by decide) (fun K hK => ?_)
      refine goes_ Try.func17 (by kernel_rfl) rfl #[.agg #[.int .i64 a0_0, .int .i64 a0_1, .string a0_2, .slice A0_3 l0_3.length c0_3, .slice A0_4 l0_4.length c0_4, .slice A0_5 l0_5.length c0_5, .int .i64 a0_6], .agg #[.int .i64 t234, .int .i64 t235, .string t236, .slice Ao38 t237.length co38, .slice Ao39 t240.length co39, .slice Ao40 t243.length co40, .int .i64 t246]] (by rfl) rfl rfl (by (try simp only [List.map_toArray, List.map_cons, List.map_nil]); first | done | rfl | (simp only [List.length_drop, List.length_take]; rfl)) ?_
      with_reducible refine (triglyphref10_Same.calls kj2 a0_0 a0_1 a0_2 _ _ l0_3 _ _ l0_4 _ _ l0_5 a0_6 t234 t235 t236 _ _ t237 _ _ t240 _ _ t243 t246 t247 _ ?side1 ?side2 ?side3 ?side4 ?side5 ?side6 ?side7 ?side8 ?side9 ?side10 ?side11 ?side12 A26.out).mono ?_
      (case side1 => exact gC HR0_3 HB)
      (case side2 => exact HC0_3.out)
      (case side3 => exact gC HR0_4 HB)
      (case side4 => exact HC0_4.out)
      (case side5 => exact gC HR0_5 HB)
      (case side6 => exact HC0_5.out)
      (case side7 => repeat (first | exact (Kd.V_reads' HO239.out).2.2 | (with_reducible refine Kd.C_alloc ?_ _) | (with_reducible refine Kd.C_drewN ?_ _) | (with_reducible refine Kd.C_drew ?_)))
      (case side8 => exact (Kd.V_reads' HO239.out).2.1)
      (case side9 => repeat (first | exact (Kd.V_reads' HO242.out).2.2 | (with_reducible refine Kd.C_alloc ?_ _) | (with_reducible refine Kd.C_drewN ?_ _) | (with_reducible refine Kd.C_drew ?_)))
      (case side10 => exact (Kd.V_reads' HO242.out).2.1)
      (case side11 => repeat (first | exact (Kd.N_reads' HO245.out).2.2 | (with_reducible refine Kd.C_alloc ?_ _) | (with_reducible refine Kd.C_drewN ?_ _) | (with_reducible refine Kd.C_drew ?_)))
      (case side12 => exact (Kd.N_reads' HO245.out).2.1)
      rintro e w41 ⟨rfl, hb⟩
      refine ⟨_, rfl, ?_⟩
      replace HO225 := gA (Kd.V_below (gV HO225) hb); replace HO228 := gA (Kd.V_below (gV HO228) hb); replace HO231 := gA (Kd.N_below (gN HO231) hb); replace HO239 := gA (Kd.V_below (gV HO239) hb); replace HO242 := gA (Kd.V_below (gV HO242) hb); replace HO245 := gA (Kd.N_below (gN HO245) hb); replace BK213 := gA (blk_below (gK BK213) hb); replace BK214 := gA (blk_below (gK BK214) hb); replace HB := gA (below_step (gB HB) hb); (try clear hb)
      refine hK.out _ _ ⟨(blk_cell BK213.out 0).trans rfl, (blk_cell BK213.out 1).trans rfl, (blk_cell BK213.out 2).trans rfl, (blk_cell BK213.out 3).trans rfl, (blk_cell BK213.out 4).trans rfl, (blk_cell BK213.out 5).trans rfl, (blk_cell BK213.out 6).trans rfl, (blk_cell BK214.out 0).trans rfl, (blk_cell BK214.out 1).trans rfl, (blk_cell BK214.out 2).trans rfl, (blk_cell BK214.out 3).trans rfl, (blk_cell BK214.out 4).trans rfl, (blk_cell BK214.out 5).trans rfl, (blk_cell BK214.out 6).trans rfl⟩ (fun hHeld => ?_); clear hK K
      refine norm_ (a' := ?_) ?_ ?_; rotate_left
      ·show Act.put _ (some 29) _ = _
       simp only [Act.put, List.setIfInBounds_toArray, List.set_cons_zero, List.set_cons_succ, i64_w, i32_w]; rfl
      refine pure_ (i := 16) (N := some 30) (v := ?_) (a' := ?_) #[true, true, true, true, true, true, true, true, true, true, true, true, true, true, true, true, true, false, false, false, false, false] rfl rfl (any_of HT_.out (by kernel_rfl)) (fun _ _ _ h => h) (Or.inl ⟨by rfl, ?_⟩) ?_ ?_; rotate_left
      ·intro w'; go_simp; with_reducible rfl
      rotate_left
      ·simp only [Act.put, List.setIfInBounds_toArray, List.set_cons_zero, List.set_cons_succ, i64_w, i32_w]; rfl
      refine pure_ (i := 17) (N := some 31) (v := ?_) (a' := ?_) #[true, true, true, true, true, true, true, true, true, true, true, true, true, true, true, true, true, true, false, false, false, false] rfl rfl (any_of HT_.out (by kernel_rfl)) (fun _ _ _ h => h) (Or.inl ⟨by rfl, ?_⟩) ?_ ?_; rotate_left
      ·intro w'; go_simp; with_reducible rfl
      rotate_left
      ·simp only [Act.put, List.setIfInBounds_toArray, List.set_cons_zero, List.set_cons_succ, i64_w, i32_w]; rfl
      refine pure_ (i := 18) (N := some 32) (v := ?_) (a' := ?_) #[true, true, true, true, true, true, true, true, true, true, true, true, true, true, true, true, true, true, true, false, false, false] rfl rfl (any_of HT_.out (by kernel_rfl)) (fun _ _ _ h => h) (Or.inl ⟨by rfl, ?_⟩) ?_ ?_; rotate_left
      ·intro w'; go_simp; with_reducible rfl
      rotate_left
      ·simp only [Act.put, List.setIfInBounds_toArray, List.set_cons_zero, List.set_cons_succ, i64_w, i32_w]; rfl
      refine one_ (i := 19) (N := some 33) #[true, true, true, true, true, true, true, true, true, true, true, true, true, true, true, true, true, true, true, true, false, false] rfl rfl (one_of HT_.out (by kernel_rfl)) (by decide) (fun K hK => ?_)
      refine goes_ Try.func8 (by kernel_rfl) rfl #[] (by rfl) rfl rfl (by (try simp only [List.map_toArray, List.map_cons, List.map_nil]); first | done | rfl | (simp only [List.length_drop, List.length_take]; rfl)) ?_
      with_reducible refine (triglyphlaw10_works.calls kj2  t248 _ A28.out).mono ?_
      rintro e w42 ⟨rfl, hb⟩
      refine ⟨_, rfl, ?_⟩
      replace HO225 := gA (Kd.V_below (gV HO225) hb); replace HO228 := gA (Kd.V_below (gV HO228) hb); replace HO231 := gA (Kd.N_below (gN HO231) hb); replace HO239 := gA (Kd.V_below (gV HO239) hb); replace HO242 := gA (Kd.V_below (gV HO242) hb); replace HO245 := gA (Kd.N_below (gN HO245) hb); replace BK213 := gA (blk_below (gK BK213) hb); replace BK214 := gA (blk_below (gK BK214) hb); replace HB := gA (below_step (gB HB) hb); (try clear hb)
      refine hK.out _ _ ⟨(blk_cell BK213.out 0).trans rfl, (blk_cell BK213.out 1).trans rfl, (blk_cell BK213.out 2).trans rfl, (blk_cell BK213.out 3).trans rfl, (blk_cell BK213.out 4).trans rfl, (blk_cell BK213.out 5).trans rfl, (blk_cell BK213.out 6).trans rfl, (blk_cell BK214.out 0).trans rfl, (blk_cell BK214.out 1).trans rfl, (blk_cell BK214.out 2).trans rfl, (blk_cell BK214.out 3).trans rfl, (blk_cell BK214.out 4).trans rfl, (blk_cell BK214.out 5).trans rfl, (blk_cell BK214.out 6).trans rfl⟩ (fun hHeld => ?_); clear hK K
      refine norm_ (a' := ?_) ?_ ?_; rotate_left
      ·show Act.put _ (some 33) _ = _
       simp only [Act.put, List.setIfInBounds_toArray, List.set_cons_zero, List.set_cons_succ, i64_w, i32_w]; rfl
      refine pure_ (i := 20) (N := some 34) (v := ?_) (a' := ?_) #[true, true, true, true, true, true, true, true, true, true, true, true, true, true, true, true, true, true, true, true, true, false] rfl rfl (any_of HT_.out (by kernel_rfl)) (fun _ _ _ h => h) (Or.inl ⟨by rfl, ?_⟩) ?_ ?_; rotate_left
      ·intro w'; go_simp; with_reducible rfl
      rotate_left
      ·simp only [Act.put, List.setIfInBounds_toArray, List.set_cons_zero, List.set_cons_succ, i64_w, i32_w]; rfl
      refine pure_ (i := 21) (N := some 4) (v := ?_) (a' := ?_) #[true, true, true, true, true, true, true, true, true, true, true, true, true, true, true, true, true, true, true, true, true, true] rfl rfl (any_of HT_.out (by kernel_rfl)) (fun _ _ _ h => h) (Or.inl ⟨by rfl, ?_⟩) ?_ ?_; rotate_left
      ·intro w'; go_simp; with_reducible rfl
      rotate_left
      ·simp only [Act.put, List.setIfInBounds_toArray, List.set_cons_zero, List.set_cons_succ, i64_w, i32_w]; rfl
      refine done_ (done_of HT_.out (by kernel_rfl)) ?_
      try go_wp2
      go_ret
      exact ⟨rfl, by repeat first | exact gB HB | refine below_set ?_ GE213.out | refine below_set ?_ GE214.out⟩
     ·rw [if_neg c27] at H
      have c27b0 : (t233 == t247) = false := by simpa using c27
      (try (have c27b1 : decide (t233 = t247) = false := by simpa using c27))
      (try (have c27b2 : (t233 == t247) = false := by simpa using c27))
      (try (have c27b3 : ¬ (t233 = t247) := by simpa using c27))
      clear c27
      exact absurd H (by simp)
    ·rw [if_neg c22] at H
     have c22b0 : (t218 == t219) = false := by simpa using c22
     (try (have c22b1 : decide (t218 = t219) = false := by simpa using c22))
     (try (have c22b2 : (t218 == t219) = false := by simpa using c22))
     (try (have c22b3 : ¬ (t218 = t219) := by simpa using c22))
     clear c22
     exact absurd H (by simp)
end Go.Proofs.Ytfblidojoepcpaa.P
