/- Written by a program of this session: the functions that the laws reach, what each comes to, and each law as it is stated, for every input. No condition. -/
import Derived.Test.YtfblidojoepcpaaPx0
import Derived.Test.YtfblidojoepcpaaPx1
import Derived.Test.YtfblidojoepcpaaPx2
import Derived.Test.YtfblidojoepcpaaPx4
namespace Go.Proofs.Ytfblidojoepcpaa.P
open Go.RowKit Go.Proofs.YtfblidojoepcpaaW.PrintWords Go.Proofs.YtfblidojoepcpaaW.PrintLast Go.Proofs.YtfblidojoepcpaaW.PrintMore
attribute [local go_sem] max2_int min2_int max_two min_two max_three min_three max_four min_four   -- for this text's walks alone
set_option linter.unusedVariables false
set_option linter.unusedSimpArgs false
def triglyphref10_One.f (a0_0 : Int) (a0_1 : Int) (a0_2 : ByteArray) (l0_3 : List Int) (l0_4 : List (S52)) (l0_5 : List (S34)) (a0_6 : Int) (a1_0 : Int) (a1_1 : Int) (a1_2 : ByteArray) (l1_3 : List Int) (l1_4 : List (S52)) (l1_5 : List (S34)) (a1_6 : Int) : Option (Int × Int × ByteArray × List Int × (List (S52)) × (List (S34)) × Int) := some (5, 0, (⟨#[]⟩ : ByteArray), ([] : List Int), ([] : List (S52)), (([(⟨a0_0, a0_1, a0_2, (⟨l0_3, l0_4⟩ : S25), l0_5, a0_6⟩ : S34), (⟨a1_0, a1_1, a1_2, (⟨l1_3, l1_4⟩ : S25), l1_5, a1_6⟩ : S34)] : List (S34))), 0)
set_option maxHeartbeats 8000000 in
set_option maxRecDepth 100000 in
theorem triglyphref10_One.calls (a0_0 : Int) (a0_1 : Int) (a0_2 : ByteArray) (P0_3_ : Nat → Prop) (A0_3 : Option Addr) (c0_3 : Nat) (l0_3 : List Int) (P0_4_ : Nat → Prop) (A0_4 : Option Addr) (c0_4 : Nat) (l0_4 : List (S52)) (P0_5_ : Nat → Prop) (A0_5 : Option Addr) (c0_5 : Nat) (l0_5 : List (S34)) (a0_6 : Int) (a1_0 : Int) (a1_1 : Int) (a1_2 : ByteArray) (P1_3_ : Nat → Prop) (A1_3 : Option Addr) (c1_3 : Nat) (l1_3 : List Int) (P1_4_ : Nat → Prop) (A1_4 : Option Addr) (c1_4 : Nat) (l1_4 : List (S52)) (P1_5_ : Nat → Prop) (A1_5 : Option Addr) (c1_5 : Nat) (l1_5 : List (S34)) (a1_6 : Int) (r1 : Int) (r2 : Int) (r3 : ByteArray) (r4 : List Int) (r5 : List (S52)) (r6 : List (S34)) (r7 : Int) (w : World) (hs0_3 : Kd.V (Kd.int .i64) 3 w w.heap.size (fun k_ => P0_3_ k_) (.slice A0_3 l0_3.length c0_3) l0_3) (hs0_4 : Kd.V k52 52 w w.heap.size (fun k_ => P0_4_ k_) (.slice A0_4 l0_4.length c0_4) l0_4) (hs0_5 : Kd.V k34 34 w w.heap.size (fun k_ => P0_5_ k_) (.slice A0_5 l0_5.length c0_5) l0_5) (hs1_3 : Kd.V (Kd.int .i64) 3 w w.heap.size (fun k_ => P1_3_ k_) (.slice A1_3 l1_3.length c1_3) l1_3) (hs1_4 : Kd.V k52 52 w w.heap.size (fun k_ => P1_4_ k_) (.slice A1_4 l1_4.length c1_4) l1_4) (hs1_5 : Kd.V k34 34 w w.heap.size (fun k_ => P1_5_ k_) (.slice A1_5 l1_5.length c1_5) l1_5) (h : triglyphref10_One.f a0_0 a0_1 a0_2 l0_3 l0_4 l0_5 a0_6 a1_0 a1_1 a1_2 l1_3 l1_4 l1_5 a1_6 = some (r1, r2, r3, r4, r5, r6, r7)) :
  Calls Try.prog 21 #[.agg #[.int .i64 a0_0, .int .i64 a0_1, .string a0_2, .slice A0_3 l0_3.length c0_3, .slice A0_4 l0_4.length c0_4, .slice A0_5 l0_5.length c0_5, .int .i64 a0_6], .agg #[.int .i64 a1_0, .int .i64 a1_1, .string a1_2, .slice A1_3 l1_3.length c1_3, .slice A1_4 l1_4.length c1_4, .slice A1_5 l1_5.length c1_5, .int .i64 a1_6]] w fun e w' => ∃ v3_ v4_ v5_ : Value, e = .returned (.agg #[.int .i64 r1, .int .i64 r2, .string r3, v3_, v4_, v5_, .int .i64 r7]) ∧ Kd.R (Kd.int .i64) 3 w' w.heap.size (fun k_ => (w.heap.size ≤ k_)) v3_ r4 ∧ Kd.N k52 52 w' w.heap.size (fun k_ => ((P0_3_ k_ ∨ P0_4_ k_ ∨ P0_5_ k_ ∨ P1_3_ k_ ∨ P1_4_ k_ ∨ P1_5_ k_) ∨ w.heap.size ≤ k_) ∧ some k_ ≠ (v3_ : Value).ownBlock ∧ some k_ ≠ (v5_ : Value).ownBlock) v4_ r5 ∧ Kd.N k34 34 w' w.heap.size (fun k_ => ((P0_3_ k_ ∨ P0_4_ k_ ∨ P0_5_ k_ ∨ P1_3_ k_ ∨ P1_4_ k_ ∨ P1_5_ k_) ∨ w.heap.size ≤ k_) ∧ some k_ ≠ (v3_ : Value).ownBlock ∧ some k_ ≠ (v4_ : Value).ownBlock) v5_ r6 ∧ Below w.heap.size w w' := by
 have hu34 := Try.underlying34
 have HO0_3 := gA (show Kd.V (Kd.int .i64) 3 w w.heap.size (fun k_ => ((P0_3_ k_ ∨ P0_4_ k_ ∨ P0_5_ k_ ∨ P1_3_ k_ ∨ P1_4_ k_ ∨ P1_5_ k_) ∨ w.heap.size ≤ k_)) (.slice A0_3 l0_3.length c0_3) l0_3 from Kd.V_mono hs0_3 (fun k_ hk => .inl (.inl hk)))
 have HO0_4 := gA (show Kd.V k52 52 w w.heap.size (fun k_ => ((P0_3_ k_ ∨ P0_4_ k_ ∨ P0_5_ k_ ∨ P1_3_ k_ ∨ P1_4_ k_ ∨ P1_5_ k_) ∨ w.heap.size ≤ k_)) (.slice A0_4 l0_4.length c0_4) l0_4 from Kd.V_mono hs0_4 (fun k_ hk => .inl (.inr (.inl hk))))
 have HO0_5 := gA (show Kd.V k34 34 w w.heap.size (fun k_ => ((P0_3_ k_ ∨ P0_4_ k_ ∨ P0_5_ k_ ∨ P1_3_ k_ ∨ P1_4_ k_ ∨ P1_5_ k_) ∨ w.heap.size ≤ k_)) (.slice A0_5 l0_5.length c0_5) l0_5 from Kd.V_mono hs0_5 (fun k_ hk => .inl (.inr (.inr (.inl hk)))))
 have HO1_3 := gA (show Kd.V (Kd.int .i64) 3 w w.heap.size (fun k_ => ((P0_3_ k_ ∨ P0_4_ k_ ∨ P0_5_ k_ ∨ P1_3_ k_ ∨ P1_4_ k_ ∨ P1_5_ k_) ∨ w.heap.size ≤ k_)) (.slice A1_3 l1_3.length c1_3) l1_3 from Kd.V_mono hs1_3 (fun k_ hk => .inl (.inr (.inr (.inr (.inl hk))))))
 have HO1_4 := gA (show Kd.V k52 52 w w.heap.size (fun k_ => ((P0_3_ k_ ∨ P0_4_ k_ ∨ P0_5_ k_ ∨ P1_3_ k_ ∨ P1_4_ k_ ∨ P1_5_ k_) ∨ w.heap.size ≤ k_)) (.slice A1_4 l1_4.length c1_4) l1_4 from Kd.V_mono hs1_4 (fun k_ hk => .inl (.inr (.inr (.inr (.inr (.inl hk)))))))
 have HO1_5 := gA (show Kd.V k34 34 w w.heap.size (fun k_ => ((P0_3_ k_ ∨ P0_4_ k_ ∨ P0_5_ k_ ∨ P1_3_ k_ ∨ P1_4_ k_ ∨ P1_5_ k_) ∨ w.heap.size ≤ k_)) (.slice A1_5 l1_5.length c1_5) l1_5 from Kd.V_mono hs1_5 (fun k_ hk => .inl (.inr (.inr (.inr (.inr (.inr hk)))))))
 have HB := gA (Below.refl w.heap.size w)
 have H : (some (5, 0, (⟨#[]⟩ : ByteArray), ([] : List Int), ([] : List (S52)), (([(⟨a0_0, a0_1, a0_2, (⟨l0_3, l0_4⟩ : S25), l0_5, a0_6⟩ : S34), (⟨a1_0, a1_1, a1_2, (⟨l1_3, l1_4⟩ : S25), l1_5, a1_6⟩ : S34)] : List (S34))), 0)) = some (r1, r2, r3, r4, r5, r6, r7) := h
 clear h
 obtain ⟨y120, hy120⟩ : ∃ y_ : List (S34), y_ = (([(⟨a0_0, a0_1, a0_2, (⟨l0_3, l0_4⟩ : S25), l0_5, a0_6⟩ : S34), (⟨a1_0, a1_1, a1_2, (⟨l1_3, l1_4⟩ : S25), l1_5, a1_6⟩ : S34)] : List (S34))) := ⟨_, rfl⟩
 replace H : (some (5, 0, (⟨#[]⟩ : ByteArray), ([] : List Int), ([] : List (S52)), y120, 0)) = some (r1, r2, r3, r4, r5, r6, r7) := by first | (rw [hy120]; with_reducible exact H) | (have H2_ := (Option.bind_some _ _).symm.trans H; rw [hy120]; with_reducible exact H2_) | (have H2_ := (Option.bind_some _ _).symm.trans H; with_reducible exact H2_) | with_reducible exact H | (rw [hy120]; exact H) | exact H
 have Ny120 := gA hy120
 clear hy120
 simp only [Option.some.injEq, Prod.mk.injEq] at H
 obtain ⟨rfl, rfl, rfl, rfl, rfl, rfl, rfl⟩ := H
 go_enter Try.func21, Try.ntmps21
 go_wp2_with (first | ((with_reducible refine gate_dst (N := 2) rfl ?_); refine box_event ?hg (N := 2) ?hd (cs := #[.int .i64 a0_0, .int .i64 a0_1, .string a0_2, .slice A0_3 l0_3.length c0_3, .slice A0_4 l0_4.length c0_4, .slice A0_5 l0_5.length c0_5, .int .i64 a0_6]) (t := 34) ?hr ?_; (case hd => rfl); (case hg => rfl); (case hr => first | (go_simp; done) | (go_simp; rfl)); intro gb117 hg w3 hbox hb; replace HO0_3 := gA (Kd.V_below (Kd.V_elderB (gV HO0_3) gb117 (Nat.le_of_eq hg.symm)) hb); replace HO0_4 := gA (Kd.V_below (Kd.V_elderB (gV HO0_4) gb117 (Nat.le_of_eq hg.symm)) hb); replace HO0_5 := gA (Kd.V_below (Kd.V_elderB (gV HO0_5) gb117 (Nat.le_of_eq hg.symm)) hb); replace HO1_3 := gA (Kd.V_below (Kd.V_elderB (gV HO1_3) gb117 (Nat.le_of_eq hg.symm)) hb); replace HO1_4 := gA (Kd.V_below (Kd.V_elderB (gV HO1_4) gb117 (Nat.le_of_eq hg.symm)) hb); replace HO1_5 := gA (Kd.V_below (Kd.V_elderB (gV HO1_5) gb117 (Nat.le_of_eq hg.symm)) hb); have BK117 := gA (hbox); have GW117 := gA ((by rw [hg]; exact (below_size (gB HB)) : w.heap.size ≤ gb117)); have GE117 := gA ((by rw [hg]; exact (below_size (gB HB)) : w.heap.size ≤ gb117)); replace HB := gA (below_step (gB HB) hb); clear hb hbox hg) | ((with_reducible refine gate_dst (N := 3) rfl ?_); refine box_event ?hg (N := 3) ?hd (cs := #[.int .i64 a1_0, .int .i64 a1_1, .string a1_2, .slice A1_3 l1_3.length c1_3, .slice A1_4 l1_4.length c1_4, .slice A1_5 l1_5.length c1_5, .int .i64 a1_6]) (t := 34) ?hr ?_; (case hd => rfl); (case hg => rfl); (case hr => first | (go_simp; done) | (go_simp; rfl)); intro gb118 hg w4 hbox hb; replace HO0_3 := gA (Kd.V_below (Kd.V_elderB (gV HO0_3) gb118 (Nat.le_of_eq hg.symm)) hb); replace HO0_4 := gA (Kd.V_below (Kd.V_elderB (gV HO0_4) gb118 (Nat.le_of_eq hg.symm)) hb); replace HO0_5 := gA (Kd.V_below (Kd.V_elderB (gV HO0_5) gb118 (Nat.le_of_eq hg.symm)) hb); replace HO1_3 := gA (Kd.V_below (Kd.V_elderB (gV HO1_3) gb118 (Nat.le_of_eq hg.symm)) hb); replace HO1_4 := gA (Kd.V_below (Kd.V_elderB (gV HO1_4) gb118 (Nat.le_of_eq hg.symm)) hb); replace HO1_5 := gA (Kd.V_below (Kd.V_elderB (gV HO1_5) gb118 (Nat.le_of_eq hg.symm)) hb); have BK118 := gA (hbox); have GW118 := gA ((by rw [hg]; exact (below_size (gB HB)) : w.heap.size ≤ gb118)); have GE118 := gA ((by rw [hg]; exact (below_size (gB HB)) : w.heap.size ≤ gb118)); replace HB := gA (below_step (gB HB) hb); have NB117_118 := gA ((by rw [hg]; exact Nat.ne_of_lt (blk_lt (gK BK117)) : gb117 ≠ gb118)); have NB118_117 := gA ((by rw [hg]; exact Nat.ne_of_gt (blk_lt (gK BK117)) : gb118 ≠ gb117)); replace BK117 := gA (blk_below (gK BK117) hb); clear hb hbox hg) | ((with_reducible refine gate_dst (N := 4) rfl ?_); refine box_event ?hg (N := 4) ?hd (cs := #[.int .i64 0, .int .i64 0, .string (⟨#[]⟩ : ByteArray), .slice none 0 0, .slice none 0 0, .slice none 0 0, .int .i64 0]) (t := 34) ?hr ?_; (case hd => rfl); (case hg => rfl); (case hr => first | (go_simp; done) | (go_simp; rfl)); intro gb119 hg w5 hbox hb; replace HO0_3 := gA (Kd.V_below (Kd.V_elderB (gV HO0_3) gb119 (Nat.le_of_eq hg.symm)) hb); replace HO0_4 := gA (Kd.V_below (Kd.V_elderB (gV HO0_4) gb119 (Nat.le_of_eq hg.symm)) hb); replace HO0_5 := gA (Kd.V_below (Kd.V_elderB (gV HO0_5) gb119 (Nat.le_of_eq hg.symm)) hb); replace HO1_3 := gA (Kd.V_below (Kd.V_elderB (gV HO1_3) gb119 (Nat.le_of_eq hg.symm)) hb); replace HO1_4 := gA (Kd.V_below (Kd.V_elderB (gV HO1_4) gb119 (Nat.le_of_eq hg.symm)) hb); replace HO1_5 := gA (Kd.V_below (Kd.V_elderB (gV HO1_5) gb119 (Nat.le_of_eq hg.symm)) hb); have BK119 := gA (hbox); have GW119 := gA ((by rw [hg]; exact (below_size (gB HB)) : w.heap.size ≤ gb119)); have GE119 := gA ((by rw [hg]; exact (below_size (gB HB)) : w.heap.size ≤ gb119)); replace HB := gA (below_step (gB HB) hb); have NB117_119 := gA ((by rw [hg]; exact Nat.ne_of_lt (blk_lt (gK BK117)) : gb117 ≠ gb119)); have NB119_117 := gA ((by rw [hg]; exact Nat.ne_of_gt (blk_lt (gK BK117)) : gb119 ≠ gb117)); replace BK117 := gA (blk_below (gK BK117) hb); have NB118_119 := gA ((by rw [hg]; exact Nat.ne_of_lt (blk_lt (gK BK118)) : gb118 ≠ gb119)); have NB119_118 := gA ((by rw [hg]; exact Nat.ne_of_gt (blk_lt (gK BK118)) : gb119 ≠ gb118)); replace BK118 := gA (blk_below (gK BK118) hb); clear hb hbox hg; have hnb6 := NB117_118.out; have hnc6 := NB118_117.out; have hnb7 := NB117_119.out; have hnc7 := NB119_117.out; have hcz8_0 := gz BK117 0 rfl; have hcz8_1 := gz BK117 1 rfl; have hcz8_2 := gz BK117 2 rfl; have hcz8_3 := gz BK117 3 rfl; have hcz8_4 := gz BK117 4 rfl; have hcz8_5 := gz BK117 5 rfl; have hcz8_6 := gz BK117 6 rfl; have hfz8_0 := blk_frozen BK117.out 0; have hfz8_1 := blk_frozen BK117.out 1; have hfz8_2 := blk_frozen BK117.out 2; have hfz8_3 := blk_frozen BK117.out 3; have hfz8_4 := blk_frozen BK117.out 4; have hfz8_5 := blk_frozen BK117.out 5; have hfz8_6 := blk_frozen BK117.out 6; have hnb9 := NB118_119.out; have hnc9 := NB119_118.out; have hcz10_0 := gz BK118 0 rfl; have hcz10_1 := gz BK118 1 rfl; have hcz10_2 := gz BK118 2 rfl; have hcz10_3 := gz BK118 3 rfl; have hcz10_4 := gz BK118 4 rfl; have hcz10_5 := gz BK118 5 rfl; have hcz10_6 := gz BK118 6 rfl; have hfz10_0 := blk_frozen BK118.out 0; have hfz10_1 := blk_frozen BK118.out 1; have hfz10_2 := blk_frozen BK118.out 2; have hfz10_3 := blk_frozen BK118.out 3; have hfz10_4 := blk_frozen BK118.out 4; have hfz10_5 := blk_frozen BK118.out 5; have hfz10_6 := blk_frozen BK118.out 6) | ((with_reducible refine gate_dst (N := 7) rfl ?_); refine Kd.N_lit k34 _ 34 ?hg (N' := 7) ?hd (xs := ([(⟨a0_0, a0_1, a0_2, (⟨l0_3, l0_4⟩ : S25), l0_5, a0_6⟩ : S34), (⟨a1_0, a1_1, a1_2, (⟨l1_3, l1_4⟩ : S25), l1_5, a1_6⟩ : S34)] : List (S34))) (inner := [.int .i64 a0_0, .int .i64 a0_1, .string a0_2, .slice A0_3 l0_3.length c0_3, .slice A0_4 l0_4.length c0_4, .slice A0_5 l0_5.length c0_5, .int .i64 a0_6, .int .i64 a1_0, .int .i64 a1_1, .string a1_2, .slice A1_3 l1_3.length c1_3, .slice A1_4 l1_4.length c1_4, .slice A1_5 l1_5.length c1_5, .int .i64 a1_6]) (ok := (fun k_ => ((P0_3_ k_ ∨ P0_4_ k_ ∨ P0_5_ k_ ∨ P1_3_ k_ ∨ P1_4_ k_ ∨ P1_5_ k_) ∨ w.heap.size ≤ k_) ∧ k_ ≠ gb117 ∧ k_ ≠ gb118 ∧ k_ ≠ gb119)) (okp := (fun k_ => ((P0_3_ k_ ∨ P0_4_ k_ ∨ P0_5_ k_ ∨ P1_3_ k_ ∨ P1_4_ k_ ∨ P1_5_ k_) ∨ w.heap.size ≤ k_) ∧ k_ ≠ gb117 ∧ k_ ≠ gb118 ∧ k_ ≠ gb119)) ?hr ?hp (fun _ hk => hk) ((show ∀ k_, w5.heap.size ≤ k_ → (fun k_ => ((P0_3_ k_ ∨ P0_4_ k_ ∨ P0_5_ k_ ∨ P1_3_ k_ ∨ P1_4_ k_ ∨ P1_5_ k_) ∨ w.heap.size ≤ k_) ∧ k_ ≠ gb117 ∧ k_ ≠ gb118 ∧ k_ ≠ gb119) k_ from fun k_ hk => ⟨(.inr (Nat.le_trans (below_size (gB HB)) hk)), Kd.freshB (gK BK117) k_ hk, Kd.freshB (gK BK118) k_ hk, Kd.freshB (g := gb119) (o := .cells #[.int .i64 0, .int .i64 0, .string (⟨#[]⟩ : ByteArray), .slice none 0 0, .slice none 0 0, .slice none 0 0, .int .i64 0] 34 (0, 0)) (gK BK119) k_ hk⟩) _ (Nat.le_refl _)) (Below.refl _ _) (Nat.le_refl _) (by simp) ?_; (case hd => rfl); (case hg => rfl); (case hr => first | (go_simp; done) | (go_simp; rfl)); (case hp => exact (Reps.c7 (show Kd.FK k34 _ _ (⟨a0_0, a0_1, a0_2, (⟨l0_3, l0_4⟩ : S25), l0_5, a0_6⟩ : S34) [.int .i64 a0_0, .int .i64 a0_1, .string a0_2, .slice A0_3 l0_3.length c0_3, .slice A0_4 l0_4.length c0_4, .slice A0_5 l0_5.length c0_5, .int .i64 a0_6] from (k34_mkF _ _ (⟨a0_0, a0_1, a0_2, (⟨l0_3, l0_4⟩ : S25), l0_5, a0_6⟩ : S34) (Kd.V_reads' (Kd.V_mono (ok' := (fun k_ => ((P0_3_ k_ ∨ P0_4_ k_ ∨ P0_5_ k_ ∨ P1_3_ k_ ∨ P1_4_ k_ ∨ P1_5_ k_) ∨ w.heap.size ≤ k_) ∧ k_ ≠ gb117 ∧ k_ ≠ gb118 ∧ k_ ≠ gb119)) (HO0_3.out) (fun k_ hk => ⟨hk.1.1.1, ⟨hk.1.1.2, ⟨hk.1.2, hk.2⟩⟩⟩))).2.1 (Kd.V_F (Kd.V_mono (ok' := (fun k_ => ((P0_3_ k_ ∨ P0_4_ k_ ∨ P0_5_ k_ ∨ P1_3_ k_ ∨ P1_4_ k_ ∨ P1_5_ k_) ∨ w.heap.size ≤ k_) ∧ k_ ≠ gb117 ∧ k_ ≠ gb118 ∧ k_ ≠ gb119)) (HO0_3.out) (fun k_ hk => ⟨hk.1.1.1, ⟨hk.1.1.2, ⟨hk.1.2, hk.2⟩⟩⟩))) (Kd.V_reads' (Kd.V_mono (ok' := (fun k_ => ((P0_3_ k_ ∨ P0_4_ k_ ∨ P0_5_ k_ ∨ P1_3_ k_ ∨ P1_4_ k_ ∨ P1_5_ k_) ∨ w.heap.size ≤ k_) ∧ k_ ≠ gb117 ∧ k_ ≠ gb118 ∧ k_ ≠ gb119)) (HO0_4.out) (fun k_ hk => ⟨hk.1.1.1, ⟨hk.1.1.2, ⟨hk.1.2, hk.2⟩⟩⟩))).2.1 (Kd.V_F (Kd.V_mono (ok' := (fun k_ => ((P0_3_ k_ ∨ P0_4_ k_ ∨ P0_5_ k_ ∨ P1_3_ k_ ∨ P1_4_ k_ ∨ P1_5_ k_) ∨ w.heap.size ≤ k_) ∧ k_ ≠ gb117 ∧ k_ ≠ gb118 ∧ k_ ≠ gb119)) (HO0_4.out) (fun k_ hk => ⟨hk.1.1.1, ⟨hk.1.1.2, ⟨hk.1.2, hk.2⟩⟩⟩))) (Kd.V_reads' (Kd.V_mono (ok' := (fun k_ => ((P0_3_ k_ ∨ P0_4_ k_ ∨ P0_5_ k_ ∨ P1_3_ k_ ∨ P1_4_ k_ ∨ P1_5_ k_) ∨ w.heap.size ≤ k_) ∧ k_ ≠ gb117 ∧ k_ ≠ gb118 ∧ k_ ≠ gb119)) (HO0_5.out) (fun k_ hk => ⟨hk.1.1.1, ⟨hk.1.1.2, ⟨hk.1.2, hk.2⟩⟩⟩))).2.1 (Kd.V_F (Kd.V_mono (ok' := (fun k_ => ((P0_3_ k_ ∨ P0_4_ k_ ∨ P0_5_ k_ ∨ P1_3_ k_ ∨ P1_4_ k_ ∨ P1_5_ k_) ∨ w.heap.size ≤ k_) ∧ k_ ≠ gb117 ∧ k_ ≠ gb118 ∧ k_ ≠ gb119)) (HO0_5.out) (fun k_ hk => ⟨hk.1.1.1, ⟨hk.1.1.2, ⟨hk.1.2, hk.2⟩⟩⟩))))) (Reps.c7 (show Kd.FK k34 _ _ (⟨a1_0, a1_1, a1_2, (⟨l1_3, l1_4⟩ : S25), l1_5, a1_6⟩ : S34) [.int .i64 a1_0, .int .i64 a1_1, .string a1_2, .slice A1_3 l1_3.length c1_3, .slice A1_4 l1_4.length c1_4, .slice A1_5 l1_5.length c1_5, .int .i64 a1_6] from (k34_mkF _ _ (⟨a1_0, a1_1, a1_2, (⟨l1_3, l1_4⟩ : S25), l1_5, a1_6⟩ : S34) (Kd.V_reads' (Kd.V_mono (ok' := (fun k_ => ((P0_3_ k_ ∨ P0_4_ k_ ∨ P0_5_ k_ ∨ P1_3_ k_ ∨ P1_4_ k_ ∨ P1_5_ k_) ∨ w.heap.size ≤ k_) ∧ k_ ≠ gb117 ∧ k_ ≠ gb118 ∧ k_ ≠ gb119)) (HO1_3.out) (fun k_ hk => ⟨hk.1.1.1, ⟨hk.1.1.2, ⟨hk.1.2, hk.2⟩⟩⟩))).2.1 (Kd.V_F (Kd.V_mono (ok' := (fun k_ => ((P0_3_ k_ ∨ P0_4_ k_ ∨ P0_5_ k_ ∨ P1_3_ k_ ∨ P1_4_ k_ ∨ P1_5_ k_) ∨ w.heap.size ≤ k_) ∧ k_ ≠ gb117 ∧ k_ ≠ gb118 ∧ k_ ≠ gb119)) (HO1_3.out) (fun k_ hk => ⟨hk.1.1.1, ⟨hk.1.1.2, ⟨hk.1.2, hk.2⟩⟩⟩))) (Kd.V_reads' (Kd.V_mono (ok' := (fun k_ => ((P0_3_ k_ ∨ P0_4_ k_ ∨ P0_5_ k_ ∨ P1_3_ k_ ∨ P1_4_ k_ ∨ P1_5_ k_) ∨ w.heap.size ≤ k_) ∧ k_ ≠ gb117 ∧ k_ ≠ gb118 ∧ k_ ≠ gb119)) (HO1_4.out) (fun k_ hk => ⟨hk.1.1.1, ⟨hk.1.1.2, ⟨hk.1.2, hk.2⟩⟩⟩))).2.1 (Kd.V_F (Kd.V_mono (ok' := (fun k_ => ((P0_3_ k_ ∨ P0_4_ k_ ∨ P0_5_ k_ ∨ P1_3_ k_ ∨ P1_4_ k_ ∨ P1_5_ k_) ∨ w.heap.size ≤ k_) ∧ k_ ≠ gb117 ∧ k_ ≠ gb118 ∧ k_ ≠ gb119)) (HO1_4.out) (fun k_ hk => ⟨hk.1.1.1, ⟨hk.1.1.2, ⟨hk.1.2, hk.2⟩⟩⟩))) (Kd.V_reads' (Kd.V_mono (ok' := (fun k_ => ((P0_3_ k_ ∨ P0_4_ k_ ∨ P0_5_ k_ ∨ P1_3_ k_ ∨ P1_4_ k_ ∨ P1_5_ k_) ∨ w.heap.size ≤ k_) ∧ k_ ≠ gb117 ∧ k_ ≠ gb118 ∧ k_ ≠ gb119)) (HO1_5.out) (fun k_ hk => ⟨hk.1.1.1, ⟨hk.1.1.2, ⟨hk.1.2, hk.2⟩⟩⟩))).2.1 (Kd.V_F (Kd.V_mono (ok' := (fun k_ => ((P0_3_ k_ ∨ P0_4_ k_ ∨ P0_5_ k_ ∨ P1_3_ k_ ∨ P1_4_ k_ ∨ P1_5_ k_) ∨ w.heap.size ≤ k_) ∧ k_ ≠ gb117 ∧ k_ ≠ gb118 ∧ k_ ≠ gb119)) (HO1_5.out) (fun k_ hk => ⟨hk.1.1.1, ⟨hk.1.1.2, ⟨hk.1.2, hk.2⟩⟩⟩))))) (Reps.none _ _)))); intro v121 w11 ho12 hb hg_ hnew_; clear hg_ hnew_; (first | rw [← Ny120.out] at ho12 | (simp only [Int.reduceToNat] at ho12; rw [← Ny120.out] at ho12)); replace HO0_3 := gA (Kd.V_elder' (gV HO0_3) (Kd.N_base ho12) hb); replace HO0_4 := gA (Kd.V_elder' (gV HO0_4) (Kd.N_base ho12) hb); replace HO0_5 := gA (Kd.V_elder' (gV HO0_5) (Kd.N_base ho12) hb); replace HO1_3 := gA (Kd.V_elder' (gV HO1_3) (Kd.N_base ho12) hb); replace HO1_4 := gA (Kd.V_elder' (gV HO1_4) (Kd.N_base ho12) hb); replace HO1_5 := gA (Kd.V_elder' (gV HO1_5) (Kd.N_base ho12) hb); have HO122 := gA (Kd.N_lower ho12 (below_size (gB HB))); replace BK117 := gA (blk_below (gK BK117) hb); replace BK118 := gA (blk_below (gK BK118) hb); replace BK119 := gA (blk_below (g := gb119) (o := .cells #[.int .i64 0, .int .i64 0, .string (⟨#[]⟩ : ByteArray), .slice none 0 0, .slice none 0 0, .slice none 0 0, .int .i64 0] 34 (0, 0)) (gK BK119) hb); replace HB := gA (below_step (gB HB) hb); clear hb ho12; obtain ⟨Ao13, co13, eo13⟩ := Kd.N_slice HO122.out; subst eo13; have hcz14_0 := gz BK119 0 rfl; have hcz14_1 := gz BK119 1 rfl; have hcz14_2 := gz BK119 2 rfl; have hcz14_3 := gz BK119 3 rfl; have hcz14_4 := gz BK119 4 rfl; have hcz14_5 := gz BK119 5 rfl; have hcz14_6 := gz BK119 6 rfl; have hfz14_0 := blk_frozen BK119.out 0; have hfz14_1 := blk_frozen BK119.out 1; have hfz14_2 := blk_frozen BK119.out 2; have hfz14_3 := blk_frozen BK119.out 3; have hfz14_4 := blk_frozen BK119.out 4; have hfz14_5 := blk_frozen BK119.out 5; have hfz14_6 := blk_frozen BK119.out 6))
 refine bodyPost_ret (results_cell_row rfl _ _ gb119 34 #[.int .i64 5, .int .i64 0, .string (⟨#[]⟩ : ByteArray), .slice none 0 0, .slice none 0 0, .slice Ao13 y120.length co13, .int .i64 0] (0, 0) _ rfl (by refine blk_put (cs := #[.int .i64 5, .int .i64 0, .string (⟨#[]⟩ : ByteArray), .slice none 0 0, .slice none 0 0, .slice Ao13 y120.length co13, .int .i64 0]) ?_ 6 _ rfl; refine blk_put (cs := #[.int .i64 5, .int .i64 0, .string (⟨#[]⟩ : ByteArray), .slice none 0 0, .slice none 0 0, .slice none 0 0, .int .i64 0]) ?_ 5 _ rfl; refine blk_put (cs := #[.int .i64 5, .int .i64 0, .string (⟨#[]⟩ : ByteArray), .slice none 0 0, .slice none 0 0, .slice none 0 0, .int .i64 0]) ?_ 4 _ rfl; refine blk_put (cs := #[.int .i64 5, .int .i64 0, .string (⟨#[]⟩ : ByteArray), .slice none 0 0, .slice none 0 0, .slice none 0 0, .int .i64 0]) ?_ 3 _ rfl; refine blk_put (cs := #[.int .i64 5, .int .i64 0, .string (⟨#[]⟩ : ByteArray), .slice none 0 0, .slice none 0 0, .slice none 0 0, .int .i64 0]) ?_ 2 _ rfl; refine blk_put (cs := #[.int .i64 5, .int .i64 0, .string (⟨#[]⟩ : ByteArray), .slice none 0 0, .slice none 0 0, .slice none 0 0, .int .i64 0]) ?_ 1 _ rfl; refine blk_put (cs := #[.int .i64 0, .int .i64 0, .string (⟨#[]⟩ : ByteArray), .slice none 0 0, .slice none 0 0, .slice none 0 0, .int .i64 0]) ?_ 0 _ rfl; exact gK BK119) Try.underlying34 rfl (by kernel_rfl)) rfl ?_
 exact ⟨_, _, _, rfl, by first | exact Kd.R_nil _ _ _ _ _ | exact Kd.N_nil _ _ _ _ _ | exact Kd.V_nil _ _ _ _ _ | exact Kd.Q_nil _ _ _ _ _ | exact Kd.S_nil _ _ _ _ _, by first | exact Kd.R_nil _ _ _ _ _ | exact Kd.N_nil _ _ _ _ _ | exact Kd.V_nil _ _ _ _ _ | exact Kd.Q_nil _ _ _ _ _ | exact Kd.S_nil _ _ _ _ _, Kd.N_mono (Kd.N_far (p := ⟨gb119, 6, none⟩) (Kd.N_far (p := ⟨gb119, 5, none⟩) (Kd.N_far (p := ⟨gb119, 4, none⟩) (Kd.N_far (p := ⟨gb119, 3, none⟩) (Kd.N_far (p := ⟨gb119, 2, none⟩) (Kd.N_far (p := ⟨gb119, 1, none⟩) (Kd.N_far (p := ⟨gb119, 0, none⟩) (Kd.N_mono HO122.out (fun k_ hk => (⟨hk, hk.2.2.2⟩ : _ ∧ k_ ≠ gb119))) (fun _ hk => hk.2) (.int .i64 5)) (fun _ hk => hk.2) (.int .i64 0)) (fun _ hk => hk.2) (.string (⟨#[]⟩ : ByteArray))) (fun _ hk => hk.2) (.slice none 0 0)) (fun _ hk => hk.2) (.slice none 0 0)) (fun _ hk => hk.2) (.slice Ao13 y120.length co13)) (fun _ hk => hk.2) (.int .i64 0)) (fun _ hk => ⟨hk.1.1, ⟨(by simp [Value.ownBlock]), (by simp [Value.ownBlock])⟩⟩), by repeat first | exact gB HB | refine below_set ?_ GE117.out | refine below_set ?_ GE118.out | refine below_set ?_ GE119.out⟩
def triglyphref10_Prim.f (a0 : Int) : Option (Int × Int × ByteArray × List Int × (List (S52)) × (List (S34)) × Int) := some (21, a0, (⟨#[]⟩ : ByteArray), ([] : List Int), ([] : List (S52)), ([] : List (S34)), 0)
set_option maxHeartbeats 8000000 in
set_option maxRecDepth 100000 in
theorem triglyphref10_Prim.calls (a0 : Int) (r1 : Int) (r2 : Int) (r3 : ByteArray) (r4 : List Int) (r5 : List (S52)) (r6 : List (S34)) (r7 : Int) (w : World) (h : triglyphref10_Prim.f a0 = some (r1, r2, r3, r4, r5, r6, r7)) :
  Calls Try.prog 22 #[.int .i64 a0] w fun e w' => ∃ v3_ v4_ v5_ : Value, e = .returned (.agg #[.int .i64 r1, .int .i64 r2, .string r3, v3_, v4_, v5_, .int .i64 r7]) ∧ Kd.R (Kd.int .i64) 3 w' w.heap.size (fun _ => True) v3_ r4 ∧ Kd.R k52 52 w' w.heap.size (fun k_ => some k_ ≠ (v3_ : Value).ownBlock) v4_ r5 ∧ Kd.R k34 34 w' w.heap.size (fun k_ => some k_ ≠ (v3_ : Value).ownBlock ∧ some k_ ≠ (v4_ : Value).ownBlock) v5_ r6 ∧ Below w.heap.size w w' := by
 have hu34 := Try.underlying34
 have HB := gA (Below.refl w.heap.size w)
 have H : (some (21, a0, (⟨#[]⟩ : ByteArray), ([] : List Int), ([] : List (S52)), ([] : List (S34)), 0)) = some (r1, r2, r3, r4, r5, r6, r7) := h
 clear h
 simp only [Option.some.injEq, Prod.mk.injEq] at H
 obtain ⟨rfl, rfl, rfl, rfl, rfl, rfl, rfl⟩ := H
 go_enter Try.func22, Try.ntmps22
 go_wp2_with (first | ((with_reducible refine gate_dst (N := 2) rfl ?_); refine box_event ?hg (N := 2) ?hd (cs := #[.int .i64 0, .int .i64 0, .string (⟨#[]⟩ : ByteArray), .slice none 0 0, .slice none 0 0, .slice none 0 0, .int .i64 0]) (t := 34) ?hr ?_; (case hd => rfl); (case hg => rfl); (case hr => first | (go_simp; done) | (go_simp; rfl)); intro gb123 hg w2 hbox hb; have BK123 := gA (hbox); have GW123 := gA ((by rw [hg]; exact (below_size (gB HB)) : w.heap.size ≤ gb123)); have GE123 := gA ((by rw [hg]; exact (below_size (gB HB)) : w.heap.size ≤ gb123)); replace HB := gA (below_step (gB HB) hb); clear hb hbox hg; have hcz3_0 := gz BK123 0 rfl; have hcz3_1 := gz BK123 1 rfl; have hcz3_2 := gz BK123 2 rfl; have hcz3_3 := gz BK123 3 rfl; have hcz3_4 := gz BK123 4 rfl; have hcz3_5 := gz BK123 5 rfl; have hcz3_6 := gz BK123 6 rfl; have hfz3_0 := blk_frozen BK123.out 0; have hfz3_1 := blk_frozen BK123.out 1; have hfz3_2 := blk_frozen BK123.out 2; have hfz3_3 := blk_frozen BK123.out 3; have hfz3_4 := blk_frozen BK123.out 4; have hfz3_5 := blk_frozen BK123.out 5; have hfz3_6 := blk_frozen BK123.out 6))
 refine bodyPost_ret (results_cell_row rfl _ _ gb123 34 #[.int .i64 21, .int .i64 a0, .string (⟨#[]⟩ : ByteArray), .slice none 0 0, .slice none 0 0, .slice none 0 0, .int .i64 0] (0, 0) _ rfl (by refine blk_put (cs := #[.int .i64 21, .int .i64 a0, .string (⟨#[]⟩ : ByteArray), .slice none 0 0, .slice none 0 0, .slice none 0 0, .int .i64 0]) ?_ 6 _ rfl; refine blk_put (cs := #[.int .i64 21, .int .i64 a0, .string (⟨#[]⟩ : ByteArray), .slice none 0 0, .slice none 0 0, .slice none 0 0, .int .i64 0]) ?_ 5 _ rfl; refine blk_put (cs := #[.int .i64 21, .int .i64 a0, .string (⟨#[]⟩ : ByteArray), .slice none 0 0, .slice none 0 0, .slice none 0 0, .int .i64 0]) ?_ 4 _ rfl; refine blk_put (cs := #[.int .i64 21, .int .i64 a0, .string (⟨#[]⟩ : ByteArray), .slice none 0 0, .slice none 0 0, .slice none 0 0, .int .i64 0]) ?_ 3 _ rfl; refine blk_put (cs := #[.int .i64 21, .int .i64 a0, .string (⟨#[]⟩ : ByteArray), .slice none 0 0, .slice none 0 0, .slice none 0 0, .int .i64 0]) ?_ 2 _ rfl; refine blk_put (cs := #[.int .i64 21, .int .i64 0, .string (⟨#[]⟩ : ByteArray), .slice none 0 0, .slice none 0 0, .slice none 0 0, .int .i64 0]) ?_ 1 _ rfl; refine blk_put (cs := #[.int .i64 0, .int .i64 0, .string (⟨#[]⟩ : ByteArray), .slice none 0 0, .slice none 0 0, .slice none 0 0, .int .i64 0]) ?_ 0 _ rfl; exact gK BK123) Try.underlying34 rfl (by kernel_rfl)) rfl ?_
 exact ⟨_, _, _, rfl, by first | exact Kd.R_nil _ _ _ _ _ | exact Kd.N_nil _ _ _ _ _ | exact Kd.V_nil _ _ _ _ _ | exact Kd.Q_nil _ _ _ _ _ | exact Kd.S_nil _ _ _ _ _, by first | exact Kd.R_nil _ _ _ _ _ | exact Kd.N_nil _ _ _ _ _ | exact Kd.V_nil _ _ _ _ _ | exact Kd.Q_nil _ _ _ _ _ | exact Kd.S_nil _ _ _ _ _, by first | exact Kd.R_nil _ _ _ _ _ | exact Kd.N_nil _ _ _ _ _ | exact Kd.V_nil _ _ _ _ _ | exact Kd.Q_nil _ _ _ _ _ | exact Kd.S_nil _ _ _ _ _, by repeat first | exact gB HB | refine below_set ?_ GE123.out⟩
def triglyphref10_Lit.f (l0_0 : List Int) (l0_1 : List (S52)) : Option (Int × Int × ByteArray × List Int × (List (S52)) × (List (S34)) × Int) := some (1, 0, (⟨#[]⟩ : ByteArray), l0_0, l0_1, ([] : List (S34)), 0)
set_option maxHeartbeats 8000000 in
set_option maxRecDepth 100000 in
theorem triglyphref10_Lit.calls (P0_0_ : Nat → Prop) (u9000_ : Value) (l0_0 : List Int) (P0_1_ : Nat → Prop) (A0_1 : Option Addr) (c0_1 : Nat) (l0_1 : List (S52)) (r1 : Int) (r2 : Int) (r3 : ByteArray) (r4 : List Int) (r5 : List (S52)) (r6 : List (S34)) (r7 : Int) (w0 w : World) (hB : Below w0.heap.size w0 w) (ho0_0 : Kd.R (Kd.int .i64) 3 w w0.heap.size P0_0_ u9000_ l0_0) (hs0_1 : Kd.V k52 52 w w0.heap.size (fun k_ => P0_1_ k_ ∧ some k_ ≠ (u9000_ : Value).ownBlock) (.slice A0_1 l0_1.length c0_1) l0_1) (h : triglyphref10_Lit.f l0_0 l0_1 = some (r1, r2, r3, r4, r5, r6, r7)) :
  Calls Try.prog 28 #[.agg #[u9000_, .slice A0_1 l0_1.length c0_1]] w fun e w' => ∃ v3_ v4_ v5_ : Value, e = .returned (.agg #[.int .i64 r1, .int .i64 r2, .string r3, v3_, v4_, v5_, .int .i64 r7]) ∧ Kd.R (Kd.int .i64) 3 w' w0.heap.size (fun k_ => (P0_0_ k_ ∨ w.heap.size ≤ k_)) v3_ r4 ∧ Kd.V k52 52 w' w0.heap.size (fun k_ => ((P0_0_ k_ ∨ P0_1_ k_) ∨ w.heap.size ≤ k_) ∧ some k_ ≠ (v3_ : Value).ownBlock ∧ some k_ ≠ (v5_ : Value).ownBlock) v4_ r5 ∧ Kd.N k34 34 w' w.heap.size (fun k_ => ((P0_0_ k_ ∨ P0_1_ k_) ∨ w.heap.size ≤ k_) ∧ some k_ ≠ (v3_ : Value).ownBlock) v5_ r6 ∧ Below w0.heap.size w0 w' ∧ Kept w w' (fun k_ => P0_0_ k_) := by
 have hu25 := Try.underlying25
 have hu34 := Try.underlying34
 have HO0_0 := gA (show Kd.R (Kd.int .i64) 3 w w0.heap.size (fun k_ => (P0_0_ k_ ∨ w.heap.size ≤ k_)) u9000_ l0_0 from Kd.R_mono ho0_0 (fun k_ hk => (.inl hk)))
 have HO0_1 := gA (show Kd.V k52 52 w w0.heap.size (fun k_ => ((P0_0_ k_ ∨ P0_1_ k_) ∨ w.heap.size ≤ k_) ∧ some k_ ≠ (u9000_ : Value).ownBlock) (.slice A0_1 l0_1.length c0_1) l0_1 from Kd.V_mono hs0_1 (fun k_ hk => ⟨.inl (.inr hk.1), hk.2⟩))
 have HK := gA (Kept.refl w (fun k_ => P0_0_ k_))
 have HW0 := gA hB.size
 have HB := gA hB
 clear hB
 have H : (some (1, 0, (⟨#[]⟩ : ByteArray), l0_0, l0_1, ([] : List (S34)), 0)) = some (r1, r2, r3, r4, r5, r6, r7) := h
 clear h
 simp only [Option.some.injEq, Prod.mk.injEq] at H
 obtain ⟨rfl, rfl, rfl, rfl, rfl, rfl, rfl⟩ := H
 obtain ⟨Ao2, co2, eo2⟩ := Kd.R_slice HO0_0.out
 subst eo2
 go_enter Try.func28, Try.ntmps28
 go_wp2_with (first | ((with_reducible refine gate_dst (N := 1) rfl ?_); refine box_event ?hg (N := 1) ?hd (cs := #[.slice Ao2 l0_0.length co2, .slice A0_1 l0_1.length c0_1]) (t := 25) ?hr ?_; (case hd => rfl); (case hg => rfl); (case hr => first | (go_simp; done) | (go_simp; rfl)); intro gb124 hg w3 hbox hb; replace HO0_0 := gA (Kd.R_below (gR HO0_0) hb); replace HO0_1 := gA (Kd.V_below (Kd.V_elderB (gV HO0_1) gb124 (Nat.le_of_eq hg.symm)) hb); have BK124 := gA (hbox); have GW124 := gA ((by rw [hg]; exact (by first | exact HK.out.1 | exact (show Kept w _ (fun k_ => P0_0_ k_) from by repeat (first | (with_reducible first | exact HK.out | apply Kept.alloc | apply Kept.drewN | apply Kept.drew) | exact HK.out)).1) : w.heap.size ≤ gb124)); replace HK := gA (Kept.below (S := (fun k_ => P0_0_ k_)) (by repeat (first | (with_reducible first | exact HK.out | apply Kept.alloc | apply Kept.drewN | apply Kept.drew) | exact HK.out)) hb); have GE124 := gA ((by rw [hg]; exact (below_size (gB HB)) : w0.heap.size ≤ gb124)); replace HB := gA (below_step (gB HB) hb); clear hb hbox hg) | ((with_reducible refine gate_dst (N := 2) rfl ?_); refine box_event ?hg (N := 2) ?hd (cs := #[.int .i64 0, .int .i64 0, .string (⟨#[]⟩ : ByteArray), .slice none 0 0, .slice none 0 0, .slice none 0 0, .int .i64 0]) (t := 34) ?hr ?_; (case hd => rfl); (case hg => rfl); (case hr => first | (go_simp; done) | (go_simp; rfl)); intro gb125 hg w4 hbox hb; replace HO0_0 := gA (Kd.R_below (gR HO0_0) hb); replace HO0_1 := gA (Kd.V_below (Kd.V_elderB (gV HO0_1) gb125 (Nat.le_of_eq hg.symm)) hb); have BK125 := gA (hbox); have GW125 := gA ((by rw [hg]; exact (by first | exact HK.out.1 | exact (show Kept w _ (fun k_ => P0_0_ k_) from by repeat (first | (with_reducible first | exact HK.out | apply Kept.alloc | apply Kept.drewN | apply Kept.drew | refine Kept.setCell ?_ (.inr GW124.out) _) | exact HK.out)).1) : w.heap.size ≤ gb125)); replace HK := gA (Kept.below (S := (fun k_ => P0_0_ k_)) (by repeat (first | (with_reducible first | exact HK.out | apply Kept.alloc | apply Kept.drewN | apply Kept.drew | refine Kept.setCell ?_ (.inr GW124.out) _) | exact HK.out)) hb); have GE125 := gA ((by rw [hg]; exact (below_size (gB HB)) : w0.heap.size ≤ gb125)); replace HB := gA (below_step (gB HB) hb); have NB124_125 := gA ((by rw [hg]; exact Nat.ne_of_lt (blk_lt (gK BK124)) : gb124 ≠ gb125)); have NB125_124 := gA ((by rw [hg]; exact Nat.ne_of_gt (blk_lt (gK BK124)) : gb125 ≠ gb124)); replace BK124 := gA (blk_below (gK BK124) hb); clear hb hbox hg; have hnb5 := NB124_125.out; have hnc5 := NB125_124.out; obtain ⟨hcz6_0, hcz6_1, hfz6_0, hfz6_1⟩ := gz2 BK124; have hcz7_0 := gz BK125 0 rfl; have hcz7_1 := gz BK125 1 rfl; have hcz7_2 := gz BK125 2 rfl; have hcz7_3 := gz BK125 3 rfl; have hcz7_4 := gz BK125 4 rfl; have hcz7_5 := gz BK125 5 rfl; have hcz7_6 := gz BK125 6 rfl; have hfz7_0 := blk_frozen BK125.out 0; have hfz7_1 := blk_frozen BK125.out 1; have hfz7_2 := blk_frozen BK125.out 2; have hfz7_3 := blk_frozen BK125.out 3; have hfz7_4 := blk_frozen BK125.out 4; have hfz7_5 := blk_frozen BK125.out 5; have hfz7_6 := blk_frozen BK125.out 6))
 refine bodyPost_ret (results_cell_row rfl _ _ gb125 34 #[.int .i64 1, .int .i64 0, .string (⟨#[]⟩ : ByteArray), .slice Ao2 l0_0.length co2, .slice A0_1 l0_1.length c0_1, .slice none 0 0, .int .i64 0] (0, 0) _ rfl (by refine blk_put (cs := #[.int .i64 1, .int .i64 0, .string (⟨#[]⟩ : ByteArray), .slice Ao2 l0_0.length co2, .slice A0_1 l0_1.length c0_1, .slice none 0 0, .int .i64 0]) ?_ 6 _ rfl; refine blk_put (cs := #[.int .i64 1, .int .i64 0, .string (⟨#[]⟩ : ByteArray), .slice Ao2 l0_0.length co2, .slice A0_1 l0_1.length c0_1, .slice none 0 0, .int .i64 0]) ?_ 5 _ rfl; refine blk_put (cs := #[.int .i64 1, .int .i64 0, .string (⟨#[]⟩ : ByteArray), .slice Ao2 l0_0.length co2, .slice none 0 0, .slice none 0 0, .int .i64 0]) ?_ 4 _ rfl; refine blk_put (cs := #[.int .i64 1, .int .i64 0, .string (⟨#[]⟩ : ByteArray), .slice none 0 0, .slice none 0 0, .slice none 0 0, .int .i64 0]) ?_ 3 _ rfl; refine blk_put (cs := #[.int .i64 1, .int .i64 0, .string (⟨#[]⟩ : ByteArray), .slice none 0 0, .slice none 0 0, .slice none 0 0, .int .i64 0]) ?_ 2 _ rfl; refine blk_put (cs := #[.int .i64 1, .int .i64 0, .string (⟨#[]⟩ : ByteArray), .slice none 0 0, .slice none 0 0, .slice none 0 0, .int .i64 0]) ?_ 1 _ rfl; refine blk_put (cs := #[.int .i64 0, .int .i64 0, .string (⟨#[]⟩ : ByteArray), .slice none 0 0, .slice none 0 0, .slice none 0 0, .int .i64 0]) ?_ 0 _ rfl; exact gK BK125) Try.underlying34 rfl (by kernel_rfl)) rfl ?_
 exact ⟨_, _, _, rfl, Kd.R_mono (Kd.R_far (p := ⟨gb125, 6, none⟩) (Kd.R_far (p := ⟨gb125, 5, none⟩) (Kd.R_far (p := ⟨gb125, 4, none⟩) (Kd.R_far (p := ⟨gb125, 3, none⟩) (Kd.R_far (p := ⟨gb125, 2, none⟩) (Kd.R_far (p := ⟨gb125, 1, none⟩) (Kd.R_far (p := ⟨gb125, 0, none⟩) (Kd.R_types HO0_0.out BK125.out (by decide)) (fun _ hk => hk.2) (.int .i64 1)) (fun _ hk => hk.2) (.int .i64 0)) (fun _ hk => hk.2) (.string (⟨#[]⟩ : ByteArray))) (fun _ hk => hk.2) (.slice Ao2 l0_0.length co2)) (fun _ hk => hk.2) (.slice A0_1 l0_1.length c0_1)) (fun _ hk => hk.2) (.slice none 0 0)) (fun _ hk => hk.2) (.int .i64 0)) (fun _ hk => hk.1), Kd.V_mono (Kd.V_far (p := ⟨gb125, 6, none⟩) (Kd.V_far (p := ⟨gb125, 5, none⟩) (Kd.V_far (p := ⟨gb125, 4, none⟩) (Kd.V_far (p := ⟨gb125, 3, none⟩) (Kd.V_far (p := ⟨gb125, 2, none⟩) (Kd.V_far (p := ⟨gb125, 1, none⟩) (Kd.V_far (p := ⟨gb125, 0, none⟩) (Kd.V_mono HO0_1.out (fun k_ hk => (⟨hk, hk.2⟩ : _ ∧ k_ ≠ gb125))) (fun _ hk => hk.2) (.int .i64 1)) (fun _ hk => hk.2) (.int .i64 0)) (fun _ hk => hk.2) (.string (⟨#[]⟩ : ByteArray))) (fun _ hk => hk.2) (.slice Ao2 l0_0.length co2)) (fun _ hk => hk.2) (.slice A0_1 l0_1.length c0_1)) (fun _ hk => hk.2) (.slice none 0 0)) (fun _ hk => hk.2) (.int .i64 0)) (fun _ hk => ⟨hk.1.1.1.1, ⟨hk.1.1.1.2, (by simp [Value.ownBlock])⟩⟩), by first | exact Kd.R_nil _ _ _ _ _ | exact Kd.N_nil _ _ _ _ _ | exact Kd.V_nil _ _ _ _ _ | exact Kd.Q_nil _ _ _ _ _ | exact Kd.S_nil _ _ _ _ _, by repeat first | exact gB HB | refine below_set ?_ GE124.out | refine below_set ?_ GE125.out, by repeat (first | (with_reducible first | exact HK.out | apply Kept.alloc | apply Kept.drewN | apply Kept.drew | refine Kept.setCell ?_ (.inr GW124.out) _ | refine Kept.setCell ?_ (.inr GW125.out) _) | exact HK.out)⟩
def triglyphref03_Atom.f (a0 : Int) : Option (List Int × (List (S52))) := some (([] : List Int), (([(⟨0, a0, ([] : List (S25))⟩ : S52)] : List (S52))))
set_option maxHeartbeats 8000000 in
set_option maxRecDepth 100000 in
theorem triglyphref03_Atom.calls (a0 : Int) (r1 : List Int) (r2 : List (S52)) (w : World) (h : triglyphref03_Atom.f a0 = some (r1, r2)) :
  Calls Try.prog 29 #[.int .i64 a0] w fun e w' => ∃ v0_ v1_ : Value, e = .returned (.agg #[v0_, v1_]) ∧ Kd.R (Kd.int .i64) 3 w' w.heap.size (fun _ => True) v0_ r1 ∧ Kd.R k52 52 w' w.heap.size (fun k_ => some k_ ≠ (v0_ : Value).ownBlock) v1_ r2 ∧ Below w.heap.size w w' := by
 have hu25 := Try.underlying25
 have hu52 := Try.underlying52
 have HB := gA (Below.refl w.heap.size w)
 have H : (some (([] : List Int), (([(⟨0, a0, ([] : List (S25))⟩ : S52)] : List (S52))))) = some (r1, r2) := h
 clear h
 obtain ⟨y127, hy127⟩ : ∃ y_ : List (S52), y_ = (([(⟨0, a0, ([] : List (S25))⟩ : S52)] : List (S52))) := ⟨_, rfl⟩
 replace H : (some (([] : List Int), y127)) = some (r1, r2) := by first | (rw [hy127]; with_reducible exact H) | (have H2_ := (Option.bind_some _ _).symm.trans H; rw [hy127]; with_reducible exact H2_) | (have H2_ := (Option.bind_some _ _).symm.trans H; with_reducible exact H2_) | with_reducible exact H | (rw [hy127]; exact H) | exact H
 have Ny127 := gA hy127
 clear hy127
 simp only [Option.some.injEq, Prod.mk.injEq] at H
 obtain ⟨rfl, rfl⟩ := H
 go_enter Try.func29, Try.ntmps29
 go_wp2_with (first | ((with_reducible refine gate_dst (N := 2) rfl ?_); refine box_event ?hg (N := 2) ?hd (cs := #[.slice none 0 0, .slice none 0 0]) (t := 25) ?hr ?_; (case hd => rfl); (case hg => rfl); (case hr => first | (go_simp; done) | (go_simp; rfl)); intro gb126 hg w2 hbox hb; have BK126 := gA (hbox); have GW126 := gA ((by rw [hg]; exact (below_size (gB HB)) : w.heap.size ≤ gb126)); have GE126 := gA ((by rw [hg]; exact (below_size (gB HB)) : w.heap.size ≤ gb126)); replace HB := gA (below_step (gB HB) hb); clear hb hbox hg) | ((with_reducible refine gate_dst (N := 5) rfl ?_); refine Kd.R_lit k52 _ 52 ?hg (N := 5) ?hd (xs := ([(⟨0, a0, ([] : List (S25))⟩ : S52)] : List (S52))) (inner := [.int .i64 0, .int .i64 a0, .slice none 0 0]) (ok := fun _ => True) (okp := fun _ => True) ?hr ?hp (fun _ hk => hk) trivial (Below.refl _ _) (Nat.le_refl _) (by simp) ?_; (case hd => rfl); (case hg => rfl); (case hr => first | (go_simp; done) | (go_simp; rfl)); (case hp => exact (Reps.c3 (show Kd.M k52 _ _ _ (⟨0, a0, ([] : List (S25))⟩ : S52) [.int .i64 0, .int .i64 a0, .slice none 0 0] from (k52_mkM _ _ _ (⟨0, a0, ([] : List (S25))⟩ : S52) (Kd.R_nil _ _ _ _ _))) (Reps.none _ _))); intro v128 w3 ho4 hb hg_ hnew_; clear hg_ hnew_; (first | rw [← Ny127.out] at ho4 | (simp only [Int.reduceToNat] at ho4; rw [← Ny127.out] at ho4)); have HO129 := gA (Kd.R_lower (Kd.R_newB ho4 (gK BK126)) (below_size (gB HB))); replace BK126 := gA (blk_below (gK BK126) hb); replace HB := gA (below_step (gB HB) hb); clear hb ho4; obtain ⟨Ao5, co5, eo5⟩ := Kd.R_slice HO129.out; subst eo5; obtain ⟨hcz6_0, hcz6_1, hfz6_0, hfz6_1⟩ := gz2 BK126))
 refine bodyPost_ret (results_cell_row rfl _ _ gb126 25 #[.slice none 0 0, .slice Ao5 y127.length co5] (0, 0) _ rfl (by refine blk_put (cs := #[.slice none 0 0, .slice none 0 0]) ?_ 1 _ rfl; refine blk_put (cs := #[.slice none 0 0, .slice none 0 0]) ?_ 0 _ rfl; exact gK BK126) Try.underlying25 rfl (by kernel_rfl)) rfl ?_
 exact ⟨_, _, rfl, by first | exact Kd.R_nil _ _ _ _ _ | exact Kd.N_nil _ _ _ _ _ | exact Kd.V_nil _ _ _ _ _ | exact Kd.Q_nil _ _ _ _ _ | exact Kd.S_nil _ _ _ _ _, Kd.R_mono (Kd.R_far (p := ⟨gb126, 1, none⟩) (Kd.R_far (p := ⟨gb126, 0, none⟩) (Kd.R_mono HO129.out (fun k_ hk => (⟨hk, hk.2⟩ : _ ∧ k_ ≠ gb126))) (fun _ hk => hk.2) (.slice none 0 0)) (fun _ hk => hk.2) (.slice Ao5 y127.length co5)) (fun _ hk => (by simp [Value.ownBlock])), by repeat first | exact gB HB | refine below_set ?_ GE126.out⟩
mutual
def core_Size.l0 : Nat → Int → List (S34) → Int → Int → Option (Int)
 | 0, _, _, _, _ => none
 | k + 1, x3, x7, x8, x9 => if x9 < x8 then (if 0 ≤ x9 then (if x9 < (x7.length : Int) then ((core_Size.f k ((rd_T34 x7 x9).f0) ((rd_T34 x7 x9).f1) ((rd_T34 x7 x9).f2) ((rd_T34 x7 x9).f3.f0) ((rd_T34 x7 x9).f3.f1) ((rd_T34 x7 x9).f4) ((rd_T34 x7 x9).f5)).bind fun t133 => (core_Size.l0 k (wrap64 (x3 + t133)) x7 x8 (wrap64 (x9 + 1)))) else (none)) else (none)) else (some x3)
def core_Size.f : Nat → Int → Int → ByteArray → List Int → List (S52) → List (S34) → Int → Option (Int)
 | 0, _, _, _, _, _, _, _ => none
 | k + 1, a0_0, a0_1, a0_2, l0_3, l0_4, l0_5, a0_6 => core_Size.l0 k 1 l0_5 (l0_5.length : Int) 0
end
theorem core_Size.mono_l : ∀ k, (∀ y0 y1 y2 y3 y4 y5 y6, LeO (core_Size.f k y0 y1 y2 y3 y4 y5 y6) (core_Size.f (k + 1) y0 y1 y2 y3 y4 y5 y6)) ∧ (∀ y0 y1 y2 y3, LeO (core_Size.l0 k y0 y1 y2 y3) (core_Size.l0 (k + 1) y0 y1 y2 y3))
 | 0 => ⟨fun _ _ _ _ _ _ _ r h => by simp [core_Size.f] at h, fun _ _ _ _ r h => by simp [core_Size.l0] at h⟩
 | k + 1 => by
  obtain ⟨ih0, ih1⟩ := core_Size.mono_l k
  refine ⟨?_, ?_⟩
  ·intro y0 y1 y2 y3 y4 y5 y6
   unfold core_Size.f
   repeat' first
   | (with_reducible exact ih0 _ _ _ _ _ _ _)
   | (with_reducible exact ih1 _ _ _ _)
   | (with_reducible exact LeO.refl _)
   | (with_reducible exact LeO.none _)
   | (with_reducible refine LeO.ite ?_ ?_)
   | (with_reducible refine LeO.bind ?_ (fun _ => ?_))





  ·intro y0 y1 y2 y3
   unfold core_Size.l0
   repeat' first
   | (with_reducible exact ih0 _ _ _ _ _ _ _)
   | (with_reducible exact ih1 _ _ _ _)
   | (with_reducible exact LeO.refl _)
   | (with_reducible exact LeO.none _)
   | (with_reducible refine LeO.ite ?_ ?_)
   | (with_reducible refine LeO.bind ?_ (fun _ => ?_))
theorem core_Size.mono : ∀ a0 a1 a2 a3 a4 a5 a6 k, LeO (core_Size.f k a0 a1 a2 a3 a4 a5 a6) (core_Size.f (k + 1) a0 a1 a2 a3 a4 a5 a6) := by
 intro a0 a1 a2 a3 a4 a5 a6 k
 obtain ⟨ih0, ih1⟩ := core_Size.mono_l k
 exact ih0 a0 a1 a2 a3 a4 a5 a6
set_option maxHeartbeats 8000000 in
set_option maxRecDepth 100000 in
theorem core_Size.calls (k : Nat) : ∀ (a0_0 : Int) (a0_1 : Int) (a0_2 : ByteArray) (A0_3 : Option Addr) (c0_3 : Nat) (l0_3 : List Int) (A0_4 : Option Addr) (c0_4 : Nat) (l0_4 : List (S52)) (A0_5 : Option Addr) (c0_5 : Nat) (l0_5 : List (S34)) (a0_6 : Int) (r : Int) (w : World) (hr0_3 : Kd.C (Kd.int .i64) w A0_3 l0_3.length l0_3) (hc0_3 : l0_3.length ≤ c0_3) (hr0_4 : Kd.C k52 w A0_4 l0_4.length l0_4) (hc0_4 : l0_4.length ≤ c0_4) (hr0_5 : Kd.C k34 w A0_5 l0_5.length l0_5) (hc0_5 : l0_5.length ≤ c0_5) (h : core_Size.f k a0_0 a0_1 a0_2 l0_3 l0_4 l0_5 a0_6 = some r),
  Calls Try.prog 30 #[.agg #[.int .i64 a0_0, .int .i64 a0_1, .string a0_2, .slice A0_3 l0_3.length c0_3, .slice A0_4 l0_4.length c0_4, .slice A0_5 l0_5.length c0_5, .int .i64 a0_6]] w fun e w' => e = .returned (.int .i64 r) ∧ Below w.heap.size w w' := by
 induction k using Nat.strongRecOn with
 | _ k ih =>
 intro a0_0 a0_1 a0_2 A0_3 c0_3 l0_3 A0_4 c0_4 l0_4 A0_5 c0_5 l0_5 a0_6 r w hr0_3 hc0_3 hr0_4 hc0_4 hr0_5 hc0_5 h
 cases k with
 | zero => exact absurd h (by simp [core_Size.f])
 | succ k =>
 simp only [core_Size.f] at h
 have hu34 := Try.underlying34
 have HR0_3 := gA hr0_3
 have HC0_3 := gA hc0_3
 clear hr0_3 hc0_3
 have HR0_4 := gA hr0_4
 have HC0_4 := gA hc0_4
 clear hr0_4 hc0_4
 have HR0_5 := gA hr0_5
 have HC0_5 := gA hc0_5
 clear hr0_5 hc0_5
 have HB := gA (Below.refl w.heap.size w)
 have H : (core_Size.l0 k 1 l0_5 (l0_5.length : Int) 0) = some r := h
 clear h
 have H' := gA H
 clear H
 go_enter Try.func30, Try.ntmps30
 go_wp2_with (first | ((with_reducible refine gate_dst (N := 1) rfl ?_); refine box_event ?hg (N := 1) ?hd (cs := #[.int .i64 a0_0, .int .i64 a0_1, .string a0_2, .slice A0_3 l0_3.length c0_3, .slice A0_4 l0_4.length c0_4, .slice A0_5 l0_5.length c0_5, .int .i64 a0_6]) (t := 34) ?hr ?_; (case hd => rfl); (case hg => rfl); (case hr => first | (go_simp; done) | (go_simp; rfl)); intro gb130 hg w2 hbox hb; have BK130 := gA (hbox); have GW130 := gA ((by rw [hg]; exact (below_size (gB HB)) : w.heap.size ≤ gb130)); have GE130 := gA ((by rw [hg]; exact (below_size (gB HB)) : w.heap.size ≤ gb130)); replace HB := gA (below_step (gB HB) hb); clear hb hbox hg; have hcz3_0 := gz BK130 0 rfl; have hcz3_1 := gz BK130 1 rfl; have hcz3_2 := gz BK130 2 rfl; have hcz3_3 := gz BK130 3 rfl; have hcz3_4 := gz BK130 4 rfl; have hcz3_5 := gz BK130 5 rfl; have hcz3_6 := gz BK130 6 rfl; have hfz3_0 := blk_frozen BK130.out 0; have hfz3_1 := blk_frozen BK130.out 1; have hfz3_2 := blk_frozen BK130.out 2; have hfz3_3 := blk_frozen BK130.out 3; have hfz3_4 := blk_frozen BK130.out 4; have hfz3_5 := blk_frozen BK130.out 5; have hfz3_6 := blk_frozen BK130.out 6))
 go_loopg [3, 9] k (fun kq v3 v9 w' => ∃ (x3_1 : Int) (x9_1 : Int), v3 = .int .i64 x3_1 ∧ v9 = .int .i64 x9_1 ∧ Aside0 (core_Size.l0 kq x3_1 l0_5 (l0_5.length : Int) x9_1 = some r) ∧ Aside0 (kq ≤ k) ∧ Aside0 (w'.heap[gb130]? = some (.cells #[.int .i64 a0_0, .int .i64 a0_1, .string a0_2, (.slice A0_3 l0_3.length c0_3), (.slice A0_4 l0_4.length c0_4), (.slice A0_5 l0_5.length c0_5), .int .i64 a0_6] 34 (0, 0))) ∧ Aside0 (Below w.heap.size w w'))
 case atStart => exact ⟨(1), (0), (rfl), (rfl), H', ⟨Nat.le_refl _⟩, ⟨gK BK130⟩, ⟨by repeat first | exact gB HB | refine below_set ?_ GE130.out⟩⟩
 case round =>
  clear H'
  try clear p2
  try clear c3
  try clear hcz3_0
  try clear hcz3_1
  try clear hcz3_2
  try clear hcz3_3
  try clear hcz3_4
  try clear hcz3_5
  try clear hcz3_6
  try clear hfz3_0
  try clear hfz3_1
  try clear hfz3_2
  try clear hfz3_3
  try clear hfz3_4
  try clear hfz3_5
  try clear hfz3_6
  obtain ⟨x3_1, x9_1, rfl, rfl, HA, HK1, BK130, HB⟩ := hrel
  cases gk with
  | zero => exact absurd HA.out (by simp [core_Size.l0])
  | succ k1 =>
   have H := HA.out; clear HA
   simp only [core_Size.l0] at H
   by_cases c4 : x9_1 < (l0_5.length : Int)
   ·rw [if_pos c4] at H
    have c4b0 := decide_eq_true c4
    clear c4
    obtain ⟨c5, H⟩ := iS H
    have c5b0 := decide_eq_true c5
    clear c5
    obtain ⟨c6, H⟩ := iS H
    have c6b0 := decide_eq_true c6
    clear c6
    replace H := Option.bind_eq_some_iff.mp H
    obtain ⟨t133, A70, H⟩ := H
    replace H : (core_Size.l0 k1 (wrap64 (x3_1 + t133)) l0_5 (l0_5.length : Int) (wrap64 (x9_1 + 1))) = some r := H
    have A7 := gA A70
    clear A70
    have H' := gA H
    clear H
    have p131 : 0 ≤ (x9_1 : Int) := of_decide_eq_true (by assumption)
    have q131 : x9_1 < (l0_5.length : Int) := of_decide_eq_true (by assumption)
    obtain ⟨ad131, A131_3, c131_3, A131_4, c131_4, A131_5, c131_5, e131, hx131_0, hx131_1, hx131_2, hx131_3, hx131_4, hx131_5, hx131_6, hl131_3, hi131_3, hl131_4, hi131_4, hl131_5, hi131_5⟩ := at_T34 HR0_5.out x9_1 p131 q131
    cases e131
    replace hx131_0 := (HB.out.cell (World.block_lt_of_cell? w _ hx131_0)).trans hx131_0
    replace hx131_1 := (HB.out.cell (World.block_lt_of_cell? w _ hx131_1)).trans hx131_1
    replace hx131_2 := (HB.out.cell (World.block_lt_of_cell? w _ hx131_2)).trans hx131_2
    replace hx131_3 := (HB.out.cell (World.block_lt_of_cell? w _ hx131_3)).trans hx131_3
    replace hx131_4 := (HB.out.cell (World.block_lt_of_cell? w _ hx131_4)).trans hx131_4
    replace hx131_5 := (HB.out.cell (World.block_lt_of_cell? w _ hx131_5)).trans hx131_5
    replace hx131_6 := (HB.out.cell (World.block_lt_of_cell? w _ hx131_6)).trans hx131_6
    have HR131_3 := gA hi131_3
    have HC131_3 := gA hl131_3
    clear hi131_3 hl131_3
    have HR131_4 := gA hi131_4
    have HC131_4 := gA hl131_4
    clear hi131_4 hl131_4
    have HR131_5 := gA hi131_5
    have HC131_5 := gA hl131_5
    clear hi131_5 hl131_5
    replace p131 := eq_true p131
    replace q131 := eq_true q131
    go_wp2_with (first | ((with_reducible refine gate_dst (N := 5) rfl ?_); refine box_event ?hg (N := 5) ?hd (cs := #[.int .i64 0, .int .i64 0, .string (⟨#[]⟩ : ByteArray), .slice none 0 0, .slice none 0 0, .slice none 0 0, .int .i64 0]) (t := 34) ?hr ?_; (case hd => rfl); (case hg => rfl); (case hr => first | (go_simp; done) | (go_simp; rfl)); intro gb132 hg w8 hbox hb; have BK132 := gA (hbox); have GW132 := gA ((by rw [hg]; exact (below_size (by repeat first | exact gB HB | refine below_set ?_ GE130.out)) : w.heap.size ≤ gb132)); have GE132 := gA ((by rw [hg]; exact (below_size (by repeat first | exact gB HB | refine below_set ?_ GE130.out)) : w.heap.size ≤ gb132)); replace HB := gA (below_step (by repeat first | exact gB HB | refine below_set ?_ GE130.out) hb); have NB130_132 := gA ((by rw [hg]; exact Nat.ne_of_lt (blk_lt (gK BK130)) : gb130 ≠ gb132)); have NB132_130 := gA ((by rw [hg]; exact Nat.ne_of_gt (blk_lt (gK BK130)) : gb132 ≠ gb130)); replace BK130 := gA (blk_below (gK BK130) hb); clear hb hbox hg; have hnb9 := NB132_130.out; have hnc9 := NB130_132.out; have hcz10_0 := gz BK132 0 rfl; have hcz10_1 := gz BK132 1 rfl; have hcz10_2 := gz BK132 2 rfl; have hcz10_3 := gz BK132 3 rfl; have hcz10_4 := gz BK132 4 rfl; have hcz10_5 := gz BK132 5 rfl; have hcz10_6 := gz BK132 6 rfl; have hfz10_0 := blk_frozen BK132.out 0; have hfz10_1 := blk_frozen BK132.out 1; have hfz10_2 := blk_frozen BK132.out 2; have hfz10_3 := blk_frozen BK132.out 3; have hfz10_4 := blk_frozen BK132.out 4; have hfz10_5 := blk_frozen BK132.out 5; have hfz10_6 := blk_frozen BK132.out 6) | ((with_reducible refine gate_callee (f := 30) rfl ?_); refine goesL_ (some 15) rfl rfl Try.func30 (by kernel_rfl) rfl #[.agg #[.int .i64 ((rd_T34 l0_5 x9_1).f0), .int .i64 ((rd_T34 l0_5 x9_1).f1), .string ((rd_T34 l0_5 x9_1).f2), .slice A131_3 ((rd_T34 l0_5 x9_1).f3.f0).length c131_3, .slice A131_4 ((rd_T34 l0_5 x9_1).f3.f1).length c131_4, .slice A131_5 ((rd_T34 l0_5 x9_1).f4).length c131_5, .int .i64 ((rd_T34 l0_5 x9_1).f5)]] rfl (by (try simp only [List.map_toArray, List.map_cons, List.map_nil]); first | done | rfl | (simp only [List.length_drop, List.length_take]; rfl)) ?_; (with_reducible refine (ih k1 (by have := HK1.out; omega) ((rd_T34 l0_5 x9_1).f0) ((rd_T34 l0_5 x9_1).f1) ((rd_T34 l0_5 x9_1).f2) _ _ ((rd_T34 l0_5 x9_1).f3.f0) _ _ ((rd_T34 l0_5 x9_1).f3.f1) _ _ ((rd_T34 l0_5 x9_1).f4) ((rd_T34 l0_5 x9_1).f5) t133 _ ?side1 ?side2 ?side3 ?side4 ?side5 ?side6 A7.out).mono ?_); (case side1 => exact Kd.C_below HR131_3.out (by repeat first | exact gB HB | refine below_set ?_ GE130.out | refine below_set ?_ GE132.out)); (case side2 => exact HC131_3.out); (case side3 => exact Kd.C_below HR131_4.out (by repeat first | exact gB HB | refine below_set ?_ GE130.out | refine below_set ?_ GE132.out)); (case side4 => exact HC131_4.out); (case side5 => exact Kd.C_below HR131_5.out (by repeat first | exact gB HB | refine below_set ?_ GE130.out | refine below_set ?_ GE132.out)); (case side6 => exact HC131_5.out); rintro e w11 ⟨rfl, hb⟩; refine ⟨_, rfl, ?_⟩; replace BK130 := gA (blk_below (g := gb130) (o := .cells #[.int .i64 a0_0, .int .i64 a0_1, .string a0_2, .slice A0_3 l0_3.length c0_3, .slice A0_4 l0_4.length c0_4, .slice (some ad131) l0_5.length c0_5, .int .i64 a0_6] 34 (0, 0)) (by refine blk_far ?_ NB130_132.out _; refine blk_far ?_ NB130_132.out _; refine blk_far ?_ NB130_132.out _; refine blk_far ?_ NB130_132.out _; refine blk_far ?_ NB130_132.out _; refine blk_far ?_ NB130_132.out _; refine blk_far ?_ NB130_132.out _; exact gK BK130) hb); replace BK132 := gA (blk_below (g := gb132) (o := .cells #[.int .i64 ((rd_T34 l0_5 x9_1).f0), .int .i64 ((rd_T34 l0_5 x9_1).f1), .string ((rd_T34 l0_5 x9_1).f2), .slice A131_3 ((rd_T34 l0_5 x9_1).f3.f0).length c131_3, .slice A131_4 ((rd_T34 l0_5 x9_1).f3.f1).length c131_4, .slice A131_5 ((rd_T34 l0_5 x9_1).f4).length c131_5, .int .i64 ((rd_T34 l0_5 x9_1).f5)] 34 (0, 0)) (by refine blk_put (cs := #[.int .i64 ((rd_T34 l0_5 x9_1).f0), .int .i64 ((rd_T34 l0_5 x9_1).f1), .string ((rd_T34 l0_5 x9_1).f2), .slice A131_3 ((rd_T34 l0_5 x9_1).f3.f0).length c131_3, .slice A131_4 ((rd_T34 l0_5 x9_1).f3.f1).length c131_4, .slice A131_5 ((rd_T34 l0_5 x9_1).f4).length c131_5, .int .i64 0]) ?_ 6 _ rfl; refine blk_put (cs := #[.int .i64 ((rd_T34 l0_5 x9_1).f0), .int .i64 ((rd_T34 l0_5 x9_1).f1), .string ((rd_T34 l0_5 x9_1).f2), .slice A131_3 ((rd_T34 l0_5 x9_1).f3.f0).length c131_3, .slice A131_4 ((rd_T34 l0_5 x9_1).f3.f1).length c131_4, .slice none 0 0, .int .i64 0]) ?_ 5 _ rfl; refine blk_put (cs := #[.int .i64 ((rd_T34 l0_5 x9_1).f0), .int .i64 ((rd_T34 l0_5 x9_1).f1), .string ((rd_T34 l0_5 x9_1).f2), .slice A131_3 ((rd_T34 l0_5 x9_1).f3.f0).length c131_3, .slice none 0 0, .slice none 0 0, .int .i64 0]) ?_ 4 _ rfl; refine blk_put (cs := #[.int .i64 ((rd_T34 l0_5 x9_1).f0), .int .i64 ((rd_T34 l0_5 x9_1).f1), .string ((rd_T34 l0_5 x9_1).f2), .slice none 0 0, .slice none 0 0, .slice none 0 0, .int .i64 0]) ?_ 3 _ rfl; refine blk_put (cs := #[.int .i64 ((rd_T34 l0_5 x9_1).f0), .int .i64 ((rd_T34 l0_5 x9_1).f1), .string (⟨#[]⟩ : ByteArray), .slice none 0 0, .slice none 0 0, .slice none 0 0, .int .i64 0]) ?_ 2 _ rfl; refine blk_put (cs := #[.int .i64 ((rd_T34 l0_5 x9_1).f0), .int .i64 0, .string (⟨#[]⟩ : ByteArray), .slice none 0 0, .slice none 0 0, .slice none 0 0, .int .i64 0]) ?_ 1 _ rfl; refine blk_put (cs := #[.int .i64 0, .int .i64 0, .string (⟨#[]⟩ : ByteArray), .slice none 0 0, .slice none 0 0, .slice none 0 0, .int .i64 0]) ?_ 0 _ rfl; exact gK BK132) hb); replace HB := gA (below_step (by repeat first | exact gB HB | refine below_set ?_ GE130.out | refine below_set ?_ GE132.out) hb); (try clear hb)))
    go_roundg k1
    case measure => have := HK1.out; omega
    case rel => exact ⟨(wrap64 (x3_1 + t133)), (wrap64 (x9_1 + 1)), (rfl), (rfl), H', ⟨by have := HK1.out; omega⟩, ⟨gK BK130⟩, ⟨by repeat first | exact gB HB | refine below_set ?_ GE130.out | refine below_set ?_ GE132.out⟩⟩
   ·rw [if_neg c4] at H
    have c4b0 := decide_eq_false c4
    clear c4
    obtain rfl := Option.some.inj H
    go_wp2
    go_ret
    exact ⟨rfl, by repeat first | exact gB HB | refine below_set ?_ GE130.out⟩
def triglyphlaw10_works.f (k : Nat)  : Option (Bool) := (triglyphref10_Prim.f 1).bind fun bt134 => ((triglyphref03_Atom.f 5).bind fun bt147 => ((triglyphref10_Lit.f bt147.1 bt147.2).bind fun bt153 => ((triglyphref10_One.f bt134.1 bt134.2.1 bt134.2.2.1 bt134.2.2.2.1 bt134.2.2.2.2.1 bt134.2.2.2.2.2.1 bt134.2.2.2.2.2.2 bt153.1 bt153.2.1 bt153.2.2.1 bt153.2.2.2.1 bt153.2.2.2.2.1 bt153.2.2.2.2.2.1 bt153.2.2.2.2.2.2).bind fun bt166 => ((core_Check.f k bt166.1 bt166.2.1 bt166.2.2.1 bt166.2.2.2.1 bt166.2.2.2.2.1 bt166.2.2.2.2.2.1 bt166.2.2.2.2.2.2).bind fun t180 => (if t180 = 0 then ((core_Check.f k 3 0 (⟨#[]⟩ : ByteArray) ([] : List Int) ([] : List (S52)) ([] : List (S34)) 0).bind fun t181 => (if t181 = 1 then ((core_Same.f bt166.1 bt166.2.1 bt166.2.2.1 bt166.2.2.2.1 bt166.2.2.2.2.1 bt166.2.2.2.2.2.1 bt166.2.2.2.2.2.2 bt166.1 bt166.2.1 bt166.2.2.1 bt166.2.2.2.1 bt166.2.2.2.2.1 bt166.2.2.2.2.2.1 bt166.2.2.2.2.2.2).bind fun t182 => (if t182 = true then ((core_Size.f k bt166.1 bt166.2.1 bt166.2.2.1 bt166.2.2.2.1 bt166.2.2.2.2.1 bt166.2.2.2.2.2.1 bt166.2.2.2.2.2.2).bind fun t183 => (if t183 = 3 then ((core_Name.f k (⟨#[97, 98, 49]⟩ : ByteArray)).bind fun t184 => (if t184 = true then ((core_Name.f k (⟨#[120]⟩ : ByteArray)).bind fun t185 => (some (!t185))) else (none))) else (none))) else (none))) else (none))) else (none))))))
theorem triglyphlaw10_works.mono : ∀ k, LeO (triglyphlaw10_works.f k ) (triglyphlaw10_works.f (k + 1) ) := by
 intro  k
 unfold triglyphlaw10_works.f
 repeat' first
   | (with_reducible exact core_Check.mono _ _ _ _ _ _ _ _)
   | (with_reducible exact core_Name.mono _ _)
   | (with_reducible exact core_Size.mono _ _ _ _ _ _ _ _)
   | (with_reducible exact LeO.refl _)
   | (with_reducible exact LeO.none _)
   | (with_reducible refine LeO.ite ?_ ?_)
   | (with_reducible refine LeO.bind ?_ (fun _ => ?_))
   | exact core_Check.mono _ _ _ _ _ _ _ _
   | exact core_Name.mono _ _
   | exact core_Size.mono _ _ _ _ _ _ _ _
set_option maxHeartbeats 8000000 in
set_option maxRecDepth 100000 in
theorem triglyphlaw10_works.calls (k : Nat)  (r : Bool) (w : World) (h : triglyphlaw10_works.f k  = some r) :
  Calls Try.prog 8 #[] w fun e w' => e = .returned (.bool r) ∧ Below w.heap.size w w' := by
 have hu34 := Try.underlying34
 have HB := gA (Below.refl w.heap.size w)
 have H : ((triglyphref10_Prim.f 1).bind fun bt134 => ((triglyphref03_Atom.f 5).bind fun bt147 => ((triglyphref10_Lit.f bt147.1 bt147.2).bind fun bt153 => ((triglyphref10_One.f bt134.1 bt134.2.1 bt134.2.2.1 bt134.2.2.2.1 bt134.2.2.2.2.1 bt134.2.2.2.2.2.1 bt134.2.2.2.2.2.2 bt153.1 bt153.2.1 bt153.2.2.1 bt153.2.2.2.1 bt153.2.2.2.2.1 bt153.2.2.2.2.2.1 bt153.2.2.2.2.2.2).bind fun bt166 => ((core_Check.f k bt166.1 bt166.2.1 bt166.2.2.1 bt166.2.2.2.1 bt166.2.2.2.2.1 bt166.2.2.2.2.2.1 bt166.2.2.2.2.2.2).bind fun t180 => (if t180 = 0 then ((core_Check.f k 3 0 (⟨#[]⟩ : ByteArray) ([] : List Int) ([] : List (S52)) ([] : List (S34)) 0).bind fun t181 => (if t181 = 1 then ((core_Same.f bt166.1 bt166.2.1 bt166.2.2.1 bt166.2.2.2.1 bt166.2.2.2.2.1 bt166.2.2.2.2.2.1 bt166.2.2.2.2.2.2 bt166.1 bt166.2.1 bt166.2.2.1 bt166.2.2.2.1 bt166.2.2.2.2.1 bt166.2.2.2.2.2.1 bt166.2.2.2.2.2.2).bind fun t182 => (if t182 = true then ((core_Size.f k bt166.1 bt166.2.1 bt166.2.2.1 bt166.2.2.2.1 bt166.2.2.2.2.1 bt166.2.2.2.2.2.1 bt166.2.2.2.2.2.2).bind fun t183 => (if t183 = 3 then ((core_Name.f k (⟨#[97, 98, 49]⟩ : ByteArray)).bind fun t184 => (if t184 = true then ((core_Name.f k (⟨#[120]⟩ : ByteArray)).bind fun t185 => (some (!t185))) else (none))) else (none))) else (none))) else (none))) else (none))))))) = some r := h
 clear h
 replace H := Option.bind_eq_some_iff.mp H
 obtain ⟨⟨t134, t135, t136, t137, t140, t143, t146⟩, A10, H⟩ := H
 replace H : ((triglyphref03_Atom.f 5).bind fun bt147 => ((triglyphref10_Lit.f bt147.1 bt147.2).bind fun bt153 => ((triglyphref10_One.f t134 t135 t136 t137 t140 t143 t146 bt153.1 bt153.2.1 bt153.2.2.1 bt153.2.2.2.1 bt153.2.2.2.2.1 bt153.2.2.2.2.2.1 bt153.2.2.2.2.2.2).bind fun bt166 => ((core_Check.f k bt166.1 bt166.2.1 bt166.2.2.1 bt166.2.2.2.1 bt166.2.2.2.2.1 bt166.2.2.2.2.2.1 bt166.2.2.2.2.2.2).bind fun t180 => (if t180 = 0 then ((core_Check.f k 3 0 (⟨#[]⟩ : ByteArray) ([] : List Int) ([] : List (S52)) ([] : List (S34)) 0).bind fun t181 => (if t181 = 1 then ((core_Same.f bt166.1 bt166.2.1 bt166.2.2.1 bt166.2.2.2.1 bt166.2.2.2.2.1 bt166.2.2.2.2.2.1 bt166.2.2.2.2.2.2 bt166.1 bt166.2.1 bt166.2.2.1 bt166.2.2.2.1 bt166.2.2.2.2.1 bt166.2.2.2.2.2.1 bt166.2.2.2.2.2.2).bind fun t182 => (if t182 = true then ((core_Size.f k bt166.1 bt166.2.1 bt166.2.2.1 bt166.2.2.2.1 bt166.2.2.2.2.1 bt166.2.2.2.2.2.1 bt166.2.2.2.2.2.2).bind fun t183 => (if t183 = 3 then ((core_Name.f k (⟨#[97, 98, 49]⟩ : ByteArray)).bind fun t184 => (if t184 = true then ((core_Name.f k (⟨#[120]⟩ : ByteArray)).bind fun t185 => (some (!t185))) else (none))) else (none))) else (none))) else (none))) else (none)))))) = some r := H
 have A1 := gA A10
 clear A10
 replace H := Option.bind_eq_some_iff.mp H
 obtain ⟨⟨t147, t150⟩, A20, H⟩ := H
 replace H : ((triglyphref10_Lit.f t147 t150).bind fun bt153 => ((triglyphref10_One.f t134 t135 t136 t137 t140 t143 t146 bt153.1 bt153.2.1 bt153.2.2.1 bt153.2.2.2.1 bt153.2.2.2.2.1 bt153.2.2.2.2.2.1 bt153.2.2.2.2.2.2).bind fun bt166 => ((core_Check.f k bt166.1 bt166.2.1 bt166.2.2.1 bt166.2.2.2.1 bt166.2.2.2.2.1 bt166.2.2.2.2.2.1 bt166.2.2.2.2.2.2).bind fun t180 => (if t180 = 0 then ((core_Check.f k 3 0 (⟨#[]⟩ : ByteArray) ([] : List Int) ([] : List (S52)) ([] : List (S34)) 0).bind fun t181 => (if t181 = 1 then ((core_Same.f bt166.1 bt166.2.1 bt166.2.2.1 bt166.2.2.2.1 bt166.2.2.2.2.1 bt166.2.2.2.2.2.1 bt166.2.2.2.2.2.2 bt166.1 bt166.2.1 bt166.2.2.1 bt166.2.2.2.1 bt166.2.2.2.2.1 bt166.2.2.2.2.2.1 bt166.2.2.2.2.2.2).bind fun t182 => (if t182 = true then ((core_Size.f k bt166.1 bt166.2.1 bt166.2.2.1 bt166.2.2.2.1 bt166.2.2.2.2.1 bt166.2.2.2.2.2.1 bt166.2.2.2.2.2.2).bind fun t183 => (if t183 = 3 then ((core_Name.f k (⟨#[97, 98, 49]⟩ : ByteArray)).bind fun t184 => (if t184 = true then ((core_Name.f k (⟨#[120]⟩ : ByteArray)).bind fun t185 => (some (!t185))) else (none))) else (none))) else (none))) else (none))) else (none))))) = some r := H
 have A2 := gA A20
 clear A20
 replace H := Option.bind_eq_some_iff.mp H
 obtain ⟨⟨t153, t154, t155, t156, t159, t162, t165⟩, A30, H⟩ := H
 replace H : ((triglyphref10_One.f t134 t135 t136 t137 t140 t143 t146 t153 t154 t155 t156 t159 t162 t165).bind fun bt166 => ((core_Check.f k bt166.1 bt166.2.1 bt166.2.2.1 bt166.2.2.2.1 bt166.2.2.2.2.1 bt166.2.2.2.2.2.1 bt166.2.2.2.2.2.2).bind fun t180 => (if t180 = 0 then ((core_Check.f k 3 0 (⟨#[]⟩ : ByteArray) ([] : List Int) ([] : List (S52)) ([] : List (S34)) 0).bind fun t181 => (if t181 = 1 then ((core_Same.f bt166.1 bt166.2.1 bt166.2.2.1 bt166.2.2.2.1 bt166.2.2.2.2.1 bt166.2.2.2.2.2.1 bt166.2.2.2.2.2.2 bt166.1 bt166.2.1 bt166.2.2.1 bt166.2.2.2.1 bt166.2.2.2.2.1 bt166.2.2.2.2.2.1 bt166.2.2.2.2.2.2).bind fun t182 => (if t182 = true then ((core_Size.f k bt166.1 bt166.2.1 bt166.2.2.1 bt166.2.2.2.1 bt166.2.2.2.2.1 bt166.2.2.2.2.2.1 bt166.2.2.2.2.2.2).bind fun t183 => (if t183 = 3 then ((core_Name.f k (⟨#[97, 98, 49]⟩ : ByteArray)).bind fun t184 => (if t184 = true then ((core_Name.f k (⟨#[120]⟩ : ByteArray)).bind fun t185 => (some (!t185))) else (none))) else (none))) else (none))) else (none))) else (none)))) = some r := H
 have A3 := gA A30
 clear A30
 replace H := Option.bind_eq_some_iff.mp H
 obtain ⟨⟨t166, t167, t168, t169, t172, t175, t178⟩, A40, H⟩ := H
 replace H : ((core_Check.f k t166 t167 t168 t169 t172 t175 t178).bind fun t180 => (if t180 = 0 then ((core_Check.f k 3 0 (⟨#[]⟩ : ByteArray) ([] : List Int) ([] : List (S52)) ([] : List (S34)) 0).bind fun t181 => (if t181 = 1 then ((core_Same.f t166 t167 t168 t169 t172 t175 t178 t166 t167 t168 t169 t172 t175 t178).bind fun t182 => (if t182 = true then ((core_Size.f k t166 t167 t168 t169 t172 t175 t178).bind fun t183 => (if t183 = 3 then ((core_Name.f k (⟨#[97, 98, 49]⟩ : ByteArray)).bind fun t184 => (if t184 = true then ((core_Name.f k (⟨#[120]⟩ : ByteArray)).bind fun t185 => (some (!t185))) else (none))) else (none))) else (none))) else (none))) else (none))) = some r := H
 have A4 := gA A40
 clear A40
 replace H := Option.bind_eq_some_iff.mp H
 obtain ⟨t180, A50, H⟩ := H
 replace H : (if t180 = 0 then ((core_Check.f k 3 0 (⟨#[]⟩ : ByteArray) ([] : List Int) ([] : List (S52)) ([] : List (S34)) 0).bind fun t181 => (if t181 = 1 then ((core_Same.f t166 t167 t168 t169 t172 t175 t178 t166 t167 t168 t169 t172 t175 t178).bind fun t182 => (if t182 = true then ((core_Size.f k t166 t167 t168 t169 t172 t175 t178).bind fun t183 => (if t183 = 3 then ((core_Name.f k (⟨#[97, 98, 49]⟩ : ByteArray)).bind fun t184 => (if t184 = true then ((core_Name.f k (⟨#[120]⟩ : ByteArray)).bind fun t185 => (some (!t185))) else (none))) else (none))) else (none))) else (none))) else (none)) = some r := H
 have A5 := gA A50
 clear A50
 obtain ⟨c6, H⟩ := iS H
 have c6b0 : (t180 == 0) = true := beq_iff_eq.mpr c6
 have c6b1 : (t180 != 0) = false := bne_eq_false_iff_eq.mpr c6
 clear c6
 replace H := Option.bind_eq_some_iff.mp H
 obtain ⟨t181, A70, H⟩ := H
 replace H : (if t181 = 1 then ((core_Same.f t166 t167 t168 t169 t172 t175 t178 t166 t167 t168 t169 t172 t175 t178).bind fun t182 => (if t182 = true then ((core_Size.f k t166 t167 t168 t169 t172 t175 t178).bind fun t183 => (if t183 = 3 then ((core_Name.f k (⟨#[97, 98, 49]⟩ : ByteArray)).bind fun t184 => (if t184 = true then ((core_Name.f k (⟨#[120]⟩ : ByteArray)).bind fun t185 => (some (!t185))) else (none))) else (none))) else (none))) else (none)) = some r := H
 have A7 := gA A70
 clear A70
 obtain ⟨c8, H⟩ := iS H
 have c8b0 : (t181 == 1) = true := beq_iff_eq.mpr c8
 have c8b1 : (t181 != 1) = false := bne_eq_false_iff_eq.mpr c8
 clear c8
 replace H := Option.bind_eq_some_iff.mp H
 obtain ⟨t182, A90, H⟩ := H
 replace H : (if t182 = true then ((core_Size.f k t166 t167 t168 t169 t172 t175 t178).bind fun t183 => (if t183 = 3 then ((core_Name.f k (⟨#[97, 98, 49]⟩ : ByteArray)).bind fun t184 => (if t184 = true then ((core_Name.f k (⟨#[120]⟩ : ByteArray)).bind fun t185 => (some (!t185))) else (none))) else (none))) else (none)) = some r := H
 have A9 := gA A90
 clear A90
 by_cases c10 : t182 = true
 ·subst c10
  have H1 : ((core_Size.f k t166 t167 t168 t169 t172 t175 t178).bind fun t183 => (if t183 = 3 then ((core_Name.f k (⟨#[97, 98, 49]⟩ : ByteArray)).bind fun t184 => (if t184 = true then ((core_Name.f k (⟨#[120]⟩ : ByteArray)).bind fun t185 => (some (!t185))) else (none))) else (none))) = some r := by rw [if_pos rfl] at H; exact H
  clear H; have H := H1; clear H1
  replace H := Option.bind_eq_some_iff.mp H
  obtain ⟨t183, A110, H⟩ := H
  replace H : (if t183 = 3 then ((core_Name.f k (⟨#[97, 98, 49]⟩ : ByteArray)).bind fun t184 => (if t184 = true then ((core_Name.f k (⟨#[120]⟩ : ByteArray)).bind fun t185 => (some (!t185))) else (none))) else (none)) = some r := H
  have A11 := gA A110
  clear A110
  obtain ⟨c12, H⟩ := iS H
  have c12b0 : (t183 == 3) = true := beq_iff_eq.mpr c12
  have c12b1 : (t183 != 3) = false := bne_eq_false_iff_eq.mpr c12
  clear c12
  replace H := Option.bind_eq_some_iff.mp H
  obtain ⟨t184, A130, H⟩ := H
  replace H : (if t184 = true then ((core_Name.f k (⟨#[120]⟩ : ByteArray)).bind fun t185 => (some (!t185))) else (none)) = some r := H
  have A13 := gA A130
  clear A130
  by_cases c14 : t184 = true
  ·subst c14
   have H1 : ((core_Name.f k (⟨#[120]⟩ : ByteArray)).bind fun t185 => (some (!t185))) = some r := by rw [if_pos rfl] at H; exact H
   clear H; have H := H1; clear H1
   replace H := Option.bind_eq_some_iff.mp H
   obtain ⟨t185, A150, H⟩ := H
   replace H : (some (!t185)) = some r := H
   have A15 := gA A150
   clear A150
   obtain rfl := Option.some.inj H
   go_enter Try.func8, Try.ntmps8
   go_wp2_with (first | ((with_reducible refine gate_callee (f := 22) rfl ?_); refine goesL_ (some 2) rfl rfl Try.func22 (by kernel_rfl) rfl #[.int .i64 1] rfl (by (try simp only [List.map_toArray, List.map_cons, List.map_nil]); first | done | rfl | (simp only [List.length_drop, List.length_take]; rfl)) ?_; (with_reducible refine (triglyphref10_Prim.calls 1 t134 t135 t136 t137 t140 t143 t146 _ A1.out).mono ?_); rintro e w16 ⟨v138, v141, v144, rfl, ho0, ho1, ho2, hb⟩; refine ⟨_, rfl, ?_⟩; have HO139 := gA (Kd.R_lower ho0 (below_size (gB HB))); have HO142 := gA (Kd.N_lower (Kd.N_mono (ok' := fun k_ => some k_ ≠ (v138 : Value).ownBlock ∧ some k_ ≠ (v144 : Value).ownBlock) (Kd.R_N (Kd.R_bound (Kd.R_apart' ho1 (Kd.R_typed ho2) (by decide)))) (fun k_ hk_ => ⟨hk_.1.1, hk_.1.2⟩)) (below_size (gB HB))); have HO145 := gA (Kd.N_lower (Kd.N_mono (ok' := fun k_ => some k_ ≠ (v138 : Value).ownBlock ∧ some k_ ≠ (v141 : Value).ownBlock) (Kd.R_N (Kd.R_bound ho2)) (fun k_ hk_ => ⟨hk_.1.1, hk_.1.2⟩)) (below_size (gB HB))); replace HB := gA (below_step (gB HB) hb); (try clear hb); (try clear ho0); (try clear ho1); (try clear ho2)) | ((with_reducible refine gate_callee (f := 29) rfl ?_); refine goesL_ (some 3) rfl rfl Try.func29 (by kernel_rfl) rfl #[.int .i64 5] rfl (by (try simp only [List.map_toArray, List.map_cons, List.map_nil]); first | done | rfl | (simp only [List.length_drop, List.length_take]; rfl)) ?_; (with_reducible refine (triglyphref03_Atom.calls 5 t147 t150 _ A2.out).mono ?_); rintro e w17 ⟨v148, v151, rfl, ho0, ho1, hb⟩; refine ⟨_, rfl, ?_⟩; have HO149 := gA (Kd.R_lower (Kd.R_new' ho0 (Kd.R_lt (gR HO139))) (below_size (gB HB))); have HO152 := gA (Kd.N_lower (Kd.N_mono (ok' := fun k_ => some k_ ≠ (v148 : Value).ownBlock ∧ some k_ ≠ (v138 : Value).ownBlock ∧ some k_ ≠ (v141 : Value).ownBlock ∧ some k_ ≠ (v144 : Value).ownBlock) (Kd.R_N (Kd.R_bound ho1)) (fun k_ hk_ => ⟨hk_.1, (Kd.fresh' (Kd.R_lt (gR HO139)) k_ hk_.2.1), (Kd.fresh' (Kd.N_lt (gN HO142)) k_ hk_.2.1), (Kd.fresh' (Kd.N_lt (gN HO145)) k_ hk_.2.1)⟩)) (below_size (gB HB))); replace HO139 := gA (Kd.R_elder' (gR HO139) (Kd.R_base ho0) hb); replace HO142 := gA (Kd.N_mono (Kd.N_told (Kd.N_told (Kd.N_old (gN HO142) hb) (Kd.R_base ho0)) (by first | exact Kd.N_base ho1 | exact Kd.R_base ho1)) (fun _ h_ => h_.1)); replace HO145 := gA (Kd.N_mono (Kd.N_told (Kd.N_told (Kd.N_old (gN HO145) hb) (Kd.R_base ho0)) (by first | exact Kd.N_base ho1 | exact Kd.R_base ho1)) (fun _ h_ => h_.1)); replace HB := gA (below_step (gB HB) hb); (try clear hb); (try clear ho0); (try clear ho1); obtain ⟨Ao18, co18, eo18⟩ := Kd.R_slice HO149.out; subst eo18; obtain ⟨Ao19, co19, eo19⟩ := Kd.N_slice HO152.out; subst eo19) | ((with_reducible refine gate_callee (f := 28) rfl ?_); refine goesL_ (some 4) rfl rfl Try.func28 (by kernel_rfl) rfl #[.agg #[.slice Ao18 t147.length co18, .slice Ao19 t150.length co19]] rfl (by (try simp only [List.map_toArray, List.map_cons, List.map_nil]); first | done | rfl | (simp only [List.length_drop, List.length_take]; rfl)) ?_; (with_reducible refine (triglyphref10_Lit.calls (fun k_ => some k_ = (.slice Ao18 t147.length co18 : Value).ownBlock) (.slice Ao18 t147.length co18) t147 (fun k_ => (some k_ ≠ (.slice Ao18 t147.length co18 : Value).ownBlock ∧ (some k_ ≠ (v138 : Value).ownBlock ∧ (some k_ ≠ (v141 : Value).ownBlock ∧ some k_ ≠ (v144 : Value).ownBlock)))) _ _ t150 t153 t154 t155 t156 t159 t162 t165 w _ ?side1 ?side2 ?side3 A3.out).mono ?_); (case side1 => repeat (first | (with_reducible first | exact HB.out | apply below_alloc | apply pw_below_drewN | apply below_drew1) | exact HB.out)); (case side2 => exact Kd.R_tight rfl HO149.out); (case side3 => exact Kd.V_mono (Kd.N_V (HO152.out)) (fun k_ hk_ => ⟨hk_, hk_.1⟩)); rintro e w20 ⟨v157, v160, v163, rfl, ho0, ho1, ho2, hb, hkp⟩; refine ⟨_, rfl, ?_⟩; replace HO152 := gA (Kd.N_mono (ok' := fun k_ => some k_ ≠ (v138 : Value).ownBlock ∧ some k_ ≠ (v141 : Value).ownBlock ∧ some k_ ≠ (v144 : Value).ownBlock ∧ some k_ ≠ (v157 : Value).ownBlock ∧ some k_ ≠ (v163 : Value).ownBlock) (Kd.N_keptB (HO152.out) hkp (fun k_ hk_ hs_ => (hk_.1) hs_)) (fun k_ hk_ => ⟨hk_.1.2.1, hk_.1.2.2.1, hk_.1.2.2.2, fun e_ => Or.elim (ho0.1 k_ e_.symm) (fun hs_ => hk_.2.1 hs_) (fun hn_ => Nat.not_le.2 hk_.2.2 hn_), fun e_ => Nat.not_le.2 hk_.2.2 (Kd.N_base ho2 k_ e_.symm)⟩)); have HO158 := gA (Kd.R_mono (ok' := fun k_ => some k_ ≠ (v138 : Value).ownBlock) ho0 (fun k_ hk_ => Or.elim hk_ (fun hs_ => fun e_ => (((HO139.out).1 k_ e_.symm).2) hs_) (fun hn_ => (Kd.fresh' (Kd.R_lt (gR HO139)) k_ hn_)))); have HO161 := gA (Kd.V_mono (ok' := fun k_ => some k_ ≠ (v157 : Value).ownBlock ∧ some k_ ≠ (v163 : Value).ownBlock ∧ some k_ ≠ (v138 : Value).ownBlock ∧ some k_ ≠ (v141 : Value).ownBlock ∧ some k_ ≠ (v144 : Value).ownBlock) ho1 (fun k_ hk_ => ⟨hk_.2.1, hk_.2.2, Or.elim hk_.1 (fun hs_ => Or.elim hs_ (fun hs_ => fun e_ => (((HO139.out).1 k_ e_.symm).2) hs_) (fun hs_ => hs_.2.1)) (fun hn_ => (Kd.fresh' (Kd.R_lt (gR HO139)) k_ hn_)), Or.elim hk_.1 (fun hs_ => Or.elim hs_ (fun hs_ => fun e_ => (((HO142.out).1 k_ e_.symm).1.2) hs_) (fun hs_ => hs_.2.2.1)) (fun hn_ => (Kd.fresh' (Kd.N_lt (gN HO142)) k_ hn_)), Or.elim hk_.1 (fun hs_ => Or.elim hs_ (fun hs_ => fun e_ => (((HO145.out).1 k_ e_.symm).1.2) hs_) (fun hs_ => hs_.2.2.2)) (fun hn_ => (Kd.fresh' (Kd.N_lt (gN HO145)) k_ hn_))⟩)); have HO164 := gA (Kd.N_lower (Kd.N_mono (ok' := fun k_ => some k_ ≠ (v157 : Value).ownBlock ∧ some k_ ≠ (v138 : Value).ownBlock ∧ some k_ ≠ (v141 : Value).ownBlock ∧ some k_ ≠ (v144 : Value).ownBlock) ho2 (fun k_ hk_ => ⟨hk_.2, Or.elim hk_.1 (fun hs_ => Or.elim hs_ (fun hs_ => fun e_ => (((HO139.out).1 k_ e_.symm).2) hs_) (fun hs_ => hs_.2.1)) (fun hn_ => (Kd.fresh' (Kd.R_lt (gR HO139)) k_ hn_)), Or.elim hk_.1 (fun hs_ => Or.elim hs_ (fun hs_ => fun e_ => (((HO142.out).1 k_ e_.symm).1.2) hs_) (fun hs_ => hs_.2.2.1)) (fun hn_ => (Kd.fresh' (Kd.N_lt (gN HO142)) k_ hn_)), Or.elim hk_.1 (fun hs_ => Or.elim hs_ (fun hs_ => fun e_ => (((HO145.out).1 k_ e_.symm).1.2) hs_) (fun hs_ => hs_.2.2.2)) (fun hn_ => (Kd.fresh' (Kd.N_lt (gN HO145)) k_ hn_))⟩)) (below_size (gB HB))); replace HO139 := gA (Kd.R_mono (ok' := fun k_ => some k_ ≠ (v157 : Value).ownBlock) (Kd.R_keptB (HO139.out) hkp (fun k_ hk_ hs_ => (hk_.2) hs_)) (fun k_ hk_ => fun e_ => Or.elim (ho0.1 k_ e_.symm) (fun hs_ => hk_.2.1 hs_) (fun hn_ => Nat.not_le.2 hk_.2.2 hn_))); replace HO142 := gA (Kd.N_mono (ok' := fun k_ => some k_ ≠ (v138 : Value).ownBlock ∧ some k_ ≠ (v144 : Value).ownBlock ∧ some k_ ≠ (.slice Ao19 t150.length co19 : Value).ownBlock ∧ some k_ ≠ (v157 : Value).ownBlock ∧ some k_ ≠ (v163 : Value).ownBlock) (Kd.N_keptB (HO142.out) hkp (fun k_ hk_ hs_ => (hk_.1.2) hs_)) (fun k_ hk_ => ⟨hk_.1.1.1.1, hk_.1.1.1.2, hk_.1.2, fun e_ => Or.elim (ho0.1 k_ e_.symm) (fun hs_ => hk_.2.1 hs_) (fun hn_ => Nat.not_le.2 hk_.2.2 hn_), fun e_ => Nat.not_le.2 hk_.2.2 (Kd.N_base ho2 k_ e_.symm)⟩)); replace HO145 := gA (Kd.N_mono (ok' := fun k_ => some k_ ≠ (v138 : Value).ownBlock ∧ some k_ ≠ (v141 : Value).ownBlock ∧ some k_ ≠ (.slice Ao19 t150.length co19 : Value).ownBlock ∧ some k_ ≠ (v157 : Value).ownBlock ∧ some k_ ≠ (v163 : Value).ownBlock) (Kd.N_keptB (HO145.out) hkp (fun k_ hk_ hs_ => (hk_.1.2) hs_)) (fun k_ hk_ => ⟨hk_.1.1.1.1, hk_.1.1.1.2, hk_.1.2, fun e_ => Or.elim (ho0.1 k_ e_.symm) (fun hs_ => hk_.2.1 hs_) (fun hn_ => Nat.not_le.2 hk_.2.2 hn_), fun e_ => Nat.not_le.2 hk_.2.2 (Kd.N_base ho2 k_ e_.symm)⟩)); replace HB := gA (hb); clear HO149; (try clear hb); (try clear hkp); (try clear ho0); (try clear ho1); (try clear ho2); obtain ⟨Ao21, co21, eo21⟩ := Kd.R_slice HO139.out; subst eo21; obtain ⟨Ao22, co22, eo22⟩ := Kd.N_slice HO142.out; subst eo22; obtain ⟨Ao23, co23, eo23⟩ := Kd.N_slice HO145.out; subst eo23; obtain ⟨Ao24, co24, eo24⟩ := Kd.R_slice HO158.out; subst eo24; obtain ⟨Ao25, co25, eo25⟩ := Kd.V_slice HO161.out; subst eo25; obtain ⟨Ao26, co26, eo26⟩ := Kd.N_slice HO164.out; subst eo26) | ((with_reducible refine gate_callee (f := 21) rfl ?_); refine goesL_ (some 5) rfl rfl Try.func21 (by kernel_rfl) rfl #[.agg #[.int .i64 t134, .int .i64 t135, .string t136, .slice Ao21 t137.length co21, .slice Ao22 t140.length co22, .slice Ao23 t143.length co23, .int .i64 t146], .agg #[.int .i64 t153, .int .i64 t154, .string t155, .slice Ao24 t156.length co24, .slice Ao25 t159.length co25, .slice Ao26 t162.length co26, .int .i64 t165]] rfl (by (try simp only [List.map_toArray, List.map_cons, List.map_nil]); first | done | rfl | (simp only [List.length_drop, List.length_take]; rfl)) ?_; (with_reducible refine (triglyphref10_One.calls t134 t135 t136 (fun k_ => some k_ = (.slice Ao21 t137.length co21 : Value).ownBlock) _ _ t137 (fun k_ => (some k_ ≠ (.slice Ao21 t137.length co21 : Value).ownBlock ∧ (some k_ ≠ (.slice Ao23 t143.length co23 : Value).ownBlock ∧ (some k_ ≠ (.slice Ao19 t150.length co19 : Value).ownBlock ∧ (some k_ ≠ (.slice Ao24 t156.length co24 : Value).ownBlock ∧ some k_ ≠ (.slice Ao26 t162.length co26 : Value).ownBlock))))) _ _ t140 (fun k_ => (some k_ ≠ (.slice Ao21 t137.length co21 : Value).ownBlock ∧ (some k_ ≠ (.slice Ao22 t140.length co22 : Value).ownBlock ∧ (some k_ ≠ (.slice Ao19 t150.length co19 : Value).ownBlock ∧ (some k_ ≠ (.slice Ao24 t156.length co24 : Value).ownBlock ∧ some k_ ≠ (.slice Ao26 t162.length co26 : Value).ownBlock))))) _ _ t143 t146 t153 t154 t155 (fun k_ => some k_ = (.slice Ao24 t156.length co24 : Value).ownBlock) _ _ t156 (fun k_ => (some k_ ≠ (.slice Ao24 t156.length co24 : Value).ownBlock ∧ (some k_ ≠ (.slice Ao26 t162.length co26 : Value).ownBlock ∧ (some k_ ≠ (.slice Ao21 t137.length co21 : Value).ownBlock ∧ (some k_ ≠ (.slice Ao22 t140.length co22 : Value).ownBlock ∧ some k_ ≠ (.slice Ao23 t143.length co23 : Value).ownBlock))))) _ _ t159 (fun k_ => (some k_ ≠ (.slice Ao24 t156.length co24 : Value).ownBlock ∧ (some k_ ≠ (.slice Ao21 t137.length co21 : Value).ownBlock ∧ (some k_ ≠ (.slice Ao22 t140.length co22 : Value).ownBlock ∧ some k_ ≠ (.slice Ao23 t143.length co23 : Value).ownBlock)))) _ _ t162 t165 t166 t167 t168 t169 t172 t175 t178 _ ?side1 ?side2 ?side3 ?side4 ?side5 ?side6 A4.out).mono ?_); (case side1 => exact Kd.R_V (Kd.R_tight rfl (Kd.R_apart' (Kd.R_apart' (Kd.R_apart' (Kd.R_apart' (HO139.out) (Kd.N_typed HO142.out) (by decide)) (Kd.N_typed HO145.out) (by decide)) (Kd.N_typed HO152.out) (by decide)) (Kd.N_typed HO164.out) (by decide)))); (case side2 => exact Kd.N_V (HO142.out)); (case side3 => exact Kd.N_V (HO145.out)); (case side4 => exact Kd.R_V (Kd.R_tight rfl (Kd.R_apart' (Kd.R_apart' (Kd.R_apart' (Kd.R_apart' (HO158.out) (Kd.N_typed HO142.out) (by decide)) (Kd.N_typed HO145.out) (by decide)) (Kd.N_typed HO152.out) (by decide)) (Kd.N_typed HO164.out) (by decide)))); (case side5 => exact HO161.out); (case side6 => exact Kd.N_V (HO164.out)); rintro e w27 ⟨v170, v173, v176, rfl, ho0, ho1, ho2, hb⟩; refine ⟨_, rfl, ?_⟩; replace HO142 := gA (Kd.N_mono (Kd.N_told (Kd.N_told (Kd.N_told (Kd.N_old (gN HO142) hb) (Kd.R_base ho0)) (by first | exact Kd.N_base ho1 | exact Kd.R_base ho1)) (by first | exact Kd.N_base ho2 | exact Kd.R_base ho2)) (fun _ h_ => h_.1)); replace HO145 := gA (Kd.N_mono (Kd.N_told (Kd.N_told (Kd.N_told (Kd.N_old (gN HO145) hb) (Kd.R_base ho0)) (by first | exact Kd.N_base ho1 | exact Kd.R_base ho1)) (by first | exact Kd.N_base ho2 | exact Kd.R_base ho2)) (fun _ h_ => h_.1)); replace HO152 := gA (Kd.N_mono (Kd.N_told (Kd.N_told (Kd.N_told (Kd.N_old (gN HO152) hb) (Kd.R_base ho0)) (by first | exact Kd.N_base ho1 | exact Kd.R_base ho1)) (by first | exact Kd.N_base ho2 | exact Kd.R_base ho2)) (fun _ h_ => h_.1)); replace HO161 := gA (Kd.V_mono (Kd.V_told (Kd.V_told (Kd.V_told (Kd.V_old (gV HO161) hb) (Kd.R_base ho0)) (by first | exact Kd.N_base ho1 | exact Kd.R_base ho1)) (by first | exact Kd.N_base ho2 | exact Kd.R_base ho2)) (fun _ h_ => h_.1)); replace HO164 := gA (Kd.N_mono (Kd.N_told (Kd.N_told (Kd.N_told (Kd.N_old (gN HO164) hb) (Kd.R_base ho0)) (by first | exact Kd.N_base ho1 | exact Kd.R_base ho1)) (by first | exact Kd.N_base ho2 | exact Kd.R_base ho2)) (fun _ h_ => h_.1)); have HO171 := gA (Kd.R_lower (Kd.R_new' (Kd.R_new' (Kd.R_mono (ok' := fun k_ => True) ho0 (fun _ hk_ => trivial)) (Kd.R_lt (gR HO139))) (Kd.R_lt (gR HO158))) (below_size (gB HB))); replace HO139 := gA (Kd.R_elder' (gR HO139) (Kd.R_base ho0) hb); replace HO158 := gA (Kd.R_elder' (gR HO158) (Kd.R_base ho0) hb); have HO174 := gA (Kd.N_lower (Kd.N_mono (ok' := fun k_ => some k_ ≠ (v170 : Value).ownBlock ∧ some k_ ≠ (v176 : Value).ownBlock) ho1 (fun k_ hk_ => ⟨hk_.2.1, hk_.2.2⟩)) (below_size (gB HB))); have HO177 := gA (Kd.N_lower (Kd.N_mono (ok' := fun k_ => some k_ ≠ (v170 : Value).ownBlock ∧ some k_ ≠ (v173 : Value).ownBlock) ho2 (fun k_ hk_ => ⟨hk_.2.1, hk_.2.2⟩)) (below_size (gB HB))); replace HB := gA (below_step (gB HB) hb); (try clear hb); (try clear ho0); (try clear ho1); (try clear ho2)) | ((with_reducible refine gate_dst (N := 1) rfl ?_); refine box_event ?hg (N := 1) ?hd (cs := #[.int .i64 0, .int .i64 0, .string (⟨#[]⟩ : ByteArray), .slice none 0 0, .slice none 0 0, .slice none 0 0, .int .i64 0]) (t := 34) ?hr ?_; (case hd => rfl); (case hg => rfl); (case hr => first | (go_simp; done) | (go_simp; rfl)); intro gb179 hg w28 hbox hb; replace HO139 := gA (Kd.R_below (gR HO139) hb); replace HO142 := gA (Kd.N_below (Kd.N_elderB (gN HO142) gb179 (Nat.le_of_eq hg.symm)) hb); replace HO145 := gA (Kd.N_below (Kd.N_elderB (gN HO145) gb179 (Nat.le_of_eq hg.symm)) hb); replace HO152 := gA (Kd.N_below (Kd.N_elderB (gN HO152) gb179 (Nat.le_of_eq hg.symm)) hb); replace HO158 := gA (Kd.R_below (gR HO158) hb); replace HO161 := gA (Kd.V_below (Kd.V_elderB (gV HO161) gb179 (Nat.le_of_eq hg.symm)) hb); replace HO164 := gA (Kd.N_below (Kd.N_elderB (gN HO164) gb179 (Nat.le_of_eq hg.symm)) hb); replace HO171 := gA (Kd.R_below (gR HO171) hb); replace HO174 := gA (Kd.N_below (Kd.N_elderB (gN HO174) gb179 (Nat.le_of_eq hg.symm)) hb); replace HO177 := gA (Kd.N_below (Kd.N_elderB (gN HO177) gb179 (Nat.le_of_eq hg.symm)) hb); have BK179 := gA (hbox); have GW179 := gA ((by rw [hg]; exact (below_size (gB HB)) : w.heap.size ≤ gb179)); have GE179 := gA ((by rw [hg]; exact (below_size (gB HB)) : w.heap.size ≤ gb179)); replace HB := gA (below_step (gB HB) hb); clear hb hbox hg; have hcz29_0 := gz BK179 0 rfl; have hcz29_1 := gz BK179 1 rfl; have hcz29_2 := gz BK179 2 rfl; have hcz29_3 := gz BK179 3 rfl; have hcz29_4 := gz BK179 4 rfl; have hcz29_5 := gz BK179 5 rfl; have hcz29_6 := gz BK179 6 rfl; have hfz29_0 := blk_frozen BK179.out 0; have hfz29_1 := blk_frozen BK179.out 1; have hfz29_2 := blk_frozen BK179.out 2; have hfz29_3 := blk_frozen BK179.out 3; have hfz29_4 := blk_frozen BK179.out 4; have hfz29_5 := blk_frozen BK179.out 5; have hfz29_6 := blk_frozen BK179.out 6; obtain ⟨Ao30, co30, eo30⟩ := Kd.R_slice HO171.out; subst eo30; obtain ⟨Ao31, co31, eo31⟩ := Kd.N_slice HO174.out; subst eo31; obtain ⟨Ao32, co32, eo32⟩ := Kd.N_slice HO177.out; subst eo32) | ((with_reducible refine gate_callee (f := 20) rfl ?_); refine goesL_ (some 7) rfl rfl Try.func20 (by kernel_rfl) rfl #[.agg #[.int .i64 t166, .int .i64 t167, .string t168, .slice Ao30 t169.length co30, .slice Ao31 t172.length co31, .slice Ao32 t175.length co32, .int .i64 t178]] rfl (by (try simp only [List.map_toArray, List.map_cons, List.map_nil]); first | done | rfl | (simp only [List.length_drop, List.length_take]; rfl)) ?_; (with_reducible refine (core_Check.calls k t166 t167 t168 _ _ t169 _ _ t172 _ _ t175 t178 t180 _ ?side1 ?side2 ?side3 ?side4 ?side5 ?side6 A5.out).mono ?_); (case side1 => refine (Kd.R_reads' (e := 3) (base := w.heap.size) (ok := fun k_ => ((True ∧ some k_ ≠ (.slice Ao21 t137.length co21 : Value).ownBlock) ∧ some k_ ≠ (.slice Ao24 t156.length co24 : Value).ownBlock)) (n := t169.length) (c := co30) ?_).2.2; exact (by (with_reducible repeat (first | apply Kd.R_alloc | apply Kd.R_drewN | apply Kd.R_drew)); exact (Kd.R_mono (Kd.R_far (p := ⟨gb179, 6, none⟩) (Kd.R_far (p := ⟨gb179, 5, none⟩) (Kd.R_far (p := ⟨gb179, 4, none⟩) (Kd.R_far (p := ⟨gb179, 3, none⟩) (Kd.R_far (p := ⟨gb179, 2, none⟩) (Kd.R_far (p := ⟨gb179, 1, none⟩) (Kd.R_far (p := ⟨gb179, 0, none⟩) (Kd.R_types HO171.out BK179.out (by decide)) (fun _ hk => hk.2) (.int .i64 t166)) (fun _ hk => hk.2) (.int .i64 t167)) (fun _ hk => hk.2) (.string t168)) (fun _ hk => hk.2) (.slice Ao30 t169.length co30)) (fun _ hk => hk.2) (.slice Ao31 t172.length co31)) (fun _ hk => hk.2) (.slice Ao32 t175.length co32)) (fun _ hk => hk.2) (.int .i64 t178)) (fun _ h_ => h_.1)))); (case side2 => exact (Kd.R_reads' HO171.out).2.1); (case side3 => refine (Kd.N_reads' (e := 52) (base := w.heap.size) (ok := fun k_ => ((some k_ ≠ (.slice Ao30 t169.length co30 : Value).ownBlock ∧ some k_ ≠ (.slice Ao32 t175.length co32 : Value).ownBlock) ∧ k_ ≠ gb179)) (n := t172.length) (c := co31) ?_).2.2; exact (by (with_reducible repeat (first | apply Kd.N_alloc | apply Kd.N_drewN | apply Kd.N_drew)); exact (Kd.N_mono (Kd.N_far (p := ⟨gb179, 6, none⟩) (Kd.N_far (p := ⟨gb179, 5, none⟩) (Kd.N_far (p := ⟨gb179, 4, none⟩) (Kd.N_far (p := ⟨gb179, 3, none⟩) (Kd.N_far (p := ⟨gb179, 2, none⟩) (Kd.N_far (p := ⟨gb179, 1, none⟩) (Kd.N_far (p := ⟨gb179, 0, none⟩) (Kd.N_mono HO174.out (fun k_ hk => (⟨hk, hk.2⟩ : _ ∧ k_ ≠ gb179))) (fun _ hk => hk.2) (.int .i64 t166)) (fun _ hk => hk.2) (.int .i64 t167)) (fun _ hk => hk.2) (.string t168)) (fun _ hk => hk.2) (.slice Ao30 t169.length co30)) (fun _ hk => hk.2) (.slice Ao31 t172.length co31)) (fun _ hk => hk.2) (.slice Ao32 t175.length co32)) (fun _ hk => hk.2) (.int .i64 t178)) (fun _ h_ => h_.1)))); (case side4 => exact (Kd.N_reads' HO174.out).2.1); (case side5 => refine (Kd.N_reads' (e := 34) (base := w.heap.size) (ok := fun k_ => ((some k_ ≠ (.slice Ao30 t169.length co30 : Value).ownBlock ∧ some k_ ≠ (.slice Ao31 t172.length co31 : Value).ownBlock) ∧ k_ ≠ gb179)) (n := t175.length) (c := co32) ?_).2.2; exact (by (with_reducible repeat (first | apply Kd.N_alloc | apply Kd.N_drewN | apply Kd.N_drew)); exact (Kd.N_mono (Kd.N_far (p := ⟨gb179, 6, none⟩) (Kd.N_far (p := ⟨gb179, 5, none⟩) (Kd.N_far (p := ⟨gb179, 4, none⟩) (Kd.N_far (p := ⟨gb179, 3, none⟩) (Kd.N_far (p := ⟨gb179, 2, none⟩) (Kd.N_far (p := ⟨gb179, 1, none⟩) (Kd.N_far (p := ⟨gb179, 0, none⟩) (Kd.N_mono HO177.out (fun k_ hk => (⟨hk, hk.2⟩ : _ ∧ k_ ≠ gb179))) (fun _ hk => hk.2) (.int .i64 t166)) (fun _ hk => hk.2) (.int .i64 t167)) (fun _ hk => hk.2) (.string t168)) (fun _ hk => hk.2) (.slice Ao30 t169.length co30)) (fun _ hk => hk.2) (.slice Ao31 t172.length co31)) (fun _ hk => hk.2) (.slice Ao32 t175.length co32)) (fun _ hk => hk.2) (.int .i64 t178)) (fun _ h_ => h_.1)))); (case side6 => exact (Kd.N_reads' HO177.out).2.1); rintro e w33 ⟨rfl, hb⟩; refine ⟨_, rfl, ?_⟩; replace HO139 := gA (Kd.R_below (by (with_reducible repeat (first | apply Kd.R_alloc | apply Kd.R_drewN | apply Kd.R_drew)); exact (Kd.R_mono (Kd.R_far (p := ⟨gb179, 6, none⟩) (Kd.R_far (p := ⟨gb179, 5, none⟩) (Kd.R_far (p := ⟨gb179, 4, none⟩) (Kd.R_far (p := ⟨gb179, 3, none⟩) (Kd.R_far (p := ⟨gb179, 2, none⟩) (Kd.R_far (p := ⟨gb179, 1, none⟩) (Kd.R_far (p := ⟨gb179, 0, none⟩) (Kd.R_types HO139.out BK179.out (by decide)) (fun _ hk => hk.2) (.int .i64 t166)) (fun _ hk => hk.2) (.int .i64 t167)) (fun _ hk => hk.2) (.string t168)) (fun _ hk => hk.2) (.slice Ao30 t169.length co30)) (fun _ hk => hk.2) (.slice Ao31 t172.length co31)) (fun _ hk => hk.2) (.slice Ao32 t175.length co32)) (fun _ hk => hk.2) (.int .i64 t178)) (fun _ h_ => h_.1))) hb); replace HO142 := gA (Kd.N_below (by (with_reducible repeat (first | apply Kd.N_alloc | apply Kd.N_drewN | apply Kd.N_drew)); exact (Kd.N_mono (Kd.N_far (p := ⟨gb179, 6, none⟩) (Kd.N_far (p := ⟨gb179, 5, none⟩) (Kd.N_far (p := ⟨gb179, 4, none⟩) (Kd.N_far (p := ⟨gb179, 3, none⟩) (Kd.N_far (p := ⟨gb179, 2, none⟩) (Kd.N_far (p := ⟨gb179, 1, none⟩) (Kd.N_far (p := ⟨gb179, 0, none⟩) (Kd.N_mono HO142.out (fun k_ hk => (⟨hk, hk.2⟩ : _ ∧ k_ ≠ gb179))) (fun _ hk => hk.2) (.int .i64 t166)) (fun _ hk => hk.2) (.int .i64 t167)) (fun _ hk => hk.2) (.string t168)) (fun _ hk => hk.2) (.slice Ao30 t169.length co30)) (fun _ hk => hk.2) (.slice Ao31 t172.length co31)) (fun _ hk => hk.2) (.slice Ao32 t175.length co32)) (fun _ hk => hk.2) (.int .i64 t178)) (fun _ h_ => h_.1))) hb); replace HO145 := gA (Kd.N_below (by (with_reducible repeat (first | apply Kd.N_alloc | apply Kd.N_drewN | apply Kd.N_drew)); exact (Kd.N_mono (Kd.N_far (p := ⟨gb179, 6, none⟩) (Kd.N_far (p := ⟨gb179, 5, none⟩) (Kd.N_far (p := ⟨gb179, 4, none⟩) (Kd.N_far (p := ⟨gb179, 3, none⟩) (Kd.N_far (p := ⟨gb179, 2, none⟩) (Kd.N_far (p := ⟨gb179, 1, none⟩) (Kd.N_far (p := ⟨gb179, 0, none⟩) (Kd.N_mono HO145.out (fun k_ hk => (⟨hk, hk.2⟩ : _ ∧ k_ ≠ gb179))) (fun _ hk => hk.2) (.int .i64 t166)) (fun _ hk => hk.2) (.int .i64 t167)) (fun _ hk => hk.2) (.string t168)) (fun _ hk => hk.2) (.slice Ao30 t169.length co30)) (fun _ hk => hk.2) (.slice Ao31 t172.length co31)) (fun _ hk => hk.2) (.slice Ao32 t175.length co32)) (fun _ hk => hk.2) (.int .i64 t178)) (fun _ h_ => h_.1))) hb); replace HO152 := gA (Kd.N_below (by (with_reducible repeat (first | apply Kd.N_alloc | apply Kd.N_drewN | apply Kd.N_drew)); exact (Kd.N_mono (Kd.N_far (p := ⟨gb179, 6, none⟩) (Kd.N_far (p := ⟨gb179, 5, none⟩) (Kd.N_far (p := ⟨gb179, 4, none⟩) (Kd.N_far (p := ⟨gb179, 3, none⟩) (Kd.N_far (p := ⟨gb179, 2, none⟩) (Kd.N_far (p := ⟨gb179, 1, none⟩) (Kd.N_far (p := ⟨gb179, 0, none⟩) (Kd.N_mono HO152.out (fun k_ hk => (⟨hk, hk.2⟩ : _ ∧ k_ ≠ gb179))) (fun _ hk => hk.2) (.int .i64 t166)) (fun _ hk => hk.2) (.int .i64 t167)) (fun _ hk => hk.2) (.string t168)) (fun _ hk => hk.2) (.slice Ao30 t169.length co30)) (fun _ hk => hk.2) (.slice Ao31 t172.length co31)) (fun _ hk => hk.2) (.slice Ao32 t175.length co32)) (fun _ hk => hk.2) (.int .i64 t178)) (fun _ h_ => h_.1))) hb); replace HO158 := gA (Kd.R_below (by (with_reducible repeat (first | apply Kd.R_alloc | apply Kd.R_drewN | apply Kd.R_drew)); exact (Kd.R_mono (Kd.R_far (p := ⟨gb179, 6, none⟩) (Kd.R_far (p := ⟨gb179, 5, none⟩) (Kd.R_far (p := ⟨gb179, 4, none⟩) (Kd.R_far (p := ⟨gb179, 3, none⟩) (Kd.R_far (p := ⟨gb179, 2, none⟩) (Kd.R_far (p := ⟨gb179, 1, none⟩) (Kd.R_far (p := ⟨gb179, 0, none⟩) (Kd.R_types HO158.out BK179.out (by decide)) (fun _ hk => hk.2) (.int .i64 t166)) (fun _ hk => hk.2) (.int .i64 t167)) (fun _ hk => hk.2) (.string t168)) (fun _ hk => hk.2) (.slice Ao30 t169.length co30)) (fun _ hk => hk.2) (.slice Ao31 t172.length co31)) (fun _ hk => hk.2) (.slice Ao32 t175.length co32)) (fun _ hk => hk.2) (.int .i64 t178)) (fun _ h_ => h_.1))) hb); replace HO161 := gA (Kd.V_below (by (with_reducible repeat (first | apply Kd.V_alloc | apply Kd.V_drewN | apply Kd.V_drew)); exact (Kd.V_mono (Kd.V_far (p := ⟨gb179, 6, none⟩) (Kd.V_far (p := ⟨gb179, 5, none⟩) (Kd.V_far (p := ⟨gb179, 4, none⟩) (Kd.V_far (p := ⟨gb179, 3, none⟩) (Kd.V_far (p := ⟨gb179, 2, none⟩) (Kd.V_far (p := ⟨gb179, 1, none⟩) (Kd.V_far (p := ⟨gb179, 0, none⟩) (Kd.V_mono HO161.out (fun k_ hk => (⟨hk, hk.2⟩ : _ ∧ k_ ≠ gb179))) (fun _ hk => hk.2) (.int .i64 t166)) (fun _ hk => hk.2) (.int .i64 t167)) (fun _ hk => hk.2) (.string t168)) (fun _ hk => hk.2) (.slice Ao30 t169.length co30)) (fun _ hk => hk.2) (.slice Ao31 t172.length co31)) (fun _ hk => hk.2) (.slice Ao32 t175.length co32)) (fun _ hk => hk.2) (.int .i64 t178)) (fun _ h_ => h_.1))) hb); replace HO164 := gA (Kd.N_below (by (with_reducible repeat (first | apply Kd.N_alloc | apply Kd.N_drewN | apply Kd.N_drew)); exact (Kd.N_mono (Kd.N_far (p := ⟨gb179, 6, none⟩) (Kd.N_far (p := ⟨gb179, 5, none⟩) (Kd.N_far (p := ⟨gb179, 4, none⟩) (Kd.N_far (p := ⟨gb179, 3, none⟩) (Kd.N_far (p := ⟨gb179, 2, none⟩) (Kd.N_far (p := ⟨gb179, 1, none⟩) (Kd.N_far (p := ⟨gb179, 0, none⟩) (Kd.N_mono HO164.out (fun k_ hk => (⟨hk, hk.2⟩ : _ ∧ k_ ≠ gb179))) (fun _ hk => hk.2) (.int .i64 t166)) (fun _ hk => hk.2) (.int .i64 t167)) (fun _ hk => hk.2) (.string t168)) (fun _ hk => hk.2) (.slice Ao30 t169.length co30)) (fun _ hk => hk.2) (.slice Ao31 t172.length co31)) (fun _ hk => hk.2) (.slice Ao32 t175.length co32)) (fun _ hk => hk.2) (.int .i64 t178)) (fun _ h_ => h_.1))) hb); replace HO171 := gA (Kd.R_below (by (with_reducible repeat (first | apply Kd.R_alloc | apply Kd.R_drewN | apply Kd.R_drew)); exact (Kd.R_mono (Kd.R_far (p := ⟨gb179, 6, none⟩) (Kd.R_far (p := ⟨gb179, 5, none⟩) (Kd.R_far (p := ⟨gb179, 4, none⟩) (Kd.R_far (p := ⟨gb179, 3, none⟩) (Kd.R_far (p := ⟨gb179, 2, none⟩) (Kd.R_far (p := ⟨gb179, 1, none⟩) (Kd.R_far (p := ⟨gb179, 0, none⟩) (Kd.R_types HO171.out BK179.out (by decide)) (fun _ hk => hk.2) (.int .i64 t166)) (fun _ hk => hk.2) (.int .i64 t167)) (fun _ hk => hk.2) (.string t168)) (fun _ hk => hk.2) (.slice Ao30 t169.length co30)) (fun _ hk => hk.2) (.slice Ao31 t172.length co31)) (fun _ hk => hk.2) (.slice Ao32 t175.length co32)) (fun _ hk => hk.2) (.int .i64 t178)) (fun _ h_ => h_.1))) hb); replace HO174 := gA (Kd.N_below (by (with_reducible repeat (first | apply Kd.N_alloc | apply Kd.N_drewN | apply Kd.N_drew)); exact (Kd.N_mono (Kd.N_far (p := ⟨gb179, 6, none⟩) (Kd.N_far (p := ⟨gb179, 5, none⟩) (Kd.N_far (p := ⟨gb179, 4, none⟩) (Kd.N_far (p := ⟨gb179, 3, none⟩) (Kd.N_far (p := ⟨gb179, 2, none⟩) (Kd.N_far (p := ⟨gb179, 1, none⟩) (Kd.N_far (p := ⟨gb179, 0, none⟩) (Kd.N_mono HO174.out (fun k_ hk => (⟨hk, hk.2⟩ : _ ∧ k_ ≠ gb179))) (fun _ hk => hk.2) (.int .i64 t166)) (fun _ hk => hk.2) (.int .i64 t167)) (fun _ hk => hk.2) (.string t168)) (fun _ hk => hk.2) (.slice Ao30 t169.length co30)) (fun _ hk => hk.2) (.slice Ao31 t172.length co31)) (fun _ hk => hk.2) (.slice Ao32 t175.length co32)) (fun _ hk => hk.2) (.int .i64 t178)) (fun _ h_ => h_.1))) hb); replace HO177 := gA (Kd.N_below (by (with_reducible repeat (first | apply Kd.N_alloc | apply Kd.N_drewN | apply Kd.N_drew)); exact (Kd.N_mono (Kd.N_far (p := ⟨gb179, 6, none⟩) (Kd.N_far (p := ⟨gb179, 5, none⟩) (Kd.N_far (p := ⟨gb179, 4, none⟩) (Kd.N_far (p := ⟨gb179, 3, none⟩) (Kd.N_far (p := ⟨gb179, 2, none⟩) (Kd.N_far (p := ⟨gb179, 1, none⟩) (Kd.N_far (p := ⟨gb179, 0, none⟩) (Kd.N_mono HO177.out (fun k_ hk => (⟨hk, hk.2⟩ : _ ∧ k_ ≠ gb179))) (fun _ hk => hk.2) (.int .i64 t166)) (fun _ hk => hk.2) (.int .i64 t167)) (fun _ hk => hk.2) (.string t168)) (fun _ hk => hk.2) (.slice Ao30 t169.length co30)) (fun _ hk => hk.2) (.slice Ao31 t172.length co31)) (fun _ hk => hk.2) (.slice Ao32 t175.length co32)) (fun _ hk => hk.2) (.int .i64 t178)) (fun _ h_ => h_.1))) hb); replace BK179 := gA (blk_below (g := gb179) (o := .cells #[.int .i64 t166, .int .i64 t167, .string t168, .slice Ao30 t169.length co30, .slice Ao31 t172.length co31, .slice Ao32 t175.length co32, .int .i64 t178] 34 (0, 0)) (by refine blk_put (cs := #[.int .i64 t166, .int .i64 t167, .string t168, .slice Ao30 t169.length co30, .slice Ao31 t172.length co31, .slice Ao32 t175.length co32, .int .i64 0]) ?_ 6 _ rfl; refine blk_put (cs := #[.int .i64 t166, .int .i64 t167, .string t168, .slice Ao30 t169.length co30, .slice Ao31 t172.length co31, .slice none 0 0, .int .i64 0]) ?_ 5 _ rfl; refine blk_put (cs := #[.int .i64 t166, .int .i64 t167, .string t168, .slice Ao30 t169.length co30, .slice none 0 0, .slice none 0 0, .int .i64 0]) ?_ 4 _ rfl; refine blk_put (cs := #[.int .i64 t166, .int .i64 t167, .string t168, .slice none 0 0, .slice none 0 0, .slice none 0 0, .int .i64 0]) ?_ 3 _ rfl; refine blk_put (cs := #[.int .i64 t166, .int .i64 t167, .string (⟨#[]⟩ : ByteArray), .slice none 0 0, .slice none 0 0, .slice none 0 0, .int .i64 0]) ?_ 2 _ rfl; refine blk_put (cs := #[.int .i64 t166, .int .i64 0, .string (⟨#[]⟩ : ByteArray), .slice none 0 0, .slice none 0 0, .slice none 0 0, .int .i64 0]) ?_ 1 _ rfl; refine blk_put (cs := #[.int .i64 0, .int .i64 0, .string (⟨#[]⟩ : ByteArray), .slice none 0 0, .slice none 0 0, .slice none 0 0, .int .i64 0]) ?_ 0 _ rfl; exact gK BK179) hb); replace HB := gA (below_step (by repeat first | exact gB HB | refine below_set ?_ GE179.out) hb); (try clear hb); (try clear hk)) | (go_at_call 20; (refine (core_Check.calls k 3 0 (⟨#[]⟩ : ByteArray) _ _ ([] : List Int) _ _ ([] : List (S52)) _ _ ([] : List (S34)) 0 t181 _ ?side1 ?side2 ?side3 ?side4 ?side5 ?side6 A7.out).mono ?_); (case side1 => exact Kd.C_nil _ _); (case side2 => exact Nat.le_refl _); (case side3 => exact Kd.C_nil _ _); (case side4 => exact Nat.le_refl _); (case side5 => exact Kd.C_nil _ _); (case side6 => exact Nat.le_refl _); rintro e w34 ⟨rfl, hb⟩; replace HO139 := gA (Kd.R_below (gR HO139) hb); replace HO142 := gA (Kd.N_below (gN HO142) hb); replace HO145 := gA (Kd.N_below (gN HO145) hb); replace HO152 := gA (Kd.N_below (gN HO152) hb); replace HO158 := gA (Kd.R_below (gR HO158) hb); replace HO161 := gA (Kd.V_below (gV HO161) hb); replace HO164 := gA (Kd.N_below (gN HO164) hb); replace HO171 := gA (Kd.R_below (gR HO171) hb); replace HO174 := gA (Kd.N_below (gN HO174) hb); replace HO177 := gA (Kd.N_below (gN HO177) hb); replace BK179 := gA (blk_below (gK BK179) hb); replace HB := gA (below_step (gB HB) hb); (try clear hb); (try clear hk); have hcz35_0 := gz BK179 0 rfl; have hcz35_1 := gz BK179 1 rfl; have hcz35_2 := gz BK179 2 rfl; have hcz35_3 := gz BK179 3 rfl; have hcz35_4 := gz BK179 4 rfl; have hcz35_5 := gz BK179 5 rfl; have hcz35_6 := gz BK179 6 rfl; have hfz35_0 := blk_frozen BK179.out 0; have hfz35_1 := blk_frozen BK179.out 1; have hfz35_2 := blk_frozen BK179.out 2; have hfz35_3 := blk_frozen BK179.out 3; have hfz35_4 := blk_frozen BK179.out 4; have hfz35_5 := blk_frozen BK179.out 5; have hfz35_6 := blk_frozen BK179.out 6) | (go_at_call 16; (with_reducible refine (core_Same.calls t166 t167 t168 _ _ t169 _ _ t172 _ _ t175 t178 t166 t167 t168 _ _ t169 _ _ t172 _ _ t175 t178 true _ ?side1 ?side2 ?side3 ?side4 ?side5 ?side6 ?side7 ?side8 ?side9 ?side10 ?side11 ?side12 A9.out).mono ?_); (case side1 => repeat (first | exact (Kd.R_reads' HO171.out).2.2 | (with_reducible refine Kd.C_alloc ?_ _) | (with_reducible refine Kd.C_drewN ?_ _) | (with_reducible refine Kd.C_drew ?_))); (case side2 => exact (Kd.R_reads' HO171.out).2.1); (case side3 => repeat (first | exact (Kd.N_reads' HO174.out).2.2 | (with_reducible refine Kd.C_alloc ?_ _) | (with_reducible refine Kd.C_drewN ?_ _) | (with_reducible refine Kd.C_drew ?_))); (case side4 => exact (Kd.N_reads' HO174.out).2.1); (case side5 => repeat (first | exact (Kd.N_reads' HO177.out).2.2 | (with_reducible refine Kd.C_alloc ?_ _) | (with_reducible refine Kd.C_drewN ?_ _) | (with_reducible refine Kd.C_drew ?_))); (case side6 => exact (Kd.N_reads' HO177.out).2.1); (case side7 => repeat (first | exact (Kd.R_reads' HO171.out).2.2 | (with_reducible refine Kd.C_alloc ?_ _) | (with_reducible refine Kd.C_drewN ?_ _) | (with_reducible refine Kd.C_drew ?_))); (case side8 => exact (Kd.R_reads' HO171.out).2.1); (case side9 => repeat (first | exact (Kd.N_reads' HO174.out).2.2 | (with_reducible refine Kd.C_alloc ?_ _) | (with_reducible refine Kd.C_drewN ?_ _) | (with_reducible refine Kd.C_drew ?_))); (case side10 => exact (Kd.N_reads' HO174.out).2.1); (case side11 => repeat (first | exact (Kd.N_reads' HO177.out).2.2 | (with_reducible refine Kd.C_alloc ?_ _) | (with_reducible refine Kd.C_drewN ?_ _) | (with_reducible refine Kd.C_drew ?_))); (case side12 => exact (Kd.N_reads' HO177.out).2.1); rintro e w36 ⟨rfl, hb⟩; replace HO139 := gA (Kd.R_below (gR HO139) hb); replace HO142 := gA (Kd.N_below (gN HO142) hb); replace HO145 := gA (Kd.N_below (gN HO145) hb); replace HO152 := gA (Kd.N_below (gN HO152) hb); replace HO158 := gA (Kd.R_below (gR HO158) hb); replace HO161 := gA (Kd.V_below (gV HO161) hb); replace HO164 := gA (Kd.N_below (gN HO164) hb); replace HO171 := gA (Kd.R_below (gR HO171) hb); replace HO174 := gA (Kd.N_below (gN HO174) hb); replace HO177 := gA (Kd.N_below (gN HO177) hb); replace BK179 := gA (blk_below (gK BK179) hb); replace HB := gA (below_step (gB HB) hb); (try clear hb); (try clear hk); have hcz37_0 := gz BK179 0 rfl; have hcz37_1 := gz BK179 1 rfl; have hcz37_2 := gz BK179 2 rfl; have hcz37_3 := gz BK179 3 rfl; have hcz37_4 := gz BK179 4 rfl; have hcz37_5 := gz BK179 5 rfl; have hcz37_6 := gz BK179 6 rfl; have hfz37_0 := blk_frozen BK179.out 0; have hfz37_1 := blk_frozen BK179.out 1; have hfz37_2 := blk_frozen BK179.out 2; have hfz37_3 := blk_frozen BK179.out 3; have hfz37_4 := blk_frozen BK179.out 4; have hfz37_5 := blk_frozen BK179.out 5; have hfz37_6 := blk_frozen BK179.out 6) | (go_at_call 30; (with_reducible refine (core_Size.calls k t166 t167 t168 _ _ t169 _ _ t172 _ _ t175 t178 t183 _ ?side1 ?side2 ?side3 ?side4 ?side5 ?side6 A11.out).mono ?_); (case side1 => repeat (first | exact (Kd.R_reads' HO171.out).2.2 | (with_reducible refine Kd.C_alloc ?_ _) | (with_reducible refine Kd.C_drewN ?_ _) | (with_reducible refine Kd.C_drew ?_))); (case side2 => exact (Kd.R_reads' HO171.out).2.1); (case side3 => repeat (first | exact (Kd.N_reads' HO174.out).2.2 | (with_reducible refine Kd.C_alloc ?_ _) | (with_reducible refine Kd.C_drewN ?_ _) | (with_reducible refine Kd.C_drew ?_))); (case side4 => exact (Kd.N_reads' HO174.out).2.1); (case side5 => repeat (first | exact (Kd.N_reads' HO177.out).2.2 | (with_reducible refine Kd.C_alloc ?_ _) | (with_reducible refine Kd.C_drewN ?_ _) | (with_reducible refine Kd.C_drew ?_))); (case side6 => exact (Kd.N_reads' HO177.out).2.1); rintro e w38 ⟨rfl, hb⟩; replace HO139 := gA (Kd.R_below (gR HO139) hb); replace HO142 := gA (Kd.N_below (gN HO142) hb); replace HO145 := gA (Kd.N_below (gN HO145) hb); replace HO152 := gA (Kd.N_below (gN HO152) hb); replace HO158 := gA (Kd.R_below (gR HO158) hb); replace HO161 := gA (Kd.V_below (gV HO161) hb); replace HO164 := gA (Kd.N_below (gN HO164) hb); replace HO171 := gA (Kd.R_below (gR HO171) hb); replace HO174 := gA (Kd.N_below (gN HO174) hb); replace HO177 := gA (Kd.N_below (gN HO177) hb); replace BK179 := gA (blk_below (gK BK179) hb); replace HB := gA (below_step (gB HB) hb); (try clear hb); (try clear hk)) | (go_at_call 9; (with_reducible refine (core_Name.calls k (⟨#[97, 98, 49]⟩ : ByteArray) true _ A13.out).mono ?_); rintro e w' ⟨rfl, ⟨nd, rfl⟩⟩) | (go_at_call 9; (with_reducible refine (core_Name.calls k (⟨#[120]⟩ : ByteArray) t185 _ A15.out).mono ?_); rintro e w' ⟨rfl, ⟨nd, rfl⟩⟩))
   go_ret
   exact ⟨rfl, by repeat first | exact gB HB | refine below_set ?_ GE179.out⟩
  ·replace c14 := Bool.eq_false_iff.mpr c14
   subst c14
   have H1 : (none) = some r := by rw [if_neg (show ¬ (false = true) by decide)] at H; exact H
   clear H; have H := H1; clear H1
   exact absurd H (by simp)
 ·replace c10 := Bool.eq_false_iff.mpr c10
  subst c10
  have H1 : (none) = some r := by rw [if_neg (show ¬ (false = true) by decide)] at H; exact H
  clear H; have H := H1; clear H1
  exact absurd H (by simp)
mutual
def triglyphref03_weight.l0 : Nat → Int → Int → Int → Int → List Int → List (S52) → Option (Int)
 | 0, _, _, _, _, _, _ => none
 | k + 1, x1, x2, x7, x8, x187000, x187001 => if x8 < (x187001.length : Int) then (triglyphref03_weight.j1 k x1 x2 x7 x8 (decide (x7 ≤ x1)) x187000 x187001) else (triglyphref03_weight.j1 k x1 x2 x7 x8 false x187000 x187001)
def triglyphref03_weight.j1 : Nat → Int → Int → Int → Int → Bool → List Int → List (S52) → Option (Int)
 | 0, _, _, _, _, _, _, _ => none
 | k + 1, x1, x2, x7, x8, x26, x187000, x187001 => if x26 = true then (triglyphref03_weight.l1 k x1 x2 x7 x8 0 x187000 x187001) else (some x7)
def triglyphref03_weight.l1 : Nat → Int → Int → Int → Int → Int → List Int → List (S52) → Option (Int)
 | 0, _, _, _, _, _, _, _ => none
 | k + 1, x1, x2, x7, x8, x9, x187000, x187001 => if 0 ≤ x8 then (if x8 < (x187001.length : Int) then (if x9 < (((rd_T52 x187001 x8).f2).length : Int) then (triglyphref03_weight.j3 k x1 x2 x7 x8 x9 (decide (x7 ≤ x1)) x187000 x187001) else (triglyphref03_weight.j3 k x1 x2 x7 x8 x9 false x187000 x187001)) else (none)) else (none)
def triglyphref03_weight.j3 : Nat → Int → Int → Int → Int → Int → Bool → List Int → List (S52) → Option (Int)
 | 0, _, _, _, _, _, _, _, _ => none
 | k + 1, x1, x2, x7, x8, x9, x42, x187000, x187001 => if x42 = true then (if x2 = 0 then (some (wrap64 (x1 + 1))) else (if 0 ≤ x8 then (if x8 < (x187001.length : Int) then (if 0 ≤ x9 then (if x9 < (((rd_T52 x187001 x8).f2).length : Int) then ((triglyphref03_weight.f k ((rd_T25 ((rd_T52 x187001 x8).f2) x9).f0) ((rd_T25 ((rd_T52 x187001 x8).f2) x9).f1) (wrap64 (x1 - x7)) (wrap64 (x2 - 1))).bind fun t190 => (triglyphref03_weight.l1 k x1 x2 (wrap64 ((wrap64 (x7 + 1)) + t190)) x8 (wrap64 (x9 + 1)) x187000 x187001)) else (none)) else (none)) else (none)) else (none))) else (triglyphref03_weight.l0 k x1 x2 x7 (wrap64 (x8 + 1)) x187000 x187001)
def triglyphref03_weight.f : Nat → List Int → List (S52) → Int → Int → Option (Int)
 | 0, _, _, _, _ => none
 | k + 1, l0_0, l0_1, a1, a2 => triglyphref03_weight.l0 k a1 a2 (wrap64 ((l0_1.length : Int) + (l0_0.length : Int))) 0 l0_0 l0_1
end
theorem triglyphref03_weight.mono_l : ∀ k, (∀ y0 y1 y2 y3, LeO (triglyphref03_weight.f k y0 y1 y2 y3) (triglyphref03_weight.f (k + 1) y0 y1 y2 y3)) ∧ (∀ y0 y1 y2 y3 y4 y5, LeO (triglyphref03_weight.l0 k y0 y1 y2 y3 y4 y5) (triglyphref03_weight.l0 (k + 1) y0 y1 y2 y3 y4 y5)) ∧ (∀ y0 y1 y2 y3 y4 y5 y6, LeO (triglyphref03_weight.j1 k y0 y1 y2 y3 y4 y5 y6) (triglyphref03_weight.j1 (k + 1) y0 y1 y2 y3 y4 y5 y6)) ∧ (∀ y0 y1 y2 y3 y4 y5 y6, LeO (triglyphref03_weight.l1 k y0 y1 y2 y3 y4 y5 y6) (triglyphref03_weight.l1 (k + 1) y0 y1 y2 y3 y4 y5 y6)) ∧ (∀ y0 y1 y2 y3 y4 y5 y6 y7, LeO (triglyphref03_weight.j3 k y0 y1 y2 y3 y4 y5 y6 y7) (triglyphref03_weight.j3 (k + 1) y0 y1 y2 y3 y4 y5 y6 y7))
 | 0 => ⟨fun _ _ _ _ r h => by simp [triglyphref03_weight.f] at h, fun _ _ _ _ _ _ r h => by simp [triglyphref03_weight.l0] at h, fun _ _ _ _ _ _ _ r h => by simp [triglyphref03_weight.j1] at h, fun _ _ _ _ _ _ _ r h => by simp [triglyphref03_weight.l1] at h, fun _ _ _ _ _ _ _ _ r h => by simp [triglyphref03_weight.j3] at h⟩
 | k + 1 => by
  obtain ⟨ih0, ih1, ih2, ih3, ih4⟩ := triglyphref03_weight.mono_l k
  refine ⟨?_, ?_, ?_, ?_, ?_⟩
  ·intro y0 y1 y2 y3
   unfold triglyphref03_weight.f
   repeat' first
   | (with_reducible exact ih0 _ _ _ _)
   | (with_reducible exact ih1 _ _ _ _ _ _)
   | (with_reducible exact ih2 _ _ _ _ _ _ _)
   | (with_reducible exact ih3 _ _ _ _ _ _ _)
   | (with_reducible exact ih4 _ _ _ _ _ _ _ _)
   | (with_reducible exact LeO.refl _)
   | (with_reducible exact LeO.none _)
   | (with_reducible refine LeO.ite ?_ ?_)
   | (with_reducible refine LeO.bind ?_ (fun _ => ?_))








  ·intro y0 y1 y2 y3 y4 y5
   unfold triglyphref03_weight.l0
   repeat' first
   | (with_reducible exact ih0 _ _ _ _)
   | (with_reducible exact ih1 _ _ _ _ _ _)
   | (with_reducible exact ih2 _ _ _ _ _ _ _)
   | (with_reducible exact ih3 _ _ _ _ _ _ _)
   | (with_reducible exact ih4 _ _ _ _ _ _ _ _)
   | (with_reducible exact LeO.refl _)
   | (with_reducible exact LeO.none _)
   | (with_reducible refine LeO.ite ?_ ?_)
   | (with_reducible refine LeO.bind ?_ (fun _ => ?_))








  ·intro y0 y1 y2 y3 y4 y5 y6
   unfold triglyphref03_weight.j1
   repeat' first
   | (with_reducible exact ih0 _ _ _ _)
   | (with_reducible exact ih1 _ _ _ _ _ _)
   | (with_reducible exact ih2 _ _ _ _ _ _ _)
   | (with_reducible exact ih3 _ _ _ _ _ _ _)
   | (with_reducible exact ih4 _ _ _ _ _ _ _ _)
   | (with_reducible exact LeO.refl _)
   | (with_reducible exact LeO.none _)
   | (with_reducible refine LeO.ite ?_ ?_)
   | (with_reducible refine LeO.bind ?_ (fun _ => ?_))








  ·intro y0 y1 y2 y3 y4 y5 y6
   unfold triglyphref03_weight.l1
   repeat' first
   | (with_reducible exact ih0 _ _ _ _)
   | (with_reducible exact ih1 _ _ _ _ _ _)
   | (with_reducible exact ih2 _ _ _ _ _ _ _)
   | (with_reducible exact ih3 _ _ _ _ _ _ _)
   | (with_reducible exact ih4 _ _ _ _ _ _ _ _)
   | (with_reducible exact LeO.refl _)
   | (with_reducible exact LeO.none _)
   | (with_reducible refine LeO.ite ?_ ?_)
   | (with_reducible refine LeO.bind ?_ (fun _ => ?_))








  ·intro y0 y1 y2 y3 y4 y5 y6 y7
   unfold triglyphref03_weight.j3
   repeat' first
   | (with_reducible exact ih0 _ _ _ _)
   | (with_reducible exact ih1 _ _ _ _ _ _)
   | (with_reducible exact ih2 _ _ _ _ _ _ _)
   | (with_reducible exact ih3 _ _ _ _ _ _ _)
   | (with_reducible exact ih4 _ _ _ _ _ _ _ _)
   | (with_reducible exact LeO.refl _)
   | (with_reducible exact LeO.none _)
   | (with_reducible refine LeO.ite ?_ ?_)
   | (with_reducible refine LeO.bind ?_ (fun _ => ?_))
theorem triglyphref03_weight.mono : ∀ a0 a1 a2 a3 k, LeO (triglyphref03_weight.f k a0 a1 a2 a3) (triglyphref03_weight.f (k + 1) a0 a1 a2 a3) := by
 intro a0 a1 a2 a3 k
 obtain ⟨ih0, ih1, ih2, ih3, ih4⟩ := triglyphref03_weight.mono_l k
 exact ih0 a0 a1 a2 a3
set_option maxHeartbeats 8000000 in
set_option maxRecDepth 100000 in
theorem triglyphref03_weight.calls (k : Nat) : ∀ (A0_0 : Option Addr) (c0_0 : Nat) (l0_0 : List Int) (A0_1 : Option Addr) (c0_1 : Nat) (l0_1 : List (S52)) (a1 : Int) (a2 : Int) (r : Int) (w : World) (hr0_0 : Kd.C (Kd.int .i64) w A0_0 l0_0.length l0_0) (hc0_0 : l0_0.length ≤ c0_0) (hr0_1 : Kd.C k52 w A0_1 l0_1.length l0_1) (hc0_1 : l0_1.length ≤ c0_1) (h : triglyphref03_weight.f k l0_0 l0_1 a1 a2 = some r),
  Calls Try.prog 27 #[.agg #[.slice A0_0 l0_0.length c0_0, .slice A0_1 l0_1.length c0_1], .int .i64 a1, .int .i64 a2] w fun e w' => e = .returned (.int .i64 r) ∧ Below w.heap.size w w' := by
 induction k using Nat.strongRecOn with
 | _ k ih =>
 intro A0_0 c0_0 l0_0 A0_1 c0_1 l0_1 a1 a2 r w hr0_0 hc0_0 hr0_1 hc0_1 h
 cases k with
 | zero => exact absurd h (by simp [triglyphref03_weight.f])
 | succ k =>
 simp only [triglyphref03_weight.f] at h
 have hu25 := Try.underlying25
 have HR0_0 := gA hr0_0
 have HC0_0 := gA hc0_0
 clear hr0_0 hc0_0
 have HR0_1 := gA hr0_1
 have HC0_1 := gA hc0_1
 clear hr0_1 hc0_1
 have HB := gA (Below.refl w.heap.size w)
 have H : (triglyphref03_weight.l0 k a1 a2 (wrap64 ((l0_1.length : Int) + (l0_0.length : Int))) 0 l0_0 l0_1) = some r := h
 clear h
 have H' := gA H
 clear H
 go_enter Try.func27, Try.ntmps27
 go_wp2_with (first | ((with_reducible refine gate_dst (N := 3) rfl ?_); refine box_event ?hg (N := 3) ?hd (cs := #[.slice A0_0 l0_0.length c0_0, .slice A0_1 l0_1.length c0_1]) (t := 25) ?hr ?_; (case hd => rfl); (case hg => rfl); (case hr => first | (go_simp; done) | (go_simp; rfl)); intro gb186 hg w4 hbox hb; have BK186 := gA (hbox); have GW186 := gA ((by rw [hg]; exact (below_size (gB HB)) : w.heap.size ≤ gb186)); have GE186 := gA ((by rw [hg]; exact (below_size (gB HB)) : w.heap.size ≤ gb186)); replace HB := gA (below_step (gB HB) hb); clear hb hbox hg; obtain ⟨hcz5_0, hcz5_1, hfz5_0, hfz5_1⟩ := gz2 BK186))
 go_loopg [7, 8] k (fun kq v7 v8 w' => ∃ (x7_1 : Int) (x8_1 : Int), v7 = .int .i64 x7_1 ∧ v8 = .int .i64 x8_1 ∧ Aside0 (triglyphref03_weight.l0 kq a1 a2 x7_1 x8_1 l0_0 l0_1 = some r) ∧ Aside0 (kq ≤ k) ∧ Aside0 (w'.heap[gb186]? = some (.cells #[(.slice A0_0 l0_0.length c0_0), (.slice A0_1 l0_1.length c0_1)] 25 (0, 0))) ∧ Aside0 (Below w.heap.size w w'))
 case atStart => exact ⟨(wrap64 ((l0_1.length : Int) + (l0_0.length : Int))), (0), (rfl), (rfl), H', ⟨Nat.le_refl _⟩, ⟨gK BK186⟩, ⟨by repeat first | exact gB HB | refine below_set ?_ GE186.out⟩⟩
 case round =>
  clear H'
  try clear c2
  try clear p2
  try clear hcz5_0
  try clear hcz5_1
  try clear hfz5_0
  try clear hfz5_1
  obtain ⟨x7_1, x8_1, rfl, rfl, HA, HK1, BK186, HB⟩ := hrel
  cases gk with
  | zero => exact absurd HA.out (by simp [triglyphref03_weight.l0])
  | succ k1 =>
   have H := HA.out; clear HA
   simp only [triglyphref03_weight.l0] at H
   have HC6 := gA H
   clear H
   go_upto_region 3 with (fail)
   go_cut [26] (fun v26 wc => ∃ (kq : Nat) (x26_5 : Bool), v26 = .bool x26_5 ∧ Aside0 (triglyphref03_weight.j1 kq a1 a2 x7_1 x8_1 x26_5 l0_0 l0_1 = some r) ∧ Aside0 (kq ≤ k1) ∧ Aside0 (wc.heap[gb186]? = some (.cells #[(.slice A0_0 l0_0.length c0_0), (.slice A0_1 l0_1.length c0_1)] 25 (0, 0))) ∧ Aside0 (Below w.heap.size w wc))
   case first =>
    have H := HC6.out; clear HC6
    by_cases c7 : x8_1 < (l0_1.length : Int)
    ·rw [if_pos c7] at H
     have c7b0 := decide_eq_true c7
     clear c7
     (first | rw [c7b0] | (simp only [i64_w, i32_w]; rw [c7b0]) | skip)
     have H' := gA H
     clear H
     obtain ⟨hcz8_0, hcz8_1, hfz8_0, hfz8_1⟩ := gz2 BK186
     go_wp2
     all_goals (go_meet; (case rel => exact ⟨_, (decide (x7_1 ≤ a1)), (by first | rfl | (simp; done) | (simp [*]; done) | (exfalso; simp_all; done) | (exfalso; simp_all; omega)), H', ⟨by have := HK1.out; first | omega | exact Nat.le_refl _⟩, ⟨gK BK186⟩, ⟨gB HB⟩⟩))
    ·rw [if_neg c7] at H
     have c7b0 := decide_eq_false c7
     clear c7
     (first | rw [c7b0] | (simp only [i64_w, i32_w]; rw [c7b0]) | skip)
     have H' := gA H
     clear H
     obtain ⟨hcz9_0, hcz9_1, hfz9_0, hfz9_1⟩ := gz2 BK186
     go_wp2
     all_goals (go_meet; (case rel => exact ⟨_, (false), (by first | rfl | (simp; done) | (simp [*]; done) | (exfalso; simp_all; done) | (exfalso; simp_all; omega)), H', ⟨by have := HK1.out; first | omega | exact Nat.le_refl _⟩, ⟨gK BK186⟩, ⟨gB HB⟩⟩))
   case rest =>
    clear HC6
    try clear c2
    try clear p2
    try clear p6
    try clear c7
    try clear c7b0
    try clear hcz5_0
    try clear hcz5_1
    try clear hcz8_0
    try clear hcz8_1
    try clear hcz9_0
    try clear hcz9_1
    try clear hfz5_0
    try clear hfz5_1
    try clear hfz8_0
    try clear hfz8_1
    try clear hfz9_0
    try clear hfz9_1
    try clear p2
    obtain ⟨kq, x26_5, rfl, HA, HJ5, BK186, HB⟩ := hcut
    cases kq with
    | zero => exact absurd HA.out (by simp [triglyphref03_weight.j1])
    | succ kj5 =>
     have H := HA.out; clear HA
     simp only [triglyphref03_weight.j1] at H
     by_cases c10 : x26_5 = true
     ·subst c10
      have H1 : (triglyphref03_weight.l1 kj5 a1 a2 x7_1 x8_1 0 l0_0 l0_1) = some r := by rw [if_pos rfl] at H; exact H
      clear H; have H := H1; clear H1
      have H' := gA H
      clear H
      go_wp2
      go_loopg [7, 9] kj5 (fun kq v7 v9 w' => ∃ (x7_3 : Int) (x9_3 : Int), v7 = .int .i64 x7_3 ∧ v9 = .int .i64 x9_3 ∧ Aside0 (triglyphref03_weight.l1 kq a1 a2 x7_3 x8_1 x9_3 l0_0 l0_1 = some r) ∧ Aside0 (kq ≤ kj5) ∧ Aside0 (w'.heap[gb186]? = some (.cells #[(.slice A0_0 l0_0.length c0_0), (.slice A0_1 l0_1.length c0_1)] 25 (0, 0))) ∧ Aside0 (Below w.heap.size w w'))
      case atStart => exact ⟨(x7_1), (0), (rfl), (rfl), H', ⟨Nat.le_refl _⟩, ⟨gK BK186⟩, ⟨by repeat first | exact gB HB | refine below_set ?_ GE186.out⟩⟩
      case round =>
       clear H'
       try clear c1
       try clear c2
       try clear p2
       try clear p6
       try clear c7
       try clear c7b0
       try clear c10
       try clear hcz5_0
       try clear hcz5_1
       try clear hcz8_0
       try clear hcz8_1
       try clear hcz9_0
       try clear hcz9_1
       try clear hfz5_0
       try clear hfz5_1
       try clear hfz8_0
       try clear hfz8_1
       try clear hfz9_0
       try clear hfz9_1
       try clear p2
       try clear p6
       obtain ⟨x7_3, x9_3, rfl, rfl, HA, HK3, BK186, HB⟩ := hrel
       cases gk with
       | zero => exact absurd HA.out (by simp [triglyphref03_weight.l1])
       | succ k3 =>
        have H := HA.out; clear HA
        simp only [triglyphref03_weight.l1] at H
        have HC11 := gA H
        clear H
        go_upto_region 6 with (fail)
        go_cut [42] (fun v42 wc => ∃ (kq : Nat) (x42_10 : Bool), v42 = .bool x42_10 ∧ Aside0 (triglyphref03_weight.j3 kq a1 a2 x7_3 x8_1 x9_3 x42_10 l0_0 l0_1 = some r) ∧ Aside0 (kq ≤ k3) ∧ Aside0 (wc.heap[gb186]? = some (.cells #[(.slice A0_0 l0_0.length c0_0), (.slice A0_1 l0_1.length c0_1)] 25 (0, 0))) ∧ Aside0 (Below w.heap.size w wc))
        case first =>
         have H := HC11.out; clear HC11
         obtain ⟨c12, H⟩ := iS H
         have c12b0 := decide_eq_true c12
         clear c12
         (first | rw [c12b0] | (simp only [i64_w, i32_w]; rw [c12b0]) | skip)
         obtain ⟨c13, H⟩ := iS H
         have c13b0 := decide_eq_true c13
         clear c13
         by_cases c14 : x9_3 < (((rd_T52 l0_1 x8_1).f2).length : Int)
         ·rw [if_pos c14] at H
          have c14b0 := decide_eq_true c14
          clear c14
          have H' := gA H
          clear H
          obtain ⟨hcz15_0, hcz15_1, hfz15_0, hfz15_1⟩ := gz2 BK186
          have p187 : 0 ≤ (x8_1 : Int) := of_decide_eq_true (by assumption)
          have q187 : x8_1 < (l0_1.length : Int) := of_decide_eq_true (by assumption)
          obtain ⟨ad187, A187_2, c187_2, e187, hx187_0, hx187_1, hx187_2, hl187_2, hi187_2⟩ := at_T52 HR0_1.out x8_1 p187 q187
          cases e187
          replace hx187_0 := (HB.out.cell (World.block_lt_of_cell? w _ hx187_0)).trans hx187_0
          replace hx187_1 := (HB.out.cell (World.block_lt_of_cell? w _ hx187_1)).trans hx187_1
          replace hx187_2 := (HB.out.cell (World.block_lt_of_cell? w _ hx187_2)).trans hx187_2
          have HR187_2 := gA hi187_2
          have HC187_2 := gA hl187_2
          clear hi187_2 hl187_2
          replace p187 := eq_true p187
          replace q187 := eq_true q187
          go_wp2
          all_goals (go_meet; (case rel => exact ⟨_, (decide (x7_3 ≤ a1)), (by first | rfl | (simp; done) | (simp [*]; done) | (exfalso; simp_all; done) | (exfalso; simp_all; omega)), H', ⟨by have := HK1.out; have := HJ5.out; have := HK3.out; first | omega | exact Nat.le_refl _⟩, ⟨gK BK186⟩, ⟨gB HB⟩⟩))
         ·rw [if_neg c14] at H
          have c14b0 := decide_eq_false c14
          clear c14
          have H' := gA H
          clear H
          obtain ⟨hcz16_0, hcz16_1, hfz16_0, hfz16_1⟩ := gz2 BK186
          have p187 : 0 ≤ (x8_1 : Int) := of_decide_eq_true (by assumption)
          have q187 : x8_1 < (l0_1.length : Int) := of_decide_eq_true (by assumption)
          obtain ⟨ad187, A187_2, c187_2, e187, hx187_0, hx187_1, hx187_2, hl187_2, hi187_2⟩ := at_T52 HR0_1.out x8_1 p187 q187
          cases e187
          replace hx187_0 := (HB.out.cell (World.block_lt_of_cell? w _ hx187_0)).trans hx187_0
          replace hx187_1 := (HB.out.cell (World.block_lt_of_cell? w _ hx187_1)).trans hx187_1
          replace hx187_2 := (HB.out.cell (World.block_lt_of_cell? w _ hx187_2)).trans hx187_2
          have HR187_2 := gA hi187_2
          have HC187_2 := gA hl187_2
          clear hi187_2 hl187_2
          replace p187 := eq_true p187
          replace q187 := eq_true q187
          go_wp2
          all_goals (go_meet; (case rel => exact ⟨_, (false), (by first | rfl | (simp; done) | (simp [*]; done) | (exfalso; simp_all; done) | (exfalso; simp_all; omega)), H', ⟨by have := HK1.out; have := HJ5.out; have := HK3.out; first | omega | exact Nat.le_refl _⟩, ⟨gK BK186⟩, ⟨gB HB⟩⟩))
        case rest =>
         clear HC11
         try clear c1
         try clear p1
         try clear q1
         try clear hx1
         try clear c2
         try clear p2
         try clear p6
         try clear c7
         try clear c7b0
         try clear c10
         try clear c12
         try clear c12b0
         try clear c13
         try clear c13b0
         try clear c14
         try clear c14b0
         try clear hcz15_0
         try clear hcz15_1
         try clear hcz16_0
         try clear hcz16_1
         try clear hcz5_0
         try clear hcz5_1
         try clear hcz8_0
         try clear hcz8_1
         try clear hcz9_0
         try clear hcz9_1
         try clear hfz15_0
         try clear hfz15_1
         try clear hfz16_0
         try clear hfz16_1
         try clear hfz5_0
         try clear hfz5_1
         try clear hfz8_0
         try clear hfz8_1
         try clear hfz9_0
         try clear hfz9_1
         try clear hx187_0
         try clear hx187_1
         try clear hx187_2
         try clear p187
         try clear p2
         try clear p6
         try clear q187
         obtain ⟨kq, x42_10, rfl, HA, HJ10, BK186, HB⟩ := hcut
         cases kq with
         | zero => exact absurd HA.out (by simp [triglyphref03_weight.j3])
         | succ kj10 =>
          have H := HA.out; clear HA
          simp only [triglyphref03_weight.j3] at H
          by_cases c17 : x42_10 = true
          ·subst c17
           have H1 : (if a2 = 0 then (some (wrap64 (a1 + 1))) else (if 0 ≤ x8_1 then (if x8_1 < (l0_1.length : Int) then (if 0 ≤ x9_3 then (if x9_3 < (((rd_T52 l0_1 x8_1).f2).length : Int) then ((triglyphref03_weight.f kj10 ((rd_T25 ((rd_T52 l0_1 x8_1).f2) x9_3).f0) ((rd_T25 ((rd_T52 l0_1 x8_1).f2) x9_3).f1) (wrap64 (a1 - x7_3)) (wrap64 (a2 - 1))).bind fun t190 => (triglyphref03_weight.l1 kj10 a1 a2 (wrap64 ((wrap64 (x7_3 + 1)) + t190)) x8_1 (wrap64 (x9_3 + 1)) l0_0 l0_1)) else (none)) else (none)) else (none)) else (none))) = some r := by rw [if_pos rfl] at H; exact H
           clear H; have H := H1; clear H1
           by_cases c18 : a2 = 0
           ·rw [if_pos c18] at H
            have c18b0 : (a2 == 0) = true := beq_iff_eq.mpr c18
            have c18b1 : (a2 != 0) = false := bne_eq_false_iff_eq.mpr c18
            clear c18
            obtain rfl := Option.some.inj H
            go_wp2
            go_ret
            exact ⟨rfl, by repeat first | exact gB HB | refine below_set ?_ GE186.out⟩
           ·rw [if_neg c18] at H
            have c18b0 : (a2 == 0) = false := beq_eq_false_iff_ne.mpr c18
            have c18b1 : (a2 != 0) = true := bne_iff_ne.mpr c18
            obtain ⟨c19, H⟩ := iS H
            have c19b0 := decide_eq_true c19
            clear c19
            obtain ⟨c20, H⟩ := iS H
            have c20b0 := decide_eq_true c20
            clear c20
            obtain ⟨c21, H⟩ := iS H
            have c21b0 := decide_eq_true c21
            clear c21
            obtain ⟨c22, H⟩ := iS H
            have c22b0 := decide_eq_true c22
            clear c22
            replace H := Option.bind_eq_some_iff.mp H
            obtain ⟨t190, A230, H⟩ := H
            replace H : (triglyphref03_weight.l1 kj10 a1 a2 (wrap64 ((wrap64 (x7_3 + 1)) + t190)) x8_1 (wrap64 (x9_3 + 1)) l0_0 l0_1) = some r := H
            have A23 := gA A230
            clear A230
            have H' := gA H
            clear H
            obtain ⟨hcz24_0, hcz24_1, hfz24_0, hfz24_1⟩ := gz2 BK186
            have p188 : 0 ≤ (x8_1 : Int) := of_decide_eq_true (by assumption)
            have q188 : x8_1 < (l0_1.length : Int) := of_decide_eq_true (by assumption)
            obtain ⟨ad188, A188_2, c188_2, e188, hx188_0, hx188_1, hx188_2, hl188_2, hi188_2⟩ := at_T52 HR0_1.out x8_1 p188 q188
            cases e188
            replace hx188_0 := (HB.out.cell (World.block_lt_of_cell? w _ hx188_0)).trans hx188_0
            replace hx188_1 := (HB.out.cell (World.block_lt_of_cell? w _ hx188_1)).trans hx188_1
            replace hx188_2 := (HB.out.cell (World.block_lt_of_cell? w _ hx188_2)).trans hx188_2
            have HR188_2 := gA hi188_2
            have HC188_2 := gA hl188_2
            clear hi188_2 hl188_2
            replace p188 := eq_true p188
            replace q188 := eq_true q188
            have p189 : 0 ≤ (x9_3 : Int) := of_decide_eq_true (by assumption)
            have q189 : x9_3 < (((rd_T52 l0_1 x8_1).f2).length : Int) := of_decide_eq_true (by assumption)
            obtain ⟨ad189, A189_0, c189_0, A189_1, c189_1, e189, hx189_0, hx189_1, hl189_0, hi189_0, hl189_1, hi189_1⟩ := at_T25 HR188_2.out x9_3 p189 q189
            cases e189
            replace hx189_0 := (HB.out.cell (World.block_lt_of_cell? w _ hx189_0)).trans hx189_0
            replace hx189_1 := (HB.out.cell (World.block_lt_of_cell? w _ hx189_1)).trans hx189_1
            have HR189_0 := gA hi189_0
            have HC189_0 := gA hl189_0
            clear hi189_0 hl189_0
            have HR189_1 := gA hi189_1
            have HC189_1 := gA hl189_1
            clear hi189_1 hl189_1
            replace p189 := eq_true p189
            replace q189 := eq_true q189
            go_wp2_with (first | ((with_reducible refine gate_callee (f := 27) rfl ?_); refine goesL_ (some 65) rfl rfl Try.func27 (by kernel_rfl) rfl #[.agg #[.slice A189_0 ((rd_T25 ((rd_T52 l0_1 x8_1).f2) x9_3).f0).length c189_0, .slice A189_1 ((rd_T25 ((rd_T52 l0_1 x8_1).f2) x9_3).f1).length c189_1], .int .i64 (wrap64 (a1 - x7_3)), .int .i64 (wrap64 (a2 - 1))] rfl (by (try simp only [List.map_toArray, List.map_cons, List.map_nil]); first | done | rfl | (simp only [List.length_drop, List.length_take]; rfl)) ?_; (with_reducible refine (ih kj10 (by have := HK1.out; have := HJ5.out; have := HK3.out; have := HJ10.out; omega) _ _ ((rd_T25 ((rd_T52 l0_1 x8_1).f2) x9_3).f0) _ _ ((rd_T25 ((rd_T52 l0_1 x8_1).f2) x9_3).f1) (wrap64 (a1 - x7_3)) (wrap64 (a2 - 1)) t190 _ ?side1 ?side2 ?side3 ?side4 A23.out).mono ?_); (case side1 => exact gC HR189_0 HB); (case side2 => exact HC189_0.out); (case side3 => exact gC HR189_1 HB); (case side4 => exact HC189_1.out); rintro e w25 ⟨rfl, hb⟩; refine ⟨_, rfl, ?_⟩; replace BK186 := gA (blk_below (gK BK186) hb); replace HB := gA (below_step (gB HB) hb); (try clear hb)))
            go_roundg kj10
            case measure => have := HK1.out; have := HJ5.out; have := HK3.out; have := HJ10.out; omega
            case rel => exact ⟨(wrap64 ((wrap64 (x7_3 + 1)) + t190)), (wrap64 (x9_3 + 1)), (rfl), (rfl), H', ⟨by have := HK1.out; have := HJ5.out; have := HK3.out; have := HJ10.out; omega⟩, ⟨gK BK186⟩, ⟨gB HB⟩⟩
          ·replace c17 := Bool.eq_false_iff.mpr c17
           subst c17
           have H1 : (triglyphref03_weight.l0 kj10 a1 a2 x7_3 (wrap64 (x8_1 + 1)) l0_0 l0_1) = some r := by rw [if_neg (show ¬ (false = true) by decide)] at H; exact H
           clear H; have H := H1; clear H1
           have H' := gA H
           clear H
           go_wp2
           go_roundg kj10
           case measure => have := HK1.out; have := HJ5.out; have := HK3.out; have := HJ10.out; omega
           case rel => exact ⟨(x7_3), (wrap64 (x8_1 + 1)), (rfl), (rfl), H', ⟨by have := HK1.out; have := HJ5.out; have := HK3.out; have := HJ10.out; omega⟩, ⟨gK BK186⟩, ⟨gB HB⟩⟩
     ·replace c10 := Bool.eq_false_iff.mpr c10
      subst c10
      have H1 : (some x7_1) = some r := by rw [if_neg (show ¬ (false = true) by decide)] at H; exact H
      clear H; have H := H1; clear H1
      obtain rfl := Option.some.inj H
      go_wp2
      go_ret
      exact ⟨rfl, by repeat first | exact gB HB | refine below_set ?_ GE186.out⟩
def triglyphref03_Weight.f (k : Nat) (l0_0 : List Int) (l0_1 : List (S52)) (a1 : Int) : Option (Int) := (triglyphref03_weight.f k l0_0 l0_1 a1 16).bind fun t192 => (some t192)
theorem triglyphref03_Weight.mono : ∀ a0 a1 a2 k, LeO (triglyphref03_Weight.f k a0 a1 a2) (triglyphref03_Weight.f (k + 1) a0 a1 a2) := by
 intro a0 a1 a2 k
 unfold triglyphref03_Weight.f
 repeat' first
   | (with_reducible exact triglyphref03_weight.mono _ _ _ _ _)
   | (with_reducible exact LeO.refl _)
   | (with_reducible exact LeO.none _)
   | (with_reducible refine LeO.ite ?_ ?_)
   | (with_reducible refine LeO.bind ?_ (fun _ => ?_))
   | exact triglyphref03_weight.mono _ _ _ _ _
set_option maxHeartbeats 8000000 in
set_option maxRecDepth 100000 in
theorem triglyphref03_Weight.calls (k : Nat) (A0_0 : Option Addr) (c0_0 : Nat) (l0_0 : List Int) (A0_1 : Option Addr) (c0_1 : Nat) (l0_1 : List (S52)) (a1 : Int) (r : Int) (w : World) (hr0_0 : Kd.C (Kd.int .i64) w A0_0 l0_0.length l0_0) (hc0_0 : l0_0.length ≤ c0_0) (hr0_1 : Kd.C k52 w A0_1 l0_1.length l0_1) (hc0_1 : l0_1.length ≤ c0_1) (h : triglyphref03_Weight.f k l0_0 l0_1 a1 = some r) :
  Calls Try.prog 7 #[.agg #[.slice A0_0 l0_0.length c0_0, .slice A0_1 l0_1.length c0_1], .int .i64 a1] w fun e w' => e = .returned (.int .i64 r) ∧ Below w.heap.size w w' := by
 have hu25 := Try.underlying25
 have HR0_0 := gA hr0_0
 have HC0_0 := gA hc0_0
 clear hr0_0 hc0_0
 have HR0_1 := gA hr0_1
 have HC0_1 := gA hc0_1
 clear hr0_1 hc0_1
 have HB := gA (Below.refl w.heap.size w)
 have H : ((triglyphref03_weight.f k l0_0 l0_1 a1 16).bind fun t192 => (some t192)) = some r := h
 clear h
 replace H := Option.bind_eq_some_iff.mp H
 obtain ⟨t192, A30, H⟩ := H
 replace H : (some t192) = some r := H
 have A3 := gA A30
 clear A30
 obtain rfl := Option.some.inj H
 go_enter Try.func7, Try.ntmps7
 go_wp2_with (first | ((with_reducible refine gate_dst (N := 2) rfl ?_); refine box_event ?hg (N := 2) ?hd (cs := #[.slice A0_0 l0_0.length c0_0, .slice A0_1 l0_1.length c0_1]) (t := 25) ?hr ?_; (case hd => rfl); (case hg => rfl); (case hr => first | (go_simp; done) | (go_simp; rfl)); intro gb191 hg w4 hbox hb; have BK191 := gA (hbox); have GW191 := gA ((by rw [hg]; exact (below_size (gB HB)) : w.heap.size ≤ gb191)); have GE191 := gA ((by rw [hg]; exact (below_size (gB HB)) : w.heap.size ≤ gb191)); replace HB := gA (below_step (gB HB) hb); clear hb hbox hg; obtain ⟨hcz5_0, hcz5_1, hfz5_0, hfz5_1⟩ := gz2 BK191) | ((with_reducible refine gate_callee (f := 27) rfl ?_); refine goesL_ (some 7) rfl rfl Try.func27 (by kernel_rfl) rfl #[.agg #[.slice A0_0 l0_0.length c0_0, .slice A0_1 l0_1.length c0_1], .int .i64 a1, .int .i64 16] rfl (by (try simp only [List.map_toArray, List.map_cons, List.map_nil]); first | done | rfl | (simp only [List.length_drop, List.length_take]; rfl)) ?_; (with_reducible refine (triglyphref03_weight.calls k _ _ l0_0 _ _ l0_1 a1 16 t192 _ ?side1 ?side2 ?side3 ?side4 A3.out).mono ?_); (case side1 => exact gC HR0_0 HB); (case side2 => exact HC0_0.out); (case side3 => exact gC HR0_1 HB); (case side4 => exact HC0_1.out); rintro e w6 ⟨rfl, hb⟩; refine ⟨_, rfl, ?_⟩; replace BK191 := gA (blk_below (gK BK191) hb); replace HB := gA (below_step (gB HB) hb); (try clear hb)))
 go_ret
 exact ⟨rfl, by repeat first | exact gB HB | refine below_set ?_ GE191.out⟩
end Go.Proofs.Ytfblidojoepcpaa.P
