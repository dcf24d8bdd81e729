/- Written by a program of this session: the functions that the laws reach, what each comes to, and each law as it is stated, for every input. No condition. -/
import Derived.Test.YtemlommdfmeabaaPx0
import Derived.Test.YtemlommdfmeabaaPx3
import Derived.Test.YtemlommdfmeabaaPx6
namespace Go.Proofs.Ytemlommdfmeabaa.P
open Go.RowKit Go.Proofs.YtemlommdfmeabaaW.PrintWords Go.Proofs.YtemlommdfmeabaaW.PrintLast Go.Proofs.YtemlommdfmeabaaW.PrintMore
attribute [local go_sem] max2_int min2_int max_two min_two max_three min_three max_four min_four   -- for this text's walks alone
set_option linter.unusedVariables false
set_option linter.unusedSimpArgs false
def triglyphlaw04_works.f (k : Nat)  : Option (Bool) :=
 (triglyphref03_Nums.f k ([1, 2, 3] : List Int)).bind fun t2 => ((triglyphref03_Atom.f 5).bind fun t15 => ((atomic_Dy.f k 21 t2.1 t2.2 t15.1 t15.2).bind fun t25 => ((atomic_Mo.f k 1 t2.1 t2.2).bind fun t38 => ((triglyphref03_Nums.f k ([1, 2] : List Int)).bind fun t52 => ((atomic_Dy.f k 21 t2.1 t2.2 t52.1 t52.2).bind fun t62 => (if t25.2.2 = 0 then (if (t25.2.1.length : Int) = 3 then (if (2 : Int) < (t25.2.1.length : Int) then (if (rd_T35 t25.2.1 2).f1 = 8 then (if t38.2.2 = 0 then (if (0 : Int) < (t38.2.1.length : Int) then (if (rd_T35 t38.2.1 0).f1 = (-1) then (if t62.2.2 = 7 then (some true) else (none)) else (none)) else (none)) else (none)) else (none)) else (none)) else (none)) else (none)))))))
theorem triglyphlaw04_works.mono : ∀ k, LeO (triglyphlaw04_works.f k ) (triglyphlaw04_works.f (k + 1) ) := by
 intro  k
 unfold triglyphlaw04_works.f
 repeat (first | exact LeO.refl _ | exact LeO.none _ | refine LeO.ite ?_ ?_ | refine LeO.bind (atomic_Dy.mono _ _ _ _ _ _) (fun _ => ?_) | refine LeO.bind (atomic_Mo.mono _ _ _ _) (fun _ => ?_) | refine LeO.bind (triglyphref03_Nums.mono _ _) (fun _ => ?_) | refine LeO.bind (LeO.refl _) (fun _ => ?_))
def triglyphlaw04_works.T2 : Bool × List (List Nat × List Nat) := (true, [([], []), ([], []), ([0, 1, 1], [0, 1]), ([2], [2]), ([3], [3]), ([3], [3]), ([], []), ([6, 4, 2, 0, 1, 2, 3, 4, 6], [4, 6]), ([5, 7, 0, 1, 2, 3, 4, 5, 6, 7], [5])])
def triglyphlaw04_works.B2 : List Nat := [0, 0, 3, 7, 15, 15, 0, 95, 255]
theorem triglyphlaw04_works.tab2 : rtab .any (opsOf Try.f10 2) = triglyphlaw04_works.T2 := by kernel_rfl
theorem triglyphlaw04_works.bits2 : waitsOk triglyphlaw04_works.T2.2 triglyphlaw04_works.B2 = true := by kernel_rfl
def triglyphlaw04_works.T4 : Bool × List (List Nat × List Nat) := (true, [([], []), ([], []), ([1], [1]), ([0, 2, 2], [0, 2]), ([3], [3]), ([4], [4]), ([4], [4]), ([], []), ([7, 5, 3, 0, 1, 2, 3, 4, 5, 7], [5, 7]), ([6, 8, 0, 1, 2, 3, 4, 5, 6, 7, 8], [6])])
def triglyphlaw04_works.B4 : List Nat := [0, 0, 2, 7, 15, 31, 31, 0, 191, 511]
theorem triglyphlaw04_works.tab4 : rtab .any (opsOf Try.f10 4) = triglyphlaw04_works.T4 := by kernel_rfl
theorem triglyphlaw04_works.bits4 : waitsOk triglyphlaw04_works.T4.2 triglyphlaw04_works.B4 = true := by kernel_rfl
set_option maxHeartbeats 8000000 in
set_option maxRecDepth 100000 in
theorem triglyphlaw04_works.calls (k : Nat)  (r : Bool) (w : World)  (h : triglyphlaw04_works.f k  = some r) :
  Calls Try.prog 10 #[] w fun e w' => e = .returned (.bool r) ∧ Below w.heap.size w w' := by
 have HS := Aside0.mk (BxS.nil w)
 unfold triglyphlaw04_works.f at h
 go_enter Try.func10, Try.ntmps10
 obtain ⟨⟨t2_1, t2_2⟩, q_, h⟩ := Option.bind_eq_some_iff.1 h; have E3 := Aside0.mk q_; clear q_; dsimp only at h
 go_upto_region 2 with (first | (go_at_call 25; (refine (triglyphref03_Nums.calls k (some ⟨w.heap.size, 0, none⟩) 3 ([1, 2, 3] : List Int) _ _ _ (hf_litC (d := (Kd.int .i64)) ([1, 2, 3] : List Int) [.int .i64 1, .int .i64 2, .int .i64 3] (blk_new _ (.cells #[.int .i64 1, .int .i64 2, .int .i64 3] 2 (0, 0))) (Reps.snoc (Reps.snoc (Reps.snoc (Reps.none ((Kd.int .i64).K _) 1) rfl rfl) rfl rfl) rfl rfl) (by decide)) (Nat.le_refl _) E3.out).mono ?_); rintro e w4 ⟨v0_, v1_, rfl, h0_, h1_, hb⟩; have CR11 := Aside0.mk (And.intro (Kd.C_below (hf_litC (d := (Kd.int .i64)) ([1, 2, 3] : List Int) [.int .i64 1, .int .i64 2, .int .i64 3] (blk_new _ (.cells #[.int .i64 1, .int .i64 2, .int .i64 3] 2 (0, 0))) (Reps.snoc (Reps.snoc (Reps.snoc (Reps.none ((Kd.int .i64).K _) 1) rfl rfl) rfl rfl) rfl rfl) (by decide)) hb) (show (([1, 2, 3] : List Int)).length ≤ 3 from Nat.le_refl _)); obtain ⟨A5, c6, hv_, hl_, hf_⟩ := Kd.R_reads h0_; clear h0_; have CR7 := Aside0.mk (And.intro hf_ hl_); clear hf_ hl_; subst hv_; obtain ⟨A8, c9, hv_, hl_, hf_⟩ := Kd.R_reads h1_; clear h1_; have CR10 := Aside0.mk (And.intro hf_ hl_); clear hf_ hl_; subst hv_; have HS := Aside0.mk (HS.out.step (hf_ac hb)); clear hb; skip))
 (try clear z0_0 z0_1); skip
 have HS := Aside0.mk (HS.out.cons' #[.slice A5 t2_1.length c6, .slice A8 t2_2.length c9] 25 (rfl))
 have CR7 := Aside0.mk (And.intro (Kd.C_alloc CR7.out.1 (.cells #[.slice A5 t2_1.length c6, .slice A8 t2_2.length c9] 25)) CR7.out.2)
 have CR10 := Aside0.mk (And.intro (Kd.C_alloc CR10.out.1 (.cells #[.slice A5 t2_1.length c6, .slice A8 t2_2.length c9] 25)) CR10.out.2)
 have CR11 := Aside0.mk (And.intro (Kd.C_alloc CR11.out.1 (.cells #[.slice A5 t2_1.length c6, .slice A8 t2_2.length c9] 25)) CR11.out.2)
 generalize w4.alloc (.cells #[.slice A5 t2_1.length c6, .slice A8 t2_2.length c9] 25) = w12 at HS CR7 CR10 CR11 ⊢
 generalize w4.heap.size = g13 at HS ⊢
 have z0_0 : w12.cell? ⟨g13, 0, none⟩ = some (.slice A5 t2_1.length c6) := (blk_cell (HS.out.at_ 0 rfl) 0).trans rfl; have z0_1 : w12.cell? ⟨g13, 1, none⟩ = some (.slice A8 t2_2.length c9) := (blk_cell (HS.out.at_ 0 rfl) 1).trans rfl
 obtain ⟨⟨t15_1, t15_2⟩, q_, h⟩ := Option.bind_eq_some_iff.1 h; have E16 := Aside0.mk q_; clear q_; dsimp only at h
 obtain ⟨⟨t25_1, t25_2, t25_3⟩, q_, h⟩ := Option.bind_eq_some_iff.1 h; have E26 := Aside0.mk q_; clear q_; dsimp only at h
 go_upto_region 2 with (fail)
 refine start_ (n := 9) (S := fun W' => Below w12.drew.heap.size w12.drew W') (ds := []) #[false, false, false, false, false, false, false, false, false] (by kernel_rfl) rfl rfl (Below.refl _ _) (fun hHeld => ?_)
 refine with_tabW triglyphlaw04_works.tab2 triglyphlaw04_works.bits2 (fun HT_ HW_ => ?_)
 (try clear z0_0 z0_1); have HS := Aside0.mk (HS.out.step (below_drew (Below.refl _ _)))
 have CR7 := Aside0.mk (And.intro (Kd.C_below CR7.out.1 (below_drew (Below.refl _ _))) CR7.out.2)
 have CR10 := Aside0.mk (And.intro (Kd.C_below CR10.out.1 (below_drew (Below.refl _ _))) CR10.out.2)
 have CR11 := Aside0.mk (And.intro (Kd.C_below CR11.out.1 (below_drew (Below.refl _ _))) CR11.out.2)
 generalize w12.drew = W14 at HS CR7 CR10 CR11 hHeld ⊢
 refine take_ (i := 0) (N := some 11) (v := ?_) (a' := ?_) #[true, false, false, false, false, false, false, false, false] rfl rfl (take_ofW HT_.out HW_.out (by kernel_rfl)) (fun _ _ _ h => h) (Or.inl ⟨by rfl, ?_⟩) hHeld ?_ ?_; rotate_left
 ·intro w' s0; have y0 : w'.cell? ⟨g13, 0, none⟩ = some (.slice A5 t2_1.length c6) := (blk_cell ((HS.out.step s0).at_ 0 rfl) 0).trans rfl; have y1 : w'.cell? ⟨g13, 1, none⟩ = some (.slice A8 t2_2.length c9) := (blk_cell ((HS.out.step s0).at_ 0 rfl) 1).trans rfl; go_simp; with_reducible rfl
 rotate_left
 ·simp only [Act.put, List.setIfInBounds_toArray, List.set_cons_zero, List.set_cons_succ, i64_w, i32_w]; rfl
 refine join_ (σ := Value × Value × Value × Value × Nat) 2 #[true, true, true, true, true, true, true, false, false] (fun s_ => [(12, .agg #[s_.1, s_.2.1]), (13, .tuple #[.agg #[s_.2.2.1, s_.2.2.2.1], .int .i64 t25_3]), (2, .pointer (some ⟨s_.2.2.2.2, 0, none⟩)), (10, .tuple #[.agg #[s_.2.2.1, s_.2.2.2.1], .int .i64 t25_3]), (14, .agg #[s_.2.2.1, s_.2.2.2.1]), (15, .int .i64 t25_3)]) (fun s_ w' => Below W14.heap.size W14 w' ∧ (∃ A_ c_, s_.1 = .slice A_ (t15_1).length c_ ∧ (t15_1).length ≤ c_ ∧ Kd.F (Kd.int .i64) w' (fun k_ => k_ ≠ s_.2.2.2.2) A_ (t15_1).length t15_1) ∧ (∃ A_ c_, s_.2.1 = .slice A_ (t15_2).length c_ ∧ (t15_2).length ≤ c_ ∧ Kd.F k35 w' (fun k_ => k_ ≠ s_.2.2.2.2) A_ (t15_2).length t15_2) ∧ (∃ A_ c_, s_.2.2.1 = .slice A_ (t25_1).length c_ ∧ (t25_1).length ≤ c_ ∧ Kd.F (Kd.int .i64) w' (fun k_ => k_ ≠ s_.2.2.2.2) A_ (t25_1).length t25_1) ∧ (∃ A_ c_, s_.2.2.2.1 = .slice A_ (t25_2).length c_ ∧ (t25_2).length ≤ c_ ∧ Kd.F k35 w' (fun k_ => k_ ≠ s_.2.2.2.2) A_ (t25_2).length t25_2) ∧ (w'.heap[s_.2.2.2.2]? = some (.cells #[.slice none 0 0, .slice none 0 0] 25 (0, 0)) ∧ W14.heap.size ≤ s_.2.2.2.2)) ?_ ?_; rotate_left
 ·intro hCont
  refine two_ (i := 1) (j := 6) (Ni := some 12) (Nj := some 2) #[true, true, false, false, false, false, false, false, false] #[true, false, false, false, false, false, true, false, false] rfl rfl rfl rfl (two_of HT_.out (by kernel_rfl)) (by decide) (by decide) (fun K hK => ?_) (fun K hK => ?_)
  ·skip
   refine goes_ Try.func26 (by kernel_rfl) rfl #[.int .i64 5] (by rfl) rfl rfl (by first | rfl | (simp only [List.map_toArray, List.map_cons, List.map_nil]; rfl)) ?_
   refine (triglyphref03_Atom.calls 5 _ _ _ E16.out).mono ?_
   rintro e w1 ⟨v20, v24, rfl, hv20, hv24, hb⟩
   refine ⟨_, rfl, ?_⟩
   obtain ⟨A17, c18, hv_⟩ := Kd.R_slice hv20; subst hv_; have CR19 := Aside0.mk (And.intro (hf_F1 hv20) (Kd.R_reads' hv20).2.1); clear hv20
   obtain ⟨A21, c22, hv_⟩ := Kd.R_slice hv24; subst hv_; have CR23 := Aside0.mk (And.intro (hf_F1 hv24) (Kd.R_reads' hv24).2.1); clear hv24
   have hHeld := hHeld.trans (hb.mono hHeld.size); clear hb
   refine hK.out _ _ hHeld (fun hHeld => ?_); clear hK K
   refine norm_ (a' := ?_) ?_ ?_; rotate_left
   ·show Act.put _ (some 12) _ = _
    simp only [Act.put, List.setIfInBounds_toArray, List.set_cons_zero, List.set_cons_succ, i64_w, i32_w]; rfl
   refine two_ (i := 2) (j := 6) (Ni := some 13) (Nj := some 2) #[true, true, true, false, false, false, false, false, false] #[true, true, false, false, false, false, true, false, false] rfl rfl rfl rfl (two_of HT_.out (by kernel_rfl)) (by decide) (by decide) (fun K hK => ?_) (fun K hK => ?_)
   ·skip
    refine goes_ Try.func18 (by kernel_rfl) rfl #[.int .i64 21, .agg #[.slice A5 t2_1.length c6, .slice A8 t2_2.length c9], .agg #[.slice A17 t15_1.length c18, .slice A21 t15_2.length c22]] (by rfl) rfl rfl (by first | rfl | (simp only [List.map_toArray, List.map_cons, List.map_nil]; rfl)) ?_
    refine (atomic_Dy.calls k 21 A5 c6 t2_1 A8 c9 t2_2 A17 c18 t15_1 A21 c22 t15_2 _ _ _ _ (Kd.C_below CR7.out.1 hHeld) CR7.out.2 (Kd.C_below CR10.out.1 hHeld) CR10.out.2 (Kd.F_now CR19.out.1) CR19.out.2 (Kd.F_now CR23.out.1) CR23.out.2 E26.out).mono ?_
    rintro e w1 ⟨v30, v34, rfl, hv30, hv34, hb⟩
    refine ⟨_, rfl, ?_⟩
    obtain ⟨A27, c28, hv_⟩ := Kd.R_slice hv30; subst hv_; have CR29 := Aside0.mk (And.intro (hf_F1 hv30) (Kd.R_reads' hv30).2.1); clear hv30
    obtain ⟨A31, c32, hv_⟩ := Kd.R_slice hv34; subst hv_; have CR33 := Aside0.mk (And.intro (hf_F1 hv34) (Kd.R_reads' hv34).2.1); clear hv34
    have CR19 := Aside0.mk (And.intro (hf_F4 CR19.out.1 hb) CR19.out.2)
    have CR23 := Aside0.mk (And.intro (hf_F4 CR23.out.1 hb) CR23.out.2)
    have hHeld := hHeld.trans (hb.mono hHeld.size); clear hb
    refine hK.out _ _ hHeld (fun hHeld => ?_); clear hK K
    refine norm_ (a' := ?_) ?_ ?_; rotate_left
    ·show Act.put _ (some 13) _ = _
     simp only [Act.put, List.setIfInBounds_toArray, List.set_cons_zero, List.set_cons_succ, i64_w, i32_w]; rfl
    refine pure_ (i := 3) (N := some 10) (v := ?_) (a' := ?_) #[true, true, true, true, false, false, false, false, false] rfl rfl (any_of HT_.out (by kernel_rfl)) (fun _ _ _ h => h) (Or.inl ⟨by rfl, ?_⟩) ?_ ?_; rotate_left
    ·intro w'; go_simp; with_reducible rfl
    rotate_left
    ·simp only [Act.put, List.setIfInBounds_toArray, List.set_cons_zero, List.set_cons_succ, i64_w, i32_w]; rfl
    refine pure_ (i := 4) (N := some 14) (v := ?_) (a' := ?_) #[true, true, true, true, true, false, false, false, false] rfl rfl (any_of HT_.out (by kernel_rfl)) (fun _ _ _ h => h) (Or.inl ⟨by rfl, ?_⟩) ?_ ?_; rotate_left
    ·intro w'; go_simp; with_reducible rfl
    rotate_left
    ·simp only [Act.put, List.setIfInBounds_toArray, List.set_cons_zero, List.set_cons_succ, i64_w, i32_w]; rfl
    refine pure_ (i := 5) (N := some 15) (v := ?_) (a' := ?_) #[true, true, true, true, true, true, false, false, false] rfl rfl (any_of HT_.out (by kernel_rfl)) (fun _ _ _ h => h) (Or.inl ⟨by rfl, ?_⟩) ?_ ?_; rotate_left
    ·intro w'; go_simp; with_reducible rfl
    rotate_left
    ·simp only [Act.put, List.setIfInBounds_toArray, List.set_cons_zero, List.set_cons_succ, i64_w, i32_w]; rfl
    refine one_ (i := 6) (N := some 2) #[true, true, true, true, true, true, true, false, false] rfl rfl (one_of HT_.out (by kernel_rfl)) (by decide) (fun K hK => ?_)
    refine box_step ?hg (N := 2) ?hd (cs := #[.slice none 0 0, .slice none 0 0]) (t := 25) ?hr ?_; (case hd => rfl); (case hg => rfl); (case hr => first | (go_simp; done) | (go_simp; rfl))
    intro g35 hg w1 hbox hb
    have HGg35 := Aside0.mk hbox; have HLg35 : Aside0 (W14.heap.size ≤ g35) := ⟨Nat.le_trans hHeld.size (Nat.le_of_eq hg.symm)⟩; have HM : Aside0 (g35 < w1.heap.size) := ⟨blk_lt hbox⟩; clear hbox
    have CR19 := Aside0.mk (And.intro (hf_F3 hg CR19.out.1 hb) CR19.out.2)
    have CR23 := Aside0.mk (And.intro (hf_F3 hg CR23.out.1 hb) CR23.out.2)
    have CR29 := Aside0.mk (And.intro (hf_F3 hg CR29.out.1 hb) CR29.out.2)
    have CR33 := Aside0.mk (And.intro (hf_F3 hg CR33.out.1 hb) CR33.out.2)
    clear hg
    have hHeld := hHeld.trans (hb.mono hHeld.size); clear hb
    refine hK.out _ _ hHeld (fun hHeld => ?_); clear hK K
    refine norm_ (a' := ?_) ?_ ?_; rotate_left
    ·show Act.put _ (some 2) _ = _
     simp only [Act.put, List.setIfInBounds_toArray, List.set_cons_zero, List.set_cons_succ, i64_w, i32_w]; rfl
    exact norm_ (by simp only [putAll, Act.put, List.setIfInBounds_toArray, List.set_cons_zero, List.set_cons_succ]) (hCont (.slice A17 t15_1.length c18, .slice A21 t15_2.length c22, .slice A27 t25_1.length c28, .slice A31 t25_2.length c32, g35) _ ⟨hHeld, ⟨_, _, rfl, CR19.out.2, CR19.out.1⟩, ⟨_, _, rfl, CR23.out.2, CR23.out.1⟩, ⟨_, _, rfl, CR29.out.2, CR29.out.1⟩, ⟨_, _, rfl, CR33.out.2, CR33.out.1⟩, ⟨HGg35.out, HLg35.out⟩⟩)
   ·skip
    refine box_step ?hg (N := 2) ?hd (cs := #[.slice none 0 0, .slice none 0 0]) (t := 25) ?hr ?_; (case hd => rfl); (case hg => rfl); (case hr => first | (go_simp; done) | (go_simp; rfl))
    intro g35 hg w1 hbox hb
    have HGg35 := Aside0.mk hbox; have HLg35 : Aside0 (W14.heap.size ≤ g35) := ⟨Nat.le_trans hHeld.size (Nat.le_of_eq hg.symm)⟩; have HM : Aside0 (g35 < w1.heap.size) := ⟨blk_lt hbox⟩; clear hbox
    have CR19 := Aside0.mk (And.intro (hf_F3 hg CR19.out.1 hb) CR19.out.2)
    have CR23 := Aside0.mk (And.intro (hf_F3 hg CR23.out.1 hb) CR23.out.2)
    clear hg
    have hHeld := hHeld.trans (hb.mono hHeld.size); clear hb
    refine hK.out _ _ hHeld (fun hHeld => ?_); clear hK K
    refine norm_ (a' := ?_) ?_ ?_; rotate_left
    ·show Act.put _ (some 2) _ = _
     simp only [Act.put, List.setIfInBounds_toArray, List.set_cons_zero, List.set_cons_succ, i64_w, i32_w]; rfl
    refine one_ (i := 2) (N := some 13) #[true, true, true, false, false, false, true, false, false] rfl rfl (one_of HT_.out (by kernel_rfl)) (by decide) (fun K hK => ?_)
    refine goes_ Try.func18 (by kernel_rfl) rfl #[.int .i64 21, .agg #[.slice A5 t2_1.length c6, .slice A8 t2_2.length c9], .agg #[.slice A17 t15_1.length c18, .slice A21 t15_2.length c22]] (by rfl) rfl rfl (by first | rfl | (simp only [List.map_toArray, List.map_cons, List.map_nil]; rfl)) ?_
    refine (atomic_Dy.calls k 21 A5 c6 t2_1 A8 c9 t2_2 A17 c18 t15_1 A21 c22 t15_2 _ _ _ _ (Kd.C_below CR7.out.1 hHeld) CR7.out.2 (Kd.C_below CR10.out.1 hHeld) CR10.out.2 (Kd.F_now CR19.out.1) CR19.out.2 (Kd.F_now CR23.out.1) CR23.out.2 E26.out).mono ?_
    rintro e w1 ⟨v30, v34, rfl, hv30, hv34, hb⟩
    refine ⟨_, rfl, ?_⟩
    obtain ⟨A27, c28, hv_⟩ := Kd.R_slice hv30; subst hv_; have CR29 := Aside0.mk (And.intro (hf_F2 hv30 HM.out) (Kd.R_reads' hv30).2.1); clear hv30
    obtain ⟨A31, c32, hv_⟩ := Kd.R_slice hv34; subst hv_; have CR33 := Aside0.mk (And.intro (hf_F2 hv34 HM.out) (Kd.R_reads' hv34).2.1); clear hv34
    have CR19 := Aside0.mk (And.intro (hf_F4 CR19.out.1 hb) CR19.out.2)
    have CR23 := Aside0.mk (And.intro (hf_F4 CR23.out.1 hb) CR23.out.2)
    have HGg35 := Aside0.mk (blk_below HGg35.out hb); have HM := Aside0.mk (Nat.lt_of_lt_of_le HM.out (Below.size hb))
    have hHeld := hHeld.trans (hb.mono hHeld.size); clear hb
    refine hK.out _ _ hHeld (fun hHeld => ?_); clear hK K
    refine norm_ (a' := ?_) ?_ ?_; rotate_left
    ·show Act.put _ (some 13) _ = _
     simp only [Act.put, List.setIfInBounds_toArray, List.set_cons_zero, List.set_cons_succ, i64_w, i32_w]; rfl
    refine pure_ (i := 3) (N := some 10) (v := ?_) (a' := ?_) #[true, true, true, true, false, false, true, false, false] rfl rfl (any_of HT_.out (by kernel_rfl)) (fun _ _ _ h => h) (Or.inl ⟨by rfl, ?_⟩) ?_ ?_; rotate_left
    ·intro w'; go_simp; with_reducible rfl
    rotate_left
    ·simp only [Act.put, List.setIfInBounds_toArray, List.set_cons_zero, List.set_cons_succ, i64_w, i32_w]; rfl
    refine pure_ (i := 4) (N := some 14) (v := ?_) (a' := ?_) #[true, true, true, true, true, false, true, false, false] rfl rfl (any_of HT_.out (by kernel_rfl)) (fun _ _ _ h => h) (Or.inl ⟨by rfl, ?_⟩) ?_ ?_; rotate_left
    ·intro w'; go_simp; with_reducible rfl
    rotate_left
    ·simp only [Act.put, List.setIfInBounds_toArray, List.set_cons_zero, List.set_cons_succ, i64_w, i32_w]; rfl
    refine pure_ (i := 5) (N := some 15) (v := ?_) (a' := ?_) #[true, true, true, true, true, true, true, false, false] rfl rfl (any_of HT_.out (by kernel_rfl)) (fun _ _ _ h => h) (Or.inl ⟨by rfl, ?_⟩) ?_ ?_; rotate_left
    ·intro w'; go_simp; with_reducible rfl
    rotate_left
    ·simp only [Act.put, List.setIfInBounds_toArray, List.set_cons_zero, List.set_cons_succ, i64_w, i32_w]; rfl
    exact norm_ (by simp only [putAll, Act.put, List.setIfInBounds_toArray, List.set_cons_zero, List.set_cons_succ]) (hCont (.slice A17 t15_1.length c18, .slice A21 t15_2.length c22, .slice A27 t25_1.length c28, .slice A31 t25_2.length c32, g35) _ ⟨hHeld, ⟨_, _, rfl, CR19.out.2, CR19.out.1⟩, ⟨_, _, rfl, CR23.out.2, CR23.out.1⟩, ⟨_, _, rfl, CR29.out.2, CR29.out.1⟩, ⟨_, _, rfl, CR33.out.2, CR33.out.1⟩, ⟨HGg35.out, HLg35.out⟩⟩)
  ·skip
   refine box_step ?hg (N := 2) ?hd (cs := #[.slice none 0 0, .slice none 0 0]) (t := 25) ?hr ?_; (case hd => rfl); (case hg => rfl); (case hr => first | (go_simp; done) | (go_simp; rfl))
   intro g35 hg w1 hbox hb
   have HGg35 := Aside0.mk hbox; have HLg35 : Aside0 (W14.heap.size ≤ g35) := ⟨Nat.le_trans hHeld.size (Nat.le_of_eq hg.symm)⟩; have HM : Aside0 (g35 < w1.heap.size) := ⟨blk_lt hbox⟩; clear hbox
   clear hg
   have hHeld := hHeld.trans (hb.mono hHeld.size); clear hb
   refine hK.out _ _ hHeld (fun hHeld => ?_); clear hK K
   refine norm_ (a' := ?_) ?_ ?_; rotate_left
   ·show Act.put _ (some 2) _ = _
    simp only [Act.put, List.setIfInBounds_toArray, List.set_cons_zero, List.set_cons_succ, i64_w, i32_w]; rfl
   refine one_ (i := 1) (N := some 12) #[true, true, false, false, false, false, true, false, false] rfl rfl (one_of HT_.out (by kernel_rfl)) (by decide) (fun K hK => ?_)
   refine goes_ Try.func26 (by kernel_rfl) rfl #[.int .i64 5] (by rfl) rfl rfl (by first | rfl | (simp only [List.map_toArray, List.map_cons, List.map_nil]; rfl)) ?_
   refine (triglyphref03_Atom.calls 5 _ _ _ E16.out).mono ?_
   rintro e w1 ⟨v20, v24, rfl, hv20, hv24, hb⟩
   refine ⟨_, rfl, ?_⟩
   obtain ⟨A17, c18, hv_⟩ := Kd.R_slice hv20; subst hv_; have CR19 := Aside0.mk (And.intro (hf_F2 hv20 HM.out) (Kd.R_reads' hv20).2.1); clear hv20
   obtain ⟨A21, c22, hv_⟩ := Kd.R_slice hv24; subst hv_; have CR23 := Aside0.mk (And.intro (hf_F2 hv24 HM.out) (Kd.R_reads' hv24).2.1); clear hv24
   have HGg35 := Aside0.mk (blk_below HGg35.out hb); have HM := Aside0.mk (Nat.lt_of_lt_of_le HM.out (Below.size hb))
   have hHeld := hHeld.trans (hb.mono hHeld.size); clear hb
   refine hK.out _ _ hHeld (fun hHeld => ?_); clear hK K
   refine norm_ (a' := ?_) ?_ ?_; rotate_left
   ·show Act.put _ (some 12) _ = _
    simp only [Act.put, List.setIfInBounds_toArray, List.set_cons_zero, List.set_cons_succ, i64_w, i32_w]; rfl
   refine one_ (i := 2) (N := some 13) #[true, true, true, false, false, false, true, false, false] rfl rfl (one_of HT_.out (by kernel_rfl)) (by decide) (fun K hK => ?_)
   refine goes_ Try.func18 (by kernel_rfl) rfl #[.int .i64 21, .agg #[.slice A5 t2_1.length c6, .slice A8 t2_2.length c9], .agg #[.slice A17 t15_1.length c18, .slice A21 t15_2.length c22]] (by rfl) rfl rfl (by first | rfl | (simp only [List.map_toArray, List.map_cons, List.map_nil]; rfl)) ?_
   refine (atomic_Dy.calls k 21 A5 c6 t2_1 A8 c9 t2_2 A17 c18 t15_1 A21 c22 t15_2 _ _ _ _ (Kd.C_below CR7.out.1 hHeld) CR7.out.2 (Kd.C_below CR10.out.1 hHeld) CR10.out.2 (Kd.F_now CR19.out.1) CR19.out.2 (Kd.F_now CR23.out.1) CR23.out.2 E26.out).mono ?_
   rintro e w1 ⟨v30, v34, rfl, hv30, hv34, hb⟩
   refine ⟨_, rfl, ?_⟩
   obtain ⟨A27, c28, hv_⟩ := Kd.R_slice hv30; subst hv_; have CR29 := Aside0.mk (And.intro (hf_F2 hv30 HM.out) (Kd.R_reads' hv30).2.1); clear hv30
   obtain ⟨A31, c32, hv_⟩ := Kd.R_slice hv34; subst hv_; have CR33 := Aside0.mk (And.intro (hf_F2 hv34 HM.out) (Kd.R_reads' hv34).2.1); clear hv34
   have HGg35 := Aside0.mk (blk_below HGg35.out hb); have HM := Aside0.mk (Nat.lt_of_lt_of_le HM.out (Below.size hb))
   have CR19 := Aside0.mk (And.intro (hf_F4 CR19.out.1 hb) CR19.out.2)
   have CR23 := Aside0.mk (And.intro (hf_F4 CR23.out.1 hb) CR23.out.2)
   have hHeld := hHeld.trans (hb.mono hHeld.size); clear hb
   refine hK.out _ _ hHeld (fun hHeld => ?_); clear hK K
   refine norm_ (a' := ?_) ?_ ?_; rotate_left
   ·show Act.put _ (some 13) _ = _
    simp only [Act.put, List.setIfInBounds_toArray, List.set_cons_zero, List.set_cons_succ, i64_w, i32_w]; rfl
   refine pure_ (i := 3) (N := some 10) (v := ?_) (a' := ?_) #[true, true, true, true, false, false, true, false, false] rfl rfl (any_of HT_.out (by kernel_rfl)) (fun _ _ _ h => h) (Or.inl ⟨by rfl, ?_⟩) ?_ ?_; rotate_left
   ·intro w'; go_simp; with_reducible rfl
   rotate_left
   ·simp only [Act.put, List.setIfInBounds_toArray, List.set_cons_zero, List.set_cons_succ, i64_w, i32_w]; rfl
   refine pure_ (i := 4) (N := some 14) (v := ?_) (a' := ?_) #[true, true, true, true, true, false, true, false, false] rfl rfl (any_of HT_.out (by kernel_rfl)) (fun _ _ _ h => h) (Or.inl ⟨by rfl, ?_⟩) ?_ ?_; rotate_left
   ·intro w'; go_simp; with_reducible rfl
   rotate_left
   ·simp only [Act.put, List.setIfInBounds_toArray, List.set_cons_zero, List.set_cons_succ, i64_w, i32_w]; rfl
   refine pure_ (i := 5) (N := some 15) (v := ?_) (a' := ?_) #[true, true, true, true, true, true, true, false, false] rfl rfl (any_of HT_.out (by kernel_rfl)) (fun _ _ _ h => h) (Or.inl ⟨by rfl, ?_⟩) ?_ ?_; rotate_left
   ·intro w'; go_simp; with_reducible rfl
   rotate_left
   ·simp only [Act.put, List.setIfInBounds_toArray, List.set_cons_zero, List.set_cons_succ, i64_w, i32_w]; rfl
   exact norm_ (by simp only [putAll, Act.put, List.setIfInBounds_toArray, List.set_cons_zero, List.set_cons_succ]) (hCont (.slice A17 t15_1.length c18, .slice A21 t15_2.length c22, .slice A27 t25_1.length c28, .slice A31 t25_2.length c32, g35) _ ⟨hHeld, ⟨_, _, rfl, CR19.out.2, CR19.out.1⟩, ⟨_, _, rfl, CR23.out.2, CR23.out.1⟩, ⟨_, _, rfl, CR29.out.2, CR29.out.1⟩, ⟨_, _, rfl, CR33.out.2, CR33.out.1⟩, ⟨HGg35.out, HLg35.out⟩⟩)
 rintro ⟨v20, v24, v30, v34, g35⟩ w36 ⟨hHeld, hF0_, hF1_, hF2_, hF3_, hF4_⟩
 dsimp only at hF0_ hF1_ hF2_ hF3_ hF4_
 obtain ⟨A17, c18, hv_, hl_, hf_⟩ := hF0_; have CR19 := Aside0.mk (And.intro hf_ hl_); clear hf_ hl_; subst hv_
 obtain ⟨A21, c22, hv_, hl_, hf_⟩ := hF1_; have CR23 := Aside0.mk (And.intro hf_ hl_); clear hf_ hl_; subst hv_
 obtain ⟨A27, c28, hv_, hl_, hf_⟩ := hF2_; have CR29 := Aside0.mk (And.intro hf_ hl_); clear hf_ hl_; subst hv_
 obtain ⟨A31, c32, hv_, hl_, hf_⟩ := hF3_; have CR33 := Aside0.mk (And.intro hf_ hl_); clear hf_ hl_; subst hv_
 have HG := Aside0.mk hF4_; clear hF4_
 refine norm_ (a' := ?_) ?_ ?_; rotate_left
 ·simp only [putAll, Act.put, List.setIfInBounds_toArray, List.set_cons_zero, List.set_cons_succ]; rfl
 refine one_ (i := 7) (N := none) #[true, true, true, true, true, true, true, true, false] rfl rfl (one_of HT_.out (by kernel_rfl)) (by decide) (fun K hK => ?_)
 have y0 : w36.cell? ⟨g35, 0, none⟩ = some (.slice none 0 0) := (blk_cell HG.out.1 0).trans rfl; have u0 := blk_frozen HG.out.1 0; have y1 : w36.cell? ⟨g35, 1, none⟩ = some (.slice none 0 0) := (blk_cell HG.out.1 1).trans rfl; have u1 := blk_frozen HG.out.1 1
 refine skip_ (w1 := ?_) (by rfl) rfl ?_ ?_; rotate_left
 ·go_simp; rfl
 have HB2 := Aside0.mk (hf_st2 hHeld HG.out.2 (.slice A27 t25_1.length c28) (.slice A31 t25_2.length c32))
 have CR19 := Aside0.mk (And.intro (hf_F5a CR19.out.1 (.slice A27 t25_1.length c28) (.slice A31 t25_2.length c32)) CR19.out.2)
 have CR23 := Aside0.mk (And.intro (hf_F5a CR23.out.1 (.slice A27 t25_1.length c28) (.slice A31 t25_2.length c32)) CR23.out.2)
 have CR29 := Aside0.mk (And.intro (hf_F5a CR29.out.1 (.slice A27 t25_1.length c28) (.slice A31 t25_2.length c32)) CR29.out.2)
 have CR33 := Aside0.mk (And.intro (hf_F5a CR33.out.1 (.slice A27 t25_1.length c28) (.slice A31 t25_2.length c32)) CR33.out.2)
 have HG := Aside0.mk (And.intro (hf_z2 HG.out.1 (.slice A27 t25_1.length c28) (.slice A31 t25_2.length c32)) HG.out.2)
 refine hK.out _ _ HB2.out (fun hHeld => ?_); clear hK K HB2 y0 u0 y1 u1
 generalize (w36.setCell _ _).setCell _ _ = w37 at hHeld HG CR19 CR23 CR29 CR33 ⊢
 refine pure_ (i := 8) (N := some 3) (v := ?_) (a' := ?_) #[true, true, true, true, true, true, true, true, true] rfl rfl (any_of HT_.out (by kernel_rfl)) (fun _ _ _ h => h) (Or.inl ⟨by rfl, ?_⟩) ?_ ?_; rotate_left
 ·intro w'; go_simp; with_reducible rfl
 rotate_left
 ·simp only [Act.put, List.setIfInBounds_toArray, List.set_cons_zero, List.set_cons_succ, i64_w, i32_w]; rfl
 refine done_ (done_of HT_.out (by kernel_rfl)) ?_
 have CR19 := Aside0.mk (And.intro (Kd.F_now CR19.out.1) CR19.out.2)
 have CR23 := Aside0.mk (And.intro (Kd.F_now CR23.out.1) CR23.out.2)
 have CR29 := Aside0.mk (And.intro (Kd.F_now CR29.out.1) CR29.out.2)
 have CR33 := Aside0.mk (And.intro (Kd.F_now CR33.out.1) CR33.out.2)
 have CR7 := Aside0.mk (And.intro (Kd.C_below CR7.out.1 hHeld) CR7.out.2)
 have CR10 := Aside0.mk (And.intro (Kd.C_below CR10.out.1 hHeld) CR10.out.2)
 have CR11 := Aside0.mk (And.intro (Kd.C_below CR11.out.1 hHeld) CR11.out.2)
 have HS := Aside0.mk (BxS.add HS.out hHeld HG.out.1 HG.out.2)
 clear hHeld HG
 have z0_0 : w37.cell? ⟨g13, 0, none⟩ = some (.slice A5 t2_1.length c6) := (blk_cell (HS.out.at_ 1 rfl) 0).trans rfl; have z0_1 : w37.cell? ⟨g13, 1, none⟩ = some (.slice A8 t2_2.length c9) := (blk_cell (HS.out.at_ 1 rfl) 1).trans rfl; have z1_0 : w37.cell? ⟨g35, 0, none⟩ = some (.slice A27 t25_1.length c28) := (blk_cell (HS.out.at_ 0 rfl) 0).trans rfl; have z1_1 : w37.cell? ⟨g35, 1, none⟩ = some (.slice A31 t25_2.length c32) := (blk_cell (HS.out.at_ 0 rfl) 1).trans rfl
 obtain ⟨⟨t38_1, t38_2, t38_3⟩, q_, h⟩ := Option.bind_eq_some_iff.1 h; have E39 := Aside0.mk q_; clear q_; dsimp only at h
 go_upto_region 4 with (first | (go_at_call 11; (with_reducible refine (atomic_Mo.calls k 1 A5 c6 t2_1 A8 c9 t2_2 _ _ _ _ CR7.out.1 CR7.out.2 CR10.out.1 CR10.out.2 E39.out).mono ?_); rintro e w40 ⟨v0_, v1_, rfl, h0_, h1_, hb⟩; obtain ⟨A41, c42, hv_, hl_, hf_⟩ := Kd.R_reads h0_; clear h0_; have CR43 := Aside0.mk (And.intro hf_ hl_); clear hf_ hl_; subst hv_; obtain ⟨A44, c45, hv_, hl_, hf_⟩ := Kd.R_reads h1_; clear h1_; have CR46 := Aside0.mk (And.intro hf_ hl_); clear hf_ hl_; subst hv_; have CR7 := Aside0.mk (And.intro (Kd.C_below CR7.out.1 hb) CR7.out.2); have CR10 := Aside0.mk (And.intro (Kd.C_below CR10.out.1 hb) CR10.out.2); have CR11 := Aside0.mk (And.intro (Kd.C_below CR11.out.1 hb) CR11.out.2); have CR19 := Aside0.mk (And.intro (Kd.C_below CR19.out.1 hb) CR19.out.2); have CR23 := Aside0.mk (And.intro (Kd.C_below CR23.out.1 hb) CR23.out.2); have CR29 := Aside0.mk (And.intro (Kd.C_below CR29.out.1 hb) CR29.out.2); have CR33 := Aside0.mk (And.intro (Kd.C_below CR33.out.1 hb) CR33.out.2); have HS := Aside0.mk (HS.out.step hb); clear hb; (try clear z0_0 z0_1 z1_0 z1_1); have z0_0 : w40.cell? ⟨g13, 0, none⟩ = some (.slice A5 t2_1.length c6) := (blk_cell (HS.out.at_ 1 rfl) 0).trans rfl; have z0_1 : w40.cell? ⟨g13, 1, none⟩ = some (.slice A8 t2_2.length c9) := (blk_cell (HS.out.at_ 1 rfl) 1).trans rfl; have z1_0 : w40.cell? ⟨g35, 0, none⟩ = some (.slice A27 t25_1.length c28) := (blk_cell (HS.out.at_ 0 rfl) 0).trans rfl; have z1_1 : w40.cell? ⟨g35, 1, none⟩ = some (.slice A31 t25_2.length c32) := (blk_cell (HS.out.at_ 0 rfl) 1).trans rfl))
 (try clear z0_0 z0_1 z1_0 z1_1 z2_0 z2_1); skip
 have HS := Aside0.mk (HS.out.cons' #[.slice A41 t38_1.length c42, .slice A44 t38_2.length c45] 25 (rfl))
 have CR7 := Aside0.mk (And.intro (Kd.C_alloc CR7.out.1 (.cells #[.slice A41 t38_1.length c42, .slice A44 t38_2.length c45] 25)) CR7.out.2)
 have CR10 := Aside0.mk (And.intro (Kd.C_alloc CR10.out.1 (.cells #[.slice A41 t38_1.length c42, .slice A44 t38_2.length c45] 25)) CR10.out.2)
 have CR11 := Aside0.mk (And.intro (Kd.C_alloc CR11.out.1 (.cells #[.slice A41 t38_1.length c42, .slice A44 t38_2.length c45] 25)) CR11.out.2)
 have CR19 := Aside0.mk (And.intro (Kd.C_alloc CR19.out.1 (.cells #[.slice A41 t38_1.length c42, .slice A44 t38_2.length c45] 25)) CR19.out.2)
 have CR23 := Aside0.mk (And.intro (Kd.C_alloc CR23.out.1 (.cells #[.slice A41 t38_1.length c42, .slice A44 t38_2.length c45] 25)) CR23.out.2)
 have CR29 := Aside0.mk (And.intro (Kd.C_alloc CR29.out.1 (.cells #[.slice A41 t38_1.length c42, .slice A44 t38_2.length c45] 25)) CR29.out.2)
 have CR33 := Aside0.mk (And.intro (Kd.C_alloc CR33.out.1 (.cells #[.slice A41 t38_1.length c42, .slice A44 t38_2.length c45] 25)) CR33.out.2)
 have CR43 := Aside0.mk (And.intro (Kd.C_alloc CR43.out.1 (.cells #[.slice A41 t38_1.length c42, .slice A44 t38_2.length c45] 25)) CR43.out.2)
 have CR46 := Aside0.mk (And.intro (Kd.C_alloc CR46.out.1 (.cells #[.slice A41 t38_1.length c42, .slice A44 t38_2.length c45] 25)) CR46.out.2)
 generalize w40.alloc (.cells #[.slice A41 t38_1.length c42, .slice A44 t38_2.length c45] 25) = w47 at HS CR7 CR10 CR11 CR19 CR23 CR29 CR33 CR43 CR46 ⊢
 generalize w40.heap.size = g48 at HS ⊢
 have z0_0 : w47.cell? ⟨g13, 0, none⟩ = some (.slice A5 t2_1.length c6) := (blk_cell (HS.out.at_ 2 rfl) 0).trans rfl; have z0_1 : w47.cell? ⟨g13, 1, none⟩ = some (.slice A8 t2_2.length c9) := (blk_cell (HS.out.at_ 2 rfl) 1).trans rfl; have z1_0 : w47.cell? ⟨g35, 0, none⟩ = some (.slice A27 t25_1.length c28) := (blk_cell (HS.out.at_ 1 rfl) 0).trans rfl; have z1_1 : w47.cell? ⟨g35, 1, none⟩ = some (.slice A31 t25_2.length c32) := (blk_cell (HS.out.at_ 1 rfl) 1).trans rfl; have z2_0 : w47.cell? ⟨g48, 0, none⟩ = some (.slice A41 t38_1.length c42) := (blk_cell (HS.out.at_ 0 rfl) 0).trans rfl; have z2_1 : w47.cell? ⟨g48, 1, none⟩ = some (.slice A44 t38_2.length c45) := (blk_cell (HS.out.at_ 0 rfl) 1).trans rfl
 obtain ⟨⟨t52_1, t52_2⟩, q_, h⟩ := Option.bind_eq_some_iff.1 h; have E53 := Aside0.mk q_; clear q_; dsimp only at h
 obtain ⟨⟨t62_1, t62_2, t62_3⟩, q_, h⟩ := Option.bind_eq_some_iff.1 h; have E63 := Aside0.mk q_; clear q_; dsimp only at h
 go_upto_region 4 with (fail)
 refine start_ (n := 10) (S := fun W' => Below w47.drew.heap.size w47.drew W') (ds := []) #[false, false, false, false, false, false, false, false, false, false] (by kernel_rfl) rfl rfl (Below.refl _ _) (fun hHeld => ?_)
 refine with_tabW triglyphlaw04_works.tab4 triglyphlaw04_works.bits4 (fun HT_ HW_ => ?_)
 (try clear z0_0 z0_1 z1_0 z1_1 z2_0 z2_1); have HS := Aside0.mk (HS.out.step (below_drew (Below.refl _ _)))
 have CR7 := Aside0.mk (And.intro (Kd.C_below CR7.out.1 (below_drew (Below.refl _ _))) CR7.out.2)
 have CR10 := Aside0.mk (And.intro (Kd.C_below CR10.out.1 (below_drew (Below.refl _ _))) CR10.out.2)
 have CR11 := Aside0.mk (And.intro (Kd.C_below CR11.out.1 (below_drew (Below.refl _ _))) CR11.out.2)
 have CR19 := Aside0.mk (And.intro (Kd.C_below CR19.out.1 (below_drew (Below.refl _ _))) CR19.out.2)
 have CR23 := Aside0.mk (And.intro (Kd.C_below CR23.out.1 (below_drew (Below.refl _ _))) CR23.out.2)
 have CR29 := Aside0.mk (And.intro (Kd.C_below CR29.out.1 (below_drew (Below.refl _ _))) CR29.out.2)
 have CR33 := Aside0.mk (And.intro (Kd.C_below CR33.out.1 (below_drew (Below.refl _ _))) CR33.out.2)
 have CR43 := Aside0.mk (And.intro (Kd.C_below CR43.out.1 (below_drew (Below.refl _ _))) CR43.out.2)
 have CR46 := Aside0.mk (And.intro (Kd.C_below CR46.out.1 (below_drew (Below.refl _ _))) CR46.out.2)
 generalize w47.drew = W49 at HS CR7 CR10 CR11 CR19 CR23 CR29 CR33 CR43 CR46 hHeld ⊢
 refine take_ (i := 0) (N := some 22) (v := ?_) (a' := ?_) #[true, false, false, false, false, false, false, false, false, false] rfl rfl (take_ofW HT_.out HW_.out (by kernel_rfl)) (fun _ _ _ h => h) (Or.inl ⟨by rfl, ?_⟩) hHeld ?_ ?_; rotate_left
 ·intro w' s0; have y0 : w'.cell? ⟨g13, 0, none⟩ = some (.slice A5 t2_1.length c6) := (blk_cell ((HS.out.step s0).at_ 2 rfl) 0).trans rfl; have y1 : w'.cell? ⟨g13, 1, none⟩ = some (.slice A8 t2_2.length c9) := (blk_cell ((HS.out.step s0).at_ 2 rfl) 1).trans rfl; go_simp; with_reducible rfl
 rotate_left
 ·simp only [Act.put, List.setIfInBounds_toArray, List.set_cons_zero, List.set_cons_succ, i64_w, i32_w]; rfl
 refine join_ (σ := Nat × Value × Value × Value × Value × Nat) 2 #[true, true, true, true, true, true, true, true, false, false] (fun s_ => [(23, .slice (some ⟨s_.1, 0, none⟩) 2 2), (24, .agg #[s_.2.1, s_.2.2.1]), (25, .tuple #[.agg #[s_.2.2.2.1, s_.2.2.2.2.1], .int .i64 t62_3]), (6, .pointer (some ⟨s_.2.2.2.2.2, 0, none⟩)), (21, .tuple #[.agg #[s_.2.2.2.1, s_.2.2.2.2.1], .int .i64 t62_3]), (26, .agg #[s_.2.2.2.1, s_.2.2.2.2.1]), (27, .int .i64 t62_3)]) (fun s_ w' => Below W49.heap.size W49 w' ∧ ((Kd.int .i64).C w' (some ⟨s_.1, 0, none⟩) 2 ([1, 2] : List Int)) ∧ (∃ A_ c_, s_.2.1 = .slice A_ (t52_1).length c_ ∧ (t52_1).length ≤ c_ ∧ Kd.F (Kd.int .i64) w' (fun k_ => k_ ≠ s_.2.2.2.2.2) A_ (t52_1).length t52_1) ∧ (∃ A_ c_, s_.2.2.1 = .slice A_ (t52_2).length c_ ∧ (t52_2).length ≤ c_ ∧ Kd.F k35 w' (fun k_ => k_ ≠ s_.2.2.2.2.2) A_ (t52_2).length t52_2) ∧ (∃ A_ c_, s_.2.2.2.1 = .slice A_ (t62_1).length c_ ∧ (t62_1).length ≤ c_ ∧ Kd.F (Kd.int .i64) w' (fun k_ => k_ ≠ s_.2.2.2.2.2) A_ (t62_1).length t62_1) ∧ (∃ A_ c_, s_.2.2.2.2.1 = .slice A_ (t62_2).length c_ ∧ (t62_2).length ≤ c_ ∧ Kd.F k35 w' (fun k_ => k_ ≠ s_.2.2.2.2.2) A_ (t62_2).length t62_2) ∧ (w'.heap[s_.2.2.2.2.2]? = some (.cells #[.slice none 0 0, .slice none 0 0] 25 (0, 0)) ∧ W49.heap.size ≤ s_.2.2.2.2.2)) ?_ ?_; rotate_left
 ·intro hCont
  refine two_ (i := 1) (j := 7) (Ni := some 23) (Nj := some 6) #[true, true, false, false, false, false, false, false, false, false] #[true, false, false, false, false, false, false, true, false, false] rfl rfl rfl rfl (two_of HT_.out (by kernel_rfl)) (by decide) (by decide) (fun K hK => ?_) (fun K hK => ?_)
  ·skip
   refine hf_row_step ?hg (N := 23) ?hd (cs := #[.int .i64 1, .int .i64 2]) (t := 2) (n := 2) ?hr ?_; (case hd => rfl); (case hg => rfl); (case hr => first | (go_simp; done) | (go_simp; rfl))
   intro g50 hg w1 hbox hb
   have CR51 := Aside0.mk (And.intro (hf_litC (d := (Kd.int .i64)) (W := w1) (g := g50) (e := 2) ([1, 2] : List Int) [.int .i64 1, .int .i64 2] hbox (Reps.snoc (Reps.snoc (Reps.none ((Kd.int .i64).K _) 1) rfl rfl) rfl rfl) (by decide)) (show ([1, 2] : List Int).length ≤ 2 from Nat.le_refl _)); clear hbox hg
   have hHeld := hHeld.trans (hb.mono hHeld.size); clear hb
   refine hK.out _ _ hHeld (fun hHeld => ?_); clear hK K
   refine norm_ (a' := ?_) ?_ ?_; rotate_left
   ·show Act.put _ (some 23) _ = _
    simp only [Act.put, List.setIfInBounds_toArray, List.set_cons_zero, List.set_cons_succ, i64_w, i32_w]; rfl
   refine two_ (i := 2) (j := 7) (Ni := some 24) (Nj := some 6) #[true, true, true, false, false, false, false, false, false, false] #[true, true, false, false, false, false, false, true, false, false] rfl rfl rfl rfl (two_of HT_.out (by kernel_rfl)) (by decide) (by decide) (fun K hK => ?_) (fun K hK => ?_)
   ·skip
    refine goes_ Try.func25 (by kernel_rfl) rfl #[.slice (some ⟨g50, 0, none⟩) ([1, 2] : List Int).length 2] (by rfl) rfl rfl (by first | rfl | (simp only [List.map_toArray, List.map_cons, List.map_nil]; rfl)) ?_
    refine (triglyphref03_Nums.calls k (some ⟨g50, 0, none⟩) 2 ([1, 2] : List Int) _ _ _ CR51.out.1 CR51.out.2 E53.out).mono ?_
    rintro e w1 ⟨v57, v61, rfl, hv57, hv61, hb⟩
    refine ⟨_, rfl, ?_⟩
    obtain ⟨A54, c55, hv_⟩ := Kd.R_slice hv57; subst hv_; have CR56 := Aside0.mk (And.intro (hf_F1 hv57) (Kd.R_reads' hv57).2.1); clear hv57
    obtain ⟨A58, c59, hv_⟩ := Kd.R_slice hv61; subst hv_; have CR60 := Aside0.mk (And.intro (hf_F1 hv61) (Kd.R_reads' hv61).2.1); clear hv61
    have CR51 := Aside0.mk (And.intro (Kd.C_below CR51.out.1 hb) (show ([1, 2] : List Int).length ≤ 2 from Nat.le_refl _))
    have hHeld := hHeld.trans (hb.mono hHeld.size); clear hb
    refine hK.out _ _ hHeld (fun hHeld => ?_); clear hK K
    refine norm_ (a' := ?_) ?_ ?_; rotate_left
    ·show Act.put _ (some 24) _ = _
     simp only [Act.put, List.setIfInBounds_toArray, List.set_cons_zero, List.set_cons_succ, i64_w, i32_w]; rfl
    refine two_ (i := 3) (j := 7) (Ni := some 25) (Nj := some 6) #[true, true, true, true, false, false, false, false, false, false] #[true, true, true, false, false, false, false, true, false, false] rfl rfl rfl rfl (two_of HT_.out (by kernel_rfl)) (by decide) (by decide) (fun K hK => ?_) (fun K hK => ?_)
    ·skip
     refine goes_ Try.func18 (by kernel_rfl) rfl #[.int .i64 21, .agg #[.slice A5 t2_1.length c6, .slice A8 t2_2.length c9], .agg #[.slice A54 t52_1.length c55, .slice A58 t52_2.length c59]] (by rfl) rfl rfl (by first | rfl | (simp only [List.map_toArray, List.map_cons, List.map_nil]; rfl)) ?_
     refine (atomic_Dy.calls k 21 A5 c6 t2_1 A8 c9 t2_2 A54 c55 t52_1 A58 c59 t52_2 _ _ _ _ (Kd.C_below CR7.out.1 hHeld) CR7.out.2 (Kd.C_below CR10.out.1 hHeld) CR10.out.2 (Kd.F_now CR56.out.1) CR56.out.2 (Kd.F_now CR60.out.1) CR60.out.2 E63.out).mono ?_
     rintro e w1 ⟨v67, v71, rfl, hv67, hv71, hb⟩
     refine ⟨_, rfl, ?_⟩
     obtain ⟨A64, c65, hv_⟩ := Kd.R_slice hv67; subst hv_; have CR66 := Aside0.mk (And.intro (hf_F1 hv67) (Kd.R_reads' hv67).2.1); clear hv67
     obtain ⟨A68, c69, hv_⟩ := Kd.R_slice hv71; subst hv_; have CR70 := Aside0.mk (And.intro (hf_F1 hv71) (Kd.R_reads' hv71).2.1); clear hv71
     have CR51 := Aside0.mk (And.intro (Kd.C_below CR51.out.1 hb) (show ([1, 2] : List Int).length ≤ 2 from Nat.le_refl _))
     have CR56 := Aside0.mk (And.intro (hf_F4 CR56.out.1 hb) CR56.out.2)
     have CR60 := Aside0.mk (And.intro (hf_F4 CR60.out.1 hb) CR60.out.2)
     have hHeld := hHeld.trans (hb.mono hHeld.size); clear hb
     refine hK.out _ _ hHeld (fun hHeld => ?_); clear hK K
     refine norm_ (a' := ?_) ?_ ?_; rotate_left
     ·show Act.put _ (some 25) _ = _
      simp only [Act.put, List.setIfInBounds_toArray, List.set_cons_zero, List.set_cons_succ, i64_w, i32_w]; rfl
     refine pure_ (i := 4) (N := some 21) (v := ?_) (a' := ?_) #[true, true, true, true, true, false, false, false, false, false] rfl rfl (any_of HT_.out (by kernel_rfl)) (fun _ _ _ h => h) (Or.inl ⟨by rfl, ?_⟩) ?_ ?_; rotate_left
     ·intro w'; go_simp; with_reducible rfl
     rotate_left
     ·simp only [Act.put, List.setIfInBounds_toArray, List.set_cons_zero, List.set_cons_succ, i64_w, i32_w]; rfl
     refine pure_ (i := 5) (N := some 26) (v := ?_) (a' := ?_) #[true, true, true, true, true, true, false, false, false, false] rfl rfl (any_of HT_.out (by kernel_rfl)) (fun _ _ _ h => h) (Or.inl ⟨by rfl, ?_⟩) ?_ ?_; rotate_left
     ·intro w'; go_simp; with_reducible rfl
     rotate_left
     ·simp only [Act.put, List.setIfInBounds_toArray, List.set_cons_zero, List.set_cons_succ, i64_w, i32_w]; rfl
     refine pure_ (i := 6) (N := some 27) (v := ?_) (a' := ?_) #[true, true, true, true, true, true, true, false, false, false] rfl rfl (any_of HT_.out (by kernel_rfl)) (fun _ _ _ h => h) (Or.inl ⟨by rfl, ?_⟩) ?_ ?_; rotate_left
     ·intro w'; go_simp; with_reducible rfl
     rotate_left
     ·simp only [Act.put, List.setIfInBounds_toArray, List.set_cons_zero, List.set_cons_succ, i64_w, i32_w]; rfl
     refine one_ (i := 7) (N := some 6) #[true, true, true, true, true, true, true, true, false, false] rfl rfl (one_of HT_.out (by kernel_rfl)) (by decide) (fun K hK => ?_)
     refine box_step ?hg (N := 6) ?hd (cs := #[.slice none 0 0, .slice none 0 0]) (t := 25) ?hr ?_; (case hd => rfl); (case hg => rfl); (case hr => first | (go_simp; done) | (go_simp; rfl))
     intro g72 hg w1 hbox hb
     have HGg72 := Aside0.mk hbox; have HLg72 : Aside0 (W49.heap.size ≤ g72) := ⟨Nat.le_trans hHeld.size (Nat.le_of_eq hg.symm)⟩; have HM : Aside0 (g72 < w1.heap.size) := ⟨blk_lt hbox⟩; clear hbox
     have CR51 := Aside0.mk (And.intro (Kd.C_below CR51.out.1 hb) (show ([1, 2] : List Int).length ≤ 2 from Nat.le_refl _))
     have CR56 := Aside0.mk (And.intro (hf_F3 hg CR56.out.1 hb) CR56.out.2)
     have CR60 := Aside0.mk (And.intro (hf_F3 hg CR60.out.1 hb) CR60.out.2)
     have CR66 := Aside0.mk (And.intro (hf_F3 hg CR66.out.1 hb) CR66.out.2)
     have CR70 := Aside0.mk (And.intro (hf_F3 hg CR70.out.1 hb) CR70.out.2)
     clear hg
     have hHeld := hHeld.trans (hb.mono hHeld.size); clear hb
     refine hK.out _ _ hHeld (fun hHeld => ?_); clear hK K
     refine norm_ (a' := ?_) ?_ ?_; rotate_left
     ·show Act.put _ (some 6) _ = _
      simp only [Act.put, List.setIfInBounds_toArray, List.set_cons_zero, List.set_cons_succ, i64_w, i32_w]; rfl
     exact norm_ (by simp only [putAll, Act.put, List.setIfInBounds_toArray, List.set_cons_zero, List.set_cons_succ]) (hCont (g50, .slice A54 t52_1.length c55, .slice A58 t52_2.length c59, .slice A64 t62_1.length c65, .slice A68 t62_2.length c69, g72) _ ⟨hHeld, CR51.out.1, ⟨_, _, rfl, CR56.out.2, CR56.out.1⟩, ⟨_, _, rfl, CR60.out.2, CR60.out.1⟩, ⟨_, _, rfl, CR66.out.2, CR66.out.1⟩, ⟨_, _, rfl, CR70.out.2, CR70.out.1⟩, ⟨HGg72.out, HLg72.out⟩⟩)
    ·skip
     refine box_step ?hg (N := 6) ?hd (cs := #[.slice none 0 0, .slice none 0 0]) (t := 25) ?hr ?_; (case hd => rfl); (case hg => rfl); (case hr => first | (go_simp; done) | (go_simp; rfl))
     intro g72 hg w1 hbox hb
     have HGg72 := Aside0.mk hbox; have HLg72 : Aside0 (W49.heap.size ≤ g72) := ⟨Nat.le_trans hHeld.size (Nat.le_of_eq hg.symm)⟩; have HM : Aside0 (g72 < w1.heap.size) := ⟨blk_lt hbox⟩; clear hbox
     have CR51 := Aside0.mk (And.intro (Kd.C_below CR51.out.1 hb) (show ([1, 2] : List Int).length ≤ 2 from Nat.le_refl _))
     have CR56 := Aside0.mk (And.intro (hf_F3 hg CR56.out.1 hb) CR56.out.2)
     have CR60 := Aside0.mk (And.intro (hf_F3 hg CR60.out.1 hb) CR60.out.2)
     clear hg
     have hHeld := hHeld.trans (hb.mono hHeld.size); clear hb
     refine hK.out _ _ hHeld (fun hHeld => ?_); clear hK K
     refine norm_ (a' := ?_) ?_ ?_; rotate_left
     ·show Act.put _ (some 6) _ = _
      simp only [Act.put, List.setIfInBounds_toArray, List.set_cons_zero, List.set_cons_succ, i64_w, i32_w]; rfl
     refine one_ (i := 3) (N := some 25) #[true, true, true, true, false, false, false, true, false, false] rfl rfl (one_of HT_.out (by kernel_rfl)) (by decide) (fun K hK => ?_)
     refine goes_ Try.func18 (by kernel_rfl) rfl #[.int .i64 21, .agg #[.slice A5 t2_1.length c6, .slice A8 t2_2.length c9], .agg #[.slice A54 t52_1.length c55, .slice A58 t52_2.length c59]] (by rfl) rfl rfl (by first | rfl | (simp only [List.map_toArray, List.map_cons, List.map_nil]; rfl)) ?_
     refine (atomic_Dy.calls k 21 A5 c6 t2_1 A8 c9 t2_2 A54 c55 t52_1 A58 c59 t52_2 _ _ _ _ (Kd.C_below CR7.out.1 hHeld) CR7.out.2 (Kd.C_below CR10.out.1 hHeld) CR10.out.2 (Kd.F_now CR56.out.1) CR56.out.2 (Kd.F_now CR60.out.1) CR60.out.2 E63.out).mono ?_
     rintro e w1 ⟨v67, v71, rfl, hv67, hv71, hb⟩
     refine ⟨_, rfl, ?_⟩
     obtain ⟨A64, c65, hv_⟩ := Kd.R_slice hv67; subst hv_; have CR66 := Aside0.mk (And.intro (hf_F2 hv67 HM.out) (Kd.R_reads' hv67).2.1); clear hv67
     obtain ⟨A68, c69, hv_⟩ := Kd.R_slice hv71; subst hv_; have CR70 := Aside0.mk (And.intro (hf_F2 hv71 HM.out) (Kd.R_reads' hv71).2.1); clear hv71
     have CR51 := Aside0.mk (And.intro (Kd.C_below CR51.out.1 hb) (show ([1, 2] : List Int).length ≤ 2 from Nat.le_refl _))
     have CR56 := Aside0.mk (And.intro (hf_F4 CR56.out.1 hb) CR56.out.2)
     have CR60 := Aside0.mk (And.intro (hf_F4 CR60.out.1 hb) CR60.out.2)
     have HGg72 := Aside0.mk (blk_below HGg72.out hb); have HM := Aside0.mk (Nat.lt_of_lt_of_le HM.out (Below.size hb))
     have hHeld := hHeld.trans (hb.mono hHeld.size); clear hb
     refine hK.out _ _ hHeld (fun hHeld => ?_); clear hK K
     refine norm_ (a' := ?_) ?_ ?_; rotate_left
     ·show Act.put _ (some 25) _ = _
      simp only [Act.put, List.setIfInBounds_toArray, List.set_cons_zero, List.set_cons_succ, i64_w, i32_w]; rfl
     refine pure_ (i := 4) (N := some 21) (v := ?_) (a' := ?_) #[true, true, true, true, true, false, false, true, false, false] rfl rfl (any_of HT_.out (by kernel_rfl)) (fun _ _ _ h => h) (Or.inl ⟨by rfl, ?_⟩) ?_ ?_; rotate_left
     ·intro w'; go_simp; with_reducible rfl
     rotate_left
     ·simp only [Act.put, List.setIfInBounds_toArray, List.set_cons_zero, List.set_cons_succ, i64_w, i32_w]; rfl
     refine pure_ (i := 5) (N := some 26) (v := ?_) (a' := ?_) #[true, true, true, true, true, true, false, true, false, false] rfl rfl (any_of HT_.out (by kernel_rfl)) (fun _ _ _ h => h) (Or.inl ⟨by rfl, ?_⟩) ?_ ?_; rotate_left
     ·intro w'; go_simp; with_reducible rfl
     rotate_left
     ·simp only [Act.put, List.setIfInBounds_toArray, List.set_cons_zero, List.set_cons_succ, i64_w, i32_w]; rfl
     refine pure_ (i := 6) (N := some 27) (v := ?_) (a' := ?_) #[true, true, true, true, true, true, true, true, false, false] rfl rfl (any_of HT_.out (by kernel_rfl)) (fun _ _ _ h => h) (Or.inl ⟨by rfl, ?_⟩) ?_ ?_; rotate_left
     ·intro w'; go_simp; with_reducible rfl
     rotate_left
     ·simp only [Act.put, List.setIfInBounds_toArray, List.set_cons_zero, List.set_cons_succ, i64_w, i32_w]; rfl
     exact norm_ (by simp only [putAll, Act.put, List.setIfInBounds_toArray, List.set_cons_zero, List.set_cons_succ]) (hCont (g50, .slice A54 t52_1.length c55, .slice A58 t52_2.length c59, .slice A64 t62_1.length c65, .slice A68 t62_2.length c69, g72) _ ⟨hHeld, CR51.out.1, ⟨_, _, rfl, CR56.out.2, CR56.out.1⟩, ⟨_, _, rfl, CR60.out.2, CR60.out.1⟩, ⟨_, _, rfl, CR66.out.2, CR66.out.1⟩, ⟨_, _, rfl, CR70.out.2, CR70.out.1⟩, ⟨HGg72.out, HLg72.out⟩⟩)
   ·skip
    refine box_step ?hg (N := 6) ?hd (cs := #[.slice none 0 0, .slice none 0 0]) (t := 25) ?hr ?_; (case hd => rfl); (case hg => rfl); (case hr => first | (go_simp; done) | (go_simp; rfl))
    intro g72 hg w1 hbox hb
    have HGg72 := Aside0.mk hbox; have HLg72 : Aside0 (W49.heap.size ≤ g72) := ⟨Nat.le_trans hHeld.size (Nat.le_of_eq hg.symm)⟩; have HM : Aside0 (g72 < w1.heap.size) := ⟨blk_lt hbox⟩; clear hbox
    have CR51 := Aside0.mk (And.intro (Kd.C_below CR51.out.1 hb) (show ([1, 2] : List Int).length ≤ 2 from Nat.le_refl _))
    clear hg
    have hHeld := hHeld.trans (hb.mono hHeld.size); clear hb
    refine hK.out _ _ hHeld (fun hHeld => ?_); clear hK K
    refine norm_ (a' := ?_) ?_ ?_; rotate_left
    ·show Act.put _ (some 6) _ = _
     simp only [Act.put, List.setIfInBounds_toArray, List.set_cons_zero, List.set_cons_succ, i64_w, i32_w]; rfl
    refine one_ (i := 2) (N := some 24) #[true, true, true, false, false, false, false, true, false, false] rfl rfl (one_of HT_.out (by kernel_rfl)) (by decide) (fun K hK => ?_)
    refine goes_ Try.func25 (by kernel_rfl) rfl #[.slice (some ⟨g50, 0, none⟩) ([1, 2] : List Int).length 2] (by rfl) rfl rfl (by first | rfl | (simp only [List.map_toArray, List.map_cons, List.map_nil]; rfl)) ?_
    refine (triglyphref03_Nums.calls k (some ⟨g50, 0, none⟩) 2 ([1, 2] : List Int) _ _ _ CR51.out.1 CR51.out.2 E53.out).mono ?_
    rintro e w1 ⟨v57, v61, rfl, hv57, hv61, hb⟩
    refine ⟨_, rfl, ?_⟩
    obtain ⟨A54, c55, hv_⟩ := Kd.R_slice hv57; subst hv_; have CR56 := Aside0.mk (And.intro (hf_F2 hv57 HM.out) (Kd.R_reads' hv57).2.1); clear hv57
    obtain ⟨A58, c59, hv_⟩ := Kd.R_slice hv61; subst hv_; have CR60 := Aside0.mk (And.intro (hf_F2 hv61 HM.out) (Kd.R_reads' hv61).2.1); clear hv61
    have CR51 := Aside0.mk (And.intro (Kd.C_below CR51.out.1 hb) (show ([1, 2] : List Int).length ≤ 2 from Nat.le_refl _))
    have HGg72 := Aside0.mk (blk_below HGg72.out hb); have HM := Aside0.mk (Nat.lt_of_lt_of_le HM.out (Below.size hb))
    have hHeld := hHeld.trans (hb.mono hHeld.size); clear hb
    refine hK.out _ _ hHeld (fun hHeld => ?_); clear hK K
    refine norm_ (a' := ?_) ?_ ?_; rotate_left
    ·show Act.put _ (some 24) _ = _
     simp only [Act.put, List.setIfInBounds_toArray, List.set_cons_zero, List.set_cons_succ, i64_w, i32_w]; rfl
    refine one_ (i := 3) (N := some 25) #[true, true, true, true, false, false, false, true, false, false] rfl rfl (one_of HT_.out (by kernel_rfl)) (by decide) (fun K hK => ?_)
    refine goes_ Try.func18 (by kernel_rfl) rfl #[.int .i64 21, .agg #[.slice A5 t2_1.length c6, .slice A8 t2_2.length c9], .agg #[.slice A54 t52_1.length c55, .slice A58 t52_2.length c59]] (by rfl) rfl rfl (by first | rfl | (simp only [List.map_toArray, List.map_cons, List.map_nil]; rfl)) ?_
    refine (atomic_Dy.calls k 21 A5 c6 t2_1 A8 c9 t2_2 A54 c55 t52_1 A58 c59 t52_2 _ _ _ _ (Kd.C_below CR7.out.1 hHeld) CR7.out.2 (Kd.C_below CR10.out.1 hHeld) CR10.out.2 (Kd.F_now CR56.out.1) CR56.out.2 (Kd.F_now CR60.out.1) CR60.out.2 E63.out).mono ?_
    rintro e w1 ⟨v67, v71, rfl, hv67, hv71, hb⟩
    refine ⟨_, rfl, ?_⟩
    obtain ⟨A64, c65, hv_⟩ := Kd.R_slice hv67; subst hv_; have CR66 := Aside0.mk (And.intro (hf_F2 hv67 HM.out) (Kd.R_reads' hv67).2.1); clear hv67
    obtain ⟨A68, c69, hv_⟩ := Kd.R_slice hv71; subst hv_; have CR70 := Aside0.mk (And.intro (hf_F2 hv71 HM.out) (Kd.R_reads' hv71).2.1); clear hv71
    have CR51 := Aside0.mk (And.intro (Kd.C_below CR51.out.1 hb) (show ([1, 2] : List Int).length ≤ 2 from Nat.le_refl _))
    have HGg72 := Aside0.mk (blk_below HGg72.out hb); have HM := Aside0.mk (Nat.lt_of_lt_of_le HM.out (Below.size hb))
    have CR56 := Aside0.mk (And.intro (hf_F4 CR56.out.1 hb) CR56.out.2)
    have CR60 := Aside0.mk (And.intro (hf_F4 CR60.out.1 hb) CR60.out.2)
    have hHeld := hHeld.trans (hb.mono hHeld.size); clear hb
    refine hK.out _ _ hHeld (fun hHeld => ?_); clear hK K
    refine norm_ (a' := ?_) ?_ ?_; rotate_left
    ·show Act.put _ (some 25) _ = _
     simp only [Act.put, List.setIfInBounds_toArray, List.set_cons_zero, List.set_cons_succ, i64_w, i32_w]; rfl
    refine pure_ (i := 4) (N := some 21) (v := ?_) (a' := ?_) #[true, true, true, true, true, false, false, true, false, false] rfl rfl (any_of HT_.out (by kernel_rfl)) (fun _ _ _ h => h) (Or.inl ⟨by rfl, ?_⟩) ?_ ?_; rotate_left
    ·intro w'; go_simp; with_reducible rfl
    rotate_left
    ·simp only [Act.put, List.setIfInBounds_toArray, List.set_cons_zero, List.set_cons_succ, i64_w, i32_w]; rfl
    refine pure_ (i := 5) (N := some 26) (v := ?_) (a' := ?_) #[true, true, true, true, true, true, false, true, false, false] rfl rfl (any_of HT_.out (by kernel_rfl)) (fun _ _ _ h => h) (Or.inl ⟨by rfl, ?_⟩) ?_ ?_; rotate_left
    ·intro w'; go_simp; with_reducible rfl
    rotate_left
    ·simp only [Act.put, List.setIfInBounds_toArray, List.set_cons_zero, List.set_cons_succ, i64_w, i32_w]; rfl
    refine pure_ (i := 6) (N := some 27) (v := ?_) (a' := ?_) #[true, true, true, true, true, true, true, true, false, false] rfl rfl (any_of HT_.out (by kernel_rfl)) (fun _ _ _ h => h) (Or.inl ⟨by rfl, ?_⟩) ?_ ?_; rotate_left
    ·intro w'; go_simp; with_reducible rfl
    rotate_left
    ·simp only [Act.put, List.setIfInBounds_toArray, List.set_cons_zero, List.set_cons_succ, i64_w, i32_w]; rfl
    exact norm_ (by simp only [putAll, Act.put, List.setIfInBounds_toArray, List.set_cons_zero, List.set_cons_succ]) (hCont (g50, .slice A54 t52_1.length c55, .slice A58 t52_2.length c59, .slice A64 t62_1.length c65, .slice A68 t62_2.length c69, g72) _ ⟨hHeld, CR51.out.1, ⟨_, _, rfl, CR56.out.2, CR56.out.1⟩, ⟨_, _, rfl, CR60.out.2, CR60.out.1⟩, ⟨_, _, rfl, CR66.out.2, CR66.out.1⟩, ⟨_, _, rfl, CR70.out.2, CR70.out.1⟩, ⟨HGg72.out, HLg72.out⟩⟩)
  ·skip
   refine box_step ?hg (N := 6) ?hd (cs := #[.slice none 0 0, .slice none 0 0]) (t := 25) ?hr ?_; (case hd => rfl); (case hg => rfl); (case hr => first | (go_simp; done) | (go_simp; rfl))
   intro g72 hg w1 hbox hb
   have HGg72 := Aside0.mk hbox; have HLg72 : Aside0 (W49.heap.size ≤ g72) := ⟨Nat.le_trans hHeld.size (Nat.le_of_eq hg.symm)⟩; have HM : Aside0 (g72 < w1.heap.size) := ⟨blk_lt hbox⟩; clear hbox
   clear hg
   have hHeld := hHeld.trans (hb.mono hHeld.size); clear hb
   refine hK.out _ _ hHeld (fun hHeld => ?_); clear hK K
   refine norm_ (a' := ?_) ?_ ?_; rotate_left
   ·show Act.put _ (some 6) _ = _
    simp only [Act.put, List.setIfInBounds_toArray, List.set_cons_zero, List.set_cons_succ, i64_w, i32_w]; rfl
   refine one_ (i := 1) (N := some 23) #[true, true, false, false, false, false, false, true, false, false] rfl rfl (one_of HT_.out (by kernel_rfl)) (by decide) (fun K hK => ?_)
   refine hf_row_step ?hg (N := 23) ?hd (cs := #[.int .i64 1, .int .i64 2]) (t := 2) (n := 2) ?hr ?_; (case hd => rfl); (case hg => rfl); (case hr => first | (go_simp; done) | (go_simp; rfl))
   intro g50 hg w1 hbox hb
   have CR51 := Aside0.mk (And.intro (hf_litC (d := (Kd.int .i64)) (W := w1) (g := g50) (e := 2) ([1, 2] : List Int) [.int .i64 1, .int .i64 2] hbox (Reps.snoc (Reps.snoc (Reps.none ((Kd.int .i64).K _) 1) rfl rfl) rfl rfl) (by decide)) (show ([1, 2] : List Int).length ≤ 2 from Nat.le_refl _)); clear hbox hg
   have HGg72 := Aside0.mk (blk_below HGg72.out hb); have HM := Aside0.mk (Nat.lt_of_lt_of_le HM.out (Below.size hb))
   have hHeld := hHeld.trans (hb.mono hHeld.size); clear hb
   refine hK.out _ _ hHeld (fun hHeld => ?_); clear hK K
   refine norm_ (a' := ?_) ?_ ?_; rotate_left
   ·show Act.put _ (some 23) _ = _
    simp only [Act.put, List.setIfInBounds_toArray, List.set_cons_zero, List.set_cons_succ, i64_w, i32_w]; rfl
   refine one_ (i := 2) (N := some 24) #[true, true, true, false, false, false, false, true, false, false] rfl rfl (one_of HT_.out (by kernel_rfl)) (by decide) (fun K hK => ?_)
   refine goes_ Try.func25 (by kernel_rfl) rfl #[.slice (some ⟨g50, 0, none⟩) ([1, 2] : List Int).length 2] (by rfl) rfl rfl (by first | rfl | (simp only [List.map_toArray, List.map_cons, List.map_nil]; rfl)) ?_
   refine (triglyphref03_Nums.calls k (some ⟨g50, 0, none⟩) 2 ([1, 2] : List Int) _ _ _ CR51.out.1 CR51.out.2 E53.out).mono ?_
   rintro e w1 ⟨v57, v61, rfl, hv57, hv61, hb⟩
   refine ⟨_, rfl, ?_⟩
   obtain ⟨A54, c55, hv_⟩ := Kd.R_slice hv57; subst hv_; have CR56 := Aside0.mk (And.intro (hf_F2 hv57 HM.out) (Kd.R_reads' hv57).2.1); clear hv57
   obtain ⟨A58, c59, hv_⟩ := Kd.R_slice hv61; subst hv_; have CR60 := Aside0.mk (And.intro (hf_F2 hv61 HM.out) (Kd.R_reads' hv61).2.1); clear hv61
   have HGg72 := Aside0.mk (blk_below HGg72.out hb); have HM := Aside0.mk (Nat.lt_of_lt_of_le HM.out (Below.size hb))
   have CR51 := Aside0.mk (And.intro (Kd.C_below CR51.out.1 hb) (show ([1, 2] : List Int).length ≤ 2 from Nat.le_refl _))
   have hHeld := hHeld.trans (hb.mono hHeld.size); clear hb
   refine hK.out _ _ hHeld (fun hHeld => ?_); clear hK K
   refine norm_ (a' := ?_) ?_ ?_; rotate_left
   ·show Act.put _ (some 24) _ = _
    simp only [Act.put, List.setIfInBounds_toArray, List.set_cons_zero, List.set_cons_succ, i64_w, i32_w]; rfl
   refine one_ (i := 3) (N := some 25) #[true, true, true, true, false, false, false, true, false, false] rfl rfl (one_of HT_.out (by kernel_rfl)) (by decide) (fun K hK => ?_)
   refine goes_ Try.func18 (by kernel_rfl) rfl #[.int .i64 21, .agg #[.slice A5 t2_1.length c6, .slice A8 t2_2.length c9], .agg #[.slice A54 t52_1.length c55, .slice A58 t52_2.length c59]] (by rfl) rfl rfl (by first | rfl | (simp only [List.map_toArray, List.map_cons, List.map_nil]; rfl)) ?_
   refine (atomic_Dy.calls k 21 A5 c6 t2_1 A8 c9 t2_2 A54 c55 t52_1 A58 c59 t52_2 _ _ _ _ (Kd.C_below CR7.out.1 hHeld) CR7.out.2 (Kd.C_below CR10.out.1 hHeld) CR10.out.2 (Kd.F_now CR56.out.1) CR56.out.2 (Kd.F_now CR60.out.1) CR60.out.2 E63.out).mono ?_
   rintro e w1 ⟨v67, v71, rfl, hv67, hv71, hb⟩
   refine ⟨_, rfl, ?_⟩
   obtain ⟨A64, c65, hv_⟩ := Kd.R_slice hv67; subst hv_; have CR66 := Aside0.mk (And.intro (hf_F2 hv67 HM.out) (Kd.R_reads' hv67).2.1); clear hv67
   obtain ⟨A68, c69, hv_⟩ := Kd.R_slice hv71; subst hv_; have CR70 := Aside0.mk (And.intro (hf_F2 hv71 HM.out) (Kd.R_reads' hv71).2.1); clear hv71
   have HGg72 := Aside0.mk (blk_below HGg72.out hb); have HM := Aside0.mk (Nat.lt_of_lt_of_le HM.out (Below.size hb))
   have CR51 := Aside0.mk (And.intro (Kd.C_below CR51.out.1 hb) (show ([1, 2] : List Int).length ≤ 2 from Nat.le_refl _))
   have CR56 := Aside0.mk (And.intro (hf_F4 CR56.out.1 hb) CR56.out.2)
   have CR60 := Aside0.mk (And.intro (hf_F4 CR60.out.1 hb) CR60.out.2)
   have hHeld := hHeld.trans (hb.mono hHeld.size); clear hb
   refine hK.out _ _ hHeld (fun hHeld => ?_); clear hK K
   refine norm_ (a' := ?_) ?_ ?_; rotate_left
   ·show Act.put _ (some 25) _ = _
    simp only [Act.put, List.setIfInBounds_toArray, List.set_cons_zero, List.set_cons_succ, i64_w, i32_w]; rfl
   refine pure_ (i := 4) (N := some 21) (v := ?_) (a' := ?_) #[true, true, true, true, true, false, false, true, false, false] rfl rfl (any_of HT_.out (by kernel_rfl)) (fun _ _ _ h => h) (Or.inl ⟨by rfl, ?_⟩) ?_ ?_; rotate_left
   ·intro w'; go_simp; with_reducible rfl
   rotate_left
   ·simp only [Act.put, List.setIfInBounds_toArray, List.set_cons_zero, List.set_cons_succ, i64_w, i32_w]; rfl
   refine pure_ (i := 5) (N := some 26) (v := ?_) (a' := ?_) #[true, true, true, true, true, true, false, true, false, false] rfl rfl (any_of HT_.out (by kernel_rfl)) (fun _ _ _ h => h) (Or.inl ⟨by rfl, ?_⟩) ?_ ?_; rotate_left
   ·intro w'; go_simp; with_reducible rfl
   rotate_left
   ·simp only [Act.put, List.setIfInBounds_toArray, List.set_cons_zero, List.set_cons_succ, i64_w, i32_w]; rfl
   refine pure_ (i := 6) (N := some 27) (v := ?_) (a' := ?_) #[true, true, true, true, true, true, true, true, false, false] rfl rfl (any_of HT_.out (by kernel_rfl)) (fun _ _ _ h => h) (Or.inl ⟨by rfl, ?_⟩) ?_ ?_; rotate_left
   ·intro w'; go_simp; with_reducible rfl
   rotate_left
   ·simp only [Act.put, List.setIfInBounds_toArray, List.set_cons_zero, List.set_cons_succ, i64_w, i32_w]; rfl
   exact norm_ (by simp only [putAll, Act.put, List.setIfInBounds_toArray, List.set_cons_zero, List.set_cons_succ]) (hCont (g50, .slice A54 t52_1.length c55, .slice A58 t52_2.length c59, .slice A64 t62_1.length c65, .slice A68 t62_2.length c69, g72) _ ⟨hHeld, CR51.out.1, ⟨_, _, rfl, CR56.out.2, CR56.out.1⟩, ⟨_, _, rfl, CR60.out.2, CR60.out.1⟩, ⟨_, _, rfl, CR66.out.2, CR66.out.1⟩, ⟨_, _, rfl, CR70.out.2, CR70.out.1⟩, ⟨HGg72.out, HLg72.out⟩⟩)
 rintro ⟨g50, v57, v61, v67, v71, g72⟩ w73 ⟨hHeld, hF0_, hF1_, hF2_, hF3_, hF4_, hF5_⟩
 dsimp only at hF0_ hF1_ hF2_ hF3_ hF4_ hF5_
 clear hF0_
 obtain ⟨A54, c55, hv_, hl_, hf_⟩ := hF1_; have CR56 := Aside0.mk (And.intro hf_ hl_); clear hf_ hl_; subst hv_
 obtain ⟨A58, c59, hv_, hl_, hf_⟩ := hF2_; have CR60 := Aside0.mk (And.intro hf_ hl_); clear hf_ hl_; subst hv_
 obtain ⟨A64, c65, hv_, hl_, hf_⟩ := hF3_; have CR66 := Aside0.mk (And.intro hf_ hl_); clear hf_ hl_; subst hv_
 obtain ⟨A68, c69, hv_, hl_, hf_⟩ := hF4_; have CR70 := Aside0.mk (And.intro hf_ hl_); clear hf_ hl_; subst hv_
 have HG := Aside0.mk hF5_; clear hF5_
 refine norm_ (a' := ?_) ?_ ?_; rotate_left
 ·simp only [putAll, Act.put, List.setIfInBounds_toArray, List.set_cons_zero, List.set_cons_succ]; rfl
 refine one_ (i := 8) (N := none) #[true, true, true, true, true, true, true, true, true, false] rfl rfl (one_of HT_.out (by kernel_rfl)) (by decide) (fun K hK => ?_)
 have y0 : w73.cell? ⟨g72, 0, none⟩ = some (.slice none 0 0) := (blk_cell HG.out.1 0).trans rfl; have u0 := blk_frozen HG.out.1 0; have y1 : w73.cell? ⟨g72, 1, none⟩ = some (.slice none 0 0) := (blk_cell HG.out.1 1).trans rfl; have u1 := blk_frozen HG.out.1 1
 refine skip_ (w1 := ?_) (by rfl) rfl ?_ ?_; rotate_left
 ·go_simp; rfl
 have HB2 := Aside0.mk (hf_st2 hHeld HG.out.2 (.slice A64 t62_1.length c65) (.slice A68 t62_2.length c69))
 have CR56 := Aside0.mk (And.intro (hf_F5a CR56.out.1 (.slice A64 t62_1.length c65) (.slice A68 t62_2.length c69)) CR56.out.2)
 have CR60 := Aside0.mk (And.intro (hf_F5a CR60.out.1 (.slice A64 t62_1.length c65) (.slice A68 t62_2.length c69)) CR60.out.2)
 have CR66 := Aside0.mk (And.intro (hf_F5a CR66.out.1 (.slice A64 t62_1.length c65) (.slice A68 t62_2.length c69)) CR66.out.2)
 have CR70 := Aside0.mk (And.intro (hf_F5a CR70.out.1 (.slice A64 t62_1.length c65) (.slice A68 t62_2.length c69)) CR70.out.2)
 have HG := Aside0.mk (And.intro (hf_z2 HG.out.1 (.slice A64 t62_1.length c65) (.slice A68 t62_2.length c69)) HG.out.2)
 refine hK.out _ _ HB2.out (fun hHeld => ?_); clear hK K HB2 y0 u0 y1 u1
 generalize (w73.setCell _ _).setCell _ _ = w74 at hHeld HG CR56 CR60 CR66 CR70 ⊢
 refine pure_ (i := 9) (N := some 7) (v := ?_) (a' := ?_) #[true, true, true, true, true, true, true, true, true, true] rfl rfl (any_of HT_.out (by kernel_rfl)) (fun _ _ _ h => h) (Or.inl ⟨by rfl, ?_⟩) ?_ ?_; rotate_left
 ·intro w'; go_simp; with_reducible rfl
 rotate_left
 ·simp only [Act.put, List.setIfInBounds_toArray, List.set_cons_zero, List.set_cons_succ, i64_w, i32_w]; rfl
 refine done_ (done_of HT_.out (by kernel_rfl)) ?_
 have CR56 := Aside0.mk (And.intro (Kd.F_now CR56.out.1) CR56.out.2)
 have CR60 := Aside0.mk (And.intro (Kd.F_now CR60.out.1) CR60.out.2)
 have CR66 := Aside0.mk (And.intro (Kd.F_now CR66.out.1) CR66.out.2)
 have CR70 := Aside0.mk (And.intro (Kd.F_now CR70.out.1) CR70.out.2)
 have CR7 := Aside0.mk (And.intro (Kd.C_below CR7.out.1 hHeld) CR7.out.2)
 have CR10 := Aside0.mk (And.intro (Kd.C_below CR10.out.1 hHeld) CR10.out.2)
 have CR11 := Aside0.mk (And.intro (Kd.C_below CR11.out.1 hHeld) CR11.out.2)
 have CR19 := Aside0.mk (And.intro (Kd.C_below CR19.out.1 hHeld) CR19.out.2)
 have CR23 := Aside0.mk (And.intro (Kd.C_below CR23.out.1 hHeld) CR23.out.2)
 have CR29 := Aside0.mk (And.intro (Kd.C_below CR29.out.1 hHeld) CR29.out.2)
 have CR33 := Aside0.mk (And.intro (Kd.C_below CR33.out.1 hHeld) CR33.out.2)
 have CR43 := Aside0.mk (And.intro (Kd.C_below CR43.out.1 hHeld) CR43.out.2)
 have CR46 := Aside0.mk (And.intro (Kd.C_below CR46.out.1 hHeld) CR46.out.2)
 have HS := Aside0.mk (BxS.add HS.out hHeld HG.out.1 HG.out.2)
 clear hHeld HG
 have z0_0 : w74.cell? ⟨g13, 0, none⟩ = some (.slice A5 t2_1.length c6) := (blk_cell (HS.out.at_ 3 rfl) 0).trans rfl; have z0_1 : w74.cell? ⟨g13, 1, none⟩ = some (.slice A8 t2_2.length c9) := (blk_cell (HS.out.at_ 3 rfl) 1).trans rfl; have z1_0 : w74.cell? ⟨g35, 0, none⟩ = some (.slice A27 t25_1.length c28) := (blk_cell (HS.out.at_ 2 rfl) 0).trans rfl; have z1_1 : w74.cell? ⟨g35, 1, none⟩ = some (.slice A31 t25_2.length c32) := (blk_cell (HS.out.at_ 2 rfl) 1).trans rfl; have z2_0 : w74.cell? ⟨g48, 0, none⟩ = some (.slice A41 t38_1.length c42) := (blk_cell (HS.out.at_ 1 rfl) 0).trans rfl; have z2_1 : w74.cell? ⟨g48, 1, none⟩ = some (.slice A44 t38_2.length c45) := (blk_cell (HS.out.at_ 1 rfl) 1).trans rfl; have z3_0 : w74.cell? ⟨g72, 0, none⟩ = some (.slice A64 t62_1.length c65) := (blk_cell (HS.out.at_ 0 rfl) 0).trans rfl; have z3_1 : w74.cell? ⟨g72, 1, none⟩ = some (.slice A68 t62_2.length c69) := (blk_cell (HS.out.at_ 0 rfl) 1).trans rfl
 by_cases q75 : t25_3 = 0
 ·rw [if_pos q75] at h
  have q75b0 := (beq_iff_eq.2 q75 : (t25_3 == 0) = true)
  clear q75
  by_cases q76 : (t25_2.length : Int) = 3
  ·rw [if_pos q76] at h
   have q76b0 := (beq_iff_eq.2 q76 : ((t25_2.length : Int) == 3) = true)
   clear q76
   by_cases q77 : (2 : Int) < (t25_2.length : Int)
   ·rw [if_pos q77] at h
    have q77b0 := q77
    clear q77
    obtain ⟨ad78, A79, c80, ea_, ad78_0, ad78_1, ad78_2, ad78l2, ad78c2⟩ := at_T35 CR33.out.1 (2 : Int) (by omega) (by omega)
    subst ea_
    rw [show Int.toNat 2 * 3 = 6 from rfl] at ad78_0 ad78_1 ad78_2
    rw [hf_add _ 6 (by decide)] at ad78_0 ad78_1 ad78_2; dsimp only at ad78_0 ad78_1 ad78_2
    have CR81 := Aside0.mk (And.intro ad78c2 ad78l2); clear ad78c2 ad78l2
    by_cases q82 : (rd_T35 t25_2 2).f1 = 8
    ·rw [if_pos q82] at h
     have q82b0 := (beq_iff_eq.2 q82 : ((rd_T35 t25_2 2).f1 == 8) = true)
     clear q82
     by_cases q83 : t38_3 = 0
     ·rw [if_pos q83] at h
      have q83b0 := (beq_iff_eq.2 q83 : (t38_3 == 0) = true)
      clear q83
      by_cases q84 : (0 : Int) < (t38_2.length : Int)
      ·rw [if_pos q84] at h
       have q84b0 := q84
       clear q84
       obtain ⟨ad85, A86, c87, ea_, ad85_0, ad85_1, ad85_2, ad85l2, ad85c2⟩ := at_T35 CR46.out.1 (0 : Int) (by omega) (by omega)
       subst ea_
       rw [show Int.toNat 0 * 3 = 0 from rfl] at ad85_0 ad85_1 ad85_2
       rw [Addr.add_zero'] at ad85_0 ad85_1 ad85_2
       have CR88 := Aside0.mk (And.intro ad85c2 ad85l2); clear ad85c2 ad85l2
       by_cases q89 : (rd_T35 t38_2 0).f1 = (-1)
       ·rw [if_pos q89] at h
        have q89b0 := (beq_iff_eq.2 q89 : ((rd_T35 t38_2 0).f1 == (-1)) = true)
        clear q89
        by_cases q90 : t62_3 = 7
        ·rw [if_pos q90] at h
         have q90b0 := (beq_iff_eq.2 q90 : (t62_3 == 7) = true)
         clear q90
         obtain rfl := Option.some.inj h
         go_wp2_with (fail)
         go_ret
         exact ⟨rfl, HS.out.bel⟩
        ·rw [if_neg q90] at h
         cases h
       ·rw [if_neg q89] at h
        cases h
      ·rw [if_neg q84] at h
       cases h
     ·rw [if_neg q83] at h
      cases h
    ·rw [if_neg q82] at h
     cases h
   ·rw [if_neg q77] at h
    cases h
  ·rw [if_neg q76] at h
   cases h
 ·rw [if_neg q75] at h
  cases h
def triglyphref03_ints.f (a0 : Int) (a1 : Int) : Option (Int) := if a0 < a1 then (some (-1)) else (if a0 > a1 then (some 1) else (some 0))
set_option maxHeartbeats 8000000 in
set_option maxRecDepth 100000 in
theorem triglyphref03_ints.calls (a0 : Int) (a1 : Int) (r : Int) (w : World) (h : triglyphref03_ints.f a0 a1 = some r) :
  Calls Try.prog 39 #[.int .i64 a0, .int .i64 a1] w fun e w' => e = .returned (.int .i64 r) ∧ Drawn0 w w' := by
 have H : (if a0 < a1 then (some (-1)) else (if a0 > a1 then (some 1) else (some 0))) = some r := h
 clear h
 by_cases c3 : a0 < a1
 ·rw [if_pos c3] at H
  have c3b0 := decide_eq_true c3
  clear c3
  obtain rfl := Option.some.inj H
  go_enter Try.func39, Try.ntmps39
  go_wp2
  go_ret
  exact ⟨rfl, by repeat (first | exact Drawn0.refl _ | apply Drawn0.step)⟩
 ·rw [if_neg c3] at H
  have c3b0 := decide_eq_false c3
  clear c3
  by_cases c4 : a0 > a1
  ·rw [if_pos c4] at H
   have c4b0 : decide (a1 < a0) = true := decide_eq_true c4
   clear c4
   obtain rfl := Option.some.inj H
   go_enter Try.func39, Try.ntmps39
   go_wp2
   go_ret
   exact ⟨rfl, by repeat (first | exact Drawn0.refl _ | apply Drawn0.step)⟩
  ·rw [if_neg c4] at H
   have c4b0 : decide (a1 < a0) = false := decide_eq_false c4
   clear c4
   obtain rfl := Option.some.inj H
   go_enter Try.func39, Try.ntmps39
   go_wp2
   go_ret
   exact ⟨rfl, by repeat (first | exact Drawn0.refl _ | apply Drawn0.step)⟩
end Go.Proofs.Ytemlommdfmeabaa.P
