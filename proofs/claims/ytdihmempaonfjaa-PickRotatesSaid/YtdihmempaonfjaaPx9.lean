/- Written by a program of this session: the functions that the laws reach, what each comes to, and each law as it is stated, for every input. No condition. -/
import Derived.Test.YtdihmempaonfjaaPx0
import Derived.Test.YtdihmempaonfjaaPx7
import Derived.Test.YtdihmempaonfjaaPx8
namespace Go.Proofs.Ytdihmempaonfjaa.P
open Go.RowKit Go.Proofs.YtdihmempaonfjaaW.PrintWords Go.Proofs.YtdihmempaonfjaaW.PrintLast Go.Proofs.YtdihmempaonfjaaW.PrintMore
attribute [local go_sem] max2_int min2_int max_two min_two max_three min_three max_four min_four   -- for this text's walks alone
set_option linter.unusedVariables false
set_option linter.unusedSimpArgs false
def triglyphlaw06_works.f (k : Nat)  : Option (Bool) :=
 (triglyphref03_Nums.f k ([1, 2, 3] : List Int)).bind fun t2 => ((triglyphref03_Atom.f (-5)).bind fun t15 => ((pick_Dy.f k 42 t15.1 t15.2 t2.1 t2.2).bind fun t25 => ((triglyphref03_Nums.f k ([2, 0] : List Int)).bind fun t41 => ((pick_Dy.f k 52 t41.1 t41.2 t2.1 t2.2).bind fun t51 => ((triglyphref03_Atom.f 3).bind fun t65 => ((pick_Dy.f k 53 t2.1 t2.2 t65.1 t65.2).bind fun t75 => (if t25.2.2 = 0 then (if (t25.2.1.length : Int) = 5 then (if (2 : Int) < (t25.2.1.length : Int) then (if (rd_T45 t25.2.1 2).f1 = 1 then (if t51.2.2 = 0 then (if (0 : Int) < (t51.2.1.length : Int) then (if (rd_T45 t51.2.1 0).f1 = 3 then (if t75.2.2 = 8 then (some true) else (none)) else (none)) else (none)) else (none)) else (none)) else (none)) else (none)) else (none))))))))
theorem triglyphlaw06_works.mono : ∀ k, LeO (triglyphlaw06_works.f k ) (triglyphlaw06_works.f (k + 1) ) := by
 intro  k
 unfold triglyphlaw06_works.f
 repeat (first | exact LeO.refl _ | exact LeO.none _ | refine LeO.ite ?_ ?_ | refine LeO.bind (pick_Dy.mono _ _ _ _ _ _) (fun _ => ?_) | refine LeO.bind (triglyphref03_Nums.mono _ _) (fun _ => ?_) | refine LeO.bind (LeO.refl _) (fun _ => ?_))
def triglyphlaw06_works.T2 : Bool × List (List Nat × List Nat) := (true, [([], []), ([], []), ([0, 1, 0], [0, 1]), ([2], [2]), ([3], [3]), ([3], [3]), ([], []), ([6, 4, 2, 0, 1, 2, 3, 4, 6], [4, 6]), ([5, 7, 0, 1, 2, 3, 4, 5, 6, 7], [5])])
def triglyphlaw06_works.B2 : List Nat := [0, 0, 3, 7, 15, 15, 0, 95, 255]
theorem triglyphlaw06_works.tab2 : rtab .any (opsOf Try.f10 2) = triglyphlaw06_works.T2 := by kernel_rfl
theorem triglyphlaw06_works.bits2 : waitsOk triglyphlaw06_works.T2.2 triglyphlaw06_works.B2 = true := by kernel_rfl
def triglyphlaw06_works.T3 : Bool × List (List Nat × List Nat) := (true, [([], []), ([0], [0]), ([], []), ([1, 2, 1], [1, 2]), ([3], [3]), ([4], [4]), ([4], [4]), ([], []), ([7, 5, 3, 0, 1, 2, 3, 4, 5, 7], [5, 7]), ([6, 8, 0, 1, 2, 3, 4, 5, 6, 7, 8], [6])])
def triglyphlaw06_works.B3 : List Nat := [0, 1, 0, 7, 15, 31, 31, 0, 191, 511]
theorem triglyphlaw06_works.tab3 : rtab .any (opsOf Try.f10 3) = triglyphlaw06_works.T3 := by kernel_rfl
theorem triglyphlaw06_works.bits3 : waitsOk triglyphlaw06_works.T3.2 triglyphlaw06_works.B3 = true := by kernel_rfl
def triglyphlaw06_works.T4 : Bool × List (List Nat × List Nat) := (true, [([], []), ([], []), ([0, 1, 1], [0, 1]), ([2], [2]), ([3], [3]), ([3], [3]), ([], []), ([6, 4, 2, 0, 1, 2, 3, 4, 6], [4, 6]), ([5, 7, 0, 1, 2, 3, 4, 5, 6, 7], [5])])
def triglyphlaw06_works.B4 : List Nat := [0, 0, 3, 7, 15, 15, 0, 95, 255]
theorem triglyphlaw06_works.tab4 : rtab .any (opsOf Try.f10 4) = triglyphlaw06_works.T4 := by kernel_rfl
theorem triglyphlaw06_works.bits4 : waitsOk triglyphlaw06_works.T4.2 triglyphlaw06_works.B4 = true := by kernel_rfl
set_option maxHeartbeats 8000000 in
set_option maxRecDepth 100000 in
theorem triglyphlaw06_works.calls (k : Nat)  (r : Bool) (w : World)  (h : triglyphlaw06_works.f k  = some r) :
  Calls Try.prog 10 #[] w fun e w' => e = .returned (.bool r) ∧ Below w.heap.size w w' := by
 have HS := Aside0.mk (BxS.nil w)
 unfold triglyphlaw06_works.f at h
 go_enter Try.func10, Try.ntmps10
 obtain ⟨⟨t2_1, t2_2⟩, q_, h⟩ := Option.bind_eq_some_iff.1 h; have E3 := Aside0.mk q_; clear q_; dsimp only at h
 go_upto_region 2 with (first | (go_at_call 18; (refine (triglyphref03_Nums.calls k (some ⟨w.heap.size, 0, none⟩) 3 ([1, 2, 3] : List Int) _ _ _ (hf_litC (d := (Kd.int .i64)) ([1, 2, 3] : List Int) [.int .i64 1, .int .i64 2, .int .i64 3] (blk_new _ (.cells #[.int .i64 1, .int .i64 2, .int .i64 3] 2 (0, 0))) (Reps.snoc (Reps.snoc (Reps.snoc (Reps.none ((Kd.int .i64).K _) 1) rfl rfl) rfl rfl) rfl rfl) (Nat.le_of_ble_eq_true rfl)) (Nat.le_refl _) E3.out).mono ?_); rintro e w4 ⟨v0_, v1_, rfl, h0_, h1_, hb⟩; have CR11 := Aside0.mk (And.intro (Kd.C_below (hf_litC (d := (Kd.int .i64)) ([1, 2, 3] : List Int) [.int .i64 1, .int .i64 2, .int .i64 3] (blk_new _ (.cells #[.int .i64 1, .int .i64 2, .int .i64 3] 2 (0, 0))) (Reps.snoc (Reps.snoc (Reps.snoc (Reps.none ((Kd.int .i64).K _) 1) rfl rfl) rfl rfl) rfl rfl) (Nat.le_of_ble_eq_true rfl)) hb) (show (([1, 2, 3] : List Int)).length ≤ 3 from Nat.le_refl _)); obtain ⟨A5, c6, hv_, hl_, hf_⟩ := Kd.R_reads h0_; clear h0_; have CR7 := Aside0.mk (And.intro hf_ hl_); clear hf_ hl_; subst hv_; obtain ⟨A8, c9, hv_, hl_, hf_⟩ := Kd.R_reads h1_; clear h1_; have CR10 := Aside0.mk (And.intro hf_ hl_); clear hf_ hl_; subst hv_; have HS := Aside0.mk (HS.out.step (hf_ac hb)); clear hb; skip))
 (try clear z0_0 z0_1); skip
 have HS := Aside0.mk (HS.out.cons' #[.slice A5 t2_1.length c6, .slice A8 t2_2.length c9] 25 (rfl))
 have CR7 := Aside0.mk (And.intro (Kd.C_alloc CR7.out.1 (.cells #[.slice A5 t2_1.length c6, .slice A8 t2_2.length c9] 25)) CR7.out.2)
 have CR10 := Aside0.mk (And.intro (Kd.C_alloc CR10.out.1 (.cells #[.slice A5 t2_1.length c6, .slice A8 t2_2.length c9] 25)) CR10.out.2)
 have CR11 := Aside0.mk (And.intro (Kd.C_alloc CR11.out.1 (.cells #[.slice A5 t2_1.length c6, .slice A8 t2_2.length c9] 25)) CR11.out.2)
 generalize w4.alloc (.cells #[.slice A5 t2_1.length c6, .slice A8 t2_2.length c9] 25) = w12 at HS CR7 CR10 CR11 ⊢
 generalize w4.heap.size = g13 at HS ⊢
 have z0_0 : w12.cell? ⟨g13, 0, none⟩ = some (.slice A5 t2_1.length c6) := (blk_cell (HS.out.at_ 0 rfl) 0).trans rfl; have z0_1 : w12.cell? ⟨g13, 1, none⟩ = some (.slice A8 t2_2.length c9) := (blk_cell (HS.out.at_ 0 rfl) 1).trans rfl
 obtain ⟨⟨t15_1, t15_2⟩, q_, h⟩ := Option.bind_eq_some_iff.1 h; have E16 := Aside0.mk q_; clear q_; dsimp only at h
 obtain ⟨⟨t25_1, t25_2, t25_3⟩, q_, h⟩ := Option.bind_eq_some_iff.1 h; have E26 := Aside0.mk q_; clear q_; dsimp only at h
 go_upto_region 2 with (fail)
 refine start_ (n := 9) (S := fun W' => Below w12.drew.heap.size w12.drew W') (ds := []) #[false, false, false, false, false, false, false, false, false] (by kernel_rfl) rfl rfl (Below.refl _ _) (fun hHeld => ?_)
 refine with_tabW triglyphlaw06_works.tab2 triglyphlaw06_works.bits2 (fun HT_ HW_ => ?_)
 (try clear z0_0 z0_1); have HS := Aside0.mk (HS.out.step (below_drew (Below.refl _ _)))
 have CR7 := Aside0.mk (And.intro (Kd.C_below CR7.out.1 (below_drew (Below.refl _ _))) CR7.out.2)
 have CR10 := Aside0.mk (And.intro (Kd.C_below CR10.out.1 (below_drew (Below.refl _ _))) CR10.out.2)
 have CR11 := Aside0.mk (And.intro (Kd.C_below CR11.out.1 (below_drew (Below.refl _ _))) CR11.out.2)
 generalize w12.drew = W14 at HS CR7 CR10 CR11 hHeld ⊢
 refine take_ (i := 1) (N := some 12) (v := ?_) (a' := ?_) #[false, true, false, false, false, false, false, false, false] rfl rfl (take_ofW HT_.out HW_.out (by kernel_rfl)) (fun _ _ _ h => h) (Or.inl ⟨by rfl, ?_⟩) hHeld ?_ ?_; rotate_left
 ·intro w' s0; have y0 : w'.cell? ⟨g13, 0, none⟩ = some (.slice A5 t2_1.length c6) := (blk_cell ((HS.out.step s0).at_ 0 rfl) 0).trans rfl; have y1 : w'.cell? ⟨g13, 1, none⟩ = some (.slice A8 t2_2.length c9) := (blk_cell ((HS.out.step s0).at_ 0 rfl) 1).trans rfl; go_simp; with_reducible rfl
 rotate_left
 ·simp only [Act.put, List.setIfInBounds_toArray, List.set_cons_zero, List.set_cons_succ, i64_w, i32_w]; rfl
 refine join_ (σ := Value × Value × Value × Value × Nat) 2 #[true, true, true, true, true, true, true, false, false] (fun s_ => [(11, .agg #[s_.1, s_.2.1]), (13, .tuple #[.agg #[s_.2.2.1, s_.2.2.2.1], .int .i64 t25_3]), (2, .pointer (some ⟨s_.2.2.2.2, 0, none⟩)), (10, .tuple #[.agg #[s_.2.2.1, s_.2.2.2.1], .int .i64 t25_3]), (14, .agg #[s_.2.2.1, s_.2.2.2.1]), (15, .int .i64 t25_3)]) (fun s_ w' => Below W14.heap.size W14 w' ∧ (∃ A_ c_, s_.1 = .slice A_ (t15_1).length c_ ∧ (t15_1).length ≤ c_ ∧ Kd.F (Kd.int .i64) w' (fun k_ => k_ ≠ s_.2.2.2.2) A_ (t15_1).length t15_1) ∧ (∃ A_ c_, s_.2.1 = .slice A_ (t15_2).length c_ ∧ (t15_2).length ≤ c_ ∧ Kd.F k45 w' (fun k_ => k_ ≠ s_.2.2.2.2) A_ (t15_2).length t15_2) ∧ (∃ A_ c_, s_.2.2.1 = .slice A_ (t25_1).length c_ ∧ (t25_1).length ≤ c_ ∧ Kd.F (Kd.int .i64) w' (fun k_ => k_ ≠ s_.2.2.2.2) A_ (t25_1).length t25_1) ∧ (∃ A_ c_, s_.2.2.2.1 = .slice A_ (t25_2).length c_ ∧ (t25_2).length ≤ c_ ∧ Kd.F k45 w' (fun k_ => k_ ≠ s_.2.2.2.2) A_ (t25_2).length t25_2) ∧ (w'.heap[s_.2.2.2.2]? = some (.cells #[.slice none 0 0, .slice none 0 0] 25 (0, 0)) ∧ W14.heap.size ≤ s_.2.2.2.2)) ?_ ?_; rotate_left
 ·intro hCont
  refine two_ (i := 0) (j := 6) (Ni := some 11) (Nj := some 2) #[true, true, false, false, false, false, false, false, false] #[false, true, false, false, false, false, true, false, false] rfl rfl rfl rfl (two_of HT_.out (by kernel_rfl)) (by decide) (by decide) (fun K hK => ?_) (fun K hK => ?_)
  ·skip
   refine goes_ Try.func16 (by kernel_rfl) rfl #[.int .i64 (-5)] (by rfl) rfl rfl (by first | rfl | (simp only [List.map_toArray, List.map_cons, List.map_nil]; rfl)) ?_
   refine (triglyphref03_Atom.calls (-5) _ _ _ E16.out).mono ?_
   rintro e w1 ⟨v20, v24, rfl, hv20, hv24, hb⟩
   refine ⟨_, rfl, ?_⟩
   obtain ⟨A17, c18, hv_⟩ := Kd.R_slice hv20; subst hv_; have CR19 := Aside0.mk (And.intro (hf_F1 hv20) (Kd.R_reads' hv20).2.1); clear hv20
   obtain ⟨A21, c22, hv_⟩ := Kd.R_slice hv24; subst hv_; have CR23 := Aside0.mk (And.intro (hf_F1 hv24) (Kd.R_reads' hv24).2.1); clear hv24
   have hHeld := hHeld.trans (hb.mono hHeld.size); clear hb
   refine hK.out _ _ hHeld (fun hHeld => ?_); clear hK K
   refine norm_ (a' := ?_) ?_ ?_; rotate_left
   ·show Act.put _ (some 11) _ = _
    simp only [Act.put, List.setIfInBounds_toArray, List.set_cons_zero, List.set_cons_succ, i64_w, i32_w]; rfl
   refine two_ (i := 2) (j := 6) (Ni := some 13) (Nj := some 2) #[true, true, true, false, false, false, false, false, false] #[true, true, false, false, false, false, true, false, false] rfl rfl rfl rfl (two_of HT_.out (by kernel_rfl)) (by decide) (by decide) (fun K hK => ?_) (fun K hK => ?_)
   ·skip
    refine goes_ Try.func11 (by kernel_rfl) rfl #[.int .i64 42, .agg #[.slice A17 t15_1.length c18, .slice A21 t15_2.length c22], .agg #[.slice A5 t2_1.length c6, .slice A8 t2_2.length c9]] (by rfl) rfl rfl (by first | rfl | (simp only [List.map_toArray, List.map_cons, List.map_nil]; rfl)) ?_
    refine (pick_Dy.calls k 42 _ A17 c18 t15_1 _ A21 c22 t15_2 _ A5 c6 t2_1 _ A8 c9 t2_2 _ _ _ _ (Kd.V_mk CR19.out.2 CR19.out.1) (Kd.V_mk CR23.out.2 CR23.out.1) (Kd.V_mk CR7.out.2 (hf_F6 (Kd.C_F (Kd.heap_int .i64) CR7.out.1) hHeld)) (Kd.V_mk CR10.out.2 (hf_F6 (Kd.C_F k45_heap CR10.out.1) hHeld)) E26.out).mono ?_
    rintro e w1 ⟨v30, v34, rfl, hv30, hv34, hb⟩
    refine ⟨_, rfl, ?_⟩
    obtain ⟨A27, c28, hv_, hl_, hf_⟩ := hv30; subst hv_; have CR29 := Aside0.mk (And.intro (Kd.F_mono (ok' := fun _ => True) hf_ (fun _ _ => trivial)) hl_); clear hf_ hl_
    obtain ⟨A31, c32, hv_, hl_, hf_⟩ := hv34; subst hv_; have CR33 := Aside0.mk (And.intro (Kd.F_mono (ok' := fun _ => True) hf_ (fun _ _ => trivial)) hl_); clear hf_ hl_
    have CR19 := Aside0.mk (And.intro (hf_F4 CR19.out.1 hb) CR19.out.2)
    have CR23 := Aside0.mk (And.intro (hf_F4 CR23.out.1 hb) CR23.out.2)
    have hHeld := hHeld.trans (hb.mono hHeld.size); clear hb
    refine hK.out _ _ hHeld (fun hHeld => ?_); clear hK K
    refine norm_ (a' := ?_) ?_ ?_; rotate_left
    ·show Act.put _ (some 13) _ = _
     simp only [Act.put, List.setIfInBounds_toArray, List.set_cons_zero, List.set_cons_succ, i64_w, i32_w]; rfl
    refine pure_ (i := 3) (N := some 10) (v := ?_) (a' := ?_) #[true, true, true, true, false, false, false, false, false] rfl rfl (any_of HT_.out (by kernel_rfl)) (fun _ _ _ h => h) (Or.inl ⟨by rfl, ?_⟩) ?_ ?_; rotate_left
    ·intro w'; go_simp; with_reducible rfl
    rotate_left
    ·simp only [Act.put, List.setIfInBounds_toArray, List.set_cons_zero, List.set_cons_succ, i64_w, i32_w]; rfl
    refine pure_ (i := 4) (N := some 14) (v := ?_) (a' := ?_) #[true, true, true, true, true, false, false, false, false] rfl rfl (any_of HT_.out (by kernel_rfl)) (fun _ _ _ h => h) (Or.inl ⟨by rfl, ?_⟩) ?_ ?_; rotate_left
    ·intro w'; go_simp; with_reducible rfl
    rotate_left
    ·simp only [Act.put, List.setIfInBounds_toArray, List.set_cons_zero, List.set_cons_succ, i64_w, i32_w]; rfl
    refine pure_ (i := 5) (N := some 15) (v := ?_) (a' := ?_) #[true, true, true, true, true, true, false, false, false] rfl rfl (any_of HT_.out (by kernel_rfl)) (fun _ _ _ h => h) (Or.inl ⟨by rfl, ?_⟩) ?_ ?_; rotate_left
    ·intro w'; go_simp; with_reducible rfl
    rotate_left
    ·simp only [Act.put, List.setIfInBounds_toArray, List.set_cons_zero, List.set_cons_succ, i64_w, i32_w]; rfl
    refine one_ (i := 6) (N := some 2) #[true, true, true, true, true, true, true, false, false] rfl rfl (one_of HT_.out (by kernel_rfl)) (by decide) (fun K hK => ?_)
    refine box_step ?hg (N := 2) ?hd (cs := #[.slice none 0 0, .slice none 0 0]) (t := 25) ?hr ?_; (case hd => rfl); (case hg => rfl); (case hr => first | (go_simp; done) | (go_simp; rfl))
    intro g35 hg w1 hbox hb
    have HGg35 := Aside0.mk hbox; have HLg35 : Aside0 (W14.heap.size ≤ g35) := ⟨Nat.le_trans hHeld.size (Nat.le_of_eq hg.symm)⟩; have HM : Aside0 (g35 < w1.heap.size) := ⟨blk_lt hbox⟩; clear hbox
    have CR19 := Aside0.mk (And.intro (hf_F3 hg CR19.out.1 hb) CR19.out.2)
    have CR23 := Aside0.mk (And.intro (hf_F3 hg CR23.out.1 hb) CR23.out.2)
    have CR29 := Aside0.mk (And.intro (hf_F3 hg CR29.out.1 hb) CR29.out.2)
    have CR33 := Aside0.mk (And.intro (hf_F3 hg CR33.out.1 hb) CR33.out.2)
    clear hg
    have hHeld := hHeld.trans (hb.mono hHeld.size); clear hb
    refine hK.out _ _ hHeld (fun hHeld => ?_); clear hK K
    refine norm_ (a' := ?_) ?_ ?_; rotate_left
    ·show Act.put _ (some 2) _ = _
     simp only [Act.put, List.setIfInBounds_toArray, List.set_cons_zero, List.set_cons_succ, i64_w, i32_w]; rfl
    exact norm_ (by simp only [putAll, Act.put, List.setIfInBounds_toArray, List.set_cons_zero, List.set_cons_succ]) (hCont (.slice A17 t15_1.length c18, .slice A21 t15_2.length c22, .slice A27 t25_1.length c28, .slice A31 t25_2.length c32, g35) _ ⟨hHeld, ⟨_, _, rfl, CR19.out.2, CR19.out.1⟩, ⟨_, _, rfl, CR23.out.2, CR23.out.1⟩, ⟨_, _, rfl, CR29.out.2, CR29.out.1⟩, ⟨_, _, rfl, CR33.out.2, CR33.out.1⟩, ⟨HGg35.out, HLg35.out⟩⟩)
   ·skip
    refine box_step ?hg (N := 2) ?hd (cs := #[.slice none 0 0, .slice none 0 0]) (t := 25) ?hr ?_; (case hd => rfl); (case hg => rfl); (case hr => first | (go_simp; done) | (go_simp; rfl))
    intro g35 hg w1 hbox hb
    have HGg35 := Aside0.mk hbox; have HLg35 : Aside0 (W14.heap.size ≤ g35) := ⟨Nat.le_trans hHeld.size (Nat.le_of_eq hg.symm)⟩; have HM : Aside0 (g35 < w1.heap.size) := ⟨blk_lt hbox⟩; clear hbox
    have CR19 := Aside0.mk (And.intro (hf_F3 hg CR19.out.1 hb) CR19.out.2)
    have CR23 := Aside0.mk (And.intro (hf_F3 hg CR23.out.1 hb) CR23.out.2)
    clear hg
    have hHeld := hHeld.trans (hb.mono hHeld.size); clear hb
    refine hK.out _ _ hHeld (fun hHeld => ?_); clear hK K
    refine norm_ (a' := ?_) ?_ ?_; rotate_left
    ·show Act.put _ (some 2) _ = _
     simp only [Act.put, List.setIfInBounds_toArray, List.set_cons_zero, List.set_cons_succ, i64_w, i32_w]; rfl
    refine one_ (i := 2) (N := some 13) #[true, true, true, false, false, false, true, false, false] rfl rfl (one_of HT_.out (by kernel_rfl)) (by decide) (fun K hK => ?_)
    refine goes_ Try.func11 (by kernel_rfl) rfl #[.int .i64 42, .agg #[.slice A17 t15_1.length c18, .slice A21 t15_2.length c22], .agg #[.slice A5 t2_1.length c6, .slice A8 t2_2.length c9]] (by rfl) rfl rfl (by first | rfl | (simp only [List.map_toArray, List.map_cons, List.map_nil]; rfl)) ?_
    refine (pick_Dy.calls k 42 _ A17 c18 t15_1 _ A21 c22 t15_2 _ A5 c6 t2_1 _ A8 c9 t2_2 _ _ _ _ (Kd.V_mk CR19.out.2 CR19.out.1) (Kd.V_mk CR23.out.2 CR23.out.1) (Kd.V_mk CR7.out.2 (hf_F6 (Kd.C_F (Kd.heap_int .i64) CR7.out.1) hHeld)) (Kd.V_mk CR10.out.2 (hf_F6 (Kd.C_F k45_heap CR10.out.1) hHeld)) E26.out).mono ?_
    rintro e w1 ⟨v30, v34, rfl, hv30, hv34, hb⟩
    refine ⟨_, rfl, ?_⟩
    obtain ⟨A27, c28, hv_, hl_, hf_⟩ := hv30; subst hv_; have CR29 := Aside0.mk (And.intro (Kd.F_mono (ok' := fun k_ => k_ ≠ g35) hf_ (fun k hk => by (try dsimp only at hk); have h1 := HLg35.out; have h2 := HM.out; omega)) hl_); clear hf_ hl_
    obtain ⟨A31, c32, hv_, hl_, hf_⟩ := hv34; subst hv_; have CR33 := Aside0.mk (And.intro (Kd.F_mono (ok' := fun k_ => k_ ≠ g35) hf_ (fun k hk => by (try dsimp only at hk); have h1 := HLg35.out; have h2 := HM.out; omega)) hl_); clear hf_ hl_
    have CR19 := Aside0.mk (And.intro (hf_F4 CR19.out.1 hb) CR19.out.2)
    have CR23 := Aside0.mk (And.intro (hf_F4 CR23.out.1 hb) CR23.out.2)
    have HGg35 := Aside0.mk (blk_below HGg35.out hb); have HM := Aside0.mk (Nat.lt_of_lt_of_le HM.out (Below.size hb))
    have hHeld := hHeld.trans (hb.mono hHeld.size); clear hb
    refine hK.out _ _ hHeld (fun hHeld => ?_); clear hK K
    refine norm_ (a' := ?_) ?_ ?_; rotate_left
    ·show Act.put _ (some 13) _ = _
     simp only [Act.put, List.setIfInBounds_toArray, List.set_cons_zero, List.set_cons_succ, i64_w, i32_w]; rfl
    refine pure_ (i := 3) (N := some 10) (v := ?_) (a' := ?_) #[true, true, true, true, false, false, true, false, false] rfl rfl (any_of HT_.out (by kernel_rfl)) (fun _ _ _ h => h) (Or.inl ⟨by rfl, ?_⟩) ?_ ?_; rotate_left
    ·intro w'; go_simp; with_reducible rfl
    rotate_left
    ·simp only [Act.put, List.setIfInBounds_toArray, List.set_cons_zero, List.set_cons_succ, i64_w, i32_w]; rfl
    refine pure_ (i := 4) (N := some 14) (v := ?_) (a' := ?_) #[true, true, true, true, true, false, true, false, false] rfl rfl (any_of HT_.out (by kernel_rfl)) (fun _ _ _ h => h) (Or.inl ⟨by rfl, ?_⟩) ?_ ?_; rotate_left
    ·intro w'; go_simp; with_reducible rfl
    rotate_left
    ·simp only [Act.put, List.setIfInBounds_toArray, List.set_cons_zero, List.set_cons_succ, i64_w, i32_w]; rfl
    refine pure_ (i := 5) (N := some 15) (v := ?_) (a' := ?_) #[true, true, true, true, true, true, true, false, false] rfl rfl (any_of HT_.out (by kernel_rfl)) (fun _ _ _ h => h) (Or.inl ⟨by rfl, ?_⟩) ?_ ?_; rotate_left
    ·intro w'; go_simp; with_reducible rfl
    rotate_left
    ·simp only [Act.put, List.setIfInBounds_toArray, List.set_cons_zero, List.set_cons_succ, i64_w, i32_w]; rfl
    exact norm_ (by simp only [putAll, Act.put, List.setIfInBounds_toArray, List.set_cons_zero, List.set_cons_succ]) (hCont (.slice A17 t15_1.length c18, .slice A21 t15_2.length c22, .slice A27 t25_1.length c28, .slice A31 t25_2.length c32, g35) _ ⟨hHeld, ⟨_, _, rfl, CR19.out.2, CR19.out.1⟩, ⟨_, _, rfl, CR23.out.2, CR23.out.1⟩, ⟨_, _, rfl, CR29.out.2, CR29.out.1⟩, ⟨_, _, rfl, CR33.out.2, CR33.out.1⟩, ⟨HGg35.out, HLg35.out⟩⟩)
  ·skip
   refine box_step ?hg (N := 2) ?hd (cs := #[.slice none 0 0, .slice none 0 0]) (t := 25) ?hr ?_; (case hd => rfl); (case hg => rfl); (case hr => first | (go_simp; done) | (go_simp; rfl))
   intro g35 hg w1 hbox hb
   have HGg35 := Aside0.mk hbox; have HLg35 : Aside0 (W14.heap.size ≤ g35) := ⟨Nat.le_trans hHeld.size (Nat.le_of_eq hg.symm)⟩; have HM : Aside0 (g35 < w1.heap.size) := ⟨blk_lt hbox⟩; clear hbox
   clear hg
   have hHeld := hHeld.trans (hb.mono hHeld.size); clear hb
   refine hK.out _ _ hHeld (fun hHeld => ?_); clear hK K
   refine norm_ (a' := ?_) ?_ ?_; rotate_left
   ·show Act.put _ (some 2) _ = _
    simp only [Act.put, List.setIfInBounds_toArray, List.set_cons_zero, List.set_cons_succ, i64_w, i32_w]; rfl
   refine one_ (i := 0) (N := some 11) #[true, true, false, false, false, false, true, false, false] rfl rfl (one_of HT_.out (by kernel_rfl)) (by decide) (fun K hK => ?_)
   refine goes_ Try.func16 (by kernel_rfl) rfl #[.int .i64 (-5)] (by rfl) rfl rfl (by first | rfl | (simp only [List.map_toArray, List.map_cons, List.map_nil]; rfl)) ?_
   refine (triglyphref03_Atom.calls (-5) _ _ _ E16.out).mono ?_
   rintro e w1 ⟨v20, v24, rfl, hv20, hv24, hb⟩
   refine ⟨_, rfl, ?_⟩
   obtain ⟨A17, c18, hv_⟩ := Kd.R_slice hv20; subst hv_; have CR19 := Aside0.mk (And.intro (hf_F2 hv20 HM.out) (Kd.R_reads' hv20).2.1); clear hv20
   obtain ⟨A21, c22, hv_⟩ := Kd.R_slice hv24; subst hv_; have CR23 := Aside0.mk (And.intro (hf_F2 hv24 HM.out) (Kd.R_reads' hv24).2.1); clear hv24
   have HGg35 := Aside0.mk (blk_below HGg35.out hb); have HM := Aside0.mk (Nat.lt_of_lt_of_le HM.out (Below.size hb))
   have hHeld := hHeld.trans (hb.mono hHeld.size); clear hb
   refine hK.out _ _ hHeld (fun hHeld => ?_); clear hK K
   refine norm_ (a' := ?_) ?_ ?_; rotate_left
   ·show Act.put _ (some 11) _ = _
    simp only [Act.put, List.setIfInBounds_toArray, List.set_cons_zero, List.set_cons_succ, i64_w, i32_w]; rfl
   refine one_ (i := 2) (N := some 13) #[true, true, true, false, false, false, true, false, false] rfl rfl (one_of HT_.out (by kernel_rfl)) (by decide) (fun K hK => ?_)
   refine goes_ Try.func11 (by kernel_rfl) rfl #[.int .i64 42, .agg #[.slice A17 t15_1.length c18, .slice A21 t15_2.length c22], .agg #[.slice A5 t2_1.length c6, .slice A8 t2_2.length c9]] (by rfl) rfl rfl (by first | rfl | (simp only [List.map_toArray, List.map_cons, List.map_nil]; rfl)) ?_
   refine (pick_Dy.calls k 42 _ A17 c18 t15_1 _ A21 c22 t15_2 _ A5 c6 t2_1 _ A8 c9 t2_2 _ _ _ _ (Kd.V_mk CR19.out.2 CR19.out.1) (Kd.V_mk CR23.out.2 CR23.out.1) (Kd.V_mk CR7.out.2 (hf_F6 (Kd.C_F (Kd.heap_int .i64) CR7.out.1) hHeld)) (Kd.V_mk CR10.out.2 (hf_F6 (Kd.C_F k45_heap CR10.out.1) hHeld)) E26.out).mono ?_
   rintro e w1 ⟨v30, v34, rfl, hv30, hv34, hb⟩
   refine ⟨_, rfl, ?_⟩
   obtain ⟨A27, c28, hv_, hl_, hf_⟩ := hv30; subst hv_; have CR29 := Aside0.mk (And.intro (Kd.F_mono (ok' := fun k_ => k_ ≠ g35) hf_ (fun k hk => by (try dsimp only at hk); have h1 := HLg35.out; have h2 := HM.out; omega)) hl_); clear hf_ hl_
   obtain ⟨A31, c32, hv_, hl_, hf_⟩ := hv34; subst hv_; have CR33 := Aside0.mk (And.intro (Kd.F_mono (ok' := fun k_ => k_ ≠ g35) hf_ (fun k hk => by (try dsimp only at hk); have h1 := HLg35.out; have h2 := HM.out; omega)) hl_); clear hf_ hl_
   have HGg35 := Aside0.mk (blk_below HGg35.out hb); have HM := Aside0.mk (Nat.lt_of_lt_of_le HM.out (Below.size hb))
   have CR19 := Aside0.mk (And.intro (hf_F4 CR19.out.1 hb) CR19.out.2)
   have CR23 := Aside0.mk (And.intro (hf_F4 CR23.out.1 hb) CR23.out.2)
   have hHeld := hHeld.trans (hb.mono hHeld.size); clear hb
   refine hK.out _ _ hHeld (fun hHeld => ?_); clear hK K
   refine norm_ (a' := ?_) ?_ ?_; rotate_left
   ·show Act.put _ (some 13) _ = _
    simp only [Act.put, List.setIfInBounds_toArray, List.set_cons_zero, List.set_cons_succ, i64_w, i32_w]; rfl
   refine pure_ (i := 3) (N := some 10) (v := ?_) (a' := ?_) #[true, true, true, true, false, false, true, false, false] rfl rfl (any_of HT_.out (by kernel_rfl)) (fun _ _ _ h => h) (Or.inl ⟨by rfl, ?_⟩) ?_ ?_; rotate_left
   ·intro w'; go_simp; with_reducible rfl
   rotate_left
   ·simp only [Act.put, List.setIfInBounds_toArray, List.set_cons_zero, List.set_cons_succ, i64_w, i32_w]; rfl
   refine pure_ (i := 4) (N := some 14) (v := ?_) (a' := ?_) #[true, true, true, true, true, false, true, false, false] rfl rfl (any_of HT_.out (by kernel_rfl)) (fun _ _ _ h => h) (Or.inl ⟨by rfl, ?_⟩) ?_ ?_; rotate_left
   ·intro w'; go_simp; with_reducible rfl
   rotate_left
   ·simp only [Act.put, List.setIfInBounds_toArray, List.set_cons_zero, List.set_cons_succ, i64_w, i32_w]; rfl
   refine pure_ (i := 5) (N := some 15) (v := ?_) (a' := ?_) #[true, true, true, true, true, true, true, false, false] rfl rfl (any_of HT_.out (by kernel_rfl)) (fun _ _ _ h => h) (Or.inl ⟨by rfl, ?_⟩) ?_ ?_; rotate_left
   ·intro w'; go_simp; with_reducible rfl
   rotate_left
   ·simp only [Act.put, List.setIfInBounds_toArray, List.set_cons_zero, List.set_cons_succ, i64_w, i32_w]; rfl
   exact norm_ (by simp only [putAll, Act.put, List.setIfInBounds_toArray, List.set_cons_zero, List.set_cons_succ]) (hCont (.slice A17 t15_1.length c18, .slice A21 t15_2.length c22, .slice A27 t25_1.length c28, .slice A31 t25_2.length c32, g35) _ ⟨hHeld, ⟨_, _, rfl, CR19.out.2, CR19.out.1⟩, ⟨_, _, rfl, CR23.out.2, CR23.out.1⟩, ⟨_, _, rfl, CR29.out.2, CR29.out.1⟩, ⟨_, _, rfl, CR33.out.2, CR33.out.1⟩, ⟨HGg35.out, HLg35.out⟩⟩)
 rintro ⟨v20, v24, v30, v34, g35⟩ w36 ⟨hHeld, hF0_, hF1_, hF2_, hF3_, hF4_⟩
 dsimp only at hF0_ hF1_ hF2_ hF3_ hF4_
 obtain ⟨A17, c18, hv_, hl_, hf_⟩ := hF0_; have CR19 := Aside0.mk (And.intro hf_ hl_); clear hf_ hl_; subst hv_
 obtain ⟨A21, c22, hv_, hl_, hf_⟩ := hF1_; have CR23 := Aside0.mk (And.intro hf_ hl_); clear hf_ hl_; subst hv_
 obtain ⟨A27, c28, hv_, hl_, hf_⟩ := hF2_; have CR29 := Aside0.mk (And.intro hf_ hl_); clear hf_ hl_; subst hv_
 obtain ⟨A31, c32, hv_, hl_, hf_⟩ := hF3_; have CR33 := Aside0.mk (And.intro hf_ hl_); clear hf_ hl_; subst hv_
 have HG := Aside0.mk hF4_; clear hF4_
 refine norm_ (a' := ?_) ?_ ?_; rotate_left
 ·simp only [putAll, Act.put, List.setIfInBounds_toArray, List.set_cons_zero, List.set_cons_succ]; rfl
 refine one_ (i := 7) (N := none) #[true, true, true, true, true, true, true, true, false] rfl rfl (one_of HT_.out (by kernel_rfl)) (by decide) (fun K hK => ?_)
 have y0 : w36.cell? ⟨g35, 0, none⟩ = some (.slice none 0 0) := (blk_cell HG.out.1 0).trans rfl; have u0 := blk_frozen HG.out.1 0; have y1 : w36.cell? ⟨g35, 1, none⟩ = some (.slice none 0 0) := (blk_cell HG.out.1 1).trans rfl; have u1 := blk_frozen HG.out.1 1
 refine skip_ (w1 := ?_) (by rfl) rfl ?_ ?_; rotate_left
 ·go_simp; rfl
 have HB2 := Aside0.mk (hf_st2 hHeld HG.out.2 (.slice A27 t25_1.length c28) (.slice A31 t25_2.length c32))
 have CR19 := Aside0.mk (And.intro (hf_F5a CR19.out.1 (.slice A27 t25_1.length c28) (.slice A31 t25_2.length c32)) CR19.out.2)
 have CR23 := Aside0.mk (And.intro (hf_F5a CR23.out.1 (.slice A27 t25_1.length c28) (.slice A31 t25_2.length c32)) CR23.out.2)
 have CR29 := Aside0.mk (And.intro (hf_F5a CR29.out.1 (.slice A27 t25_1.length c28) (.slice A31 t25_2.length c32)) CR29.out.2)
 have CR33 := Aside0.mk (And.intro (hf_F5a CR33.out.1 (.slice A27 t25_1.length c28) (.slice A31 t25_2.length c32)) CR33.out.2)
 have HG := Aside0.mk (And.intro (hf_z2 HG.out.1 (.slice A27 t25_1.length c28) (.slice A31 t25_2.length c32)) HG.out.2)
 refine hK.out _ _ HB2.out (fun hHeld => ?_); clear hK K HB2 y0 u0 y1 u1
 generalize (w36.setCell _ _).setCell _ _ = w37 at hHeld HG CR19 CR23 CR29 CR33 ⊢
 refine pure_ (i := 8) (N := some 3) (v := ?_) (a' := ?_) #[true, true, true, true, true, true, true, true, true] rfl rfl (any_of HT_.out (by kernel_rfl)) (fun _ _ _ h => h) (Or.inl ⟨by rfl, ?_⟩) ?_ ?_; rotate_left
 ·intro w'; go_simp; with_reducible rfl
 rotate_left
 ·simp only [Act.put, List.setIfInBounds_toArray, List.set_cons_zero, List.set_cons_succ, i64_w, i32_w]; rfl
 refine done_ (done_of HT_.out (by kernel_rfl)) ?_
 have CR19 := Aside0.mk (And.intro (Kd.F_now CR19.out.1) CR19.out.2)
 have CR23 := Aside0.mk (And.intro (Kd.F_now CR23.out.1) CR23.out.2)
 have CR29 := Aside0.mk (And.intro (Kd.F_now CR29.out.1) CR29.out.2)
 have CR33 := Aside0.mk (And.intro (Kd.F_now CR33.out.1) CR33.out.2)
 have CR7 := Aside0.mk (And.intro (Kd.C_below CR7.out.1 hHeld) CR7.out.2)
 have CR10 := Aside0.mk (And.intro (Kd.C_below CR10.out.1 hHeld) CR10.out.2)
 have CR11 := Aside0.mk (And.intro (Kd.C_below CR11.out.1 hHeld) CR11.out.2)
 have HS := Aside0.mk (BxS.add HS.out hHeld HG.out.1 HG.out.2)
 clear hHeld HG
 have z0_0 : w37.cell? ⟨g13, 0, none⟩ = some (.slice A5 t2_1.length c6) := (blk_cell (HS.out.at_ 1 rfl) 0).trans rfl; have z0_1 : w37.cell? ⟨g13, 1, none⟩ = some (.slice A8 t2_2.length c9) := (blk_cell (HS.out.at_ 1 rfl) 1).trans rfl; have z1_0 : w37.cell? ⟨g35, 0, none⟩ = some (.slice A27 t25_1.length c28) := (blk_cell (HS.out.at_ 0 rfl) 0).trans rfl; have z1_1 : w37.cell? ⟨g35, 1, none⟩ = some (.slice A31 t25_2.length c32) := (blk_cell (HS.out.at_ 0 rfl) 1).trans rfl
 obtain ⟨⟨t41_1, t41_2⟩, q_, h⟩ := Option.bind_eq_some_iff.1 h; have E42 := Aside0.mk q_; clear q_; dsimp only at h
 obtain ⟨⟨t51_1, t51_2, t51_3⟩, q_, h⟩ := Option.bind_eq_some_iff.1 h; have E52 := Aside0.mk q_; clear q_; dsimp only at h
 go_upto_region 3 with (fail)
 refine start_ (n := 10) (S := fun W' => Below w37.drew.heap.size w37.drew W') (ds := []) #[false, false, false, false, false, false, false, false, false, false] (by kernel_rfl) rfl rfl (Below.refl _ _) (fun hHeld => ?_)
 refine with_tabW triglyphlaw06_works.tab3 triglyphlaw06_works.bits3 (fun HT_ HW_ => ?_)
 (try clear z0_0 z0_1 z1_0 z1_1); have HS := Aside0.mk (HS.out.step (below_drew (Below.refl _ _)))
 have CR7 := Aside0.mk (And.intro (Kd.C_below CR7.out.1 (below_drew (Below.refl _ _))) CR7.out.2)
 have CR10 := Aside0.mk (And.intro (Kd.C_below CR10.out.1 (below_drew (Below.refl _ _))) CR10.out.2)
 have CR11 := Aside0.mk (And.intro (Kd.C_below CR11.out.1 (below_drew (Below.refl _ _))) CR11.out.2)
 have CR19 := Aside0.mk (And.intro (Kd.C_below CR19.out.1 (below_drew (Below.refl _ _))) CR19.out.2)
 have CR23 := Aside0.mk (And.intro (Kd.C_below CR23.out.1 (below_drew (Below.refl _ _))) CR23.out.2)
 have CR29 := Aside0.mk (And.intro (Kd.C_below CR29.out.1 (below_drew (Below.refl _ _))) CR29.out.2)
 have CR33 := Aside0.mk (And.intro (Kd.C_below CR33.out.1 (below_drew (Below.refl _ _))) CR33.out.2)
 generalize w37.drew = W38 at HS CR7 CR10 CR11 CR19 CR23 CR29 CR33 hHeld ⊢
 refine take_ (i := 2) (N := some 19) (v := ?_) (a' := ?_) #[false, false, true, false, false, false, false, false, false, false] rfl rfl (take_ofW HT_.out HW_.out (by kernel_rfl)) (fun _ _ _ h => h) (Or.inl ⟨by rfl, ?_⟩) hHeld ?_ ?_; rotate_left
 ·intro w' s0; have y0 : w'.cell? ⟨g13, 0, none⟩ = some (.slice A5 t2_1.length c6) := (blk_cell ((HS.out.step s0).at_ 1 rfl) 0).trans rfl; have y1 : w'.cell? ⟨g13, 1, none⟩ = some (.slice A8 t2_2.length c9) := (blk_cell ((HS.out.step s0).at_ 1 rfl) 1).trans rfl; go_simp; with_reducible rfl
 rotate_left
 ·simp only [Act.put, List.setIfInBounds_toArray, List.set_cons_zero, List.set_cons_succ, i64_w, i32_w]; rfl
 refine join_ (σ := Nat × Value × Value × Value × Value × Nat) 2 #[true, true, true, true, true, true, true, true, false, false] (fun s_ => [(17, .slice (some ⟨s_.1, 0, none⟩) 2 2), (18, .agg #[s_.2.1, s_.2.2.1]), (20, .tuple #[.agg #[s_.2.2.2.1, s_.2.2.2.2.1], .int .i64 t51_3]), (4, .pointer (some ⟨s_.2.2.2.2.2, 0, none⟩)), (16, .tuple #[.agg #[s_.2.2.2.1, s_.2.2.2.2.1], .int .i64 t51_3]), (21, .agg #[s_.2.2.2.1, s_.2.2.2.2.1]), (22, .int .i64 t51_3)]) (fun s_ w' => Below W38.heap.size W38 w' ∧ ((Kd.int .i64).C w' (some ⟨s_.1, 0, none⟩) 2 ([2, 0] : List Int)) ∧ (∃ A_ c_, s_.2.1 = .slice A_ (t41_1).length c_ ∧ (t41_1).length ≤ c_ ∧ Kd.F (Kd.int .i64) w' (fun k_ => k_ ≠ s_.2.2.2.2.2) A_ (t41_1).length t41_1) ∧ (∃ A_ c_, s_.2.2.1 = .slice A_ (t41_2).length c_ ∧ (t41_2).length ≤ c_ ∧ Kd.F k45 w' (fun k_ => k_ ≠ s_.2.2.2.2.2) A_ (t41_2).length t41_2) ∧ (∃ A_ c_, s_.2.2.2.1 = .slice A_ (t51_1).length c_ ∧ (t51_1).length ≤ c_ ∧ Kd.F (Kd.int .i64) w' (fun k_ => k_ ≠ s_.2.2.2.2.2) A_ (t51_1).length t51_1) ∧ (∃ A_ c_, s_.2.2.2.2.1 = .slice A_ (t51_2).length c_ ∧ (t51_2).length ≤ c_ ∧ Kd.F k45 w' (fun k_ => k_ ≠ s_.2.2.2.2.2) A_ (t51_2).length t51_2) ∧ (w'.heap[s_.2.2.2.2.2]? = some (.cells #[.slice none 0 0, .slice none 0 0] 25 (0, 0)) ∧ W38.heap.size ≤ s_.2.2.2.2.2)) ?_ ?_; rotate_left
 ·intro hCont
  refine two_ (i := 0) (j := 7) (Ni := some 17) (Nj := some 4) #[true, false, true, false, false, false, false, false, false, false] #[false, false, true, false, false, false, false, true, false, false] rfl rfl rfl rfl (two_of HT_.out (by kernel_rfl)) (by decide) (by decide) (fun K hK => ?_) (fun K hK => ?_)
  ·skip
   refine hf_row_step ?hg (N := 17) ?hd (cs := #[.int .i64 2, .int .i64 0]) (t := 2) (n := 2) ?hr ?_; (case hd => rfl); (case hg => rfl); (case hr => first | (go_simp; done) | (go_simp; rfl))
   intro g39 hg w1 hbox hb
   have CR40 := Aside0.mk (And.intro (hf_litC (d := (Kd.int .i64)) (W := w1) (g := g39) (e := 2) ([2, 0] : List Int) [.int .i64 2, .int .i64 0] hbox (Reps.snoc (Reps.snoc (Reps.none ((Kd.int .i64).K _) 1) rfl rfl) rfl rfl) (Nat.le_of_ble_eq_true rfl)) (show ([2, 0] : List Int).length ≤ 2 from Nat.le_refl _)); clear hbox hg
   have hHeld := hHeld.trans (hb.mono hHeld.size); clear hb
   refine hK.out _ _ hHeld (fun hHeld => ?_); clear hK K
   refine norm_ (a' := ?_) ?_ ?_; rotate_left
   ·show Act.put _ (some 17) _ = _
    simp only [Act.put, List.setIfInBounds_toArray, List.set_cons_zero, List.set_cons_succ, i64_w, i32_w]; rfl
   refine two_ (i := 1) (j := 7) (Ni := some 18) (Nj := some 4) #[true, true, true, false, false, false, false, false, false, false] #[true, false, true, false, false, false, false, true, false, false] rfl rfl rfl rfl (two_of HT_.out (by kernel_rfl)) (by decide) (by decide) (fun K hK => ?_) (fun K hK => ?_)
   ·skip
    refine goes_ Try.func18 (by kernel_rfl) rfl #[.slice (some ⟨g39, 0, none⟩) ([2, 0] : List Int).length 2] (by rfl) rfl rfl (by first | rfl | (simp only [List.map_toArray, List.map_cons, List.map_nil]; rfl)) ?_
    refine (triglyphref03_Nums.calls k (some ⟨g39, 0, none⟩) 2 ([2, 0] : List Int) _ _ _ CR40.out.1 CR40.out.2 E42.out).mono ?_
    rintro e w1 ⟨v46, v50, rfl, hv46, hv50, hb⟩
    refine ⟨_, rfl, ?_⟩
    obtain ⟨A43, c44, hv_⟩ := Kd.R_slice hv46; subst hv_; have CR45 := Aside0.mk (And.intro (hf_F1 hv46) (Kd.R_reads' hv46).2.1); clear hv46
    obtain ⟨A47, c48, hv_⟩ := Kd.R_slice hv50; subst hv_; have CR49 := Aside0.mk (And.intro (hf_F1 hv50) (Kd.R_reads' hv50).2.1); clear hv50
    have CR40 := Aside0.mk (And.intro (Kd.C_below CR40.out.1 hb) (show ([2, 0] : List Int).length ≤ 2 from Nat.le_refl _))
    have hHeld := hHeld.trans (hb.mono hHeld.size); clear hb
    refine hK.out _ _ hHeld (fun hHeld => ?_); clear hK K
    refine norm_ (a' := ?_) ?_ ?_; rotate_left
    ·show Act.put _ (some 18) _ = _
     simp only [Act.put, List.setIfInBounds_toArray, List.set_cons_zero, List.set_cons_succ, i64_w, i32_w]; rfl
    refine two_ (i := 3) (j := 7) (Ni := some 20) (Nj := some 4) #[true, true, true, true, false, false, false, false, false, false] #[true, true, true, false, false, false, false, true, false, false] rfl rfl rfl rfl (two_of HT_.out (by kernel_rfl)) (by decide) (by decide) (fun K hK => ?_) (fun K hK => ?_)
    ·skip
     refine goes_ Try.func11 (by kernel_rfl) rfl #[.int .i64 52, .agg #[.slice A43 t41_1.length c44, .slice A47 t41_2.length c48], .agg #[.slice A5 t2_1.length c6, .slice A8 t2_2.length c9]] (by rfl) rfl rfl (by first | rfl | (simp only [List.map_toArray, List.map_cons, List.map_nil]; rfl)) ?_
     refine (pick_Dy.calls k 52 _ A43 c44 t41_1 _ A47 c48 t41_2 _ A5 c6 t2_1 _ A8 c9 t2_2 _ _ _ _ (Kd.V_mk CR45.out.2 CR45.out.1) (Kd.V_mk CR49.out.2 CR49.out.1) (Kd.V_mk CR7.out.2 (hf_F6 (Kd.C_F (Kd.heap_int .i64) CR7.out.1) hHeld)) (Kd.V_mk CR10.out.2 (hf_F6 (Kd.C_F k45_heap CR10.out.1) hHeld)) E52.out).mono ?_
     rintro e w1 ⟨v56, v60, rfl, hv56, hv60, hb⟩
     refine ⟨_, rfl, ?_⟩
     obtain ⟨A53, c54, hv_, hl_, hf_⟩ := hv56; subst hv_; have CR55 := Aside0.mk (And.intro (Kd.F_mono (ok' := fun _ => True) hf_ (fun _ _ => trivial)) hl_); clear hf_ hl_
     obtain ⟨A57, c58, hv_, hl_, hf_⟩ := hv60; subst hv_; have CR59 := Aside0.mk (And.intro (Kd.F_mono (ok' := fun _ => True) hf_ (fun _ _ => trivial)) hl_); clear hf_ hl_
     have CR40 := Aside0.mk (And.intro (Kd.C_below CR40.out.1 hb) (show ([2, 0] : List Int).length ≤ 2 from Nat.le_refl _))
     have CR45 := Aside0.mk (And.intro (hf_F4 CR45.out.1 hb) CR45.out.2)
     have CR49 := Aside0.mk (And.intro (hf_F4 CR49.out.1 hb) CR49.out.2)
     have hHeld := hHeld.trans (hb.mono hHeld.size); clear hb
     refine hK.out _ _ hHeld (fun hHeld => ?_); clear hK K
     refine norm_ (a' := ?_) ?_ ?_; rotate_left
     ·show Act.put _ (some 20) _ = _
      simp only [Act.put, List.setIfInBounds_toArray, List.set_cons_zero, List.set_cons_succ, i64_w, i32_w]; rfl
     refine pure_ (i := 4) (N := some 16) (v := ?_) (a' := ?_) #[true, true, true, true, true, false, false, false, false, false] rfl rfl (any_of HT_.out (by kernel_rfl)) (fun _ _ _ h => h) (Or.inl ⟨by rfl, ?_⟩) ?_ ?_; rotate_left
     ·intro w'; go_simp; with_reducible rfl
     rotate_left
     ·simp only [Act.put, List.setIfInBounds_toArray, List.set_cons_zero, List.set_cons_succ, i64_w, i32_w]; rfl
     refine pure_ (i := 5) (N := some 21) (v := ?_) (a' := ?_) #[true, true, true, true, true, true, false, false, false, false] rfl rfl (any_of HT_.out (by kernel_rfl)) (fun _ _ _ h => h) (Or.inl ⟨by rfl, ?_⟩) ?_ ?_; rotate_left
     ·intro w'; go_simp; with_reducible rfl
     rotate_left
     ·simp only [Act.put, List.setIfInBounds_toArray, List.set_cons_zero, List.set_cons_succ, i64_w, i32_w]; rfl
     refine pure_ (i := 6) (N := some 22) (v := ?_) (a' := ?_) #[true, true, true, true, true, true, true, false, false, false] rfl rfl (any_of HT_.out (by kernel_rfl)) (fun _ _ _ h => h) (Or.inl ⟨by rfl, ?_⟩) ?_ ?_; rotate_left
     ·intro w'; go_simp; with_reducible rfl
     rotate_left
     ·simp only [Act.put, List.setIfInBounds_toArray, List.set_cons_zero, List.set_cons_succ, i64_w, i32_w]; rfl
     refine one_ (i := 7) (N := some 4) #[true, true, true, true, true, true, true, true, false, false] rfl rfl (one_of HT_.out (by kernel_rfl)) (by decide) (fun K hK => ?_)
     refine box_step ?hg (N := 4) ?hd (cs := #[.slice none 0 0, .slice none 0 0]) (t := 25) ?hr ?_; (case hd => rfl); (case hg => rfl); (case hr => first | (go_simp; done) | (go_simp; rfl))
     intro g61 hg w1 hbox hb
     have HGg61 := Aside0.mk hbox; have HLg61 : Aside0 (W38.heap.size ≤ g61) := ⟨Nat.le_trans hHeld.size (Nat.le_of_eq hg.symm)⟩; have HM : Aside0 (g61 < w1.heap.size) := ⟨blk_lt hbox⟩; clear hbox
     have CR40 := Aside0.mk (And.intro (Kd.C_below CR40.out.1 hb) (show ([2, 0] : List Int).length ≤ 2 from Nat.le_refl _))
     have CR45 := Aside0.mk (And.intro (hf_F3 hg CR45.out.1 hb) CR45.out.2)
     have CR49 := Aside0.mk (And.intro (hf_F3 hg CR49.out.1 hb) CR49.out.2)
     have CR55 := Aside0.mk (And.intro (hf_F3 hg CR55.out.1 hb) CR55.out.2)
     have CR59 := Aside0.mk (And.intro (hf_F3 hg CR59.out.1 hb) CR59.out.2)
     clear hg
     have hHeld := hHeld.trans (hb.mono hHeld.size); clear hb
     refine hK.out _ _ hHeld (fun hHeld => ?_); clear hK K
     refine norm_ (a' := ?_) ?_ ?_; rotate_left
     ·show Act.put _ (some 4) _ = _
      simp only [Act.put, List.setIfInBounds_toArray, List.set_cons_zero, List.set_cons_succ, i64_w, i32_w]; rfl
     exact norm_ (by simp only [putAll, Act.put, List.setIfInBounds_toArray, List.set_cons_zero, List.set_cons_succ]) (hCont (g39, .slice A43 t41_1.length c44, .slice A47 t41_2.length c48, .slice A53 t51_1.length c54, .slice A57 t51_2.length c58, g61) _ ⟨hHeld, CR40.out.1, ⟨_, _, rfl, CR45.out.2, CR45.out.1⟩, ⟨_, _, rfl, CR49.out.2, CR49.out.1⟩, ⟨_, _, rfl, CR55.out.2, CR55.out.1⟩, ⟨_, _, rfl, CR59.out.2, CR59.out.1⟩, ⟨HGg61.out, HLg61.out⟩⟩)
    ·skip
     refine box_step ?hg (N := 4) ?hd (cs := #[.slice none 0 0, .slice none 0 0]) (t := 25) ?hr ?_; (case hd => rfl); (case hg => rfl); (case hr => first | (go_simp; done) | (go_simp; rfl))
     intro g61 hg w1 hbox hb
     have HGg61 := Aside0.mk hbox; have HLg61 : Aside0 (W38.heap.size ≤ g61) := ⟨Nat.le_trans hHeld.size (Nat.le_of_eq hg.symm)⟩; have HM : Aside0 (g61 < w1.heap.size) := ⟨blk_lt hbox⟩; clear hbox
     have CR40 := Aside0.mk (And.intro (Kd.C_below CR40.out.1 hb) (show ([2, 0] : List Int).length ≤ 2 from Nat.le_refl _))
     have CR45 := Aside0.mk (And.intro (hf_F3 hg CR45.out.1 hb) CR45.out.2)
     have CR49 := Aside0.mk (And.intro (hf_F3 hg CR49.out.1 hb) CR49.out.2)
     clear hg
     have hHeld := hHeld.trans (hb.mono hHeld.size); clear hb
     refine hK.out _ _ hHeld (fun hHeld => ?_); clear hK K
     refine norm_ (a' := ?_) ?_ ?_; rotate_left
     ·show Act.put _ (some 4) _ = _
      simp only [Act.put, List.setIfInBounds_toArray, List.set_cons_zero, List.set_cons_succ, i64_w, i32_w]; rfl
     refine one_ (i := 3) (N := some 20) #[true, true, true, true, false, false, false, true, false, false] rfl rfl (one_of HT_.out (by kernel_rfl)) (by decide) (fun K hK => ?_)
     refine goes_ Try.func11 (by kernel_rfl) rfl #[.int .i64 52, .agg #[.slice A43 t41_1.length c44, .slice A47 t41_2.length c48], .agg #[.slice A5 t2_1.length c6, .slice A8 t2_2.length c9]] (by rfl) rfl rfl (by first | rfl | (simp only [List.map_toArray, List.map_cons, List.map_nil]; rfl)) ?_
     refine (pick_Dy.calls k 52 _ A43 c44 t41_1 _ A47 c48 t41_2 _ A5 c6 t2_1 _ A8 c9 t2_2 _ _ _ _ (Kd.V_mk CR45.out.2 CR45.out.1) (Kd.V_mk CR49.out.2 CR49.out.1) (Kd.V_mk CR7.out.2 (hf_F6 (Kd.C_F (Kd.heap_int .i64) CR7.out.1) hHeld)) (Kd.V_mk CR10.out.2 (hf_F6 (Kd.C_F k45_heap CR10.out.1) hHeld)) E52.out).mono ?_
     rintro e w1 ⟨v56, v60, rfl, hv56, hv60, hb⟩
     refine ⟨_, rfl, ?_⟩
     obtain ⟨A53, c54, hv_, hl_, hf_⟩ := hv56; subst hv_; have CR55 := Aside0.mk (And.intro (Kd.F_mono (ok' := fun k_ => k_ ≠ g61) hf_ (fun k hk => by (try dsimp only at hk); have h1 := HLg61.out; have h2 := HM.out; omega)) hl_); clear hf_ hl_
     obtain ⟨A57, c58, hv_, hl_, hf_⟩ := hv60; subst hv_; have CR59 := Aside0.mk (And.intro (Kd.F_mono (ok' := fun k_ => k_ ≠ g61) hf_ (fun k hk => by (try dsimp only at hk); have h1 := HLg61.out; have h2 := HM.out; omega)) hl_); clear hf_ hl_
     have CR40 := Aside0.mk (And.intro (Kd.C_below CR40.out.1 hb) (show ([2, 0] : List Int).length ≤ 2 from Nat.le_refl _))
     have CR45 := Aside0.mk (And.intro (hf_F4 CR45.out.1 hb) CR45.out.2)
     have CR49 := Aside0.mk (And.intro (hf_F4 CR49.out.1 hb) CR49.out.2)
     have HGg61 := Aside0.mk (blk_below HGg61.out hb); have HM := Aside0.mk (Nat.lt_of_lt_of_le HM.out (Below.size hb))
     have hHeld := hHeld.trans (hb.mono hHeld.size); clear hb
     refine hK.out _ _ hHeld (fun hHeld => ?_); clear hK K
     refine norm_ (a' := ?_) ?_ ?_; rotate_left
     ·show Act.put _ (some 20) _ = _
      simp only [Act.put, List.setIfInBounds_toArray, List.set_cons_zero, List.set_cons_succ, i64_w, i32_w]; rfl
     refine pure_ (i := 4) (N := some 16) (v := ?_) (a' := ?_) #[true, true, true, true, true, false, false, true, false, false] rfl rfl (any_of HT_.out (by kernel_rfl)) (fun _ _ _ h => h) (Or.inl ⟨by rfl, ?_⟩) ?_ ?_; rotate_left
     ·intro w'; go_simp; with_reducible rfl
     rotate_left
     ·simp only [Act.put, List.setIfInBounds_toArray, List.set_cons_zero, List.set_cons_succ, i64_w, i32_w]; rfl
     refine pure_ (i := 5) (N := some 21) (v := ?_) (a' := ?_) #[true, true, true, true, true, true, false, true, false, false] rfl rfl (any_of HT_.out (by kernel_rfl)) (fun _ _ _ h => h) (Or.inl ⟨by rfl, ?_⟩) ?_ ?_; rotate_left
     ·intro w'; go_simp; with_reducible rfl
     rotate_left
     ·simp only [Act.put, List.setIfInBounds_toArray, List.set_cons_zero, List.set_cons_succ, i64_w, i32_w]; rfl
     refine pure_ (i := 6) (N := some 22) (v := ?_) (a' := ?_) #[true, true, true, true, true, true, true, true, false, false] rfl rfl (any_of HT_.out (by kernel_rfl)) (fun _ _ _ h => h) (Or.inl ⟨by rfl, ?_⟩) ?_ ?_; rotate_left
     ·intro w'; go_simp; with_reducible rfl
     rotate_left
     ·simp only [Act.put, List.setIfInBounds_toArray, List.set_cons_zero, List.set_cons_succ, i64_w, i32_w]; rfl
     exact norm_ (by simp only [putAll, Act.put, List.setIfInBounds_toArray, List.set_cons_zero, List.set_cons_succ]) (hCont (g39, .slice A43 t41_1.length c44, .slice A47 t41_2.length c48, .slice A53 t51_1.length c54, .slice A57 t51_2.length c58, g61) _ ⟨hHeld, CR40.out.1, ⟨_, _, rfl, CR45.out.2, CR45.out.1⟩, ⟨_, _, rfl, CR49.out.2, CR49.out.1⟩, ⟨_, _, rfl, CR55.out.2, CR55.out.1⟩, ⟨_, _, rfl, CR59.out.2, CR59.out.1⟩, ⟨HGg61.out, HLg61.out⟩⟩)
   ·skip
    refine box_step ?hg (N := 4) ?hd (cs := #[.slice none 0 0, .slice none 0 0]) (t := 25) ?hr ?_; (case hd => rfl); (case hg => rfl); (case hr => first | (go_simp; done) | (go_simp; rfl))
    intro g61 hg w1 hbox hb
    have HGg61 := Aside0.mk hbox; have HLg61 : Aside0 (W38.heap.size ≤ g61) := ⟨Nat.le_trans hHeld.size (Nat.le_of_eq hg.symm)⟩; have HM : Aside0 (g61 < w1.heap.size) := ⟨blk_lt hbox⟩; clear hbox
    have CR40 := Aside0.mk (And.intro (Kd.C_below CR40.out.1 hb) (show ([2, 0] : List Int).length ≤ 2 from Nat.le_refl _))
    clear hg
    have hHeld := hHeld.trans (hb.mono hHeld.size); clear hb
    refine hK.out _ _ hHeld (fun hHeld => ?_); clear hK K
    refine norm_ (a' := ?_) ?_ ?_; rotate_left
    ·show Act.put _ (some 4) _ = _
     simp only [Act.put, List.setIfInBounds_toArray, List.set_cons_zero, List.set_cons_succ, i64_w, i32_w]; rfl
    refine one_ (i := 1) (N := some 18) #[true, true, true, false, false, false, false, true, false, false] rfl rfl (one_of HT_.out (by kernel_rfl)) (by decide) (fun K hK => ?_)
    refine goes_ Try.func18 (by kernel_rfl) rfl #[.slice (some ⟨g39, 0, none⟩) ([2, 0] : List Int).length 2] (by rfl) rfl rfl (by first | rfl | (simp only [List.map_toArray, List.map_cons, List.map_nil]; rfl)) ?_
    refine (triglyphref03_Nums.calls k (some ⟨g39, 0, none⟩) 2 ([2, 0] : List Int) _ _ _ CR40.out.1 CR40.out.2 E42.out).mono ?_
    rintro e w1 ⟨v46, v50, rfl, hv46, hv50, hb⟩
    refine ⟨_, rfl, ?_⟩
    obtain ⟨A43, c44, hv_⟩ := Kd.R_slice hv46; subst hv_; have CR45 := Aside0.mk (And.intro (hf_F2 hv46 HM.out) (Kd.R_reads' hv46).2.1); clear hv46
    obtain ⟨A47, c48, hv_⟩ := Kd.R_slice hv50; subst hv_; have CR49 := Aside0.mk (And.intro (hf_F2 hv50 HM.out) (Kd.R_reads' hv50).2.1); clear hv50
    have CR40 := Aside0.mk (And.intro (Kd.C_below CR40.out.1 hb) (show ([2, 0] : List Int).length ≤ 2 from Nat.le_refl _))
    have HGg61 := Aside0.mk (blk_below HGg61.out hb); have HM := Aside0.mk (Nat.lt_of_lt_of_le HM.out (Below.size hb))
    have hHeld := hHeld.trans (hb.mono hHeld.size); clear hb
    refine hK.out _ _ hHeld (fun hHeld => ?_); clear hK K
    refine norm_ (a' := ?_) ?_ ?_; rotate_left
    ·show Act.put _ (some 18) _ = _
     simp only [Act.put, List.setIfInBounds_toArray, List.set_cons_zero, List.set_cons_succ, i64_w, i32_w]; rfl
    refine one_ (i := 3) (N := some 20) #[true, true, true, true, false, false, false, true, false, false] rfl rfl (one_of HT_.out (by kernel_rfl)) (by decide) (fun K hK => ?_)
    refine goes_ Try.func11 (by kernel_rfl) rfl #[.int .i64 52, .agg #[.slice A43 t41_1.length c44, .slice A47 t41_2.length c48], .agg #[.slice A5 t2_1.length c6, .slice A8 t2_2.length c9]] (by rfl) rfl rfl (by first | rfl | (simp only [List.map_toArray, List.map_cons, List.map_nil]; rfl)) ?_
    refine (pick_Dy.calls k 52 _ A43 c44 t41_1 _ A47 c48 t41_2 _ A5 c6 t2_1 _ A8 c9 t2_2 _ _ _ _ (Kd.V_mk CR45.out.2 CR45.out.1) (Kd.V_mk CR49.out.2 CR49.out.1) (Kd.V_mk CR7.out.2 (hf_F6 (Kd.C_F (Kd.heap_int .i64) CR7.out.1) hHeld)) (Kd.V_mk CR10.out.2 (hf_F6 (Kd.C_F k45_heap CR10.out.1) hHeld)) E52.out).mono ?_
    rintro e w1 ⟨v56, v60, rfl, hv56, hv60, hb⟩
    refine ⟨_, rfl, ?_⟩
    obtain ⟨A53, c54, hv_, hl_, hf_⟩ := hv56; subst hv_; have CR55 := Aside0.mk (And.intro (Kd.F_mono (ok' := fun k_ => k_ ≠ g61) hf_ (fun k hk => by (try dsimp only at hk); have h1 := HLg61.out; have h2 := HM.out; omega)) hl_); clear hf_ hl_
    obtain ⟨A57, c58, hv_, hl_, hf_⟩ := hv60; subst hv_; have CR59 := Aside0.mk (And.intro (Kd.F_mono (ok' := fun k_ => k_ ≠ g61) hf_ (fun k hk => by (try dsimp only at hk); have h1 := HLg61.out; have h2 := HM.out; omega)) hl_); clear hf_ hl_
    have CR40 := Aside0.mk (And.intro (Kd.C_below CR40.out.1 hb) (show ([2, 0] : List Int).length ≤ 2 from Nat.le_refl _))
    have HGg61 := Aside0.mk (blk_below HGg61.out hb); have HM := Aside0.mk (Nat.lt_of_lt_of_le HM.out (Below.size hb))
    have CR45 := Aside0.mk (And.intro (hf_F4 CR45.out.1 hb) CR45.out.2)
    have CR49 := Aside0.mk (And.intro (hf_F4 CR49.out.1 hb) CR49.out.2)
    have hHeld := hHeld.trans (hb.mono hHeld.size); clear hb
    refine hK.out _ _ hHeld (fun hHeld => ?_); clear hK K
    refine norm_ (a' := ?_) ?_ ?_; rotate_left
    ·show Act.put _ (some 20) _ = _
     simp only [Act.put, List.setIfInBounds_toArray, List.set_cons_zero, List.set_cons_succ, i64_w, i32_w]; rfl
    refine pure_ (i := 4) (N := some 16) (v := ?_) (a' := ?_) #[true, true, true, true, true, false, false, true, false, false] rfl rfl (any_of HT_.out (by kernel_rfl)) (fun _ _ _ h => h) (Or.inl ⟨by rfl, ?_⟩) ?_ ?_; rotate_left
    ·intro w'; go_simp; with_reducible rfl
    rotate_left
    ·simp only [Act.put, List.setIfInBounds_toArray, List.set_cons_zero, List.set_cons_succ, i64_w, i32_w]; rfl
    refine pure_ (i := 5) (N := some 21) (v := ?_) (a' := ?_) #[true, true, true, true, true, true, false, true, false, false] rfl rfl (any_of HT_.out (by kernel_rfl)) (fun _ _ _ h => h) (Or.inl ⟨by rfl, ?_⟩) ?_ ?_; rotate_left
    ·intro w'; go_simp; with_reducible rfl
    rotate_left
    ·simp only [Act.put, List.setIfInBounds_toArray, List.set_cons_zero, List.set_cons_succ, i64_w, i32_w]; rfl
    refine pure_ (i := 6) (N := some 22) (v := ?_) (a' := ?_) #[true, true, true, true, true, true, true, true, false, false] rfl rfl (any_of HT_.out (by kernel_rfl)) (fun _ _ _ h => h) (Or.inl ⟨by rfl, ?_⟩) ?_ ?_; rotate_left
    ·intro w'; go_simp; with_reducible rfl
    rotate_left
    ·simp only [Act.put, List.setIfInBounds_toArray, List.set_cons_zero, List.set_cons_succ, i64_w, i32_w]; rfl
    exact norm_ (by simp only [putAll, Act.put, List.setIfInBounds_toArray, List.set_cons_zero, List.set_cons_succ]) (hCont (g39, .slice A43 t41_1.length c44, .slice A47 t41_2.length c48, .slice A53 t51_1.length c54, .slice A57 t51_2.length c58, g61) _ ⟨hHeld, CR40.out.1, ⟨_, _, rfl, CR45.out.2, CR45.out.1⟩, ⟨_, _, rfl, CR49.out.2, CR49.out.1⟩, ⟨_, _, rfl, CR55.out.2, CR55.out.1⟩, ⟨_, _, rfl, CR59.out.2, CR59.out.1⟩, ⟨HGg61.out, HLg61.out⟩⟩)
  ·skip
   refine box_step ?hg (N := 4) ?hd (cs := #[.slice none 0 0, .slice none 0 0]) (t := 25) ?hr ?_; (case hd => rfl); (case hg => rfl); (case hr => first | (go_simp; done) | (go_simp; rfl))
   intro g61 hg w1 hbox hb
   have HGg61 := Aside0.mk hbox; have HLg61 : Aside0 (W38.heap.size ≤ g61) := ⟨Nat.le_trans hHeld.size (Nat.le_of_eq hg.symm)⟩; have HM : Aside0 (g61 < w1.heap.size) := ⟨blk_lt hbox⟩; clear hbox
   clear hg
   have hHeld := hHeld.trans (hb.mono hHeld.size); clear hb
   refine hK.out _ _ hHeld (fun hHeld => ?_); clear hK K
   refine norm_ (a' := ?_) ?_ ?_; rotate_left
   ·show Act.put _ (some 4) _ = _
    simp only [Act.put, List.setIfInBounds_toArray, List.set_cons_zero, List.set_cons_succ, i64_w, i32_w]; rfl
   refine one_ (i := 0) (N := some 17) #[true, false, true, false, false, false, false, true, false, false] rfl rfl (one_of HT_.out (by kernel_rfl)) (by decide) (fun K hK => ?_)
   refine hf_row_step ?hg (N := 17) ?hd (cs := #[.int .i64 2, .int .i64 0]) (t := 2) (n := 2) ?hr ?_; (case hd => rfl); (case hg => rfl); (case hr => first | (go_simp; done) | (go_simp; rfl))
   intro g39 hg w1 hbox hb
   have CR40 := Aside0.mk (And.intro (hf_litC (d := (Kd.int .i64)) (W := w1) (g := g39) (e := 2) ([2, 0] : List Int) [.int .i64 2, .int .i64 0] hbox (Reps.snoc (Reps.snoc (Reps.none ((Kd.int .i64).K _) 1) rfl rfl) rfl rfl) (Nat.le_of_ble_eq_true rfl)) (show ([2, 0] : List Int).length ≤ 2 from Nat.le_refl _)); clear hbox hg
   have HGg61 := Aside0.mk (blk_below HGg61.out hb); have HM := Aside0.mk (Nat.lt_of_lt_of_le HM.out (Below.size hb))
   have hHeld := hHeld.trans (hb.mono hHeld.size); clear hb
   refine hK.out _ _ hHeld (fun hHeld => ?_); clear hK K
   refine norm_ (a' := ?_) ?_ ?_; rotate_left
   ·show Act.put _ (some 17) _ = _
    simp only [Act.put, List.setIfInBounds_toArray, List.set_cons_zero, List.set_cons_succ, i64_w, i32_w]; rfl
   refine one_ (i := 1) (N := some 18) #[true, true, true, false, false, false, false, true, false, false] rfl rfl (one_of HT_.out (by kernel_rfl)) (by decide) (fun K hK => ?_)
   refine goes_ Try.func18 (by kernel_rfl) rfl #[.slice (some ⟨g39, 0, none⟩) ([2, 0] : List Int).length 2] (by rfl) rfl rfl (by first | rfl | (simp only [List.map_toArray, List.map_cons, List.map_nil]; rfl)) ?_
   refine (triglyphref03_Nums.calls k (some ⟨g39, 0, none⟩) 2 ([2, 0] : List Int) _ _ _ CR40.out.1 CR40.out.2 E42.out).mono ?_
   rintro e w1 ⟨v46, v50, rfl, hv46, hv50, hb⟩
   refine ⟨_, rfl, ?_⟩
   obtain ⟨A43, c44, hv_⟩ := Kd.R_slice hv46; subst hv_; have CR45 := Aside0.mk (And.intro (hf_F2 hv46 HM.out) (Kd.R_reads' hv46).2.1); clear hv46
   obtain ⟨A47, c48, hv_⟩ := Kd.R_slice hv50; subst hv_; have CR49 := Aside0.mk (And.intro (hf_F2 hv50 HM.out) (Kd.R_reads' hv50).2.1); clear hv50
   have HGg61 := Aside0.mk (blk_below HGg61.out hb); have HM := Aside0.mk (Nat.lt_of_lt_of_le HM.out (Below.size hb))
   have CR40 := Aside0.mk (And.intro (Kd.C_below CR40.out.1 hb) (show ([2, 0] : List Int).length ≤ 2 from Nat.le_refl _))
   have hHeld := hHeld.trans (hb.mono hHeld.size); clear hb
   refine hK.out _ _ hHeld (fun hHeld => ?_); clear hK K
   refine norm_ (a' := ?_) ?_ ?_; rotate_left
   ·show Act.put _ (some 18) _ = _
    simp only [Act.put, List.setIfInBounds_toArray, List.set_cons_zero, List.set_cons_succ, i64_w, i32_w]; rfl
   refine one_ (i := 3) (N := some 20) #[true, true, true, true, false, false, false, true, false, false] rfl rfl (one_of HT_.out (by kernel_rfl)) (by decide) (fun K hK => ?_)
   refine goes_ Try.func11 (by kernel_rfl) rfl #[.int .i64 52, .agg #[.slice A43 t41_1.length c44, .slice A47 t41_2.length c48], .agg #[.slice A5 t2_1.length c6, .slice A8 t2_2.length c9]] (by rfl) rfl rfl (by first | rfl | (simp only [List.map_toArray, List.map_cons, List.map_nil]; rfl)) ?_
   refine (pick_Dy.calls k 52 _ A43 c44 t41_1 _ A47 c48 t41_2 _ A5 c6 t2_1 _ A8 c9 t2_2 _ _ _ _ (Kd.V_mk CR45.out.2 CR45.out.1) (Kd.V_mk CR49.out.2 CR49.out.1) (Kd.V_mk CR7.out.2 (hf_F6 (Kd.C_F (Kd.heap_int .i64) CR7.out.1) hHeld)) (Kd.V_mk CR10.out.2 (hf_F6 (Kd.C_F k45_heap CR10.out.1) hHeld)) E52.out).mono ?_
   rintro e w1 ⟨v56, v60, rfl, hv56, hv60, hb⟩
   refine ⟨_, rfl, ?_⟩
   obtain ⟨A53, c54, hv_, hl_, hf_⟩ := hv56; subst hv_; have CR55 := Aside0.mk (And.intro (Kd.F_mono (ok' := fun k_ => k_ ≠ g61) hf_ (fun k hk => by (try dsimp only at hk); have h1 := HLg61.out; have h2 := HM.out; omega)) hl_); clear hf_ hl_
   obtain ⟨A57, c58, hv_, hl_, hf_⟩ := hv60; subst hv_; have CR59 := Aside0.mk (And.intro (Kd.F_mono (ok' := fun k_ => k_ ≠ g61) hf_ (fun k hk => by (try dsimp only at hk); have h1 := HLg61.out; have h2 := HM.out; omega)) hl_); clear hf_ hl_
   have HGg61 := Aside0.mk (blk_below HGg61.out hb); have HM := Aside0.mk (Nat.lt_of_lt_of_le HM.out (Below.size hb))
   have CR40 := Aside0.mk (And.intro (Kd.C_below CR40.out.1 hb) (show ([2, 0] : List Int).length ≤ 2 from Nat.le_refl _))
   have CR45 := Aside0.mk (And.intro (hf_F4 CR45.out.1 hb) CR45.out.2)
   have CR49 := Aside0.mk (And.intro (hf_F4 CR49.out.1 hb) CR49.out.2)
   have hHeld := hHeld.trans (hb.mono hHeld.size); clear hb
   refine hK.out _ _ hHeld (fun hHeld => ?_); clear hK K
   refine norm_ (a' := ?_) ?_ ?_; rotate_left
   ·show Act.put _ (some 20) _ = _
    simp only [Act.put, List.setIfInBounds_toArray, List.set_cons_zero, List.set_cons_succ, i64_w, i32_w]; rfl
   refine pure_ (i := 4) (N := some 16) (v := ?_) (a' := ?_) #[true, true, true, true, true, false, false, true, false, false] rfl rfl (any_of HT_.out (by kernel_rfl)) (fun _ _ _ h => h) (Or.inl ⟨by rfl, ?_⟩) ?_ ?_; rotate_left
   ·intro w'; go_simp; with_reducible rfl
   rotate_left
   ·simp only [Act.put, List.setIfInBounds_toArray, List.set_cons_zero, List.set_cons_succ, i64_w, i32_w]; rfl
   refine pure_ (i := 5) (N := some 21) (v := ?_) (a' := ?_) #[true, true, true, true, true, true, false, true, false, false] rfl rfl (any_of HT_.out (by kernel_rfl)) (fun _ _ _ h => h) (Or.inl ⟨by rfl, ?_⟩) ?_ ?_; rotate_left
   ·intro w'; go_simp; with_reducible rfl
   rotate_left
   ·simp only [Act.put, List.setIfInBounds_toArray, List.set_cons_zero, List.set_cons_succ, i64_w, i32_w]; rfl
   refine pure_ (i := 6) (N := some 22) (v := ?_) (a' := ?_) #[true, true, true, true, true, true, true, true, false, false] rfl rfl (any_of HT_.out (by kernel_rfl)) (fun _ _ _ h => h) (Or.inl ⟨by rfl, ?_⟩) ?_ ?_; rotate_left
   ·intro w'; go_simp; with_reducible rfl
   rotate_left
   ·simp only [Act.put, List.setIfInBounds_toArray, List.set_cons_zero, List.set_cons_succ, i64_w, i32_w]; rfl
   exact norm_ (by simp only [putAll, Act.put, List.setIfInBounds_toArray, List.set_cons_zero, List.set_cons_succ]) (hCont (g39, .slice A43 t41_1.length c44, .slice A47 t41_2.length c48, .slice A53 t51_1.length c54, .slice A57 t51_2.length c58, g61) _ ⟨hHeld, CR40.out.1, ⟨_, _, rfl, CR45.out.2, CR45.out.1⟩, ⟨_, _, rfl, CR49.out.2, CR49.out.1⟩, ⟨_, _, rfl, CR55.out.2, CR55.out.1⟩, ⟨_, _, rfl, CR59.out.2, CR59.out.1⟩, ⟨HGg61.out, HLg61.out⟩⟩)
 rintro ⟨g39, v46, v50, v56, v60, g61⟩ w62 ⟨hHeld, hF0_, hF1_, hF2_, hF3_, hF4_, hF5_⟩
 dsimp only at hF0_ hF1_ hF2_ hF3_ hF4_ hF5_
 clear hF0_
 obtain ⟨A43, c44, hv_, hl_, hf_⟩ := hF1_; have CR45 := Aside0.mk (And.intro hf_ hl_); clear hf_ hl_; subst hv_
 obtain ⟨A47, c48, hv_, hl_, hf_⟩ := hF2_; have CR49 := Aside0.mk (And.intro hf_ hl_); clear hf_ hl_; subst hv_
 obtain ⟨A53, c54, hv_, hl_, hf_⟩ := hF3_; have CR55 := Aside0.mk (And.intro hf_ hl_); clear hf_ hl_; subst hv_
 obtain ⟨A57, c58, hv_, hl_, hf_⟩ := hF4_; have CR59 := Aside0.mk (And.intro hf_ hl_); clear hf_ hl_; subst hv_
 have HG := Aside0.mk hF5_; clear hF5_
 refine norm_ (a' := ?_) ?_ ?_; rotate_left
 ·simp only [putAll, Act.put, List.setIfInBounds_toArray, List.set_cons_zero, List.set_cons_succ]; rfl
 refine one_ (i := 8) (N := none) #[true, true, true, true, true, true, true, true, true, false] rfl rfl (one_of HT_.out (by kernel_rfl)) (by decide) (fun K hK => ?_)
 have y0 : w62.cell? ⟨g61, 0, none⟩ = some (.slice none 0 0) := (blk_cell HG.out.1 0).trans rfl; have u0 := blk_frozen HG.out.1 0; have y1 : w62.cell? ⟨g61, 1, none⟩ = some (.slice none 0 0) := (blk_cell HG.out.1 1).trans rfl; have u1 := blk_frozen HG.out.1 1
 refine skip_ (w1 := ?_) (by rfl) rfl ?_ ?_; rotate_left
 ·go_simp; rfl
 have HB2 := Aside0.mk (hf_st2 hHeld HG.out.2 (.slice A53 t51_1.length c54) (.slice A57 t51_2.length c58))
 have CR45 := Aside0.mk (And.intro (hf_F5a CR45.out.1 (.slice A53 t51_1.length c54) (.slice A57 t51_2.length c58)) CR45.out.2)
 have CR49 := Aside0.mk (And.intro (hf_F5a CR49.out.1 (.slice A53 t51_1.length c54) (.slice A57 t51_2.length c58)) CR49.out.2)
 have CR55 := Aside0.mk (And.intro (hf_F5a CR55.out.1 (.slice A53 t51_1.length c54) (.slice A57 t51_2.length c58)) CR55.out.2)
 have CR59 := Aside0.mk (And.intro (hf_F5a CR59.out.1 (.slice A53 t51_1.length c54) (.slice A57 t51_2.length c58)) CR59.out.2)
 have HG := Aside0.mk (And.intro (hf_z2 HG.out.1 (.slice A53 t51_1.length c54) (.slice A57 t51_2.length c58)) HG.out.2)
 refine hK.out _ _ HB2.out (fun hHeld => ?_); clear hK K HB2 y0 u0 y1 u1
 generalize (w62.setCell _ _).setCell _ _ = w63 at hHeld HG CR45 CR49 CR55 CR59 ⊢
 refine pure_ (i := 9) (N := some 5) (v := ?_) (a' := ?_) #[true, true, true, true, true, true, true, true, true, true] rfl rfl (any_of HT_.out (by kernel_rfl)) (fun _ _ _ h => h) (Or.inl ⟨by rfl, ?_⟩) ?_ ?_; rotate_left
 ·intro w'; go_simp; with_reducible rfl
 rotate_left
 ·simp only [Act.put, List.setIfInBounds_toArray, List.set_cons_zero, List.set_cons_succ, i64_w, i32_w]; rfl
 refine done_ (done_of HT_.out (by kernel_rfl)) ?_
 have CR45 := Aside0.mk (And.intro (Kd.F_now CR45.out.1) CR45.out.2)
 have CR49 := Aside0.mk (And.intro (Kd.F_now CR49.out.1) CR49.out.2)
 have CR55 := Aside0.mk (And.intro (Kd.F_now CR55.out.1) CR55.out.2)
 have CR59 := Aside0.mk (And.intro (Kd.F_now CR59.out.1) CR59.out.2)
 have CR7 := Aside0.mk (And.intro (Kd.C_below CR7.out.1 hHeld) CR7.out.2)
 have CR10 := Aside0.mk (And.intro (Kd.C_below CR10.out.1 hHeld) CR10.out.2)
 have CR11 := Aside0.mk (And.intro (Kd.C_below CR11.out.1 hHeld) CR11.out.2)
 have CR19 := Aside0.mk (And.intro (Kd.C_below CR19.out.1 hHeld) CR19.out.2)
 have CR23 := Aside0.mk (And.intro (Kd.C_below CR23.out.1 hHeld) CR23.out.2)
 have CR29 := Aside0.mk (And.intro (Kd.C_below CR29.out.1 hHeld) CR29.out.2)
 have CR33 := Aside0.mk (And.intro (Kd.C_below CR33.out.1 hHeld) CR33.out.2)
 have HS := Aside0.mk (BxS.add HS.out hHeld HG.out.1 HG.out.2)
 clear hHeld HG
 have z0_0 : w63.cell? ⟨g13, 0, none⟩ = some (.slice A5 t2_1.length c6) := (blk_cell (HS.out.at_ 2 rfl) 0).trans rfl; have z0_1 : w63.cell? ⟨g13, 1, none⟩ = some (.slice A8 t2_2.length c9) := (blk_cell (HS.out.at_ 2 rfl) 1).trans rfl; have z1_0 : w63.cell? ⟨g35, 0, none⟩ = some (.slice A27 t25_1.length c28) := (blk_cell (HS.out.at_ 1 rfl) 0).trans rfl; have z1_1 : w63.cell? ⟨g35, 1, none⟩ = some (.slice A31 t25_2.length c32) := (blk_cell (HS.out.at_ 1 rfl) 1).trans rfl; have z2_0 : w63.cell? ⟨g61, 0, none⟩ = some (.slice A53 t51_1.length c54) := (blk_cell (HS.out.at_ 0 rfl) 0).trans rfl; have z2_1 : w63.cell? ⟨g61, 1, none⟩ = some (.slice A57 t51_2.length c58) := (blk_cell (HS.out.at_ 0 rfl) 1).trans rfl
 obtain ⟨⟨t65_1, t65_2⟩, q_, h⟩ := Option.bind_eq_some_iff.1 h; have E66 := Aside0.mk q_; clear q_; dsimp only at h
 obtain ⟨⟨t75_1, t75_2, t75_3⟩, q_, h⟩ := Option.bind_eq_some_iff.1 h; have E76 := Aside0.mk q_; clear q_; dsimp only at h
 go_upto_region 4 with (fail)
 refine start_ (n := 9) (S := fun W' => Below w63.drew.heap.size w63.drew W') (ds := []) #[false, false, false, false, false, false, false, false, false] (by kernel_rfl) rfl rfl (Below.refl _ _) (fun hHeld => ?_)
 refine with_tabW triglyphlaw06_works.tab4 triglyphlaw06_works.bits4 (fun HT_ HW_ => ?_)
 (try clear z0_0 z0_1 z1_0 z1_1 z2_0 z2_1); have HS := Aside0.mk (HS.out.step (below_drew (Below.refl _ _)))
 have CR7 := Aside0.mk (And.intro (Kd.C_below CR7.out.1 (below_drew (Below.refl _ _))) CR7.out.2)
 have CR10 := Aside0.mk (And.intro (Kd.C_below CR10.out.1 (below_drew (Below.refl _ _))) CR10.out.2)
 have CR11 := Aside0.mk (And.intro (Kd.C_below CR11.out.1 (below_drew (Below.refl _ _))) CR11.out.2)
 have CR19 := Aside0.mk (And.intro (Kd.C_below CR19.out.1 (below_drew (Below.refl _ _))) CR19.out.2)
 have CR23 := Aside0.mk (And.intro (Kd.C_below CR23.out.1 (below_drew (Below.refl _ _))) CR23.out.2)
 have CR29 := Aside0.mk (And.intro (Kd.C_below CR29.out.1 (below_drew (Below.refl _ _))) CR29.out.2)
 have CR33 := Aside0.mk (And.intro (Kd.C_below CR33.out.1 (below_drew (Below.refl _ _))) CR33.out.2)
 have CR45 := Aside0.mk (And.intro (Kd.C_below CR45.out.1 (below_drew (Below.refl _ _))) CR45.out.2)
 have CR49 := Aside0.mk (And.intro (Kd.C_below CR49.out.1 (below_drew (Below.refl _ _))) CR49.out.2)
 have CR55 := Aside0.mk (And.intro (Kd.C_below CR55.out.1 (below_drew (Below.refl _ _))) CR55.out.2)
 have CR59 := Aside0.mk (And.intro (Kd.C_below CR59.out.1 (below_drew (Below.refl _ _))) CR59.out.2)
 generalize w63.drew = W64 at HS CR7 CR10 CR11 CR19 CR23 CR29 CR33 CR45 CR49 CR55 CR59 hHeld ⊢
 refine take_ (i := 0) (N := some 24) (v := ?_) (a' := ?_) #[true, false, false, false, false, false, false, false, false] rfl rfl (take_ofW HT_.out HW_.out (by kernel_rfl)) (fun _ _ _ h => h) (Or.inl ⟨by rfl, ?_⟩) hHeld ?_ ?_; rotate_left
 ·intro w' s0; have y0 : w'.cell? ⟨g13, 0, none⟩ = some (.slice A5 t2_1.length c6) := (blk_cell ((HS.out.step s0).at_ 2 rfl) 0).trans rfl; have y1 : w'.cell? ⟨g13, 1, none⟩ = some (.slice A8 t2_2.length c9) := (blk_cell ((HS.out.step s0).at_ 2 rfl) 1).trans rfl; go_simp; with_reducible rfl
 rotate_left
 ·simp only [Act.put, List.setIfInBounds_toArray, List.set_cons_zero, List.set_cons_succ, i64_w, i32_w]; rfl
 refine join_ (σ := Value × Value × Value × Value × Nat) 2 #[true, true, true, true, true, true, true, false, false] (fun s_ => [(25, .agg #[s_.1, s_.2.1]), (26, .tuple #[.agg #[s_.2.2.1, s_.2.2.2.1], .int .i64 t75_3]), (6, .pointer (some ⟨s_.2.2.2.2, 0, none⟩)), (23, .tuple #[.agg #[s_.2.2.1, s_.2.2.2.1], .int .i64 t75_3]), (27, .agg #[s_.2.2.1, s_.2.2.2.1]), (28, .int .i64 t75_3)]) (fun s_ w' => Below W64.heap.size W64 w' ∧ (∃ A_ c_, s_.1 = .slice A_ (t65_1).length c_ ∧ (t65_1).length ≤ c_ ∧ Kd.F (Kd.int .i64) w' (fun k_ => k_ ≠ s_.2.2.2.2) A_ (t65_1).length t65_1) ∧ (∃ A_ c_, s_.2.1 = .slice A_ (t65_2).length c_ ∧ (t65_2).length ≤ c_ ∧ Kd.F k45 w' (fun k_ => k_ ≠ s_.2.2.2.2) A_ (t65_2).length t65_2) ∧ (∃ A_ c_, s_.2.2.1 = .slice A_ (t75_1).length c_ ∧ (t75_1).length ≤ c_ ∧ Kd.F (Kd.int .i64) w' (fun k_ => k_ ≠ s_.2.2.2.2) A_ (t75_1).length t75_1) ∧ (∃ A_ c_, s_.2.2.2.1 = .slice A_ (t75_2).length c_ ∧ (t75_2).length ≤ c_ ∧ Kd.F k45 w' (fun k_ => k_ ≠ s_.2.2.2.2) A_ (t75_2).length t75_2) ∧ (w'.heap[s_.2.2.2.2]? = some (.cells #[.slice none 0 0, .slice none 0 0] 25 (0, 0)) ∧ W64.heap.size ≤ s_.2.2.2.2)) ?_ ?_; rotate_left
 ·intro hCont
  refine two_ (i := 1) (j := 6) (Ni := some 25) (Nj := some 6) #[true, true, false, false, false, false, false, false, false] #[true, false, false, false, false, false, true, false, false] rfl rfl rfl rfl (two_of HT_.out (by kernel_rfl)) (by decide) (by decide) (fun K hK => ?_) (fun K hK => ?_)
  ·skip
   refine goes_ Try.func16 (by kernel_rfl) rfl #[.int .i64 3] (by rfl) rfl rfl (by first | rfl | (simp only [List.map_toArray, List.map_cons, List.map_nil]; rfl)) ?_
   refine (triglyphref03_Atom.calls 3 _ _ _ E66.out).mono ?_
   rintro e w1 ⟨v70, v74, rfl, hv70, hv74, hb⟩
   refine ⟨_, rfl, ?_⟩
   obtain ⟨A67, c68, hv_⟩ := Kd.R_slice hv70; subst hv_; have CR69 := Aside0.mk (And.intro (hf_F1 hv70) (Kd.R_reads' hv70).2.1); clear hv70
   obtain ⟨A71, c72, hv_⟩ := Kd.R_slice hv74; subst hv_; have CR73 := Aside0.mk (And.intro (hf_F1 hv74) (Kd.R_reads' hv74).2.1); clear hv74
   have hHeld := hHeld.trans (hb.mono hHeld.size); clear hb
   refine hK.out _ _ hHeld (fun hHeld => ?_); clear hK K
   refine norm_ (a' := ?_) ?_ ?_; rotate_left
   ·show Act.put _ (some 25) _ = _
    simp only [Act.put, List.setIfInBounds_toArray, List.set_cons_zero, List.set_cons_succ, i64_w, i32_w]; rfl
   refine two_ (i := 2) (j := 6) (Ni := some 26) (Nj := some 6) #[true, true, true, false, false, false, false, false, false] #[true, true, false, false, false, false, true, false, false] rfl rfl rfl rfl (two_of HT_.out (by kernel_rfl)) (by decide) (by decide) (fun K hK => ?_) (fun K hK => ?_)
   ·skip
    refine goes_ Try.func11 (by kernel_rfl) rfl #[.int .i64 53, .agg #[.slice A5 t2_1.length c6, .slice A8 t2_2.length c9], .agg #[.slice A67 t65_1.length c68, .slice A71 t65_2.length c72]] (by rfl) rfl rfl (by first | rfl | (simp only [List.map_toArray, List.map_cons, List.map_nil]; rfl)) ?_
    refine (pick_Dy.calls k 53 _ A5 c6 t2_1 _ A8 c9 t2_2 _ A67 c68 t65_1 _ A71 c72 t65_2 _ _ _ _ (Kd.V_mk CR7.out.2 (hf_F6 (Kd.C_F (Kd.heap_int .i64) CR7.out.1) hHeld)) (Kd.V_mk CR10.out.2 (hf_F6 (Kd.C_F k45_heap CR10.out.1) hHeld)) (Kd.V_mk CR69.out.2 CR69.out.1) (Kd.V_mk CR73.out.2 CR73.out.1) E76.out).mono ?_
    rintro e w1 ⟨v80, v84, rfl, hv80, hv84, hb⟩
    refine ⟨_, rfl, ?_⟩
    obtain ⟨A77, c78, hv_, hl_, hf_⟩ := hv80; subst hv_; have CR79 := Aside0.mk (And.intro (Kd.F_mono (ok' := fun _ => True) hf_ (fun _ _ => trivial)) hl_); clear hf_ hl_
    obtain ⟨A81, c82, hv_, hl_, hf_⟩ := hv84; subst hv_; have CR83 := Aside0.mk (And.intro (Kd.F_mono (ok' := fun _ => True) hf_ (fun _ _ => trivial)) hl_); clear hf_ hl_
    have CR69 := Aside0.mk (And.intro (hf_F4 CR69.out.1 hb) CR69.out.2)
    have CR73 := Aside0.mk (And.intro (hf_F4 CR73.out.1 hb) CR73.out.2)
    have hHeld := hHeld.trans (hb.mono hHeld.size); clear hb
    refine hK.out _ _ hHeld (fun hHeld => ?_); clear hK K
    refine norm_ (a' := ?_) ?_ ?_; rotate_left
    ·show Act.put _ (some 26) _ = _
     simp only [Act.put, List.setIfInBounds_toArray, List.set_cons_zero, List.set_cons_succ, i64_w, i32_w]; rfl
    refine pure_ (i := 3) (N := some 23) (v := ?_) (a' := ?_) #[true, true, true, true, false, false, false, false, false] rfl rfl (any_of HT_.out (by kernel_rfl)) (fun _ _ _ h => h) (Or.inl ⟨by rfl, ?_⟩) ?_ ?_; rotate_left
    ·intro w'; go_simp; with_reducible rfl
    rotate_left
    ·simp only [Act.put, List.setIfInBounds_toArray, List.set_cons_zero, List.set_cons_succ, i64_w, i32_w]; rfl
    refine pure_ (i := 4) (N := some 27) (v := ?_) (a' := ?_) #[true, true, true, true, true, false, false, false, false] rfl rfl (any_of HT_.out (by kernel_rfl)) (fun _ _ _ h => h) (Or.inl ⟨by rfl, ?_⟩) ?_ ?_; rotate_left
    ·intro w'; go_simp; with_reducible rfl
    rotate_left
    ·simp only [Act.put, List.setIfInBounds_toArray, List.set_cons_zero, List.set_cons_succ, i64_w, i32_w]; rfl
    refine pure_ (i := 5) (N := some 28) (v := ?_) (a' := ?_) #[true, true, true, true, true, true, false, false, false] rfl rfl (any_of HT_.out (by kernel_rfl)) (fun _ _ _ h => h) (Or.inl ⟨by rfl, ?_⟩) ?_ ?_; rotate_left
    ·intro w'; go_simp; with_reducible rfl
    rotate_left
    ·simp only [Act.put, List.setIfInBounds_toArray, List.set_cons_zero, List.set_cons_succ, i64_w, i32_w]; rfl
    refine one_ (i := 6) (N := some 6) #[true, true, true, true, true, true, true, false, false] rfl rfl (one_of HT_.out (by kernel_rfl)) (by decide) (fun K hK => ?_)
    refine box_step ?hg (N := 6) ?hd (cs := #[.slice none 0 0, .slice none 0 0]) (t := 25) ?hr ?_; (case hd => rfl); (case hg => rfl); (case hr => first | (go_simp; done) | (go_simp; rfl))
    intro g85 hg w1 hbox hb
    have HGg85 := Aside0.mk hbox; have HLg85 : Aside0 (W64.heap.size ≤ g85) := ⟨Nat.le_trans hHeld.size (Nat.le_of_eq hg.symm)⟩; have HM : Aside0 (g85 < w1.heap.size) := ⟨blk_lt hbox⟩; clear hbox
    have CR69 := Aside0.mk (And.intro (hf_F3 hg CR69.out.1 hb) CR69.out.2)
    have CR73 := Aside0.mk (And.intro (hf_F3 hg CR73.out.1 hb) CR73.out.2)
    have CR79 := Aside0.mk (And.intro (hf_F3 hg CR79.out.1 hb) CR79.out.2)
    have CR83 := Aside0.mk (And.intro (hf_F3 hg CR83.out.1 hb) CR83.out.2)
    clear hg
    have hHeld := hHeld.trans (hb.mono hHeld.size); clear hb
    refine hK.out _ _ hHeld (fun hHeld => ?_); clear hK K
    refine norm_ (a' := ?_) ?_ ?_; rotate_left
    ·show Act.put _ (some 6) _ = _
     simp only [Act.put, List.setIfInBounds_toArray, List.set_cons_zero, List.set_cons_succ, i64_w, i32_w]; rfl
    exact norm_ (by simp only [putAll, Act.put, List.setIfInBounds_toArray, List.set_cons_zero, List.set_cons_succ]) (hCont (.slice A67 t65_1.length c68, .slice A71 t65_2.length c72, .slice A77 t75_1.length c78, .slice A81 t75_2.length c82, g85) _ ⟨hHeld, ⟨_, _, rfl, CR69.out.2, CR69.out.1⟩, ⟨_, _, rfl, CR73.out.2, CR73.out.1⟩, ⟨_, _, rfl, CR79.out.2, CR79.out.1⟩, ⟨_, _, rfl, CR83.out.2, CR83.out.1⟩, ⟨HGg85.out, HLg85.out⟩⟩)
   ·skip
    refine box_step ?hg (N := 6) ?hd (cs := #[.slice none 0 0, .slice none 0 0]) (t := 25) ?hr ?_; (case hd => rfl); (case hg => rfl); (case hr => first | (go_simp; done) | (go_simp; rfl))
    intro g85 hg w1 hbox hb
    have HGg85 := Aside0.mk hbox; have HLg85 : Aside0 (W64.heap.size ≤ g85) := ⟨Nat.le_trans hHeld.size (Nat.le_of_eq hg.symm)⟩; have HM : Aside0 (g85 < w1.heap.size) := ⟨blk_lt hbox⟩; clear hbox
    have CR69 := Aside0.mk (And.intro (hf_F3 hg CR69.out.1 hb) CR69.out.2)
    have CR73 := Aside0.mk (And.intro (hf_F3 hg CR73.out.1 hb) CR73.out.2)
    clear hg
    have hHeld := hHeld.trans (hb.mono hHeld.size); clear hb
    refine hK.out _ _ hHeld (fun hHeld => ?_); clear hK K
    refine norm_ (a' := ?_) ?_ ?_; rotate_left
    ·show Act.put _ (some 6) _ = _
     simp only [Act.put, List.setIfInBounds_toArray, List.set_cons_zero, List.set_cons_succ, i64_w, i32_w]; rfl
    refine one_ (i := 2) (N := some 26) #[true, true, true, false, false, false, true, false, false] rfl rfl (one_of HT_.out (by kernel_rfl)) (by decide) (fun K hK => ?_)
    refine goes_ Try.func11 (by kernel_rfl) rfl #[.int .i64 53, .agg #[.slice A5 t2_1.length c6, .slice A8 t2_2.length c9], .agg #[.slice A67 t65_1.length c68, .slice A71 t65_2.length c72]] (by rfl) rfl rfl (by first | rfl | (simp only [List.map_toArray, List.map_cons, List.map_nil]; rfl)) ?_
    refine (pick_Dy.calls k 53 _ A5 c6 t2_1 _ A8 c9 t2_2 _ A67 c68 t65_1 _ A71 c72 t65_2 _ _ _ _ (Kd.V_mk CR7.out.2 (hf_F6 (Kd.C_F (Kd.heap_int .i64) CR7.out.1) hHeld)) (Kd.V_mk CR10.out.2 (hf_F6 (Kd.C_F k45_heap CR10.out.1) hHeld)) (Kd.V_mk CR69.out.2 CR69.out.1) (Kd.V_mk CR73.out.2 CR73.out.1) E76.out).mono ?_
    rintro e w1 ⟨v80, v84, rfl, hv80, hv84, hb⟩
    refine ⟨_, rfl, ?_⟩
    obtain ⟨A77, c78, hv_, hl_, hf_⟩ := hv80; subst hv_; have CR79 := Aside0.mk (And.intro (Kd.F_mono (ok' := fun k_ => k_ ≠ g85) hf_ (fun k hk => by (try dsimp only at hk); have h1 := HLg85.out; have h2 := HM.out; omega)) hl_); clear hf_ hl_
    obtain ⟨A81, c82, hv_, hl_, hf_⟩ := hv84; subst hv_; have CR83 := Aside0.mk (And.intro (Kd.F_mono (ok' := fun k_ => k_ ≠ g85) hf_ (fun k hk => by (try dsimp only at hk); have h1 := HLg85.out; have h2 := HM.out; omega)) hl_); clear hf_ hl_
    have CR69 := Aside0.mk (And.intro (hf_F4 CR69.out.1 hb) CR69.out.2)
    have CR73 := Aside0.mk (And.intro (hf_F4 CR73.out.1 hb) CR73.out.2)
    have HGg85 := Aside0.mk (blk_below HGg85.out hb); have HM := Aside0.mk (Nat.lt_of_lt_of_le HM.out (Below.size hb))
    have hHeld := hHeld.trans (hb.mono hHeld.size); clear hb
    refine hK.out _ _ hHeld (fun hHeld => ?_); clear hK K
    refine norm_ (a' := ?_) ?_ ?_; rotate_left
    ·show Act.put _ (some 26) _ = _
     simp only [Act.put, List.setIfInBounds_toArray, List.set_cons_zero, List.set_cons_succ, i64_w, i32_w]; rfl
    refine pure_ (i := 3) (N := some 23) (v := ?_) (a' := ?_) #[true, true, true, true, false, false, true, false, false] rfl rfl (any_of HT_.out (by kernel_rfl)) (fun _ _ _ h => h) (Or.inl ⟨by rfl, ?_⟩) ?_ ?_; rotate_left
    ·intro w'; go_simp; with_reducible rfl
    rotate_left
    ·simp only [Act.put, List.setIfInBounds_toArray, List.set_cons_zero, List.set_cons_succ, i64_w, i32_w]; rfl
    refine pure_ (i := 4) (N := some 27) (v := ?_) (a' := ?_) #[true, true, true, true, true, false, true, false, false] rfl rfl (any_of HT_.out (by kernel_rfl)) (fun _ _ _ h => h) (Or.inl ⟨by rfl, ?_⟩) ?_ ?_; rotate_left
    ·intro w'; go_simp; with_reducible rfl
    rotate_left
    ·simp only [Act.put, List.setIfInBounds_toArray, List.set_cons_zero, List.set_cons_succ, i64_w, i32_w]; rfl
    refine pure_ (i := 5) (N := some 28) (v := ?_) (a' := ?_) #[true, true, true, true, true, true, true, false, false] rfl rfl (any_of HT_.out (by kernel_rfl)) (fun _ _ _ h => h) (Or.inl ⟨by rfl, ?_⟩) ?_ ?_; rotate_left
    ·intro w'; go_simp; with_reducible rfl
    rotate_left
    ·simp only [Act.put, List.setIfInBounds_toArray, List.set_cons_zero, List.set_cons_succ, i64_w, i32_w]; rfl
    exact norm_ (by simp only [putAll, Act.put, List.setIfInBounds_toArray, List.set_cons_zero, List.set_cons_succ]) (hCont (.slice A67 t65_1.length c68, .slice A71 t65_2.length c72, .slice A77 t75_1.length c78, .slice A81 t75_2.length c82, g85) _ ⟨hHeld, ⟨_, _, rfl, CR69.out.2, CR69.out.1⟩, ⟨_, _, rfl, CR73.out.2, CR73.out.1⟩, ⟨_, _, rfl, CR79.out.2, CR79.out.1⟩, ⟨_, _, rfl, CR83.out.2, CR83.out.1⟩, ⟨HGg85.out, HLg85.out⟩⟩)
  ·skip
   refine box_step ?hg (N := 6) ?hd (cs := #[.slice none 0 0, .slice none 0 0]) (t := 25) ?hr ?_; (case hd => rfl); (case hg => rfl); (case hr => first | (go_simp; done) | (go_simp; rfl))
   intro g85 hg w1 hbox hb
   have HGg85 := Aside0.mk hbox; have HLg85 : Aside0 (W64.heap.size ≤ g85) := ⟨Nat.le_trans hHeld.size (Nat.le_of_eq hg.symm)⟩; have HM : Aside0 (g85 < w1.heap.size) := ⟨blk_lt hbox⟩; clear hbox
   clear hg
   have hHeld := hHeld.trans (hb.mono hHeld.size); clear hb
   refine hK.out _ _ hHeld (fun hHeld => ?_); clear hK K
   refine norm_ (a' := ?_) ?_ ?_; rotate_left
   ·show Act.put _ (some 6) _ = _
    simp only [Act.put, List.setIfInBounds_toArray, List.set_cons_zero, List.set_cons_succ, i64_w, i32_w]; rfl
   refine one_ (i := 1) (N := some 25) #[true, true, false, false, false, false, true, false, false] rfl rfl (one_of HT_.out (by kernel_rfl)) (by decide) (fun K hK => ?_)
   refine goes_ Try.func16 (by kernel_rfl) rfl #[.int .i64 3] (by rfl) rfl rfl (by first | rfl | (simp only [List.map_toArray, List.map_cons, List.map_nil]; rfl)) ?_
   refine (triglyphref03_Atom.calls 3 _ _ _ E66.out).mono ?_
   rintro e w1 ⟨v70, v74, rfl, hv70, hv74, hb⟩
   refine ⟨_, rfl, ?_⟩
   obtain ⟨A67, c68, hv_⟩ := Kd.R_slice hv70; subst hv_; have CR69 := Aside0.mk (And.intro (hf_F2 hv70 HM.out) (Kd.R_reads' hv70).2.1); clear hv70
   obtain ⟨A71, c72, hv_⟩ := Kd.R_slice hv74; subst hv_; have CR73 := Aside0.mk (And.intro (hf_F2 hv74 HM.out) (Kd.R_reads' hv74).2.1); clear hv74
   have HGg85 := Aside0.mk (blk_below HGg85.out hb); have HM := Aside0.mk (Nat.lt_of_lt_of_le HM.out (Below.size hb))
   have hHeld := hHeld.trans (hb.mono hHeld.size); clear hb
   refine hK.out _ _ hHeld (fun hHeld => ?_); clear hK K
   refine norm_ (a' := ?_) ?_ ?_; rotate_left
   ·show Act.put _ (some 25) _ = _
    simp only [Act.put, List.setIfInBounds_toArray, List.set_cons_zero, List.set_cons_succ, i64_w, i32_w]; rfl
   refine one_ (i := 2) (N := some 26) #[true, true, true, false, false, false, true, false, false] rfl rfl (one_of HT_.out (by kernel_rfl)) (by decide) (fun K hK => ?_)
   refine goes_ Try.func11 (by kernel_rfl) rfl #[.int .i64 53, .agg #[.slice A5 t2_1.length c6, .slice A8 t2_2.length c9], .agg #[.slice A67 t65_1.length c68, .slice A71 t65_2.length c72]] (by rfl) rfl rfl (by first | rfl | (simp only [List.map_toArray, List.map_cons, List.map_nil]; rfl)) ?_
   refine (pick_Dy.calls k 53 _ A5 c6 t2_1 _ A8 c9 t2_2 _ A67 c68 t65_1 _ A71 c72 t65_2 _ _ _ _ (Kd.V_mk CR7.out.2 (hf_F6 (Kd.C_F (Kd.heap_int .i64) CR7.out.1) hHeld)) (Kd.V_mk CR10.out.2 (hf_F6 (Kd.C_F k45_heap CR10.out.1) hHeld)) (Kd.V_mk CR69.out.2 CR69.out.1) (Kd.V_mk CR73.out.2 CR73.out.1) E76.out).mono ?_
   rintro e w1 ⟨v80, v84, rfl, hv80, hv84, hb⟩
   refine ⟨_, rfl, ?_⟩
   obtain ⟨A77, c78, hv_, hl_, hf_⟩ := hv80; subst hv_; have CR79 := Aside0.mk (And.intro (Kd.F_mono (ok' := fun k_ => k_ ≠ g85) hf_ (fun k hk => by (try dsimp only at hk); have h1 := HLg85.out; have h2 := HM.out; omega)) hl_); clear hf_ hl_
   obtain ⟨A81, c82, hv_, hl_, hf_⟩ := hv84; subst hv_; have CR83 := Aside0.mk (And.intro (Kd.F_mono (ok' := fun k_ => k_ ≠ g85) hf_ (fun k hk => by (try dsimp only at hk); have h1 := HLg85.out; have h2 := HM.out; omega)) hl_); clear hf_ hl_
   have HGg85 := Aside0.mk (blk_below HGg85.out hb); have HM := Aside0.mk (Nat.lt_of_lt_of_le HM.out (Below.size hb))
   have CR69 := Aside0.mk (And.intro (hf_F4 CR69.out.1 hb) CR69.out.2)
   have CR73 := Aside0.mk (And.intro (hf_F4 CR73.out.1 hb) CR73.out.2)
   have hHeld := hHeld.trans (hb.mono hHeld.size); clear hb
   refine hK.out _ _ hHeld (fun hHeld => ?_); clear hK K
   refine norm_ (a' := ?_) ?_ ?_; rotate_left
   ·show Act.put _ (some 26) _ = _
    simp only [Act.put, List.setIfInBounds_toArray, List.set_cons_zero, List.set_cons_succ, i64_w, i32_w]; rfl
   refine pure_ (i := 3) (N := some 23) (v := ?_) (a' := ?_) #[true, true, true, true, false, false, true, false, false] rfl rfl (any_of HT_.out (by kernel_rfl)) (fun _ _ _ h => h) (Or.inl ⟨by rfl, ?_⟩) ?_ ?_; rotate_left
   ·intro w'; go_simp; with_reducible rfl
   rotate_left
   ·simp only [Act.put, List.setIfInBounds_toArray, List.set_cons_zero, List.set_cons_succ, i64_w, i32_w]; rfl
   refine pure_ (i := 4) (N := some 27) (v := ?_) (a' := ?_) #[true, true, true, true, true, false, true, false, false] rfl rfl (any_of HT_.out (by kernel_rfl)) (fun _ _ _ h => h) (Or.inl ⟨by rfl, ?_⟩) ?_ ?_; rotate_left
   ·intro w'; go_simp; with_reducible rfl
   rotate_left
   ·simp only [Act.put, List.setIfInBounds_toArray, List.set_cons_zero, List.set_cons_succ, i64_w, i32_w]; rfl
   refine pure_ (i := 5) (N := some 28) (v := ?_) (a' := ?_) #[true, true, true, true, true, true, true, false, false] rfl rfl (any_of HT_.out (by kernel_rfl)) (fun _ _ _ h => h) (Or.inl ⟨by rfl, ?_⟩) ?_ ?_; rotate_left
   ·intro w'; go_simp; with_reducible rfl
   rotate_left
   ·simp only [Act.put, List.setIfInBounds_toArray, List.set_cons_zero, List.set_cons_succ, i64_w, i32_w]; rfl
   exact norm_ (by simp only [putAll, Act.put, List.setIfInBounds_toArray, List.set_cons_zero, List.set_cons_succ]) (hCont (.slice A67 t65_1.length c68, .slice A71 t65_2.length c72, .slice A77 t75_1.length c78, .slice A81 t75_2.length c82, g85) _ ⟨hHeld, ⟨_, _, rfl, CR69.out.2, CR69.out.1⟩, ⟨_, _, rfl, CR73.out.2, CR73.out.1⟩, ⟨_, _, rfl, CR79.out.2, CR79.out.1⟩, ⟨_, _, rfl, CR83.out.2, CR83.out.1⟩, ⟨HGg85.out, HLg85.out⟩⟩)
 rintro ⟨v70, v74, v80, v84, g85⟩ w86 ⟨hHeld, hF0_, hF1_, hF2_, hF3_, hF4_⟩
 dsimp only at hF0_ hF1_ hF2_ hF3_ hF4_
 obtain ⟨A67, c68, hv_, hl_, hf_⟩ := hF0_; have CR69 := Aside0.mk (And.intro hf_ hl_); clear hf_ hl_; subst hv_
 obtain ⟨A71, c72, hv_, hl_, hf_⟩ := hF1_; have CR73 := Aside0.mk (And.intro hf_ hl_); clear hf_ hl_; subst hv_
 obtain ⟨A77, c78, hv_, hl_, hf_⟩ := hF2_; have CR79 := Aside0.mk (And.intro hf_ hl_); clear hf_ hl_; subst hv_
 obtain ⟨A81, c82, hv_, hl_, hf_⟩ := hF3_; have CR83 := Aside0.mk (And.intro hf_ hl_); clear hf_ hl_; subst hv_
 have HG := Aside0.mk hF4_; clear hF4_
 refine norm_ (a' := ?_) ?_ ?_; rotate_left
 ·simp only [putAll, Act.put, List.setIfInBounds_toArray, List.set_cons_zero, List.set_cons_succ]; rfl
 refine one_ (i := 7) (N := none) #[true, true, true, true, true, true, true, true, false] rfl rfl (one_of HT_.out (by kernel_rfl)) (by decide) (fun K hK => ?_)
 have y0 : w86.cell? ⟨g85, 0, none⟩ = some (.slice none 0 0) := (blk_cell HG.out.1 0).trans rfl; have u0 := blk_frozen HG.out.1 0; have y1 : w86.cell? ⟨g85, 1, none⟩ = some (.slice none 0 0) := (blk_cell HG.out.1 1).trans rfl; have u1 := blk_frozen HG.out.1 1
 refine skip_ (w1 := ?_) (by rfl) rfl ?_ ?_; rotate_left
 ·go_simp; rfl
 have HB2 := Aside0.mk (hf_st2 hHeld HG.out.2 (.slice A77 t75_1.length c78) (.slice A81 t75_2.length c82))
 have CR69 := Aside0.mk (And.intro (hf_F5a CR69.out.1 (.slice A77 t75_1.length c78) (.slice A81 t75_2.length c82)) CR69.out.2)
 have CR73 := Aside0.mk (And.intro (hf_F5a CR73.out.1 (.slice A77 t75_1.length c78) (.slice A81 t75_2.length c82)) CR73.out.2)
 have CR79 := Aside0.mk (And.intro (hf_F5a CR79.out.1 (.slice A77 t75_1.length c78) (.slice A81 t75_2.length c82)) CR79.out.2)
 have CR83 := Aside0.mk (And.intro (hf_F5a CR83.out.1 (.slice A77 t75_1.length c78) (.slice A81 t75_2.length c82)) CR83.out.2)
 have HG := Aside0.mk (And.intro (hf_z2 HG.out.1 (.slice A77 t75_1.length c78) (.slice A81 t75_2.length c82)) HG.out.2)
 refine hK.out _ _ HB2.out (fun hHeld => ?_); clear hK K HB2 y0 u0 y1 u1
 generalize (w86.setCell _ _).setCell _ _ = w87 at hHeld HG CR69 CR73 CR79 CR83 ⊢
 refine pure_ (i := 8) (N := some 7) (v := ?_) (a' := ?_) #[true, true, true, true, true, true, true, true, true] rfl rfl (any_of HT_.out (by kernel_rfl)) (fun _ _ _ h => h) (Or.inl ⟨by rfl, ?_⟩) ?_ ?_; rotate_left
 ·intro w'; go_simp; with_reducible rfl
 rotate_left
 ·simp only [Act.put, List.setIfInBounds_toArray, List.set_cons_zero, List.set_cons_succ, i64_w, i32_w]; rfl
 refine done_ (done_of HT_.out (by kernel_rfl)) ?_
 have CR69 := Aside0.mk (And.intro (Kd.F_now CR69.out.1) CR69.out.2)
 have CR73 := Aside0.mk (And.intro (Kd.F_now CR73.out.1) CR73.out.2)
 have CR79 := Aside0.mk (And.intro (Kd.F_now CR79.out.1) CR79.out.2)
 have CR83 := Aside0.mk (And.intro (Kd.F_now CR83.out.1) CR83.out.2)
 have CR7 := Aside0.mk (And.intro (Kd.C_below CR7.out.1 hHeld) CR7.out.2)
 have CR10 := Aside0.mk (And.intro (Kd.C_below CR10.out.1 hHeld) CR10.out.2)
 have CR11 := Aside0.mk (And.intro (Kd.C_below CR11.out.1 hHeld) CR11.out.2)
 have CR19 := Aside0.mk (And.intro (Kd.C_below CR19.out.1 hHeld) CR19.out.2)
 have CR23 := Aside0.mk (And.intro (Kd.C_below CR23.out.1 hHeld) CR23.out.2)
 have CR29 := Aside0.mk (And.intro (Kd.C_below CR29.out.1 hHeld) CR29.out.2)
 have CR33 := Aside0.mk (And.intro (Kd.C_below CR33.out.1 hHeld) CR33.out.2)
 have CR45 := Aside0.mk (And.intro (Kd.C_below CR45.out.1 hHeld) CR45.out.2)
 have CR49 := Aside0.mk (And.intro (Kd.C_below CR49.out.1 hHeld) CR49.out.2)
 have CR55 := Aside0.mk (And.intro (Kd.C_below CR55.out.1 hHeld) CR55.out.2)
 have CR59 := Aside0.mk (And.intro (Kd.C_below CR59.out.1 hHeld) CR59.out.2)
 have HS := Aside0.mk (BxS.add HS.out hHeld HG.out.1 HG.out.2)
 clear hHeld HG
 have z0_0 : w87.cell? ⟨g13, 0, none⟩ = some (.slice A5 t2_1.length c6) := (blk_cell (HS.out.at_ 3 rfl) 0).trans rfl; have z0_1 : w87.cell? ⟨g13, 1, none⟩ = some (.slice A8 t2_2.length c9) := (blk_cell (HS.out.at_ 3 rfl) 1).trans rfl; have z1_0 : w87.cell? ⟨g35, 0, none⟩ = some (.slice A27 t25_1.length c28) := (blk_cell (HS.out.at_ 2 rfl) 0).trans rfl; have z1_1 : w87.cell? ⟨g35, 1, none⟩ = some (.slice A31 t25_2.length c32) := (blk_cell (HS.out.at_ 2 rfl) 1).trans rfl; have z2_0 : w87.cell? ⟨g61, 0, none⟩ = some (.slice A53 t51_1.length c54) := (blk_cell (HS.out.at_ 1 rfl) 0).trans rfl; have z2_1 : w87.cell? ⟨g61, 1, none⟩ = some (.slice A57 t51_2.length c58) := (blk_cell (HS.out.at_ 1 rfl) 1).trans rfl; have z3_0 : w87.cell? ⟨g85, 0, none⟩ = some (.slice A77 t75_1.length c78) := (blk_cell (HS.out.at_ 0 rfl) 0).trans rfl; have z3_1 : w87.cell? ⟨g85, 1, none⟩ = some (.slice A81 t75_2.length c82) := (blk_cell (HS.out.at_ 0 rfl) 1).trans rfl
 by_cases q88 : t25_3 = 0
 ·rw [if_pos q88] at h
  have q88b0 := (beq_iff_eq.2 q88 : (t25_3 == 0) = true)
  have Iq88 := Aside0.mk q88
  clear q88
  by_cases q89 : (t25_2.length : Int) = 5
  ·rw [if_pos q89] at h
   have q89b0 := (beq_iff_eq.2 q89 : ((t25_2.length : Int) == 5) = true)
   have Iq89 := Aside0.mk q89
   clear q89
   by_cases q90 : (2 : Int) < (t25_2.length : Int)
   ·rw [if_pos q90] at h
    have q90b0 := q90
    clear q90
    obtain ⟨ad91, A92, c93, ea_, ad91_0, ad91_1, ad91_2, ad91l2, ad91c2⟩ := at_T45 CR33.out.1 (2 : Int) (by omega) (by omega)
    subst ea_
    rw [show Int.toNat 2 * 3 = 6 from rfl] at ad91_0 ad91_1 ad91_2
    rw [hf_add _ 6 (by decide)] at ad91_0 ad91_1 ad91_2; (try dsimp only at ad91_0 ad91_1 ad91_2)
    have CR94 := Aside0.mk (And.intro ad91c2 ad91l2); clear ad91c2 ad91l2
    by_cases q95 : (rd_T45 t25_2 2).f1 = 1
    ·rw [if_pos q95] at h
     have q95b0 := (beq_iff_eq.2 q95 : ((rd_T45 t25_2 2).f1 == 1) = true)
     have Iq95 := Aside0.mk q95
     clear q95
     by_cases q96 : t51_3 = 0
     ·rw [if_pos q96] at h
      have q96b0 := (beq_iff_eq.2 q96 : (t51_3 == 0) = true)
      have Iq96 := Aside0.mk q96
      clear q96
      by_cases q97 : (0 : Int) < (t51_2.length : Int)
      ·rw [if_pos q97] at h
       have q97b0 := q97
       clear q97
       obtain ⟨ad98, A99, c100, ea_, ad98_0, ad98_1, ad98_2, ad98l2, ad98c2⟩ := at_T45 CR59.out.1 (0 : Int) (by omega) (by omega)
       subst ea_
       rw [show Int.toNat 0 * 3 = 0 from rfl] at ad98_0 ad98_1 ad98_2
       rw [Addr.add_zero'] at ad98_0 ad98_1 ad98_2
       have CR101 := Aside0.mk (And.intro ad98c2 ad98l2); clear ad98c2 ad98l2
       by_cases q102 : (rd_T45 t51_2 0).f1 = 3
       ·rw [if_pos q102] at h
        have q102b0 := (beq_iff_eq.2 q102 : ((rd_T45 t51_2 0).f1 == 3) = true)
        have Iq102 := Aside0.mk q102
        clear q102
        by_cases q103 : t75_3 = 8
        ·rw [if_pos q103] at h
         have q103b0 := (beq_iff_eq.2 q103 : (t75_3 == 8) = true)
         have Iq103 := Aside0.mk q103
         clear q103
         obtain rfl := Option.some.inj h
         go_wp2_with (fail)
         go_ret
         exact ⟨rfl, HS.out.bel⟩
        ·rw [if_neg q103] at h
         cases h
       ·rw [if_neg q102] at h
        cases h
      ·rw [if_neg q97] at h
       cases h
     ·rw [if_neg q96] at h
      cases h
    ·rw [if_neg q95] at h
     cases h
   ·rw [if_neg q90] at h
    cases h
  ·rw [if_neg q89] at h
   cases h
 ·rw [if_neg q88] at h
  cases h
def triglyphref03_ints.f (a0 : Int) (a1 : Int) : Option (Int) := if a0 < a1 then (some (-1)) else (if a0 > a1 then (some 1) else (some 0))
set_option maxHeartbeats 8000000 in
set_option maxRecDepth 100000 in
theorem triglyphref03_ints.calls (a0 : Int) (a1 : Int) (r : Int) (w : World) (h : triglyphref03_ints.f a0 a1 = some r) :
  Calls Try.prog 56 #[.int .i64 a0, .int .i64 a1] w fun e w' => e = .returned (.int .i64 r) ∧ Drawn0 w w' := by
 have H : (if a0 < a1 then (some (-1)) else (if a0 > a1 then (some 1) else (some 0))) = some r := h
 clear h
 by_cases c3 : a0 < a1
 ·rw [if_pos c3] at H
  have c3b0 := decide_eq_true c3
  clear c3
  obtain rfl := Option.some.inj H
  go_enter Try.func56, Try.ntmps56
  go_wp2
  go_ret
  exact ⟨rfl, by repeat (first | exact Drawn0.refl _ | apply Drawn0.step)⟩
 ·rw [if_neg c3] at H
  have c3b0 := decide_eq_false c3
  clear c3
  by_cases c4 : a0 > a1
  ·rw [if_pos c4] at H
   have c4b0 : decide (a1 < a0) = true := decide_eq_true c4
   clear c4
   obtain rfl := Option.some.inj H
   go_enter Try.func56, Try.ntmps56
   go_wp2
   go_ret
   exact ⟨rfl, by repeat (first | exact Drawn0.refl _ | apply Drawn0.step)⟩
  ·rw [if_neg c4] at H
   have c4b0 : decide (a1 < a0) = false := decide_eq_false c4
   clear c4
   obtain rfl := Option.some.inj H
   go_enter Try.func56, Try.ntmps56
   go_wp2
   go_ret
   exact ⟨rfl, by repeat (first | exact Drawn0.refl _ | apply Drawn0.step)⟩
end Go.Proofs.Ytdihmempaonfjaa.P
