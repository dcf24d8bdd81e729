/- Written by a program of this session: the functions that the laws reach, what each comes to, and each law as it is stated, for every input. No condition. -/
import Derived.Test.YtdihmempaonfjaaPx0
import Derived.Test.YtdihmempaonfjaaPx1
import Derived.Test.YtdihmempaonfjaaPx8
import Derived.Test.YtdihmempaonfjaaPx9
import Derived.Test.YtdihmempaonfjaaPx10
import Derived.Test.YtdihmempaonfjaaPx12
import Derived.Test.YtdihmempaonfjaaPx13
namespace Go.Proofs.Ytdihmempaonfjaa.P
open Go.RowKit Go.Proofs.YtdihmempaonfjaaW.PrintWords Go.Proofs.YtdihmempaonfjaaW.PrintLast Go.Proofs.YtdihmempaonfjaaW.PrintMore
attribute [local go_sem] max2_int min2_int max_two min_two max_three min_three max_four min_four   -- for this text's walks alone
set_option linter.unusedVariables false
set_option linter.unusedSimpArgs false
def triglyphlaw06_PickKeeps.f (k : Nat) (l0_0 : List (Int)) (l0_1 : List (S45)) : Option (Bool) :=
 (triglyphlaw06_light.f k l0_0 l0_1).bind fun t2 => (if t2 = true then ((triglyphref03_Check.f k l0_0 l0_1).bind fun t5 => (if t5 = 0 then ((triglyphref06_Listed.f l0_0 l0_1).bind fun t9 => ((triglyphref03_Atom.f 1).bind fun t22 => ((pick_Dy.f k 50 t22.1 t22.2 t9.1 t9.2).bind fun t32 => ((triglyphref03_Atom.f 1).bind fun t46 => ((pick_Dy.f k 51 t46.1 t46.2 t9.1 t9.2).bind fun t56 => ((triglyphref03_Atom.f 0).bind fun t70 => ((pick_Dy.f k 50 t70.1 t70.2 t9.1 t9.2).bind fun t80 => (if t32.2.2 = 0 then (if t56.2.2 = 0 then (if t80.2.2 = 0 then ((triglyphref03_Same.f k t9.1 t9.2 t32.1 t32.2.1).bind fun t96 => (if t96 = true then ((triglyphref03_Same.f k t9.1 t9.2 t56.1 t56.2.1).bind fun t99 => (if t99 = true then (if (t80.1.length : Int) = (t9.1.length : Int) then (if (0 : Int) < (t80.1.length : Int) then (if (rd t80.1 0) = 0 then ((triglyphlaw06_works.f k).bind fun t106 => (some t106)) else (none)) else (none)) else (none)) else (none))) else (none))) else (none)) else (none)) else (none))))))))) else ((triglyphlaw06_works.f k).bind fun t109 => (some t109)))) else ((triglyphlaw06_works.f k).bind fun t112 => (some t112)))
theorem triglyphlaw06_PickKeeps.mono : ∀ y0 y1 k, LeO (triglyphlaw06_PickKeeps.f k y0 y1) (triglyphlaw06_PickKeeps.f (k + 1) y0 y1) := by
 intro y0 y1 k
 unfold triglyphlaw06_PickKeeps.f
 repeat (first | exact LeO.refl _ | exact LeO.none _ | refine LeO.ite ?_ ?_ | refine LeO.bind (pick_Dy.mono _ _ _ _ _ _) (fun _ => ?_) | refine LeO.bind (triglyphlaw06_light.mono _ _ _) (fun _ => ?_) | refine LeO.bind (triglyphlaw06_works.mono  _) (fun _ => ?_) | refine LeO.bind (triglyphref03_Check.mono _ _ _) (fun _ => ?_) | refine LeO.bind (triglyphref03_Same.mono _ _ _ _ _) (fun _ => ?_) | refine LeO.bind (LeO.refl _) (fun _ => ?_))
def triglyphlaw06_PickKeeps.T4 : Bool × List (List Nat × List Nat) := (true, [([], []), ([], []), ([0, 1, 0], [0, 1]), ([2], [2]), ([3], [3]), ([3], [3]), ([], []), ([6, 4, 2, 0, 1, 2, 3, 4, 6], [4, 6]), ([5, 7, 0, 1, 2, 3, 4, 5, 6, 7], [5])])
def triglyphlaw06_PickKeeps.B4 : List Nat := [0, 0, 3, 7, 15, 15, 0, 95, 255]
theorem triglyphlaw06_PickKeeps.tab4 : rtab .any (opsOf Try.f7 4) = triglyphlaw06_PickKeeps.T4 := by kernel_rfl
theorem triglyphlaw06_PickKeeps.bits4 : waitsOk triglyphlaw06_PickKeeps.T4.2 triglyphlaw06_PickKeeps.B4 = true := by kernel_rfl
def triglyphlaw06_PickKeeps.T5 : Bool × List (List Nat × List Nat) := (true, [([], []), ([], []), ([0, 1, 0], [0, 1]), ([2], [2]), ([3], [3]), ([3], [3]), ([], []), ([6, 4, 2, 0, 1, 2, 3, 4, 6], [4, 6]), ([5, 7, 0, 1, 2, 3, 4, 5, 6, 7], [5])])
def triglyphlaw06_PickKeeps.B5 : List Nat := [0, 0, 3, 7, 15, 15, 0, 95, 255]
theorem triglyphlaw06_PickKeeps.tab5 : rtab .any (opsOf Try.f7 5) = triglyphlaw06_PickKeeps.T5 := by kernel_rfl
theorem triglyphlaw06_PickKeeps.bits5 : waitsOk triglyphlaw06_PickKeeps.T5.2 triglyphlaw06_PickKeeps.B5 = true := by kernel_rfl
def triglyphlaw06_PickKeeps.T6 : Bool × List (List Nat × List Nat) := (true, [([], []), ([], []), ([0, 1, 0], [0, 1]), ([2], [2]), ([3], [3]), ([3], [3]), ([], []), ([6, 4, 2, 0, 1, 2, 3, 4, 6], [4, 6]), ([5, 7, 0, 1, 2, 3, 4, 5, 6, 7], [5])])
def triglyphlaw06_PickKeeps.B6 : List Nat := [0, 0, 3, 7, 15, 15, 0, 95, 255]
theorem triglyphlaw06_PickKeeps.tab6 : rtab .any (opsOf Try.f7 6) = triglyphlaw06_PickKeeps.T6 := by kernel_rfl
theorem triglyphlaw06_PickKeeps.bits6 : waitsOk triglyphlaw06_PickKeeps.T6.2 triglyphlaw06_PickKeeps.B6 = true := by kernel_rfl
set_option maxHeartbeats 8000000 in
set_option maxRecDepth 100000 in
theorem triglyphlaw06_PickKeeps.calls (k : Nat) (A0_0 : Option Addr) (c0_0 : Nat) (l0_0 : List (Int)) (A0_1 : Option Addr) (c0_1 : Nat) (l0_1 : List (S45)) (r : Bool) (w : World) (hr0_0 : Kd.C (Kd.int .i64) w A0_0 l0_0.length l0_0) (hc0_0 : l0_0.length ≤ c0_0) (hr0_1 : Kd.C k45 w A0_1 l0_1.length l0_1) (hc0_1 : l0_1.length ≤ c0_1) (h : triglyphlaw06_PickKeeps.f k l0_0 l0_1 = some r) :
  Calls Try.prog 7 #[.agg #[.slice A0_0 l0_0.length c0_0, .slice A0_1 l0_1.length c0_1]] w fun e w' => e = .returned (.bool r) ∧ Below w.heap.size w w' := by
 have CRa0_0 := Aside0.mk (And.intro hr0_0 hc0_0); have CB0_0 := Aside0.mk (And.intro hr0_0 hc0_0); clear hr0_0 hc0_0
 have CRa0_1 := Aside0.mk (And.intro hr0_1 hc0_1); have CB0_1 := Aside0.mk (And.intro hr0_1 hc0_1); clear hr0_1 hc0_1
 have HS := Aside0.mk (BxS.nil w)
 unfold triglyphlaw06_PickKeeps.f at h
 go_enter Try.func7, Try.ntmps7
 go_upto_region 1 with (fail)
 (try clear z0_0 z0_1); skip
 have HS := Aside0.mk (HS.out.cons' #[.slice A0_0 l0_0.length c0_0, .slice A0_1 l0_1.length c0_1] 25 (rfl))
 have CRa0_0 := Aside0.mk (And.intro (Kd.C_alloc CRa0_0.out.1 (.cells #[.slice A0_0 l0_0.length c0_0, .slice A0_1 l0_1.length c0_1] 25)) CRa0_0.out.2)
 have CRa0_1 := Aside0.mk (And.intro (Kd.C_alloc CRa0_1.out.1 (.cells #[.slice A0_0 l0_0.length c0_0, .slice A0_1 l0_1.length c0_1] 25)) CRa0_1.out.2)
 generalize w.alloc (.cells #[.slice A0_0 l0_0.length c0_0, .slice A0_1 l0_1.length c0_1] 25) = w1 at HS CRa0_0 CRa0_1 ⊢
 have z0_0 : w1.cell? ⟨w.heap.size, 0, none⟩ = some (.slice A0_0 l0_0.length c0_0) := (blk_cell (HS.out.at_ 0 rfl) 0).trans rfl; have z0_1 : w1.cell? ⟨w.heap.size, 1, none⟩ = some (.slice A0_1 l0_1.length c0_1) := (blk_cell (HS.out.at_ 0 rfl) 1).trans rfl; have f0_0 := blk_frozen (HS.out.at_ 0 rfl) 0; have f0_1 := blk_frozen (HS.out.at_ 0 rfl) 1
 obtain ⟨t2, q_, h⟩ := Option.bind_eq_some_iff.1 h; have E3 := Aside0.mk q_; clear q_
 cases t2 with
 | true =>
  rw [if_pos rfl] at h
  obtain ⟨t5, q_, h⟩ := Option.bind_eq_some_iff.1 h; have E6 := Aside0.mk q_; clear q_
  by_cases q8 : t5 = 0
  ·rw [if_pos q8] at h
   have q8b0 := (bne_eq_false_iff_eq.2 q8 : (t5 != 0) = false)
   have Iq8 := Aside0.mk q8
   clear q8
   obtain ⟨⟨t9_1, t9_2⟩, q_, h⟩ := Option.bind_eq_some_iff.1 h; have E10 := Aside0.mk q_; clear q_; dsimp only at h
   go_upto_region 4 with (first | (go_at_call 9; (with_reducible refine (triglyphlaw06_light.calls k A0_0 c0_0 l0_0 A0_1 c0_1 l0_1 _ _ CRa0_0.out.1 CRa0_0.out.2 CRa0_1.out.1 CRa0_1.out.2 E3.out).mono ?_); rintro e w4 ⟨rfl, hb⟩; have CRa0_0 := Aside0.mk (And.intro (Kd.C_below CRa0_0.out.1 hb) CRa0_0.out.2); have CRa0_1 := Aside0.mk (And.intro (Kd.C_below CRa0_1.out.1 hb) CRa0_1.out.2); have HS := Aside0.mk (HS.out.step hb); clear hb; (try clear z0_0 z0_1 f0_0 f0_1); have z0_0 : w4.cell? ⟨w.heap.size, 0, none⟩ = some (.slice A0_0 l0_0.length c0_0) := (blk_cell (HS.out.at_ 0 rfl) 0).trans rfl; have z0_1 : w4.cell? ⟨w.heap.size, 1, none⟩ = some (.slice A0_1 l0_1.length c0_1) := (blk_cell (HS.out.at_ 0 rfl) 1).trans rfl; have f0_0 := blk_frozen (HS.out.at_ 0 rfl) 0; have f0_1 := blk_frozen (HS.out.at_ 0 rfl) 1) | (go_at_call 14; (with_reducible refine (triglyphref03_Check.calls k A0_0 c0_0 l0_0 A0_1 c0_1 l0_1 _ _ CRa0_0.out.1 CRa0_0.out.2 CRa0_1.out.1 CRa0_1.out.2 E6.out).mono ?_); rintro e w7 ⟨rfl, hb⟩; have CRa0_0 := Aside0.mk (And.intro (Kd.C_below CRa0_0.out.1 hb) CRa0_0.out.2); have CRa0_1 := Aside0.mk (And.intro (Kd.C_below CRa0_1.out.1 hb) CRa0_1.out.2); have HS := Aside0.mk (HS.out.step hb); clear hb; (try clear z0_0 z0_1 f0_0 f0_1); have z0_0 : w7.cell? ⟨w.heap.size, 0, none⟩ = some (.slice A0_0 l0_0.length c0_0) := (blk_cell (HS.out.at_ 0 rfl) 0).trans rfl; have z0_1 : w7.cell? ⟨w.heap.size, 1, none⟩ = some (.slice A0_1 l0_1.length c0_1) := (blk_cell (HS.out.at_ 0 rfl) 1).trans rfl; have f0_0 := blk_frozen (HS.out.at_ 0 rfl) 0; have f0_1 := blk_frozen (HS.out.at_ 0 rfl) 1) | (go_at_call 15; (with_reducible refine (triglyphref06_Listed.calls _ A0_0 c0_0 l0_0 _ A0_1 c0_1 l0_1 _ _ _ (Kd.V_mk CB0_0.out.2 (hf_F6 (Kd.C_F (Kd.heap_int .i64) CB0_0.out.1) HS.out.bel)) (Kd.V_mk CB0_1.out.2 (hf_F6 (Kd.C_F k45_heap CB0_1.out.1) HS.out.bel)) E10.out).mono ?_); rintro e w11 ⟨v0_, v1_, rfl, h0_, h1_, hb⟩; obtain ⟨A12, c13, hv_, hl_, hf_⟩ := h0_; have CR14 := Aside0.mk (And.intro (Kd.F_now hf_) hl_); have FR15 := Aside0.mk (Kd.F_mono (ok' := fun k_ => k_ ≠ w.heap.size) hf_ (fun k_ hk_ => by have h1_ := blk_lt (HS.out.at_ 0 rfl); dsimp only at hk_ h1_; omega)); clear hf_ hl_; subst hv_; obtain ⟨A16, c17, hv_, hl_, hf_⟩ := h1_; have CR18 := Aside0.mk (And.intro (Kd.F_now hf_) hl_); have FR19 := Aside0.mk (Kd.F_mono (ok' := fun k_ => k_ ≠ w.heap.size) hf_ (fun k_ hk_ => by have h1_ := blk_lt (HS.out.at_ 0 rfl); dsimp only at hk_ h1_; omega)); clear hf_ hl_; subst hv_; have CRa0_0 := Aside0.mk (And.intro (Kd.C_below CRa0_0.out.1 hb) CRa0_0.out.2); have CRa0_1 := Aside0.mk (And.intro (Kd.C_below CRa0_1.out.1 hb) CRa0_1.out.2); have HS := Aside0.mk (HS.out.step hb); clear hb; (try clear z0_0 z0_1 f0_0 f0_1); have z0_0 : w11.cell? ⟨w.heap.size, 0, none⟩ = some (.slice A0_0 l0_0.length c0_0) := (blk_cell (HS.out.at_ 0 rfl) 0).trans rfl; have z0_1 : w11.cell? ⟨w.heap.size, 1, none⟩ = some (.slice A0_1 l0_1.length c0_1) := (blk_cell (HS.out.at_ 0 rfl) 1).trans rfl; have f0_0 := blk_frozen (HS.out.at_ 0 rfl) 0; have f0_1 := blk_frozen (HS.out.at_ 0 rfl) 1))
   (try clear z0_0 z0_1 f0_0 f0_1); skip
   have HS := Aside0.mk (hf_put2 HS.out (.slice A12 t9_1.length c13) (.slice A16 t9_2.length c17))
   have CR14 := Aside0.mk (And.intro (Kd.F_now (hf_F5a FR15.out (.slice A12 t9_1.length c13) (.slice A16 t9_2.length c17))) CR14.out.2)
   have CR18 := Aside0.mk (And.intro (Kd.F_now (hf_F5a FR19.out (.slice A12 t9_1.length c13) (.slice A16 t9_2.length c17))) CR18.out.2)
   clear CRa0_0 CRa0_1 FR15 FR19
   generalize (w11.setCell _ _).setCell _ _ = w20 at HS CR14 CR18 ⊢
   have z0_0 : w20.cell? ⟨w.heap.size, 0, none⟩ = some (.slice A12 t9_1.length c13) := (blk_cell (HS.out.at_ 0 rfl) 0).trans rfl; have z0_1 : w20.cell? ⟨w.heap.size, 1, none⟩ = some (.slice A16 t9_2.length c17) := (blk_cell (HS.out.at_ 0 rfl) 1).trans rfl; have f0_0 := blk_frozen (HS.out.at_ 0 rfl) 0; have f0_1 := blk_frozen (HS.out.at_ 0 rfl) 1
   obtain ⟨⟨t22_1, t22_2⟩, q_, h⟩ := Option.bind_eq_some_iff.1 h; have E23 := Aside0.mk q_; clear q_; dsimp only at h
   obtain ⟨⟨t32_1, t32_2, t32_3⟩, q_, h⟩ := Option.bind_eq_some_iff.1 h; have E33 := Aside0.mk q_; clear q_; dsimp only at h
   go_upto_region 4 with (fail)
   refine start_ (n := 9) (S := fun W' => Below w20.drew.heap.size w20.drew W') (ds := []) #[false, false, false, false, false, false, false, false, false] (by kernel_rfl) rfl rfl (Below.refl _ _) (fun hHeld => ?_)
   refine with_tabW triglyphlaw06_PickKeeps.tab4 triglyphlaw06_PickKeeps.bits4 (fun HT_ HW_ => ?_)
   (try clear z0_0 z0_1 f0_0 f0_1); have HS := Aside0.mk (HS.out.step (below_drew (Below.refl _ _)))
   have CR14 := Aside0.mk (And.intro (Kd.C_below CR14.out.1 (below_drew (Below.refl _ _))) CR14.out.2)
   have CR18 := Aside0.mk (And.intro (Kd.C_below CR18.out.1 (below_drew (Below.refl _ _))) CR18.out.2)
   generalize w20.drew = W21 at HS CR14 CR18 hHeld ⊢
   refine take_ (i := 1) (N := some 22) (v := ?_) (a' := ?_) #[false, true, false, false, false, false, false, false, false] rfl rfl (take_ofW HT_.out HW_.out (by kernel_rfl)) (fun _ _ _ h => h) (Or.inl ⟨by rfl, ?_⟩) hHeld ?_ ?_; rotate_left
   ·intro w' s0; have y0 : w'.cell? ⟨w.heap.size, 0, none⟩ = some (.slice A12 t9_1.length c13) := (blk_cell ((HS.out.step s0).at_ 0 rfl) 0).trans rfl; have y1 : w'.cell? ⟨w.heap.size, 1, none⟩ = some (.slice A16 t9_2.length c17) := (blk_cell ((HS.out.step s0).at_ 0 rfl) 1).trans rfl; go_simp; with_reducible rfl
   rotate_left
   ·simp only [Act.put, List.setIfInBounds_toArray, List.set_cons_zero, List.set_cons_succ, i64_w, i32_w]; rfl
   refine join_ (σ := Value × Value × Value × Value × Nat) 2 #[true, true, true, true, true, true, true, false, false] (fun s_ => [(21, .agg #[s_.1, s_.2.1]), (23, .tuple #[.agg #[s_.2.2.1, s_.2.2.2.1], .int .i64 t32_3]), (3, .pointer (some ⟨s_.2.2.2.2, 0, none⟩)), (20, .tuple #[.agg #[s_.2.2.1, s_.2.2.2.1], .int .i64 t32_3]), (24, .agg #[s_.2.2.1, s_.2.2.2.1]), (25, .int .i64 t32_3)]) (fun s_ w' => Below W21.heap.size W21 w' ∧ (∃ A_ c_, s_.1 = .slice A_ (t22_1).length c_ ∧ (t22_1).length ≤ c_ ∧ Kd.F (Kd.int .i64) w' (fun k_ => k_ ≠ s_.2.2.2.2) A_ (t22_1).length t22_1) ∧ (∃ A_ c_, s_.2.1 = .slice A_ (t22_2).length c_ ∧ (t22_2).length ≤ c_ ∧ Kd.F k45 w' (fun k_ => k_ ≠ s_.2.2.2.2) A_ (t22_2).length t22_2) ∧ (∃ A_ c_, s_.2.2.1 = .slice A_ (t32_1).length c_ ∧ (t32_1).length ≤ c_ ∧ Kd.F (Kd.int .i64) w' (fun k_ => k_ ≠ s_.2.2.2.2) A_ (t32_1).length t32_1) ∧ (∃ A_ c_, s_.2.2.2.1 = .slice A_ (t32_2).length c_ ∧ (t32_2).length ≤ c_ ∧ Kd.F k45 w' (fun k_ => k_ ≠ s_.2.2.2.2) A_ (t32_2).length t32_2) ∧ (w'.heap[s_.2.2.2.2]? = some (.cells #[.slice none 0 0, .slice none 0 0] 25 (0, 0)) ∧ W21.heap.size ≤ s_.2.2.2.2)) ?_ ?_; rotate_left
   ·intro hCont
    refine two_ (i := 0) (j := 6) (Ni := some 21) (Nj := some 3) #[true, true, false, false, false, false, false, false, false] #[false, true, false, false, false, false, true, false, false] rfl rfl rfl rfl (two_of HT_.out (by kernel_rfl)) (by decide) (by decide) (fun K hK => ?_) (fun K hK => ?_)
    ·skip
     refine goes_ Try.func16 (by kernel_rfl) rfl #[.int .i64 1] (by rfl) rfl rfl (by first | rfl | (simp only [List.map_toArray, List.map_cons, List.map_nil]; rfl)) ?_
     refine (triglyphref03_Atom.calls 1 _ _ _ E23.out).mono ?_
     rintro e w1 ⟨v27, v31, rfl, hv27, hv31, hb⟩
     refine ⟨_, rfl, ?_⟩
     obtain ⟨A24, c25, hv_⟩ := Kd.R_slice hv27; subst hv_; have CR26 := Aside0.mk (And.intro (hf_F1 hv27) (Kd.R_reads' hv27).2.1); clear hv27
     obtain ⟨A28, c29, hv_⟩ := Kd.R_slice hv31; subst hv_; have CR30 := Aside0.mk (And.intro (hf_F1 hv31) (Kd.R_reads' hv31).2.1); clear hv31
     have hHeld := hHeld.trans (hb.mono hHeld.size); clear hb
     refine hK.out _ _ hHeld (fun hHeld => ?_); clear hK K
     refine norm_ (a' := ?_) ?_ ?_; rotate_left
     ·show Act.put _ (some 21) _ = _
      simp only [Act.put, List.setIfInBounds_toArray, List.set_cons_zero, List.set_cons_succ, i64_w, i32_w]; rfl
     refine two_ (i := 2) (j := 6) (Ni := some 23) (Nj := some 3) #[true, true, true, false, false, false, false, false, false] #[true, true, false, false, false, false, true, false, false] rfl rfl rfl rfl (two_of HT_.out (by kernel_rfl)) (by decide) (by decide) (fun K hK => ?_) (fun K hK => ?_)
     ·skip
      refine goes_ Try.func11 (by kernel_rfl) rfl #[.int .i64 50, .agg #[.slice A24 t22_1.length c25, .slice A28 t22_2.length c29], .agg #[.slice A12 t9_1.length c13, .slice A16 t9_2.length c17]] (by rfl) rfl rfl (by first | rfl | (simp only [List.map_toArray, List.map_cons, List.map_nil]; rfl)) ?_
      refine (pick_Dy.calls k 50 _ A24 c25 t22_1 _ A28 c29 t22_2 _ A12 c13 t9_1 _ A16 c17 t9_2 _ _ _ _ (Kd.V_mk CR26.out.2 CR26.out.1) (Kd.V_mk CR30.out.2 CR30.out.1) (Kd.V_mk CR14.out.2 (hf_F6 (Kd.C_F (Kd.heap_int .i64) CR14.out.1) hHeld)) (Kd.V_mk CR18.out.2 (hf_F6 (Kd.C_F k45_heap CR18.out.1) hHeld)) E33.out).mono ?_
      rintro e w1 ⟨v37, v41, rfl, hv37, hv41, hb⟩
      refine ⟨_, rfl, ?_⟩
      obtain ⟨A34, c35, hv_⟩ := Kd.R_slice hv37; subst hv_; have CR36 := Aside0.mk (And.intro (hf_F1 hv37) (Kd.R_reads' hv37).2.1); clear hv37
      obtain ⟨A38, c39, hv_, hl_, hf_⟩ := (Kd.N_V (base' := 0) hv41); subst hv_; have CR40 := Aside0.mk (And.intro (Kd.F_mono (ok' := fun _ => True) hf_ (fun _ _ => trivial)) hl_); clear hf_ hl_
      have CR26 := Aside0.mk (And.intro (hf_F4 CR26.out.1 hb) CR26.out.2)
      have CR30 := Aside0.mk (And.intro (hf_F4 CR30.out.1 hb) CR30.out.2)
      have hHeld := hHeld.trans (hb.mono hHeld.size); clear hb
      refine hK.out _ _ hHeld (fun hHeld => ?_); clear hK K
      refine norm_ (a' := ?_) ?_ ?_; rotate_left
      ·show Act.put _ (some 23) _ = _
       simp only [Act.put, List.setIfInBounds_toArray, List.set_cons_zero, List.set_cons_succ, i64_w, i32_w]; rfl
      refine pure_ (i := 3) (N := some 20) (v := ?_) (a' := ?_) #[true, true, true, true, false, false, false, false, false] rfl rfl (any_of HT_.out (by kernel_rfl)) (fun _ _ _ h => h) (Or.inl ⟨by rfl, ?_⟩) ?_ ?_; rotate_left
      ·intro w'; go_simp; with_reducible rfl
      rotate_left
      ·simp only [Act.put, List.setIfInBounds_toArray, List.set_cons_zero, List.set_cons_succ, i64_w, i32_w]; rfl
      refine pure_ (i := 4) (N := some 24) (v := ?_) (a' := ?_) #[true, true, true, true, true, false, false, false, false] rfl rfl (any_of HT_.out (by kernel_rfl)) (fun _ _ _ h => h) (Or.inl ⟨by rfl, ?_⟩) ?_ ?_; rotate_left
      ·intro w'; go_simp; with_reducible rfl
      rotate_left
      ·simp only [Act.put, List.setIfInBounds_toArray, List.set_cons_zero, List.set_cons_succ, i64_w, i32_w]; rfl
      refine pure_ (i := 5) (N := some 25) (v := ?_) (a' := ?_) #[true, true, true, true, true, true, false, false, false] rfl rfl (any_of HT_.out (by kernel_rfl)) (fun _ _ _ h => h) (Or.inl ⟨by rfl, ?_⟩) ?_ ?_; rotate_left
      ·intro w'; go_simp; with_reducible rfl
      rotate_left
      ·simp only [Act.put, List.setIfInBounds_toArray, List.set_cons_zero, List.set_cons_succ, i64_w, i32_w]; rfl
      refine one_ (i := 6) (N := some 3) #[true, true, true, true, true, true, true, false, false] rfl rfl (one_of HT_.out (by kernel_rfl)) (by decide) (fun K hK => ?_)
      refine box_step ?hg (N := 3) ?hd (cs := #[.slice none 0 0, .slice none 0 0]) (t := 25) ?hr ?_; (case hd => rfl); (case hg => rfl); (case hr => first | (go_simp; done) | (go_simp; rfl))
      intro g42 hg w1 hbox hb
      have HGg42 := Aside0.mk hbox; have HLg42 : Aside0 (W21.heap.size ≤ g42) := ⟨Nat.le_trans hHeld.size (Nat.le_of_eq hg.symm)⟩; have HM : Aside0 (g42 < w1.heap.size) := ⟨blk_lt hbox⟩; clear hbox
      have CR26 := Aside0.mk (And.intro (hf_F3 hg CR26.out.1 hb) CR26.out.2)
      have CR30 := Aside0.mk (And.intro (hf_F3 hg CR30.out.1 hb) CR30.out.2)
      have CR36 := Aside0.mk (And.intro (hf_F3 hg CR36.out.1 hb) CR36.out.2)
      have CR40 := Aside0.mk (And.intro (hf_F3 hg CR40.out.1 hb) CR40.out.2)
      clear hg
      have hHeld := hHeld.trans (hb.mono hHeld.size); clear hb
      refine hK.out _ _ hHeld (fun hHeld => ?_); clear hK K
      refine norm_ (a' := ?_) ?_ ?_; rotate_left
      ·show Act.put _ (some 3) _ = _
       simp only [Act.put, List.setIfInBounds_toArray, List.set_cons_zero, List.set_cons_succ, i64_w, i32_w]; rfl
      exact norm_ (by simp only [putAll, Act.put, List.setIfInBounds_toArray, List.set_cons_zero, List.set_cons_succ]) (hCont (.slice A24 t22_1.length c25, .slice A28 t22_2.length c29, .slice A34 t32_1.length c35, .slice A38 t32_2.length c39, g42) _ ⟨hHeld, ⟨_, _, rfl, CR26.out.2, CR26.out.1⟩, ⟨_, _, rfl, CR30.out.2, CR30.out.1⟩, ⟨_, _, rfl, CR36.out.2, CR36.out.1⟩, ⟨_, _, rfl, CR40.out.2, CR40.out.1⟩, ⟨HGg42.out, HLg42.out⟩⟩)
     ·skip
      refine box_step ?hg (N := 3) ?hd (cs := #[.slice none 0 0, .slice none 0 0]) (t := 25) ?hr ?_; (case hd => rfl); (case hg => rfl); (case hr => first | (go_simp; done) | (go_simp; rfl))
      intro g42 hg w1 hbox hb
      have HGg42 := Aside0.mk hbox; have HLg42 : Aside0 (W21.heap.size ≤ g42) := ⟨Nat.le_trans hHeld.size (Nat.le_of_eq hg.symm)⟩; have HM : Aside0 (g42 < w1.heap.size) := ⟨blk_lt hbox⟩; clear hbox
      have CR26 := Aside0.mk (And.intro (hf_F3 hg CR26.out.1 hb) CR26.out.2)
      have CR30 := Aside0.mk (And.intro (hf_F3 hg CR30.out.1 hb) CR30.out.2)
      clear hg
      have hHeld := hHeld.trans (hb.mono hHeld.size); clear hb
      refine hK.out _ _ hHeld (fun hHeld => ?_); clear hK K
      refine norm_ (a' := ?_) ?_ ?_; rotate_left
      ·show Act.put _ (some 3) _ = _
       simp only [Act.put, List.setIfInBounds_toArray, List.set_cons_zero, List.set_cons_succ, i64_w, i32_w]; rfl
      refine one_ (i := 2) (N := some 23) #[true, true, true, false, false, false, true, false, false] rfl rfl (one_of HT_.out (by kernel_rfl)) (by decide) (fun K hK => ?_)
      refine goes_ Try.func11 (by kernel_rfl) rfl #[.int .i64 50, .agg #[.slice A24 t22_1.length c25, .slice A28 t22_2.length c29], .agg #[.slice A12 t9_1.length c13, .slice A16 t9_2.length c17]] (by rfl) rfl rfl (by first | rfl | (simp only [List.map_toArray, List.map_cons, List.map_nil]; rfl)) ?_
      refine (pick_Dy.calls k 50 _ A24 c25 t22_1 _ A28 c29 t22_2 _ A12 c13 t9_1 _ A16 c17 t9_2 _ _ _ _ (Kd.V_mk CR26.out.2 CR26.out.1) (Kd.V_mk CR30.out.2 CR30.out.1) (Kd.V_mk CR14.out.2 (hf_F6 (Kd.C_F (Kd.heap_int .i64) CR14.out.1) hHeld)) (Kd.V_mk CR18.out.2 (hf_F6 (Kd.C_F k45_heap CR18.out.1) hHeld)) E33.out).mono ?_
      rintro e w1 ⟨v37, v41, rfl, hv37, hv41, hb⟩
      refine ⟨_, rfl, ?_⟩
      obtain ⟨A34, c35, hv_⟩ := Kd.R_slice hv37; subst hv_; have CR36 := Aside0.mk (And.intro (hf_F2 hv37 HM.out) (Kd.R_reads' hv37).2.1); clear hv37
      obtain ⟨A38, c39, hv_, hl_, hf_⟩ := (Kd.N_V (base' := 0) hv41); subst hv_; have CR40 := Aside0.mk (And.intro (Kd.F_mono (ok' := fun k_ => k_ ≠ g42) hf_ (fun k hk => by (try dsimp only at hk); have h1 := HLg42.out; have h2 := HM.out; omega)) hl_); clear hf_ hl_
      have CR26 := Aside0.mk (And.intro (hf_F4 CR26.out.1 hb) CR26.out.2)
      have CR30 := Aside0.mk (And.intro (hf_F4 CR30.out.1 hb) CR30.out.2)
      have HGg42 := Aside0.mk (blk_below HGg42.out hb); have HM := Aside0.mk (Nat.lt_of_lt_of_le HM.out (Below.size hb))
      have hHeld := hHeld.trans (hb.mono hHeld.size); clear hb
      refine hK.out _ _ hHeld (fun hHeld => ?_); clear hK K
      refine norm_ (a' := ?_) ?_ ?_; rotate_left
      ·show Act.put _ (some 23) _ = _
       simp only [Act.put, List.setIfInBounds_toArray, List.set_cons_zero, List.set_cons_succ, i64_w, i32_w]; rfl
      refine pure_ (i := 3) (N := some 20) (v := ?_) (a' := ?_) #[true, true, true, true, false, false, true, false, false] rfl rfl (any_of HT_.out (by kernel_rfl)) (fun _ _ _ h => h) (Or.inl ⟨by rfl, ?_⟩) ?_ ?_; rotate_left
      ·intro w'; go_simp; with_reducible rfl
      rotate_left
      ·simp only [Act.put, List.setIfInBounds_toArray, List.set_cons_zero, List.set_cons_succ, i64_w, i32_w]; rfl
      refine pure_ (i := 4) (N := some 24) (v := ?_) (a' := ?_) #[true, true, true, true, true, false, true, false, false] rfl rfl (any_of HT_.out (by kernel_rfl)) (fun _ _ _ h => h) (Or.inl ⟨by rfl, ?_⟩) ?_ ?_; rotate_left
      ·intro w'; go_simp; with_reducible rfl
      rotate_left
      ·simp only [Act.put, List.setIfInBounds_toArray, List.set_cons_zero, List.set_cons_succ, i64_w, i32_w]; rfl
      refine pure_ (i := 5) (N := some 25) (v := ?_) (a' := ?_) #[true, true, true, true, true, true, true, false, false] rfl rfl (any_of HT_.out (by kernel_rfl)) (fun _ _ _ h => h) (Or.inl ⟨by rfl, ?_⟩) ?_ ?_; rotate_left
      ·intro w'; go_simp; with_reducible rfl
      rotate_left
      ·simp only [Act.put, List.setIfInBounds_toArray, List.set_cons_zero, List.set_cons_succ, i64_w, i32_w]; rfl
      exact norm_ (by simp only [putAll, Act.put, List.setIfInBounds_toArray, List.set_cons_zero, List.set_cons_succ]) (hCont (.slice A24 t22_1.length c25, .slice A28 t22_2.length c29, .slice A34 t32_1.length c35, .slice A38 t32_2.length c39, g42) _ ⟨hHeld, ⟨_, _, rfl, CR26.out.2, CR26.out.1⟩, ⟨_, _, rfl, CR30.out.2, CR30.out.1⟩, ⟨_, _, rfl, CR36.out.2, CR36.out.1⟩, ⟨_, _, rfl, CR40.out.2, CR40.out.1⟩, ⟨HGg42.out, HLg42.out⟩⟩)
    ·skip
     refine box_step ?hg (N := 3) ?hd (cs := #[.slice none 0 0, .slice none 0 0]) (t := 25) ?hr ?_; (case hd => rfl); (case hg => rfl); (case hr => first | (go_simp; done) | (go_simp; rfl))
     intro g42 hg w1 hbox hb
     have HGg42 := Aside0.mk hbox; have HLg42 : Aside0 (W21.heap.size ≤ g42) := ⟨Nat.le_trans hHeld.size (Nat.le_of_eq hg.symm)⟩; have HM : Aside0 (g42 < w1.heap.size) := ⟨blk_lt hbox⟩; clear hbox
     clear hg
     have hHeld := hHeld.trans (hb.mono hHeld.size); clear hb
     refine hK.out _ _ hHeld (fun hHeld => ?_); clear hK K
     refine norm_ (a' := ?_) ?_ ?_; rotate_left
     ·show Act.put _ (some 3) _ = _
      simp only [Act.put, List.setIfInBounds_toArray, List.set_cons_zero, List.set_cons_succ, i64_w, i32_w]; rfl
     refine one_ (i := 0) (N := some 21) #[true, true, false, false, false, false, true, false, false] rfl rfl (one_of HT_.out (by kernel_rfl)) (by decide) (fun K hK => ?_)
     refine goes_ Try.func16 (by kernel_rfl) rfl #[.int .i64 1] (by rfl) rfl rfl (by first | rfl | (simp only [List.map_toArray, List.map_cons, List.map_nil]; rfl)) ?_
     refine (triglyphref03_Atom.calls 1 _ _ _ E23.out).mono ?_
     rintro e w1 ⟨v27, v31, rfl, hv27, hv31, hb⟩
     refine ⟨_, rfl, ?_⟩
     obtain ⟨A24, c25, hv_⟩ := Kd.R_slice hv27; subst hv_; have CR26 := Aside0.mk (And.intro (hf_F2 hv27 HM.out) (Kd.R_reads' hv27).2.1); clear hv27
     obtain ⟨A28, c29, hv_⟩ := Kd.R_slice hv31; subst hv_; have CR30 := Aside0.mk (And.intro (hf_F2 hv31 HM.out) (Kd.R_reads' hv31).2.1); clear hv31
     have HGg42 := Aside0.mk (blk_below HGg42.out hb); have HM := Aside0.mk (Nat.lt_of_lt_of_le HM.out (Below.size hb))
     have hHeld := hHeld.trans (hb.mono hHeld.size); clear hb
     refine hK.out _ _ hHeld (fun hHeld => ?_); clear hK K
     refine norm_ (a' := ?_) ?_ ?_; rotate_left
     ·show Act.put _ (some 21) _ = _
      simp only [Act.put, List.setIfInBounds_toArray, List.set_cons_zero, List.set_cons_succ, i64_w, i32_w]; rfl
     refine one_ (i := 2) (N := some 23) #[true, true, true, false, false, false, true, false, false] rfl rfl (one_of HT_.out (by kernel_rfl)) (by decide) (fun K hK => ?_)
     refine goes_ Try.func11 (by kernel_rfl) rfl #[.int .i64 50, .agg #[.slice A24 t22_1.length c25, .slice A28 t22_2.length c29], .agg #[.slice A12 t9_1.length c13, .slice A16 t9_2.length c17]] (by rfl) rfl rfl (by first | rfl | (simp only [List.map_toArray, List.map_cons, List.map_nil]; rfl)) ?_
     refine (pick_Dy.calls k 50 _ A24 c25 t22_1 _ A28 c29 t22_2 _ A12 c13 t9_1 _ A16 c17 t9_2 _ _ _ _ (Kd.V_mk CR26.out.2 CR26.out.1) (Kd.V_mk CR30.out.2 CR30.out.1) (Kd.V_mk CR14.out.2 (hf_F6 (Kd.C_F (Kd.heap_int .i64) CR14.out.1) hHeld)) (Kd.V_mk CR18.out.2 (hf_F6 (Kd.C_F k45_heap CR18.out.1) hHeld)) E33.out).mono ?_
     rintro e w1 ⟨v37, v41, rfl, hv37, hv41, hb⟩
     refine ⟨_, rfl, ?_⟩
     obtain ⟨A34, c35, hv_⟩ := Kd.R_slice hv37; subst hv_; have CR36 := Aside0.mk (And.intro (hf_F2 hv37 HM.out) (Kd.R_reads' hv37).2.1); clear hv37
     obtain ⟨A38, c39, hv_, hl_, hf_⟩ := (Kd.N_V (base' := 0) hv41); subst hv_; have CR40 := Aside0.mk (And.intro (Kd.F_mono (ok' := fun k_ => k_ ≠ g42) hf_ (fun k hk => by (try dsimp only at hk); have h1 := HLg42.out; have h2 := HM.out; omega)) hl_); clear hf_ hl_
     have HGg42 := Aside0.mk (blk_below HGg42.out hb); have HM := Aside0.mk (Nat.lt_of_lt_of_le HM.out (Below.size hb))
     have CR26 := Aside0.mk (And.intro (hf_F4 CR26.out.1 hb) CR26.out.2)
     have CR30 := Aside0.mk (And.intro (hf_F4 CR30.out.1 hb) CR30.out.2)
     have hHeld := hHeld.trans (hb.mono hHeld.size); clear hb
     refine hK.out _ _ hHeld (fun hHeld => ?_); clear hK K
     refine norm_ (a' := ?_) ?_ ?_; rotate_left
     ·show Act.put _ (some 23) _ = _
      simp only [Act.put, List.setIfInBounds_toArray, List.set_cons_zero, List.set_cons_succ, i64_w, i32_w]; rfl
     refine pure_ (i := 3) (N := some 20) (v := ?_) (a' := ?_) #[true, true, true, true, false, false, true, false, false] rfl rfl (any_of HT_.out (by kernel_rfl)) (fun _ _ _ h => h) (Or.inl ⟨by rfl, ?_⟩) ?_ ?_; rotate_left
     ·intro w'; go_simp; with_reducible rfl
     rotate_left
     ·simp only [Act.put, List.setIfInBounds_toArray, List.set_cons_zero, List.set_cons_succ, i64_w, i32_w]; rfl
     refine pure_ (i := 4) (N := some 24) (v := ?_) (a' := ?_) #[true, true, true, true, true, false, true, false, false] rfl rfl (any_of HT_.out (by kernel_rfl)) (fun _ _ _ h => h) (Or.inl ⟨by rfl, ?_⟩) ?_ ?_; rotate_left
     ·intro w'; go_simp; with_reducible rfl
     rotate_left
     ·simp only [Act.put, List.setIfInBounds_toArray, List.set_cons_zero, List.set_cons_succ, i64_w, i32_w]; rfl
     refine pure_ (i := 5) (N := some 25) (v := ?_) (a' := ?_) #[true, true, true, true, true, true, true, false, false] rfl rfl (any_of HT_.out (by kernel_rfl)) (fun _ _ _ h => h) (Or.inl ⟨by rfl, ?_⟩) ?_ ?_; rotate_left
     ·intro w'; go_simp; with_reducible rfl
     rotate_left
     ·simp only [Act.put, List.setIfInBounds_toArray, List.set_cons_zero, List.set_cons_succ, i64_w, i32_w]; rfl
     exact norm_ (by simp only [putAll, Act.put, List.setIfInBounds_toArray, List.set_cons_zero, List.set_cons_succ]) (hCont (.slice A24 t22_1.length c25, .slice A28 t22_2.length c29, .slice A34 t32_1.length c35, .slice A38 t32_2.length c39, g42) _ ⟨hHeld, ⟨_, _, rfl, CR26.out.2, CR26.out.1⟩, ⟨_, _, rfl, CR30.out.2, CR30.out.1⟩, ⟨_, _, rfl, CR36.out.2, CR36.out.1⟩, ⟨_, _, rfl, CR40.out.2, CR40.out.1⟩, ⟨HGg42.out, HLg42.out⟩⟩)
   rintro ⟨v27, v31, v37, v41, g42⟩ w43 ⟨hHeld, hF0_, hF1_, hF2_, hF3_, hF4_⟩
   dsimp only at hF0_ hF1_ hF2_ hF3_ hF4_
   obtain ⟨A24, c25, hv_, hl_, hf_⟩ := hF0_; have CR26 := Aside0.mk (And.intro hf_ hl_); clear hf_ hl_; subst hv_
   obtain ⟨A28, c29, hv_, hl_, hf_⟩ := hF1_; have CR30 := Aside0.mk (And.intro hf_ hl_); clear hf_ hl_; subst hv_
   obtain ⟨A34, c35, hv_, hl_, hf_⟩ := hF2_; have CR36 := Aside0.mk (And.intro hf_ hl_); clear hf_ hl_; subst hv_
   obtain ⟨A38, c39, hv_, hl_, hf_⟩ := hF3_; have CR40 := Aside0.mk (And.intro hf_ hl_); clear hf_ hl_; subst hv_
   have HG := Aside0.mk hF4_; clear hF4_
   refine norm_ (a' := ?_) ?_ ?_; rotate_left
   ·simp only [putAll, Act.put, List.setIfInBounds_toArray, List.set_cons_zero, List.set_cons_succ]; rfl
   refine one_ (i := 7) (N := none) #[true, true, true, true, true, true, true, true, false] rfl rfl (one_of HT_.out (by kernel_rfl)) (by decide) (fun K hK => ?_)
   have y0 : w43.cell? ⟨g42, 0, none⟩ = some (.slice none 0 0) := (blk_cell HG.out.1 0).trans rfl; have u0 := blk_frozen HG.out.1 0; have y1 : w43.cell? ⟨g42, 1, none⟩ = some (.slice none 0 0) := (blk_cell HG.out.1 1).trans rfl; have u1 := blk_frozen HG.out.1 1
   refine skip_ (w1 := ?_) (by rfl) rfl ?_ ?_; rotate_left
   ·go_simp; rfl
   have HB2 := Aside0.mk (hf_st2 hHeld HG.out.2 (.slice A34 t32_1.length c35) (.slice A38 t32_2.length c39))
   have CR26 := Aside0.mk (And.intro (hf_F5a CR26.out.1 (.slice A34 t32_1.length c35) (.slice A38 t32_2.length c39)) CR26.out.2)
   have CR30 := Aside0.mk (And.intro (hf_F5a CR30.out.1 (.slice A34 t32_1.length c35) (.slice A38 t32_2.length c39)) CR30.out.2)
   have CR36 := Aside0.mk (And.intro (hf_F5a CR36.out.1 (.slice A34 t32_1.length c35) (.slice A38 t32_2.length c39)) CR36.out.2)
   have CR40 := Aside0.mk (And.intro (hf_F5a CR40.out.1 (.slice A34 t32_1.length c35) (.slice A38 t32_2.length c39)) CR40.out.2)
   have HG := Aside0.mk (And.intro (hf_z2 HG.out.1 (.slice A34 t32_1.length c35) (.slice A38 t32_2.length c39)) HG.out.2)
   refine hK.out _ _ HB2.out (fun hHeld => ?_); clear hK K HB2 y0 u0 y1 u1
   generalize (w43.setCell _ _).setCell _ _ = w44 at hHeld HG CR26 CR30 CR36 CR40 ⊢
   refine pure_ (i := 8) (N := some 4) (v := ?_) (a' := ?_) #[true, true, true, true, true, true, true, true, true] rfl rfl (any_of HT_.out (by kernel_rfl)) (fun _ _ _ h => h) (Or.inl ⟨by rfl, ?_⟩) ?_ ?_; rotate_left
   ·intro w'; go_simp; with_reducible rfl
   rotate_left
   ·simp only [Act.put, List.setIfInBounds_toArray, List.set_cons_zero, List.set_cons_succ, i64_w, i32_w]; rfl
   refine done_ (done_of HT_.out (by kernel_rfl)) ?_
   have CR26 := Aside0.mk (And.intro (Kd.F_now CR26.out.1) CR26.out.2)
   have CR30 := Aside0.mk (And.intro (Kd.F_now CR30.out.1) CR30.out.2)
   have CR36 := Aside0.mk (And.intro (Kd.F_now CR36.out.1) CR36.out.2)
   have CR40 := Aside0.mk (And.intro (Kd.F_now CR40.out.1) CR40.out.2)
   have CR14 := Aside0.mk (And.intro (Kd.C_below CR14.out.1 hHeld) CR14.out.2)
   have CR18 := Aside0.mk (And.intro (Kd.C_below CR18.out.1 hHeld) CR18.out.2)
   have HS := Aside0.mk (BxS.add HS.out hHeld HG.out.1 HG.out.2)
   clear hHeld HG
   have z0_0 : w44.cell? ⟨w.heap.size, 0, none⟩ = some (.slice A12 t9_1.length c13) := (blk_cell (HS.out.at_ 1 rfl) 0).trans rfl; have z0_1 : w44.cell? ⟨w.heap.size, 1, none⟩ = some (.slice A16 t9_2.length c17) := (blk_cell (HS.out.at_ 1 rfl) 1).trans rfl; have f0_0 := blk_frozen (HS.out.at_ 1 rfl) 0; have f0_1 := blk_frozen (HS.out.at_ 1 rfl) 1; have z1_0 : w44.cell? ⟨g42, 0, none⟩ = some (.slice A34 t32_1.length c35) := (blk_cell (HS.out.at_ 0 rfl) 0).trans rfl; have z1_1 : w44.cell? ⟨g42, 1, none⟩ = some (.slice A38 t32_2.length c39) := (blk_cell (HS.out.at_ 0 rfl) 1).trans rfl
   obtain ⟨⟨t46_1, t46_2⟩, q_, h⟩ := Option.bind_eq_some_iff.1 h; have E47 := Aside0.mk q_; clear q_; dsimp only at h
   obtain ⟨⟨t56_1, t56_2, t56_3⟩, q_, h⟩ := Option.bind_eq_some_iff.1 h; have E57 := Aside0.mk q_; clear q_; dsimp only at h
   go_upto_region 5 with (fail)
   refine start_ (n := 9) (S := fun W' => Below w44.drew.heap.size w44.drew W') (ds := []) #[false, false, false, false, false, false, false, false, false] (by kernel_rfl) rfl rfl (Below.refl _ _) (fun hHeld => ?_)
   refine with_tabW triglyphlaw06_PickKeeps.tab5 triglyphlaw06_PickKeeps.bits5 (fun HT_ HW_ => ?_)
   (try clear z0_0 z0_1 z1_0 z1_1 f0_0 f0_1); have HS := Aside0.mk (HS.out.step (below_drew (Below.refl _ _)))
   have CR14 := Aside0.mk (And.intro (Kd.C_below CR14.out.1 (below_drew (Below.refl _ _))) CR14.out.2)
   have CR18 := Aside0.mk (And.intro (Kd.C_below CR18.out.1 (below_drew (Below.refl _ _))) CR18.out.2)
   have CR26 := Aside0.mk (And.intro (Kd.C_below CR26.out.1 (below_drew (Below.refl _ _))) CR26.out.2)
   have CR30 := Aside0.mk (And.intro (Kd.C_below CR30.out.1 (below_drew (Below.refl _ _))) CR30.out.2)
   have CR36 := Aside0.mk (And.intro (Kd.C_below CR36.out.1 (below_drew (Below.refl _ _))) CR36.out.2)
   have CR40 := Aside0.mk (And.intro (Kd.C_below CR40.out.1 (below_drew (Below.refl _ _))) CR40.out.2)
   generalize w44.drew = W45 at HS CR14 CR18 CR26 CR30 CR36 CR40 hHeld ⊢
   refine take_ (i := 1) (N := some 28) (v := ?_) (a' := ?_) #[false, true, false, false, false, false, false, false, false] rfl rfl (take_ofW HT_.out HW_.out (by kernel_rfl)) (fun _ _ _ h => h) (Or.inl ⟨by rfl, ?_⟩) hHeld ?_ ?_; rotate_left
   ·intro w' s0; have y0 : w'.cell? ⟨w.heap.size, 0, none⟩ = some (.slice A12 t9_1.length c13) := (blk_cell ((HS.out.step s0).at_ 1 rfl) 0).trans rfl; have y1 : w'.cell? ⟨w.heap.size, 1, none⟩ = some (.slice A16 t9_2.length c17) := (blk_cell ((HS.out.step s0).at_ 1 rfl) 1).trans rfl; go_simp; with_reducible rfl
   rotate_left
   ·simp only [Act.put, List.setIfInBounds_toArray, List.set_cons_zero, List.set_cons_succ, i64_w, i32_w]; rfl
   refine join_ (σ := Value × Value × Value × Value × Nat) 2 #[true, true, true, true, true, true, true, false, false] (fun s_ => [(27, .agg #[s_.1, s_.2.1]), (29, .tuple #[.agg #[s_.2.2.1, s_.2.2.2.1], .int .i64 t56_3]), (5, .pointer (some ⟨s_.2.2.2.2, 0, none⟩)), (26, .tuple #[.agg #[s_.2.2.1, s_.2.2.2.1], .int .i64 t56_3]), (30, .agg #[s_.2.2.1, s_.2.2.2.1]), (31, .int .i64 t56_3)]) (fun s_ w' => Below W45.heap.size W45 w' ∧ (∃ A_ c_, s_.1 = .slice A_ (t46_1).length c_ ∧ (t46_1).length ≤ c_ ∧ Kd.F (Kd.int .i64) w' (fun k_ => k_ ≠ s_.2.2.2.2) A_ (t46_1).length t46_1) ∧ (∃ A_ c_, s_.2.1 = .slice A_ (t46_2).length c_ ∧ (t46_2).length ≤ c_ ∧ Kd.F k45 w' (fun k_ => k_ ≠ s_.2.2.2.2) A_ (t46_2).length t46_2) ∧ (∃ A_ c_, s_.2.2.1 = .slice A_ (t56_1).length c_ ∧ (t56_1).length ≤ c_ ∧ Kd.F (Kd.int .i64) w' (fun k_ => k_ ≠ s_.2.2.2.2) A_ (t56_1).length t56_1) ∧ (∃ A_ c_, s_.2.2.2.1 = .slice A_ (t56_2).length c_ ∧ (t56_2).length ≤ c_ ∧ Kd.F k45 w' (fun k_ => k_ ≠ s_.2.2.2.2) A_ (t56_2).length t56_2) ∧ (w'.heap[s_.2.2.2.2]? = some (.cells #[.slice none 0 0, .slice none 0 0] 25 (0, 0)) ∧ W45.heap.size ≤ s_.2.2.2.2)) ?_ ?_; rotate_left
   ·intro hCont
    refine two_ (i := 0) (j := 6) (Ni := some 27) (Nj := some 5) #[true, true, false, false, false, false, false, false, false] #[false, true, false, false, false, false, true, false, false] rfl rfl rfl rfl (two_of HT_.out (by kernel_rfl)) (by decide) (by decide) (fun K hK => ?_) (fun K hK => ?_)
    ·skip
     refine goes_ Try.func16 (by kernel_rfl) rfl #[.int .i64 1] (by rfl) rfl rfl (by first | rfl | (simp only [List.map_toArray, List.map_cons, List.map_nil]; rfl)) ?_
     refine (triglyphref03_Atom.calls 1 _ _ _ E47.out).mono ?_
     rintro e w1 ⟨v51, v55, rfl, hv51, hv55, hb⟩
     refine ⟨_, rfl, ?_⟩
     obtain ⟨A48, c49, hv_⟩ := Kd.R_slice hv51; subst hv_; have CR50 := Aside0.mk (And.intro (hf_F1 hv51) (Kd.R_reads' hv51).2.1); clear hv51
     obtain ⟨A52, c53, hv_⟩ := Kd.R_slice hv55; subst hv_; have CR54 := Aside0.mk (And.intro (hf_F1 hv55) (Kd.R_reads' hv55).2.1); clear hv55
     have hHeld := hHeld.trans (hb.mono hHeld.size); clear hb
     refine hK.out _ _ hHeld (fun hHeld => ?_); clear hK K
     refine norm_ (a' := ?_) ?_ ?_; rotate_left
     ·show Act.put _ (some 27) _ = _
      simp only [Act.put, List.setIfInBounds_toArray, List.set_cons_zero, List.set_cons_succ, i64_w, i32_w]; rfl
     refine two_ (i := 2) (j := 6) (Ni := some 29) (Nj := some 5) #[true, true, true, false, false, false, false, false, false] #[true, true, false, false, false, false, true, false, false] rfl rfl rfl rfl (two_of HT_.out (by kernel_rfl)) (by decide) (by decide) (fun K hK => ?_) (fun K hK => ?_)
     ·skip
      refine goes_ Try.func11 (by kernel_rfl) rfl #[.int .i64 51, .agg #[.slice A48 t46_1.length c49, .slice A52 t46_2.length c53], .agg #[.slice A12 t9_1.length c13, .slice A16 t9_2.length c17]] (by rfl) rfl rfl (by first | rfl | (simp only [List.map_toArray, List.map_cons, List.map_nil]; rfl)) ?_
      refine (pick_Dy.calls k 51 _ A48 c49 t46_1 _ A52 c53 t46_2 _ A12 c13 t9_1 _ A16 c17 t9_2 _ _ _ _ (Kd.V_mk CR50.out.2 CR50.out.1) (Kd.V_mk CR54.out.2 CR54.out.1) (Kd.V_mk CR14.out.2 (hf_F6 (Kd.C_F (Kd.heap_int .i64) CR14.out.1) hHeld)) (Kd.V_mk CR18.out.2 (hf_F6 (Kd.C_F k45_heap CR18.out.1) hHeld)) E57.out).mono ?_
      rintro e w1 ⟨v61, v65, rfl, hv61, hv65, hb⟩
      refine ⟨_, rfl, ?_⟩
      obtain ⟨A58, c59, hv_⟩ := Kd.R_slice hv61; subst hv_; have CR60 := Aside0.mk (And.intro (hf_F1 hv61) (Kd.R_reads' hv61).2.1); clear hv61
      obtain ⟨A62, c63, hv_, hl_, hf_⟩ := (Kd.N_V (base' := 0) hv65); subst hv_; have CR64 := Aside0.mk (And.intro (Kd.F_mono (ok' := fun _ => True) hf_ (fun _ _ => trivial)) hl_); clear hf_ hl_
      have CR50 := Aside0.mk (And.intro (hf_F4 CR50.out.1 hb) CR50.out.2)
      have CR54 := Aside0.mk (And.intro (hf_F4 CR54.out.1 hb) CR54.out.2)
      have hHeld := hHeld.trans (hb.mono hHeld.size); clear hb
      refine hK.out _ _ hHeld (fun hHeld => ?_); clear hK K
      refine norm_ (a' := ?_) ?_ ?_; rotate_left
      ·show Act.put _ (some 29) _ = _
       simp only [Act.put, List.setIfInBounds_toArray, List.set_cons_zero, List.set_cons_succ, i64_w, i32_w]; rfl
      refine pure_ (i := 3) (N := some 26) (v := ?_) (a' := ?_) #[true, true, true, true, false, false, false, false, false] rfl rfl (any_of HT_.out (by kernel_rfl)) (fun _ _ _ h => h) (Or.inl ⟨by rfl, ?_⟩) ?_ ?_; rotate_left
      ·intro w'; go_simp; with_reducible rfl
      rotate_left
      ·simp only [Act.put, List.setIfInBounds_toArray, List.set_cons_zero, List.set_cons_succ, i64_w, i32_w]; rfl
      refine pure_ (i := 4) (N := some 30) (v := ?_) (a' := ?_) #[true, true, true, true, true, false, false, false, false] rfl rfl (any_of HT_.out (by kernel_rfl)) (fun _ _ _ h => h) (Or.inl ⟨by rfl, ?_⟩) ?_ ?_; rotate_left
      ·intro w'; go_simp; with_reducible rfl
      rotate_left
      ·simp only [Act.put, List.setIfInBounds_toArray, List.set_cons_zero, List.set_cons_succ, i64_w, i32_w]; rfl
      refine pure_ (i := 5) (N := some 31) (v := ?_) (a' := ?_) #[true, true, true, true, true, true, false, false, false] rfl rfl (any_of HT_.out (by kernel_rfl)) (fun _ _ _ h => h) (Or.inl ⟨by rfl, ?_⟩) ?_ ?_; rotate_left
      ·intro w'; go_simp; with_reducible rfl
      rotate_left
      ·simp only [Act.put, List.setIfInBounds_toArray, List.set_cons_zero, List.set_cons_succ, i64_w, i32_w]; rfl
      refine one_ (i := 6) (N := some 5) #[true, true, true, true, true, true, true, false, false] rfl rfl (one_of HT_.out (by kernel_rfl)) (by decide) (fun K hK => ?_)
      refine box_step ?hg (N := 5) ?hd (cs := #[.slice none 0 0, .slice none 0 0]) (t := 25) ?hr ?_; (case hd => rfl); (case hg => rfl); (case hr => first | (go_simp; done) | (go_simp; rfl))
      intro g66 hg w1 hbox hb
      have HGg66 := Aside0.mk hbox; have HLg66 : Aside0 (W45.heap.size ≤ g66) := ⟨Nat.le_trans hHeld.size (Nat.le_of_eq hg.symm)⟩; have HM : Aside0 (g66 < w1.heap.size) := ⟨blk_lt hbox⟩; clear hbox
      have CR50 := Aside0.mk (And.intro (hf_F3 hg CR50.out.1 hb) CR50.out.2)
      have CR54 := Aside0.mk (And.intro (hf_F3 hg CR54.out.1 hb) CR54.out.2)
      have CR60 := Aside0.mk (And.intro (hf_F3 hg CR60.out.1 hb) CR60.out.2)
      have CR64 := Aside0.mk (And.intro (hf_F3 hg CR64.out.1 hb) CR64.out.2)
      clear hg
      have hHeld := hHeld.trans (hb.mono hHeld.size); clear hb
      refine hK.out _ _ hHeld (fun hHeld => ?_); clear hK K
      refine norm_ (a' := ?_) ?_ ?_; rotate_left
      ·show Act.put _ (some 5) _ = _
       simp only [Act.put, List.setIfInBounds_toArray, List.set_cons_zero, List.set_cons_succ, i64_w, i32_w]; rfl
      exact norm_ (by simp only [putAll, Act.put, List.setIfInBounds_toArray, List.set_cons_zero, List.set_cons_succ]) (hCont (.slice A48 t46_1.length c49, .slice A52 t46_2.length c53, .slice A58 t56_1.length c59, .slice A62 t56_2.length c63, g66) _ ⟨hHeld, ⟨_, _, rfl, CR50.out.2, CR50.out.1⟩, ⟨_, _, rfl, CR54.out.2, CR54.out.1⟩, ⟨_, _, rfl, CR60.out.2, CR60.out.1⟩, ⟨_, _, rfl, CR64.out.2, CR64.out.1⟩, ⟨HGg66.out, HLg66.out⟩⟩)
     ·skip
      refine box_step ?hg (N := 5) ?hd (cs := #[.slice none 0 0, .slice none 0 0]) (t := 25) ?hr ?_; (case hd => rfl); (case hg => rfl); (case hr => first | (go_simp; done) | (go_simp; rfl))
      intro g66 hg w1 hbox hb
      have HGg66 := Aside0.mk hbox; have HLg66 : Aside0 (W45.heap.size ≤ g66) := ⟨Nat.le_trans hHeld.size (Nat.le_of_eq hg.symm)⟩; have HM : Aside0 (g66 < w1.heap.size) := ⟨blk_lt hbox⟩; clear hbox
      have CR50 := Aside0.mk (And.intro (hf_F3 hg CR50.out.1 hb) CR50.out.2)
      have CR54 := Aside0.mk (And.intro (hf_F3 hg CR54.out.1 hb) CR54.out.2)
      clear hg
      have hHeld := hHeld.trans (hb.mono hHeld.size); clear hb
      refine hK.out _ _ hHeld (fun hHeld => ?_); clear hK K
      refine norm_ (a' := ?_) ?_ ?_; rotate_left
      ·show Act.put _ (some 5) _ = _
       simp only [Act.put, List.setIfInBounds_toArray, List.set_cons_zero, List.set_cons_succ, i64_w, i32_w]; rfl
      refine one_ (i := 2) (N := some 29) #[true, true, true, false, false, false, true, false, false] rfl rfl (one_of HT_.out (by kernel_rfl)) (by decide) (fun K hK => ?_)
      refine goes_ Try.func11 (by kernel_rfl) rfl #[.int .i64 51, .agg #[.slice A48 t46_1.length c49, .slice A52 t46_2.length c53], .agg #[.slice A12 t9_1.length c13, .slice A16 t9_2.length c17]] (by rfl) rfl rfl (by first | rfl | (simp only [List.map_toArray, List.map_cons, List.map_nil]; rfl)) ?_
      refine (pick_Dy.calls k 51 _ A48 c49 t46_1 _ A52 c53 t46_2 _ A12 c13 t9_1 _ A16 c17 t9_2 _ _ _ _ (Kd.V_mk CR50.out.2 CR50.out.1) (Kd.V_mk CR54.out.2 CR54.out.1) (Kd.V_mk CR14.out.2 (hf_F6 (Kd.C_F (Kd.heap_int .i64) CR14.out.1) hHeld)) (Kd.V_mk CR18.out.2 (hf_F6 (Kd.C_F k45_heap CR18.out.1) hHeld)) E57.out).mono ?_
      rintro e w1 ⟨v61, v65, rfl, hv61, hv65, hb⟩
      refine ⟨_, rfl, ?_⟩
      obtain ⟨A58, c59, hv_⟩ := Kd.R_slice hv61; subst hv_; have CR60 := Aside0.mk (And.intro (hf_F2 hv61 HM.out) (Kd.R_reads' hv61).2.1); clear hv61
      obtain ⟨A62, c63, hv_, hl_, hf_⟩ := (Kd.N_V (base' := 0) hv65); subst hv_; have CR64 := Aside0.mk (And.intro (Kd.F_mono (ok' := fun k_ => k_ ≠ g66) hf_ (fun k hk => by (try dsimp only at hk); have h1 := HLg66.out; have h2 := HM.out; omega)) hl_); clear hf_ hl_
      have CR50 := Aside0.mk (And.intro (hf_F4 CR50.out.1 hb) CR50.out.2)
      have CR54 := Aside0.mk (And.intro (hf_F4 CR54.out.1 hb) CR54.out.2)
      have HGg66 := Aside0.mk (blk_below HGg66.out hb); have HM := Aside0.mk (Nat.lt_of_lt_of_le HM.out (Below.size hb))
      have hHeld := hHeld.trans (hb.mono hHeld.size); clear hb
      refine hK.out _ _ hHeld (fun hHeld => ?_); clear hK K
      refine norm_ (a' := ?_) ?_ ?_; rotate_left
      ·show Act.put _ (some 29) _ = _
       simp only [Act.put, List.setIfInBounds_toArray, List.set_cons_zero, List.set_cons_succ, i64_w, i32_w]; rfl
      refine pure_ (i := 3) (N := some 26) (v := ?_) (a' := ?_) #[true, true, true, true, false, false, true, false, false] rfl rfl (any_of HT_.out (by kernel_rfl)) (fun _ _ _ h => h) (Or.inl ⟨by rfl, ?_⟩) ?_ ?_; rotate_left
      ·intro w'; go_simp; with_reducible rfl
      rotate_left
      ·simp only [Act.put, List.setIfInBounds_toArray, List.set_cons_zero, List.set_cons_succ, i64_w, i32_w]; rfl
      refine pure_ (i := 4) (N := some 30) (v := ?_) (a' := ?_) #[true, true, true, true, true, false, true, false, false] rfl rfl (any_of HT_.out (by kernel_rfl)) (fun _ _ _ h => h) (Or.inl ⟨by rfl, ?_⟩) ?_ ?_; rotate_left
      ·intro w'; go_simp; with_reducible rfl
      rotate_left
      ·simp only [Act.put, List.setIfInBounds_toArray, List.set_cons_zero, List.set_cons_succ, i64_w, i32_w]; rfl
      refine pure_ (i := 5) (N := some 31) (v := ?_) (a' := ?_) #[true, true, true, true, true, true, true, false, false] rfl rfl (any_of HT_.out (by kernel_rfl)) (fun _ _ _ h => h) (Or.inl ⟨by rfl, ?_⟩) ?_ ?_; rotate_left
      ·intro w'; go_simp; with_reducible rfl
      rotate_left
      ·simp only [Act.put, List.setIfInBounds_toArray, List.set_cons_zero, List.set_cons_succ, i64_w, i32_w]; rfl
      exact norm_ (by simp only [putAll, Act.put, List.setIfInBounds_toArray, List.set_cons_zero, List.set_cons_succ]) (hCont (.slice A48 t46_1.length c49, .slice A52 t46_2.length c53, .slice A58 t56_1.length c59, .slice A62 t56_2.length c63, g66) _ ⟨hHeld, ⟨_, _, rfl, CR50.out.2, CR50.out.1⟩, ⟨_, _, rfl, CR54.out.2, CR54.out.1⟩, ⟨_, _, rfl, CR60.out.2, CR60.out.1⟩, ⟨_, _, rfl, CR64.out.2, CR64.out.1⟩, ⟨HGg66.out, HLg66.out⟩⟩)
    ·skip
     refine box_step ?hg (N := 5) ?hd (cs := #[.slice none 0 0, .slice none 0 0]) (t := 25) ?hr ?_; (case hd => rfl); (case hg => rfl); (case hr => first | (go_simp; done) | (go_simp; rfl))
     intro g66 hg w1 hbox hb
     have HGg66 := Aside0.mk hbox; have HLg66 : Aside0 (W45.heap.size ≤ g66) := ⟨Nat.le_trans hHeld.size (Nat.le_of_eq hg.symm)⟩; have HM : Aside0 (g66 < w1.heap.size) := ⟨blk_lt hbox⟩; clear hbox
     clear hg
     have hHeld := hHeld.trans (hb.mono hHeld.size); clear hb
     refine hK.out _ _ hHeld (fun hHeld => ?_); clear hK K
     refine norm_ (a' := ?_) ?_ ?_; rotate_left
     ·show Act.put _ (some 5) _ = _
      simp only [Act.put, List.setIfInBounds_toArray, List.set_cons_zero, List.set_cons_succ, i64_w, i32_w]; rfl
     refine one_ (i := 0) (N := some 27) #[true, true, false, false, false, false, true, false, false] rfl rfl (one_of HT_.out (by kernel_rfl)) (by decide) (fun K hK => ?_)
     refine goes_ Try.func16 (by kernel_rfl) rfl #[.int .i64 1] (by rfl) rfl rfl (by first | rfl | (simp only [List.map_toArray, List.map_cons, List.map_nil]; rfl)) ?_
     refine (triglyphref03_Atom.calls 1 _ _ _ E47.out).mono ?_
     rintro e w1 ⟨v51, v55, rfl, hv51, hv55, hb⟩
     refine ⟨_, rfl, ?_⟩
     obtain ⟨A48, c49, hv_⟩ := Kd.R_slice hv51; subst hv_; have CR50 := Aside0.mk (And.intro (hf_F2 hv51 HM.out) (Kd.R_reads' hv51).2.1); clear hv51
     obtain ⟨A52, c53, hv_⟩ := Kd.R_slice hv55; subst hv_; have CR54 := Aside0.mk (And.intro (hf_F2 hv55 HM.out) (Kd.R_reads' hv55).2.1); clear hv55
     have HGg66 := Aside0.mk (blk_below HGg66.out hb); have HM := Aside0.mk (Nat.lt_of_lt_of_le HM.out (Below.size hb))
     have hHeld := hHeld.trans (hb.mono hHeld.size); clear hb
     refine hK.out _ _ hHeld (fun hHeld => ?_); clear hK K
     refine norm_ (a' := ?_) ?_ ?_; rotate_left
     ·show Act.put _ (some 27) _ = _
      simp only [Act.put, List.setIfInBounds_toArray, List.set_cons_zero, List.set_cons_succ, i64_w, i32_w]; rfl
     refine one_ (i := 2) (N := some 29) #[true, true, true, false, false, false, true, false, false] rfl rfl (one_of HT_.out (by kernel_rfl)) (by decide) (fun K hK => ?_)
     refine goes_ Try.func11 (by kernel_rfl) rfl #[.int .i64 51, .agg #[.slice A48 t46_1.length c49, .slice A52 t46_2.length c53], .agg #[.slice A12 t9_1.length c13, .slice A16 t9_2.length c17]] (by rfl) rfl rfl (by first | rfl | (simp only [List.map_toArray, List.map_cons, List.map_nil]; rfl)) ?_
     refine (pick_Dy.calls k 51 _ A48 c49 t46_1 _ A52 c53 t46_2 _ A12 c13 t9_1 _ A16 c17 t9_2 _ _ _ _ (Kd.V_mk CR50.out.2 CR50.out.1) (Kd.V_mk CR54.out.2 CR54.out.1) (Kd.V_mk CR14.out.2 (hf_F6 (Kd.C_F (Kd.heap_int .i64) CR14.out.1) hHeld)) (Kd.V_mk CR18.out.2 (hf_F6 (Kd.C_F k45_heap CR18.out.1) hHeld)) E57.out).mono ?_
     rintro e w1 ⟨v61, v65, rfl, hv61, hv65, hb⟩
     refine ⟨_, rfl, ?_⟩
     obtain ⟨A58, c59, hv_⟩ := Kd.R_slice hv61; subst hv_; have CR60 := Aside0.mk (And.intro (hf_F2 hv61 HM.out) (Kd.R_reads' hv61).2.1); clear hv61
     obtain ⟨A62, c63, hv_, hl_, hf_⟩ := (Kd.N_V (base' := 0) hv65); subst hv_; have CR64 := Aside0.mk (And.intro (Kd.F_mono (ok' := fun k_ => k_ ≠ g66) hf_ (fun k hk => by (try dsimp only at hk); have h1 := HLg66.out; have h2 := HM.out; omega)) hl_); clear hf_ hl_
     have HGg66 := Aside0.mk (blk_below HGg66.out hb); have HM := Aside0.mk (Nat.lt_of_lt_of_le HM.out (Below.size hb))
     have CR50 := Aside0.mk (And.intro (hf_F4 CR50.out.1 hb) CR50.out.2)
     have CR54 := Aside0.mk (And.intro (hf_F4 CR54.out.1 hb) CR54.out.2)
     have hHeld := hHeld.trans (hb.mono hHeld.size); clear hb
     refine hK.out _ _ hHeld (fun hHeld => ?_); clear hK K
     refine norm_ (a' := ?_) ?_ ?_; rotate_left
     ·show Act.put _ (some 29) _ = _
      simp only [Act.put, List.setIfInBounds_toArray, List.set_cons_zero, List.set_cons_succ, i64_w, i32_w]; rfl
     refine pure_ (i := 3) (N := some 26) (v := ?_) (a' := ?_) #[true, true, true, true, false, false, true, false, false] rfl rfl (any_of HT_.out (by kernel_rfl)) (fun _ _ _ h => h) (Or.inl ⟨by rfl, ?_⟩) ?_ ?_; rotate_left
     ·intro w'; go_simp; with_reducible rfl
     rotate_left
     ·simp only [Act.put, List.setIfInBounds_toArray, List.set_cons_zero, List.set_cons_succ, i64_w, i32_w]; rfl
     refine pure_ (i := 4) (N := some 30) (v := ?_) (a' := ?_) #[true, true, true, true, true, false, true, false, false] rfl rfl (any_of HT_.out (by kernel_rfl)) (fun _ _ _ h => h) (Or.inl ⟨by rfl, ?_⟩) ?_ ?_; rotate_left
     ·intro w'; go_simp; with_reducible rfl
     rotate_left
     ·simp only [Act.put, List.setIfInBounds_toArray, List.set_cons_zero, List.set_cons_succ, i64_w, i32_w]; rfl
     refine pure_ (i := 5) (N := some 31) (v := ?_) (a' := ?_) #[true, true, true, true, true, true, true, false, false] rfl rfl (any_of HT_.out (by kernel_rfl)) (fun _ _ _ h => h) (Or.inl ⟨by rfl, ?_⟩) ?_ ?_; rotate_left
     ·intro w'; go_simp; with_reducible rfl
     rotate_left
     ·simp only [Act.put, List.setIfInBounds_toArray, List.set_cons_zero, List.set_cons_succ, i64_w, i32_w]; rfl
     exact norm_ (by simp only [putAll, Act.put, List.setIfInBounds_toArray, List.set_cons_zero, List.set_cons_succ]) (hCont (.slice A48 t46_1.length c49, .slice A52 t46_2.length c53, .slice A58 t56_1.length c59, .slice A62 t56_2.length c63, g66) _ ⟨hHeld, ⟨_, _, rfl, CR50.out.2, CR50.out.1⟩, ⟨_, _, rfl, CR54.out.2, CR54.out.1⟩, ⟨_, _, rfl, CR60.out.2, CR60.out.1⟩, ⟨_, _, rfl, CR64.out.2, CR64.out.1⟩, ⟨HGg66.out, HLg66.out⟩⟩)
   rintro ⟨v51, v55, v61, v65, g66⟩ w67 ⟨hHeld, hF0_, hF1_, hF2_, hF3_, hF4_⟩
   dsimp only at hF0_ hF1_ hF2_ hF3_ hF4_
   obtain ⟨A48, c49, hv_, hl_, hf_⟩ := hF0_; have CR50 := Aside0.mk (And.intro hf_ hl_); clear hf_ hl_; subst hv_
   obtain ⟨A52, c53, hv_, hl_, hf_⟩ := hF1_; have CR54 := Aside0.mk (And.intro hf_ hl_); clear hf_ hl_; subst hv_
   obtain ⟨A58, c59, hv_, hl_, hf_⟩ := hF2_; have CR60 := Aside0.mk (And.intro hf_ hl_); clear hf_ hl_; subst hv_
   obtain ⟨A62, c63, hv_, hl_, hf_⟩ := hF3_; have CR64 := Aside0.mk (And.intro hf_ hl_); clear hf_ hl_; subst hv_
   have HG := Aside0.mk hF4_; clear hF4_
   refine norm_ (a' := ?_) ?_ ?_; rotate_left
   ·simp only [putAll, Act.put, List.setIfInBounds_toArray, List.set_cons_zero, List.set_cons_succ]; rfl
   refine one_ (i := 7) (N := none) #[true, true, true, true, true, true, true, true, false] rfl rfl (one_of HT_.out (by kernel_rfl)) (by decide) (fun K hK => ?_)
   have y0 : w67.cell? ⟨g66, 0, none⟩ = some (.slice none 0 0) := (blk_cell HG.out.1 0).trans rfl; have u0 := blk_frozen HG.out.1 0; have y1 : w67.cell? ⟨g66, 1, none⟩ = some (.slice none 0 0) := (blk_cell HG.out.1 1).trans rfl; have u1 := blk_frozen HG.out.1 1
   refine skip_ (w1 := ?_) (by rfl) rfl ?_ ?_; rotate_left
   ·go_simp; rfl
   have HB2 := Aside0.mk (hf_st2 hHeld HG.out.2 (.slice A58 t56_1.length c59) (.slice A62 t56_2.length c63))
   have CR50 := Aside0.mk (And.intro (hf_F5a CR50.out.1 (.slice A58 t56_1.length c59) (.slice A62 t56_2.length c63)) CR50.out.2)
   have CR54 := Aside0.mk (And.intro (hf_F5a CR54.out.1 (.slice A58 t56_1.length c59) (.slice A62 t56_2.length c63)) CR54.out.2)
   have CR60 := Aside0.mk (And.intro (hf_F5a CR60.out.1 (.slice A58 t56_1.length c59) (.slice A62 t56_2.length c63)) CR60.out.2)
   have CR64 := Aside0.mk (And.intro (hf_F5a CR64.out.1 (.slice A58 t56_1.length c59) (.slice A62 t56_2.length c63)) CR64.out.2)
   have HG := Aside0.mk (And.intro (hf_z2 HG.out.1 (.slice A58 t56_1.length c59) (.slice A62 t56_2.length c63)) HG.out.2)
   refine hK.out _ _ HB2.out (fun hHeld => ?_); clear hK K HB2 y0 u0 y1 u1
   generalize (w67.setCell _ _).setCell _ _ = w68 at hHeld HG CR50 CR54 CR60 CR64 ⊢
   refine pure_ (i := 8) (N := some 6) (v := ?_) (a' := ?_) #[true, true, true, true, true, true, true, true, true] rfl rfl (any_of HT_.out (by kernel_rfl)) (fun _ _ _ h => h) (Or.inl ⟨by rfl, ?_⟩) ?_ ?_; rotate_left
   ·intro w'; go_simp; with_reducible rfl
   rotate_left
   ·simp only [Act.put, List.setIfInBounds_toArray, List.set_cons_zero, List.set_cons_succ, i64_w, i32_w]; rfl
   refine done_ (done_of HT_.out (by kernel_rfl)) ?_
   have CR50 := Aside0.mk (And.intro (Kd.F_now CR50.out.1) CR50.out.2)
   have CR54 := Aside0.mk (And.intro (Kd.F_now CR54.out.1) CR54.out.2)
   have CR60 := Aside0.mk (And.intro (Kd.F_now CR60.out.1) CR60.out.2)
   have CR64 := Aside0.mk (And.intro (Kd.F_now CR64.out.1) CR64.out.2)
   have CR14 := Aside0.mk (And.intro (Kd.C_below CR14.out.1 hHeld) CR14.out.2)
   have CR18 := Aside0.mk (And.intro (Kd.C_below CR18.out.1 hHeld) CR18.out.2)
   have CR26 := Aside0.mk (And.intro (Kd.C_below CR26.out.1 hHeld) CR26.out.2)
   have CR30 := Aside0.mk (And.intro (Kd.C_below CR30.out.1 hHeld) CR30.out.2)
   have CR36 := Aside0.mk (And.intro (Kd.C_below CR36.out.1 hHeld) CR36.out.2)
   have CR40 := Aside0.mk (And.intro (Kd.C_below CR40.out.1 hHeld) CR40.out.2)
   have HS := Aside0.mk (BxS.add HS.out hHeld HG.out.1 HG.out.2)
   clear hHeld HG
   have z0_0 : w68.cell? ⟨w.heap.size, 0, none⟩ = some (.slice A12 t9_1.length c13) := (blk_cell (HS.out.at_ 2 rfl) 0).trans rfl; have z0_1 : w68.cell? ⟨w.heap.size, 1, none⟩ = some (.slice A16 t9_2.length c17) := (blk_cell (HS.out.at_ 2 rfl) 1).trans rfl; have f0_0 := blk_frozen (HS.out.at_ 2 rfl) 0; have f0_1 := blk_frozen (HS.out.at_ 2 rfl) 1; have z1_0 : w68.cell? ⟨g42, 0, none⟩ = some (.slice A34 t32_1.length c35) := (blk_cell (HS.out.at_ 1 rfl) 0).trans rfl; have z1_1 : w68.cell? ⟨g42, 1, none⟩ = some (.slice A38 t32_2.length c39) := (blk_cell (HS.out.at_ 1 rfl) 1).trans rfl; have z2_0 : w68.cell? ⟨g66, 0, none⟩ = some (.slice A58 t56_1.length c59) := (blk_cell (HS.out.at_ 0 rfl) 0).trans rfl; have z2_1 : w68.cell? ⟨g66, 1, none⟩ = some (.slice A62 t56_2.length c63) := (blk_cell (HS.out.at_ 0 rfl) 1).trans rfl
   obtain ⟨⟨t70_1, t70_2⟩, q_, h⟩ := Option.bind_eq_some_iff.1 h; have E71 := Aside0.mk q_; clear q_; dsimp only at h
   obtain ⟨⟨t80_1, t80_2, t80_3⟩, q_, h⟩ := Option.bind_eq_some_iff.1 h; have E81 := Aside0.mk q_; clear q_; dsimp only at h
   go_upto_region 6 with (fail)
   refine start_ (n := 9) (S := fun W' => Below w68.drew.heap.size w68.drew W') (ds := []) #[false, false, false, false, false, false, false, false, false] (by kernel_rfl) rfl rfl (Below.refl _ _) (fun hHeld => ?_)
   refine with_tabW triglyphlaw06_PickKeeps.tab6 triglyphlaw06_PickKeeps.bits6 (fun HT_ HW_ => ?_)
   (try clear z0_0 z0_1 z1_0 z1_1 z2_0 z2_1 f0_0 f0_1); have HS := Aside0.mk (HS.out.step (below_drew (Below.refl _ _)))
   have CR14 := Aside0.mk (And.intro (Kd.C_below CR14.out.1 (below_drew (Below.refl _ _))) CR14.out.2)
   have CR18 := Aside0.mk (And.intro (Kd.C_below CR18.out.1 (below_drew (Below.refl _ _))) CR18.out.2)
   have CR26 := Aside0.mk (And.intro (Kd.C_below CR26.out.1 (below_drew (Below.refl _ _))) CR26.out.2)
   have CR30 := Aside0.mk (And.intro (Kd.C_below CR30.out.1 (below_drew (Below.refl _ _))) CR30.out.2)
   have CR36 := Aside0.mk (And.intro (Kd.C_below CR36.out.1 (below_drew (Below.refl _ _))) CR36.out.2)
   have CR40 := Aside0.mk (And.intro (Kd.C_below CR40.out.1 (below_drew (Below.refl _ _))) CR40.out.2)
   have CR50 := Aside0.mk (And.intro (Kd.C_below CR50.out.1 (below_drew (Below.refl _ _))) CR50.out.2)
   have CR54 := Aside0.mk (And.intro (Kd.C_below CR54.out.1 (below_drew (Below.refl _ _))) CR54.out.2)
   have CR60 := Aside0.mk (And.intro (Kd.C_below CR60.out.1 (below_drew (Below.refl _ _))) CR60.out.2)
   have CR64 := Aside0.mk (And.intro (Kd.C_below CR64.out.1 (below_drew (Below.refl _ _))) CR64.out.2)
   generalize w68.drew = W69 at HS CR14 CR18 CR26 CR30 CR36 CR40 CR50 CR54 CR60 CR64 hHeld ⊢
   refine take_ (i := 1) (N := some 34) (v := ?_) (a' := ?_) #[false, true, false, false, false, false, false, false, false] rfl rfl (take_ofW HT_.out HW_.out (by kernel_rfl)) (fun _ _ _ h => h) (Or.inl ⟨by rfl, ?_⟩) hHeld ?_ ?_; rotate_left
   ·intro w' s0; have y0 : w'.cell? ⟨w.heap.size, 0, none⟩ = some (.slice A12 t9_1.length c13) := (blk_cell ((HS.out.step s0).at_ 2 rfl) 0).trans rfl; have y1 : w'.cell? ⟨w.heap.size, 1, none⟩ = some (.slice A16 t9_2.length c17) := (blk_cell ((HS.out.step s0).at_ 2 rfl) 1).trans rfl; go_simp; with_reducible rfl
   rotate_left
   ·simp only [Act.put, List.setIfInBounds_toArray, List.set_cons_zero, List.set_cons_succ, i64_w, i32_w]; rfl
   refine join_ (σ := Value × Value × Value × Value × Nat) 2 #[true, true, true, true, true, true, true, false, false] (fun s_ => [(33, .agg #[s_.1, s_.2.1]), (35, .tuple #[.agg #[s_.2.2.1, s_.2.2.2.1], .int .i64 t80_3]), (7, .pointer (some ⟨s_.2.2.2.2, 0, none⟩)), (32, .tuple #[.agg #[s_.2.2.1, s_.2.2.2.1], .int .i64 t80_3]), (36, .agg #[s_.2.2.1, s_.2.2.2.1]), (37, .int .i64 t80_3)]) (fun s_ w' => Below W69.heap.size W69 w' ∧ (∃ A_ c_, s_.1 = .slice A_ (t70_1).length c_ ∧ (t70_1).length ≤ c_ ∧ Kd.F (Kd.int .i64) w' (fun k_ => k_ ≠ s_.2.2.2.2) A_ (t70_1).length t70_1) ∧ (∃ A_ c_, s_.2.1 = .slice A_ (t70_2).length c_ ∧ (t70_2).length ≤ c_ ∧ Kd.F k45 w' (fun k_ => k_ ≠ s_.2.2.2.2) A_ (t70_2).length t70_2) ∧ (∃ A_ c_, s_.2.2.1 = .slice A_ (t80_1).length c_ ∧ (t80_1).length ≤ c_ ∧ Kd.F (Kd.int .i64) w' (fun k_ => k_ ≠ s_.2.2.2.2) A_ (t80_1).length t80_1) ∧ (∃ A_ c_, s_.2.2.2.1 = .slice A_ (t80_2).length c_ ∧ (t80_2).length ≤ c_ ∧ Kd.F k45 w' (fun k_ => k_ ≠ s_.2.2.2.2) A_ (t80_2).length t80_2) ∧ (w'.heap[s_.2.2.2.2]? = some (.cells #[.slice none 0 0, .slice none 0 0] 25 (0, 0)) ∧ W69.heap.size ≤ s_.2.2.2.2)) ?_ ?_; rotate_left
   ·intro hCont
    refine two_ (i := 0) (j := 6) (Ni := some 33) (Nj := some 7) #[true, true, false, false, false, false, false, false, false] #[false, true, false, false, false, false, true, false, false] rfl rfl rfl rfl (two_of HT_.out (by kernel_rfl)) (by decide) (by decide) (fun K hK => ?_) (fun K hK => ?_)
    ·skip
     refine goes_ Try.func16 (by kernel_rfl) rfl #[.int .i64 0] (by rfl) rfl rfl (by first | rfl | (simp only [List.map_toArray, List.map_cons, List.map_nil]; rfl)) ?_
     refine (triglyphref03_Atom.calls 0 _ _ _ E71.out).mono ?_
     rintro e w1 ⟨v75, v79, rfl, hv75, hv79, hb⟩
     refine ⟨_, rfl, ?_⟩
     obtain ⟨A72, c73, hv_⟩ := Kd.R_slice hv75; subst hv_; have CR74 := Aside0.mk (And.intro (hf_F1 hv75) (Kd.R_reads' hv75).2.1); clear hv75
     obtain ⟨A76, c77, hv_⟩ := Kd.R_slice hv79; subst hv_; have CR78 := Aside0.mk (And.intro (hf_F1 hv79) (Kd.R_reads' hv79).2.1); clear hv79
     have hHeld := hHeld.trans (hb.mono hHeld.size); clear hb
     refine hK.out _ _ hHeld (fun hHeld => ?_); clear hK K
     refine norm_ (a' := ?_) ?_ ?_; rotate_left
     ·show Act.put _ (some 33) _ = _
      simp only [Act.put, List.setIfInBounds_toArray, List.set_cons_zero, List.set_cons_succ, i64_w, i32_w]; rfl
     refine two_ (i := 2) (j := 6) (Ni := some 35) (Nj := some 7) #[true, true, true, false, false, false, false, false, false] #[true, true, false, false, false, false, true, false, false] rfl rfl rfl rfl (two_of HT_.out (by kernel_rfl)) (by decide) (by decide) (fun K hK => ?_) (fun K hK => ?_)
     ·skip
      refine goes_ Try.func11 (by kernel_rfl) rfl #[.int .i64 50, .agg #[.slice A72 t70_1.length c73, .slice A76 t70_2.length c77], .agg #[.slice A12 t9_1.length c13, .slice A16 t9_2.length c17]] (by rfl) rfl rfl (by first | rfl | (simp only [List.map_toArray, List.map_cons, List.map_nil]; rfl)) ?_
      refine (pick_Dy.calls k 50 _ A72 c73 t70_1 _ A76 c77 t70_2 _ A12 c13 t9_1 _ A16 c17 t9_2 _ _ _ _ (Kd.V_mk CR74.out.2 CR74.out.1) (Kd.V_mk CR78.out.2 CR78.out.1) (Kd.V_mk CR14.out.2 (hf_F6 (Kd.C_F (Kd.heap_int .i64) CR14.out.1) hHeld)) (Kd.V_mk CR18.out.2 (hf_F6 (Kd.C_F k45_heap CR18.out.1) hHeld)) E81.out).mono ?_
      rintro e w1 ⟨v85, v89, rfl, hv85, hv89, hb⟩
      refine ⟨_, rfl, ?_⟩
      obtain ⟨A82, c83, hv_⟩ := Kd.R_slice hv85; subst hv_; have CR84 := Aside0.mk (And.intro (hf_F1 hv85) (Kd.R_reads' hv85).2.1); clear hv85
      obtain ⟨A86, c87, hv_, hl_, hf_⟩ := (Kd.N_V (base' := 0) hv89); subst hv_; have CR88 := Aside0.mk (And.intro (Kd.F_mono (ok' := fun _ => True) hf_ (fun _ _ => trivial)) hl_); clear hf_ hl_
      have CR74 := Aside0.mk (And.intro (hf_F4 CR74.out.1 hb) CR74.out.2)
      have CR78 := Aside0.mk (And.intro (hf_F4 CR78.out.1 hb) CR78.out.2)
      have hHeld := hHeld.trans (hb.mono hHeld.size); clear hb
      refine hK.out _ _ hHeld (fun hHeld => ?_); clear hK K
      refine norm_ (a' := ?_) ?_ ?_; rotate_left
      ·show Act.put _ (some 35) _ = _
       simp only [Act.put, List.setIfInBounds_toArray, List.set_cons_zero, List.set_cons_succ, i64_w, i32_w]; rfl
      refine pure_ (i := 3) (N := some 32) (v := ?_) (a' := ?_) #[true, true, true, true, false, false, false, false, false] rfl rfl (any_of HT_.out (by kernel_rfl)) (fun _ _ _ h => h) (Or.inl ⟨by rfl, ?_⟩) ?_ ?_; rotate_left
      ·intro w'; go_simp; with_reducible rfl
      rotate_left
      ·simp only [Act.put, List.setIfInBounds_toArray, List.set_cons_zero, List.set_cons_succ, i64_w, i32_w]; rfl
      refine pure_ (i := 4) (N := some 36) (v := ?_) (a' := ?_) #[true, true, true, true, true, false, false, false, false] rfl rfl (any_of HT_.out (by kernel_rfl)) (fun _ _ _ h => h) (Or.inl ⟨by rfl, ?_⟩) ?_ ?_; rotate_left
      ·intro w'; go_simp; with_reducible rfl
      rotate_left
      ·simp only [Act.put, List.setIfInBounds_toArray, List.set_cons_zero, List.set_cons_succ, i64_w, i32_w]; rfl
      refine pure_ (i := 5) (N := some 37) (v := ?_) (a' := ?_) #[true, true, true, true, true, true, false, false, false] rfl rfl (any_of HT_.out (by kernel_rfl)) (fun _ _ _ h => h) (Or.inl ⟨by rfl, ?_⟩) ?_ ?_; rotate_left
      ·intro w'; go_simp; with_reducible rfl
      rotate_left
      ·simp only [Act.put, List.setIfInBounds_toArray, List.set_cons_zero, List.set_cons_succ, i64_w, i32_w]; rfl
      refine one_ (i := 6) (N := some 7) #[true, true, true, true, true, true, true, false, false] rfl rfl (one_of HT_.out (by kernel_rfl)) (by decide) (fun K hK => ?_)
      refine box_step ?hg (N := 7) ?hd (cs := #[.slice none 0 0, .slice none 0 0]) (t := 25) ?hr ?_; (case hd => rfl); (case hg => rfl); (case hr => first | (go_simp; done) | (go_simp; rfl))
      intro g90 hg w1 hbox hb
      have HGg90 := Aside0.mk hbox; have HLg90 : Aside0 (W69.heap.size ≤ g90) := ⟨Nat.le_trans hHeld.size (Nat.le_of_eq hg.symm)⟩; have HM : Aside0 (g90 < w1.heap.size) := ⟨blk_lt hbox⟩; clear hbox
      have CR74 := Aside0.mk (And.intro (hf_F3 hg CR74.out.1 hb) CR74.out.2)
      have CR78 := Aside0.mk (And.intro (hf_F3 hg CR78.out.1 hb) CR78.out.2)
      have CR84 := Aside0.mk (And.intro (hf_F3 hg CR84.out.1 hb) CR84.out.2)
      have CR88 := Aside0.mk (And.intro (hf_F3 hg CR88.out.1 hb) CR88.out.2)
      clear hg
      have hHeld := hHeld.trans (hb.mono hHeld.size); clear hb
      refine hK.out _ _ hHeld (fun hHeld => ?_); clear hK K
      refine norm_ (a' := ?_) ?_ ?_; rotate_left
      ·show Act.put _ (some 7) _ = _
       simp only [Act.put, List.setIfInBounds_toArray, List.set_cons_zero, List.set_cons_succ, i64_w, i32_w]; rfl
      exact norm_ (by simp only [putAll, Act.put, List.setIfInBounds_toArray, List.set_cons_zero, List.set_cons_succ]) (hCont (.slice A72 t70_1.length c73, .slice A76 t70_2.length c77, .slice A82 t80_1.length c83, .slice A86 t80_2.length c87, g90) _ ⟨hHeld, ⟨_, _, rfl, CR74.out.2, CR74.out.1⟩, ⟨_, _, rfl, CR78.out.2, CR78.out.1⟩, ⟨_, _, rfl, CR84.out.2, CR84.out.1⟩, ⟨_, _, rfl, CR88.out.2, CR88.out.1⟩, ⟨HGg90.out, HLg90.out⟩⟩)
     ·skip
      refine box_step ?hg (N := 7) ?hd (cs := #[.slice none 0 0, .slice none 0 0]) (t := 25) ?hr ?_; (case hd => rfl); (case hg => rfl); (case hr => first | (go_simp; done) | (go_simp; rfl))
      intro g90 hg w1 hbox hb
      have HGg90 := Aside0.mk hbox; have HLg90 : Aside0 (W69.heap.size ≤ g90) := ⟨Nat.le_trans hHeld.size (Nat.le_of_eq hg.symm)⟩; have HM : Aside0 (g90 < w1.heap.size) := ⟨blk_lt hbox⟩; clear hbox
      have CR74 := Aside0.mk (And.intro (hf_F3 hg CR74.out.1 hb) CR74.out.2)
      have CR78 := Aside0.mk (And.intro (hf_F3 hg CR78.out.1 hb) CR78.out.2)
      clear hg
      have hHeld := hHeld.trans (hb.mono hHeld.size); clear hb
      refine hK.out _ _ hHeld (fun hHeld => ?_); clear hK K
      refine norm_ (a' := ?_) ?_ ?_; rotate_left
      ·show Act.put _ (some 7) _ = _
       simp only [Act.put, List.setIfInBounds_toArray, List.set_cons_zero, List.set_cons_succ, i64_w, i32_w]; rfl
      refine one_ (i := 2) (N := some 35) #[true, true, true, false, false, false, true, false, false] rfl rfl (one_of HT_.out (by kernel_rfl)) (by decide) (fun K hK => ?_)
      refine goes_ Try.func11 (by kernel_rfl) rfl #[.int .i64 50, .agg #[.slice A72 t70_1.length c73, .slice A76 t70_2.length c77], .agg #[.slice A12 t9_1.length c13, .slice A16 t9_2.length c17]] (by rfl) rfl rfl (by first | rfl | (simp only [List.map_toArray, List.map_cons, List.map_nil]; rfl)) ?_
      refine (pick_Dy.calls k 50 _ A72 c73 t70_1 _ A76 c77 t70_2 _ A12 c13 t9_1 _ A16 c17 t9_2 _ _ _ _ (Kd.V_mk CR74.out.2 CR74.out.1) (Kd.V_mk CR78.out.2 CR78.out.1) (Kd.V_mk CR14.out.2 (hf_F6 (Kd.C_F (Kd.heap_int .i64) CR14.out.1) hHeld)) (Kd.V_mk CR18.out.2 (hf_F6 (Kd.C_F k45_heap CR18.out.1) hHeld)) E81.out).mono ?_
      rintro e w1 ⟨v85, v89, rfl, hv85, hv89, hb⟩
      refine ⟨_, rfl, ?_⟩
      obtain ⟨A82, c83, hv_⟩ := Kd.R_slice hv85; subst hv_; have CR84 := Aside0.mk (And.intro (hf_F2 hv85 HM.out) (Kd.R_reads' hv85).2.1); clear hv85
      obtain ⟨A86, c87, hv_, hl_, hf_⟩ := (Kd.N_V (base' := 0) hv89); subst hv_; have CR88 := Aside0.mk (And.intro (Kd.F_mono (ok' := fun k_ => k_ ≠ g90) hf_ (fun k hk => by (try dsimp only at hk); have h1 := HLg90.out; have h2 := HM.out; omega)) hl_); clear hf_ hl_
      have CR74 := Aside0.mk (And.intro (hf_F4 CR74.out.1 hb) CR74.out.2)
      have CR78 := Aside0.mk (And.intro (hf_F4 CR78.out.1 hb) CR78.out.2)
      have HGg90 := Aside0.mk (blk_below HGg90.out hb); have HM := Aside0.mk (Nat.lt_of_lt_of_le HM.out (Below.size hb))
      have hHeld := hHeld.trans (hb.mono hHeld.size); clear hb
      refine hK.out _ _ hHeld (fun hHeld => ?_); clear hK K
      refine norm_ (a' := ?_) ?_ ?_; rotate_left
      ·show Act.put _ (some 35) _ = _
       simp only [Act.put, List.setIfInBounds_toArray, List.set_cons_zero, List.set_cons_succ, i64_w, i32_w]; rfl
      refine pure_ (i := 3) (N := some 32) (v := ?_) (a' := ?_) #[true, true, true, true, false, false, true, false, false] rfl rfl (any_of HT_.out (by kernel_rfl)) (fun _ _ _ h => h) (Or.inl ⟨by rfl, ?_⟩) ?_ ?_; rotate_left
      ·intro w'; go_simp; with_reducible rfl
      rotate_left
      ·simp only [Act.put, List.setIfInBounds_toArray, List.set_cons_zero, List.set_cons_succ, i64_w, i32_w]; rfl
      refine pure_ (i := 4) (N := some 36) (v := ?_) (a' := ?_) #[true, true, true, true, true, false, true, false, false] rfl rfl (any_of HT_.out (by kernel_rfl)) (fun _ _ _ h => h) (Or.inl ⟨by rfl, ?_⟩) ?_ ?_; rotate_left
      ·intro w'; go_simp; with_reducible rfl
      rotate_left
      ·simp only [Act.put, List.setIfInBounds_toArray, List.set_cons_zero, List.set_cons_succ, i64_w, i32_w]; rfl
      refine pure_ (i := 5) (N := some 37) (v := ?_) (a' := ?_) #[true, true, true, true, true, true, true, false, false] rfl rfl (any_of HT_.out (by kernel_rfl)) (fun _ _ _ h => h) (Or.inl ⟨by rfl, ?_⟩) ?_ ?_; rotate_left
      ·intro w'; go_simp; with_reducible rfl
      rotate_left
      ·simp only [Act.put, List.setIfInBounds_toArray, List.set_cons_zero, List.set_cons_succ, i64_w, i32_w]; rfl
      exact norm_ (by simp only [putAll, Act.put, List.setIfInBounds_toArray, List.set_cons_zero, List.set_cons_succ]) (hCont (.slice A72 t70_1.length c73, .slice A76 t70_2.length c77, .slice A82 t80_1.length c83, .slice A86 t80_2.length c87, g90) _ ⟨hHeld, ⟨_, _, rfl, CR74.out.2, CR74.out.1⟩, ⟨_, _, rfl, CR78.out.2, CR78.out.1⟩, ⟨_, _, rfl, CR84.out.2, CR84.out.1⟩, ⟨_, _, rfl, CR88.out.2, CR88.out.1⟩, ⟨HGg90.out, HLg90.out⟩⟩)
    ·skip
     refine box_step ?hg (N := 7) ?hd (cs := #[.slice none 0 0, .slice none 0 0]) (t := 25) ?hr ?_; (case hd => rfl); (case hg => rfl); (case hr => first | (go_simp; done) | (go_simp; rfl))
     intro g90 hg w1 hbox hb
     have HGg90 := Aside0.mk hbox; have HLg90 : Aside0 (W69.heap.size ≤ g90) := ⟨Nat.le_trans hHeld.size (Nat.le_of_eq hg.symm)⟩; have HM : Aside0 (g90 < w1.heap.size) := ⟨blk_lt hbox⟩; clear hbox
     clear hg
     have hHeld := hHeld.trans (hb.mono hHeld.size); clear hb
     refine hK.out _ _ hHeld (fun hHeld => ?_); clear hK K
     refine norm_ (a' := ?_) ?_ ?_; rotate_left
     ·show Act.put _ (some 7) _ = _
      simp only [Act.put, List.setIfInBounds_toArray, List.set_cons_zero, List.set_cons_succ, i64_w, i32_w]; rfl
     refine one_ (i := 0) (N := some 33) #[true, true, false, false, false, false, true, false, false] rfl rfl (one_of HT_.out (by kernel_rfl)) (by decide) (fun K hK => ?_)
     refine goes_ Try.func16 (by kernel_rfl) rfl #[.int .i64 0] (by rfl) rfl rfl (by first | rfl | (simp only [List.map_toArray, List.map_cons, List.map_nil]; rfl)) ?_
     refine (triglyphref03_Atom.calls 0 _ _ _ E71.out).mono ?_
     rintro e w1 ⟨v75, v79, rfl, hv75, hv79, hb⟩
     refine ⟨_, rfl, ?_⟩
     obtain ⟨A72, c73, hv_⟩ := Kd.R_slice hv75; subst hv_; have CR74 := Aside0.mk (And.intro (hf_F2 hv75 HM.out) (Kd.R_reads' hv75).2.1); clear hv75
     obtain ⟨A76, c77, hv_⟩ := Kd.R_slice hv79; subst hv_; have CR78 := Aside0.mk (And.intro (hf_F2 hv79 HM.out) (Kd.R_reads' hv79).2.1); clear hv79
     have HGg90 := Aside0.mk (blk_below HGg90.out hb); have HM := Aside0.mk (Nat.lt_of_lt_of_le HM.out (Below.size hb))
     have hHeld := hHeld.trans (hb.mono hHeld.size); clear hb
     refine hK.out _ _ hHeld (fun hHeld => ?_); clear hK K
     refine norm_ (a' := ?_) ?_ ?_; rotate_left
     ·show Act.put _ (some 33) _ = _
      simp only [Act.put, List.setIfInBounds_toArray, List.set_cons_zero, List.set_cons_succ, i64_w, i32_w]; rfl
     refine one_ (i := 2) (N := some 35) #[true, true, true, false, false, false, true, false, false] rfl rfl (one_of HT_.out (by kernel_rfl)) (by decide) (fun K hK => ?_)
     refine goes_ Try.func11 (by kernel_rfl) rfl #[.int .i64 50, .agg #[.slice A72 t70_1.length c73, .slice A76 t70_2.length c77], .agg #[.slice A12 t9_1.length c13, .slice A16 t9_2.length c17]] (by rfl) rfl rfl (by first | rfl | (simp only [List.map_toArray, List.map_cons, List.map_nil]; rfl)) ?_
     refine (pick_Dy.calls k 50 _ A72 c73 t70_1 _ A76 c77 t70_2 _ A12 c13 t9_1 _ A16 c17 t9_2 _ _ _ _ (Kd.V_mk CR74.out.2 CR74.out.1) (Kd.V_mk CR78.out.2 CR78.out.1) (Kd.V_mk CR14.out.2 (hf_F6 (Kd.C_F (Kd.heap_int .i64) CR14.out.1) hHeld)) (Kd.V_mk CR18.out.2 (hf_F6 (Kd.C_F k45_heap CR18.out.1) hHeld)) E81.out).mono ?_
     rintro e w1 ⟨v85, v89, rfl, hv85, hv89, hb⟩
     refine ⟨_, rfl, ?_⟩
     obtain ⟨A82, c83, hv_⟩ := Kd.R_slice hv85; subst hv_; have CR84 := Aside0.mk (And.intro (hf_F2 hv85 HM.out) (Kd.R_reads' hv85).2.1); clear hv85
     obtain ⟨A86, c87, hv_, hl_, hf_⟩ := (Kd.N_V (base' := 0) hv89); subst hv_; have CR88 := Aside0.mk (And.intro (Kd.F_mono (ok' := fun k_ => k_ ≠ g90) hf_ (fun k hk => by (try dsimp only at hk); have h1 := HLg90.out; have h2 := HM.out; omega)) hl_); clear hf_ hl_
     have HGg90 := Aside0.mk (blk_below HGg90.out hb); have HM := Aside0.mk (Nat.lt_of_lt_of_le HM.out (Below.size hb))
     have CR74 := Aside0.mk (And.intro (hf_F4 CR74.out.1 hb) CR74.out.2)
     have CR78 := Aside0.mk (And.intro (hf_F4 CR78.out.1 hb) CR78.out.2)
     have hHeld := hHeld.trans (hb.mono hHeld.size); clear hb
     refine hK.out _ _ hHeld (fun hHeld => ?_); clear hK K
     refine norm_ (a' := ?_) ?_ ?_; rotate_left
     ·show Act.put _ (some 35) _ = _
      simp only [Act.put, List.setIfInBounds_toArray, List.set_cons_zero, List.set_cons_succ, i64_w, i32_w]; rfl
     refine pure_ (i := 3) (N := some 32) (v := ?_) (a' := ?_) #[true, true, true, true, false, false, true, false, false] rfl rfl (any_of HT_.out (by kernel_rfl)) (fun _ _ _ h => h) (Or.inl ⟨by rfl, ?_⟩) ?_ ?_; rotate_left
     ·intro w'; go_simp; with_reducible rfl
     rotate_left
     ·simp only [Act.put, List.setIfInBounds_toArray, List.set_cons_zero, List.set_cons_succ, i64_w, i32_w]; rfl
     refine pure_ (i := 4) (N := some 36) (v := ?_) (a' := ?_) #[true, true, true, true, true, false, true, false, false] rfl rfl (any_of HT_.out (by kernel_rfl)) (fun _ _ _ h => h) (Or.inl ⟨by rfl, ?_⟩) ?_ ?_; rotate_left
     ·intro w'; go_simp; with_reducible rfl
     rotate_left
     ·simp only [Act.put, List.setIfInBounds_toArray, List.set_cons_zero, List.set_cons_succ, i64_w, i32_w]; rfl
     refine pure_ (i := 5) (N := some 37) (v := ?_) (a' := ?_) #[true, true, true, true, true, true, true, false, false] rfl rfl (any_of HT_.out (by kernel_rfl)) (fun _ _ _ h => h) (Or.inl ⟨by rfl, ?_⟩) ?_ ?_; rotate_left
     ·intro w'; go_simp; with_reducible rfl
     rotate_left
     ·simp only [Act.put, List.setIfInBounds_toArray, List.set_cons_zero, List.set_cons_succ, i64_w, i32_w]; rfl
     exact norm_ (by simp only [putAll, Act.put, List.setIfInBounds_toArray, List.set_cons_zero, List.set_cons_succ]) (hCont (.slice A72 t70_1.length c73, .slice A76 t70_2.length c77, .slice A82 t80_1.length c83, .slice A86 t80_2.length c87, g90) _ ⟨hHeld, ⟨_, _, rfl, CR74.out.2, CR74.out.1⟩, ⟨_, _, rfl, CR78.out.2, CR78.out.1⟩, ⟨_, _, rfl, CR84.out.2, CR84.out.1⟩, ⟨_, _, rfl, CR88.out.2, CR88.out.1⟩, ⟨HGg90.out, HLg90.out⟩⟩)
   rintro ⟨v75, v79, v85, v89, g90⟩ w91 ⟨hHeld, hF0_, hF1_, hF2_, hF3_, hF4_⟩
   dsimp only at hF0_ hF1_ hF2_ hF3_ hF4_
   obtain ⟨A72, c73, hv_, hl_, hf_⟩ := hF0_; have CR74 := Aside0.mk (And.intro hf_ hl_); clear hf_ hl_; subst hv_
   obtain ⟨A76, c77, hv_, hl_, hf_⟩ := hF1_; have CR78 := Aside0.mk (And.intro hf_ hl_); clear hf_ hl_; subst hv_
   obtain ⟨A82, c83, hv_, hl_, hf_⟩ := hF2_; have CR84 := Aside0.mk (And.intro hf_ hl_); clear hf_ hl_; subst hv_
   obtain ⟨A86, c87, hv_, hl_, hf_⟩ := hF3_; have CR88 := Aside0.mk (And.intro hf_ hl_); clear hf_ hl_; subst hv_
   have HG := Aside0.mk hF4_; clear hF4_
   refine norm_ (a' := ?_) ?_ ?_; rotate_left
   ·simp only [putAll, Act.put, List.setIfInBounds_toArray, List.set_cons_zero, List.set_cons_succ]; rfl
   refine one_ (i := 7) (N := none) #[true, true, true, true, true, true, true, true, false] rfl rfl (one_of HT_.out (by kernel_rfl)) (by decide) (fun K hK => ?_)
   have y0 : w91.cell? ⟨g90, 0, none⟩ = some (.slice none 0 0) := (blk_cell HG.out.1 0).trans rfl; have u0 := blk_frozen HG.out.1 0; have y1 : w91.cell? ⟨g90, 1, none⟩ = some (.slice none 0 0) := (blk_cell HG.out.1 1).trans rfl; have u1 := blk_frozen HG.out.1 1
   refine skip_ (w1 := ?_) (by rfl) rfl ?_ ?_; rotate_left
   ·go_simp; rfl
   have HB2 := Aside0.mk (hf_st2 hHeld HG.out.2 (.slice A82 t80_1.length c83) (.slice A86 t80_2.length c87))
   have CR74 := Aside0.mk (And.intro (hf_F5a CR74.out.1 (.slice A82 t80_1.length c83) (.slice A86 t80_2.length c87)) CR74.out.2)
   have CR78 := Aside0.mk (And.intro (hf_F5a CR78.out.1 (.slice A82 t80_1.length c83) (.slice A86 t80_2.length c87)) CR78.out.2)
   have CR84 := Aside0.mk (And.intro (hf_F5a CR84.out.1 (.slice A82 t80_1.length c83) (.slice A86 t80_2.length c87)) CR84.out.2)
   have CR88 := Aside0.mk (And.intro (hf_F5a CR88.out.1 (.slice A82 t80_1.length c83) (.slice A86 t80_2.length c87)) CR88.out.2)
   have HG := Aside0.mk (And.intro (hf_z2 HG.out.1 (.slice A82 t80_1.length c83) (.slice A86 t80_2.length c87)) HG.out.2)
   refine hK.out _ _ HB2.out (fun hHeld => ?_); clear hK K HB2 y0 u0 y1 u1
   generalize (w91.setCell _ _).setCell _ _ = w92 at hHeld HG CR74 CR78 CR84 CR88 ⊢
   refine pure_ (i := 8) (N := some 8) (v := ?_) (a' := ?_) #[true, true, true, true, true, true, true, true, true] rfl rfl (any_of HT_.out (by kernel_rfl)) (fun _ _ _ h => h) (Or.inl ⟨by rfl, ?_⟩) ?_ ?_; rotate_left
   ·intro w'; go_simp; with_reducible rfl
   rotate_left
   ·simp only [Act.put, List.setIfInBounds_toArray, List.set_cons_zero, List.set_cons_succ, i64_w, i32_w]; rfl
   refine done_ (done_of HT_.out (by kernel_rfl)) ?_
   have CR74 := Aside0.mk (And.intro (Kd.F_now CR74.out.1) CR74.out.2)
   have CR78 := Aside0.mk (And.intro (Kd.F_now CR78.out.1) CR78.out.2)
   have CR84 := Aside0.mk (And.intro (Kd.F_now CR84.out.1) CR84.out.2)
   have CR88 := Aside0.mk (And.intro (Kd.F_now CR88.out.1) CR88.out.2)
   have CR14 := Aside0.mk (And.intro (Kd.C_below CR14.out.1 hHeld) CR14.out.2)
   have CR18 := Aside0.mk (And.intro (Kd.C_below CR18.out.1 hHeld) CR18.out.2)
   have CR26 := Aside0.mk (And.intro (Kd.C_below CR26.out.1 hHeld) CR26.out.2)
   have CR30 := Aside0.mk (And.intro (Kd.C_below CR30.out.1 hHeld) CR30.out.2)
   have CR36 := Aside0.mk (And.intro (Kd.C_below CR36.out.1 hHeld) CR36.out.2)
   have CR40 := Aside0.mk (And.intro (Kd.C_below CR40.out.1 hHeld) CR40.out.2)
   have CR50 := Aside0.mk (And.intro (Kd.C_below CR50.out.1 hHeld) CR50.out.2)
   have CR54 := Aside0.mk (And.intro (Kd.C_below CR54.out.1 hHeld) CR54.out.2)
   have CR60 := Aside0.mk (And.intro (Kd.C_below CR60.out.1 hHeld) CR60.out.2)
   have CR64 := Aside0.mk (And.intro (Kd.C_below CR64.out.1 hHeld) CR64.out.2)
   have HS := Aside0.mk (BxS.add HS.out hHeld HG.out.1 HG.out.2)
   clear hHeld HG
   have z0_0 : w92.cell? ⟨w.heap.size, 0, none⟩ = some (.slice A12 t9_1.length c13) := (blk_cell (HS.out.at_ 3 rfl) 0).trans rfl; have z0_1 : w92.cell? ⟨w.heap.size, 1, none⟩ = some (.slice A16 t9_2.length c17) := (blk_cell (HS.out.at_ 3 rfl) 1).trans rfl; have f0_0 := blk_frozen (HS.out.at_ 3 rfl) 0; have f0_1 := blk_frozen (HS.out.at_ 3 rfl) 1; have z1_0 : w92.cell? ⟨g42, 0, none⟩ = some (.slice A34 t32_1.length c35) := (blk_cell (HS.out.at_ 2 rfl) 0).trans rfl; have z1_1 : w92.cell? ⟨g42, 1, none⟩ = some (.slice A38 t32_2.length c39) := (blk_cell (HS.out.at_ 2 rfl) 1).trans rfl; have z2_0 : w92.cell? ⟨g66, 0, none⟩ = some (.slice A58 t56_1.length c59) := (blk_cell (HS.out.at_ 1 rfl) 0).trans rfl; have z2_1 : w92.cell? ⟨g66, 1, none⟩ = some (.slice A62 t56_2.length c63) := (blk_cell (HS.out.at_ 1 rfl) 1).trans rfl; have z3_0 : w92.cell? ⟨g90, 0, none⟩ = some (.slice A82 t80_1.length c83) := (blk_cell (HS.out.at_ 0 rfl) 0).trans rfl; have z3_1 : w92.cell? ⟨g90, 1, none⟩ = some (.slice A86 t80_2.length c87) := (blk_cell (HS.out.at_ 0 rfl) 1).trans rfl
   by_cases q93 : t32_3 = 0
   ·rw [if_pos q93] at h
    have q93b0 := (beq_iff_eq.2 q93 : (t32_3 == 0) = true)
    have Iq93 := Aside0.mk q93
    clear q93
    by_cases q94 : t56_3 = 0
    ·rw [if_pos q94] at h
     have q94b0 := (beq_iff_eq.2 q94 : (t56_3 == 0) = true)
     have Iq94 := Aside0.mk q94
     clear q94
     by_cases q95 : t80_3 = 0
     ·rw [if_pos q95] at h
      have q95b0 := (beq_iff_eq.2 q95 : (t80_3 == 0) = true)
      have Iq95 := Aside0.mk q95
      clear q95
      obtain ⟨t96, q_, h⟩ := Option.bind_eq_some_iff.1 h; have E97 := Aside0.mk q_; clear q_
      cases t96 with
      | true =>
       rw [if_pos rfl] at h
       obtain ⟨t99, q_, h⟩ := Option.bind_eq_some_iff.1 h; have E100 := Aside0.mk q_; clear q_
       cases t99 with
       | true =>
        rw [if_pos rfl] at h
        by_cases q102 : (t80_1.length : Int) = (t9_1.length : Int)
        ·rw [if_pos q102] at h
         have q102b0 := (beq_iff_eq.2 q102 : ((t80_1.length : Int) == (t9_1.length : Int)) = true)
         clear q102
         by_cases q103 : (0 : Int) < (t80_1.length : Int)
         ·rw [if_pos q103] at h
          have q103b0 := q103
          clear q103
          by_cases q105 : (rd t80_1 0) = 0
          ·rw [if_pos q105] at h
           have q105b0 := (beq_iff_eq.2 q105 : ((rd t80_1 0) == 0) = true)
           have Iq105 := Aside0.mk q105
           clear q105
           obtain ⟨t106, q_, h⟩ := Option.bind_eq_some_iff.1 h; have E107 := Aside0.mk q_; clear q_
           obtain rfl := Option.some.inj h
           go_wp2_with (first | (go_at_call 13; (with_reducible refine (triglyphref03_Same.calls k A12 c13 t9_1 A16 c17 t9_2 A34 c35 t32_1 A38 c39 t32_2 _ _ CR14.out.1 CR14.out.2 CR18.out.1 CR18.out.2 CR36.out.1 CR36.out.2 CR40.out.1 CR40.out.2 E97.out).mono ?_); rintro e w98 ⟨rfl, hb⟩; have CR14 := Aside0.mk (And.intro (Kd.C_below CR14.out.1 hb) CR14.out.2); have CR18 := Aside0.mk (And.intro (Kd.C_below CR18.out.1 hb) CR18.out.2); have CR26 := Aside0.mk (And.intro (Kd.C_below CR26.out.1 hb) CR26.out.2); have CR30 := Aside0.mk (And.intro (Kd.C_below CR30.out.1 hb) CR30.out.2); have CR36 := Aside0.mk (And.intro (Kd.C_below CR36.out.1 hb) CR36.out.2); have CR40 := Aside0.mk (And.intro (Kd.C_below CR40.out.1 hb) CR40.out.2); have CR50 := Aside0.mk (And.intro (Kd.C_below CR50.out.1 hb) CR50.out.2); have CR54 := Aside0.mk (And.intro (Kd.C_below CR54.out.1 hb) CR54.out.2); have CR60 := Aside0.mk (And.intro (Kd.C_below CR60.out.1 hb) CR60.out.2); have CR64 := Aside0.mk (And.intro (Kd.C_below CR64.out.1 hb) CR64.out.2); have CR74 := Aside0.mk (And.intro (Kd.C_below CR74.out.1 hb) CR74.out.2); have CR78 := Aside0.mk (And.intro (Kd.C_below CR78.out.1 hb) CR78.out.2); have CR84 := Aside0.mk (And.intro (Kd.C_below CR84.out.1 hb) CR84.out.2); have CR88 := Aside0.mk (And.intro (Kd.C_below CR88.out.1 hb) CR88.out.2); have HS := Aside0.mk (HS.out.step hb); clear hb; (try clear z0_0 z0_1 z1_0 z1_1 z2_0 z2_1 z3_0 z3_1 f0_0 f0_1); have z0_0 : w98.cell? ⟨w.heap.size, 0, none⟩ = some (.slice A12 t9_1.length c13) := (blk_cell (HS.out.at_ 3 rfl) 0).trans rfl; have z0_1 : w98.cell? ⟨w.heap.size, 1, none⟩ = some (.slice A16 t9_2.length c17) := (blk_cell (HS.out.at_ 3 rfl) 1).trans rfl; have f0_0 := blk_frozen (HS.out.at_ 3 rfl) 0; have f0_1 := blk_frozen (HS.out.at_ 3 rfl) 1; have z1_0 : w98.cell? ⟨g42, 0, none⟩ = some (.slice A34 t32_1.length c35) := (blk_cell (HS.out.at_ 2 rfl) 0).trans rfl; have z1_1 : w98.cell? ⟨g42, 1, none⟩ = some (.slice A38 t32_2.length c39) := (blk_cell (HS.out.at_ 2 rfl) 1).trans rfl; have z2_0 : w98.cell? ⟨g66, 0, none⟩ = some (.slice A58 t56_1.length c59) := (blk_cell (HS.out.at_ 1 rfl) 0).trans rfl; have z2_1 : w98.cell? ⟨g66, 1, none⟩ = some (.slice A62 t56_2.length c63) := (blk_cell (HS.out.at_ 1 rfl) 1).trans rfl; have z3_0 : w98.cell? ⟨g90, 0, none⟩ = some (.slice A82 t80_1.length c83) := (blk_cell (HS.out.at_ 0 rfl) 0).trans rfl; have z3_1 : w98.cell? ⟨g90, 1, none⟩ = some (.slice A86 t80_2.length c87) := (blk_cell (HS.out.at_ 0 rfl) 1).trans rfl) | (go_at_call 13; (with_reducible refine (triglyphref03_Same.calls k A12 c13 t9_1 A16 c17 t9_2 A58 c59 t56_1 A62 c63 t56_2 _ _ CR14.out.1 CR14.out.2 CR18.out.1 CR18.out.2 CR60.out.1 CR60.out.2 CR64.out.1 CR64.out.2 E100.out).mono ?_); rintro e w101 ⟨rfl, hb⟩; have CR14 := Aside0.mk (And.intro (Kd.C_below CR14.out.1 hb) CR14.out.2); have CR18 := Aside0.mk (And.intro (Kd.C_below CR18.out.1 hb) CR18.out.2); have CR26 := Aside0.mk (And.intro (Kd.C_below CR26.out.1 hb) CR26.out.2); have CR30 := Aside0.mk (And.intro (Kd.C_below CR30.out.1 hb) CR30.out.2); have CR36 := Aside0.mk (And.intro (Kd.C_below CR36.out.1 hb) CR36.out.2); have CR40 := Aside0.mk (And.intro (Kd.C_below CR40.out.1 hb) CR40.out.2); have CR50 := Aside0.mk (And.intro (Kd.C_below CR50.out.1 hb) CR50.out.2); have CR54 := Aside0.mk (And.intro (Kd.C_below CR54.out.1 hb) CR54.out.2); have CR60 := Aside0.mk (And.intro (Kd.C_below CR60.out.1 hb) CR60.out.2); have CR64 := Aside0.mk (And.intro (Kd.C_below CR64.out.1 hb) CR64.out.2); have CR74 := Aside0.mk (And.intro (Kd.C_below CR74.out.1 hb) CR74.out.2); have CR78 := Aside0.mk (And.intro (Kd.C_below CR78.out.1 hb) CR78.out.2); have CR84 := Aside0.mk (And.intro (Kd.C_below CR84.out.1 hb) CR84.out.2); have CR88 := Aside0.mk (And.intro (Kd.C_below CR88.out.1 hb) CR88.out.2); have HS := Aside0.mk (HS.out.step hb); clear hb; (try clear z0_0 z0_1 z1_0 z1_1 z2_0 z2_1 z3_0 z3_1 f0_0 f0_1); have z0_0 : w101.cell? ⟨w.heap.size, 0, none⟩ = some (.slice A12 t9_1.length c13) := (blk_cell (HS.out.at_ 3 rfl) 0).trans rfl; have z0_1 : w101.cell? ⟨w.heap.size, 1, none⟩ = some (.slice A16 t9_2.length c17) := (blk_cell (HS.out.at_ 3 rfl) 1).trans rfl; have f0_0 := blk_frozen (HS.out.at_ 3 rfl) 0; have f0_1 := blk_frozen (HS.out.at_ 3 rfl) 1; have z1_0 : w101.cell? ⟨g42, 0, none⟩ = some (.slice A34 t32_1.length c35) := (blk_cell (HS.out.at_ 2 rfl) 0).trans rfl; have z1_1 : w101.cell? ⟨g42, 1, none⟩ = some (.slice A38 t32_2.length c39) := (blk_cell (HS.out.at_ 2 rfl) 1).trans rfl; have z2_0 : w101.cell? ⟨g66, 0, none⟩ = some (.slice A58 t56_1.length c59) := (blk_cell (HS.out.at_ 1 rfl) 0).trans rfl; have z2_1 : w101.cell? ⟨g66, 1, none⟩ = some (.slice A62 t56_2.length c63) := (blk_cell (HS.out.at_ 1 rfl) 1).trans rfl; have z3_0 : w101.cell? ⟨g90, 0, none⟩ = some (.slice A82 t80_1.length c83) := (blk_cell (HS.out.at_ 0 rfl) 0).trans rfl; have z3_1 : w101.cell? ⟨g90, 1, none⟩ = some (.slice A86 t80_2.length c87) := (blk_cell (HS.out.at_ 0 rfl) 1).trans rfl; obtain ⟨ad104, ea_, ad104_0⟩ := Kd.at_int CR84.out.1 (0 : Int) (by omega) (by omega); subst ea_; rw [show Int.toNat 0 = 0 from rfl] at ad104_0; rw [Addr.add_zero'] at ad104_0) | (go_at_call 10; (with_reducible refine (triglyphlaw06_works.calls k _ _ E107.out).mono ?_); rintro e w108 ⟨rfl, hb⟩; have CR14 := Aside0.mk (And.intro (Kd.C_below CR14.out.1 hb) CR14.out.2); have CR18 := Aside0.mk (And.intro (Kd.C_below CR18.out.1 hb) CR18.out.2); have CR26 := Aside0.mk (And.intro (Kd.C_below CR26.out.1 hb) CR26.out.2); have CR30 := Aside0.mk (And.intro (Kd.C_below CR30.out.1 hb) CR30.out.2); have CR36 := Aside0.mk (And.intro (Kd.C_below CR36.out.1 hb) CR36.out.2); have CR40 := Aside0.mk (And.intro (Kd.C_below CR40.out.1 hb) CR40.out.2); have CR50 := Aside0.mk (And.intro (Kd.C_below CR50.out.1 hb) CR50.out.2); have CR54 := Aside0.mk (And.intro (Kd.C_below CR54.out.1 hb) CR54.out.2); have CR60 := Aside0.mk (And.intro (Kd.C_below CR60.out.1 hb) CR60.out.2); have CR64 := Aside0.mk (And.intro (Kd.C_below CR64.out.1 hb) CR64.out.2); have CR74 := Aside0.mk (And.intro (Kd.C_below CR74.out.1 hb) CR74.out.2); have CR78 := Aside0.mk (And.intro (Kd.C_below CR78.out.1 hb) CR78.out.2); have CR84 := Aside0.mk (And.intro (Kd.C_below CR84.out.1 hb) CR84.out.2); have CR88 := Aside0.mk (And.intro (Kd.C_below CR88.out.1 hb) CR88.out.2); have HS := Aside0.mk (HS.out.step hb); clear hb; (try clear z0_0 z0_1 z1_0 z1_1 z2_0 z2_1 z3_0 z3_1 f0_0 f0_1); have z0_0 : w108.cell? ⟨w.heap.size, 0, none⟩ = some (.slice A12 t9_1.length c13) := (blk_cell (HS.out.at_ 3 rfl) 0).trans rfl; have z0_1 : w108.cell? ⟨w.heap.size, 1, none⟩ = some (.slice A16 t9_2.length c17) := (blk_cell (HS.out.at_ 3 rfl) 1).trans rfl; have f0_0 := blk_frozen (HS.out.at_ 3 rfl) 0; have f0_1 := blk_frozen (HS.out.at_ 3 rfl) 1; have z1_0 : w108.cell? ⟨g42, 0, none⟩ = some (.slice A34 t32_1.length c35) := (blk_cell (HS.out.at_ 2 rfl) 0).trans rfl; have z1_1 : w108.cell? ⟨g42, 1, none⟩ = some (.slice A38 t32_2.length c39) := (blk_cell (HS.out.at_ 2 rfl) 1).trans rfl; have z2_0 : w108.cell? ⟨g66, 0, none⟩ = some (.slice A58 t56_1.length c59) := (blk_cell (HS.out.at_ 1 rfl) 0).trans rfl; have z2_1 : w108.cell? ⟨g66, 1, none⟩ = some (.slice A62 t56_2.length c63) := (blk_cell (HS.out.at_ 1 rfl) 1).trans rfl; have z3_0 : w108.cell? ⟨g90, 0, none⟩ = some (.slice (some ad104) t80_1.length c83) := (blk_cell (HS.out.at_ 0 rfl) 0).trans rfl; have z3_1 : w108.cell? ⟨g90, 1, none⟩ = some (.slice A86 t80_2.length c87) := (blk_cell (HS.out.at_ 0 rfl) 1).trans rfl))
           go_ret
           exact ⟨rfl, HS.out.bel⟩
          ·rw [if_neg q105] at h
           cases h
         ·rw [if_neg q103] at h
          cases h
        ·rw [if_neg q102] at h
         cases h
       | false =>
        rw [if_neg (by decide)] at h
        cases h
      | false =>
       rw [if_neg (by decide)] at h
       cases h
     ·rw [if_neg q95] at h
      cases h
    ·rw [if_neg q94] at h
     cases h
   ·rw [if_neg q93] at h
    cases h
  ·rw [if_neg q8] at h
   have q8b0 := (bne_iff_ne.2 q8 : (t5 != 0) = true)
   have Iq8 := Aside0.mk q8
   clear q8
   obtain ⟨t109, q_, h⟩ := Option.bind_eq_some_iff.1 h; have E110 := Aside0.mk q_; clear q_
   obtain rfl := Option.some.inj h
   go_wp2_with (first | (go_at_call 9; (with_reducible refine (triglyphlaw06_light.calls k A0_0 c0_0 l0_0 A0_1 c0_1 l0_1 _ _ CRa0_0.out.1 CRa0_0.out.2 CRa0_1.out.1 CRa0_1.out.2 E3.out).mono ?_); rintro e w4 ⟨rfl, hb⟩; have CRa0_0 := Aside0.mk (And.intro (Kd.C_below CRa0_0.out.1 hb) CRa0_0.out.2); have CRa0_1 := Aside0.mk (And.intro (Kd.C_below CRa0_1.out.1 hb) CRa0_1.out.2); have HS := Aside0.mk (HS.out.step hb); clear hb; (try clear z0_0 z0_1 f0_0 f0_1); have z0_0 : w4.cell? ⟨w.heap.size, 0, none⟩ = some (.slice A0_0 l0_0.length c0_0) := (blk_cell (HS.out.at_ 0 rfl) 0).trans rfl; have z0_1 : w4.cell? ⟨w.heap.size, 1, none⟩ = some (.slice A0_1 l0_1.length c0_1) := (blk_cell (HS.out.at_ 0 rfl) 1).trans rfl; have f0_0 := blk_frozen (HS.out.at_ 0 rfl) 0; have f0_1 := blk_frozen (HS.out.at_ 0 rfl) 1) | (go_at_call 14; (with_reducible refine (triglyphref03_Check.calls k A0_0 c0_0 l0_0 A0_1 c0_1 l0_1 _ _ CRa0_0.out.1 CRa0_0.out.2 CRa0_1.out.1 CRa0_1.out.2 E6.out).mono ?_); rintro e w7 ⟨rfl, hb⟩; have CRa0_0 := Aside0.mk (And.intro (Kd.C_below CRa0_0.out.1 hb) CRa0_0.out.2); have CRa0_1 := Aside0.mk (And.intro (Kd.C_below CRa0_1.out.1 hb) CRa0_1.out.2); have HS := Aside0.mk (HS.out.step hb); clear hb; (try clear z0_0 z0_1 f0_0 f0_1); have z0_0 : w7.cell? ⟨w.heap.size, 0, none⟩ = some (.slice A0_0 l0_0.length c0_0) := (blk_cell (HS.out.at_ 0 rfl) 0).trans rfl; have z0_1 : w7.cell? ⟨w.heap.size, 1, none⟩ = some (.slice A0_1 l0_1.length c0_1) := (blk_cell (HS.out.at_ 0 rfl) 1).trans rfl; have f0_0 := blk_frozen (HS.out.at_ 0 rfl) 0; have f0_1 := blk_frozen (HS.out.at_ 0 rfl) 1) | (go_at_call 10; (with_reducible refine (triglyphlaw06_works.calls k _ _ E110.out).mono ?_); rintro e w111 ⟨rfl, hb⟩; have CRa0_0 := Aside0.mk (And.intro (Kd.C_below CRa0_0.out.1 hb) CRa0_0.out.2); have CRa0_1 := Aside0.mk (And.intro (Kd.C_below CRa0_1.out.1 hb) CRa0_1.out.2); have HS := Aside0.mk (HS.out.step hb); clear hb; (try clear z0_0 z0_1 f0_0 f0_1); have z0_0 : w111.cell? ⟨w.heap.size, 0, none⟩ = some (.slice A0_0 l0_0.length c0_0) := (blk_cell (HS.out.at_ 0 rfl) 0).trans rfl; have z0_1 : w111.cell? ⟨w.heap.size, 1, none⟩ = some (.slice A0_1 l0_1.length c0_1) := (blk_cell (HS.out.at_ 0 rfl) 1).trans rfl; have f0_0 := blk_frozen (HS.out.at_ 0 rfl) 0; have f0_1 := blk_frozen (HS.out.at_ 0 rfl) 1))
   go_ret
   exact ⟨rfl, HS.out.bel⟩
 | false =>
  rw [if_neg (by decide)] at h
  obtain ⟨t112, q_, h⟩ := Option.bind_eq_some_iff.1 h; have E113 := Aside0.mk q_; clear q_
  obtain rfl := Option.some.inj h
  go_wp2_with (first | (go_at_call 9; (with_reducible refine (triglyphlaw06_light.calls k A0_0 c0_0 l0_0 A0_1 c0_1 l0_1 _ _ CRa0_0.out.1 CRa0_0.out.2 CRa0_1.out.1 CRa0_1.out.2 E3.out).mono ?_); rintro e w4 ⟨rfl, hb⟩; have CRa0_0 := Aside0.mk (And.intro (Kd.C_below CRa0_0.out.1 hb) CRa0_0.out.2); have CRa0_1 := Aside0.mk (And.intro (Kd.C_below CRa0_1.out.1 hb) CRa0_1.out.2); have HS := Aside0.mk (HS.out.step hb); clear hb; (try clear z0_0 z0_1 f0_0 f0_1); have z0_0 : w4.cell? ⟨w.heap.size, 0, none⟩ = some (.slice A0_0 l0_0.length c0_0) := (blk_cell (HS.out.at_ 0 rfl) 0).trans rfl; have z0_1 : w4.cell? ⟨w.heap.size, 1, none⟩ = some (.slice A0_1 l0_1.length c0_1) := (blk_cell (HS.out.at_ 0 rfl) 1).trans rfl; have f0_0 := blk_frozen (HS.out.at_ 0 rfl) 0; have f0_1 := blk_frozen (HS.out.at_ 0 rfl) 1) | (go_at_call 10; (with_reducible refine (triglyphlaw06_works.calls k _ _ E113.out).mono ?_); rintro e w114 ⟨rfl, hb⟩; have CRa0_0 := Aside0.mk (And.intro (Kd.C_below CRa0_0.out.1 hb) CRa0_0.out.2); have CRa0_1 := Aside0.mk (And.intro (Kd.C_below CRa0_1.out.1 hb) CRa0_1.out.2); have HS := Aside0.mk (HS.out.step hb); clear hb; (try clear z0_0 z0_1 f0_0 f0_1); have z0_0 : w114.cell? ⟨w.heap.size, 0, none⟩ = some (.slice A0_0 l0_0.length c0_0) := (blk_cell (HS.out.at_ 0 rfl) 0).trans rfl; have z0_1 : w114.cell? ⟨w.heap.size, 1, none⟩ = some (.slice A0_1 l0_1.length c0_1) := (blk_cell (HS.out.at_ 0 rfl) 1).trans rfl; have f0_0 := blk_frozen (HS.out.at_ 0 rfl) 0; have f0_1 := blk_frozen (HS.out.at_ 0 rfl) 1))
  go_ret
  exact ⟨rfl, HS.out.bel⟩
end Go.Proofs.Ytdihmempaonfjaa.P
