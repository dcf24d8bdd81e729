/- Written by a program of this session: the functions that the laws reach, what each comes to, and each law as it is stated, for every input. No condition. -/
import Derived.Test.YtdihmempaonfjaaPx0
import Derived.Test.YtdihmempaonfjaaPx1
import Derived.Test.YtdihmempaonfjaaPx7
import Derived.Test.YtdihmempaonfjaaPx8
import Derived.Test.YtdihmempaonfjaaPx9
import Derived.Test.YtdihmempaonfjaaPx11
import Derived.Test.YtdihmempaonfjaaPx12
namespace Go.Proofs.Ytdihmempaonfjaa.P
open Go.RowKit Go.Proofs.YtdihmempaonfjaaW.PrintWords Go.Proofs.YtdihmempaonfjaaW.PrintLast Go.Proofs.YtdihmempaonfjaaW.PrintMore
attribute [local go_sem] max2_int min2_int max_two min_two max_three min_three max_four min_four   -- for this text's walks alone
set_option linter.unusedVariables false
set_option linter.unusedSimpArgs false
def triglyphlaw06_PickRotates.f (k : Nat) (l0_0 : List (Int)) (l0_1 : List (S45)) (a1 : Int) (a2 : Int) (a3 : Bool) : Option (Bool) :=
 (triglyphlaw06_light.f k l0_0 l0_1).bind fun t2 => (if t2 = true then ((triglyphref03_Check.f k l0_0 l0_1).bind fun t5 => (if t5 = 0 then (if a3 = true then ((triglyphref03_Atom.f (wrap64 a1)).bind fun t10 => ((pick_Dy.f k 45 t10.1 t10.2 l0_0 l0_1).bind fun t20 => ((triglyphref03_Atom.f (wrap64 a2)).bind fun t34 => ((pick_Dy.f k 45 t34.1 t34.2 t20.1 t20.2.1).bind fun t44 => ((triglyphref03_Atom.f ((wrap64 ((wrap64 a1) + (wrap64 a2))))).bind fun t58 => ((pick_Dy.f k 45 t58.1 t58.2 l0_0 l0_1).bind fun t68 => (if t20.2.2 = 0 then (if t44.2.2 = 0 then (if t68.2.2 = 0 then ((triglyphref03_Same.f k t44.1 t44.2.1 t68.1 t68.2.1).bind fun t84 => (if t84 = true then (if (l0_0.length : Int) = 0 then ((triglyphref03_Same.f k t44.1 t44.2.1 t68.1 t68.2.1).bind fun t91 => (if t91 = true then ((triglyphlaw06_works.f k).bind fun t94 => (some t94)) else (none))) else (if (0 : Int) < (l0_0.length : Int) then (if 0 ≤ (wrap64 ((l0_0.length : Int) - 1)) ∧ (wrap64 ((l0_0.length : Int) - 1)) < (l0_0.length : Int) then ((triglyphref03_Atom.f (rd l0_0 (wrap64 ((l0_0.length : Int) - 1)))).bind fun t102 => ((pick_Dy.f k 45 t102.1 t102.2 l0_0 l0_1).bind fun t112 => (if t112.2.2 = 0 then ((triglyphref03_Same.f k l0_0 l0_1 t112.1 t112.2.1).bind fun t126 => (if t126 = true then ((triglyphlaw06_works.f k).bind fun t129 => (some t129)) else (none))) else (none)))) else (none)) else (none))) else (none))) else (none)) else (none)) else (none)))))))) else ((triglyphref03_Atom.f (wrap64 a1)).bind fun t139 => ((pick_Dy.f k 44 t139.1 t139.2 l0_0 l0_1).bind fun t149 => ((triglyphref03_Atom.f (wrap64 a2)).bind fun t163 => ((pick_Dy.f k 44 t163.1 t163.2 t149.1 t149.2.1).bind fun t173 => ((triglyphref03_Atom.f ((wrap64 ((wrap64 a1) + (wrap64 a2))))).bind fun t187 => ((pick_Dy.f k 44 t187.1 t187.2 l0_0 l0_1).bind fun t197 => (if t149.2.2 = 0 then (if t173.2.2 = 0 then (if t197.2.2 = 0 then ((triglyphref03_Same.f k t173.1 t173.2.1 t197.1 t197.2.1).bind fun t213 => (if t213 = true then (if (l0_0.length : Int) = 0 then ((triglyphref03_Same.f k t173.1 t173.2.1 t197.1 t197.2.1).bind fun t220 => (if t220 = true then ((triglyphlaw06_works.f k).bind fun t223 => (some t223)) else (none))) else (if (0 : Int) < (l0_0.length : Int) then ((triglyphref03_Atom.f (rd l0_0 0)).bind fun t229 => ((pick_Dy.f k 44 t229.1 t229.2 l0_0 l0_1).bind fun t239 => (if t239.2.2 = 0 then ((triglyphref03_Same.f k l0_0 l0_1 t239.1 t239.2.1).bind fun t253 => (if t253 = true then ((triglyphlaw06_works.f k).bind fun t256 => (some t256)) else (none))) else (none)))) else (none))) else (none))) else (none)) else (none)) else (none))))))))) else ((triglyphlaw06_works.f k).bind fun t265 => (some t265)))) else ((triglyphlaw06_works.f k).bind fun t268 => (some t268)))
theorem triglyphlaw06_PickRotates.mono : ∀ y0 y1 y2 y3 y4 k, LeO (triglyphlaw06_PickRotates.f k y0 y1 y2 y3 y4) (triglyphlaw06_PickRotates.f (k + 1) y0 y1 y2 y3 y4) := by
 intro y0 y1 y2 y3 y4 k
 unfold triglyphlaw06_PickRotates.f
 repeat (first | exact LeO.refl _ | exact LeO.none _ | refine LeO.ite ?_ ?_ | refine LeO.bind (pick_Dy.mono _ _ _ _ _ _) (fun _ => ?_) | refine LeO.bind (triglyphlaw06_light.mono _ _ _) (fun _ => ?_) | refine LeO.bind (triglyphlaw06_works.mono  _) (fun _ => ?_) | refine LeO.bind (triglyphref03_Check.mono _ _ _) (fun _ => ?_) | refine LeO.bind (triglyphref03_Same.mono _ _ _ _ _) (fun _ => ?_) | refine LeO.bind (LeO.refl _) (fun _ => ?_))
def triglyphlaw06_PickRotates.T6 : Bool × List (List Nat × List Nat) := (true, [([], []), ([], []), ([1], [1]), ([2], [2]), ([], []), ([0, 3, 4, 3], [0, 3, 4]), ([5], [5]), ([6], [6]), ([6], [6]), ([], []), ([9, 7, 5, 0, 1, 2, 3, 4, 5, 6, 7, 9], [7, 9]), ([8, 10, 0, 1, 2, 3, 4, 5, 6, 7, 8, 9, 10], [8])])
def triglyphlaw06_PickRotates.B6 : List Nat := [0, 0, 2, 6, 0, 31, 63, 127, 127, 0, 767, 2047]
theorem triglyphlaw06_PickRotates.tab6 : rtab .any (opsOf Try.f5 6) = triglyphlaw06_PickRotates.T6 := by kernel_rfl
theorem triglyphlaw06_PickRotates.bits6 : waitsOk triglyphlaw06_PickRotates.T6.2 triglyphlaw06_PickRotates.B6 = true := by kernel_rfl
def triglyphlaw06_PickRotates.T7 : Bool × List (List Nat × List Nat) := (true, [([], []), ([], []), ([1], [1]), ([2], [2]), ([], []), ([0, 3, 4, 3], [0, 3, 4]), ([5], [5]), ([6], [6]), ([6], [6]), ([], []), ([9, 7, 5, 0, 1, 2, 3, 4, 5, 6, 7, 9], [7, 9]), ([8, 10, 0, 1, 2, 3, 4, 5, 6, 7, 8, 9, 10], [8])])
def triglyphlaw06_PickRotates.B7 : List Nat := [0, 0, 2, 6, 0, 31, 63, 127, 127, 0, 767, 2047]
theorem triglyphlaw06_PickRotates.tab7 : rtab .any (opsOf Try.f5 7) = triglyphlaw06_PickRotates.T7 := by kernel_rfl
theorem triglyphlaw06_PickRotates.bits7 : waitsOk triglyphlaw06_PickRotates.T7.2 triglyphlaw06_PickRotates.B7 = true := by kernel_rfl
def triglyphlaw06_PickRotates.T8 : Bool × List (List Nat × List Nat) := (true, [([], []), ([], []), ([1], [1]), ([], []), ([3], [3]), ([2, 4], [2, 4]), ([5], [5]), ([], []), ([0, 6, 7, 6], [0, 6, 7]), ([8], [8]), ([9], [9]), ([9], [9]), ([], []), ([12, 10, 8, 0, 1, 2, 3, 4, 5, 6, 7, 8, 9, 10, 12], [10, 12]), ([11, 13, 0, 1, 2, 3, 4, 5, 6, 7, 8, 9, 10, 11, 12, 13], [11])])
def triglyphlaw06_PickRotates.B8 : List Nat := [0, 0, 2, 0, 8, 30, 62, 0, 255, 511, 1023, 1023, 0, 6143, 16383]
theorem triglyphlaw06_PickRotates.tab8 : rtab .any (opsOf Try.f5 8) = triglyphlaw06_PickRotates.T8 := by kernel_rfl
theorem triglyphlaw06_PickRotates.bits8 : waitsOk triglyphlaw06_PickRotates.T8.2 triglyphlaw06_PickRotates.B8 = true := by kernel_rfl
def triglyphlaw06_PickRotates.T14 : Bool × List (List Nat × List Nat) := (true, [([], []), ([], []), ([1], [1]), ([], []), ([0, 2, 3, 2], [0, 2, 3]), ([4], [4]), ([5], [5]), ([5], [5]), ([], []), ([8, 6, 4, 0, 1, 2, 3, 4, 5, 6, 8], [6, 8]), ([7, 9, 0, 1, 2, 3, 4, 5, 6, 7, 8, 9], [7])])
def triglyphlaw06_PickRotates.B14 : List Nat := [0, 0, 2, 0, 15, 31, 63, 63, 0, 383, 1023]
theorem triglyphlaw06_PickRotates.tab14 : rtab .any (opsOf Try.f5 14) = triglyphlaw06_PickRotates.T14 := by kernel_rfl
theorem triglyphlaw06_PickRotates.bits14 : waitsOk triglyphlaw06_PickRotates.T14.2 triglyphlaw06_PickRotates.B14 = true := by kernel_rfl
set_option maxHeartbeats 8000000 in
set_option maxRecDepth 100000 in
theorem triglyphlaw06_PickRotates.calls (k : Nat) (A0_0 : Option Addr) (c0_0 : Nat) (l0_0 : List (Int)) (A0_1 : Option Addr) (c0_1 : Nat) (l0_1 : List (S45)) (a1 : Int) (a2 : Int) (a3 : Bool) (r : Bool) (w : World) (hr0_0 : Kd.C (Kd.int .i64) w A0_0 l0_0.length l0_0) (hc0_0 : l0_0.length ≤ c0_0) (hr0_1 : Kd.C k45 w A0_1 l0_1.length l0_1) (hc0_1 : l0_1.length ≤ c0_1) (h : triglyphlaw06_PickRotates.f k l0_0 l0_1 a1 a2 a3 = some r) :
  Calls Try.prog 5 #[.agg #[.slice A0_0 l0_0.length c0_0, .slice A0_1 l0_1.length c0_1], .int .i32 a1, .int .i32 a2, .bool a3] w fun e w' => e = .returned (.bool r) ∧ Below w.heap.size w w' := by
 have CRa0_0 := Aside0.mk (And.intro hr0_0 hc0_0); clear hr0_0 hc0_0
 have CRa0_1 := Aside0.mk (And.intro hr0_1 hc0_1); clear hr0_1 hc0_1
 have HS := Aside0.mk (BxS.nil w)
 unfold triglyphlaw06_PickRotates.f at h
 go_enter Try.func5, Try.ntmps5
 go_upto_region 1 with (fail)
 (try clear z0_0 z0_1); skip
 have HS := Aside0.mk (HS.out.cons' #[.slice A0_0 l0_0.length c0_0, .slice A0_1 l0_1.length c0_1] 25 (rfl))
 have CRa0_0 := Aside0.mk (And.intro (Kd.C_alloc CRa0_0.out.1 (.cells #[.slice A0_0 l0_0.length c0_0, .slice A0_1 l0_1.length c0_1] 25)) CRa0_0.out.2)
 have CRa0_1 := Aside0.mk (And.intro (Kd.C_alloc CRa0_1.out.1 (.cells #[.slice A0_0 l0_0.length c0_0, .slice A0_1 l0_1.length c0_1] 25)) CRa0_1.out.2)
 generalize w.alloc (.cells #[.slice A0_0 l0_0.length c0_0, .slice A0_1 l0_1.length c0_1] 25) = w1 at HS CRa0_0 CRa0_1 ⊢
 have z0_0 : w1.cell? ⟨w.heap.size, 0, none⟩ = some (.slice A0_0 l0_0.length c0_0) := (blk_cell (HS.out.at_ 0 rfl) 0).trans rfl; have z0_1 : w1.cell? ⟨w.heap.size, 1, none⟩ = some (.slice A0_1 l0_1.length c0_1) := (blk_cell (HS.out.at_ 0 rfl) 1).trans rfl
 obtain ⟨t2, q_, h_⟩ := Option.bind_eq_some_iff.1 h; clear h; have h := h_; clear h_; have E3 := Aside0.mk q_; clear q_
 cases t2 with
 | true =>
  rw [if_pos rfl] at h
  obtain ⟨t5, q_, h_⟩ := Option.bind_eq_some_iff.1 h; clear h; have h := h_; clear h_; have E6 := Aside0.mk q_; clear q_
  by_cases q8 : t5 = 0
  ·rw [if_pos q8] at h
   have q8b0 := (bne_eq_false_iff_eq.2 q8 : (t5 != 0) = false)
   have Iq8 := Aside0.mk q8
   clear q8
   cases a3 with
   | true =>
    rw [if_pos rfl] at h
    obtain ⟨⟨t10_1, t10_2⟩, q_, h⟩ := Option.bind_eq_some_iff.1 h; have E11 := Aside0.mk q_; clear q_; (try dsimp only at h)
    obtain ⟨⟨t20_1, t20_2, t20_3⟩, q_, h⟩ := Option.bind_eq_some_iff.1 h; have E21 := Aside0.mk q_; clear q_; (try dsimp only at h)
    go_upto_region 6 with (first | (go_at_call 9; (with_reducible refine (triglyphlaw06_light.calls k A0_0 c0_0 l0_0 A0_1 c0_1 l0_1 _ _ CRa0_0.out.1 CRa0_0.out.2 CRa0_1.out.1 CRa0_1.out.2 E3.out).mono ?_); rintro e w4 ⟨rfl, hb⟩; have CRa0_0 := Aside0.mk (And.intro (Kd.C_below CRa0_0.out.1 hb) CRa0_0.out.2); have CRa0_1 := Aside0.mk (And.intro (Kd.C_below CRa0_1.out.1 hb) CRa0_1.out.2); have HS := Aside0.mk (HS.out.step hb); clear hb; (try clear z0_0 z0_1); have z0_0 : w4.cell? ⟨w.heap.size, 0, none⟩ = some (.slice A0_0 l0_0.length c0_0) := (blk_cell (HS.out.at_ 0 rfl) 0).trans rfl; have z0_1 : w4.cell? ⟨w.heap.size, 1, none⟩ = some (.slice A0_1 l0_1.length c0_1) := (blk_cell (HS.out.at_ 0 rfl) 1).trans rfl) | (go_at_call 14; (with_reducible refine (triglyphref03_Check.calls k A0_0 c0_0 l0_0 A0_1 c0_1 l0_1 _ _ CRa0_0.out.1 CRa0_0.out.2 CRa0_1.out.1 CRa0_1.out.2 E6.out).mono ?_); rintro e w7 ⟨rfl, hb⟩; have CRa0_0 := Aside0.mk (And.intro (Kd.C_below CRa0_0.out.1 hb) CRa0_0.out.2); have CRa0_1 := Aside0.mk (And.intro (Kd.C_below CRa0_1.out.1 hb) CRa0_1.out.2); have HS := Aside0.mk (HS.out.step hb); clear hb; (try clear z0_0 z0_1); have z0_0 : w7.cell? ⟨w.heap.size, 0, none⟩ = some (.slice A0_0 l0_0.length c0_0) := (blk_cell (HS.out.at_ 0 rfl) 0).trans rfl; have z0_1 : w7.cell? ⟨w.heap.size, 1, none⟩ = some (.slice A0_1 l0_1.length c0_1) := (blk_cell (HS.out.at_ 0 rfl) 1).trans rfl))
    refine start_ (n := 12) (S := fun W' => Below w7.drew.heap.size w7.drew W') (ds := []) #[false, false, false, false, false, false, false, false, false, false, false, false] (by kernel_rfl) rfl rfl (Below.refl _ _) (fun hHeld => ?_)
    refine with_tabW triglyphlaw06_PickRotates.tab6 triglyphlaw06_PickRotates.bits6 (fun HT_ HW_ => ?_)
    (try clear z0_0 z0_1); have HS := Aside0.mk (HS.out.step (below_drew (Below.refl _ _)))
    have CRa0_0 := Aside0.mk (And.intro (Kd.C_below CRa0_0.out.1 (below_drew (Below.refl _ _))) CRa0_0.out.2)
    have CRa0_1 := Aside0.mk (And.intro (Kd.C_below CRa0_1.out.1 (below_drew (Below.refl _ _))) CRa0_1.out.2)
    generalize w7.drew = W9 at HS CRa0_0 CRa0_1 hHeld ⊢
    refine pure_ (i := 0) (N := some 30) (v := ?_) (a' := ?_) #[true, false, false, false, false, false, false, false, false, false, false, false] rfl rfl (any_of HT_.out (by kernel_rfl)) (fun _ _ _ h => h) (Or.inl ⟨by rfl, ?_⟩) ?_ ?_; rotate_left
    ·intro w'; go_simp; with_reducible rfl
    rotate_left
    ·simp only [Act.put, List.setIfInBounds_toArray, List.set_cons_zero, List.set_cons_succ, i64_w, i32_w]; rfl
    refine pure_ (i := 1) (N := some 31) (v := ?_) (a' := ?_) #[true, true, false, false, false, false, false, false, false, false, false, false] rfl rfl (any_of HT_.out (by kernel_rfl)) (fun _ _ _ h => h) (Or.inl ⟨by rfl, ?_⟩) ?_ ?_; rotate_left
    ·intro w'; go_simp; with_reducible rfl
    rotate_left
    ·simp only [Act.put, List.setIfInBounds_toArray, List.set_cons_zero, List.set_cons_succ, i64_w, i32_w]; rfl
    refine pure_ (i := 2) (N := some 32) (v := ?_) (a' := ?_) #[true, true, true, false, false, false, false, false, false, false, false, false] rfl rfl (any_of HT_.out (by kernel_rfl)) (fun _ _ _ h => h) (Or.inl ⟨by rfl, ?_⟩) ?_ ?_; rotate_left
    ·intro w'; go_simp; with_reducible rfl
    rotate_left
    ·simp only [Act.put, List.setIfInBounds_toArray, List.set_cons_zero, List.set_cons_succ, i64_w, i32_w]; rfl
    refine take_ (i := 4) (N := some 34) (v := ?_) (a' := ?_) #[true, true, true, false, true, false, false, false, false, false, false, false] rfl rfl (take_ofW HT_.out HW_.out (by kernel_rfl)) (fun _ _ _ h => h) (Or.inl ⟨by rfl, ?_⟩) hHeld ?_ ?_; rotate_left
    ·intro w' s0; have y0 : w'.cell? ⟨w.heap.size, 0, none⟩ = some (.slice A0_0 l0_0.length c0_0) := (blk_cell ((HS.out.step s0).at_ 0 rfl) 0).trans rfl; have y1 : w'.cell? ⟨w.heap.size, 1, none⟩ = some (.slice A0_1 l0_1.length c0_1) := (blk_cell ((HS.out.step s0).at_ 0 rfl) 1).trans rfl; go_simp; with_reducible rfl
    rotate_left
    ·simp only [Act.put, List.setIfInBounds_toArray, List.set_cons_zero, List.set_cons_succ, i64_w, i32_w]; rfl
    refine join_ (σ := Value × Value × Value × Value × Nat) 2 #[true, true, true, true, true, true, true, true, true, true, false, false] (fun s_ => [(33, .agg #[s_.1, s_.2.1]), (35, .tuple #[.agg #[s_.2.2.1, s_.2.2.2.1], .int .i64 t20_3]), (10, .pointer (some ⟨s_.2.2.2.2, 0, none⟩)), (29, .tuple #[.agg #[s_.2.2.1, s_.2.2.2.1], .int .i64 t20_3]), (36, .agg #[s_.2.2.1, s_.2.2.2.1]), (37, .int .i64 t20_3)]) (fun s_ w' => Below W9.heap.size W9 w' ∧ (∃ A_ c_, s_.1 = .slice A_ (t10_1).length c_ ∧ (t10_1).length ≤ c_ ∧ Kd.F (Kd.int .i64) w' (fun k_ => k_ ≠ s_.2.2.2.2) A_ (t10_1).length t10_1) ∧ (∃ A_ c_, s_.2.1 = .slice A_ (t10_2).length c_ ∧ (t10_2).length ≤ c_ ∧ Kd.F k45 w' (fun k_ => k_ ≠ s_.2.2.2.2) A_ (t10_2).length t10_2) ∧ (∃ A_ c_, s_.2.2.1 = .slice A_ (t20_1).length c_ ∧ (t20_1).length ≤ c_ ∧ Kd.F (Kd.int .i64) w' (fun k_ => k_ ≠ s_.2.2.2.2) A_ (t20_1).length t20_1) ∧ (∃ A_ c_, s_.2.2.2.1 = .slice A_ (t20_2).length c_ ∧ (t20_2).length ≤ c_ ∧ Kd.F k45 w' (fun k_ => k_ ≠ s_.2.2.2.2) A_ (t20_2).length t20_2) ∧ (w'.heap[s_.2.2.2.2]? = some (.cells #[.slice none 0 0, .slice none 0 0] 25 (0, 0)) ∧ W9.heap.size ≤ s_.2.2.2.2)) ?_ ?_; rotate_left
    ·intro hCont
     refine two_ (i := 3) (j := 9) (Ni := some 33) (Nj := some 10) #[true, true, true, true, true, false, false, false, false, false, false, false] #[true, true, true, false, true, false, false, false, false, true, false, false] rfl rfl rfl rfl (two_of HT_.out (by kernel_rfl)) (by decide) (by decide) (fun K hK => ?_) (fun K hK => ?_)
     ·skip
      refine goes_ Try.func16 (by kernel_rfl) rfl #[.int .i64 (wrap64 a1)] (by rfl) rfl rfl (by first | rfl | (simp only [List.map_toArray, List.map_cons, List.map_nil]; rfl)) ?_
      refine (triglyphref03_Atom.calls (wrap64 a1) _ _ _ E11.out).mono ?_
      rintro e w1 ⟨v15, v19, rfl, hv15, hv19, hb⟩
      refine ⟨_, rfl, ?_⟩
      obtain ⟨A12, c13, hv_⟩ := Kd.R_slice hv15; subst hv_; have CR14 := Aside0.mk (And.intro (hf_F1 hv15) (Kd.R_reads' hv15).2.1); clear hv15
      obtain ⟨A16, c17, hv_⟩ := Kd.R_slice hv19; subst hv_; have CR18 := Aside0.mk (And.intro (hf_F1 hv19) (Kd.R_reads' hv19).2.1); clear hv19
      have hHeld := hHeld.trans (hb.mono hHeld.size); clear hb
      refine hK.out _ _ hHeld (fun hHeld => ?_); clear hK K
      refine norm_ (a' := ?_) ?_ ?_; rotate_left
      ·show Act.put _ (some 33) _ = _
       simp only [Act.put, List.setIfInBounds_toArray, List.set_cons_zero, List.set_cons_succ, i64_w, i32_w]; rfl
      refine two_ (i := 5) (j := 9) (Ni := some 35) (Nj := some 10) #[true, true, true, true, true, true, false, false, false, false, false, false] #[true, true, true, true, true, false, false, false, false, true, false, false] rfl rfl rfl rfl (two_of HT_.out (by kernel_rfl)) (by decide) (by decide) (fun K hK => ?_) (fun K hK => ?_)
      ·skip
       refine goes_ Try.func11 (by kernel_rfl) rfl #[.int .i64 45, .agg #[.slice A12 t10_1.length c13, .slice A16 t10_2.length c17], .agg #[.slice A0_0 l0_0.length c0_0, .slice A0_1 l0_1.length c0_1]] (by rfl) rfl rfl (by first | rfl | (simp only [List.map_toArray, List.map_cons, List.map_nil]; rfl)) ?_
       refine (pick_Dy.calls k 45 _ A12 c13 t10_1 _ A16 c17 t10_2 _ A0_0 c0_0 l0_0 _ A0_1 c0_1 l0_1 _ _ _ _ (Kd.V_mk CR14.out.2 CR14.out.1) (Kd.V_mk CR18.out.2 CR18.out.1) (Kd.V_mk CRa0_0.out.2 (hf_F6 (Kd.C_F (Kd.heap_int .i64) CRa0_0.out.1) hHeld)) (Kd.V_mk CRa0_1.out.2 (hf_F6 (Kd.C_F k45_heap CRa0_1.out.1) hHeld)) E21.out).mono ?_
       rintro e w1 ⟨v25, v29, rfl, hv25, hv29, hb⟩
       refine ⟨_, rfl, ?_⟩
       obtain ⟨A22, c23, hv_, hl_, hf_⟩ := hv25; subst hv_; have CR24 := Aside0.mk (And.intro (Kd.F_mono (ok' := fun _ => True) hf_ (fun _ _ => trivial)) hl_); clear hf_ hl_
       obtain ⟨A26, c27, hv_, hl_, hf_⟩ := hv29; subst hv_; have CR28 := Aside0.mk (And.intro (Kd.F_mono (ok' := fun _ => True) hf_ (fun _ _ => trivial)) hl_); clear hf_ hl_
       have CR14 := Aside0.mk (And.intro (hf_F4 CR14.out.1 hb) CR14.out.2)
       have CR18 := Aside0.mk (And.intro (hf_F4 CR18.out.1 hb) CR18.out.2)
       have hHeld := hHeld.trans (hb.mono hHeld.size); clear hb
       refine hK.out _ _ hHeld (fun hHeld => ?_); clear hK K
       refine norm_ (a' := ?_) ?_ ?_; rotate_left
       ·show Act.put _ (some 35) _ = _
        simp only [Act.put, List.setIfInBounds_toArray, List.set_cons_zero, List.set_cons_succ, i64_w, i32_w]; rfl
       refine pure_ (i := 6) (N := some 29) (v := ?_) (a' := ?_) #[true, true, true, true, true, true, true, false, false, false, false, false] rfl rfl (any_of HT_.out (by kernel_rfl)) (fun _ _ _ h => h) (Or.inl ⟨by rfl, ?_⟩) ?_ ?_; rotate_left
       ·intro w'; go_simp; with_reducible rfl
       rotate_left
       ·simp only [Act.put, List.setIfInBounds_toArray, List.set_cons_zero, List.set_cons_succ, i64_w, i32_w]; rfl
       refine pure_ (i := 7) (N := some 36) (v := ?_) (a' := ?_) #[true, true, true, true, true, true, true, true, false, false, false, false] rfl rfl (any_of HT_.out (by kernel_rfl)) (fun _ _ _ h => h) (Or.inl ⟨by rfl, ?_⟩) ?_ ?_; rotate_left
       ·intro w'; go_simp; with_reducible rfl
       rotate_left
       ·simp only [Act.put, List.setIfInBounds_toArray, List.set_cons_zero, List.set_cons_succ, i64_w, i32_w]; rfl
       refine pure_ (i := 8) (N := some 37) (v := ?_) (a' := ?_) #[true, true, true, true, true, true, true, true, true, false, false, false] rfl rfl (any_of HT_.out (by kernel_rfl)) (fun _ _ _ h => h) (Or.inl ⟨by rfl, ?_⟩) ?_ ?_; rotate_left
       ·intro w'; go_simp; with_reducible rfl
       rotate_left
       ·simp only [Act.put, List.setIfInBounds_toArray, List.set_cons_zero, List.set_cons_succ, i64_w, i32_w]; rfl
       refine one_ (i := 9) (N := some 10) #[true, true, true, true, true, true, true, true, true, true, false, false] rfl rfl (one_of HT_.out (by kernel_rfl)) (by decide) (fun K hK => ?_)
       refine box_step ?hg (N := 10) ?hd (cs := #[.slice none 0 0, .slice none 0 0]) (t := 25) ?hr ?_; (case hd => rfl); (case hg => rfl); (case hr => first | (go_simp; done) | (go_simp; rfl))
       intro g30 hg w1 hbox hb
       have HGg30 := Aside0.mk hbox; have HLg30 : Aside0 (W9.heap.size ≤ g30) := ⟨Nat.le_trans hHeld.size (Nat.le_of_eq hg.symm)⟩; have HM : Aside0 (g30 < w1.heap.size) := ⟨blk_lt hbox⟩; clear hbox
       have CR14 := Aside0.mk (And.intro (hf_F3 hg CR14.out.1 hb) CR14.out.2)
       have CR18 := Aside0.mk (And.intro (hf_F3 hg CR18.out.1 hb) CR18.out.2)
       have CR24 := Aside0.mk (And.intro (hf_F3 hg CR24.out.1 hb) CR24.out.2)
       have CR28 := Aside0.mk (And.intro (hf_F3 hg CR28.out.1 hb) CR28.out.2)
       clear hg
       have hHeld := hHeld.trans (hb.mono hHeld.size); clear hb
       refine hK.out _ _ hHeld (fun hHeld => ?_); clear hK K
       refine norm_ (a' := ?_) ?_ ?_; rotate_left
       ·show Act.put _ (some 10) _ = _
        simp only [Act.put, List.setIfInBounds_toArray, List.set_cons_zero, List.set_cons_succ, i64_w, i32_w]; rfl
       exact norm_ (by simp only [putAll, Act.put, List.setIfInBounds_toArray, List.set_cons_zero, List.set_cons_succ]) (hCont (.slice A12 t10_1.length c13, .slice A16 t10_2.length c17, .slice A22 t20_1.length c23, .slice A26 t20_2.length c27, g30) _ ⟨hHeld, ⟨_, _, rfl, CR14.out.2, CR14.out.1⟩, ⟨_, _, rfl, CR18.out.2, CR18.out.1⟩, ⟨_, _, rfl, CR24.out.2, CR24.out.1⟩, ⟨_, _, rfl, CR28.out.2, CR28.out.1⟩, ⟨HGg30.out, HLg30.out⟩⟩)
      ·skip
       refine box_step ?hg (N := 10) ?hd (cs := #[.slice none 0 0, .slice none 0 0]) (t := 25) ?hr ?_; (case hd => rfl); (case hg => rfl); (case hr => first | (go_simp; done) | (go_simp; rfl))
       intro g30 hg w1 hbox hb
       have HGg30 := Aside0.mk hbox; have HLg30 : Aside0 (W9.heap.size ≤ g30) := ⟨Nat.le_trans hHeld.size (Nat.le_of_eq hg.symm)⟩; have HM : Aside0 (g30 < w1.heap.size) := ⟨blk_lt hbox⟩; clear hbox
       have CR14 := Aside0.mk (And.intro (hf_F3 hg CR14.out.1 hb) CR14.out.2)
       have CR18 := Aside0.mk (And.intro (hf_F3 hg CR18.out.1 hb) CR18.out.2)
       clear hg
       have hHeld := hHeld.trans (hb.mono hHeld.size); clear hb
       refine hK.out _ _ hHeld (fun hHeld => ?_); clear hK K
       refine norm_ (a' := ?_) ?_ ?_; rotate_left
       ·show Act.put _ (some 10) _ = _
        simp only [Act.put, List.setIfInBounds_toArray, List.set_cons_zero, List.set_cons_succ, i64_w, i32_w]; rfl
       refine one_ (i := 5) (N := some 35) #[true, true, true, true, true, true, false, false, false, true, false, false] rfl rfl (one_of HT_.out (by kernel_rfl)) (by decide) (fun K hK => ?_)
       refine goes_ Try.func11 (by kernel_rfl) rfl #[.int .i64 45, .agg #[.slice A12 t10_1.length c13, .slice A16 t10_2.length c17], .agg #[.slice A0_0 l0_0.length c0_0, .slice A0_1 l0_1.length c0_1]] (by rfl) rfl rfl (by first | rfl | (simp only [List.map_toArray, List.map_cons, List.map_nil]; rfl)) ?_
       refine (pick_Dy.calls k 45 _ A12 c13 t10_1 _ A16 c17 t10_2 _ A0_0 c0_0 l0_0 _ A0_1 c0_1 l0_1 _ _ _ _ (Kd.V_mk CR14.out.2 CR14.out.1) (Kd.V_mk CR18.out.2 CR18.out.1) (Kd.V_mk CRa0_0.out.2 (hf_F6 (Kd.C_F (Kd.heap_int .i64) CRa0_0.out.1) hHeld)) (Kd.V_mk CRa0_1.out.2 (hf_F6 (Kd.C_F k45_heap CRa0_1.out.1) hHeld)) E21.out).mono ?_
       rintro e w1 ⟨v25, v29, rfl, hv25, hv29, hb⟩
       refine ⟨_, rfl, ?_⟩
       obtain ⟨A22, c23, hv_, hl_, hf_⟩ := hv25; subst hv_; have CR24 := Aside0.mk (And.intro (Kd.F_mono (ok' := fun k_ => k_ ≠ g30) hf_ (fun k hk => by (try dsimp only at hk); have h1 := HLg30.out; have h2 := HM.out; omega)) hl_); clear hf_ hl_
       obtain ⟨A26, c27, hv_, hl_, hf_⟩ := hv29; subst hv_; have CR28 := Aside0.mk (And.intro (Kd.F_mono (ok' := fun k_ => k_ ≠ g30) hf_ (fun k hk => by (try dsimp only at hk); have h1 := HLg30.out; have h2 := HM.out; omega)) hl_); clear hf_ hl_
       have CR14 := Aside0.mk (And.intro (hf_F4 CR14.out.1 hb) CR14.out.2)
       have CR18 := Aside0.mk (And.intro (hf_F4 CR18.out.1 hb) CR18.out.2)
       have HGg30 := Aside0.mk (blk_below HGg30.out hb); have HM := Aside0.mk (Nat.lt_of_lt_of_le HM.out (Below.size hb))
       have hHeld := hHeld.trans (hb.mono hHeld.size); clear hb
       refine hK.out _ _ hHeld (fun hHeld => ?_); clear hK K
       refine norm_ (a' := ?_) ?_ ?_; rotate_left
       ·show Act.put _ (some 35) _ = _
        simp only [Act.put, List.setIfInBounds_toArray, List.set_cons_zero, List.set_cons_succ, i64_w, i32_w]; rfl
       refine pure_ (i := 6) (N := some 29) (v := ?_) (a' := ?_) #[true, true, true, true, true, true, true, false, false, true, false, false] rfl rfl (any_of HT_.out (by kernel_rfl)) (fun _ _ _ h => h) (Or.inl ⟨by rfl, ?_⟩) ?_ ?_; rotate_left
       ·intro w'; go_simp; with_reducible rfl
       rotate_left
       ·simp only [Act.put, List.setIfInBounds_toArray, List.set_cons_zero, List.set_cons_succ, i64_w, i32_w]; rfl
       refine pure_ (i := 7) (N := some 36) (v := ?_) (a' := ?_) #[true, true, true, true, true, true, true, true, false, true, false, false] rfl rfl (any_of HT_.out (by kernel_rfl)) (fun _ _ _ h => h) (Or.inl ⟨by rfl, ?_⟩) ?_ ?_; rotate_left
       ·intro w'; go_simp; with_reducible rfl
       rotate_left
       ·simp only [Act.put, List.setIfInBounds_toArray, List.set_cons_zero, List.set_cons_succ, i64_w, i32_w]; rfl
       refine pure_ (i := 8) (N := some 37) (v := ?_) (a' := ?_) #[true, true, true, true, true, true, true, true, true, true, false, false] rfl rfl (any_of HT_.out (by kernel_rfl)) (fun _ _ _ h => h) (Or.inl ⟨by rfl, ?_⟩) ?_ ?_; rotate_left
       ·intro w'; go_simp; with_reducible rfl
       rotate_left
       ·simp only [Act.put, List.setIfInBounds_toArray, List.set_cons_zero, List.set_cons_succ, i64_w, i32_w]; rfl
       exact norm_ (by simp only [putAll, Act.put, List.setIfInBounds_toArray, List.set_cons_zero, List.set_cons_succ]) (hCont (.slice A12 t10_1.length c13, .slice A16 t10_2.length c17, .slice A22 t20_1.length c23, .slice A26 t20_2.length c27, g30) _ ⟨hHeld, ⟨_, _, rfl, CR14.out.2, CR14.out.1⟩, ⟨_, _, rfl, CR18.out.2, CR18.out.1⟩, ⟨_, _, rfl, CR24.out.2, CR24.out.1⟩, ⟨_, _, rfl, CR28.out.2, CR28.out.1⟩, ⟨HGg30.out, HLg30.out⟩⟩)
     ·skip
      refine box_step ?hg (N := 10) ?hd (cs := #[.slice none 0 0, .slice none 0 0]) (t := 25) ?hr ?_; (case hd => rfl); (case hg => rfl); (case hr => first | (go_simp; done) | (go_simp; rfl))
      intro g30 hg w1 hbox hb
      have HGg30 := Aside0.mk hbox; have HLg30 : Aside0 (W9.heap.size ≤ g30) := ⟨Nat.le_trans hHeld.size (Nat.le_of_eq hg.symm)⟩; have HM : Aside0 (g30 < w1.heap.size) := ⟨blk_lt hbox⟩; clear hbox
      clear hg
      have hHeld := hHeld.trans (hb.mono hHeld.size); clear hb
      refine hK.out _ _ hHeld (fun hHeld => ?_); clear hK K
      refine norm_ (a' := ?_) ?_ ?_; rotate_left
      ·show Act.put _ (some 10) _ = _
       simp only [Act.put, List.setIfInBounds_toArray, List.set_cons_zero, List.set_cons_succ, i64_w, i32_w]; rfl
      refine one_ (i := 3) (N := some 33) #[true, true, true, true, true, false, false, false, false, true, false, false] rfl rfl (one_of HT_.out (by kernel_rfl)) (by decide) (fun K hK => ?_)
      refine goes_ Try.func16 (by kernel_rfl) rfl #[.int .i64 (wrap64 a1)] (by rfl) rfl rfl (by first | rfl | (simp only [List.map_toArray, List.map_cons, List.map_nil]; rfl)) ?_
      refine (triglyphref03_Atom.calls (wrap64 a1) _ _ _ E11.out).mono ?_
      rintro e w1 ⟨v15, v19, rfl, hv15, hv19, hb⟩
      refine ⟨_, rfl, ?_⟩
      obtain ⟨A12, c13, hv_⟩ := Kd.R_slice hv15; subst hv_; have CR14 := Aside0.mk (And.intro (hf_F2 hv15 HM.out) (Kd.R_reads' hv15).2.1); clear hv15
      obtain ⟨A16, c17, hv_⟩ := Kd.R_slice hv19; subst hv_; have CR18 := Aside0.mk (And.intro (hf_F2 hv19 HM.out) (Kd.R_reads' hv19).2.1); clear hv19
      have HGg30 := Aside0.mk (blk_below HGg30.out hb); have HM := Aside0.mk (Nat.lt_of_lt_of_le HM.out (Below.size hb))
      have hHeld := hHeld.trans (hb.mono hHeld.size); clear hb
      refine hK.out _ _ hHeld (fun hHeld => ?_); clear hK K
      refine norm_ (a' := ?_) ?_ ?_; rotate_left
      ·show Act.put _ (some 33) _ = _
       simp only [Act.put, List.setIfInBounds_toArray, List.set_cons_zero, List.set_cons_succ, i64_w, i32_w]; rfl
      refine one_ (i := 5) (N := some 35) #[true, true, true, true, true, true, false, false, false, true, false, false] rfl rfl (one_of HT_.out (by kernel_rfl)) (by decide) (fun K hK => ?_)
      refine goes_ Try.func11 (by kernel_rfl) rfl #[.int .i64 45, .agg #[.slice A12 t10_1.length c13, .slice A16 t10_2.length c17], .agg #[.slice A0_0 l0_0.length c0_0, .slice A0_1 l0_1.length c0_1]] (by rfl) rfl rfl (by first | rfl | (simp only [List.map_toArray, List.map_cons, List.map_nil]; rfl)) ?_
      refine (pick_Dy.calls k 45 _ A12 c13 t10_1 _ A16 c17 t10_2 _ A0_0 c0_0 l0_0 _ A0_1 c0_1 l0_1 _ _ _ _ (Kd.V_mk CR14.out.2 CR14.out.1) (Kd.V_mk CR18.out.2 CR18.out.1) (Kd.V_mk CRa0_0.out.2 (hf_F6 (Kd.C_F (Kd.heap_int .i64) CRa0_0.out.1) hHeld)) (Kd.V_mk CRa0_1.out.2 (hf_F6 (Kd.C_F k45_heap CRa0_1.out.1) hHeld)) E21.out).mono ?_
      rintro e w1 ⟨v25, v29, rfl, hv25, hv29, hb⟩
      refine ⟨_, rfl, ?_⟩
      obtain ⟨A22, c23, hv_, hl_, hf_⟩ := hv25; subst hv_; have CR24 := Aside0.mk (And.intro (Kd.F_mono (ok' := fun k_ => k_ ≠ g30) hf_ (fun k hk => by (try dsimp only at hk); have h1 := HLg30.out; have h2 := HM.out; omega)) hl_); clear hf_ hl_
      obtain ⟨A26, c27, hv_, hl_, hf_⟩ := hv29; subst hv_; have CR28 := Aside0.mk (And.intro (Kd.F_mono (ok' := fun k_ => k_ ≠ g30) hf_ (fun k hk => by (try dsimp only at hk); have h1 := HLg30.out; have h2 := HM.out; omega)) hl_); clear hf_ hl_
      have HGg30 := Aside0.mk (blk_below HGg30.out hb); have HM := Aside0.mk (Nat.lt_of_lt_of_le HM.out (Below.size hb))
      have CR14 := Aside0.mk (And.intro (hf_F4 CR14.out.1 hb) CR14.out.2)
      have CR18 := Aside0.mk (And.intro (hf_F4 CR18.out.1 hb) CR18.out.2)
      have hHeld := hHeld.trans (hb.mono hHeld.size); clear hb
      refine hK.out _ _ hHeld (fun hHeld => ?_); clear hK K
      refine norm_ (a' := ?_) ?_ ?_; rotate_left
      ·show Act.put _ (some 35) _ = _
       simp only [Act.put, List.setIfInBounds_toArray, List.set_cons_zero, List.set_cons_succ, i64_w, i32_w]; rfl
      refine pure_ (i := 6) (N := some 29) (v := ?_) (a' := ?_) #[true, true, true, true, true, true, true, false, false, true, false, false] rfl rfl (any_of HT_.out (by kernel_rfl)) (fun _ _ _ h => h) (Or.inl ⟨by rfl, ?_⟩) ?_ ?_; rotate_left
      ·intro w'; go_simp; with_reducible rfl
      rotate_left
      ·simp only [Act.put, List.setIfInBounds_toArray, List.set_cons_zero, List.set_cons_succ, i64_w, i32_w]; rfl
      refine pure_ (i := 7) (N := some 36) (v := ?_) (a' := ?_) #[true, true, true, true, true, true, true, true, false, true, false, false] rfl rfl (any_of HT_.out (by kernel_rfl)) (fun _ _ _ h => h) (Or.inl ⟨by rfl, ?_⟩) ?_ ?_; rotate_left
      ·intro w'; go_simp; with_reducible rfl
      rotate_left
      ·simp only [Act.put, List.setIfInBounds_toArray, List.set_cons_zero, List.set_cons_succ, i64_w, i32_w]; rfl
      refine pure_ (i := 8) (N := some 37) (v := ?_) (a' := ?_) #[true, true, true, true, true, true, true, true, true, true, false, false] rfl rfl (any_of HT_.out (by kernel_rfl)) (fun _ _ _ h => h) (Or.inl ⟨by rfl, ?_⟩) ?_ ?_; rotate_left
      ·intro w'; go_simp; with_reducible rfl
      rotate_left
      ·simp only [Act.put, List.setIfInBounds_toArray, List.set_cons_zero, List.set_cons_succ, i64_w, i32_w]; rfl
      exact norm_ (by simp only [putAll, Act.put, List.setIfInBounds_toArray, List.set_cons_zero, List.set_cons_succ]) (hCont (.slice A12 t10_1.length c13, .slice A16 t10_2.length c17, .slice A22 t20_1.length c23, .slice A26 t20_2.length c27, g30) _ ⟨hHeld, ⟨_, _, rfl, CR14.out.2, CR14.out.1⟩, ⟨_, _, rfl, CR18.out.2, CR18.out.1⟩, ⟨_, _, rfl, CR24.out.2, CR24.out.1⟩, ⟨_, _, rfl, CR28.out.2, CR28.out.1⟩, ⟨HGg30.out, HLg30.out⟩⟩)
    rintro ⟨v15, v19, v25, v29, g30⟩ w31 ⟨hHeld, hF0_, hF1_, hF2_, hF3_, hF4_⟩
    dsimp only at hF0_ hF1_ hF2_ hF3_ hF4_
    obtain ⟨A12, c13, hv_, hl_, hf_⟩ := hF0_; have CR14 := Aside0.mk (And.intro hf_ hl_); clear hf_ hl_; subst hv_
    obtain ⟨A16, c17, hv_, hl_, hf_⟩ := hF1_; have CR18 := Aside0.mk (And.intro hf_ hl_); clear hf_ hl_; subst hv_
    obtain ⟨A22, c23, hv_, hl_, hf_⟩ := hF2_; have CR24 := Aside0.mk (And.intro hf_ hl_); clear hf_ hl_; subst hv_
    obtain ⟨A26, c27, hv_, hl_, hf_⟩ := hF3_; have CR28 := Aside0.mk (And.intro hf_ hl_); clear hf_ hl_; subst hv_
    have HG := Aside0.mk hF4_; clear hF4_
    refine norm_ (a' := ?_) ?_ ?_; rotate_left
    ·simp only [putAll, Act.put, List.setIfInBounds_toArray, List.set_cons_zero, List.set_cons_succ]; rfl
    refine one_ (i := 10) (N := none) #[true, true, true, true, true, true, true, true, true, true, true, false] rfl rfl (one_of HT_.out (by kernel_rfl)) (by decide) (fun K hK => ?_)
    have y0 : w31.cell? ⟨g30, 0, none⟩ = some (.slice none 0 0) := (blk_cell HG.out.1 0).trans rfl; have u0 := blk_frozen HG.out.1 0; have y1 : w31.cell? ⟨g30, 1, none⟩ = some (.slice none 0 0) := (blk_cell HG.out.1 1).trans rfl; have u1 := blk_frozen HG.out.1 1
    refine skip_ (w1 := ?_) (by rfl) rfl ?_ ?_; rotate_left
    ·go_simp; rfl
    have HB2 := Aside0.mk (hf_st2 hHeld HG.out.2 (.slice A22 t20_1.length c23) (.slice A26 t20_2.length c27))
    have CR14 := Aside0.mk (And.intro (hf_F5a CR14.out.1 (.slice A22 t20_1.length c23) (.slice A26 t20_2.length c27)) CR14.out.2)
    have CR18 := Aside0.mk (And.intro (hf_F5a CR18.out.1 (.slice A22 t20_1.length c23) (.slice A26 t20_2.length c27)) CR18.out.2)
    have CR24 := Aside0.mk (And.intro (hf_F5a CR24.out.1 (.slice A22 t20_1.length c23) (.slice A26 t20_2.length c27)) CR24.out.2)
    have CR28 := Aside0.mk (And.intro (hf_F5a CR28.out.1 (.slice A22 t20_1.length c23) (.slice A26 t20_2.length c27)) CR28.out.2)
    have HG := Aside0.mk (And.intro (hf_z2 HG.out.1 (.slice A22 t20_1.length c23) (.slice A26 t20_2.length c27)) HG.out.2)
    refine hK.out _ _ HB2.out (fun hHeld => ?_); clear hK K HB2 y0 u0 y1 u1
    generalize (w31.setCell _ _).setCell _ _ = w32 at hHeld HG CR14 CR18 CR24 CR28 ⊢
    refine pure_ (i := 11) (N := some 11) (v := ?_) (a' := ?_) #[true, true, true, true, true, true, true, true, true, true, true, true] rfl rfl (any_of HT_.out (by kernel_rfl)) (fun _ _ _ h => h) (Or.inl ⟨by rfl, ?_⟩) ?_ ?_; rotate_left
    ·intro w'; go_simp; with_reducible rfl
    rotate_left
    ·simp only [Act.put, List.setIfInBounds_toArray, List.set_cons_zero, List.set_cons_succ, i64_w, i32_w]; rfl
    refine done_ (done_of HT_.out (by kernel_rfl)) ?_
    have CR14 := Aside0.mk (And.intro (Kd.F_now CR14.out.1) CR14.out.2)
    have CR18 := Aside0.mk (And.intro (Kd.F_now CR18.out.1) CR18.out.2)
    have CR24 := Aside0.mk (And.intro (Kd.F_now CR24.out.1) CR24.out.2)
    have CR28 := Aside0.mk (And.intro (Kd.F_now CR28.out.1) CR28.out.2)
    have CRa0_0 := Aside0.mk (And.intro (Kd.C_below CRa0_0.out.1 hHeld) CRa0_0.out.2)
    have CRa0_1 := Aside0.mk (And.intro (Kd.C_below CRa0_1.out.1 hHeld) CRa0_1.out.2)
    have HS := Aside0.mk (BxS.add HS.out hHeld HG.out.1 HG.out.2)
    clear hHeld HG
    have z0_0 : w32.cell? ⟨w.heap.size, 0, none⟩ = some (.slice A0_0 l0_0.length c0_0) := (blk_cell (HS.out.at_ 1 rfl) 0).trans rfl; have z0_1 : w32.cell? ⟨w.heap.size, 1, none⟩ = some (.slice A0_1 l0_1.length c0_1) := (blk_cell (HS.out.at_ 1 rfl) 1).trans rfl; have z1_0 : w32.cell? ⟨g30, 0, none⟩ = some (.slice A22 t20_1.length c23) := (blk_cell (HS.out.at_ 0 rfl) 0).trans rfl; have z1_1 : w32.cell? ⟨g30, 1, none⟩ = some (.slice A26 t20_2.length c27) := (blk_cell (HS.out.at_ 0 rfl) 1).trans rfl
    obtain ⟨⟨t34_1, t34_2⟩, q_, h⟩ := Option.bind_eq_some_iff.1 h; have E35 := Aside0.mk q_; clear q_; (try dsimp only at h)
    obtain ⟨⟨t44_1, t44_2, t44_3⟩, q_, h⟩ := Option.bind_eq_some_iff.1 h; have E45 := Aside0.mk q_; clear q_; (try dsimp only at h)
    go_upto_region 7 with (fail)
    refine start_ (n := 12) (S := fun W' => Below w32.drew.heap.size w32.drew W') (ds := []) #[false, false, false, false, false, false, false, false, false, false, false, false] (by kernel_rfl) rfl rfl (Below.refl _ _) (fun hHeld => ?_)
    refine with_tabW triglyphlaw06_PickRotates.tab7 triglyphlaw06_PickRotates.bits7 (fun HT_ HW_ => ?_)
    (try clear z0_0 z0_1 z1_0 z1_1); have HS := Aside0.mk (HS.out.step (below_drew (Below.refl _ _)))
    have CRa0_0 := Aside0.mk (And.intro (Kd.C_below CRa0_0.out.1 (below_drew (Below.refl _ _))) CRa0_0.out.2)
    have CRa0_1 := Aside0.mk (And.intro (Kd.C_below CRa0_1.out.1 (below_drew (Below.refl _ _))) CRa0_1.out.2)
    have CR14 := Aside0.mk (And.intro (Kd.C_below CR14.out.1 (below_drew (Below.refl _ _))) CR14.out.2)
    have CR18 := Aside0.mk (And.intro (Kd.C_below CR18.out.1 (below_drew (Below.refl _ _))) CR18.out.2)
    have CR24 := Aside0.mk (And.intro (Kd.C_below CR24.out.1 (below_drew (Below.refl _ _))) CR24.out.2)
    have CR28 := Aside0.mk (And.intro (Kd.C_below CR28.out.1 (below_drew (Below.refl _ _))) CR28.out.2)
    generalize w32.drew = W33 at HS CRa0_0 CRa0_1 CR14 CR18 CR24 CR28 hHeld ⊢
    refine pure_ (i := 0) (N := some 39) (v := ?_) (a' := ?_) #[true, false, false, false, false, false, false, false, false, false, false, false] rfl rfl (any_of HT_.out (by kernel_rfl)) (fun _ _ _ h => h) (Or.inl ⟨by rfl, ?_⟩) ?_ ?_; rotate_left
    ·intro w'; go_simp; with_reducible rfl
    rotate_left
    ·simp only [Act.put, List.setIfInBounds_toArray, List.set_cons_zero, List.set_cons_succ, i64_w, i32_w]; rfl
    refine pure_ (i := 1) (N := some 40) (v := ?_) (a' := ?_) #[true, true, false, false, false, false, false, false, false, false, false, false] rfl rfl (any_of HT_.out (by kernel_rfl)) (fun _ _ _ h => h) (Or.inl ⟨by rfl, ?_⟩) ?_ ?_; rotate_left
    ·intro w'; go_simp; with_reducible rfl
    rotate_left
    ·simp only [Act.put, List.setIfInBounds_toArray, List.set_cons_zero, List.set_cons_succ, i64_w, i32_w]; rfl
    refine pure_ (i := 2) (N := some 41) (v := ?_) (a' := ?_) #[true, true, true, false, false, false, false, false, false, false, false, false] rfl rfl (any_of HT_.out (by kernel_rfl)) (fun _ _ _ h => h) (Or.inl ⟨by rfl, ?_⟩) ?_ ?_; rotate_left
    ·intro w'; go_simp; with_reducible rfl
    rotate_left
    ·simp only [Act.put, List.setIfInBounds_toArray, List.set_cons_zero, List.set_cons_succ, i64_w, i32_w]; rfl
    refine take_ (i := 4) (N := some 43) (v := ?_) (a' := ?_) #[true, true, true, false, true, false, false, false, false, false, false, false] rfl rfl (take_ofW HT_.out HW_.out (by kernel_rfl)) (fun _ _ _ h => h) (Or.inl ⟨by rfl, ?_⟩) hHeld ?_ ?_; rotate_left
    ·intro w' s0; have y0 : w'.cell? ⟨g30, 0, none⟩ = some (.slice A22 t20_1.length c23) := (blk_cell ((HS.out.step s0).at_ 0 rfl) 0).trans rfl; have y1 : w'.cell? ⟨g30, 1, none⟩ = some (.slice A26 t20_2.length c27) := (blk_cell ((HS.out.step s0).at_ 0 rfl) 1).trans rfl; go_simp; with_reducible rfl
    rotate_left
    ·simp only [Act.put, List.setIfInBounds_toArray, List.set_cons_zero, List.set_cons_succ, i64_w, i32_w]; rfl
    refine join_ (σ := Value × Value × Value × Value × Nat) 2 #[true, true, true, true, true, true, true, true, true, true, false, false] (fun s_ => [(42, .agg #[s_.1, s_.2.1]), (44, .tuple #[.agg #[s_.2.2.1, s_.2.2.2.1], .int .i64 t44_3]), (12, .pointer (some ⟨s_.2.2.2.2, 0, none⟩)), (38, .tuple #[.agg #[s_.2.2.1, s_.2.2.2.1], .int .i64 t44_3]), (45, .agg #[s_.2.2.1, s_.2.2.2.1]), (46, .int .i64 t44_3)]) (fun s_ w' => Below W33.heap.size W33 w' ∧ (∃ A_ c_, s_.1 = .slice A_ (t34_1).length c_ ∧ (t34_1).length ≤ c_ ∧ Kd.F (Kd.int .i64) w' (fun k_ => k_ ≠ s_.2.2.2.2) A_ (t34_1).length t34_1) ∧ (∃ A_ c_, s_.2.1 = .slice A_ (t34_2).length c_ ∧ (t34_2).length ≤ c_ ∧ Kd.F k45 w' (fun k_ => k_ ≠ s_.2.2.2.2) A_ (t34_2).length t34_2) ∧ (∃ A_ c_, s_.2.2.1 = .slice A_ (t44_1).length c_ ∧ (t44_1).length ≤ c_ ∧ Kd.F (Kd.int .i64) w' (fun k_ => k_ ≠ s_.2.2.2.2) A_ (t44_1).length t44_1) ∧ (∃ A_ c_, s_.2.2.2.1 = .slice A_ (t44_2).length c_ ∧ (t44_2).length ≤ c_ ∧ Kd.F k45 w' (fun k_ => k_ ≠ s_.2.2.2.2) A_ (t44_2).length t44_2) ∧ (w'.heap[s_.2.2.2.2]? = some (.cells #[.slice none 0 0, .slice none 0 0] 25 (0, 0)) ∧ W33.heap.size ≤ s_.2.2.2.2)) ?_ ?_; rotate_left
    ·intro hCont
     refine two_ (i := 3) (j := 9) (Ni := some 42) (Nj := some 12) #[true, true, true, true, true, false, false, false, false, false, false, false] #[true, true, true, false, true, false, false, false, false, true, false, false] rfl rfl rfl rfl (two_of HT_.out (by kernel_rfl)) (by decide) (by decide) (fun K hK => ?_) (fun K hK => ?_)
     ·skip
      refine goes_ Try.func16 (by kernel_rfl) rfl #[.int .i64 (wrap64 a2)] (by rfl) rfl rfl (by first | rfl | (simp only [List.map_toArray, List.map_cons, List.map_nil]; rfl)) ?_
      refine (triglyphref03_Atom.calls (wrap64 a2) _ _ _ E35.out).mono ?_
      rintro e w1 ⟨v39, v43, rfl, hv39, hv43, hb⟩
      refine ⟨_, rfl, ?_⟩
      obtain ⟨A36, c37, hv_⟩ := Kd.R_slice hv39; subst hv_; have CR38 := Aside0.mk (And.intro (hf_F1 hv39) (Kd.R_reads' hv39).2.1); clear hv39
      obtain ⟨A40, c41, hv_⟩ := Kd.R_slice hv43; subst hv_; have CR42 := Aside0.mk (And.intro (hf_F1 hv43) (Kd.R_reads' hv43).2.1); clear hv43
      have hHeld := hHeld.trans (hb.mono hHeld.size); clear hb
      refine hK.out _ _ hHeld (fun hHeld => ?_); clear hK K
      refine norm_ (a' := ?_) ?_ ?_; rotate_left
      ·show Act.put _ (some 42) _ = _
       simp only [Act.put, List.setIfInBounds_toArray, List.set_cons_zero, List.set_cons_succ, i64_w, i32_w]; rfl
      refine two_ (i := 5) (j := 9) (Ni := some 44) (Nj := some 12) #[true, true, true, true, true, true, false, false, false, false, false, false] #[true, true, true, true, true, false, false, false, false, true, false, false] rfl rfl rfl rfl (two_of HT_.out (by kernel_rfl)) (by decide) (by decide) (fun K hK => ?_) (fun K hK => ?_)
      ·skip
       refine goes_ Try.func11 (by kernel_rfl) rfl #[.int .i64 45, .agg #[.slice A36 t34_1.length c37, .slice A40 t34_2.length c41], .agg #[.slice A22 t20_1.length c23, .slice A26 t20_2.length c27]] (by rfl) rfl rfl (by first | rfl | (simp only [List.map_toArray, List.map_cons, List.map_nil]; rfl)) ?_
       refine (pick_Dy.calls k 45 _ A36 c37 t34_1 _ A40 c41 t34_2 _ A22 c23 t20_1 _ A26 c27 t20_2 _ _ _ _ (Kd.V_mk CR38.out.2 CR38.out.1) (Kd.V_mk CR42.out.2 CR42.out.1) (Kd.V_mk CR24.out.2 (hf_F6 (Kd.C_F (Kd.heap_int .i64) CR24.out.1) hHeld)) (Kd.V_mk CR28.out.2 (hf_F6 (Kd.C_F k45_heap CR28.out.1) hHeld)) E45.out).mono ?_
       rintro e w1 ⟨v49, v53, rfl, hv49, hv53, hb⟩
       refine ⟨_, rfl, ?_⟩
       obtain ⟨A46, c47, hv_, hl_, hf_⟩ := hv49; subst hv_; have CR48 := Aside0.mk (And.intro (Kd.F_mono (ok' := fun _ => True) hf_ (fun _ _ => trivial)) hl_); clear hf_ hl_
       obtain ⟨A50, c51, hv_, hl_, hf_⟩ := hv53; subst hv_; have CR52 := Aside0.mk (And.intro (Kd.F_mono (ok' := fun _ => True) hf_ (fun _ _ => trivial)) hl_); clear hf_ hl_
       have CR38 := Aside0.mk (And.intro (hf_F4 CR38.out.1 hb) CR38.out.2)
       have CR42 := Aside0.mk (And.intro (hf_F4 CR42.out.1 hb) CR42.out.2)
       have hHeld := hHeld.trans (hb.mono hHeld.size); clear hb
       refine hK.out _ _ hHeld (fun hHeld => ?_); clear hK K
       refine norm_ (a' := ?_) ?_ ?_; rotate_left
       ·show Act.put _ (some 44) _ = _
        simp only [Act.put, List.setIfInBounds_toArray, List.set_cons_zero, List.set_cons_succ, i64_w, i32_w]; rfl
       refine pure_ (i := 6) (N := some 38) (v := ?_) (a' := ?_) #[true, true, true, true, true, true, true, false, false, false, false, false] rfl rfl (any_of HT_.out (by kernel_rfl)) (fun _ _ _ h => h) (Or.inl ⟨by rfl, ?_⟩) ?_ ?_; rotate_left
       ·intro w'; go_simp; with_reducible rfl
       rotate_left
       ·simp only [Act.put, List.setIfInBounds_toArray, List.set_cons_zero, List.set_cons_succ, i64_w, i32_w]; rfl
       refine pure_ (i := 7) (N := some 45) (v := ?_) (a' := ?_) #[true, true, true, true, true, true, true, true, false, false, false, false] rfl rfl (any_of HT_.out (by kernel_rfl)) (fun _ _ _ h => h) (Or.inl ⟨by rfl, ?_⟩) ?_ ?_; rotate_left
       ·intro w'; go_simp; with_reducible rfl
       rotate_left
       ·simp only [Act.put, List.setIfInBounds_toArray, List.set_cons_zero, List.set_cons_succ, i64_w, i32_w]; rfl
       refine pure_ (i := 8) (N := some 46) (v := ?_) (a' := ?_) #[true, true, true, true, true, true, true, true, true, false, false, false] rfl rfl (any_of HT_.out (by kernel_rfl)) (fun _ _ _ h => h) (Or.inl ⟨by rfl, ?_⟩) ?_ ?_; rotate_left
       ·intro w'; go_simp; with_reducible rfl
       rotate_left
       ·simp only [Act.put, List.setIfInBounds_toArray, List.set_cons_zero, List.set_cons_succ, i64_w, i32_w]; rfl
       refine one_ (i := 9) (N := some 12) #[true, true, true, true, true, true, true, true, true, true, false, false] rfl rfl (one_of HT_.out (by kernel_rfl)) (by decide) (fun K hK => ?_)
       refine box_step ?hg (N := 12) ?hd (cs := #[.slice none 0 0, .slice none 0 0]) (t := 25) ?hr ?_; (case hd => rfl); (case hg => rfl); (case hr => first | (go_simp; done) | (go_simp; rfl))
       intro g54 hg w1 hbox hb
       have HGg54 := Aside0.mk hbox; have HLg54 : Aside0 (W33.heap.size ≤ g54) := ⟨Nat.le_trans hHeld.size (Nat.le_of_eq hg.symm)⟩; have HM : Aside0 (g54 < w1.heap.size) := ⟨blk_lt hbox⟩; clear hbox
       have CR38 := Aside0.mk (And.intro (hf_F3 hg CR38.out.1 hb) CR38.out.2)
       have CR42 := Aside0.mk (And.intro (hf_F3 hg CR42.out.1 hb) CR42.out.2)
       have CR48 := Aside0.mk (And.intro (hf_F3 hg CR48.out.1 hb) CR48.out.2)
       have CR52 := Aside0.mk (And.intro (hf_F3 hg CR52.out.1 hb) CR52.out.2)
       clear hg
       have hHeld := hHeld.trans (hb.mono hHeld.size); clear hb
       refine hK.out _ _ hHeld (fun hHeld => ?_); clear hK K
       refine norm_ (a' := ?_) ?_ ?_; rotate_left
       ·show Act.put _ (some 12) _ = _
        simp only [Act.put, List.setIfInBounds_toArray, List.set_cons_zero, List.set_cons_succ, i64_w, i32_w]; rfl
       exact norm_ (by simp only [putAll, Act.put, List.setIfInBounds_toArray, List.set_cons_zero, List.set_cons_succ]) (hCont (.slice A36 t34_1.length c37, .slice A40 t34_2.length c41, .slice A46 t44_1.length c47, .slice A50 t44_2.length c51, g54) _ ⟨hHeld, ⟨_, _, rfl, CR38.out.2, CR38.out.1⟩, ⟨_, _, rfl, CR42.out.2, CR42.out.1⟩, ⟨_, _, rfl, CR48.out.2, CR48.out.1⟩, ⟨_, _, rfl, CR52.out.2, CR52.out.1⟩, ⟨HGg54.out, HLg54.out⟩⟩)
      ·skip
       refine box_step ?hg (N := 12) ?hd (cs := #[.slice none 0 0, .slice none 0 0]) (t := 25) ?hr ?_; (case hd => rfl); (case hg => rfl); (case hr => first | (go_simp; done) | (go_simp; rfl))
       intro g54 hg w1 hbox hb
       have HGg54 := Aside0.mk hbox; have HLg54 : Aside0 (W33.heap.size ≤ g54) := ⟨Nat.le_trans hHeld.size (Nat.le_of_eq hg.symm)⟩; have HM : Aside0 (g54 < w1.heap.size) := ⟨blk_lt hbox⟩; clear hbox
       have CR38 := Aside0.mk (And.intro (hf_F3 hg CR38.out.1 hb) CR38.out.2)
       have CR42 := Aside0.mk (And.intro (hf_F3 hg CR42.out.1 hb) CR42.out.2)
       clear hg
       have hHeld := hHeld.trans (hb.mono hHeld.size); clear hb
       refine hK.out _ _ hHeld (fun hHeld => ?_); clear hK K
       refine norm_ (a' := ?_) ?_ ?_; rotate_left
       ·show Act.put _ (some 12) _ = _
        simp only [Act.put, List.setIfInBounds_toArray, List.set_cons_zero, List.set_cons_succ, i64_w, i32_w]; rfl
       refine one_ (i := 5) (N := some 44) #[true, true, true, true, true, true, false, false, false, true, false, false] rfl rfl (one_of HT_.out (by kernel_rfl)) (by decide) (fun K hK => ?_)
       refine goes_ Try.func11 (by kernel_rfl) rfl #[.int .i64 45, .agg #[.slice A36 t34_1.length c37, .slice A40 t34_2.length c41], .agg #[.slice A22 t20_1.length c23, .slice A26 t20_2.length c27]] (by rfl) rfl rfl (by first | rfl | (simp only [List.map_toArray, List.map_cons, List.map_nil]; rfl)) ?_
       refine (pick_Dy.calls k 45 _ A36 c37 t34_1 _ A40 c41 t34_2 _ A22 c23 t20_1 _ A26 c27 t20_2 _ _ _ _ (Kd.V_mk CR38.out.2 CR38.out.1) (Kd.V_mk CR42.out.2 CR42.out.1) (Kd.V_mk CR24.out.2 (hf_F6 (Kd.C_F (Kd.heap_int .i64) CR24.out.1) hHeld)) (Kd.V_mk CR28.out.2 (hf_F6 (Kd.C_F k45_heap CR28.out.1) hHeld)) E45.out).mono ?_
       rintro e w1 ⟨v49, v53, rfl, hv49, hv53, hb⟩
       refine ⟨_, rfl, ?_⟩
       obtain ⟨A46, c47, hv_, hl_, hf_⟩ := hv49; subst hv_; have CR48 := Aside0.mk (And.intro (Kd.F_mono (ok' := fun k_ => k_ ≠ g54) hf_ (fun k hk => by (try dsimp only at hk); have h1 := HLg54.out; have h2 := HM.out; omega)) hl_); clear hf_ hl_
       obtain ⟨A50, c51, hv_, hl_, hf_⟩ := hv53; subst hv_; have CR52 := Aside0.mk (And.intro (Kd.F_mono (ok' := fun k_ => k_ ≠ g54) hf_ (fun k hk => by (try dsimp only at hk); have h1 := HLg54.out; have h2 := HM.out; omega)) hl_); clear hf_ hl_
       have CR38 := Aside0.mk (And.intro (hf_F4 CR38.out.1 hb) CR38.out.2)
       have CR42 := Aside0.mk (And.intro (hf_F4 CR42.out.1 hb) CR42.out.2)
       have HGg54 := Aside0.mk (blk_below HGg54.out hb); have HM := Aside0.mk (Nat.lt_of_lt_of_le HM.out (Below.size hb))
       have hHeld := hHeld.trans (hb.mono hHeld.size); clear hb
       refine hK.out _ _ hHeld (fun hHeld => ?_); clear hK K
       refine norm_ (a' := ?_) ?_ ?_; rotate_left
       ·show Act.put _ (some 44) _ = _
        simp only [Act.put, List.setIfInBounds_toArray, List.set_cons_zero, List.set_cons_succ, i64_w, i32_w]; rfl
       refine pure_ (i := 6) (N := some 38) (v := ?_) (a' := ?_) #[true, true, true, true, true, true, true, false, false, true, false, false] rfl rfl (any_of HT_.out (by kernel_rfl)) (fun _ _ _ h => h) (Or.inl ⟨by rfl, ?_⟩) ?_ ?_; rotate_left
       ·intro w'; go_simp; with_reducible rfl
       rotate_left
       ·simp only [Act.put, List.setIfInBounds_toArray, List.set_cons_zero, List.set_cons_succ, i64_w, i32_w]; rfl
       refine pure_ (i := 7) (N := some 45) (v := ?_) (a' := ?_) #[true, true, true, true, true, true, true, true, false, true, false, false] rfl rfl (any_of HT_.out (by kernel_rfl)) (fun _ _ _ h => h) (Or.inl ⟨by rfl, ?_⟩) ?_ ?_; rotate_left
       ·intro w'; go_simp; with_reducible rfl
       rotate_left
       ·simp only [Act.put, List.setIfInBounds_toArray, List.set_cons_zero, List.set_cons_succ, i64_w, i32_w]; rfl
       refine pure_ (i := 8) (N := some 46) (v := ?_) (a' := ?_) #[true, true, true, true, true, true, true, true, true, true, false, false] rfl rfl (any_of HT_.out (by kernel_rfl)) (fun _ _ _ h => h) (Or.inl ⟨by rfl, ?_⟩) ?_ ?_; rotate_left
       ·intro w'; go_simp; with_reducible rfl
       rotate_left
       ·simp only [Act.put, List.setIfInBounds_toArray, List.set_cons_zero, List.set_cons_succ, i64_w, i32_w]; rfl
       exact norm_ (by simp only [putAll, Act.put, List.setIfInBounds_toArray, List.set_cons_zero, List.set_cons_succ]) (hCont (.slice A36 t34_1.length c37, .slice A40 t34_2.length c41, .slice A46 t44_1.length c47, .slice A50 t44_2.length c51, g54) _ ⟨hHeld, ⟨_, _, rfl, CR38.out.2, CR38.out.1⟩, ⟨_, _, rfl, CR42.out.2, CR42.out.1⟩, ⟨_, _, rfl, CR48.out.2, CR48.out.1⟩, ⟨_, _, rfl, CR52.out.2, CR52.out.1⟩, ⟨HGg54.out, HLg54.out⟩⟩)
     ·skip
      refine box_step ?hg (N := 12) ?hd (cs := #[.slice none 0 0, .slice none 0 0]) (t := 25) ?hr ?_; (case hd => rfl); (case hg => rfl); (case hr => first | (go_simp; done) | (go_simp; rfl))
      intro g54 hg w1 hbox hb
      have HGg54 := Aside0.mk hbox; have HLg54 : Aside0 (W33.heap.size ≤ g54) := ⟨Nat.le_trans hHeld.size (Nat.le_of_eq hg.symm)⟩; have HM : Aside0 (g54 < w1.heap.size) := ⟨blk_lt hbox⟩; clear hbox
      clear hg
      have hHeld := hHeld.trans (hb.mono hHeld.size); clear hb
      refine hK.out _ _ hHeld (fun hHeld => ?_); clear hK K
      refine norm_ (a' := ?_) ?_ ?_; rotate_left
      ·show Act.put _ (some 12) _ = _
       simp only [Act.put, List.setIfInBounds_toArray, List.set_cons_zero, List.set_cons_succ, i64_w, i32_w]; rfl
      refine one_ (i := 3) (N := some 42) #[true, true, true, true, true, false, false, false, false, true, false, false] rfl rfl (one_of HT_.out (by kernel_rfl)) (by decide) (fun K hK => ?_)
      refine goes_ Try.func16 (by kernel_rfl) rfl #[.int .i64 (wrap64 a2)] (by rfl) rfl rfl (by first | rfl | (simp only [List.map_toArray, List.map_cons, List.map_nil]; rfl)) ?_
      refine (triglyphref03_Atom.calls (wrap64 a2) _ _ _ E35.out).mono ?_
      rintro e w1 ⟨v39, v43, rfl, hv39, hv43, hb⟩
      refine ⟨_, rfl, ?_⟩
      obtain ⟨A36, c37, hv_⟩ := Kd.R_slice hv39; subst hv_; have CR38 := Aside0.mk (And.intro (hf_F2 hv39 HM.out) (Kd.R_reads' hv39).2.1); clear hv39
      obtain ⟨A40, c41, hv_⟩ := Kd.R_slice hv43; subst hv_; have CR42 := Aside0.mk (And.intro (hf_F2 hv43 HM.out) (Kd.R_reads' hv43).2.1); clear hv43
      have HGg54 := Aside0.mk (blk_below HGg54.out hb); have HM := Aside0.mk (Nat.lt_of_lt_of_le HM.out (Below.size hb))
      have hHeld := hHeld.trans (hb.mono hHeld.size); clear hb
      refine hK.out _ _ hHeld (fun hHeld => ?_); clear hK K
      refine norm_ (a' := ?_) ?_ ?_; rotate_left
      ·show Act.put _ (some 42) _ = _
       simp only [Act.put, List.setIfInBounds_toArray, List.set_cons_zero, List.set_cons_succ, i64_w, i32_w]; rfl
      refine one_ (i := 5) (N := some 44) #[true, true, true, true, true, true, false, false, false, true, false, false] rfl rfl (one_of HT_.out (by kernel_rfl)) (by decide) (fun K hK => ?_)
      refine goes_ Try.func11 (by kernel_rfl) rfl #[.int .i64 45, .agg #[.slice A36 t34_1.length c37, .slice A40 t34_2.length c41], .agg #[.slice A22 t20_1.length c23, .slice A26 t20_2.length c27]] (by rfl) rfl rfl (by first | rfl | (simp only [List.map_toArray, List.map_cons, List.map_nil]; rfl)) ?_
      refine (pick_Dy.calls k 45 _ A36 c37 t34_1 _ A40 c41 t34_2 _ A22 c23 t20_1 _ A26 c27 t20_2 _ _ _ _ (Kd.V_mk CR38.out.2 CR38.out.1) (Kd.V_mk CR42.out.2 CR42.out.1) (Kd.V_mk CR24.out.2 (hf_F6 (Kd.C_F (Kd.heap_int .i64) CR24.out.1) hHeld)) (Kd.V_mk CR28.out.2 (hf_F6 (Kd.C_F k45_heap CR28.out.1) hHeld)) E45.out).mono ?_
      rintro e w1 ⟨v49, v53, rfl, hv49, hv53, hb⟩
      refine ⟨_, rfl, ?_⟩
      obtain ⟨A46, c47, hv_, hl_, hf_⟩ := hv49; subst hv_; have CR48 := Aside0.mk (And.intro (Kd.F_mono (ok' := fun k_ => k_ ≠ g54) hf_ (fun k hk => by (try dsimp only at hk); have h1 := HLg54.out; have h2 := HM.out; omega)) hl_); clear hf_ hl_
      obtain ⟨A50, c51, hv_, hl_, hf_⟩ := hv53; subst hv_; have CR52 := Aside0.mk (And.intro (Kd.F_mono (ok' := fun k_ => k_ ≠ g54) hf_ (fun k hk => by (try dsimp only at hk); have h1 := HLg54.out; have h2 := HM.out; omega)) hl_); clear hf_ hl_
      have HGg54 := Aside0.mk (blk_below HGg54.out hb); have HM := Aside0.mk (Nat.lt_of_lt_of_le HM.out (Below.size hb))
      have CR38 := Aside0.mk (And.intro (hf_F4 CR38.out.1 hb) CR38.out.2)
      have CR42 := Aside0.mk (And.intro (hf_F4 CR42.out.1 hb) CR42.out.2)
      have hHeld := hHeld.trans (hb.mono hHeld.size); clear hb
      refine hK.out _ _ hHeld (fun hHeld => ?_); clear hK K
      refine norm_ (a' := ?_) ?_ ?_; rotate_left
      ·show Act.put _ (some 44) _ = _
       simp only [Act.put, List.setIfInBounds_toArray, List.set_cons_zero, List.set_cons_succ, i64_w, i32_w]; rfl
      refine pure_ (i := 6) (N := some 38) (v := ?_) (a' := ?_) #[true, true, true, true, true, true, true, false, false, true, false, false] rfl rfl (any_of HT_.out (by kernel_rfl)) (fun _ _ _ h => h) (Or.inl ⟨by rfl, ?_⟩) ?_ ?_; rotate_left
      ·intro w'; go_simp; with_reducible rfl
      rotate_left
      ·simp only [Act.put, List.setIfInBounds_toArray, List.set_cons_zero, List.set_cons_succ, i64_w, i32_w]; rfl
      refine pure_ (i := 7) (N := some 45) (v := ?_) (a' := ?_) #[true, true, true, true, true, true, true, true, false, true, false, false] rfl rfl (any_of HT_.out (by kernel_rfl)) (fun _ _ _ h => h) (Or.inl ⟨by rfl, ?_⟩) ?_ ?_; rotate_left
      ·intro w'; go_simp; with_reducible rfl
      rotate_left
      ·simp only [Act.put, List.setIfInBounds_toArray, List.set_cons_zero, List.set_cons_succ, i64_w, i32_w]; rfl
      refine pure_ (i := 8) (N := some 46) (v := ?_) (a' := ?_) #[true, true, true, true, true, true, true, true, true, true, false, false] rfl rfl (any_of HT_.out (by kernel_rfl)) (fun _ _ _ h => h) (Or.inl ⟨by rfl, ?_⟩) ?_ ?_; rotate_left
      ·intro w'; go_simp; with_reducible rfl
      rotate_left
      ·simp only [Act.put, List.setIfInBounds_toArray, List.set_cons_zero, List.set_cons_succ, i64_w, i32_w]; rfl
      exact norm_ (by simp only [putAll, Act.put, List.setIfInBounds_toArray, List.set_cons_zero, List.set_cons_succ]) (hCont (.slice A36 t34_1.length c37, .slice A40 t34_2.length c41, .slice A46 t44_1.length c47, .slice A50 t44_2.length c51, g54) _ ⟨hHeld, ⟨_, _, rfl, CR38.out.2, CR38.out.1⟩, ⟨_, _, rfl, CR42.out.2, CR42.out.1⟩, ⟨_, _, rfl, CR48.out.2, CR48.out.1⟩, ⟨_, _, rfl, CR52.out.2, CR52.out.1⟩, ⟨HGg54.out, HLg54.out⟩⟩)
    rintro ⟨v39, v43, v49, v53, g54⟩ w55 ⟨hHeld, hF0_, hF1_, hF2_, hF3_, hF4_⟩
    dsimp only at hF0_ hF1_ hF2_ hF3_ hF4_
    obtain ⟨A36, c37, hv_, hl_, hf_⟩ := hF0_; have CR38 := Aside0.mk (And.intro hf_ hl_); clear hf_ hl_; subst hv_
    obtain ⟨A40, c41, hv_, hl_, hf_⟩ := hF1_; have CR42 := Aside0.mk (And.intro hf_ hl_); clear hf_ hl_; subst hv_
    obtain ⟨A46, c47, hv_, hl_, hf_⟩ := hF2_; have CR48 := Aside0.mk (And.intro hf_ hl_); clear hf_ hl_; subst hv_
    obtain ⟨A50, c51, hv_, hl_, hf_⟩ := hF3_; have CR52 := Aside0.mk (And.intro hf_ hl_); clear hf_ hl_; subst hv_
    have HG := Aside0.mk hF4_; clear hF4_
    refine norm_ (a' := ?_) ?_ ?_; rotate_left
    ·simp only [putAll, Act.put, List.setIfInBounds_toArray, List.set_cons_zero, List.set_cons_succ]; rfl
    refine one_ (i := 10) (N := none) #[true, true, true, true, true, true, true, true, true, true, true, false] rfl rfl (one_of HT_.out (by kernel_rfl)) (by decide) (fun K hK => ?_)
    have y0 : w55.cell? ⟨g54, 0, none⟩ = some (.slice none 0 0) := (blk_cell HG.out.1 0).trans rfl; have u0 := blk_frozen HG.out.1 0; have y1 : w55.cell? ⟨g54, 1, none⟩ = some (.slice none 0 0) := (blk_cell HG.out.1 1).trans rfl; have u1 := blk_frozen HG.out.1 1
    refine skip_ (w1 := ?_) (by rfl) rfl ?_ ?_; rotate_left
    ·go_simp; rfl
    have HB2 := Aside0.mk (hf_st2 hHeld HG.out.2 (.slice A46 t44_1.length c47) (.slice A50 t44_2.length c51))
    have CR38 := Aside0.mk (And.intro (hf_F5a CR38.out.1 (.slice A46 t44_1.length c47) (.slice A50 t44_2.length c51)) CR38.out.2)
    have CR42 := Aside0.mk (And.intro (hf_F5a CR42.out.1 (.slice A46 t44_1.length c47) (.slice A50 t44_2.length c51)) CR42.out.2)
    have CR48 := Aside0.mk (And.intro (hf_F5a CR48.out.1 (.slice A46 t44_1.length c47) (.slice A50 t44_2.length c51)) CR48.out.2)
    have CR52 := Aside0.mk (And.intro (hf_F5a CR52.out.1 (.slice A46 t44_1.length c47) (.slice A50 t44_2.length c51)) CR52.out.2)
    have HG := Aside0.mk (And.intro (hf_z2 HG.out.1 (.slice A46 t44_1.length c47) (.slice A50 t44_2.length c51)) HG.out.2)
    refine hK.out _ _ HB2.out (fun hHeld => ?_); clear hK K HB2 y0 u0 y1 u1
    generalize (w55.setCell _ _).setCell _ _ = w56 at hHeld HG CR38 CR42 CR48 CR52 ⊢
    refine pure_ (i := 11) (N := some 13) (v := ?_) (a' := ?_) #[true, true, true, true, true, true, true, true, true, true, true, true] rfl rfl (any_of HT_.out (by kernel_rfl)) (fun _ _ _ h => h) (Or.inl ⟨by rfl, ?_⟩) ?_ ?_; rotate_left
    ·intro w'; go_simp; with_reducible rfl
    rotate_left
    ·simp only [Act.put, List.setIfInBounds_toArray, List.set_cons_zero, List.set_cons_succ, i64_w, i32_w]; rfl
    refine done_ (done_of HT_.out (by kernel_rfl)) ?_
    have CR38 := Aside0.mk (And.intro (Kd.F_now CR38.out.1) CR38.out.2)
    have CR42 := Aside0.mk (And.intro (Kd.F_now CR42.out.1) CR42.out.2)
    have CR48 := Aside0.mk (And.intro (Kd.F_now CR48.out.1) CR48.out.2)
    have CR52 := Aside0.mk (And.intro (Kd.F_now CR52.out.1) CR52.out.2)
    have CRa0_0 := Aside0.mk (And.intro (Kd.C_below CRa0_0.out.1 hHeld) CRa0_0.out.2)
    have CRa0_1 := Aside0.mk (And.intro (Kd.C_below CRa0_1.out.1 hHeld) CRa0_1.out.2)
    have CR14 := Aside0.mk (And.intro (Kd.C_below CR14.out.1 hHeld) CR14.out.2)
    have CR18 := Aside0.mk (And.intro (Kd.C_below CR18.out.1 hHeld) CR18.out.2)
    have CR24 := Aside0.mk (And.intro (Kd.C_below CR24.out.1 hHeld) CR24.out.2)
    have CR28 := Aside0.mk (And.intro (Kd.C_below CR28.out.1 hHeld) CR28.out.2)
    have HS := Aside0.mk (BxS.add HS.out hHeld HG.out.1 HG.out.2)
    clear hHeld HG
    have z0_0 : w56.cell? ⟨w.heap.size, 0, none⟩ = some (.slice A0_0 l0_0.length c0_0) := (blk_cell (HS.out.at_ 2 rfl) 0).trans rfl; have z0_1 : w56.cell? ⟨w.heap.size, 1, none⟩ = some (.slice A0_1 l0_1.length c0_1) := (blk_cell (HS.out.at_ 2 rfl) 1).trans rfl; have z1_0 : w56.cell? ⟨g30, 0, none⟩ = some (.slice A22 t20_1.length c23) := (blk_cell (HS.out.at_ 1 rfl) 0).trans rfl; have z1_1 : w56.cell? ⟨g30, 1, none⟩ = some (.slice A26 t20_2.length c27) := (blk_cell (HS.out.at_ 1 rfl) 1).trans rfl; have z2_0 : w56.cell? ⟨g54, 0, none⟩ = some (.slice A46 t44_1.length c47) := (blk_cell (HS.out.at_ 0 rfl) 0).trans rfl; have z2_1 : w56.cell? ⟨g54, 1, none⟩ = some (.slice A50 t44_2.length c51) := (blk_cell (HS.out.at_ 0 rfl) 1).trans rfl
    obtain ⟨⟨t58_1, t58_2⟩, q_, h⟩ := Option.bind_eq_some_iff.1 h; have E59 := Aside0.mk q_; clear q_; (try dsimp only at h)
    obtain ⟨⟨t68_1, t68_2, t68_3⟩, q_, h⟩ := Option.bind_eq_some_iff.1 h; have E69 := Aside0.mk q_; clear q_; (try dsimp only at h)
    go_upto_region 8 with (fail)
    refine start_ (n := 15) (S := fun W' => Below w56.drew.heap.size w56.drew W') (ds := []) #[false, false, false, false, false, false, false, false, false, false, false, false, false, false, false] (by kernel_rfl) rfl rfl (Below.refl _ _) (fun hHeld => ?_)
    refine with_tabW triglyphlaw06_PickRotates.tab8 triglyphlaw06_PickRotates.bits8 (fun HT_ HW_ => ?_)
    (try clear z0_0 z0_1 z1_0 z1_1 z2_0 z2_1); have HS := Aside0.mk (HS.out.step (below_drew (Below.refl _ _)))
    have CRa0_0 := Aside0.mk (And.intro (Kd.C_below CRa0_0.out.1 (below_drew (Below.refl _ _))) CRa0_0.out.2)
    have CRa0_1 := Aside0.mk (And.intro (Kd.C_below CRa0_1.out.1 (below_drew (Below.refl _ _))) CRa0_1.out.2)
    have CR14 := Aside0.mk (And.intro (Kd.C_below CR14.out.1 (below_drew (Below.refl _ _))) CR14.out.2)
    have CR18 := Aside0.mk (And.intro (Kd.C_below CR18.out.1 (below_drew (Below.refl _ _))) CR18.out.2)
    have CR24 := Aside0.mk (And.intro (Kd.C_below CR24.out.1 (below_drew (Below.refl _ _))) CR24.out.2)
    have CR28 := Aside0.mk (And.intro (Kd.C_below CR28.out.1 (below_drew (Below.refl _ _))) CR28.out.2)
    have CR38 := Aside0.mk (And.intro (Kd.C_below CR38.out.1 (below_drew (Below.refl _ _))) CR38.out.2)
    have CR42 := Aside0.mk (And.intro (Kd.C_below CR42.out.1 (below_drew (Below.refl _ _))) CR42.out.2)
    have CR48 := Aside0.mk (And.intro (Kd.C_below CR48.out.1 (below_drew (Below.refl _ _))) CR48.out.2)
    have CR52 := Aside0.mk (And.intro (Kd.C_below CR52.out.1 (below_drew (Below.refl _ _))) CR52.out.2)
    generalize w56.drew = W57 at HS CRa0_0 CRa0_1 CR14 CR18 CR24 CR28 CR38 CR42 CR48 CR52 hHeld ⊢
    refine pure_ (i := 0) (N := some 48) (v := ?_) (a' := ?_) #[true, false, false, false, false, false, false, false, false, false, false, false, false, false, false] rfl rfl (any_of HT_.out (by kernel_rfl)) (fun _ _ _ h => h) (Or.inl ⟨by rfl, ?_⟩) ?_ ?_; rotate_left
    ·intro w'; go_simp; with_reducible rfl
    rotate_left
    ·simp only [Act.put, List.setIfInBounds_toArray, List.set_cons_zero, List.set_cons_succ, i64_w, i32_w]; rfl
    refine pure_ (i := 1) (N := some 49) (v := ?_) (a' := ?_) #[true, true, false, false, false, false, false, false, false, false, false, false, false, false, false] rfl rfl (any_of HT_.out (by kernel_rfl)) (fun _ _ _ h => h) (Or.inl ⟨by rfl, ?_⟩) ?_ ?_; rotate_left
    ·intro w'; go_simp; with_reducible rfl
    rotate_left
    ·simp only [Act.put, List.setIfInBounds_toArray, List.set_cons_zero, List.set_cons_succ, i64_w, i32_w]; rfl
    refine pure_ (i := 2) (N := some 50) (v := ?_) (a' := ?_) #[true, true, true, false, false, false, false, false, false, false, false, false, false, false, false] rfl rfl (any_of HT_.out (by kernel_rfl)) (fun _ _ _ h => h) (Or.inl ⟨by rfl, ?_⟩) ?_ ?_; rotate_left
    ·intro w'; go_simp; with_reducible rfl
    rotate_left
    ·simp only [Act.put, List.setIfInBounds_toArray, List.set_cons_zero, List.set_cons_succ, i64_w, i32_w]; rfl
    refine pure_ (i := 3) (N := some 51) (v := ?_) (a' := ?_) #[true, true, true, true, false, false, false, false, false, false, false, false, false, false, false] rfl rfl (any_of HT_.out (by kernel_rfl)) (fun _ _ _ h => h) (Or.inl ⟨by rfl, ?_⟩) ?_ ?_; rotate_left
    ·intro w'; go_simp; with_reducible rfl
    rotate_left
    ·simp only [Act.put, List.setIfInBounds_toArray, List.set_cons_zero, List.set_cons_succ, i64_w, i32_w]; rfl
    refine pure_ (i := 4) (N := some 52) (v := ?_) (a' := ?_) #[true, true, true, true, true, false, false, false, false, false, false, false, false, false, false] rfl rfl (any_of HT_.out (by kernel_rfl)) (fun _ _ _ h => h) (Or.inl ⟨by rfl, ?_⟩) ?_ ?_; rotate_left
    ·intro w'; go_simp; with_reducible rfl
    rotate_left
    ·simp only [Act.put, List.setIfInBounds_toArray, List.set_cons_zero, List.set_cons_succ, i64_w, i32_w]; rfl
    refine pure_ (i := 5) (N := some 53) (v := ?_) (a' := ?_) #[true, true, true, true, true, true, false, false, false, false, false, false, false, false, false] rfl rfl (any_of HT_.out (by kernel_rfl)) (fun _ _ _ h => h) (Or.inl ⟨by rfl, ?_⟩) ?_ ?_; rotate_left
    ·intro w'; go_simp; with_reducible rfl
    rotate_left
    ·simp only [Act.put, List.setIfInBounds_toArray, List.set_cons_zero, List.set_cons_succ, i64_w, i32_w]; rfl
    refine take_ (i := 7) (N := some 55) (v := ?_) (a' := ?_) #[true, true, true, true, true, true, false, true, false, false, false, false, false, false, false] rfl rfl (take_ofW HT_.out HW_.out (by kernel_rfl)) (fun _ _ _ h => h) (Or.inl ⟨by rfl, ?_⟩) hHeld ?_ ?_; rotate_left
    ·intro w' s0; have y0 : w'.cell? ⟨w.heap.size, 0, none⟩ = some (.slice A0_0 l0_0.length c0_0) := (blk_cell ((HS.out.step s0).at_ 2 rfl) 0).trans rfl; have y1 : w'.cell? ⟨w.heap.size, 1, none⟩ = some (.slice A0_1 l0_1.length c0_1) := (blk_cell ((HS.out.step s0).at_ 2 rfl) 1).trans rfl; go_simp; with_reducible rfl
    rotate_left
    ·simp only [Act.put, List.setIfInBounds_toArray, List.set_cons_zero, List.set_cons_succ, i64_w, i32_w]; rfl
    refine join_ (σ := Value × Value × Value × Value × Nat) 2 #[true, true, true, true, true, true, true, true, true, true, true, true, true, false, false] (fun s_ => [(54, .agg #[s_.1, s_.2.1]), (56, .tuple #[.agg #[s_.2.2.1, s_.2.2.2.1], .int .i64 t68_3]), (14, .pointer (some ⟨s_.2.2.2.2, 0, none⟩)), (47, .tuple #[.agg #[s_.2.2.1, s_.2.2.2.1], .int .i64 t68_3]), (57, .agg #[s_.2.2.1, s_.2.2.2.1]), (58, .int .i64 t68_3)]) (fun s_ w' => Below W57.heap.size W57 w' ∧ (∃ A_ c_, s_.1 = .slice A_ (t58_1).length c_ ∧ (t58_1).length ≤ c_ ∧ Kd.F (Kd.int .i64) w' (fun k_ => k_ ≠ s_.2.2.2.2) A_ (t58_1).length t58_1) ∧ (∃ A_ c_, s_.2.1 = .slice A_ (t58_2).length c_ ∧ (t58_2).length ≤ c_ ∧ Kd.F k45 w' (fun k_ => k_ ≠ s_.2.2.2.2) A_ (t58_2).length t58_2) ∧ (∃ A_ c_, s_.2.2.1 = .slice A_ (t68_1).length c_ ∧ (t68_1).length ≤ c_ ∧ Kd.F (Kd.int .i64) w' (fun k_ => k_ ≠ s_.2.2.2.2) A_ (t68_1).length t68_1) ∧ (∃ A_ c_, s_.2.2.2.1 = .slice A_ (t68_2).length c_ ∧ (t68_2).length ≤ c_ ∧ Kd.F k45 w' (fun k_ => k_ ≠ s_.2.2.2.2) A_ (t68_2).length t68_2) ∧ (w'.heap[s_.2.2.2.2]? = some (.cells #[.slice none 0 0, .slice none 0 0] 25 (0, 0)) ∧ W57.heap.size ≤ s_.2.2.2.2)) ?_ ?_; rotate_left
    ·intro hCont
     refine two_ (i := 6) (j := 12) (Ni := some 54) (Nj := some 14) #[true, true, true, true, true, true, true, true, false, false, false, false, false, false, false] #[true, true, true, true, true, true, false, true, false, false, false, false, true, false, false] rfl rfl rfl rfl (two_of HT_.out (by kernel_rfl)) (by decide) (by decide) (fun K hK => ?_) (fun K hK => ?_)
     ·skip
      refine goes_ Try.func16 (by kernel_rfl) rfl #[.int .i64 ((wrap64 ((wrap64 a1) + (wrap64 a2))))] (by rfl) rfl rfl (by first | rfl | (simp only [List.map_toArray, List.map_cons, List.map_nil]; rfl)) ?_
      refine (triglyphref03_Atom.calls ((wrap64 ((wrap64 a1) + (wrap64 a2)))) _ _ _ E59.out).mono ?_
      rintro e w1 ⟨v63, v67, rfl, hv63, hv67, hb⟩
      refine ⟨_, rfl, ?_⟩
      obtain ⟨A60, c61, hv_⟩ := Kd.R_slice hv63; subst hv_; have CR62 := Aside0.mk (And.intro (hf_F1 hv63) (Kd.R_reads' hv63).2.1); clear hv63
      obtain ⟨A64, c65, hv_⟩ := Kd.R_slice hv67; subst hv_; have CR66 := Aside0.mk (And.intro (hf_F1 hv67) (Kd.R_reads' hv67).2.1); clear hv67
      have hHeld := hHeld.trans (hb.mono hHeld.size); clear hb
      refine hK.out _ _ hHeld (fun hHeld => ?_); clear hK K
      refine norm_ (a' := ?_) ?_ ?_; rotate_left
      ·show Act.put _ (some 54) _ = _
       simp only [Act.put, List.setIfInBounds_toArray, List.set_cons_zero, List.set_cons_succ, i64_w, i32_w]; rfl
      refine two_ (i := 8) (j := 12) (Ni := some 56) (Nj := some 14) #[true, true, true, true, true, true, true, true, true, false, false, false, false, false, false] #[true, true, true, true, true, true, true, true, false, false, false, false, true, false, false] rfl rfl rfl rfl (two_of HT_.out (by kernel_rfl)) (by decide) (by decide) (fun K hK => ?_) (fun K hK => ?_)
      ·skip
       refine goes_ Try.func11 (by kernel_rfl) rfl #[.int .i64 45, .agg #[.slice A60 t58_1.length c61, .slice A64 t58_2.length c65], .agg #[.slice A0_0 l0_0.length c0_0, .slice A0_1 l0_1.length c0_1]] (by rfl) rfl rfl (by first | rfl | (simp only [List.map_toArray, List.map_cons, List.map_nil]; rfl)) ?_
       refine (pick_Dy.calls k 45 _ A60 c61 t58_1 _ A64 c65 t58_2 _ A0_0 c0_0 l0_0 _ A0_1 c0_1 l0_1 _ _ _ _ (Kd.V_mk CR62.out.2 CR62.out.1) (Kd.V_mk CR66.out.2 CR66.out.1) (Kd.V_mk CRa0_0.out.2 (hf_F6 (Kd.C_F (Kd.heap_int .i64) CRa0_0.out.1) hHeld)) (Kd.V_mk CRa0_1.out.2 (hf_F6 (Kd.C_F k45_heap CRa0_1.out.1) hHeld)) E69.out).mono ?_
       rintro e w1 ⟨v73, v77, rfl, hv73, hv77, hb⟩
       refine ⟨_, rfl, ?_⟩
       obtain ⟨A70, c71, hv_, hl_, hf_⟩ := hv73; subst hv_; have CR72 := Aside0.mk (And.intro (Kd.F_mono (ok' := fun _ => True) hf_ (fun _ _ => trivial)) hl_); clear hf_ hl_
       obtain ⟨A74, c75, hv_, hl_, hf_⟩ := hv77; subst hv_; have CR76 := Aside0.mk (And.intro (Kd.F_mono (ok' := fun _ => True) hf_ (fun _ _ => trivial)) hl_); clear hf_ hl_
       have CR62 := Aside0.mk (And.intro (hf_F4 CR62.out.1 hb) CR62.out.2)
       have CR66 := Aside0.mk (And.intro (hf_F4 CR66.out.1 hb) CR66.out.2)
       have hHeld := hHeld.trans (hb.mono hHeld.size); clear hb
       refine hK.out _ _ hHeld (fun hHeld => ?_); clear hK K
       refine norm_ (a' := ?_) ?_ ?_; rotate_left
       ·show Act.put _ (some 56) _ = _
        simp only [Act.put, List.setIfInBounds_toArray, List.set_cons_zero, List.set_cons_succ, i64_w, i32_w]; rfl
       refine pure_ (i := 9) (N := some 47) (v := ?_) (a' := ?_) #[true, true, true, true, true, true, true, true, true, true, false, false, false, false, false] rfl rfl (any_of HT_.out (by kernel_rfl)) (fun _ _ _ h => h) (Or.inl ⟨by rfl, ?_⟩) ?_ ?_; rotate_left
       ·intro w'; go_simp; with_reducible rfl
       rotate_left
       ·simp only [Act.put, List.setIfInBounds_toArray, List.set_cons_zero, List.set_cons_succ, i64_w, i32_w]; rfl
       refine pure_ (i := 10) (N := some 57) (v := ?_) (a' := ?_) #[true, true, true, true, true, true, true, true, true, true, true, false, false, false, false] rfl rfl (any_of HT_.out (by kernel_rfl)) (fun _ _ _ h => h) (Or.inl ⟨by rfl, ?_⟩) ?_ ?_; rotate_left
       ·intro w'; go_simp; with_reducible rfl
       rotate_left
       ·simp only [Act.put, List.setIfInBounds_toArray, List.set_cons_zero, List.set_cons_succ, i64_w, i32_w]; rfl
       refine pure_ (i := 11) (N := some 58) (v := ?_) (a' := ?_) #[true, true, true, true, true, true, true, true, true, true, true, true, false, false, false] rfl rfl (any_of HT_.out (by kernel_rfl)) (fun _ _ _ h => h) (Or.inl ⟨by rfl, ?_⟩) ?_ ?_; rotate_left
       ·intro w'; go_simp; with_reducible rfl
       rotate_left
       ·simp only [Act.put, List.setIfInBounds_toArray, List.set_cons_zero, List.set_cons_succ, i64_w, i32_w]; rfl
       refine one_ (i := 12) (N := some 14) #[true, true, true, true, true, true, true, true, true, true, true, true, true, false, false] rfl rfl (one_of HT_.out (by kernel_rfl)) (by decide) (fun K hK => ?_)
       refine box_step ?hg (N := 14) ?hd (cs := #[.slice none 0 0, .slice none 0 0]) (t := 25) ?hr ?_; (case hd => rfl); (case hg => rfl); (case hr => first | (go_simp; done) | (go_simp; rfl))
       intro g78 hg w1 hbox hb
       have HGg78 := Aside0.mk hbox; have HLg78 : Aside0 (W57.heap.size ≤ g78) := ⟨Nat.le_trans hHeld.size (Nat.le_of_eq hg.symm)⟩; have HM : Aside0 (g78 < w1.heap.size) := ⟨blk_lt hbox⟩; clear hbox
       have CR62 := Aside0.mk (And.intro (hf_F3 hg CR62.out.1 hb) CR62.out.2)
       have CR66 := Aside0.mk (And.intro (hf_F3 hg CR66.out.1 hb) CR66.out.2)
       have CR72 := Aside0.mk (And.intro (hf_F3 hg CR72.out.1 hb) CR72.out.2)
       have CR76 := Aside0.mk (And.intro (hf_F3 hg CR76.out.1 hb) CR76.out.2)
       clear hg
       have hHeld := hHeld.trans (hb.mono hHeld.size); clear hb
       refine hK.out _ _ hHeld (fun hHeld => ?_); clear hK K
       refine norm_ (a' := ?_) ?_ ?_; rotate_left
       ·show Act.put _ (some 14) _ = _
        simp only [Act.put, List.setIfInBounds_toArray, List.set_cons_zero, List.set_cons_succ, i64_w, i32_w]; rfl
       exact norm_ (by simp only [putAll, Act.put, List.setIfInBounds_toArray, List.set_cons_zero, List.set_cons_succ]) (hCont (.slice A60 t58_1.length c61, .slice A64 t58_2.length c65, .slice A70 t68_1.length c71, .slice A74 t68_2.length c75, g78) _ ⟨hHeld, ⟨_, _, rfl, CR62.out.2, CR62.out.1⟩, ⟨_, _, rfl, CR66.out.2, CR66.out.1⟩, ⟨_, _, rfl, CR72.out.2, CR72.out.1⟩, ⟨_, _, rfl, CR76.out.2, CR76.out.1⟩, ⟨HGg78.out, HLg78.out⟩⟩)
      ·skip
       refine box_step ?hg (N := 14) ?hd (cs := #[.slice none 0 0, .slice none 0 0]) (t := 25) ?hr ?_; (case hd => rfl); (case hg => rfl); (case hr => first | (go_simp; done) | (go_simp; rfl))
       intro g78 hg w1 hbox hb
       have HGg78 := Aside0.mk hbox; have HLg78 : Aside0 (W57.heap.size ≤ g78) := ⟨Nat.le_trans hHeld.size (Nat.le_of_eq hg.symm)⟩; have HM : Aside0 (g78 < w1.heap.size) := ⟨blk_lt hbox⟩; clear hbox
       have CR62 := Aside0.mk (And.intro (hf_F3 hg CR62.out.1 hb) CR62.out.2)
       have CR66 := Aside0.mk (And.intro (hf_F3 hg CR66.out.1 hb) CR66.out.2)
       clear hg
       have hHeld := hHeld.trans (hb.mono hHeld.size); clear hb
       refine hK.out _ _ hHeld (fun hHeld => ?_); clear hK K
       refine norm_ (a' := ?_) ?_ ?_; rotate_left
       ·show Act.put _ (some 14) _ = _
        simp only [Act.put, List.setIfInBounds_toArray, List.set_cons_zero, List.set_cons_succ, i64_w, i32_w]; rfl
       refine one_ (i := 8) (N := some 56) #[true, true, true, true, true, true, true, true, true, false, false, false, true, false, false] rfl rfl (one_of HT_.out (by kernel_rfl)) (by decide) (fun K hK => ?_)
       refine goes_ Try.func11 (by kernel_rfl) rfl #[.int .i64 45, .agg #[.slice A60 t58_1.length c61, .slice A64 t58_2.length c65], .agg #[.slice A0_0 l0_0.length c0_0, .slice A0_1 l0_1.length c0_1]] (by rfl) rfl rfl (by first | rfl | (simp only [List.map_toArray, List.map_cons, List.map_nil]; rfl)) ?_
       refine (pick_Dy.calls k 45 _ A60 c61 t58_1 _ A64 c65 t58_2 _ A0_0 c0_0 l0_0 _ A0_1 c0_1 l0_1 _ _ _ _ (Kd.V_mk CR62.out.2 CR62.out.1) (Kd.V_mk CR66.out.2 CR66.out.1) (Kd.V_mk CRa0_0.out.2 (hf_F6 (Kd.C_F (Kd.heap_int .i64) CRa0_0.out.1) hHeld)) (Kd.V_mk CRa0_1.out.2 (hf_F6 (Kd.C_F k45_heap CRa0_1.out.1) hHeld)) E69.out).mono ?_
       rintro e w1 ⟨v73, v77, rfl, hv73, hv77, hb⟩
       refine ⟨_, rfl, ?_⟩
       obtain ⟨A70, c71, hv_, hl_, hf_⟩ := hv73; subst hv_; have CR72 := Aside0.mk (And.intro (Kd.F_mono (ok' := fun k_ => k_ ≠ g78) hf_ (fun k hk => by (try dsimp only at hk); have h1 := HLg78.out; have h2 := HM.out; omega)) hl_); clear hf_ hl_
       obtain ⟨A74, c75, hv_, hl_, hf_⟩ := hv77; subst hv_; have CR76 := Aside0.mk (And.intro (Kd.F_mono (ok' := fun k_ => k_ ≠ g78) hf_ (fun k hk => by (try dsimp only at hk); have h1 := HLg78.out; have h2 := HM.out; omega)) hl_); clear hf_ hl_
       have CR62 := Aside0.mk (And.intro (hf_F4 CR62.out.1 hb) CR62.out.2)
       have CR66 := Aside0.mk (And.intro (hf_F4 CR66.out.1 hb) CR66.out.2)
       have HGg78 := Aside0.mk (blk_below HGg78.out hb); have HM := Aside0.mk (Nat.lt_of_lt_of_le HM.out (Below.size hb))
       have hHeld := hHeld.trans (hb.mono hHeld.size); clear hb
       refine hK.out _ _ hHeld (fun hHeld => ?_); clear hK K
       refine norm_ (a' := ?_) ?_ ?_; rotate_left
       ·show Act.put _ (some 56) _ = _
        simp only [Act.put, List.setIfInBounds_toArray, List.set_cons_zero, List.set_cons_succ, i64_w, i32_w]; rfl
       refine pure_ (i := 9) (N := some 47) (v := ?_) (a' := ?_) #[true, true, true, true, true, true, true, true, true, true, false, false, true, false, false] rfl rfl (any_of HT_.out (by kernel_rfl)) (fun _ _ _ h => h) (Or.inl ⟨by rfl, ?_⟩) ?_ ?_; rotate_left
       ·intro w'; go_simp; with_reducible rfl
       rotate_left
       ·simp only [Act.put, List.setIfInBounds_toArray, List.set_cons_zero, List.set_cons_succ, i64_w, i32_w]; rfl
       refine pure_ (i := 10) (N := some 57) (v := ?_) (a' := ?_) #[true, true, true, true, true, true, true, true, true, true, true, false, true, false, false] rfl rfl (any_of HT_.out (by kernel_rfl)) (fun _ _ _ h => h) (Or.inl ⟨by rfl, ?_⟩) ?_ ?_; rotate_left
       ·intro w'; go_simp; with_reducible rfl
       rotate_left
       ·simp only [Act.put, List.setIfInBounds_toArray, List.set_cons_zero, List.set_cons_succ, i64_w, i32_w]; rfl
       refine pure_ (i := 11) (N := some 58) (v := ?_) (a' := ?_) #[true, true, true, true, true, true, true, true, true, true, true, true, true, false, false] rfl rfl (any_of HT_.out (by kernel_rfl)) (fun _ _ _ h => h) (Or.inl ⟨by rfl, ?_⟩) ?_ ?_; rotate_left
       ·intro w'; go_simp; with_reducible rfl
       rotate_left
       ·simp only [Act.put, List.setIfInBounds_toArray, List.set_cons_zero, List.set_cons_succ, i64_w, i32_w]; rfl
       exact norm_ (by simp only [putAll, Act.put, List.setIfInBounds_toArray, List.set_cons_zero, List.set_cons_succ]) (hCont (.slice A60 t58_1.length c61, .slice A64 t58_2.length c65, .slice A70 t68_1.length c71, .slice A74 t68_2.length c75, g78) _ ⟨hHeld, ⟨_, _, rfl, CR62.out.2, CR62.out.1⟩, ⟨_, _, rfl, CR66.out.2, CR66.out.1⟩, ⟨_, _, rfl, CR72.out.2, CR72.out.1⟩, ⟨_, _, rfl, CR76.out.2, CR76.out.1⟩, ⟨HGg78.out, HLg78.out⟩⟩)
     ·skip
      refine box_step ?hg (N := 14) ?hd (cs := #[.slice none 0 0, .slice none 0 0]) (t := 25) ?hr ?_; (case hd => rfl); (case hg => rfl); (case hr => first | (go_simp; done) | (go_simp; rfl))
      intro g78 hg w1 hbox hb
      have HGg78 := Aside0.mk hbox; have HLg78 : Aside0 (W57.heap.size ≤ g78) := ⟨Nat.le_trans hHeld.size (Nat.le_of_eq hg.symm)⟩; have HM : Aside0 (g78 < w1.heap.size) := ⟨blk_lt hbox⟩; clear hbox
      clear hg
      have hHeld := hHeld.trans (hb.mono hHeld.size); clear hb
      refine hK.out _ _ hHeld (fun hHeld => ?_); clear hK K
      refine norm_ (a' := ?_) ?_ ?_; rotate_left
      ·show Act.put _ (some 14) _ = _
       simp only [Act.put, List.setIfInBounds_toArray, List.set_cons_zero, List.set_cons_succ, i64_w, i32_w]; rfl
      refine one_ (i := 6) (N := some 54) #[true, true, true, true, true, true, true, true, false, false, false, false, true, false, false] rfl rfl (one_of HT_.out (by kernel_rfl)) (by decide) (fun K hK => ?_)
      refine goes_ Try.func16 (by kernel_rfl) rfl #[.int .i64 ((wrap64 ((wrap64 a1) + (wrap64 a2))))] (by rfl) rfl rfl (by first | rfl | (simp only [List.map_toArray, List.map_cons, List.map_nil]; rfl)) ?_
      refine (triglyphref03_Atom.calls ((wrap64 ((wrap64 a1) + (wrap64 a2)))) _ _ _ E59.out).mono ?_
      rintro e w1 ⟨v63, v67, rfl, hv63, hv67, hb⟩
      refine ⟨_, rfl, ?_⟩
      obtain ⟨A60, c61, hv_⟩ := Kd.R_slice hv63; subst hv_; have CR62 := Aside0.mk (And.intro (hf_F2 hv63 HM.out) (Kd.R_reads' hv63).2.1); clear hv63
      obtain ⟨A64, c65, hv_⟩ := Kd.R_slice hv67; subst hv_; have CR66 := Aside0.mk (And.intro (hf_F2 hv67 HM.out) (Kd.R_reads' hv67).2.1); clear hv67
      have HGg78 := Aside0.mk (blk_below HGg78.out hb); have HM := Aside0.mk (Nat.lt_of_lt_of_le HM.out (Below.size hb))
      have hHeld := hHeld.trans (hb.mono hHeld.size); clear hb
      refine hK.out _ _ hHeld (fun hHeld => ?_); clear hK K
      refine norm_ (a' := ?_) ?_ ?_; rotate_left
      ·show Act.put _ (some 54) _ = _
       simp only [Act.put, List.setIfInBounds_toArray, List.set_cons_zero, List.set_cons_succ, i64_w, i32_w]; rfl
      refine one_ (i := 8) (N := some 56) #[true, true, true, true, true, true, true, true, true, false, false, false, true, false, false] rfl rfl (one_of HT_.out (by kernel_rfl)) (by decide) (fun K hK => ?_)
      refine goes_ Try.func11 (by kernel_rfl) rfl #[.int .i64 45, .agg #[.slice A60 t58_1.length c61, .slice A64 t58_2.length c65], .agg #[.slice A0_0 l0_0.length c0_0, .slice A0_1 l0_1.length c0_1]] (by rfl) rfl rfl (by first | rfl | (simp only [List.map_toArray, List.map_cons, List.map_nil]; rfl)) ?_
      refine (pick_Dy.calls k 45 _ A60 c61 t58_1 _ A64 c65 t58_2 _ A0_0 c0_0 l0_0 _ A0_1 c0_1 l0_1 _ _ _ _ (Kd.V_mk CR62.out.2 CR62.out.1) (Kd.V_mk CR66.out.2 CR66.out.1) (Kd.V_mk CRa0_0.out.2 (hf_F6 (Kd.C_F (Kd.heap_int .i64) CRa0_0.out.1) hHeld)) (Kd.V_mk CRa0_1.out.2 (hf_F6 (Kd.C_F k45_heap CRa0_1.out.1) hHeld)) E69.out).mono ?_
      rintro e w1 ⟨v73, v77, rfl, hv73, hv77, hb⟩
      refine ⟨_, rfl, ?_⟩
      obtain ⟨A70, c71, hv_, hl_, hf_⟩ := hv73; subst hv_; have CR72 := Aside0.mk (And.intro (Kd.F_mono (ok' := fun k_ => k_ ≠ g78) hf_ (fun k hk => by (try dsimp only at hk); have h1 := HLg78.out; have h2 := HM.out; omega)) hl_); clear hf_ hl_
      obtain ⟨A74, c75, hv_, hl_, hf_⟩ := hv77; subst hv_; have CR76 := Aside0.mk (And.intro (Kd.F_mono (ok' := fun k_ => k_ ≠ g78) hf_ (fun k hk => by (try dsimp only at hk); have h1 := HLg78.out; have h2 := HM.out; omega)) hl_); clear hf_ hl_
      have HGg78 := Aside0.mk (blk_below HGg78.out hb); have HM := Aside0.mk (Nat.lt_of_lt_of_le HM.out (Below.size hb))
      have CR62 := Aside0.mk (And.intro (hf_F4 CR62.out.1 hb) CR62.out.2)
      have CR66 := Aside0.mk (And.intro (hf_F4 CR66.out.1 hb) CR66.out.2)
      have hHeld := hHeld.trans (hb.mono hHeld.size); clear hb
      refine hK.out _ _ hHeld (fun hHeld => ?_); clear hK K
      refine norm_ (a' := ?_) ?_ ?_; rotate_left
      ·show Act.put _ (some 56) _ = _
       simp only [Act.put, List.setIfInBounds_toArray, List.set_cons_zero, List.set_cons_succ, i64_w, i32_w]; rfl
      refine pure_ (i := 9) (N := some 47) (v := ?_) (a' := ?_) #[true, true, true, true, true, true, true, true, true, true, false, false, true, false, false] rfl rfl (any_of HT_.out (by kernel_rfl)) (fun _ _ _ h => h) (Or.inl ⟨by rfl, ?_⟩) ?_ ?_; rotate_left
      ·intro w'; go_simp; with_reducible rfl
      rotate_left
      ·simp only [Act.put, List.setIfInBounds_toArray, List.set_cons_zero, List.set_cons_succ, i64_w, i32_w]; rfl
      refine pure_ (i := 10) (N := some 57) (v := ?_) (a' := ?_) #[true, true, true, true, true, true, true, true, true, true, true, false, true, false, false] rfl rfl (any_of HT_.out (by kernel_rfl)) (fun _ _ _ h => h) (Or.inl ⟨by rfl, ?_⟩) ?_ ?_; rotate_left
      ·intro w'; go_simp; with_reducible rfl
      rotate_left
      ·simp only [Act.put, List.setIfInBounds_toArray, List.set_cons_zero, List.set_cons_succ, i64_w, i32_w]; rfl
      refine pure_ (i := 11) (N := some 58) (v := ?_) (a' := ?_) #[true, true, true, true, true, true, true, true, true, true, true, true, true, false, false] rfl rfl (any_of HT_.out (by kernel_rfl)) (fun _ _ _ h => h) (Or.inl ⟨by rfl, ?_⟩) ?_ ?_; rotate_left
      ·intro w'; go_simp; with_reducible rfl
      rotate_left
      ·simp only [Act.put, List.setIfInBounds_toArray, List.set_cons_zero, List.set_cons_succ, i64_w, i32_w]; rfl
      exact norm_ (by simp only [putAll, Act.put, List.setIfInBounds_toArray, List.set_cons_zero, List.set_cons_succ]) (hCont (.slice A60 t58_1.length c61, .slice A64 t58_2.length c65, .slice A70 t68_1.length c71, .slice A74 t68_2.length c75, g78) _ ⟨hHeld, ⟨_, _, rfl, CR62.out.2, CR62.out.1⟩, ⟨_, _, rfl, CR66.out.2, CR66.out.1⟩, ⟨_, _, rfl, CR72.out.2, CR72.out.1⟩, ⟨_, _, rfl, CR76.out.2, CR76.out.1⟩, ⟨HGg78.out, HLg78.out⟩⟩)
    rintro ⟨v63, v67, v73, v77, g78⟩ w79 ⟨hHeld, hF0_, hF1_, hF2_, hF3_, hF4_⟩
    dsimp only at hF0_ hF1_ hF2_ hF3_ hF4_
    obtain ⟨A60, c61, hv_, hl_, hf_⟩ := hF0_; have CR62 := Aside0.mk (And.intro hf_ hl_); clear hf_ hl_; subst hv_
    obtain ⟨A64, c65, hv_, hl_, hf_⟩ := hF1_; have CR66 := Aside0.mk (And.intro hf_ hl_); clear hf_ hl_; subst hv_
    obtain ⟨A70, c71, hv_, hl_, hf_⟩ := hF2_; have CR72 := Aside0.mk (And.intro hf_ hl_); clear hf_ hl_; subst hv_
    obtain ⟨A74, c75, hv_, hl_, hf_⟩ := hF3_; have CR76 := Aside0.mk (And.intro hf_ hl_); clear hf_ hl_; subst hv_
    have HG := Aside0.mk hF4_; clear hF4_
    refine norm_ (a' := ?_) ?_ ?_; rotate_left
    ·simp only [putAll, Act.put, List.setIfInBounds_toArray, List.set_cons_zero, List.set_cons_succ]; rfl
    refine one_ (i := 13) (N := none) #[true, true, true, true, true, true, true, true, true, true, true, true, true, true, false] rfl rfl (one_of HT_.out (by kernel_rfl)) (by decide) (fun K hK => ?_)
    have y0 : w79.cell? ⟨g78, 0, none⟩ = some (.slice none 0 0) := (blk_cell HG.out.1 0).trans rfl; have u0 := blk_frozen HG.out.1 0; have y1 : w79.cell? ⟨g78, 1, none⟩ = some (.slice none 0 0) := (blk_cell HG.out.1 1).trans rfl; have u1 := blk_frozen HG.out.1 1
    refine skip_ (w1 := ?_) (by rfl) rfl ?_ ?_; rotate_left
    ·go_simp; rfl
    have HB2 := Aside0.mk (hf_st2 hHeld HG.out.2 (.slice A70 t68_1.length c71) (.slice A74 t68_2.length c75))
    have CR62 := Aside0.mk (And.intro (hf_F5a CR62.out.1 (.slice A70 t68_1.length c71) (.slice A74 t68_2.length c75)) CR62.out.2)
    have CR66 := Aside0.mk (And.intro (hf_F5a CR66.out.1 (.slice A70 t68_1.length c71) (.slice A74 t68_2.length c75)) CR66.out.2)
    have CR72 := Aside0.mk (And.intro (hf_F5a CR72.out.1 (.slice A70 t68_1.length c71) (.slice A74 t68_2.length c75)) CR72.out.2)
    have CR76 := Aside0.mk (And.intro (hf_F5a CR76.out.1 (.slice A70 t68_1.length c71) (.slice A74 t68_2.length c75)) CR76.out.2)
    have HG := Aside0.mk (And.intro (hf_z2 HG.out.1 (.slice A70 t68_1.length c71) (.slice A74 t68_2.length c75)) HG.out.2)
    refine hK.out _ _ HB2.out (fun hHeld => ?_); clear hK K HB2 y0 u0 y1 u1
    generalize (w79.setCell _ _).setCell _ _ = w80 at hHeld HG CR62 CR66 CR72 CR76 ⊢
    refine pure_ (i := 14) (N := some 15) (v := ?_) (a' := ?_) #[true, true, true, true, true, true, true, true, true, true, true, true, true, true, true] rfl rfl (any_of HT_.out (by kernel_rfl)) (fun _ _ _ h => h) (Or.inl ⟨by rfl, ?_⟩) ?_ ?_; rotate_left
    ·intro w'; go_simp; with_reducible rfl
    rotate_left
    ·simp only [Act.put, List.setIfInBounds_toArray, List.set_cons_zero, List.set_cons_succ, i64_w, i32_w]; rfl
    refine done_ (done_of HT_.out (by kernel_rfl)) ?_
    have CR62 := Aside0.mk (And.intro (Kd.F_now CR62.out.1) CR62.out.2)
    have CR66 := Aside0.mk (And.intro (Kd.F_now CR66.out.1) CR66.out.2)
    have CR72 := Aside0.mk (And.intro (Kd.F_now CR72.out.1) CR72.out.2)
    have CR76 := Aside0.mk (And.intro (Kd.F_now CR76.out.1) CR76.out.2)
    have CRa0_0 := Aside0.mk (And.intro (Kd.C_below CRa0_0.out.1 hHeld) CRa0_0.out.2)
    have CRa0_1 := Aside0.mk (And.intro (Kd.C_below CRa0_1.out.1 hHeld) CRa0_1.out.2)
    have CR14 := Aside0.mk (And.intro (Kd.C_below CR14.out.1 hHeld) CR14.out.2)
    have CR18 := Aside0.mk (And.intro (Kd.C_below CR18.out.1 hHeld) CR18.out.2)
    have CR24 := Aside0.mk (And.intro (Kd.C_below CR24.out.1 hHeld) CR24.out.2)
    have CR28 := Aside0.mk (And.intro (Kd.C_below CR28.out.1 hHeld) CR28.out.2)
    have CR38 := Aside0.mk (And.intro (Kd.C_below CR38.out.1 hHeld) CR38.out.2)
    have CR42 := Aside0.mk (And.intro (Kd.C_below CR42.out.1 hHeld) CR42.out.2)
    have CR48 := Aside0.mk (And.intro (Kd.C_below CR48.out.1 hHeld) CR48.out.2)
    have CR52 := Aside0.mk (And.intro (Kd.C_below CR52.out.1 hHeld) CR52.out.2)
    have HS := Aside0.mk (BxS.add HS.out hHeld HG.out.1 HG.out.2)
    clear hHeld HG
    have z0_0 : w80.cell? ⟨w.heap.size, 0, none⟩ = some (.slice A0_0 l0_0.length c0_0) := (blk_cell (HS.out.at_ 3 rfl) 0).trans rfl; have z0_1 : w80.cell? ⟨w.heap.size, 1, none⟩ = some (.slice A0_1 l0_1.length c0_1) := (blk_cell (HS.out.at_ 3 rfl) 1).trans rfl; have z1_0 : w80.cell? ⟨g30, 0, none⟩ = some (.slice A22 t20_1.length c23) := (blk_cell (HS.out.at_ 2 rfl) 0).trans rfl; have z1_1 : w80.cell? ⟨g30, 1, none⟩ = some (.slice A26 t20_2.length c27) := (blk_cell (HS.out.at_ 2 rfl) 1).trans rfl; have z2_0 : w80.cell? ⟨g54, 0, none⟩ = some (.slice A46 t44_1.length c47) := (blk_cell (HS.out.at_ 1 rfl) 0).trans rfl; have z2_1 : w80.cell? ⟨g54, 1, none⟩ = some (.slice A50 t44_2.length c51) := (blk_cell (HS.out.at_ 1 rfl) 1).trans rfl; have z3_0 : w80.cell? ⟨g78, 0, none⟩ = some (.slice A70 t68_1.length c71) := (blk_cell (HS.out.at_ 0 rfl) 0).trans rfl; have z3_1 : w80.cell? ⟨g78, 1, none⟩ = some (.slice A74 t68_2.length c75) := (blk_cell (HS.out.at_ 0 rfl) 1).trans rfl
    by_cases q81 : t20_3 = 0
    ·rw [if_pos q81] at h
     have q81b0 := (bne_eq_false_iff_eq.2 q81 : (t20_3 != 0) = false)
     have Iq81 := Aside0.mk q81
     clear q81
     by_cases q82 : t44_3 = 0
     ·rw [if_pos q82] at h
      have q82b0 := (bne_eq_false_iff_eq.2 q82 : (t44_3 != 0) = false)
      have Iq82 := Aside0.mk q82
      clear q82
      by_cases q83 : t68_3 = 0
      ·rw [if_pos q83] at h
       have q83b0 := (bne_eq_false_iff_eq.2 q83 : (t68_3 != 0) = false)
       have Iq83 := Aside0.mk q83
       clear q83
       obtain ⟨t84, q_, h_⟩ := Option.bind_eq_some_iff.1 h; clear h; have h := h_; clear h_; have E85 := Aside0.mk q_; clear q_
       cases t84 with
       | true =>
        rw [if_pos rfl] at h
        by_cases q87 : (l0_0.length : Int) = 0
        ·rw [if_pos q87] at h
         have q87b0 := (beq_iff_eq.2 q87 : ((l0_0.length : Int) == 0) = true)
         have Iq87 := Aside0.mk q87
         clear q87
         have q88b0 : (t20_3 == 0) = true := by have Iq81 := Iq81.out; exact beq_iff_eq.2 (by omega)
         have q89b0 : (t44_3 == 0) = true := by have Iq82 := Iq82.out; exact beq_iff_eq.2 (by omega)
         have q90b0 : (t68_3 == 0) = true := by have Iq83 := Iq83.out; exact beq_iff_eq.2 (by omega)
         obtain ⟨t91, q_, h_⟩ := Option.bind_eq_some_iff.1 h; clear h; have h := h_; clear h_; have E92 := Aside0.mk q_; clear q_
         cases t91 with
         | true =>
          rw [if_pos rfl] at h
          obtain ⟨t94, q_, h_⟩ := Option.bind_eq_some_iff.1 h; clear h; have h := h_; clear h_; have E95 := Aside0.mk q_; clear q_
          obtain rfl := Option.some.inj h
          go_wp2_with (first | (go_at_call 13; (with_reducible refine (triglyphref03_Same.calls k A46 c47 t44_1 A50 c51 t44_2 A70 c71 t68_1 A74 c75 t68_2 _ _ CR48.out.1 CR48.out.2 CR52.out.1 CR52.out.2 CR72.out.1 CR72.out.2 CR76.out.1 CR76.out.2 E85.out).mono ?_); rintro e w86 ⟨rfl, hb⟩; have CRa0_0 := Aside0.mk (And.intro (Kd.C_below CRa0_0.out.1 hb) CRa0_0.out.2); have CRa0_1 := Aside0.mk (And.intro (Kd.C_below CRa0_1.out.1 hb) CRa0_1.out.2); have CR14 := Aside0.mk (And.intro (Kd.C_below CR14.out.1 hb) CR14.out.2); have CR18 := Aside0.mk (And.intro (Kd.C_below CR18.out.1 hb) CR18.out.2); have CR24 := Aside0.mk (And.intro (Kd.C_below CR24.out.1 hb) CR24.out.2); have CR28 := Aside0.mk (And.intro (Kd.C_below CR28.out.1 hb) CR28.out.2); have CR38 := Aside0.mk (And.intro (Kd.C_below CR38.out.1 hb) CR38.out.2); have CR42 := Aside0.mk (And.intro (Kd.C_below CR42.out.1 hb) CR42.out.2); have CR48 := Aside0.mk (And.intro (Kd.C_below CR48.out.1 hb) CR48.out.2); have CR52 := Aside0.mk (And.intro (Kd.C_below CR52.out.1 hb) CR52.out.2); have CR62 := Aside0.mk (And.intro (Kd.C_below CR62.out.1 hb) CR62.out.2); have CR66 := Aside0.mk (And.intro (Kd.C_below CR66.out.1 hb) CR66.out.2); have CR72 := Aside0.mk (And.intro (Kd.C_below CR72.out.1 hb) CR72.out.2); have CR76 := Aside0.mk (And.intro (Kd.C_below CR76.out.1 hb) CR76.out.2); have HS := Aside0.mk (HS.out.step hb); clear hb; (try clear z0_0 z0_1 z1_0 z1_1 z2_0 z2_1 z3_0 z3_1); have z0_0 : w86.cell? ⟨w.heap.size, 0, none⟩ = some (.slice A0_0 l0_0.length c0_0) := (blk_cell (HS.out.at_ 3 rfl) 0).trans rfl; have z0_1 : w86.cell? ⟨w.heap.size, 1, none⟩ = some (.slice A0_1 l0_1.length c0_1) := (blk_cell (HS.out.at_ 3 rfl) 1).trans rfl; have z1_0 : w86.cell? ⟨g30, 0, none⟩ = some (.slice A22 t20_1.length c23) := (blk_cell (HS.out.at_ 2 rfl) 0).trans rfl; have z1_1 : w86.cell? ⟨g30, 1, none⟩ = some (.slice A26 t20_2.length c27) := (blk_cell (HS.out.at_ 2 rfl) 1).trans rfl; have z2_0 : w86.cell? ⟨g54, 0, none⟩ = some (.slice A46 t44_1.length c47) := (blk_cell (HS.out.at_ 1 rfl) 0).trans rfl; have z2_1 : w86.cell? ⟨g54, 1, none⟩ = some (.slice A50 t44_2.length c51) := (blk_cell (HS.out.at_ 1 rfl) 1).trans rfl; have z3_0 : w86.cell? ⟨g78, 0, none⟩ = some (.slice A70 t68_1.length c71) := (blk_cell (HS.out.at_ 0 rfl) 0).trans rfl; have z3_1 : w86.cell? ⟨g78, 1, none⟩ = some (.slice A74 t68_2.length c75) := (blk_cell (HS.out.at_ 0 rfl) 1).trans rfl) | (go_at_call 13; (with_reducible refine (triglyphref03_Same.calls k A46 c47 t44_1 A50 c51 t44_2 A70 c71 t68_1 A74 c75 t68_2 _ _ CR48.out.1 CR48.out.2 CR52.out.1 CR52.out.2 CR72.out.1 CR72.out.2 CR76.out.1 CR76.out.2 E92.out).mono ?_); rintro e w93 ⟨rfl, hb⟩; have CRa0_0 := Aside0.mk (And.intro (Kd.C_below CRa0_0.out.1 hb) CRa0_0.out.2); have CRa0_1 := Aside0.mk (And.intro (Kd.C_below CRa0_1.out.1 hb) CRa0_1.out.2); have CR14 := Aside0.mk (And.intro (Kd.C_below CR14.out.1 hb) CR14.out.2); have CR18 := Aside0.mk (And.intro (Kd.C_below CR18.out.1 hb) CR18.out.2); have CR24 := Aside0.mk (And.intro (Kd.C_below CR24.out.1 hb) CR24.out.2); have CR28 := Aside0.mk (And.intro (Kd.C_below CR28.out.1 hb) CR28.out.2); have CR38 := Aside0.mk (And.intro (Kd.C_below CR38.out.1 hb) CR38.out.2); have CR42 := Aside0.mk (And.intro (Kd.C_below CR42.out.1 hb) CR42.out.2); have CR48 := Aside0.mk (And.intro (Kd.C_below CR48.out.1 hb) CR48.out.2); have CR52 := Aside0.mk (And.intro (Kd.C_below CR52.out.1 hb) CR52.out.2); have CR62 := Aside0.mk (And.intro (Kd.C_below CR62.out.1 hb) CR62.out.2); have CR66 := Aside0.mk (And.intro (Kd.C_below CR66.out.1 hb) CR66.out.2); have CR72 := Aside0.mk (And.intro (Kd.C_below CR72.out.1 hb) CR72.out.2); have CR76 := Aside0.mk (And.intro (Kd.C_below CR76.out.1 hb) CR76.out.2); have HS := Aside0.mk (HS.out.step hb); clear hb; (try clear z0_0 z0_1 z1_0 z1_1 z2_0 z2_1 z3_0 z3_1); have z0_0 : w93.cell? ⟨w.heap.size, 0, none⟩ = some (.slice A0_0 l0_0.length c0_0) := (blk_cell (HS.out.at_ 3 rfl) 0).trans rfl; have z0_1 : w93.cell? ⟨w.heap.size, 1, none⟩ = some (.slice A0_1 l0_1.length c0_1) := (blk_cell (HS.out.at_ 3 rfl) 1).trans rfl; have z1_0 : w93.cell? ⟨g30, 0, none⟩ = some (.slice A22 t20_1.length c23) := (blk_cell (HS.out.at_ 2 rfl) 0).trans rfl; have z1_1 : w93.cell? ⟨g30, 1, none⟩ = some (.slice A26 t20_2.length c27) := (blk_cell (HS.out.at_ 2 rfl) 1).trans rfl; have z2_0 : w93.cell? ⟨g54, 0, none⟩ = some (.slice A46 t44_1.length c47) := (blk_cell (HS.out.at_ 1 rfl) 0).trans rfl; have z2_1 : w93.cell? ⟨g54, 1, none⟩ = some (.slice A50 t44_2.length c51) := (blk_cell (HS.out.at_ 1 rfl) 1).trans rfl; have z3_0 : w93.cell? ⟨g78, 0, none⟩ = some (.slice A70 t68_1.length c71) := (blk_cell (HS.out.at_ 0 rfl) 0).trans rfl; have z3_1 : w93.cell? ⟨g78, 1, none⟩ = some (.slice A74 t68_2.length c75) := (blk_cell (HS.out.at_ 0 rfl) 1).trans rfl) | (go_at_call 10; (with_reducible refine (triglyphlaw06_works.calls k _ _ E95.out).mono ?_); rintro e w96 ⟨rfl, hb⟩; have CRa0_0 := Aside0.mk (And.intro (Kd.C_below CRa0_0.out.1 hb) CRa0_0.out.2); have CRa0_1 := Aside0.mk (And.intro (Kd.C_below CRa0_1.out.1 hb) CRa0_1.out.2); have CR14 := Aside0.mk (And.intro (Kd.C_below CR14.out.1 hb) CR14.out.2); have CR18 := Aside0.mk (And.intro (Kd.C_below CR18.out.1 hb) CR18.out.2); have CR24 := Aside0.mk (And.intro (Kd.C_below CR24.out.1 hb) CR24.out.2); have CR28 := Aside0.mk (And.intro (Kd.C_below CR28.out.1 hb) CR28.out.2); have CR38 := Aside0.mk (And.intro (Kd.C_below CR38.out.1 hb) CR38.out.2); have CR42 := Aside0.mk (And.intro (Kd.C_below CR42.out.1 hb) CR42.out.2); have CR48 := Aside0.mk (And.intro (Kd.C_below CR48.out.1 hb) CR48.out.2); have CR52 := Aside0.mk (And.intro (Kd.C_below CR52.out.1 hb) CR52.out.2); have CR62 := Aside0.mk (And.intro (Kd.C_below CR62.out.1 hb) CR62.out.2); have CR66 := Aside0.mk (And.intro (Kd.C_below CR66.out.1 hb) CR66.out.2); have CR72 := Aside0.mk (And.intro (Kd.C_below CR72.out.1 hb) CR72.out.2); have CR76 := Aside0.mk (And.intro (Kd.C_below CR76.out.1 hb) CR76.out.2); have HS := Aside0.mk (HS.out.step hb); clear hb; (try clear z0_0 z0_1 z1_0 z1_1 z2_0 z2_1 z3_0 z3_1); have z0_0 : w96.cell? ⟨w.heap.size, 0, none⟩ = some (.slice A0_0 l0_0.length c0_0) := (blk_cell (HS.out.at_ 3 rfl) 0).trans rfl; have z0_1 : w96.cell? ⟨w.heap.size, 1, none⟩ = some (.slice A0_1 l0_1.length c0_1) := (blk_cell (HS.out.at_ 3 rfl) 1).trans rfl; have z1_0 : w96.cell? ⟨g30, 0, none⟩ = some (.slice A22 t20_1.length c23) := (blk_cell (HS.out.at_ 2 rfl) 0).trans rfl; have z1_1 : w96.cell? ⟨g30, 1, none⟩ = some (.slice A26 t20_2.length c27) := (blk_cell (HS.out.at_ 2 rfl) 1).trans rfl; have z2_0 : w96.cell? ⟨g54, 0, none⟩ = some (.slice A46 t44_1.length c47) := (blk_cell (HS.out.at_ 1 rfl) 0).trans rfl; have z2_1 : w96.cell? ⟨g54, 1, none⟩ = some (.slice A50 t44_2.length c51) := (blk_cell (HS.out.at_ 1 rfl) 1).trans rfl; have z3_0 : w96.cell? ⟨g78, 0, none⟩ = some (.slice A70 t68_1.length c71) := (blk_cell (HS.out.at_ 0 rfl) 0).trans rfl; have z3_1 : w96.cell? ⟨g78, 1, none⟩ = some (.slice A74 t68_2.length c75) := (blk_cell (HS.out.at_ 0 rfl) 1).trans rfl))
          go_ret
          exact ⟨rfl, HS.out.bel⟩
         | false =>
          rw [if_neg (by decide)] at h
          cases h
        ·rw [if_neg q87] at h
         have q87b0 := (beq_eq_false_iff_ne.2 q87 : ((l0_0.length : Int) == 0) = false)
         have Iq87 := Aside0.mk q87
         clear q87
         by_cases q97 : (0 : Int) < (l0_0.length : Int)
         ·rw [if_pos q97] at h
          have q97b0 := q97
          clear q97
          by_cases q99 : 0 ≤ (wrap64 ((l0_0.length : Int) - 1)) ∧ (wrap64 ((l0_0.length : Int) - 1)) < (l0_0.length : Int)
          ·rw [if_pos q99] at h
           have q99b0 := q99.1
           have q99b1 := q99.2
           clear q99
           obtain ⟨⟨t102_1, t102_2⟩, q_, h⟩ := Option.bind_eq_some_iff.1 h; have E103 := Aside0.mk q_; clear q_; (try dsimp only at h)
           obtain ⟨⟨t112_1, t112_2, t112_3⟩, q_, h⟩ := Option.bind_eq_some_iff.1 h; have E113 := Aside0.mk q_; clear q_; (try dsimp only at h)
           go_upto_region 14 with (first | (go_at_call 13; (with_reducible refine (triglyphref03_Same.calls k A46 c47 t44_1 A50 c51 t44_2 A70 c71 t68_1 A74 c75 t68_2 _ _ CR48.out.1 CR48.out.2 CR52.out.1 CR52.out.2 CR72.out.1 CR72.out.2 CR76.out.1 CR76.out.2 E85.out).mono ?_); rintro e w86 ⟨rfl, hb⟩; have CRa0_0 := Aside0.mk (And.intro (Kd.C_below CRa0_0.out.1 hb) CRa0_0.out.2); have CRa0_1 := Aside0.mk (And.intro (Kd.C_below CRa0_1.out.1 hb) CRa0_1.out.2); have CR14 := Aside0.mk (And.intro (Kd.C_below CR14.out.1 hb) CR14.out.2); have CR18 := Aside0.mk (And.intro (Kd.C_below CR18.out.1 hb) CR18.out.2); have CR24 := Aside0.mk (And.intro (Kd.C_below CR24.out.1 hb) CR24.out.2); have CR28 := Aside0.mk (And.intro (Kd.C_below CR28.out.1 hb) CR28.out.2); have CR38 := Aside0.mk (And.intro (Kd.C_below CR38.out.1 hb) CR38.out.2); have CR42 := Aside0.mk (And.intro (Kd.C_below CR42.out.1 hb) CR42.out.2); have CR48 := Aside0.mk (And.intro (Kd.C_below CR48.out.1 hb) CR48.out.2); have CR52 := Aside0.mk (And.intro (Kd.C_below CR52.out.1 hb) CR52.out.2); have CR62 := Aside0.mk (And.intro (Kd.C_below CR62.out.1 hb) CR62.out.2); have CR66 := Aside0.mk (And.intro (Kd.C_below CR66.out.1 hb) CR66.out.2); have CR72 := Aside0.mk (And.intro (Kd.C_below CR72.out.1 hb) CR72.out.2); have CR76 := Aside0.mk (And.intro (Kd.C_below CR76.out.1 hb) CR76.out.2); have HS := Aside0.mk (HS.out.step hb); clear hb; (try clear z0_0 z0_1 z1_0 z1_1 z2_0 z2_1 z3_0 z3_1); have z0_0 : w86.cell? ⟨w.heap.size, 0, none⟩ = some (.slice A0_0 l0_0.length c0_0) := (blk_cell (HS.out.at_ 3 rfl) 0).trans rfl; have z0_1 : w86.cell? ⟨w.heap.size, 1, none⟩ = some (.slice A0_1 l0_1.length c0_1) := (blk_cell (HS.out.at_ 3 rfl) 1).trans rfl; have z1_0 : w86.cell? ⟨g30, 0, none⟩ = some (.slice A22 t20_1.length c23) := (blk_cell (HS.out.at_ 2 rfl) 0).trans rfl; have z1_1 : w86.cell? ⟨g30, 1, none⟩ = some (.slice A26 t20_2.length c27) := (blk_cell (HS.out.at_ 2 rfl) 1).trans rfl; have z2_0 : w86.cell? ⟨g54, 0, none⟩ = some (.slice A46 t44_1.length c47) := (blk_cell (HS.out.at_ 1 rfl) 0).trans rfl; have z2_1 : w86.cell? ⟨g54, 1, none⟩ = some (.slice A50 t44_2.length c51) := (blk_cell (HS.out.at_ 1 rfl) 1).trans rfl; have z3_0 : w86.cell? ⟨g78, 0, none⟩ = some (.slice A70 t68_1.length c71) := (blk_cell (HS.out.at_ 0 rfl) 0).trans rfl; have z3_1 : w86.cell? ⟨g78, 1, none⟩ = some (.slice A74 t68_2.length c75) := (blk_cell (HS.out.at_ 0 rfl) 1).trans rfl; obtain ⟨ad98, ea_, ad98_0⟩ := Kd.at_int CRa0_0.out.1 (0 : Int) (by omega) (by omega); (first | subst ea_ | (injection ea_ with ea_; have ea_ := ea_.symm; subst ea_)); rw [show Int.toNat 0 = 0 from rfl] at ad98_0; rw [Addr.add_zero'] at ad98_0; obtain ⟨ad100, ea_, ad100_0⟩ := Kd.at_int CRa0_0.out.1 (wrap64 ((l0_0.length : Int) - 1)) (by omega) (by omega); (first | subst ea_ | (injection ea_ with ea_; have ea_ := ea_.symm; subst ea_))))
           refine start_ (n := 11) (S := fun W' => Below w86.drew.heap.size w86.drew W') (ds := []) #[false, false, false, false, false, false, false, false, false, false, false] (by kernel_rfl) rfl rfl (Below.refl _ _) (fun hHeld => ?_)
           refine with_tabW triglyphlaw06_PickRotates.tab14 triglyphlaw06_PickRotates.bits14 (fun HT_ HW_ => ?_)
           (try clear z0_0 z0_1 z1_0 z1_1 z2_0 z2_1 z3_0 z3_1); have HS := Aside0.mk (HS.out.step (below_drew (Below.refl _ _)))
           have CRa0_0 := Aside0.mk (And.intro (Kd.C_below CRa0_0.out.1 (below_drew (Below.refl _ _))) CRa0_0.out.2)
           have CRa0_1 := Aside0.mk (And.intro (Kd.C_below CRa0_1.out.1 (below_drew (Below.refl _ _))) CRa0_1.out.2)
           have CR14 := Aside0.mk (And.intro (Kd.C_below CR14.out.1 (below_drew (Below.refl _ _))) CR14.out.2)
           have CR18 := Aside0.mk (And.intro (Kd.C_below CR18.out.1 (below_drew (Below.refl _ _))) CR18.out.2)
           have CR24 := Aside0.mk (And.intro (Kd.C_below CR24.out.1 (below_drew (Below.refl _ _))) CR24.out.2)
           have CR28 := Aside0.mk (And.intro (Kd.C_below CR28.out.1 (below_drew (Below.refl _ _))) CR28.out.2)
           have CR38 := Aside0.mk (And.intro (Kd.C_below CR38.out.1 (below_drew (Below.refl _ _))) CR38.out.2)
           have CR42 := Aside0.mk (And.intro (Kd.C_below CR42.out.1 (below_drew (Below.refl _ _))) CR42.out.2)
           have CR48 := Aside0.mk (And.intro (Kd.C_below CR48.out.1 (below_drew (Below.refl _ _))) CR48.out.2)
           have CR52 := Aside0.mk (And.intro (Kd.C_below CR52.out.1 (below_drew (Below.refl _ _))) CR52.out.2)
           have CR62 := Aside0.mk (And.intro (Kd.C_below CR62.out.1 (below_drew (Below.refl _ _))) CR62.out.2)
           have CR66 := Aside0.mk (And.intro (Kd.C_below CR66.out.1 (below_drew (Below.refl _ _))) CR66.out.2)
           have CR72 := Aside0.mk (And.intro (Kd.C_below CR72.out.1 (below_drew (Below.refl _ _))) CR72.out.2)
           have CR76 := Aside0.mk (And.intro (Kd.C_below CR76.out.1 (below_drew (Below.refl _ _))) CR76.out.2)
           generalize w86.drew = W101 at HS CRa0_0 CRa0_1 CR14 CR18 CR24 CR28 CR38 CR42 CR48 CR52 CR62 CR66 CR72 CR76 hHeld ⊢
           refine pure_ (i := 0) (N := some 113) (v := ?_) (a' := ?_) #[true, false, false, false, false, false, false, false, false, false, false] rfl rfl (any_of HT_.out (by kernel_rfl)) (fun _ _ _ h => h) (Or.inl ⟨by rfl, ?_⟩) ?_ ?_; rotate_left
           ·intro w'; go_simp; with_reducible rfl
           rotate_left
           ·simp only [Act.put, List.setIfInBounds_toArray, List.set_cons_zero, List.set_cons_succ, i64_w, i32_w]; rfl
           refine pure_ (i := 1) (N := some 114) (v := ?_) (a' := ?_) #[true, true, false, false, false, false, false, false, false, false, false] rfl rfl (any_of HT_.out (by kernel_rfl)) (fun _ _ _ h => h) (Or.inl ⟨by rfl, ?_⟩) ?_ ?_; rotate_left
           ·intro w'; go_simp; with_reducible rfl
           rotate_left
           ·simp only [Act.put, List.setIfInBounds_toArray, List.set_cons_zero, List.set_cons_succ, i64_w, i32_w]; rfl
           refine take_ (i := 3) (N := some 116) (v := ?_) (a' := ?_) #[true, true, false, true, false, false, false, false, false, false, false] rfl rfl (take_ofW HT_.out HW_.out (by kernel_rfl)) (fun _ _ _ h => h) (Or.inl ⟨by rfl, ?_⟩) hHeld ?_ ?_; rotate_left
           ·intro w' s0; have y0 : w'.cell? ⟨w.heap.size, 0, none⟩ = some (.slice (some ad100) l0_0.length c0_0) := (blk_cell ((HS.out.step s0).at_ 3 rfl) 0).trans rfl; have y1 : w'.cell? ⟨w.heap.size, 1, none⟩ = some (.slice A0_1 l0_1.length c0_1) := (blk_cell ((HS.out.step s0).at_ 3 rfl) 1).trans rfl; go_simp; with_reducible rfl
           rotate_left
           ·simp only [Act.put, List.setIfInBounds_toArray, List.set_cons_zero, List.set_cons_succ, i64_w, i32_w]; rfl
           refine join_ (σ := Value × Value × Value × Value × Nat) 2 #[true, true, true, true, true, true, true, true, true, false, false] (fun s_ => [(115, .agg #[s_.1, s_.2.1]), (117, .tuple #[.agg #[s_.2.2.1, s_.2.2.2.1], .int .i64 t112_3]), (17, .pointer (some ⟨s_.2.2.2.2, 0, none⟩)), (112, .tuple #[.agg #[s_.2.2.1, s_.2.2.2.1], .int .i64 t112_3]), (118, .agg #[s_.2.2.1, s_.2.2.2.1]), (119, .int .i64 t112_3)]) (fun s_ w' => Below W101.heap.size W101 w' ∧ (∃ A_ c_, s_.1 = .slice A_ (t102_1).length c_ ∧ (t102_1).length ≤ c_ ∧ Kd.F (Kd.int .i64) w' (fun k_ => k_ ≠ s_.2.2.2.2) A_ (t102_1).length t102_1) ∧ (∃ A_ c_, s_.2.1 = .slice A_ (t102_2).length c_ ∧ (t102_2).length ≤ c_ ∧ Kd.F k45 w' (fun k_ => k_ ≠ s_.2.2.2.2) A_ (t102_2).length t102_2) ∧ (∃ A_ c_, s_.2.2.1 = .slice A_ (t112_1).length c_ ∧ (t112_1).length ≤ c_ ∧ Kd.F (Kd.int .i64) w' (fun k_ => k_ ≠ s_.2.2.2.2) A_ (t112_1).length t112_1) ∧ (∃ A_ c_, s_.2.2.2.1 = .slice A_ (t112_2).length c_ ∧ (t112_2).length ≤ c_ ∧ Kd.F k45 w' (fun k_ => k_ ≠ s_.2.2.2.2) A_ (t112_2).length t112_2) ∧ (w'.heap[s_.2.2.2.2]? = some (.cells #[.slice none 0 0, .slice none 0 0] 25 (0, 0)) ∧ W101.heap.size ≤ s_.2.2.2.2)) ?_ ?_; rotate_left
           ·intro hCont
            refine two_ (i := 2) (j := 8) (Ni := some 115) (Nj := some 17) #[true, true, true, true, false, false, false, false, false, false, false] #[true, true, false, true, false, false, false, false, true, false, false] rfl rfl rfl rfl (two_of HT_.out (by kernel_rfl)) (by decide) (by decide) (fun K hK => ?_) (fun K hK => ?_)
            ·skip
             refine goes_ Try.func16 (by kernel_rfl) rfl #[.int .i64 (rd l0_0 (wrap64 ((l0_0.length : Int) - 1)))] (by rfl) rfl rfl (by first | rfl | (simp only [List.map_toArray, List.map_cons, List.map_nil]; rfl)) ?_
             refine (triglyphref03_Atom.calls (rd l0_0 (wrap64 ((l0_0.length : Int) - 1))) _ _ _ E103.out).mono ?_
             rintro e w1 ⟨v107, v111, rfl, hv107, hv111, hb⟩
             refine ⟨_, rfl, ?_⟩
             obtain ⟨A104, c105, hv_⟩ := Kd.R_slice hv107; subst hv_; have CR106 := Aside0.mk (And.intro (hf_F1 hv107) (Kd.R_reads' hv107).2.1); clear hv107
             obtain ⟨A108, c109, hv_⟩ := Kd.R_slice hv111; subst hv_; have CR110 := Aside0.mk (And.intro (hf_F1 hv111) (Kd.R_reads' hv111).2.1); clear hv111
             have hHeld := hHeld.trans (hb.mono hHeld.size); clear hb
             refine hK.out _ _ hHeld (fun hHeld => ?_); clear hK K
             refine norm_ (a' := ?_) ?_ ?_; rotate_left
             ·show Act.put _ (some 115) _ = _
              simp only [Act.put, List.setIfInBounds_toArray, List.set_cons_zero, List.set_cons_succ, i64_w, i32_w]; rfl
             refine two_ (i := 4) (j := 8) (Ni := some 117) (Nj := some 17) #[true, true, true, true, true, false, false, false, false, false, false] #[true, true, true, true, false, false, false, false, true, false, false] rfl rfl rfl rfl (two_of HT_.out (by kernel_rfl)) (by decide) (by decide) (fun K hK => ?_) (fun K hK => ?_)
             ·skip
              refine goes_ Try.func11 (by kernel_rfl) rfl #[.int .i64 45, .agg #[.slice A104 t102_1.length c105, .slice A108 t102_2.length c109], .agg #[.slice (some ad100) l0_0.length c0_0, .slice A0_1 l0_1.length c0_1]] (by rfl) rfl rfl (by first | rfl | (simp only [List.map_toArray, List.map_cons, List.map_nil]; rfl)) ?_
              refine (pick_Dy.calls k 45 _ A104 c105 t102_1 _ A108 c109 t102_2 _ (some ad100) c0_0 l0_0 _ A0_1 c0_1 l0_1 _ _ _ _ (Kd.V_mk CR106.out.2 CR106.out.1) (Kd.V_mk CR110.out.2 CR110.out.1) (Kd.V_mk CRa0_0.out.2 (hf_F6 (Kd.C_F (Kd.heap_int .i64) CRa0_0.out.1) hHeld)) (Kd.V_mk CRa0_1.out.2 (hf_F6 (Kd.C_F k45_heap CRa0_1.out.1) hHeld)) E113.out).mono ?_
              rintro e w1 ⟨v117, v121, rfl, hv117, hv121, hb⟩
              refine ⟨_, rfl, ?_⟩
              obtain ⟨A114, c115, hv_, hl_, hf_⟩ := hv117; subst hv_; have CR116 := Aside0.mk (And.intro (Kd.F_mono (ok' := fun _ => True) hf_ (fun _ _ => trivial)) hl_); clear hf_ hl_
              obtain ⟨A118, c119, hv_, hl_, hf_⟩ := hv121; subst hv_; have CR120 := Aside0.mk (And.intro (Kd.F_mono (ok' := fun _ => True) hf_ (fun _ _ => trivial)) hl_); clear hf_ hl_
              have CR106 := Aside0.mk (And.intro (hf_F4 CR106.out.1 hb) CR106.out.2)
              have CR110 := Aside0.mk (And.intro (hf_F4 CR110.out.1 hb) CR110.out.2)
              have hHeld := hHeld.trans (hb.mono hHeld.size); clear hb
              refine hK.out _ _ hHeld (fun hHeld => ?_); clear hK K
              refine norm_ (a' := ?_) ?_ ?_; rotate_left
              ·show Act.put _ (some 117) _ = _
               simp only [Act.put, List.setIfInBounds_toArray, List.set_cons_zero, List.set_cons_succ, i64_w, i32_w]; rfl
              refine pure_ (i := 5) (N := some 112) (v := ?_) (a' := ?_) #[true, true, true, true, true, true, false, false, false, false, false] rfl rfl (any_of HT_.out (by kernel_rfl)) (fun _ _ _ h => h) (Or.inl ⟨by rfl, ?_⟩) ?_ ?_; rotate_left
              ·intro w'; go_simp; with_reducible rfl
              rotate_left
              ·simp only [Act.put, List.setIfInBounds_toArray, List.set_cons_zero, List.set_cons_succ, i64_w, i32_w]; rfl
              refine pure_ (i := 6) (N := some 118) (v := ?_) (a' := ?_) #[true, true, true, true, true, true, true, false, false, false, false] rfl rfl (any_of HT_.out (by kernel_rfl)) (fun _ _ _ h => h) (Or.inl ⟨by rfl, ?_⟩) ?_ ?_; rotate_left
              ·intro w'; go_simp; with_reducible rfl
              rotate_left
              ·simp only [Act.put, List.setIfInBounds_toArray, List.set_cons_zero, List.set_cons_succ, i64_w, i32_w]; rfl
              refine pure_ (i := 7) (N := some 119) (v := ?_) (a' := ?_) #[true, true, true, true, true, true, true, true, false, false, false] rfl rfl (any_of HT_.out (by kernel_rfl)) (fun _ _ _ h => h) (Or.inl ⟨by rfl, ?_⟩) ?_ ?_; rotate_left
              ·intro w'; go_simp; with_reducible rfl
              rotate_left
              ·simp only [Act.put, List.setIfInBounds_toArray, List.set_cons_zero, List.set_cons_succ, i64_w, i32_w]; rfl
              refine one_ (i := 8) (N := some 17) #[true, true, true, true, true, true, true, true, true, false, false] rfl rfl (one_of HT_.out (by kernel_rfl)) (by decide) (fun K hK => ?_)
              refine box_step ?hg (N := 17) ?hd (cs := #[.slice none 0 0, .slice none 0 0]) (t := 25) ?hr ?_; (case hd => rfl); (case hg => rfl); (case hr => first | (go_simp; done) | (go_simp; rfl))
              intro g122 hg w1 hbox hb
              have HGg122 := Aside0.mk hbox; have HLg122 : Aside0 (W101.heap.size ≤ g122) := ⟨Nat.le_trans hHeld.size (Nat.le_of_eq hg.symm)⟩; have HM : Aside0 (g122 < w1.heap.size) := ⟨blk_lt hbox⟩; clear hbox
              have CR106 := Aside0.mk (And.intro (hf_F3 hg CR106.out.1 hb) CR106.out.2)
              have CR110 := Aside0.mk (And.intro (hf_F3 hg CR110.out.1 hb) CR110.out.2)
              have CR116 := Aside0.mk (And.intro (hf_F3 hg CR116.out.1 hb) CR116.out.2)
              have CR120 := Aside0.mk (And.intro (hf_F3 hg CR120.out.1 hb) CR120.out.2)
              clear hg
              have hHeld := hHeld.trans (hb.mono hHeld.size); clear hb
              refine hK.out _ _ hHeld (fun hHeld => ?_); clear hK K
              refine norm_ (a' := ?_) ?_ ?_; rotate_left
              ·show Act.put _ (some 17) _ = _
               simp only [Act.put, List.setIfInBounds_toArray, List.set_cons_zero, List.set_cons_succ, i64_w, i32_w]; rfl
              exact norm_ (by simp only [putAll, Act.put, List.setIfInBounds_toArray, List.set_cons_zero, List.set_cons_succ]) (hCont (.slice A104 t102_1.length c105, .slice A108 t102_2.length c109, .slice A114 t112_1.length c115, .slice A118 t112_2.length c119, g122) _ ⟨hHeld, ⟨_, _, rfl, CR106.out.2, CR106.out.1⟩, ⟨_, _, rfl, CR110.out.2, CR110.out.1⟩, ⟨_, _, rfl, CR116.out.2, CR116.out.1⟩, ⟨_, _, rfl, CR120.out.2, CR120.out.1⟩, ⟨HGg122.out, HLg122.out⟩⟩)
             ·skip
              refine box_step ?hg (N := 17) ?hd (cs := #[.slice none 0 0, .slice none 0 0]) (t := 25) ?hr ?_; (case hd => rfl); (case hg => rfl); (case hr => first | (go_simp; done) | (go_simp; rfl))
              intro g122 hg w1 hbox hb
              have HGg122 := Aside0.mk hbox; have HLg122 : Aside0 (W101.heap.size ≤ g122) := ⟨Nat.le_trans hHeld.size (Nat.le_of_eq hg.symm)⟩; have HM : Aside0 (g122 < w1.heap.size) := ⟨blk_lt hbox⟩; clear hbox
              have CR106 := Aside0.mk (And.intro (hf_F3 hg CR106.out.1 hb) CR106.out.2)
              have CR110 := Aside0.mk (And.intro (hf_F3 hg CR110.out.1 hb) CR110.out.2)
              clear hg
              have hHeld := hHeld.trans (hb.mono hHeld.size); clear hb
              refine hK.out _ _ hHeld (fun hHeld => ?_); clear hK K
              refine norm_ (a' := ?_) ?_ ?_; rotate_left
              ·show Act.put _ (some 17) _ = _
               simp only [Act.put, List.setIfInBounds_toArray, List.set_cons_zero, List.set_cons_succ, i64_w, i32_w]; rfl
              refine one_ (i := 4) (N := some 117) #[true, true, true, true, true, false, false, false, true, false, false] rfl rfl (one_of HT_.out (by kernel_rfl)) (by decide) (fun K hK => ?_)
              refine goes_ Try.func11 (by kernel_rfl) rfl #[.int .i64 45, .agg #[.slice A104 t102_1.length c105, .slice A108 t102_2.length c109], .agg #[.slice (some ad100) l0_0.length c0_0, .slice A0_1 l0_1.length c0_1]] (by rfl) rfl rfl (by first | rfl | (simp only [List.map_toArray, List.map_cons, List.map_nil]; rfl)) ?_
              refine (pick_Dy.calls k 45 _ A104 c105 t102_1 _ A108 c109 t102_2 _ (some ad100) c0_0 l0_0 _ A0_1 c0_1 l0_1 _ _ _ _ (Kd.V_mk CR106.out.2 CR106.out.1) (Kd.V_mk CR110.out.2 CR110.out.1) (Kd.V_mk CRa0_0.out.2 (hf_F6 (Kd.C_F (Kd.heap_int .i64) CRa0_0.out.1) hHeld)) (Kd.V_mk CRa0_1.out.2 (hf_F6 (Kd.C_F k45_heap CRa0_1.out.1) hHeld)) E113.out).mono ?_
              rintro e w1 ⟨v117, v121, rfl, hv117, hv121, hb⟩
              refine ⟨_, rfl, ?_⟩
              obtain ⟨A114, c115, hv_, hl_, hf_⟩ := hv117; subst hv_; have CR116 := Aside0.mk (And.intro (Kd.F_mono (ok' := fun k_ => k_ ≠ g122) hf_ (fun k hk => by (try dsimp only at hk); have h1 := HLg122.out; have h2 := HM.out; omega)) hl_); clear hf_ hl_
              obtain ⟨A118, c119, hv_, hl_, hf_⟩ := hv121; subst hv_; have CR120 := Aside0.mk (And.intro (Kd.F_mono (ok' := fun k_ => k_ ≠ g122) hf_ (fun k hk => by (try dsimp only at hk); have h1 := HLg122.out; have h2 := HM.out; omega)) hl_); clear hf_ hl_
              have CR106 := Aside0.mk (And.intro (hf_F4 CR106.out.1 hb) CR106.out.2)
              have CR110 := Aside0.mk (And.intro (hf_F4 CR110.out.1 hb) CR110.out.2)
              have HGg122 := Aside0.mk (blk_below HGg122.out hb); have HM := Aside0.mk (Nat.lt_of_lt_of_le HM.out (Below.size hb))
              have hHeld := hHeld.trans (hb.mono hHeld.size); clear hb
              refine hK.out _ _ hHeld (fun hHeld => ?_); clear hK K
              refine norm_ (a' := ?_) ?_ ?_; rotate_left
              ·show Act.put _ (some 117) _ = _
               simp only [Act.put, List.setIfInBounds_toArray, List.set_cons_zero, List.set_cons_succ, i64_w, i32_w]; rfl
              refine pure_ (i := 5) (N := some 112) (v := ?_) (a' := ?_) #[true, true, true, true, true, true, false, false, true, false, false] rfl rfl (any_of HT_.out (by kernel_rfl)) (fun _ _ _ h => h) (Or.inl ⟨by rfl, ?_⟩) ?_ ?_; rotate_left
              ·intro w'; go_simp; with_reducible rfl
              rotate_left
              ·simp only [Act.put, List.setIfInBounds_toArray, List.set_cons_zero, List.set_cons_succ, i64_w, i32_w]; rfl
              refine pure_ (i := 6) (N := some 118) (v := ?_) (a' := ?_) #[true, true, true, true, true, true, true, false, true, false, false] rfl rfl (any_of HT_.out (by kernel_rfl)) (fun _ _ _ h => h) (Or.inl ⟨by rfl, ?_⟩) ?_ ?_; rotate_left
              ·intro w'; go_simp; with_reducible rfl
              rotate_left
              ·simp only [Act.put, List.setIfInBounds_toArray, List.set_cons_zero, List.set_cons_succ, i64_w, i32_w]; rfl
              refine pure_ (i := 7) (N := some 119) (v := ?_) (a' := ?_) #[true, true, true, true, true, true, true, true, true, false, false] rfl rfl (any_of HT_.out (by kernel_rfl)) (fun _ _ _ h => h) (Or.inl ⟨by rfl, ?_⟩) ?_ ?_; rotate_left
              ·intro w'; go_simp; with_reducible rfl
              rotate_left
              ·simp only [Act.put, List.setIfInBounds_toArray, List.set_cons_zero, List.set_cons_succ, i64_w, i32_w]; rfl
              exact norm_ (by simp only [putAll, Act.put, List.setIfInBounds_toArray, List.set_cons_zero, List.set_cons_succ]) (hCont (.slice A104 t102_1.length c105, .slice A108 t102_2.length c109, .slice A114 t112_1.length c115, .slice A118 t112_2.length c119, g122) _ ⟨hHeld, ⟨_, _, rfl, CR106.out.2, CR106.out.1⟩, ⟨_, _, rfl, CR110.out.2, CR110.out.1⟩, ⟨_, _, rfl, CR116.out.2, CR116.out.1⟩, ⟨_, _, rfl, CR120.out.2, CR120.out.1⟩, ⟨HGg122.out, HLg122.out⟩⟩)
            ·skip
             refine box_step ?hg (N := 17) ?hd (cs := #[.slice none 0 0, .slice none 0 0]) (t := 25) ?hr ?_; (case hd => rfl); (case hg => rfl); (case hr => first | (go_simp; done) | (go_simp; rfl))
             intro g122 hg w1 hbox hb
             have HGg122 := Aside0.mk hbox; have HLg122 : Aside0 (W101.heap.size ≤ g122) := ⟨Nat.le_trans hHeld.size (Nat.le_of_eq hg.symm)⟩; have HM : Aside0 (g122 < w1.heap.size) := ⟨blk_lt hbox⟩; clear hbox
             clear hg
             have hHeld := hHeld.trans (hb.mono hHeld.size); clear hb
             refine hK.out _ _ hHeld (fun hHeld => ?_); clear hK K
             refine norm_ (a' := ?_) ?_ ?_; rotate_left
             ·show Act.put _ (some 17) _ = _
              simp only [Act.put, List.setIfInBounds_toArray, List.set_cons_zero, List.set_cons_succ, i64_w, i32_w]; rfl
             refine one_ (i := 2) (N := some 115) #[true, true, true, true, false, false, false, false, true, false, false] rfl rfl (one_of HT_.out (by kernel_rfl)) (by decide) (fun K hK => ?_)
             refine goes_ Try.func16 (by kernel_rfl) rfl #[.int .i64 (rd l0_0 (wrap64 ((l0_0.length : Int) - 1)))] (by rfl) rfl rfl (by first | rfl | (simp only [List.map_toArray, List.map_cons, List.map_nil]; rfl)) ?_
             refine (triglyphref03_Atom.calls (rd l0_0 (wrap64 ((l0_0.length : Int) - 1))) _ _ _ E103.out).mono ?_
             rintro e w1 ⟨v107, v111, rfl, hv107, hv111, hb⟩
             refine ⟨_, rfl, ?_⟩
             obtain ⟨A104, c105, hv_⟩ := Kd.R_slice hv107; subst hv_; have CR106 := Aside0.mk (And.intro (hf_F2 hv107 HM.out) (Kd.R_reads' hv107).2.1); clear hv107
             obtain ⟨A108, c109, hv_⟩ := Kd.R_slice hv111; subst hv_; have CR110 := Aside0.mk (And.intro (hf_F2 hv111 HM.out) (Kd.R_reads' hv111).2.1); clear hv111
             have HGg122 := Aside0.mk (blk_below HGg122.out hb); have HM := Aside0.mk (Nat.lt_of_lt_of_le HM.out (Below.size hb))
             have hHeld := hHeld.trans (hb.mono hHeld.size); clear hb
             refine hK.out _ _ hHeld (fun hHeld => ?_); clear hK K
             refine norm_ (a' := ?_) ?_ ?_; rotate_left
             ·show Act.put _ (some 115) _ = _
              simp only [Act.put, List.setIfInBounds_toArray, List.set_cons_zero, List.set_cons_succ, i64_w, i32_w]; rfl
             refine one_ (i := 4) (N := some 117) #[true, true, true, true, true, false, false, false, true, false, false] rfl rfl (one_of HT_.out (by kernel_rfl)) (by decide) (fun K hK => ?_)
             refine goes_ Try.func11 (by kernel_rfl) rfl #[.int .i64 45, .agg #[.slice A104 t102_1.length c105, .slice A108 t102_2.length c109], .agg #[.slice (some ad100) l0_0.length c0_0, .slice A0_1 l0_1.length c0_1]] (by rfl) rfl rfl (by first | rfl | (simp only [List.map_toArray, List.map_cons, List.map_nil]; rfl)) ?_
             refine (pick_Dy.calls k 45 _ A104 c105 t102_1 _ A108 c109 t102_2 _ (some ad100) c0_0 l0_0 _ A0_1 c0_1 l0_1 _ _ _ _ (Kd.V_mk CR106.out.2 CR106.out.1) (Kd.V_mk CR110.out.2 CR110.out.1) (Kd.V_mk CRa0_0.out.2 (hf_F6 (Kd.C_F (Kd.heap_int .i64) CRa0_0.out.1) hHeld)) (Kd.V_mk CRa0_1.out.2 (hf_F6 (Kd.C_F k45_heap CRa0_1.out.1) hHeld)) E113.out).mono ?_
             rintro e w1 ⟨v117, v121, rfl, hv117, hv121, hb⟩
             refine ⟨_, rfl, ?_⟩
             obtain ⟨A114, c115, hv_, hl_, hf_⟩ := hv117; subst hv_; have CR116 := Aside0.mk (And.intro (Kd.F_mono (ok' := fun k_ => k_ ≠ g122) hf_ (fun k hk => by (try dsimp only at hk); have h1 := HLg122.out; have h2 := HM.out; omega)) hl_); clear hf_ hl_
             obtain ⟨A118, c119, hv_, hl_, hf_⟩ := hv121; subst hv_; have CR120 := Aside0.mk (And.intro (Kd.F_mono (ok' := fun k_ => k_ ≠ g122) hf_ (fun k hk => by (try dsimp only at hk); have h1 := HLg122.out; have h2 := HM.out; omega)) hl_); clear hf_ hl_
             have HGg122 := Aside0.mk (blk_below HGg122.out hb); have HM := Aside0.mk (Nat.lt_of_lt_of_le HM.out (Below.size hb))
             have CR106 := Aside0.mk (And.intro (hf_F4 CR106.out.1 hb) CR106.out.2)
             have CR110 := Aside0.mk (And.intro (hf_F4 CR110.out.1 hb) CR110.out.2)
             have hHeld := hHeld.trans (hb.mono hHeld.size); clear hb
             refine hK.out _ _ hHeld (fun hHeld => ?_); clear hK K
             refine norm_ (a' := ?_) ?_ ?_; rotate_left
             ·show Act.put _ (some 117) _ = _
              simp only [Act.put, List.setIfInBounds_toArray, List.set_cons_zero, List.set_cons_succ, i64_w, i32_w]; rfl
             refine pure_ (i := 5) (N := some 112) (v := ?_) (a' := ?_) #[true, true, true, true, true, true, false, false, true, false, false] rfl rfl (any_of HT_.out (by kernel_rfl)) (fun _ _ _ h => h) (Or.inl ⟨by rfl, ?_⟩) ?_ ?_; rotate_left
             ·intro w'; go_simp; with_reducible rfl
             rotate_left
             ·simp only [Act.put, List.setIfInBounds_toArray, List.set_cons_zero, List.set_cons_succ, i64_w, i32_w]; rfl
             refine pure_ (i := 6) (N := some 118) (v := ?_) (a' := ?_) #[true, true, true, true, true, true, true, false, true, false, false] rfl rfl (any_of HT_.out (by kernel_rfl)) (fun _ _ _ h => h) (Or.inl ⟨by rfl, ?_⟩) ?_ ?_; rotate_left
             ·intro w'; go_simp; with_reducible rfl
             rotate_left
             ·simp only [Act.put, List.setIfInBounds_toArray, List.set_cons_zero, List.set_cons_succ, i64_w, i32_w]; rfl
             refine pure_ (i := 7) (N := some 119) (v := ?_) (a' := ?_) #[true, true, true, true, true, true, true, true, true, false, false] rfl rfl (any_of HT_.out (by kernel_rfl)) (fun _ _ _ h => h) (Or.inl ⟨by rfl, ?_⟩) ?_ ?_; rotate_left
             ·intro w'; go_simp; with_reducible rfl
             rotate_left
             ·simp only [Act.put, List.setIfInBounds_toArray, List.set_cons_zero, List.set_cons_succ, i64_w, i32_w]; rfl
             exact norm_ (by simp only [putAll, Act.put, List.setIfInBounds_toArray, List.set_cons_zero, List.set_cons_succ]) (hCont (.slice A104 t102_1.length c105, .slice A108 t102_2.length c109, .slice A114 t112_1.length c115, .slice A118 t112_2.length c119, g122) _ ⟨hHeld, ⟨_, _, rfl, CR106.out.2, CR106.out.1⟩, ⟨_, _, rfl, CR110.out.2, CR110.out.1⟩, ⟨_, _, rfl, CR116.out.2, CR116.out.1⟩, ⟨_, _, rfl, CR120.out.2, CR120.out.1⟩, ⟨HGg122.out, HLg122.out⟩⟩)
           rintro ⟨v107, v111, v117, v121, g122⟩ w123 ⟨hHeld, hF0_, hF1_, hF2_, hF3_, hF4_⟩
           dsimp only at hF0_ hF1_ hF2_ hF3_ hF4_
           obtain ⟨A104, c105, hv_, hl_, hf_⟩ := hF0_; have CR106 := Aside0.mk (And.intro hf_ hl_); clear hf_ hl_; subst hv_
           obtain ⟨A108, c109, hv_, hl_, hf_⟩ := hF1_; have CR110 := Aside0.mk (And.intro hf_ hl_); clear hf_ hl_; subst hv_
           obtain ⟨A114, c115, hv_, hl_, hf_⟩ := hF2_; have CR116 := Aside0.mk (And.intro hf_ hl_); clear hf_ hl_; subst hv_
           obtain ⟨A118, c119, hv_, hl_, hf_⟩ := hF3_; have CR120 := Aside0.mk (And.intro hf_ hl_); clear hf_ hl_; subst hv_
           have HG := Aside0.mk hF4_; clear hF4_
           refine norm_ (a' := ?_) ?_ ?_; rotate_left
           ·simp only [putAll, Act.put, List.setIfInBounds_toArray, List.set_cons_zero, List.set_cons_succ]; rfl
           refine one_ (i := 9) (N := none) #[true, true, true, true, true, true, true, true, true, true, false] rfl rfl (one_of HT_.out (by kernel_rfl)) (by decide) (fun K hK => ?_)
           have y0 : w123.cell? ⟨g122, 0, none⟩ = some (.slice none 0 0) := (blk_cell HG.out.1 0).trans rfl; have u0 := blk_frozen HG.out.1 0; have y1 : w123.cell? ⟨g122, 1, none⟩ = some (.slice none 0 0) := (blk_cell HG.out.1 1).trans rfl; have u1 := blk_frozen HG.out.1 1
           refine skip_ (w1 := ?_) (by rfl) rfl ?_ ?_; rotate_left
           ·go_simp; rfl
           have HB2 := Aside0.mk (hf_st2 hHeld HG.out.2 (.slice A114 t112_1.length c115) (.slice A118 t112_2.length c119))
           have CR106 := Aside0.mk (And.intro (hf_F5a CR106.out.1 (.slice A114 t112_1.length c115) (.slice A118 t112_2.length c119)) CR106.out.2)
           have CR110 := Aside0.mk (And.intro (hf_F5a CR110.out.1 (.slice A114 t112_1.length c115) (.slice A118 t112_2.length c119)) CR110.out.2)
           have CR116 := Aside0.mk (And.intro (hf_F5a CR116.out.1 (.slice A114 t112_1.length c115) (.slice A118 t112_2.length c119)) CR116.out.2)
           have CR120 := Aside0.mk (And.intro (hf_F5a CR120.out.1 (.slice A114 t112_1.length c115) (.slice A118 t112_2.length c119)) CR120.out.2)
           have HG := Aside0.mk (And.intro (hf_z2 HG.out.1 (.slice A114 t112_1.length c115) (.slice A118 t112_2.length c119)) HG.out.2)
           refine hK.out _ _ HB2.out (fun hHeld => ?_); clear hK K HB2 y0 u0 y1 u1
           generalize (w123.setCell _ _).setCell _ _ = w124 at hHeld HG CR106 CR110 CR116 CR120 ⊢
           refine pure_ (i := 10) (N := some 18) (v := ?_) (a' := ?_) #[true, true, true, true, true, true, true, true, true, true, true] rfl rfl (any_of HT_.out (by kernel_rfl)) (fun _ _ _ h => h) (Or.inl ⟨by rfl, ?_⟩) ?_ ?_; rotate_left
           ·intro w'; go_simp; with_reducible rfl
           rotate_left
           ·simp only [Act.put, List.setIfInBounds_toArray, List.set_cons_zero, List.set_cons_succ, i64_w, i32_w]; rfl
           refine done_ (done_of HT_.out (by kernel_rfl)) ?_
           have CR106 := Aside0.mk (And.intro (Kd.F_now CR106.out.1) CR106.out.2)
           have CR110 := Aside0.mk (And.intro (Kd.F_now CR110.out.1) CR110.out.2)
           have CR116 := Aside0.mk (And.intro (Kd.F_now CR116.out.1) CR116.out.2)
           have CR120 := Aside0.mk (And.intro (Kd.F_now CR120.out.1) CR120.out.2)
           have CRa0_0 := Aside0.mk (And.intro (Kd.C_below CRa0_0.out.1 hHeld) CRa0_0.out.2)
           have CRa0_1 := Aside0.mk (And.intro (Kd.C_below CRa0_1.out.1 hHeld) CRa0_1.out.2)
           have CR14 := Aside0.mk (And.intro (Kd.C_below CR14.out.1 hHeld) CR14.out.2)
           have CR18 := Aside0.mk (And.intro (Kd.C_below CR18.out.1 hHeld) CR18.out.2)
           have CR24 := Aside0.mk (And.intro (Kd.C_below CR24.out.1 hHeld) CR24.out.2)
           have CR28 := Aside0.mk (And.intro (Kd.C_below CR28.out.1 hHeld) CR28.out.2)
           have CR38 := Aside0.mk (And.intro (Kd.C_below CR38.out.1 hHeld) CR38.out.2)
           have CR42 := Aside0.mk (And.intro (Kd.C_below CR42.out.1 hHeld) CR42.out.2)
           have CR48 := Aside0.mk (And.intro (Kd.C_below CR48.out.1 hHeld) CR48.out.2)
           have CR52 := Aside0.mk (And.intro (Kd.C_below CR52.out.1 hHeld) CR52.out.2)
           have CR62 := Aside0.mk (And.intro (Kd.C_below CR62.out.1 hHeld) CR62.out.2)
           have CR66 := Aside0.mk (And.intro (Kd.C_below CR66.out.1 hHeld) CR66.out.2)
           have CR72 := Aside0.mk (And.intro (Kd.C_below CR72.out.1 hHeld) CR72.out.2)
           have CR76 := Aside0.mk (And.intro (Kd.C_below CR76.out.1 hHeld) CR76.out.2)
           have HS := Aside0.mk (BxS.add HS.out hHeld HG.out.1 HG.out.2)
           clear hHeld HG
           have z0_0 : w124.cell? ⟨w.heap.size, 0, none⟩ = some (.slice (some ad100) l0_0.length c0_0) := (blk_cell (HS.out.at_ 4 rfl) 0).trans rfl; have z0_1 : w124.cell? ⟨w.heap.size, 1, none⟩ = some (.slice A0_1 l0_1.length c0_1) := (blk_cell (HS.out.at_ 4 rfl) 1).trans rfl; have z1_0 : w124.cell? ⟨g30, 0, none⟩ = some (.slice A22 t20_1.length c23) := (blk_cell (HS.out.at_ 3 rfl) 0).trans rfl; have z1_1 : w124.cell? ⟨g30, 1, none⟩ = some (.slice A26 t20_2.length c27) := (blk_cell (HS.out.at_ 3 rfl) 1).trans rfl; have z2_0 : w124.cell? ⟨g54, 0, none⟩ = some (.slice A46 t44_1.length c47) := (blk_cell (HS.out.at_ 2 rfl) 0).trans rfl; have z2_1 : w124.cell? ⟨g54, 1, none⟩ = some (.slice A50 t44_2.length c51) := (blk_cell (HS.out.at_ 2 rfl) 1).trans rfl; have z3_0 : w124.cell? ⟨g78, 0, none⟩ = some (.slice A70 t68_1.length c71) := (blk_cell (HS.out.at_ 1 rfl) 0).trans rfl; have z3_1 : w124.cell? ⟨g78, 1, none⟩ = some (.slice A74 t68_2.length c75) := (blk_cell (HS.out.at_ 1 rfl) 1).trans rfl; have z4_0 : w124.cell? ⟨g122, 0, none⟩ = some (.slice A114 t112_1.length c115) := (blk_cell (HS.out.at_ 0 rfl) 0).trans rfl; have z4_1 : w124.cell? ⟨g122, 1, none⟩ = some (.slice A118 t112_2.length c119) := (blk_cell (HS.out.at_ 0 rfl) 1).trans rfl
           by_cases q125 : t112_3 = 0
           ·rw [if_pos q125] at h
            have q125b0 := (beq_iff_eq.2 q125 : (t112_3 == 0) = true)
            have Iq125 := Aside0.mk q125
            clear q125
            obtain ⟨t126, q_, h_⟩ := Option.bind_eq_some_iff.1 h; clear h; have h := h_; clear h_; have E127 := Aside0.mk q_; clear q_
            cases t126 with
            | true =>
             rw [if_pos rfl] at h
             obtain ⟨t129, q_, h_⟩ := Option.bind_eq_some_iff.1 h; clear h; have h := h_; clear h_; have E130 := Aside0.mk q_; clear q_
             obtain rfl := Option.some.inj h
             go_wp2_with (first | (go_at_call 13; (with_reducible refine (triglyphref03_Same.calls k (some ad100) c0_0 l0_0 A0_1 c0_1 l0_1 A114 c115 t112_1 A118 c119 t112_2 _ _ CRa0_0.out.1 CRa0_0.out.2 CRa0_1.out.1 CRa0_1.out.2 CR116.out.1 CR116.out.2 CR120.out.1 CR120.out.2 E127.out).mono ?_); rintro e w128 ⟨rfl, hb⟩; have CRa0_0 := Aside0.mk (And.intro (Kd.C_below CRa0_0.out.1 hb) CRa0_0.out.2); have CRa0_1 := Aside0.mk (And.intro (Kd.C_below CRa0_1.out.1 hb) CRa0_1.out.2); have CR14 := Aside0.mk (And.intro (Kd.C_below CR14.out.1 hb) CR14.out.2); have CR18 := Aside0.mk (And.intro (Kd.C_below CR18.out.1 hb) CR18.out.2); have CR24 := Aside0.mk (And.intro (Kd.C_below CR24.out.1 hb) CR24.out.2); have CR28 := Aside0.mk (And.intro (Kd.C_below CR28.out.1 hb) CR28.out.2); have CR38 := Aside0.mk (And.intro (Kd.C_below CR38.out.1 hb) CR38.out.2); have CR42 := Aside0.mk (And.intro (Kd.C_below CR42.out.1 hb) CR42.out.2); have CR48 := Aside0.mk (And.intro (Kd.C_below CR48.out.1 hb) CR48.out.2); have CR52 := Aside0.mk (And.intro (Kd.C_below CR52.out.1 hb) CR52.out.2); have CR62 := Aside0.mk (And.intro (Kd.C_below CR62.out.1 hb) CR62.out.2); have CR66 := Aside0.mk (And.intro (Kd.C_below CR66.out.1 hb) CR66.out.2); have CR72 := Aside0.mk (And.intro (Kd.C_below CR72.out.1 hb) CR72.out.2); have CR76 := Aside0.mk (And.intro (Kd.C_below CR76.out.1 hb) CR76.out.2); have CR106 := Aside0.mk (And.intro (Kd.C_below CR106.out.1 hb) CR106.out.2); have CR110 := Aside0.mk (And.intro (Kd.C_below CR110.out.1 hb) CR110.out.2); have CR116 := Aside0.mk (And.intro (Kd.C_below CR116.out.1 hb) CR116.out.2); have CR120 := Aside0.mk (And.intro (Kd.C_below CR120.out.1 hb) CR120.out.2); have HS := Aside0.mk (HS.out.step hb); clear hb; (try clear z0_0 z0_1 z1_0 z1_1 z2_0 z2_1 z3_0 z3_1 z4_0 z4_1); have z0_0 : w128.cell? ⟨w.heap.size, 0, none⟩ = some (.slice (some ad100) l0_0.length c0_0) := (blk_cell (HS.out.at_ 4 rfl) 0).trans rfl; have z0_1 : w128.cell? ⟨w.heap.size, 1, none⟩ = some (.slice A0_1 l0_1.length c0_1) := (blk_cell (HS.out.at_ 4 rfl) 1).trans rfl; have z1_0 : w128.cell? ⟨g30, 0, none⟩ = some (.slice A22 t20_1.length c23) := (blk_cell (HS.out.at_ 3 rfl) 0).trans rfl; have z1_1 : w128.cell? ⟨g30, 1, none⟩ = some (.slice A26 t20_2.length c27) := (blk_cell (HS.out.at_ 3 rfl) 1).trans rfl; have z2_0 : w128.cell? ⟨g54, 0, none⟩ = some (.slice A46 t44_1.length c47) := (blk_cell (HS.out.at_ 2 rfl) 0).trans rfl; have z2_1 : w128.cell? ⟨g54, 1, none⟩ = some (.slice A50 t44_2.length c51) := (blk_cell (HS.out.at_ 2 rfl) 1).trans rfl; have z3_0 : w128.cell? ⟨g78, 0, none⟩ = some (.slice A70 t68_1.length c71) := (blk_cell (HS.out.at_ 1 rfl) 0).trans rfl; have z3_1 : w128.cell? ⟨g78, 1, none⟩ = some (.slice A74 t68_2.length c75) := (blk_cell (HS.out.at_ 1 rfl) 1).trans rfl; have z4_0 : w128.cell? ⟨g122, 0, none⟩ = some (.slice A114 t112_1.length c115) := (blk_cell (HS.out.at_ 0 rfl) 0).trans rfl; have z4_1 : w128.cell? ⟨g122, 1, none⟩ = some (.slice A118 t112_2.length c119) := (blk_cell (HS.out.at_ 0 rfl) 1).trans rfl) | (go_at_call 10; (with_reducible refine (triglyphlaw06_works.calls k _ _ E130.out).mono ?_); rintro e w131 ⟨rfl, hb⟩; have CRa0_0 := Aside0.mk (And.intro (Kd.C_below CRa0_0.out.1 hb) CRa0_0.out.2); have CRa0_1 := Aside0.mk (And.intro (Kd.C_below CRa0_1.out.1 hb) CRa0_1.out.2); have CR14 := Aside0.mk (And.intro (Kd.C_below CR14.out.1 hb) CR14.out.2); have CR18 := Aside0.mk (And.intro (Kd.C_below CR18.out.1 hb) CR18.out.2); have CR24 := Aside0.mk (And.intro (Kd.C_below CR24.out.1 hb) CR24.out.2); have CR28 := Aside0.mk (And.intro (Kd.C_below CR28.out.1 hb) CR28.out.2); have CR38 := Aside0.mk (And.intro (Kd.C_below CR38.out.1 hb) CR38.out.2); have CR42 := Aside0.mk (And.intro (Kd.C_below CR42.out.1 hb) CR42.out.2); have CR48 := Aside0.mk (And.intro (Kd.C_below CR48.out.1 hb) CR48.out.2); have CR52 := Aside0.mk (And.intro (Kd.C_below CR52.out.1 hb) CR52.out.2); have CR62 := Aside0.mk (And.intro (Kd.C_below CR62.out.1 hb) CR62.out.2); have CR66 := Aside0.mk (And.intro (Kd.C_below CR66.out.1 hb) CR66.out.2); have CR72 := Aside0.mk (And.intro (Kd.C_below CR72.out.1 hb) CR72.out.2); have CR76 := Aside0.mk (And.intro (Kd.C_below CR76.out.1 hb) CR76.out.2); have CR106 := Aside0.mk (And.intro (Kd.C_below CR106.out.1 hb) CR106.out.2); have CR110 := Aside0.mk (And.intro (Kd.C_below CR110.out.1 hb) CR110.out.2); have CR116 := Aside0.mk (And.intro (Kd.C_below CR116.out.1 hb) CR116.out.2); have CR120 := Aside0.mk (And.intro (Kd.C_below CR120.out.1 hb) CR120.out.2); have HS := Aside0.mk (HS.out.step hb); clear hb; (try clear z0_0 z0_1 z1_0 z1_1 z2_0 z2_1 z3_0 z3_1 z4_0 z4_1); have z0_0 : w131.cell? ⟨w.heap.size, 0, none⟩ = some (.slice (some ad100) l0_0.length c0_0) := (blk_cell (HS.out.at_ 4 rfl) 0).trans rfl; have z0_1 : w131.cell? ⟨w.heap.size, 1, none⟩ = some (.slice A0_1 l0_1.length c0_1) := (blk_cell (HS.out.at_ 4 rfl) 1).trans rfl; have z1_0 : w131.cell? ⟨g30, 0, none⟩ = some (.slice A22 t20_1.length c23) := (blk_cell (HS.out.at_ 3 rfl) 0).trans rfl; have z1_1 : w131.cell? ⟨g30, 1, none⟩ = some (.slice A26 t20_2.length c27) := (blk_cell (HS.out.at_ 3 rfl) 1).trans rfl; have z2_0 : w131.cell? ⟨g54, 0, none⟩ = some (.slice A46 t44_1.length c47) := (blk_cell (HS.out.at_ 2 rfl) 0).trans rfl; have z2_1 : w131.cell? ⟨g54, 1, none⟩ = some (.slice A50 t44_2.length c51) := (blk_cell (HS.out.at_ 2 rfl) 1).trans rfl; have z3_0 : w131.cell? ⟨g78, 0, none⟩ = some (.slice A70 t68_1.length c71) := (blk_cell (HS.out.at_ 1 rfl) 0).trans rfl; have z3_1 : w131.cell? ⟨g78, 1, none⟩ = some (.slice A74 t68_2.length c75) := (blk_cell (HS.out.at_ 1 rfl) 1).trans rfl; have z4_0 : w131.cell? ⟨g122, 0, none⟩ = some (.slice A114 t112_1.length c115) := (blk_cell (HS.out.at_ 0 rfl) 0).trans rfl; have z4_1 : w131.cell? ⟨g122, 1, none⟩ = some (.slice A118 t112_2.length c119) := (blk_cell (HS.out.at_ 0 rfl) 1).trans rfl))
             go_ret
             exact ⟨rfl, HS.out.bel⟩
            | false =>
             rw [if_neg (by decide)] at h
             cases h
           ·rw [if_neg q125] at h
            cases h
          ·rw [if_neg q99] at h
           cases h
         ·rw [if_neg q97] at h
          cases h
       | false =>
        rw [if_neg (by decide)] at h
        cases h
      ·rw [if_neg q83] at h
       cases h
     ·rw [if_neg q82] at h
      cases h
    ·rw [if_neg q81] at h
     cases h
   | false =>
    rw [if_neg (by decide)] at h
    obtain ⟨⟨t139_1, t139_2⟩, q_, h⟩ := Option.bind_eq_some_iff.1 h; have E140 := Aside0.mk q_; clear q_; (try dsimp only at h)
    obtain ⟨⟨t149_1, t149_2, t149_3⟩, q_, h⟩ := Option.bind_eq_some_iff.1 h; have E150 := Aside0.mk q_; clear q_; (try dsimp only at h)
    go_upto_region 6 with (first | (go_at_call 9; (with_reducible refine (triglyphlaw06_light.calls k A0_0 c0_0 l0_0 A0_1 c0_1 l0_1 _ _ CRa0_0.out.1 CRa0_0.out.2 CRa0_1.out.1 CRa0_1.out.2 E3.out).mono ?_); rintro e w4 ⟨rfl, hb⟩; have CRa0_0 := Aside0.mk (And.intro (Kd.C_below CRa0_0.out.1 hb) CRa0_0.out.2); have CRa0_1 := Aside0.mk (And.intro (Kd.C_below CRa0_1.out.1 hb) CRa0_1.out.2); have HS := Aside0.mk (HS.out.step hb); clear hb; (try clear z0_0 z0_1); have z0_0 : w4.cell? ⟨w.heap.size, 0, none⟩ = some (.slice A0_0 l0_0.length c0_0) := (blk_cell (HS.out.at_ 0 rfl) 0).trans rfl; have z0_1 : w4.cell? ⟨w.heap.size, 1, none⟩ = some (.slice A0_1 l0_1.length c0_1) := (blk_cell (HS.out.at_ 0 rfl) 1).trans rfl) | (go_at_call 14; (with_reducible refine (triglyphref03_Check.calls k A0_0 c0_0 l0_0 A0_1 c0_1 l0_1 _ _ CRa0_0.out.1 CRa0_0.out.2 CRa0_1.out.1 CRa0_1.out.2 E6.out).mono ?_); rintro e w7 ⟨rfl, hb⟩; have CRa0_0 := Aside0.mk (And.intro (Kd.C_below CRa0_0.out.1 hb) CRa0_0.out.2); have CRa0_1 := Aside0.mk (And.intro (Kd.C_below CRa0_1.out.1 hb) CRa0_1.out.2); have HS := Aside0.mk (HS.out.step hb); clear hb; (try clear z0_0 z0_1); have z0_0 : w7.cell? ⟨w.heap.size, 0, none⟩ = some (.slice A0_0 l0_0.length c0_0) := (blk_cell (HS.out.at_ 0 rfl) 0).trans rfl; have z0_1 : w7.cell? ⟨w.heap.size, 1, none⟩ = some (.slice A0_1 l0_1.length c0_1) := (blk_cell (HS.out.at_ 0 rfl) 1).trans rfl))
    refine start_ (n := 12) (S := fun W' => Below w7.drew.heap.size w7.drew W') (ds := []) #[false, false, false, false, false, false, false, false, false, false, false, false] (by kernel_rfl) rfl rfl (Below.refl _ _) (fun hHeld => ?_)
    refine with_tabW triglyphlaw06_PickRotates.tab6 triglyphlaw06_PickRotates.bits6 (fun HT_ HW_ => ?_)
    (try clear z0_0 z0_1); have HS := Aside0.mk (HS.out.step (below_drew (Below.refl _ _)))
    have CRa0_0 := Aside0.mk (And.intro (Kd.C_below CRa0_0.out.1 (below_drew (Below.refl _ _))) CRa0_0.out.2)
    have CRa0_1 := Aside0.mk (And.intro (Kd.C_below CRa0_1.out.1 (below_drew (Below.refl _ _))) CRa0_1.out.2)
    generalize w7.drew = W138 at HS CRa0_0 CRa0_1 hHeld ⊢
    refine pure_ (i := 0) (N := some 30) (v := ?_) (a' := ?_) #[true, false, false, false, false, false, false, false, false, false, false, false] rfl rfl (any_of HT_.out (by kernel_rfl)) (fun _ _ _ h => h) (Or.inl ⟨by rfl, ?_⟩) ?_ ?_; rotate_left
    ·intro w'; go_simp; with_reducible rfl
    rotate_left
    ·simp only [Act.put, List.setIfInBounds_toArray, List.set_cons_zero, List.set_cons_succ, i64_w, i32_w]; rfl
    refine pure_ (i := 1) (N := some 31) (v := ?_) (a' := ?_) #[true, true, false, false, false, false, false, false, false, false, false, false] rfl rfl (any_of HT_.out (by kernel_rfl)) (fun _ _ _ h => h) (Or.inl ⟨by rfl, ?_⟩) ?_ ?_; rotate_left
    ·intro w'; go_simp; with_reducible rfl
    rotate_left
    ·simp only [Act.put, List.setIfInBounds_toArray, List.set_cons_zero, List.set_cons_succ, i64_w, i32_w]; rfl
    refine pure_ (i := 2) (N := some 32) (v := ?_) (a' := ?_) #[true, true, true, false, false, false, false, false, false, false, false, false] rfl rfl (any_of HT_.out (by kernel_rfl)) (fun _ _ _ h => h) (Or.inl ⟨by rfl, ?_⟩) ?_ ?_; rotate_left
    ·intro w'; go_simp; with_reducible rfl
    rotate_left
    ·simp only [Act.put, List.setIfInBounds_toArray, List.set_cons_zero, List.set_cons_succ, i64_w, i32_w]; rfl
    refine take_ (i := 4) (N := some 34) (v := ?_) (a' := ?_) #[true, true, true, false, true, false, false, false, false, false, false, false] rfl rfl (take_ofW HT_.out HW_.out (by kernel_rfl)) (fun _ _ _ h => h) (Or.inl ⟨by rfl, ?_⟩) hHeld ?_ ?_; rotate_left
    ·intro w' s0; have y0 : w'.cell? ⟨w.heap.size, 0, none⟩ = some (.slice A0_0 l0_0.length c0_0) := (blk_cell ((HS.out.step s0).at_ 0 rfl) 0).trans rfl; have y1 : w'.cell? ⟨w.heap.size, 1, none⟩ = some (.slice A0_1 l0_1.length c0_1) := (blk_cell ((HS.out.step s0).at_ 0 rfl) 1).trans rfl; go_simp; with_reducible rfl
    rotate_left
    ·simp only [Act.put, List.setIfInBounds_toArray, List.set_cons_zero, List.set_cons_succ, i64_w, i32_w]; rfl
    refine join_ (σ := Value × Value × Value × Value × Nat) 2 #[true, true, true, true, true, true, true, true, true, true, false, false] (fun s_ => [(33, .agg #[s_.1, s_.2.1]), (35, .tuple #[.agg #[s_.2.2.1, s_.2.2.2.1], .int .i64 t149_3]), (10, .pointer (some ⟨s_.2.2.2.2, 0, none⟩)), (29, .tuple #[.agg #[s_.2.2.1, s_.2.2.2.1], .int .i64 t149_3]), (36, .agg #[s_.2.2.1, s_.2.2.2.1]), (37, .int .i64 t149_3)]) (fun s_ w' => Below W138.heap.size W138 w' ∧ (∃ A_ c_, s_.1 = .slice A_ (t139_1).length c_ ∧ (t139_1).length ≤ c_ ∧ Kd.F (Kd.int .i64) w' (fun k_ => k_ ≠ s_.2.2.2.2) A_ (t139_1).length t139_1) ∧ (∃ A_ c_, s_.2.1 = .slice A_ (t139_2).length c_ ∧ (t139_2).length ≤ c_ ∧ Kd.F k45 w' (fun k_ => k_ ≠ s_.2.2.2.2) A_ (t139_2).length t139_2) ∧ (∃ A_ c_, s_.2.2.1 = .slice A_ (t149_1).length c_ ∧ (t149_1).length ≤ c_ ∧ Kd.F (Kd.int .i64) w' (fun k_ => k_ ≠ s_.2.2.2.2) A_ (t149_1).length t149_1) ∧ (∃ A_ c_, s_.2.2.2.1 = .slice A_ (t149_2).length c_ ∧ (t149_2).length ≤ c_ ∧ Kd.F k45 w' (fun k_ => k_ ≠ s_.2.2.2.2) A_ (t149_2).length t149_2) ∧ (w'.heap[s_.2.2.2.2]? = some (.cells #[.slice none 0 0, .slice none 0 0] 25 (0, 0)) ∧ W138.heap.size ≤ s_.2.2.2.2)) ?_ ?_; rotate_left
    ·intro hCont
     refine two_ (i := 3) (j := 9) (Ni := some 33) (Nj := some 10) #[true, true, true, true, true, false, false, false, false, false, false, false] #[true, true, true, false, true, false, false, false, false, true, false, false] rfl rfl rfl rfl (two_of HT_.out (by kernel_rfl)) (by decide) (by decide) (fun K hK => ?_) (fun K hK => ?_)
     ·skip
      refine goes_ Try.func16 (by kernel_rfl) rfl #[.int .i64 (wrap64 a1)] (by rfl) rfl rfl (by first | rfl | (simp only [List.map_toArray, List.map_cons, List.map_nil]; rfl)) ?_
      refine (triglyphref03_Atom.calls (wrap64 a1) _ _ _ E140.out).mono ?_
      rintro e w1 ⟨v144, v148, rfl, hv144, hv148, hb⟩
      refine ⟨_, rfl, ?_⟩
      obtain ⟨A141, c142, hv_⟩ := Kd.R_slice hv144; subst hv_; have CR143 := Aside0.mk (And.intro (hf_F1 hv144) (Kd.R_reads' hv144).2.1); clear hv144
      obtain ⟨A145, c146, hv_⟩ := Kd.R_slice hv148; subst hv_; have CR147 := Aside0.mk (And.intro (hf_F1 hv148) (Kd.R_reads' hv148).2.1); clear hv148
      have hHeld := hHeld.trans (hb.mono hHeld.size); clear hb
      refine hK.out _ _ hHeld (fun hHeld => ?_); clear hK K
      refine norm_ (a' := ?_) ?_ ?_; rotate_left
      ·show Act.put _ (some 33) _ = _
       simp only [Act.put, List.setIfInBounds_toArray, List.set_cons_zero, List.set_cons_succ, i64_w, i32_w]; rfl
      refine two_ (i := 5) (j := 9) (Ni := some 35) (Nj := some 10) #[true, true, true, true, true, true, false, false, false, false, false, false] #[true, true, true, true, true, false, false, false, false, true, false, false] rfl rfl rfl rfl (two_of HT_.out (by kernel_rfl)) (by decide) (by decide) (fun K hK => ?_) (fun K hK => ?_)
      ·skip
       refine goes_ Try.func11 (by kernel_rfl) rfl #[.int .i64 44, .agg #[.slice A141 t139_1.length c142, .slice A145 t139_2.length c146], .agg #[.slice A0_0 l0_0.length c0_0, .slice A0_1 l0_1.length c0_1]] (by rfl) rfl rfl (by first | rfl | (simp only [List.map_toArray, List.map_cons, List.map_nil]; rfl)) ?_
       refine (pick_Dy.calls k 44 _ A141 c142 t139_1 _ A145 c146 t139_2 _ A0_0 c0_0 l0_0 _ A0_1 c0_1 l0_1 _ _ _ _ (Kd.V_mk CR143.out.2 CR143.out.1) (Kd.V_mk CR147.out.2 CR147.out.1) (Kd.V_mk CRa0_0.out.2 (hf_F6 (Kd.C_F (Kd.heap_int .i64) CRa0_0.out.1) hHeld)) (Kd.V_mk CRa0_1.out.2 (hf_F6 (Kd.C_F k45_heap CRa0_1.out.1) hHeld)) E150.out).mono ?_
       rintro e w1 ⟨v154, v158, rfl, hv154, hv158, hb⟩
       refine ⟨_, rfl, ?_⟩
       obtain ⟨A151, c152, hv_, hl_, hf_⟩ := hv154; subst hv_; have CR153 := Aside0.mk (And.intro (Kd.F_mono (ok' := fun _ => True) hf_ (fun _ _ => trivial)) hl_); clear hf_ hl_
       obtain ⟨A155, c156, hv_, hl_, hf_⟩ := hv158; subst hv_; have CR157 := Aside0.mk (And.intro (Kd.F_mono (ok' := fun _ => True) hf_ (fun _ _ => trivial)) hl_); clear hf_ hl_
       have CR143 := Aside0.mk (And.intro (hf_F4 CR143.out.1 hb) CR143.out.2)
       have CR147 := Aside0.mk (And.intro (hf_F4 CR147.out.1 hb) CR147.out.2)
       have hHeld := hHeld.trans (hb.mono hHeld.size); clear hb
       refine hK.out _ _ hHeld (fun hHeld => ?_); clear hK K
       refine norm_ (a' := ?_) ?_ ?_; rotate_left
       ·show Act.put _ (some 35) _ = _
        simp only [Act.put, List.setIfInBounds_toArray, List.set_cons_zero, List.set_cons_succ, i64_w, i32_w]; rfl
       refine pure_ (i := 6) (N := some 29) (v := ?_) (a' := ?_) #[true, true, true, true, true, true, true, false, false, false, false, false] rfl rfl (any_of HT_.out (by kernel_rfl)) (fun _ _ _ h => h) (Or.inl ⟨by rfl, ?_⟩) ?_ ?_; rotate_left
       ·intro w'; go_simp; with_reducible rfl
       rotate_left
       ·simp only [Act.put, List.setIfInBounds_toArray, List.set_cons_zero, List.set_cons_succ, i64_w, i32_w]; rfl
       refine pure_ (i := 7) (N := some 36) (v := ?_) (a' := ?_) #[true, true, true, true, true, true, true, true, false, false, false, false] rfl rfl (any_of HT_.out (by kernel_rfl)) (fun _ _ _ h => h) (Or.inl ⟨by rfl, ?_⟩) ?_ ?_; rotate_left
       ·intro w'; go_simp; with_reducible rfl
       rotate_left
       ·simp only [Act.put, List.setIfInBounds_toArray, List.set_cons_zero, List.set_cons_succ, i64_w, i32_w]; rfl
       refine pure_ (i := 8) (N := some 37) (v := ?_) (a' := ?_) #[true, true, true, true, true, true, true, true, true, false, false, false] rfl rfl (any_of HT_.out (by kernel_rfl)) (fun _ _ _ h => h) (Or.inl ⟨by rfl, ?_⟩) ?_ ?_; rotate_left
       ·intro w'; go_simp; with_reducible rfl
       rotate_left
       ·simp only [Act.put, List.setIfInBounds_toArray, List.set_cons_zero, List.set_cons_succ, i64_w, i32_w]; rfl
       refine one_ (i := 9) (N := some 10) #[true, true, true, true, true, true, true, true, true, true, false, false] rfl rfl (one_of HT_.out (by kernel_rfl)) (by decide) (fun K hK => ?_)
       refine box_step ?hg (N := 10) ?hd (cs := #[.slice none 0 0, .slice none 0 0]) (t := 25) ?hr ?_; (case hd => rfl); (case hg => rfl); (case hr => first | (go_simp; done) | (go_simp; rfl))
       intro g159 hg w1 hbox hb
       have HGg159 := Aside0.mk hbox; have HLg159 : Aside0 (W138.heap.size ≤ g159) := ⟨Nat.le_trans hHeld.size (Nat.le_of_eq hg.symm)⟩; have HM : Aside0 (g159 < w1.heap.size) := ⟨blk_lt hbox⟩; clear hbox
       have CR143 := Aside0.mk (And.intro (hf_F3 hg CR143.out.1 hb) CR143.out.2)
       have CR147 := Aside0.mk (And.intro (hf_F3 hg CR147.out.1 hb) CR147.out.2)
       have CR153 := Aside0.mk (And.intro (hf_F3 hg CR153.out.1 hb) CR153.out.2)
       have CR157 := Aside0.mk (And.intro (hf_F3 hg CR157.out.1 hb) CR157.out.2)
       clear hg
       have hHeld := hHeld.trans (hb.mono hHeld.size); clear hb
       refine hK.out _ _ hHeld (fun hHeld => ?_); clear hK K
       refine norm_ (a' := ?_) ?_ ?_; rotate_left
       ·show Act.put _ (some 10) _ = _
        simp only [Act.put, List.setIfInBounds_toArray, List.set_cons_zero, List.set_cons_succ, i64_w, i32_w]; rfl
       exact norm_ (by simp only [putAll, Act.put, List.setIfInBounds_toArray, List.set_cons_zero, List.set_cons_succ]) (hCont (.slice A141 t139_1.length c142, .slice A145 t139_2.length c146, .slice A151 t149_1.length c152, .slice A155 t149_2.length c156, g159) _ ⟨hHeld, ⟨_, _, rfl, CR143.out.2, CR143.out.1⟩, ⟨_, _, rfl, CR147.out.2, CR147.out.1⟩, ⟨_, _, rfl, CR153.out.2, CR153.out.1⟩, ⟨_, _, rfl, CR157.out.2, CR157.out.1⟩, ⟨HGg159.out, HLg159.out⟩⟩)
      ·skip
       refine box_step ?hg (N := 10) ?hd (cs := #[.slice none 0 0, .slice none 0 0]) (t := 25) ?hr ?_; (case hd => rfl); (case hg => rfl); (case hr => first | (go_simp; done) | (go_simp; rfl))
       intro g159 hg w1 hbox hb
       have HGg159 := Aside0.mk hbox; have HLg159 : Aside0 (W138.heap.size ≤ g159) := ⟨Nat.le_trans hHeld.size (Nat.le_of_eq hg.symm)⟩; have HM : Aside0 (g159 < w1.heap.size) := ⟨blk_lt hbox⟩; clear hbox
       have CR143 := Aside0.mk (And.intro (hf_F3 hg CR143.out.1 hb) CR143.out.2)
       have CR147 := Aside0.mk (And.intro (hf_F3 hg CR147.out.1 hb) CR147.out.2)
       clear hg
       have hHeld := hHeld.trans (hb.mono hHeld.size); clear hb
       refine hK.out _ _ hHeld (fun hHeld => ?_); clear hK K
       refine norm_ (a' := ?_) ?_ ?_; rotate_left
       ·show Act.put _ (some 10) _ = _
        simp only [Act.put, List.setIfInBounds_toArray, List.set_cons_zero, List.set_cons_succ, i64_w, i32_w]; rfl
       refine one_ (i := 5) (N := some 35) #[true, true, true, true, true, true, false, false, false, true, false, false] rfl rfl (one_of HT_.out (by kernel_rfl)) (by decide) (fun K hK => ?_)
       refine goes_ Try.func11 (by kernel_rfl) rfl #[.int .i64 44, .agg #[.slice A141 t139_1.length c142, .slice A145 t139_2.length c146], .agg #[.slice A0_0 l0_0.length c0_0, .slice A0_1 l0_1.length c0_1]] (by rfl) rfl rfl (by first | rfl | (simp only [List.map_toArray, List.map_cons, List.map_nil]; rfl)) ?_
       refine (pick_Dy.calls k 44 _ A141 c142 t139_1 _ A145 c146 t139_2 _ A0_0 c0_0 l0_0 _ A0_1 c0_1 l0_1 _ _ _ _ (Kd.V_mk CR143.out.2 CR143.out.1) (Kd.V_mk CR147.out.2 CR147.out.1) (Kd.V_mk CRa0_0.out.2 (hf_F6 (Kd.C_F (Kd.heap_int .i64) CRa0_0.out.1) hHeld)) (Kd.V_mk CRa0_1.out.2 (hf_F6 (Kd.C_F k45_heap CRa0_1.out.1) hHeld)) E150.out).mono ?_
       rintro e w1 ⟨v154, v158, rfl, hv154, hv158, hb⟩
       refine ⟨_, rfl, ?_⟩
       obtain ⟨A151, c152, hv_, hl_, hf_⟩ := hv154; subst hv_; have CR153 := Aside0.mk (And.intro (Kd.F_mono (ok' := fun k_ => k_ ≠ g159) hf_ (fun k hk => by (try dsimp only at hk); have h1 := HLg159.out; have h2 := HM.out; omega)) hl_); clear hf_ hl_
       obtain ⟨A155, c156, hv_, hl_, hf_⟩ := hv158; subst hv_; have CR157 := Aside0.mk (And.intro (Kd.F_mono (ok' := fun k_ => k_ ≠ g159) hf_ (fun k hk => by (try dsimp only at hk); have h1 := HLg159.out; have h2 := HM.out; omega)) hl_); clear hf_ hl_
       have CR143 := Aside0.mk (And.intro (hf_F4 CR143.out.1 hb) CR143.out.2)
       have CR147 := Aside0.mk (And.intro (hf_F4 CR147.out.1 hb) CR147.out.2)
       have HGg159 := Aside0.mk (blk_below HGg159.out hb); have HM := Aside0.mk (Nat.lt_of_lt_of_le HM.out (Below.size hb))
       have hHeld := hHeld.trans (hb.mono hHeld.size); clear hb
       refine hK.out _ _ hHeld (fun hHeld => ?_); clear hK K
       refine norm_ (a' := ?_) ?_ ?_; rotate_left
       ·show Act.put _ (some 35) _ = _
        simp only [Act.put, List.setIfInBounds_toArray, List.set_cons_zero, List.set_cons_succ, i64_w, i32_w]; rfl
       refine pure_ (i := 6) (N := some 29) (v := ?_) (a' := ?_) #[true, true, true, true, true, true, true, false, false, true, false, false] rfl rfl (any_of HT_.out (by kernel_rfl)) (fun _ _ _ h => h) (Or.inl ⟨by rfl, ?_⟩) ?_ ?_; rotate_left
       ·intro w'; go_simp; with_reducible rfl
       rotate_left
       ·simp only [Act.put, List.setIfInBounds_toArray, List.set_cons_zero, List.set_cons_succ, i64_w, i32_w]; rfl
       refine pure_ (i := 7) (N := some 36) (v := ?_) (a' := ?_) #[true, true, true, true, true, true, true, true, false, true, false, false] rfl rfl (any_of HT_.out (by kernel_rfl)) (fun _ _ _ h => h) (Or.inl ⟨by rfl, ?_⟩) ?_ ?_; rotate_left
       ·intro w'; go_simp; with_reducible rfl
       rotate_left
       ·simp only [Act.put, List.setIfInBounds_toArray, List.set_cons_zero, List.set_cons_succ, i64_w, i32_w]; rfl
       refine pure_ (i := 8) (N := some 37) (v := ?_) (a' := ?_) #[true, true, true, true, true, true, true, true, true, true, false, false] rfl rfl (any_of HT_.out (by kernel_rfl)) (fun _ _ _ h => h) (Or.inl ⟨by rfl, ?_⟩) ?_ ?_; rotate_left
       ·intro w'; go_simp; with_reducible rfl
       rotate_left
       ·simp only [Act.put, List.setIfInBounds_toArray, List.set_cons_zero, List.set_cons_succ, i64_w, i32_w]; rfl
       exact norm_ (by simp only [putAll, Act.put, List.setIfInBounds_toArray, List.set_cons_zero, List.set_cons_succ]) (hCont (.slice A141 t139_1.length c142, .slice A145 t139_2.length c146, .slice A151 t149_1.length c152, .slice A155 t149_2.length c156, g159) _ ⟨hHeld, ⟨_, _, rfl, CR143.out.2, CR143.out.1⟩, ⟨_, _, rfl, CR147.out.2, CR147.out.1⟩, ⟨_, _, rfl, CR153.out.2, CR153.out.1⟩, ⟨_, _, rfl, CR157.out.2, CR157.out.1⟩, ⟨HGg159.out, HLg159.out⟩⟩)
     ·skip
      refine box_step ?hg (N := 10) ?hd (cs := #[.slice none 0 0, .slice none 0 0]) (t := 25) ?hr ?_; (case hd => rfl); (case hg => rfl); (case hr => first | (go_simp; done) | (go_simp; rfl))
      intro g159 hg w1 hbox hb
      have HGg159 := Aside0.mk hbox; have HLg159 : Aside0 (W138.heap.size ≤ g159) := ⟨Nat.le_trans hHeld.size (Nat.le_of_eq hg.symm)⟩; have HM : Aside0 (g159 < w1.heap.size) := ⟨blk_lt hbox⟩; clear hbox
      clear hg
      have hHeld := hHeld.trans (hb.mono hHeld.size); clear hb
      refine hK.out _ _ hHeld (fun hHeld => ?_); clear hK K
      refine norm_ (a' := ?_) ?_ ?_; rotate_left
      ·show Act.put _ (some 10) _ = _
       simp only [Act.put, List.setIfInBounds_toArray, List.set_cons_zero, List.set_cons_succ, i64_w, i32_w]; rfl
      refine one_ (i := 3) (N := some 33) #[true, true, true, true, true, false, false, false, false, true, false, false] rfl rfl (one_of HT_.out (by kernel_rfl)) (by decide) (fun K hK => ?_)
      refine goes_ Try.func16 (by kernel_rfl) rfl #[.int .i64 (wrap64 a1)] (by rfl) rfl rfl (by first | rfl | (simp only [List.map_toArray, List.map_cons, List.map_nil]; rfl)) ?_
      refine (triglyphref03_Atom.calls (wrap64 a1) _ _ _ E140.out).mono ?_
      rintro e w1 ⟨v144, v148, rfl, hv144, hv148, hb⟩
      refine ⟨_, rfl, ?_⟩
      obtain ⟨A141, c142, hv_⟩ := Kd.R_slice hv144; subst hv_; have CR143 := Aside0.mk (And.intro (hf_F2 hv144 HM.out) (Kd.R_reads' hv144).2.1); clear hv144
      obtain ⟨A145, c146, hv_⟩ := Kd.R_slice hv148; subst hv_; have CR147 := Aside0.mk (And.intro (hf_F2 hv148 HM.out) (Kd.R_reads' hv148).2.1); clear hv148
      have HGg159 := Aside0.mk (blk_below HGg159.out hb); have HM := Aside0.mk (Nat.lt_of_lt_of_le HM.out (Below.size hb))
      have hHeld := hHeld.trans (hb.mono hHeld.size); clear hb
      refine hK.out _ _ hHeld (fun hHeld => ?_); clear hK K
      refine norm_ (a' := ?_) ?_ ?_; rotate_left
      ·show Act.put _ (some 33) _ = _
       simp only [Act.put, List.setIfInBounds_toArray, List.set_cons_zero, List.set_cons_succ, i64_w, i32_w]; rfl
      refine one_ (i := 5) (N := some 35) #[true, true, true, true, true, true, false, false, false, true, false, false] rfl rfl (one_of HT_.out (by kernel_rfl)) (by decide) (fun K hK => ?_)
      refine goes_ Try.func11 (by kernel_rfl) rfl #[.int .i64 44, .agg #[.slice A141 t139_1.length c142, .slice A145 t139_2.length c146], .agg #[.slice A0_0 l0_0.length c0_0, .slice A0_1 l0_1.length c0_1]] (by rfl) rfl rfl (by first | rfl | (simp only [List.map_toArray, List.map_cons, List.map_nil]; rfl)) ?_
      refine (pick_Dy.calls k 44 _ A141 c142 t139_1 _ A145 c146 t139_2 _ A0_0 c0_0 l0_0 _ A0_1 c0_1 l0_1 _ _ _ _ (Kd.V_mk CR143.out.2 CR143.out.1) (Kd.V_mk CR147.out.2 CR147.out.1) (Kd.V_mk CRa0_0.out.2 (hf_F6 (Kd.C_F (Kd.heap_int .i64) CRa0_0.out.1) hHeld)) (Kd.V_mk CRa0_1.out.2 (hf_F6 (Kd.C_F k45_heap CRa0_1.out.1) hHeld)) E150.out).mono ?_
      rintro e w1 ⟨v154, v158, rfl, hv154, hv158, hb⟩
      refine ⟨_, rfl, ?_⟩
      obtain ⟨A151, c152, hv_, hl_, hf_⟩ := hv154; subst hv_; have CR153 := Aside0.mk (And.intro (Kd.F_mono (ok' := fun k_ => k_ ≠ g159) hf_ (fun k hk => by (try dsimp only at hk); have h1 := HLg159.out; have h2 := HM.out; omega)) hl_); clear hf_ hl_
      obtain ⟨A155, c156, hv_, hl_, hf_⟩ := hv158; subst hv_; have CR157 := Aside0.mk (And.intro (Kd.F_mono (ok' := fun k_ => k_ ≠ g159) hf_ (fun k hk => by (try dsimp only at hk); have h1 := HLg159.out; have h2 := HM.out; omega)) hl_); clear hf_ hl_
      have HGg159 := Aside0.mk (blk_below HGg159.out hb); have HM := Aside0.mk (Nat.lt_of_lt_of_le HM.out (Below.size hb))
      have CR143 := Aside0.mk (And.intro (hf_F4 CR143.out.1 hb) CR143.out.2)
      have CR147 := Aside0.mk (And.intro (hf_F4 CR147.out.1 hb) CR147.out.2)
      have hHeld := hHeld.trans (hb.mono hHeld.size); clear hb
      refine hK.out _ _ hHeld (fun hHeld => ?_); clear hK K
      refine norm_ (a' := ?_) ?_ ?_; rotate_left
      ·show Act.put _ (some 35) _ = _
       simp only [Act.put, List.setIfInBounds_toArray, List.set_cons_zero, List.set_cons_succ, i64_w, i32_w]; rfl
      refine pure_ (i := 6) (N := some 29) (v := ?_) (a' := ?_) #[true, true, true, true, true, true, true, false, false, true, false, false] rfl rfl (any_of HT_.out (by kernel_rfl)) (fun _ _ _ h => h) (Or.inl ⟨by rfl, ?_⟩) ?_ ?_; rotate_left
      ·intro w'; go_simp; with_reducible rfl
      rotate_left
      ·simp only [Act.put, List.setIfInBounds_toArray, List.set_cons_zero, List.set_cons_succ, i64_w, i32_w]; rfl
      refine pure_ (i := 7) (N := some 36) (v := ?_) (a' := ?_) #[true, true, true, true, true, true, true, true, false, true, false, false] rfl rfl (any_of HT_.out (by kernel_rfl)) (fun _ _ _ h => h) (Or.inl ⟨by rfl, ?_⟩) ?_ ?_; rotate_left
      ·intro w'; go_simp; with_reducible rfl
      rotate_left
      ·simp only [Act.put, List.setIfInBounds_toArray, List.set_cons_zero, List.set_cons_succ, i64_w, i32_w]; rfl
      refine pure_ (i := 8) (N := some 37) (v := ?_) (a' := ?_) #[true, true, true, true, true, true, true, true, true, true, false, false] rfl rfl (any_of HT_.out (by kernel_rfl)) (fun _ _ _ h => h) (Or.inl ⟨by rfl, ?_⟩) ?_ ?_; rotate_left
      ·intro w'; go_simp; with_reducible rfl
      rotate_left
      ·simp only [Act.put, List.setIfInBounds_toArray, List.set_cons_zero, List.set_cons_succ, i64_w, i32_w]; rfl
      exact norm_ (by simp only [putAll, Act.put, List.setIfInBounds_toArray, List.set_cons_zero, List.set_cons_succ]) (hCont (.slice A141 t139_1.length c142, .slice A145 t139_2.length c146, .slice A151 t149_1.length c152, .slice A155 t149_2.length c156, g159) _ ⟨hHeld, ⟨_, _, rfl, CR143.out.2, CR143.out.1⟩, ⟨_, _, rfl, CR147.out.2, CR147.out.1⟩, ⟨_, _, rfl, CR153.out.2, CR153.out.1⟩, ⟨_, _, rfl, CR157.out.2, CR157.out.1⟩, ⟨HGg159.out, HLg159.out⟩⟩)
    rintro ⟨v144, v148, v154, v158, g159⟩ w160 ⟨hHeld, hF0_, hF1_, hF2_, hF3_, hF4_⟩
    dsimp only at hF0_ hF1_ hF2_ hF3_ hF4_
    obtain ⟨A141, c142, hv_, hl_, hf_⟩ := hF0_; have CR143 := Aside0.mk (And.intro hf_ hl_); clear hf_ hl_; subst hv_
    obtain ⟨A145, c146, hv_, hl_, hf_⟩ := hF1_; have CR147 := Aside0.mk (And.intro hf_ hl_); clear hf_ hl_; subst hv_
    obtain ⟨A151, c152, hv_, hl_, hf_⟩ := hF2_; have CR153 := Aside0.mk (And.intro hf_ hl_); clear hf_ hl_; subst hv_
    obtain ⟨A155, c156, hv_, hl_, hf_⟩ := hF3_; have CR157 := Aside0.mk (And.intro hf_ hl_); clear hf_ hl_; subst hv_
    have HG := Aside0.mk hF4_; clear hF4_
    refine norm_ (a' := ?_) ?_ ?_; rotate_left
    ·simp only [putAll, Act.put, List.setIfInBounds_toArray, List.set_cons_zero, List.set_cons_succ]; rfl
    refine one_ (i := 10) (N := none) #[true, true, true, true, true, true, true, true, true, true, true, false] rfl rfl (one_of HT_.out (by kernel_rfl)) (by decide) (fun K hK => ?_)
    have y0 : w160.cell? ⟨g159, 0, none⟩ = some (.slice none 0 0) := (blk_cell HG.out.1 0).trans rfl; have u0 := blk_frozen HG.out.1 0; have y1 : w160.cell? ⟨g159, 1, none⟩ = some (.slice none 0 0) := (blk_cell HG.out.1 1).trans rfl; have u1 := blk_frozen HG.out.1 1
    refine skip_ (w1 := ?_) (by rfl) rfl ?_ ?_; rotate_left
    ·go_simp; rfl
    have HB2 := Aside0.mk (hf_st2 hHeld HG.out.2 (.slice A151 t149_1.length c152) (.slice A155 t149_2.length c156))
    have CR143 := Aside0.mk (And.intro (hf_F5a CR143.out.1 (.slice A151 t149_1.length c152) (.slice A155 t149_2.length c156)) CR143.out.2)
    have CR147 := Aside0.mk (And.intro (hf_F5a CR147.out.1 (.slice A151 t149_1.length c152) (.slice A155 t149_2.length c156)) CR147.out.2)
    have CR153 := Aside0.mk (And.intro (hf_F5a CR153.out.1 (.slice A151 t149_1.length c152) (.slice A155 t149_2.length c156)) CR153.out.2)
    have CR157 := Aside0.mk (And.intro (hf_F5a CR157.out.1 (.slice A151 t149_1.length c152) (.slice A155 t149_2.length c156)) CR157.out.2)
    have HG := Aside0.mk (And.intro (hf_z2 HG.out.1 (.slice A151 t149_1.length c152) (.slice A155 t149_2.length c156)) HG.out.2)
    refine hK.out _ _ HB2.out (fun hHeld => ?_); clear hK K HB2 y0 u0 y1 u1
    generalize (w160.setCell _ _).setCell _ _ = w161 at hHeld HG CR143 CR147 CR153 CR157 ⊢
    refine pure_ (i := 11) (N := some 11) (v := ?_) (a' := ?_) #[true, true, true, true, true, true, true, true, true, true, true, true] rfl rfl (any_of HT_.out (by kernel_rfl)) (fun _ _ _ h => h) (Or.inl ⟨by rfl, ?_⟩) ?_ ?_; rotate_left
    ·intro w'; go_simp; with_reducible rfl
    rotate_left
    ·simp only [Act.put, List.setIfInBounds_toArray, List.set_cons_zero, List.set_cons_succ, i64_w, i32_w]; rfl
    refine done_ (done_of HT_.out (by kernel_rfl)) ?_
    have CR143 := Aside0.mk (And.intro (Kd.F_now CR143.out.1) CR143.out.2)
    have CR147 := Aside0.mk (And.intro (Kd.F_now CR147.out.1) CR147.out.2)
    have CR153 := Aside0.mk (And.intro (Kd.F_now CR153.out.1) CR153.out.2)
    have CR157 := Aside0.mk (And.intro (Kd.F_now CR157.out.1) CR157.out.2)
    have CRa0_0 := Aside0.mk (And.intro (Kd.C_below CRa0_0.out.1 hHeld) CRa0_0.out.2)
    have CRa0_1 := Aside0.mk (And.intro (Kd.C_below CRa0_1.out.1 hHeld) CRa0_1.out.2)
    have HS := Aside0.mk (BxS.add HS.out hHeld HG.out.1 HG.out.2)
    clear hHeld HG
    have z0_0 : w161.cell? ⟨w.heap.size, 0, none⟩ = some (.slice A0_0 l0_0.length c0_0) := (blk_cell (HS.out.at_ 1 rfl) 0).trans rfl; have z0_1 : w161.cell? ⟨w.heap.size, 1, none⟩ = some (.slice A0_1 l0_1.length c0_1) := (blk_cell (HS.out.at_ 1 rfl) 1).trans rfl; have z1_0 : w161.cell? ⟨g159, 0, none⟩ = some (.slice A151 t149_1.length c152) := (blk_cell (HS.out.at_ 0 rfl) 0).trans rfl; have z1_1 : w161.cell? ⟨g159, 1, none⟩ = some (.slice A155 t149_2.length c156) := (blk_cell (HS.out.at_ 0 rfl) 1).trans rfl
    obtain ⟨⟨t163_1, t163_2⟩, q_, h⟩ := Option.bind_eq_some_iff.1 h; have E164 := Aside0.mk q_; clear q_; (try dsimp only at h)
    obtain ⟨⟨t173_1, t173_2, t173_3⟩, q_, h⟩ := Option.bind_eq_some_iff.1 h; have E174 := Aside0.mk q_; clear q_; (try dsimp only at h)
    go_upto_region 7 with (fail)
    refine start_ (n := 12) (S := fun W' => Below w161.drew.heap.size w161.drew W') (ds := []) #[false, false, false, false, false, false, false, false, false, false, false, false] (by kernel_rfl) rfl rfl (Below.refl _ _) (fun hHeld => ?_)
    refine with_tabW triglyphlaw06_PickRotates.tab7 triglyphlaw06_PickRotates.bits7 (fun HT_ HW_ => ?_)
    (try clear z0_0 z0_1 z1_0 z1_1); have HS := Aside0.mk (HS.out.step (below_drew (Below.refl _ _)))
    have CRa0_0 := Aside0.mk (And.intro (Kd.C_below CRa0_0.out.1 (below_drew (Below.refl _ _))) CRa0_0.out.2)
    have CRa0_1 := Aside0.mk (And.intro (Kd.C_below CRa0_1.out.1 (below_drew (Below.refl _ _))) CRa0_1.out.2)
    have CR143 := Aside0.mk (And.intro (Kd.C_below CR143.out.1 (below_drew (Below.refl _ _))) CR143.out.2)
    have CR147 := Aside0.mk (And.intro (Kd.C_below CR147.out.1 (below_drew (Below.refl _ _))) CR147.out.2)
    have CR153 := Aside0.mk (And.intro (Kd.C_below CR153.out.1 (below_drew (Below.refl _ _))) CR153.out.2)
    have CR157 := Aside0.mk (And.intro (Kd.C_below CR157.out.1 (below_drew (Below.refl _ _))) CR157.out.2)
    generalize w161.drew = W162 at HS CRa0_0 CRa0_1 CR143 CR147 CR153 CR157 hHeld ⊢
    refine pure_ (i := 0) (N := some 39) (v := ?_) (a' := ?_) #[true, false, false, false, false, false, false, false, false, false, false, false] rfl rfl (any_of HT_.out (by kernel_rfl)) (fun _ _ _ h => h) (Or.inl ⟨by rfl, ?_⟩) ?_ ?_; rotate_left
    ·intro w'; go_simp; with_reducible rfl
    rotate_left
    ·simp only [Act.put, List.setIfInBounds_toArray, List.set_cons_zero, List.set_cons_succ, i64_w, i32_w]; rfl
    refine pure_ (i := 1) (N := some 40) (v := ?_) (a' := ?_) #[true, true, false, false, false, false, false, false, false, false, false, false] rfl rfl (any_of HT_.out (by kernel_rfl)) (fun _ _ _ h => h) (Or.inl ⟨by rfl, ?_⟩) ?_ ?_; rotate_left
    ·intro w'; go_simp; with_reducible rfl
    rotate_left
    ·simp only [Act.put, List.setIfInBounds_toArray, List.set_cons_zero, List.set_cons_succ, i64_w, i32_w]; rfl
    refine pure_ (i := 2) (N := some 41) (v := ?_) (a' := ?_) #[true, true, true, false, false, false, false, false, false, false, false, false] rfl rfl (any_of HT_.out (by kernel_rfl)) (fun _ _ _ h => h) (Or.inl ⟨by rfl, ?_⟩) ?_ ?_; rotate_left
    ·intro w'; go_simp; with_reducible rfl
    rotate_left
    ·simp only [Act.put, List.setIfInBounds_toArray, List.set_cons_zero, List.set_cons_succ, i64_w, i32_w]; rfl
    refine take_ (i := 4) (N := some 43) (v := ?_) (a' := ?_) #[true, true, true, false, true, false, false, false, false, false, false, false] rfl rfl (take_ofW HT_.out HW_.out (by kernel_rfl)) (fun _ _ _ h => h) (Or.inl ⟨by rfl, ?_⟩) hHeld ?_ ?_; rotate_left
    ·intro w' s0; have y0 : w'.cell? ⟨g159, 0, none⟩ = some (.slice A151 t149_1.length c152) := (blk_cell ((HS.out.step s0).at_ 0 rfl) 0).trans rfl; have y1 : w'.cell? ⟨g159, 1, none⟩ = some (.slice A155 t149_2.length c156) := (blk_cell ((HS.out.step s0).at_ 0 rfl) 1).trans rfl; go_simp; with_reducible rfl
    rotate_left
    ·simp only [Act.put, List.setIfInBounds_toArray, List.set_cons_zero, List.set_cons_succ, i64_w, i32_w]; rfl
    refine join_ (σ := Value × Value × Value × Value × Nat) 2 #[true, true, true, true, true, true, true, true, true, true, false, false] (fun s_ => [(42, .agg #[s_.1, s_.2.1]), (44, .tuple #[.agg #[s_.2.2.1, s_.2.2.2.1], .int .i64 t173_3]), (12, .pointer (some ⟨s_.2.2.2.2, 0, none⟩)), (38, .tuple #[.agg #[s_.2.2.1, s_.2.2.2.1], .int .i64 t173_3]), (45, .agg #[s_.2.2.1, s_.2.2.2.1]), (46, .int .i64 t173_3)]) (fun s_ w' => Below W162.heap.size W162 w' ∧ (∃ A_ c_, s_.1 = .slice A_ (t163_1).length c_ ∧ (t163_1).length ≤ c_ ∧ Kd.F (Kd.int .i64) w' (fun k_ => k_ ≠ s_.2.2.2.2) A_ (t163_1).length t163_1) ∧ (∃ A_ c_, s_.2.1 = .slice A_ (t163_2).length c_ ∧ (t163_2).length ≤ c_ ∧ Kd.F k45 w' (fun k_ => k_ ≠ s_.2.2.2.2) A_ (t163_2).length t163_2) ∧ (∃ A_ c_, s_.2.2.1 = .slice A_ (t173_1).length c_ ∧ (t173_1).length ≤ c_ ∧ Kd.F (Kd.int .i64) w' (fun k_ => k_ ≠ s_.2.2.2.2) A_ (t173_1).length t173_1) ∧ (∃ A_ c_, s_.2.2.2.1 = .slice A_ (t173_2).length c_ ∧ (t173_2).length ≤ c_ ∧ Kd.F k45 w' (fun k_ => k_ ≠ s_.2.2.2.2) A_ (t173_2).length t173_2) ∧ (w'.heap[s_.2.2.2.2]? = some (.cells #[.slice none 0 0, .slice none 0 0] 25 (0, 0)) ∧ W162.heap.size ≤ s_.2.2.2.2)) ?_ ?_; rotate_left
    ·intro hCont
     refine two_ (i := 3) (j := 9) (Ni := some 42) (Nj := some 12) #[true, true, true, true, true, false, false, false, false, false, false, false] #[true, true, true, false, true, false, false, false, false, true, false, false] rfl rfl rfl rfl (two_of HT_.out (by kernel_rfl)) (by decide) (by decide) (fun K hK => ?_) (fun K hK => ?_)
     ·skip
      refine goes_ Try.func16 (by kernel_rfl) rfl #[.int .i64 (wrap64 a2)] (by rfl) rfl rfl (by first | rfl | (simp only [List.map_toArray, List.map_cons, List.map_nil]; rfl)) ?_
      refine (triglyphref03_Atom.calls (wrap64 a2) _ _ _ E164.out).mono ?_
      rintro e w1 ⟨v168, v172, rfl, hv168, hv172, hb⟩
      refine ⟨_, rfl, ?_⟩
      obtain ⟨A165, c166, hv_⟩ := Kd.R_slice hv168; subst hv_; have CR167 := Aside0.mk (And.intro (hf_F1 hv168) (Kd.R_reads' hv168).2.1); clear hv168
      obtain ⟨A169, c170, hv_⟩ := Kd.R_slice hv172; subst hv_; have CR171 := Aside0.mk (And.intro (hf_F1 hv172) (Kd.R_reads' hv172).2.1); clear hv172
      have hHeld := hHeld.trans (hb.mono hHeld.size); clear hb
      refine hK.out _ _ hHeld (fun hHeld => ?_); clear hK K
      refine norm_ (a' := ?_) ?_ ?_; rotate_left
      ·show Act.put _ (some 42) _ = _
       simp only [Act.put, List.setIfInBounds_toArray, List.set_cons_zero, List.set_cons_succ, i64_w, i32_w]; rfl
      refine two_ (i := 5) (j := 9) (Ni := some 44) (Nj := some 12) #[true, true, true, true, true, true, false, false, false, false, false, false] #[true, true, true, true, true, false, false, false, false, true, false, false] rfl rfl rfl rfl (two_of HT_.out (by kernel_rfl)) (by decide) (by decide) (fun K hK => ?_) (fun K hK => ?_)
      ·skip
       refine goes_ Try.func11 (by kernel_rfl) rfl #[.int .i64 44, .agg #[.slice A165 t163_1.length c166, .slice A169 t163_2.length c170], .agg #[.slice A151 t149_1.length c152, .slice A155 t149_2.length c156]] (by rfl) rfl rfl (by first | rfl | (simp only [List.map_toArray, List.map_cons, List.map_nil]; rfl)) ?_
       refine (pick_Dy.calls k 44 _ A165 c166 t163_1 _ A169 c170 t163_2 _ A151 c152 t149_1 _ A155 c156 t149_2 _ _ _ _ (Kd.V_mk CR167.out.2 CR167.out.1) (Kd.V_mk CR171.out.2 CR171.out.1) (Kd.V_mk CR153.out.2 (hf_F6 (Kd.C_F (Kd.heap_int .i64) CR153.out.1) hHeld)) (Kd.V_mk CR157.out.2 (hf_F6 (Kd.C_F k45_heap CR157.out.1) hHeld)) E174.out).mono ?_
       rintro e w1 ⟨v178, v182, rfl, hv178, hv182, hb⟩
       refine ⟨_, rfl, ?_⟩
       obtain ⟨A175, c176, hv_, hl_, hf_⟩ := hv178; subst hv_; have CR177 := Aside0.mk (And.intro (Kd.F_mono (ok' := fun _ => True) hf_ (fun _ _ => trivial)) hl_); clear hf_ hl_
       obtain ⟨A179, c180, hv_, hl_, hf_⟩ := hv182; subst hv_; have CR181 := Aside0.mk (And.intro (Kd.F_mono (ok' := fun _ => True) hf_ (fun _ _ => trivial)) hl_); clear hf_ hl_
       have CR167 := Aside0.mk (And.intro (hf_F4 CR167.out.1 hb) CR167.out.2)
       have CR171 := Aside0.mk (And.intro (hf_F4 CR171.out.1 hb) CR171.out.2)
       have hHeld := hHeld.trans (hb.mono hHeld.size); clear hb
       refine hK.out _ _ hHeld (fun hHeld => ?_); clear hK K
       refine norm_ (a' := ?_) ?_ ?_; rotate_left
       ·show Act.put _ (some 44) _ = _
        simp only [Act.put, List.setIfInBounds_toArray, List.set_cons_zero, List.set_cons_succ, i64_w, i32_w]; rfl
       refine pure_ (i := 6) (N := some 38) (v := ?_) (a' := ?_) #[true, true, true, true, true, true, true, false, false, false, false, false] rfl rfl (any_of HT_.out (by kernel_rfl)) (fun _ _ _ h => h) (Or.inl ⟨by rfl, ?_⟩) ?_ ?_; rotate_left
       ·intro w'; go_simp; with_reducible rfl
       rotate_left
       ·simp only [Act.put, List.setIfInBounds_toArray, List.set_cons_zero, List.set_cons_succ, i64_w, i32_w]; rfl
       refine pure_ (i := 7) (N := some 45) (v := ?_) (a' := ?_) #[true, true, true, true, true, true, true, true, false, false, false, false] rfl rfl (any_of HT_.out (by kernel_rfl)) (fun _ _ _ h => h) (Or.inl ⟨by rfl, ?_⟩) ?_ ?_; rotate_left
       ·intro w'; go_simp; with_reducible rfl
       rotate_left
       ·simp only [Act.put, List.setIfInBounds_toArray, List.set_cons_zero, List.set_cons_succ, i64_w, i32_w]; rfl
       refine pure_ (i := 8) (N := some 46) (v := ?_) (a' := ?_) #[true, true, true, true, true, true, true, true, true, false, false, false] rfl rfl (any_of HT_.out (by kernel_rfl)) (fun _ _ _ h => h) (Or.inl ⟨by rfl, ?_⟩) ?_ ?_; rotate_left
       ·intro w'; go_simp; with_reducible rfl
       rotate_left
       ·simp only [Act.put, List.setIfInBounds_toArray, List.set_cons_zero, List.set_cons_succ, i64_w, i32_w]; rfl
       refine one_ (i := 9) (N := some 12) #[true, true, true, true, true, true, true, true, true, true, false, false] rfl rfl (one_of HT_.out (by kernel_rfl)) (by decide) (fun K hK => ?_)
       refine box_step ?hg (N := 12) ?hd (cs := #[.slice none 0 0, .slice none 0 0]) (t := 25) ?hr ?_; (case hd => rfl); (case hg => rfl); (case hr => first | (go_simp; done) | (go_simp; rfl))
       intro g183 hg w1 hbox hb
       have HGg183 := Aside0.mk hbox; have HLg183 : Aside0 (W162.heap.size ≤ g183) := ⟨Nat.le_trans hHeld.size (Nat.le_of_eq hg.symm)⟩; have HM : Aside0 (g183 < w1.heap.size) := ⟨blk_lt hbox⟩; clear hbox
       have CR167 := Aside0.mk (And.intro (hf_F3 hg CR167.out.1 hb) CR167.out.2)
       have CR171 := Aside0.mk (And.intro (hf_F3 hg CR171.out.1 hb) CR171.out.2)
       have CR177 := Aside0.mk (And.intro (hf_F3 hg CR177.out.1 hb) CR177.out.2)
       have CR181 := Aside0.mk (And.intro (hf_F3 hg CR181.out.1 hb) CR181.out.2)
       clear hg
       have hHeld := hHeld.trans (hb.mono hHeld.size); clear hb
       refine hK.out _ _ hHeld (fun hHeld => ?_); clear hK K
       refine norm_ (a' := ?_) ?_ ?_; rotate_left
       ·show Act.put _ (some 12) _ = _
        simp only [Act.put, List.setIfInBounds_toArray, List.set_cons_zero, List.set_cons_succ, i64_w, i32_w]; rfl
       exact norm_ (by simp only [putAll, Act.put, List.setIfInBounds_toArray, List.set_cons_zero, List.set_cons_succ]) (hCont (.slice A165 t163_1.length c166, .slice A169 t163_2.length c170, .slice A175 t173_1.length c176, .slice A179 t173_2.length c180, g183) _ ⟨hHeld, ⟨_, _, rfl, CR167.out.2, CR167.out.1⟩, ⟨_, _, rfl, CR171.out.2, CR171.out.1⟩, ⟨_, _, rfl, CR177.out.2, CR177.out.1⟩, ⟨_, _, rfl, CR181.out.2, CR181.out.1⟩, ⟨HGg183.out, HLg183.out⟩⟩)
      ·skip
       refine box_step ?hg (N := 12) ?hd (cs := #[.slice none 0 0, .slice none 0 0]) (t := 25) ?hr ?_; (case hd => rfl); (case hg => rfl); (case hr => first | (go_simp; done) | (go_simp; rfl))
       intro g183 hg w1 hbox hb
       have HGg183 := Aside0.mk hbox; have HLg183 : Aside0 (W162.heap.size ≤ g183) := ⟨Nat.le_trans hHeld.size (Nat.le_of_eq hg.symm)⟩; have HM : Aside0 (g183 < w1.heap.size) := ⟨blk_lt hbox⟩; clear hbox
       have CR167 := Aside0.mk (And.intro (hf_F3 hg CR167.out.1 hb) CR167.out.2)
       have CR171 := Aside0.mk (And.intro (hf_F3 hg CR171.out.1 hb) CR171.out.2)
       clear hg
       have hHeld := hHeld.trans (hb.mono hHeld.size); clear hb
       refine hK.out _ _ hHeld (fun hHeld => ?_); clear hK K
       refine norm_ (a' := ?_) ?_ ?_; rotate_left
       ·show Act.put _ (some 12) _ = _
        simp only [Act.put, List.setIfInBounds_toArray, List.set_cons_zero, List.set_cons_succ, i64_w, i32_w]; rfl
       refine one_ (i := 5) (N := some 44) #[true, true, true, true, true, true, false, false, false, true, false, false] rfl rfl (one_of HT_.out (by kernel_rfl)) (by decide) (fun K hK => ?_)
       refine goes_ Try.func11 (by kernel_rfl) rfl #[.int .i64 44, .agg #[.slice A165 t163_1.length c166, .slice A169 t163_2.length c170], .agg #[.slice A151 t149_1.length c152, .slice A155 t149_2.length c156]] (by rfl) rfl rfl (by first | rfl | (simp only [List.map_toArray, List.map_cons, List.map_nil]; rfl)) ?_
       refine (pick_Dy.calls k 44 _ A165 c166 t163_1 _ A169 c170 t163_2 _ A151 c152 t149_1 _ A155 c156 t149_2 _ _ _ _ (Kd.V_mk CR167.out.2 CR167.out.1) (Kd.V_mk CR171.out.2 CR171.out.1) (Kd.V_mk CR153.out.2 (hf_F6 (Kd.C_F (Kd.heap_int .i64) CR153.out.1) hHeld)) (Kd.V_mk CR157.out.2 (hf_F6 (Kd.C_F k45_heap CR157.out.1) hHeld)) E174.out).mono ?_
       rintro e w1 ⟨v178, v182, rfl, hv178, hv182, hb⟩
       refine ⟨_, rfl, ?_⟩
       obtain ⟨A175, c176, hv_, hl_, hf_⟩ := hv178; subst hv_; have CR177 := Aside0.mk (And.intro (Kd.F_mono (ok' := fun k_ => k_ ≠ g183) hf_ (fun k hk => by (try dsimp only at hk); have h1 := HLg183.out; have h2 := HM.out; omega)) hl_); clear hf_ hl_
       obtain ⟨A179, c180, hv_, hl_, hf_⟩ := hv182; subst hv_; have CR181 := Aside0.mk (And.intro (Kd.F_mono (ok' := fun k_ => k_ ≠ g183) hf_ (fun k hk => by (try dsimp only at hk); have h1 := HLg183.out; have h2 := HM.out; omega)) hl_); clear hf_ hl_
       have CR167 := Aside0.mk (And.intro (hf_F4 CR167.out.1 hb) CR167.out.2)
       have CR171 := Aside0.mk (And.intro (hf_F4 CR171.out.1 hb) CR171.out.2)
       have HGg183 := Aside0.mk (blk_below HGg183.out hb); have HM := Aside0.mk (Nat.lt_of_lt_of_le HM.out (Below.size hb))
       have hHeld := hHeld.trans (hb.mono hHeld.size); clear hb
       refine hK.out _ _ hHeld (fun hHeld => ?_); clear hK K
       refine norm_ (a' := ?_) ?_ ?_; rotate_left
       ·show Act.put _ (some 44) _ = _
        simp only [Act.put, List.setIfInBounds_toArray, List.set_cons_zero, List.set_cons_succ, i64_w, i32_w]; rfl
       refine pure_ (i := 6) (N := some 38) (v := ?_) (a' := ?_) #[true, true, true, true, true, true, true, false, false, true, false, false] rfl rfl (any_of HT_.out (by kernel_rfl)) (fun _ _ _ h => h) (Or.inl ⟨by rfl, ?_⟩) ?_ ?_; rotate_left
       ·intro w'; go_simp; with_reducible rfl
       rotate_left
       ·simp only [Act.put, List.setIfInBounds_toArray, List.set_cons_zero, List.set_cons_succ, i64_w, i32_w]; rfl
       refine pure_ (i := 7) (N := some 45) (v := ?_) (a' := ?_) #[true, true, true, true, true, true, true, true, false, true, false, false] rfl rfl (any_of HT_.out (by kernel_rfl)) (fun _ _ _ h => h) (Or.inl ⟨by rfl, ?_⟩) ?_ ?_; rotate_left
       ·intro w'; go_simp; with_reducible rfl
       rotate_left
       ·simp only [Act.put, List.setIfInBounds_toArray, List.set_cons_zero, List.set_cons_succ, i64_w, i32_w]; rfl
       refine pure_ (i := 8) (N := some 46) (v := ?_) (a' := ?_) #[true, true, true, true, true, true, true, true, true, true, false, false] rfl rfl (any_of HT_.out (by kernel_rfl)) (fun _ _ _ h => h) (Or.inl ⟨by rfl, ?_⟩) ?_ ?_; rotate_left
       ·intro w'; go_simp; with_reducible rfl
       rotate_left
       ·simp only [Act.put, List.setIfInBounds_toArray, List.set_cons_zero, List.set_cons_succ, i64_w, i32_w]; rfl
       exact norm_ (by simp only [putAll, Act.put, List.setIfInBounds_toArray, List.set_cons_zero, List.set_cons_succ]) (hCont (.slice A165 t163_1.length c166, .slice A169 t163_2.length c170, .slice A175 t173_1.length c176, .slice A179 t173_2.length c180, g183) _ ⟨hHeld, ⟨_, _, rfl, CR167.out.2, CR167.out.1⟩, ⟨_, _, rfl, CR171.out.2, CR171.out.1⟩, ⟨_, _, rfl, CR177.out.2, CR177.out.1⟩, ⟨_, _, rfl, CR181.out.2, CR181.out.1⟩, ⟨HGg183.out, HLg183.out⟩⟩)
     ·skip
      refine box_step ?hg (N := 12) ?hd (cs := #[.slice none 0 0, .slice none 0 0]) (t := 25) ?hr ?_; (case hd => rfl); (case hg => rfl); (case hr => first | (go_simp; done) | (go_simp; rfl))
      intro g183 hg w1 hbox hb
      have HGg183 := Aside0.mk hbox; have HLg183 : Aside0 (W162.heap.size ≤ g183) := ⟨Nat.le_trans hHeld.size (Nat.le_of_eq hg.symm)⟩; have HM : Aside0 (g183 < w1.heap.size) := ⟨blk_lt hbox⟩; clear hbox
      clear hg
      have hHeld := hHeld.trans (hb.mono hHeld.size); clear hb
      refine hK.out _ _ hHeld (fun hHeld => ?_); clear hK K
      refine norm_ (a' := ?_) ?_ ?_; rotate_left
      ·show Act.put _ (some 12) _ = _
       simp only [Act.put, List.setIfInBounds_toArray, List.set_cons_zero, List.set_cons_succ, i64_w, i32_w]; rfl
      refine one_ (i := 3) (N := some 42) #[true, true, true, true, true, false, false, false, false, true, false, false] rfl rfl (one_of HT_.out (by kernel_rfl)) (by decide) (fun K hK => ?_)
      refine goes_ Try.func16 (by kernel_rfl) rfl #[.int .i64 (wrap64 a2)] (by rfl) rfl rfl (by first | rfl | (simp only [List.map_toArray, List.map_cons, List.map_nil]; rfl)) ?_
      refine (triglyphref03_Atom.calls (wrap64 a2) _ _ _ E164.out).mono ?_
      rintro e w1 ⟨v168, v172, rfl, hv168, hv172, hb⟩
      refine ⟨_, rfl, ?_⟩
      obtain ⟨A165, c166, hv_⟩ := Kd.R_slice hv168; subst hv_; have CR167 := Aside0.mk (And.intro (hf_F2 hv168 HM.out) (Kd.R_reads' hv168).2.1); clear hv168
      obtain ⟨A169, c170, hv_⟩ := Kd.R_slice hv172; subst hv_; have CR171 := Aside0.mk (And.intro (hf_F2 hv172 HM.out) (Kd.R_reads' hv172).2.1); clear hv172
      have HGg183 := Aside0.mk (blk_below HGg183.out hb); have HM := Aside0.mk (Nat.lt_of_lt_of_le HM.out (Below.size hb))
      have hHeld := hHeld.trans (hb.mono hHeld.size); clear hb
      refine hK.out _ _ hHeld (fun hHeld => ?_); clear hK K
      refine norm_ (a' := ?_) ?_ ?_; rotate_left
      ·show Act.put _ (some 42) _ = _
       simp only [Act.put, List.setIfInBounds_toArray, List.set_cons_zero, List.set_cons_succ, i64_w, i32_w]; rfl
      refine one_ (i := 5) (N := some 44) #[true, true, true, true, true, true, false, false, false, true, false, false] rfl rfl (one_of HT_.out (by kernel_rfl)) (by decide) (fun K hK => ?_)
      refine goes_ Try.func11 (by kernel_rfl) rfl #[.int .i64 44, .agg #[.slice A165 t163_1.length c166, .slice A169 t163_2.length c170], .agg #[.slice A151 t149_1.length c152, .slice A155 t149_2.length c156]] (by rfl) rfl rfl (by first | rfl | (simp only [List.map_toArray, List.map_cons, List.map_nil]; rfl)) ?_
      refine (pick_Dy.calls k 44 _ A165 c166 t163_1 _ A169 c170 t163_2 _ A151 c152 t149_1 _ A155 c156 t149_2 _ _ _ _ (Kd.V_mk CR167.out.2 CR167.out.1) (Kd.V_mk CR171.out.2 CR171.out.1) (Kd.V_mk CR153.out.2 (hf_F6 (Kd.C_F (Kd.heap_int .i64) CR153.out.1) hHeld)) (Kd.V_mk CR157.out.2 (hf_F6 (Kd.C_F k45_heap CR157.out.1) hHeld)) E174.out).mono ?_
      rintro e w1 ⟨v178, v182, rfl, hv178, hv182, hb⟩
      refine ⟨_, rfl, ?_⟩
      obtain ⟨A175, c176, hv_, hl_, hf_⟩ := hv178; subst hv_; have CR177 := Aside0.mk (And.intro (Kd.F_mono (ok' := fun k_ => k_ ≠ g183) hf_ (fun k hk => by (try dsimp only at hk); have h1 := HLg183.out; have h2 := HM.out; omega)) hl_); clear hf_ hl_
      obtain ⟨A179, c180, hv_, hl_, hf_⟩ := hv182; subst hv_; have CR181 := Aside0.mk (And.intro (Kd.F_mono (ok' := fun k_ => k_ ≠ g183) hf_ (fun k hk => by (try dsimp only at hk); have h1 := HLg183.out; have h2 := HM.out; omega)) hl_); clear hf_ hl_
      have HGg183 := Aside0.mk (blk_below HGg183.out hb); have HM := Aside0.mk (Nat.lt_of_lt_of_le HM.out (Below.size hb))
      have CR167 := Aside0.mk (And.intro (hf_F4 CR167.out.1 hb) CR167.out.2)
      have CR171 := Aside0.mk (And.intro (hf_F4 CR171.out.1 hb) CR171.out.2)
      have hHeld := hHeld.trans (hb.mono hHeld.size); clear hb
      refine hK.out _ _ hHeld (fun hHeld => ?_); clear hK K
      refine norm_ (a' := ?_) ?_ ?_; rotate_left
      ·show Act.put _ (some 44) _ = _
       simp only [Act.put, List.setIfInBounds_toArray, List.set_cons_zero, List.set_cons_succ, i64_w, i32_w]; rfl
      refine pure_ (i := 6) (N := some 38) (v := ?_) (a' := ?_) #[true, true, true, true, true, true, true, false, false, true, false, false] rfl rfl (any_of HT_.out (by kernel_rfl)) (fun _ _ _ h => h) (Or.inl ⟨by rfl, ?_⟩) ?_ ?_; rotate_left
      ·intro w'; go_simp; with_reducible rfl
      rotate_left
      ·simp only [Act.put, List.setIfInBounds_toArray, List.set_cons_zero, List.set_cons_succ, i64_w, i32_w]; rfl
      refine pure_ (i := 7) (N := some 45) (v := ?_) (a' := ?_) #[true, true, true, true, true, true, true, true, false, true, false, false] rfl rfl (any_of HT_.out (by kernel_rfl)) (fun _ _ _ h => h) (Or.inl ⟨by rfl, ?_⟩) ?_ ?_; rotate_left
      ·intro w'; go_simp; with_reducible rfl
      rotate_left
      ·simp only [Act.put, List.setIfInBounds_toArray, List.set_cons_zero, List.set_cons_succ, i64_w, i32_w]; rfl
      refine pure_ (i := 8) (N := some 46) (v := ?_) (a' := ?_) #[true, true, true, true, true, true, true, true, true, true, false, false] rfl rfl (any_of HT_.out (by kernel_rfl)) (fun _ _ _ h => h) (Or.inl ⟨by rfl, ?_⟩) ?_ ?_; rotate_left
      ·intro w'; go_simp; with_reducible rfl
      rotate_left
      ·simp only [Act.put, List.setIfInBounds_toArray, List.set_cons_zero, List.set_cons_succ, i64_w, i32_w]; rfl
      exact norm_ (by simp only [putAll, Act.put, List.setIfInBounds_toArray, List.set_cons_zero, List.set_cons_succ]) (hCont (.slice A165 t163_1.length c166, .slice A169 t163_2.length c170, .slice A175 t173_1.length c176, .slice A179 t173_2.length c180, g183) _ ⟨hHeld, ⟨_, _, rfl, CR167.out.2, CR167.out.1⟩, ⟨_, _, rfl, CR171.out.2, CR171.out.1⟩, ⟨_, _, rfl, CR177.out.2, CR177.out.1⟩, ⟨_, _, rfl, CR181.out.2, CR181.out.1⟩, ⟨HGg183.out, HLg183.out⟩⟩)
    rintro ⟨v168, v172, v178, v182, g183⟩ w184 ⟨hHeld, hF0_, hF1_, hF2_, hF3_, hF4_⟩
    dsimp only at hF0_ hF1_ hF2_ hF3_ hF4_
    obtain ⟨A165, c166, hv_, hl_, hf_⟩ := hF0_; have CR167 := Aside0.mk (And.intro hf_ hl_); clear hf_ hl_; subst hv_
    obtain ⟨A169, c170, hv_, hl_, hf_⟩ := hF1_; have CR171 := Aside0.mk (And.intro hf_ hl_); clear hf_ hl_; subst hv_
    obtain ⟨A175, c176, hv_, hl_, hf_⟩ := hF2_; have CR177 := Aside0.mk (And.intro hf_ hl_); clear hf_ hl_; subst hv_
    obtain ⟨A179, c180, hv_, hl_, hf_⟩ := hF3_; have CR181 := Aside0.mk (And.intro hf_ hl_); clear hf_ hl_; subst hv_
    have HG := Aside0.mk hF4_; clear hF4_
    refine norm_ (a' := ?_) ?_ ?_; rotate_left
    ·simp only [putAll, Act.put, List.setIfInBounds_toArray, List.set_cons_zero, List.set_cons_succ]; rfl
    refine one_ (i := 10) (N := none) #[true, true, true, true, true, true, true, true, true, true, true, false] rfl rfl (one_of HT_.out (by kernel_rfl)) (by decide) (fun K hK => ?_)
    have y0 : w184.cell? ⟨g183, 0, none⟩ = some (.slice none 0 0) := (blk_cell HG.out.1 0).trans rfl; have u0 := blk_frozen HG.out.1 0; have y1 : w184.cell? ⟨g183, 1, none⟩ = some (.slice none 0 0) := (blk_cell HG.out.1 1).trans rfl; have u1 := blk_frozen HG.out.1 1
    refine skip_ (w1 := ?_) (by rfl) rfl ?_ ?_; rotate_left
    ·go_simp; rfl
    have HB2 := Aside0.mk (hf_st2 hHeld HG.out.2 (.slice A175 t173_1.length c176) (.slice A179 t173_2.length c180))
    have CR167 := Aside0.mk (And.intro (hf_F5a CR167.out.1 (.slice A175 t173_1.length c176) (.slice A179 t173_2.length c180)) CR167.out.2)
    have CR171 := Aside0.mk (And.intro (hf_F5a CR171.out.1 (.slice A175 t173_1.length c176) (.slice A179 t173_2.length c180)) CR171.out.2)
    have CR177 := Aside0.mk (And.intro (hf_F5a CR177.out.1 (.slice A175 t173_1.length c176) (.slice A179 t173_2.length c180)) CR177.out.2)
    have CR181 := Aside0.mk (And.intro (hf_F5a CR181.out.1 (.slice A175 t173_1.length c176) (.slice A179 t173_2.length c180)) CR181.out.2)
    have HG := Aside0.mk (And.intro (hf_z2 HG.out.1 (.slice A175 t173_1.length c176) (.slice A179 t173_2.length c180)) HG.out.2)
    refine hK.out _ _ HB2.out (fun hHeld => ?_); clear hK K HB2 y0 u0 y1 u1
    generalize (w184.setCell _ _).setCell _ _ = w185 at hHeld HG CR167 CR171 CR177 CR181 ⊢
    refine pure_ (i := 11) (N := some 13) (v := ?_) (a' := ?_) #[true, true, true, true, true, true, true, true, true, true, true, true] rfl rfl (any_of HT_.out (by kernel_rfl)) (fun _ _ _ h => h) (Or.inl ⟨by rfl, ?_⟩) ?_ ?_; rotate_left
    ·intro w'; go_simp; with_reducible rfl
    rotate_left
    ·simp only [Act.put, List.setIfInBounds_toArray, List.set_cons_zero, List.set_cons_succ, i64_w, i32_w]; rfl
    refine done_ (done_of HT_.out (by kernel_rfl)) ?_
    have CR167 := Aside0.mk (And.intro (Kd.F_now CR167.out.1) CR167.out.2)
    have CR171 := Aside0.mk (And.intro (Kd.F_now CR171.out.1) CR171.out.2)
    have CR177 := Aside0.mk (And.intro (Kd.F_now CR177.out.1) CR177.out.2)
    have CR181 := Aside0.mk (And.intro (Kd.F_now CR181.out.1) CR181.out.2)
    have CRa0_0 := Aside0.mk (And.intro (Kd.C_below CRa0_0.out.1 hHeld) CRa0_0.out.2)
    have CRa0_1 := Aside0.mk (And.intro (Kd.C_below CRa0_1.out.1 hHeld) CRa0_1.out.2)
    have CR143 := Aside0.mk (And.intro (Kd.C_below CR143.out.1 hHeld) CR143.out.2)
    have CR147 := Aside0.mk (And.intro (Kd.C_below CR147.out.1 hHeld) CR147.out.2)
    have CR153 := Aside0.mk (And.intro (Kd.C_below CR153.out.1 hHeld) CR153.out.2)
    have CR157 := Aside0.mk (And.intro (Kd.C_below CR157.out.1 hHeld) CR157.out.2)
    have HS := Aside0.mk (BxS.add HS.out hHeld HG.out.1 HG.out.2)
    clear hHeld HG
    have z0_0 : w185.cell? ⟨w.heap.size, 0, none⟩ = some (.slice A0_0 l0_0.length c0_0) := (blk_cell (HS.out.at_ 2 rfl) 0).trans rfl; have z0_1 : w185.cell? ⟨w.heap.size, 1, none⟩ = some (.slice A0_1 l0_1.length c0_1) := (blk_cell (HS.out.at_ 2 rfl) 1).trans rfl; have z1_0 : w185.cell? ⟨g159, 0, none⟩ = some (.slice A151 t149_1.length c152) := (blk_cell (HS.out.at_ 1 rfl) 0).trans rfl; have z1_1 : w185.cell? ⟨g159, 1, none⟩ = some (.slice A155 t149_2.length c156) := (blk_cell (HS.out.at_ 1 rfl) 1).trans rfl; have z2_0 : w185.cell? ⟨g183, 0, none⟩ = some (.slice A175 t173_1.length c176) := (blk_cell (HS.out.at_ 0 rfl) 0).trans rfl; have z2_1 : w185.cell? ⟨g183, 1, none⟩ = some (.slice A179 t173_2.length c180) := (blk_cell (HS.out.at_ 0 rfl) 1).trans rfl
    obtain ⟨⟨t187_1, t187_2⟩, q_, h⟩ := Option.bind_eq_some_iff.1 h; have E188 := Aside0.mk q_; clear q_; (try dsimp only at h)
    obtain ⟨⟨t197_1, t197_2, t197_3⟩, q_, h⟩ := Option.bind_eq_some_iff.1 h; have E198 := Aside0.mk q_; clear q_; (try dsimp only at h)
    go_upto_region 8 with (fail)
    refine start_ (n := 15) (S := fun W' => Below w185.drew.heap.size w185.drew W') (ds := []) #[false, false, false, false, false, false, false, false, false, false, false, false, false, false, false] (by kernel_rfl) rfl rfl (Below.refl _ _) (fun hHeld => ?_)
    refine with_tabW triglyphlaw06_PickRotates.tab8 triglyphlaw06_PickRotates.bits8 (fun HT_ HW_ => ?_)
    (try clear z0_0 z0_1 z1_0 z1_1 z2_0 z2_1); have HS := Aside0.mk (HS.out.step (below_drew (Below.refl _ _)))
    have CRa0_0 := Aside0.mk (And.intro (Kd.C_below CRa0_0.out.1 (below_drew (Below.refl _ _))) CRa0_0.out.2)
    have CRa0_1 := Aside0.mk (And.intro (Kd.C_below CRa0_1.out.1 (below_drew (Below.refl _ _))) CRa0_1.out.2)
    have CR143 := Aside0.mk (And.intro (Kd.C_below CR143.out.1 (below_drew (Below.refl _ _))) CR143.out.2)
    have CR147 := Aside0.mk (And.intro (Kd.C_below CR147.out.1 (below_drew (Below.refl _ _))) CR147.out.2)
    have CR153 := Aside0.mk (And.intro (Kd.C_below CR153.out.1 (below_drew (Below.refl _ _))) CR153.out.2)
    have CR157 := Aside0.mk (And.intro (Kd.C_below CR157.out.1 (below_drew (Below.refl _ _))) CR157.out.2)
    have CR167 := Aside0.mk (And.intro (Kd.C_below CR167.out.1 (below_drew (Below.refl _ _))) CR167.out.2)
    have CR171 := Aside0.mk (And.intro (Kd.C_below CR171.out.1 (below_drew (Below.refl _ _))) CR171.out.2)
    have CR177 := Aside0.mk (And.intro (Kd.C_below CR177.out.1 (below_drew (Below.refl _ _))) CR177.out.2)
    have CR181 := Aside0.mk (And.intro (Kd.C_below CR181.out.1 (below_drew (Below.refl _ _))) CR181.out.2)
    generalize w185.drew = W186 at HS CRa0_0 CRa0_1 CR143 CR147 CR153 CR157 CR167 CR171 CR177 CR181 hHeld ⊢
    refine pure_ (i := 0) (N := some 48) (v := ?_) (a' := ?_) #[true, false, false, false, false, false, false, false, false, false, false, false, false, false, false] rfl rfl (any_of HT_.out (by kernel_rfl)) (fun _ _ _ h => h) (Or.inl ⟨by rfl, ?_⟩) ?_ ?_; rotate_left
    ·intro w'; go_simp; with_reducible rfl
    rotate_left
    ·simp only [Act.put, List.setIfInBounds_toArray, List.set_cons_zero, List.set_cons_succ, i64_w, i32_w]; rfl
    refine pure_ (i := 1) (N := some 49) (v := ?_) (a' := ?_) #[true, true, false, false, false, false, false, false, false, false, false, false, false, false, false] rfl rfl (any_of HT_.out (by kernel_rfl)) (fun _ _ _ h => h) (Or.inl ⟨by rfl, ?_⟩) ?_ ?_; rotate_left
    ·intro w'; go_simp; with_reducible rfl
    rotate_left
    ·simp only [Act.put, List.setIfInBounds_toArray, List.set_cons_zero, List.set_cons_succ, i64_w, i32_w]; rfl
    refine pure_ (i := 2) (N := some 50) (v := ?_) (a' := ?_) #[true, true, true, false, false, false, false, false, false, false, false, false, false, false, false] rfl rfl (any_of HT_.out (by kernel_rfl)) (fun _ _ _ h => h) (Or.inl ⟨by rfl, ?_⟩) ?_ ?_; rotate_left
    ·intro w'; go_simp; with_reducible rfl
    rotate_left
    ·simp only [Act.put, List.setIfInBounds_toArray, List.set_cons_zero, List.set_cons_succ, i64_w, i32_w]; rfl
    refine pure_ (i := 3) (N := some 51) (v := ?_) (a' := ?_) #[true, true, true, true, false, false, false, false, false, false, false, false, false, false, false] rfl rfl (any_of HT_.out (by kernel_rfl)) (fun _ _ _ h => h) (Or.inl ⟨by rfl, ?_⟩) ?_ ?_; rotate_left
    ·intro w'; go_simp; with_reducible rfl
    rotate_left
    ·simp only [Act.put, List.setIfInBounds_toArray, List.set_cons_zero, List.set_cons_succ, i64_w, i32_w]; rfl
    refine pure_ (i := 4) (N := some 52) (v := ?_) (a' := ?_) #[true, true, true, true, true, false, false, false, false, false, false, false, false, false, false] rfl rfl (any_of HT_.out (by kernel_rfl)) (fun _ _ _ h => h) (Or.inl ⟨by rfl, ?_⟩) ?_ ?_; rotate_left
    ·intro w'; go_simp; with_reducible rfl
    rotate_left
    ·simp only [Act.put, List.setIfInBounds_toArray, List.set_cons_zero, List.set_cons_succ, i64_w, i32_w]; rfl
    refine pure_ (i := 5) (N := some 53) (v := ?_) (a' := ?_) #[true, true, true, true, true, true, false, false, false, false, false, false, false, false, false] rfl rfl (any_of HT_.out (by kernel_rfl)) (fun _ _ _ h => h) (Or.inl ⟨by rfl, ?_⟩) ?_ ?_; rotate_left
    ·intro w'; go_simp; with_reducible rfl
    rotate_left
    ·simp only [Act.put, List.setIfInBounds_toArray, List.set_cons_zero, List.set_cons_succ, i64_w, i32_w]; rfl
    refine take_ (i := 7) (N := some 55) (v := ?_) (a' := ?_) #[true, true, true, true, true, true, false, true, false, false, false, false, false, false, false] rfl rfl (take_ofW HT_.out HW_.out (by kernel_rfl)) (fun _ _ _ h => h) (Or.inl ⟨by rfl, ?_⟩) hHeld ?_ ?_; rotate_left
    ·intro w' s0; have y0 : w'.cell? ⟨w.heap.size, 0, none⟩ = some (.slice A0_0 l0_0.length c0_0) := (blk_cell ((HS.out.step s0).at_ 2 rfl) 0).trans rfl; have y1 : w'.cell? ⟨w.heap.size, 1, none⟩ = some (.slice A0_1 l0_1.length c0_1) := (blk_cell ((HS.out.step s0).at_ 2 rfl) 1).trans rfl; go_simp; with_reducible rfl
    rotate_left
    ·simp only [Act.put, List.setIfInBounds_toArray, List.set_cons_zero, List.set_cons_succ, i64_w, i32_w]; rfl
    refine join_ (σ := Value × Value × Value × Value × Nat) 2 #[true, true, true, true, true, true, true, true, true, true, true, true, true, false, false] (fun s_ => [(54, .agg #[s_.1, s_.2.1]), (56, .tuple #[.agg #[s_.2.2.1, s_.2.2.2.1], .int .i64 t197_3]), (14, .pointer (some ⟨s_.2.2.2.2, 0, none⟩)), (47, .tuple #[.agg #[s_.2.2.1, s_.2.2.2.1], .int .i64 t197_3]), (57, .agg #[s_.2.2.1, s_.2.2.2.1]), (58, .int .i64 t197_3)]) (fun s_ w' => Below W186.heap.size W186 w' ∧ (∃ A_ c_, s_.1 = .slice A_ (t187_1).length c_ ∧ (t187_1).length ≤ c_ ∧ Kd.F (Kd.int .i64) w' (fun k_ => k_ ≠ s_.2.2.2.2) A_ (t187_1).length t187_1) ∧ (∃ A_ c_, s_.2.1 = .slice A_ (t187_2).length c_ ∧ (t187_2).length ≤ c_ ∧ Kd.F k45 w' (fun k_ => k_ ≠ s_.2.2.2.2) A_ (t187_2).length t187_2) ∧ (∃ A_ c_, s_.2.2.1 = .slice A_ (t197_1).length c_ ∧ (t197_1).length ≤ c_ ∧ Kd.F (Kd.int .i64) w' (fun k_ => k_ ≠ s_.2.2.2.2) A_ (t197_1).length t197_1) ∧ (∃ A_ c_, s_.2.2.2.1 = .slice A_ (t197_2).length c_ ∧ (t197_2).length ≤ c_ ∧ Kd.F k45 w' (fun k_ => k_ ≠ s_.2.2.2.2) A_ (t197_2).length t197_2) ∧ (w'.heap[s_.2.2.2.2]? = some (.cells #[.slice none 0 0, .slice none 0 0] 25 (0, 0)) ∧ W186.heap.size ≤ s_.2.2.2.2)) ?_ ?_; rotate_left
    ·intro hCont
     refine two_ (i := 6) (j := 12) (Ni := some 54) (Nj := some 14) #[true, true, true, true, true, true, true, true, false, false, false, false, false, false, false] #[true, true, true, true, true, true, false, true, false, false, false, false, true, false, false] rfl rfl rfl rfl (two_of HT_.out (by kernel_rfl)) (by decide) (by decide) (fun K hK => ?_) (fun K hK => ?_)
     ·skip
      refine goes_ Try.func16 (by kernel_rfl) rfl #[.int .i64 ((wrap64 ((wrap64 a1) + (wrap64 a2))))] (by rfl) rfl rfl (by first | rfl | (simp only [List.map_toArray, List.map_cons, List.map_nil]; rfl)) ?_
      refine (triglyphref03_Atom.calls ((wrap64 ((wrap64 a1) + (wrap64 a2)))) _ _ _ E188.out).mono ?_
      rintro e w1 ⟨v192, v196, rfl, hv192, hv196, hb⟩
      refine ⟨_, rfl, ?_⟩
      obtain ⟨A189, c190, hv_⟩ := Kd.R_slice hv192; subst hv_; have CR191 := Aside0.mk (And.intro (hf_F1 hv192) (Kd.R_reads' hv192).2.1); clear hv192
      obtain ⟨A193, c194, hv_⟩ := Kd.R_slice hv196; subst hv_; have CR195 := Aside0.mk (And.intro (hf_F1 hv196) (Kd.R_reads' hv196).2.1); clear hv196
      have hHeld := hHeld.trans (hb.mono hHeld.size); clear hb
      refine hK.out _ _ hHeld (fun hHeld => ?_); clear hK K
      refine norm_ (a' := ?_) ?_ ?_; rotate_left
      ·show Act.put _ (some 54) _ = _
       simp only [Act.put, List.setIfInBounds_toArray, List.set_cons_zero, List.set_cons_succ, i64_w, i32_w]; rfl
      refine two_ (i := 8) (j := 12) (Ni := some 56) (Nj := some 14) #[true, true, true, true, true, true, true, true, true, false, false, false, false, false, false] #[true, true, true, true, true, true, true, true, false, false, false, false, true, false, false] rfl rfl rfl rfl (two_of HT_.out (by kernel_rfl)) (by decide) (by decide) (fun K hK => ?_) (fun K hK => ?_)
      ·skip
       refine goes_ Try.func11 (by kernel_rfl) rfl #[.int .i64 44, .agg #[.slice A189 t187_1.length c190, .slice A193 t187_2.length c194], .agg #[.slice A0_0 l0_0.length c0_0, .slice A0_1 l0_1.length c0_1]] (by rfl) rfl rfl (by first | rfl | (simp only [List.map_toArray, List.map_cons, List.map_nil]; rfl)) ?_
       refine (pick_Dy.calls k 44 _ A189 c190 t187_1 _ A193 c194 t187_2 _ A0_0 c0_0 l0_0 _ A0_1 c0_1 l0_1 _ _ _ _ (Kd.V_mk CR191.out.2 CR191.out.1) (Kd.V_mk CR195.out.2 CR195.out.1) (Kd.V_mk CRa0_0.out.2 (hf_F6 (Kd.C_F (Kd.heap_int .i64) CRa0_0.out.1) hHeld)) (Kd.V_mk CRa0_1.out.2 (hf_F6 (Kd.C_F k45_heap CRa0_1.out.1) hHeld)) E198.out).mono ?_
       rintro e w1 ⟨v202, v206, rfl, hv202, hv206, hb⟩
       refine ⟨_, rfl, ?_⟩
       obtain ⟨A199, c200, hv_, hl_, hf_⟩ := hv202; subst hv_; have CR201 := Aside0.mk (And.intro (Kd.F_mono (ok' := fun _ => True) hf_ (fun _ _ => trivial)) hl_); clear hf_ hl_
       obtain ⟨A203, c204, hv_, hl_, hf_⟩ := hv206; subst hv_; have CR205 := Aside0.mk (And.intro (Kd.F_mono (ok' := fun _ => True) hf_ (fun _ _ => trivial)) hl_); clear hf_ hl_
       have CR191 := Aside0.mk (And.intro (hf_F4 CR191.out.1 hb) CR191.out.2)
       have CR195 := Aside0.mk (And.intro (hf_F4 CR195.out.1 hb) CR195.out.2)
       have hHeld := hHeld.trans (hb.mono hHeld.size); clear hb
       refine hK.out _ _ hHeld (fun hHeld => ?_); clear hK K
       refine norm_ (a' := ?_) ?_ ?_; rotate_left
       ·show Act.put _ (some 56) _ = _
        simp only [Act.put, List.setIfInBounds_toArray, List.set_cons_zero, List.set_cons_succ, i64_w, i32_w]; rfl
       refine pure_ (i := 9) (N := some 47) (v := ?_) (a' := ?_) #[true, true, true, true, true, true, true, true, true, true, false, false, false, false, false] rfl rfl (any_of HT_.out (by kernel_rfl)) (fun _ _ _ h => h) (Or.inl ⟨by rfl, ?_⟩) ?_ ?_; rotate_left
       ·intro w'; go_simp; with_reducible rfl
       rotate_left
       ·simp only [Act.put, List.setIfInBounds_toArray, List.set_cons_zero, List.set_cons_succ, i64_w, i32_w]; rfl
       refine pure_ (i := 10) (N := some 57) (v := ?_) (a' := ?_) #[true, true, true, true, true, true, true, true, true, true, true, false, false, false, false] rfl rfl (any_of HT_.out (by kernel_rfl)) (fun _ _ _ h => h) (Or.inl ⟨by rfl, ?_⟩) ?_ ?_; rotate_left
       ·intro w'; go_simp; with_reducible rfl
       rotate_left
       ·simp only [Act.put, List.setIfInBounds_toArray, List.set_cons_zero, List.set_cons_succ, i64_w, i32_w]; rfl
       refine pure_ (i := 11) (N := some 58) (v := ?_) (a' := ?_) #[true, true, true, true, true, true, true, true, true, true, true, true, false, false, false] rfl rfl (any_of HT_.out (by kernel_rfl)) (fun _ _ _ h => h) (Or.inl ⟨by rfl, ?_⟩) ?_ ?_; rotate_left
       ·intro w'; go_simp; with_reducible rfl
       rotate_left
       ·simp only [Act.put, List.setIfInBounds_toArray, List.set_cons_zero, List.set_cons_succ, i64_w, i32_w]; rfl
       refine one_ (i := 12) (N := some 14) #[true, true, true, true, true, true, true, true, true, true, true, true, true, false, false] rfl rfl (one_of HT_.out (by kernel_rfl)) (by decide) (fun K hK => ?_)
       refine box_step ?hg (N := 14) ?hd (cs := #[.slice none 0 0, .slice none 0 0]) (t := 25) ?hr ?_; (case hd => rfl); (case hg => rfl); (case hr => first | (go_simp; done) | (go_simp; rfl))
       intro g207 hg w1 hbox hb
       have HGg207 := Aside0.mk hbox; have HLg207 : Aside0 (W186.heap.size ≤ g207) := ⟨Nat.le_trans hHeld.size (Nat.le_of_eq hg.symm)⟩; have HM : Aside0 (g207 < w1.heap.size) := ⟨blk_lt hbox⟩; clear hbox
       have CR191 := Aside0.mk (And.intro (hf_F3 hg CR191.out.1 hb) CR191.out.2)
       have CR195 := Aside0.mk (And.intro (hf_F3 hg CR195.out.1 hb) CR195.out.2)
       have CR201 := Aside0.mk (And.intro (hf_F3 hg CR201.out.1 hb) CR201.out.2)
       have CR205 := Aside0.mk (And.intro (hf_F3 hg CR205.out.1 hb) CR205.out.2)
       clear hg
       have hHeld := hHeld.trans (hb.mono hHeld.size); clear hb
       refine hK.out _ _ hHeld (fun hHeld => ?_); clear hK K
       refine norm_ (a' := ?_) ?_ ?_; rotate_left
       ·show Act.put _ (some 14) _ = _
        simp only [Act.put, List.setIfInBounds_toArray, List.set_cons_zero, List.set_cons_succ, i64_w, i32_w]; rfl
       exact norm_ (by simp only [putAll, Act.put, List.setIfInBounds_toArray, List.set_cons_zero, List.set_cons_succ]) (hCont (.slice A189 t187_1.length c190, .slice A193 t187_2.length c194, .slice A199 t197_1.length c200, .slice A203 t197_2.length c204, g207) _ ⟨hHeld, ⟨_, _, rfl, CR191.out.2, CR191.out.1⟩, ⟨_, _, rfl, CR195.out.2, CR195.out.1⟩, ⟨_, _, rfl, CR201.out.2, CR201.out.1⟩, ⟨_, _, rfl, CR205.out.2, CR205.out.1⟩, ⟨HGg207.out, HLg207.out⟩⟩)
      ·skip
       refine box_step ?hg (N := 14) ?hd (cs := #[.slice none 0 0, .slice none 0 0]) (t := 25) ?hr ?_; (case hd => rfl); (case hg => rfl); (case hr => first | (go_simp; done) | (go_simp; rfl))
       intro g207 hg w1 hbox hb
       have HGg207 := Aside0.mk hbox; have HLg207 : Aside0 (W186.heap.size ≤ g207) := ⟨Nat.le_trans hHeld.size (Nat.le_of_eq hg.symm)⟩; have HM : Aside0 (g207 < w1.heap.size) := ⟨blk_lt hbox⟩; clear hbox
       have CR191 := Aside0.mk (And.intro (hf_F3 hg CR191.out.1 hb) CR191.out.2)
       have CR195 := Aside0.mk (And.intro (hf_F3 hg CR195.out.1 hb) CR195.out.2)
       clear hg
       have hHeld := hHeld.trans (hb.mono hHeld.size); clear hb
       refine hK.out _ _ hHeld (fun hHeld => ?_); clear hK K
       refine norm_ (a' := ?_) ?_ ?_; rotate_left
       ·show Act.put _ (some 14) _ = _
        simp only [Act.put, List.setIfInBounds_toArray, List.set_cons_zero, List.set_cons_succ, i64_w, i32_w]; rfl
       refine one_ (i := 8) (N := some 56) #[true, true, true, true, true, true, true, true, true, false, false, false, true, false, false] rfl rfl (one_of HT_.out (by kernel_rfl)) (by decide) (fun K hK => ?_)
       refine goes_ Try.func11 (by kernel_rfl) rfl #[.int .i64 44, .agg #[.slice A189 t187_1.length c190, .slice A193 t187_2.length c194], .agg #[.slice A0_0 l0_0.length c0_0, .slice A0_1 l0_1.length c0_1]] (by rfl) rfl rfl (by first | rfl | (simp only [List.map_toArray, List.map_cons, List.map_nil]; rfl)) ?_
       refine (pick_Dy.calls k 44 _ A189 c190 t187_1 _ A193 c194 t187_2 _ A0_0 c0_0 l0_0 _ A0_1 c0_1 l0_1 _ _ _ _ (Kd.V_mk CR191.out.2 CR191.out.1) (Kd.V_mk CR195.out.2 CR195.out.1) (Kd.V_mk CRa0_0.out.2 (hf_F6 (Kd.C_F (Kd.heap_int .i64) CRa0_0.out.1) hHeld)) (Kd.V_mk CRa0_1.out.2 (hf_F6 (Kd.C_F k45_heap CRa0_1.out.1) hHeld)) E198.out).mono ?_
       rintro e w1 ⟨v202, v206, rfl, hv202, hv206, hb⟩
       refine ⟨_, rfl, ?_⟩
       obtain ⟨A199, c200, hv_, hl_, hf_⟩ := hv202; subst hv_; have CR201 := Aside0.mk (And.intro (Kd.F_mono (ok' := fun k_ => k_ ≠ g207) hf_ (fun k hk => by (try dsimp only at hk); have h1 := HLg207.out; have h2 := HM.out; omega)) hl_); clear hf_ hl_
       obtain ⟨A203, c204, hv_, hl_, hf_⟩ := hv206; subst hv_; have CR205 := Aside0.mk (And.intro (Kd.F_mono (ok' := fun k_ => k_ ≠ g207) hf_ (fun k hk => by (try dsimp only at hk); have h1 := HLg207.out; have h2 := HM.out; omega)) hl_); clear hf_ hl_
       have CR191 := Aside0.mk (And.intro (hf_F4 CR191.out.1 hb) CR191.out.2)
       have CR195 := Aside0.mk (And.intro (hf_F4 CR195.out.1 hb) CR195.out.2)
       have HGg207 := Aside0.mk (blk_below HGg207.out hb); have HM := Aside0.mk (Nat.lt_of_lt_of_le HM.out (Below.size hb))
       have hHeld := hHeld.trans (hb.mono hHeld.size); clear hb
       refine hK.out _ _ hHeld (fun hHeld => ?_); clear hK K
       refine norm_ (a' := ?_) ?_ ?_; rotate_left
       ·show Act.put _ (some 56) _ = _
        simp only [Act.put, List.setIfInBounds_toArray, List.set_cons_zero, List.set_cons_succ, i64_w, i32_w]; rfl
       refine pure_ (i := 9) (N := some 47) (v := ?_) (a' := ?_) #[true, true, true, true, true, true, true, true, true, true, false, false, true, false, false] rfl rfl (any_of HT_.out (by kernel_rfl)) (fun _ _ _ h => h) (Or.inl ⟨by rfl, ?_⟩) ?_ ?_; rotate_left
       ·intro w'; go_simp; with_reducible rfl
       rotate_left
       ·simp only [Act.put, List.setIfInBounds_toArray, List.set_cons_zero, List.set_cons_succ, i64_w, i32_w]; rfl
       refine pure_ (i := 10) (N := some 57) (v := ?_) (a' := ?_) #[true, true, true, true, true, true, true, true, true, true, true, false, true, false, false] rfl rfl (any_of HT_.out (by kernel_rfl)) (fun _ _ _ h => h) (Or.inl ⟨by rfl, ?_⟩) ?_ ?_; rotate_left
       ·intro w'; go_simp; with_reducible rfl
       rotate_left
       ·simp only [Act.put, List.setIfInBounds_toArray, List.set_cons_zero, List.set_cons_succ, i64_w, i32_w]; rfl
       refine pure_ (i := 11) (N := some 58) (v := ?_) (a' := ?_) #[true, true, true, true, true, true, true, true, true, true, true, true, true, false, false] rfl rfl (any_of HT_.out (by kernel_rfl)) (fun _ _ _ h => h) (Or.inl ⟨by rfl, ?_⟩) ?_ ?_; rotate_left
       ·intro w'; go_simp; with_reducible rfl
       rotate_left
       ·simp only [Act.put, List.setIfInBounds_toArray, List.set_cons_zero, List.set_cons_succ, i64_w, i32_w]; rfl
       exact norm_ (by simp only [putAll, Act.put, List.setIfInBounds_toArray, List.set_cons_zero, List.set_cons_succ]) (hCont (.slice A189 t187_1.length c190, .slice A193 t187_2.length c194, .slice A199 t197_1.length c200, .slice A203 t197_2.length c204, g207) _ ⟨hHeld, ⟨_, _, rfl, CR191.out.2, CR191.out.1⟩, ⟨_, _, rfl, CR195.out.2, CR195.out.1⟩, ⟨_, _, rfl, CR201.out.2, CR201.out.1⟩, ⟨_, _, rfl, CR205.out.2, CR205.out.1⟩, ⟨HGg207.out, HLg207.out⟩⟩)
     ·skip
      refine box_step ?hg (N := 14) ?hd (cs := #[.slice none 0 0, .slice none 0 0]) (t := 25) ?hr ?_; (case hd => rfl); (case hg => rfl); (case hr => first | (go_simp; done) | (go_simp; rfl))
      intro g207 hg w1 hbox hb
      have HGg207 := Aside0.mk hbox; have HLg207 : Aside0 (W186.heap.size ≤ g207) := ⟨Nat.le_trans hHeld.size (Nat.le_of_eq hg.symm)⟩; have HM : Aside0 (g207 < w1.heap.size) := ⟨blk_lt hbox⟩; clear hbox
      clear hg
      have hHeld := hHeld.trans (hb.mono hHeld.size); clear hb
      refine hK.out _ _ hHeld (fun hHeld => ?_); clear hK K
      refine norm_ (a' := ?_) ?_ ?_; rotate_left
      ·show Act.put _ (some 14) _ = _
       simp only [Act.put, List.setIfInBounds_toArray, List.set_cons_zero, List.set_cons_succ, i64_w, i32_w]; rfl
      refine one_ (i := 6) (N := some 54) #[true, true, true, true, true, true, true, true, false, false, false, false, true, false, false] rfl rfl (one_of HT_.out (by kernel_rfl)) (by decide) (fun K hK => ?_)
      refine goes_ Try.func16 (by kernel_rfl) rfl #[.int .i64 ((wrap64 ((wrap64 a1) + (wrap64 a2))))] (by rfl) rfl rfl (by first | rfl | (simp only [List.map_toArray, List.map_cons, List.map_nil]; rfl)) ?_
      refine (triglyphref03_Atom.calls ((wrap64 ((wrap64 a1) + (wrap64 a2)))) _ _ _ E188.out).mono ?_
      rintro e w1 ⟨v192, v196, rfl, hv192, hv196, hb⟩
      refine ⟨_, rfl, ?_⟩
      obtain ⟨A189, c190, hv_⟩ := Kd.R_slice hv192; subst hv_; have CR191 := Aside0.mk (And.intro (hf_F2 hv192 HM.out) (Kd.R_reads' hv192).2.1); clear hv192
      obtain ⟨A193, c194, hv_⟩ := Kd.R_slice hv196; subst hv_; have CR195 := Aside0.mk (And.intro (hf_F2 hv196 HM.out) (Kd.R_reads' hv196).2.1); clear hv196
      have HGg207 := Aside0.mk (blk_below HGg207.out hb); have HM := Aside0.mk (Nat.lt_of_lt_of_le HM.out (Below.size hb))
      have hHeld := hHeld.trans (hb.mono hHeld.size); clear hb
      refine hK.out _ _ hHeld (fun hHeld => ?_); clear hK K
      refine norm_ (a' := ?_) ?_ ?_; rotate_left
      ·show Act.put _ (some 54) _ = _
       simp only [Act.put, List.setIfInBounds_toArray, List.set_cons_zero, List.set_cons_succ, i64_w, i32_w]; rfl
      refine one_ (i := 8) (N := some 56) #[true, true, true, true, true, true, true, true, true, false, false, false, true, false, false] rfl rfl (one_of HT_.out (by kernel_rfl)) (by decide) (fun K hK => ?_)
      refine goes_ Try.func11 (by kernel_rfl) rfl #[.int .i64 44, .agg #[.slice A189 t187_1.length c190, .slice A193 t187_2.length c194], .agg #[.slice A0_0 l0_0.length c0_0, .slice A0_1 l0_1.length c0_1]] (by rfl) rfl rfl (by first | rfl | (simp only [List.map_toArray, List.map_cons, List.map_nil]; rfl)) ?_
      refine (pick_Dy.calls k 44 _ A189 c190 t187_1 _ A193 c194 t187_2 _ A0_0 c0_0 l0_0 _ A0_1 c0_1 l0_1 _ _ _ _ (Kd.V_mk CR191.out.2 CR191.out.1) (Kd.V_mk CR195.out.2 CR195.out.1) (Kd.V_mk CRa0_0.out.2 (hf_F6 (Kd.C_F (Kd.heap_int .i64) CRa0_0.out.1) hHeld)) (Kd.V_mk CRa0_1.out.2 (hf_F6 (Kd.C_F k45_heap CRa0_1.out.1) hHeld)) E198.out).mono ?_
      rintro e w1 ⟨v202, v206, rfl, hv202, hv206, hb⟩
      refine ⟨_, rfl, ?_⟩
      obtain ⟨A199, c200, hv_, hl_, hf_⟩ := hv202; subst hv_; have CR201 := Aside0.mk (And.intro (Kd.F_mono (ok' := fun k_ => k_ ≠ g207) hf_ (fun k hk => by (try dsimp only at hk); have h1 := HLg207.out; have h2 := HM.out; omega)) hl_); clear hf_ hl_
      obtain ⟨A203, c204, hv_, hl_, hf_⟩ := hv206; subst hv_; have CR205 := Aside0.mk (And.intro (Kd.F_mono (ok' := fun k_ => k_ ≠ g207) hf_ (fun k hk => by (try dsimp only at hk); have h1 := HLg207.out; have h2 := HM.out; omega)) hl_); clear hf_ hl_
      have HGg207 := Aside0.mk (blk_below HGg207.out hb); have HM := Aside0.mk (Nat.lt_of_lt_of_le HM.out (Below.size hb))
      have CR191 := Aside0.mk (And.intro (hf_F4 CR191.out.1 hb) CR191.out.2)
      have CR195 := Aside0.mk (And.intro (hf_F4 CR195.out.1 hb) CR195.out.2)
      have hHeld := hHeld.trans (hb.mono hHeld.size); clear hb
      refine hK.out _ _ hHeld (fun hHeld => ?_); clear hK K
      refine norm_ (a' := ?_) ?_ ?_; rotate_left
      ·show Act.put _ (some 56) _ = _
       simp only [Act.put, List.setIfInBounds_toArray, List.set_cons_zero, List.set_cons_succ, i64_w, i32_w]; rfl
      refine pure_ (i := 9) (N := some 47) (v := ?_) (a' := ?_) #[true, true, true, true, true, true, true, true, true, true, false, false, true, false, false] rfl rfl (any_of HT_.out (by kernel_rfl)) (fun _ _ _ h => h) (Or.inl ⟨by rfl, ?_⟩) ?_ ?_; rotate_left
      ·intro w'; go_simp; with_reducible rfl
      rotate_left
      ·simp only [Act.put, List.setIfInBounds_toArray, List.set_cons_zero, List.set_cons_succ, i64_w, i32_w]; rfl
      refine pure_ (i := 10) (N := some 57) (v := ?_) (a' := ?_) #[true, true, true, true, true, true, true, true, true, true, true, false, true, false, false] rfl rfl (any_of HT_.out (by kernel_rfl)) (fun _ _ _ h => h) (Or.inl ⟨by rfl, ?_⟩) ?_ ?_; rotate_left
      ·intro w'; go_simp; with_reducible rfl
      rotate_left
      ·simp only [Act.put, List.setIfInBounds_toArray, List.set_cons_zero, List.set_cons_succ, i64_w, i32_w]; rfl
      refine pure_ (i := 11) (N := some 58) (v := ?_) (a' := ?_) #[true, true, true, true, true, true, true, true, true, true, true, true, true, false, false] rfl rfl (any_of HT_.out (by kernel_rfl)) (fun _ _ _ h => h) (Or.inl ⟨by rfl, ?_⟩) ?_ ?_; rotate_left
      ·intro w'; go_simp; with_reducible rfl
      rotate_left
      ·simp only [Act.put, List.setIfInBounds_toArray, List.set_cons_zero, List.set_cons_succ, i64_w, i32_w]; rfl
      exact norm_ (by simp only [putAll, Act.put, List.setIfInBounds_toArray, List.set_cons_zero, List.set_cons_succ]) (hCont (.slice A189 t187_1.length c190, .slice A193 t187_2.length c194, .slice A199 t197_1.length c200, .slice A203 t197_2.length c204, g207) _ ⟨hHeld, ⟨_, _, rfl, CR191.out.2, CR191.out.1⟩, ⟨_, _, rfl, CR195.out.2, CR195.out.1⟩, ⟨_, _, rfl, CR201.out.2, CR201.out.1⟩, ⟨_, _, rfl, CR205.out.2, CR205.out.1⟩, ⟨HGg207.out, HLg207.out⟩⟩)
    rintro ⟨v192, v196, v202, v206, g207⟩ w208 ⟨hHeld, hF0_, hF1_, hF2_, hF3_, hF4_⟩
    dsimp only at hF0_ hF1_ hF2_ hF3_ hF4_
    obtain ⟨A189, c190, hv_, hl_, hf_⟩ := hF0_; have CR191 := Aside0.mk (And.intro hf_ hl_); clear hf_ hl_; subst hv_
    obtain ⟨A193, c194, hv_, hl_, hf_⟩ := hF1_; have CR195 := Aside0.mk (And.intro hf_ hl_); clear hf_ hl_; subst hv_
    obtain ⟨A199, c200, hv_, hl_, hf_⟩ := hF2_; have CR201 := Aside0.mk (And.intro hf_ hl_); clear hf_ hl_; subst hv_
    obtain ⟨A203, c204, hv_, hl_, hf_⟩ := hF3_; have CR205 := Aside0.mk (And.intro hf_ hl_); clear hf_ hl_; subst hv_
    have HG := Aside0.mk hF4_; clear hF4_
    refine norm_ (a' := ?_) ?_ ?_; rotate_left
    ·simp only [putAll, Act.put, List.setIfInBounds_toArray, List.set_cons_zero, List.set_cons_succ]; rfl
    refine one_ (i := 13) (N := none) #[true, true, true, true, true, true, true, true, true, true, true, true, true, true, false] rfl rfl (one_of HT_.out (by kernel_rfl)) (by decide) (fun K hK => ?_)
    have y0 : w208.cell? ⟨g207, 0, none⟩ = some (.slice none 0 0) := (blk_cell HG.out.1 0).trans rfl; have u0 := blk_frozen HG.out.1 0; have y1 : w208.cell? ⟨g207, 1, none⟩ = some (.slice none 0 0) := (blk_cell HG.out.1 1).trans rfl; have u1 := blk_frozen HG.out.1 1
    refine skip_ (w1 := ?_) (by rfl) rfl ?_ ?_; rotate_left
    ·go_simp; rfl
    have HB2 := Aside0.mk (hf_st2 hHeld HG.out.2 (.slice A199 t197_1.length c200) (.slice A203 t197_2.length c204))
    have CR191 := Aside0.mk (And.intro (hf_F5a CR191.out.1 (.slice A199 t197_1.length c200) (.slice A203 t197_2.length c204)) CR191.out.2)
    have CR195 := Aside0.mk (And.intro (hf_F5a CR195.out.1 (.slice A199 t197_1.length c200) (.slice A203 t197_2.length c204)) CR195.out.2)
    have CR201 := Aside0.mk (And.intro (hf_F5a CR201.out.1 (.slice A199 t197_1.length c200) (.slice A203 t197_2.length c204)) CR201.out.2)
    have CR205 := Aside0.mk (And.intro (hf_F5a CR205.out.1 (.slice A199 t197_1.length c200) (.slice A203 t197_2.length c204)) CR205.out.2)
    have HG := Aside0.mk (And.intro (hf_z2 HG.out.1 (.slice A199 t197_1.length c200) (.slice A203 t197_2.length c204)) HG.out.2)
    refine hK.out _ _ HB2.out (fun hHeld => ?_); clear hK K HB2 y0 u0 y1 u1
    generalize (w208.setCell _ _).setCell _ _ = w209 at hHeld HG CR191 CR195 CR201 CR205 ⊢
    refine pure_ (i := 14) (N := some 15) (v := ?_) (a' := ?_) #[true, true, true, true, true, true, true, true, true, true, true, true, true, true, true] rfl rfl (any_of HT_.out (by kernel_rfl)) (fun _ _ _ h => h) (Or.inl ⟨by rfl, ?_⟩) ?_ ?_; rotate_left
    ·intro w'; go_simp; with_reducible rfl
    rotate_left
    ·simp only [Act.put, List.setIfInBounds_toArray, List.set_cons_zero, List.set_cons_succ, i64_w, i32_w]; rfl
    refine done_ (done_of HT_.out (by kernel_rfl)) ?_
    have CR191 := Aside0.mk (And.intro (Kd.F_now CR191.out.1) CR191.out.2)
    have CR195 := Aside0.mk (And.intro (Kd.F_now CR195.out.1) CR195.out.2)
    have CR201 := Aside0.mk (And.intro (Kd.F_now CR201.out.1) CR201.out.2)
    have CR205 := Aside0.mk (And.intro (Kd.F_now CR205.out.1) CR205.out.2)
    have CRa0_0 := Aside0.mk (And.intro (Kd.C_below CRa0_0.out.1 hHeld) CRa0_0.out.2)
    have CRa0_1 := Aside0.mk (And.intro (Kd.C_below CRa0_1.out.1 hHeld) CRa0_1.out.2)
    have CR143 := Aside0.mk (And.intro (Kd.C_below CR143.out.1 hHeld) CR143.out.2)
    have CR147 := Aside0.mk (And.intro (Kd.C_below CR147.out.1 hHeld) CR147.out.2)
    have CR153 := Aside0.mk (And.intro (Kd.C_below CR153.out.1 hHeld) CR153.out.2)
    have CR157 := Aside0.mk (And.intro (Kd.C_below CR157.out.1 hHeld) CR157.out.2)
    have CR167 := Aside0.mk (And.intro (Kd.C_below CR167.out.1 hHeld) CR167.out.2)
    have CR171 := Aside0.mk (And.intro (Kd.C_below CR171.out.1 hHeld) CR171.out.2)
    have CR177 := Aside0.mk (And.intro (Kd.C_below CR177.out.1 hHeld) CR177.out.2)
    have CR181 := Aside0.mk (And.intro (Kd.C_below CR181.out.1 hHeld) CR181.out.2)
    have HS := Aside0.mk (BxS.add HS.out hHeld HG.out.1 HG.out.2)
    clear hHeld HG
    have z0_0 : w209.cell? ⟨w.heap.size, 0, none⟩ = some (.slice A0_0 l0_0.length c0_0) := (blk_cell (HS.out.at_ 3 rfl) 0).trans rfl; have z0_1 : w209.cell? ⟨w.heap.size, 1, none⟩ = some (.slice A0_1 l0_1.length c0_1) := (blk_cell (HS.out.at_ 3 rfl) 1).trans rfl; have z1_0 : w209.cell? ⟨g159, 0, none⟩ = some (.slice A151 t149_1.length c152) := (blk_cell (HS.out.at_ 2 rfl) 0).trans rfl; have z1_1 : w209.cell? ⟨g159, 1, none⟩ = some (.slice A155 t149_2.length c156) := (blk_cell (HS.out.at_ 2 rfl) 1).trans rfl; have z2_0 : w209.cell? ⟨g183, 0, none⟩ = some (.slice A175 t173_1.length c176) := (blk_cell (HS.out.at_ 1 rfl) 0).trans rfl; have z2_1 : w209.cell? ⟨g183, 1, none⟩ = some (.slice A179 t173_2.length c180) := (blk_cell (HS.out.at_ 1 rfl) 1).trans rfl; have z3_0 : w209.cell? ⟨g207, 0, none⟩ = some (.slice A199 t197_1.length c200) := (blk_cell (HS.out.at_ 0 rfl) 0).trans rfl; have z3_1 : w209.cell? ⟨g207, 1, none⟩ = some (.slice A203 t197_2.length c204) := (blk_cell (HS.out.at_ 0 rfl) 1).trans rfl
    by_cases q210 : t149_3 = 0
    ·rw [if_pos q210] at h
     have q210b0 := (bne_eq_false_iff_eq.2 q210 : (t149_3 != 0) = false)
     have Iq210 := Aside0.mk q210
     clear q210
     by_cases q211 : t173_3 = 0
     ·rw [if_pos q211] at h
      have q211b0 := (bne_eq_false_iff_eq.2 q211 : (t173_3 != 0) = false)
      have Iq211 := Aside0.mk q211
      clear q211
      by_cases q212 : t197_3 = 0
      ·rw [if_pos q212] at h
       have q212b0 := (bne_eq_false_iff_eq.2 q212 : (t197_3 != 0) = false)
       have Iq212 := Aside0.mk q212
       clear q212
       obtain ⟨t213, q_, h_⟩ := Option.bind_eq_some_iff.1 h; clear h; have h := h_; clear h_; have E214 := Aside0.mk q_; clear q_
       cases t213 with
       | true =>
        rw [if_pos rfl] at h
        by_cases q216 : (l0_0.length : Int) = 0
        ·rw [if_pos q216] at h
         have q216b0 := (beq_iff_eq.2 q216 : ((l0_0.length : Int) == 0) = true)
         have Iq216 := Aside0.mk q216
         clear q216
         have q217b0 : (t149_3 == 0) = true := by have Iq210 := Iq210.out; exact beq_iff_eq.2 (by omega)
         have q218b0 : (t173_3 == 0) = true := by have Iq211 := Iq211.out; exact beq_iff_eq.2 (by omega)
         have q219b0 : (t197_3 == 0) = true := by have Iq212 := Iq212.out; exact beq_iff_eq.2 (by omega)
         obtain ⟨t220, q_, h_⟩ := Option.bind_eq_some_iff.1 h; clear h; have h := h_; clear h_; have E221 := Aside0.mk q_; clear q_
         cases t220 with
         | true =>
          rw [if_pos rfl] at h
          obtain ⟨t223, q_, h_⟩ := Option.bind_eq_some_iff.1 h; clear h; have h := h_; clear h_; have E224 := Aside0.mk q_; clear q_
          obtain rfl := Option.some.inj h
          go_wp2_with (first | (go_at_call 13; (with_reducible refine (triglyphref03_Same.calls k A175 c176 t173_1 A179 c180 t173_2 A199 c200 t197_1 A203 c204 t197_2 _ _ CR177.out.1 CR177.out.2 CR181.out.1 CR181.out.2 CR201.out.1 CR201.out.2 CR205.out.1 CR205.out.2 E214.out).mono ?_); rintro e w215 ⟨rfl, hb⟩; have CRa0_0 := Aside0.mk (And.intro (Kd.C_below CRa0_0.out.1 hb) CRa0_0.out.2); have CRa0_1 := Aside0.mk (And.intro (Kd.C_below CRa0_1.out.1 hb) CRa0_1.out.2); have CR143 := Aside0.mk (And.intro (Kd.C_below CR143.out.1 hb) CR143.out.2); have CR147 := Aside0.mk (And.intro (Kd.C_below CR147.out.1 hb) CR147.out.2); have CR153 := Aside0.mk (And.intro (Kd.C_below CR153.out.1 hb) CR153.out.2); have CR157 := Aside0.mk (And.intro (Kd.C_below CR157.out.1 hb) CR157.out.2); have CR167 := Aside0.mk (And.intro (Kd.C_below CR167.out.1 hb) CR167.out.2); have CR171 := Aside0.mk (And.intro (Kd.C_below CR171.out.1 hb) CR171.out.2); have CR177 := Aside0.mk (And.intro (Kd.C_below CR177.out.1 hb) CR177.out.2); have CR181 := Aside0.mk (And.intro (Kd.C_below CR181.out.1 hb) CR181.out.2); have CR191 := Aside0.mk (And.intro (Kd.C_below CR191.out.1 hb) CR191.out.2); have CR195 := Aside0.mk (And.intro (Kd.C_below CR195.out.1 hb) CR195.out.2); have CR201 := Aside0.mk (And.intro (Kd.C_below CR201.out.1 hb) CR201.out.2); have CR205 := Aside0.mk (And.intro (Kd.C_below CR205.out.1 hb) CR205.out.2); have HS := Aside0.mk (HS.out.step hb); clear hb; (try clear z0_0 z0_1 z1_0 z1_1 z2_0 z2_1 z3_0 z3_1); have z0_0 : w215.cell? ⟨w.heap.size, 0, none⟩ = some (.slice A0_0 l0_0.length c0_0) := (blk_cell (HS.out.at_ 3 rfl) 0).trans rfl; have z0_1 : w215.cell? ⟨w.heap.size, 1, none⟩ = some (.slice A0_1 l0_1.length c0_1) := (blk_cell (HS.out.at_ 3 rfl) 1).trans rfl; have z1_0 : w215.cell? ⟨g159, 0, none⟩ = some (.slice A151 t149_1.length c152) := (blk_cell (HS.out.at_ 2 rfl) 0).trans rfl; have z1_1 : w215.cell? ⟨g159, 1, none⟩ = some (.slice A155 t149_2.length c156) := (blk_cell (HS.out.at_ 2 rfl) 1).trans rfl; have z2_0 : w215.cell? ⟨g183, 0, none⟩ = some (.slice A175 t173_1.length c176) := (blk_cell (HS.out.at_ 1 rfl) 0).trans rfl; have z2_1 : w215.cell? ⟨g183, 1, none⟩ = some (.slice A179 t173_2.length c180) := (blk_cell (HS.out.at_ 1 rfl) 1).trans rfl; have z3_0 : w215.cell? ⟨g207, 0, none⟩ = some (.slice A199 t197_1.length c200) := (blk_cell (HS.out.at_ 0 rfl) 0).trans rfl; have z3_1 : w215.cell? ⟨g207, 1, none⟩ = some (.slice A203 t197_2.length c204) := (blk_cell (HS.out.at_ 0 rfl) 1).trans rfl) | (go_at_call 13; (with_reducible refine (triglyphref03_Same.calls k A175 c176 t173_1 A179 c180 t173_2 A199 c200 t197_1 A203 c204 t197_2 _ _ CR177.out.1 CR177.out.2 CR181.out.1 CR181.out.2 CR201.out.1 CR201.out.2 CR205.out.1 CR205.out.2 E221.out).mono ?_); rintro e w222 ⟨rfl, hb⟩; have CRa0_0 := Aside0.mk (And.intro (Kd.C_below CRa0_0.out.1 hb) CRa0_0.out.2); have CRa0_1 := Aside0.mk (And.intro (Kd.C_below CRa0_1.out.1 hb) CRa0_1.out.2); have CR143 := Aside0.mk (And.intro (Kd.C_below CR143.out.1 hb) CR143.out.2); have CR147 := Aside0.mk (And.intro (Kd.C_below CR147.out.1 hb) CR147.out.2); have CR153 := Aside0.mk (And.intro (Kd.C_below CR153.out.1 hb) CR153.out.2); have CR157 := Aside0.mk (And.intro (Kd.C_below CR157.out.1 hb) CR157.out.2); have CR167 := Aside0.mk (And.intro (Kd.C_below CR167.out.1 hb) CR167.out.2); have CR171 := Aside0.mk (And.intro (Kd.C_below CR171.out.1 hb) CR171.out.2); have CR177 := Aside0.mk (And.intro (Kd.C_below CR177.out.1 hb) CR177.out.2); have CR181 := Aside0.mk (And.intro (Kd.C_below CR181.out.1 hb) CR181.out.2); have CR191 := Aside0.mk (And.intro (Kd.C_below CR191.out.1 hb) CR191.out.2); have CR195 := Aside0.mk (And.intro (Kd.C_below CR195.out.1 hb) CR195.out.2); have CR201 := Aside0.mk (And.intro (Kd.C_below CR201.out.1 hb) CR201.out.2); have CR205 := Aside0.mk (And.intro (Kd.C_below CR205.out.1 hb) CR205.out.2); have HS := Aside0.mk (HS.out.step hb); clear hb; (try clear z0_0 z0_1 z1_0 z1_1 z2_0 z2_1 z3_0 z3_1); have z0_0 : w222.cell? ⟨w.heap.size, 0, none⟩ = some (.slice A0_0 l0_0.length c0_0) := (blk_cell (HS.out.at_ 3 rfl) 0).trans rfl; have z0_1 : w222.cell? ⟨w.heap.size, 1, none⟩ = some (.slice A0_1 l0_1.length c0_1) := (blk_cell (HS.out.at_ 3 rfl) 1).trans rfl; have z1_0 : w222.cell? ⟨g159, 0, none⟩ = some (.slice A151 t149_1.length c152) := (blk_cell (HS.out.at_ 2 rfl) 0).trans rfl; have z1_1 : w222.cell? ⟨g159, 1, none⟩ = some (.slice A155 t149_2.length c156) := (blk_cell (HS.out.at_ 2 rfl) 1).trans rfl; have z2_0 : w222.cell? ⟨g183, 0, none⟩ = some (.slice A175 t173_1.length c176) := (blk_cell (HS.out.at_ 1 rfl) 0).trans rfl; have z2_1 : w222.cell? ⟨g183, 1, none⟩ = some (.slice A179 t173_2.length c180) := (blk_cell (HS.out.at_ 1 rfl) 1).trans rfl; have z3_0 : w222.cell? ⟨g207, 0, none⟩ = some (.slice A199 t197_1.length c200) := (blk_cell (HS.out.at_ 0 rfl) 0).trans rfl; have z3_1 : w222.cell? ⟨g207, 1, none⟩ = some (.slice A203 t197_2.length c204) := (blk_cell (HS.out.at_ 0 rfl) 1).trans rfl) | (go_at_call 10; (with_reducible refine (triglyphlaw06_works.calls k _ _ E224.out).mono ?_); rintro e w225 ⟨rfl, hb⟩; have CRa0_0 := Aside0.mk (And.intro (Kd.C_below CRa0_0.out.1 hb) CRa0_0.out.2); have CRa0_1 := Aside0.mk (And.intro (Kd.C_below CRa0_1.out.1 hb) CRa0_1.out.2); have CR143 := Aside0.mk (And.intro (Kd.C_below CR143.out.1 hb) CR143.out.2); have CR147 := Aside0.mk (And.intro (Kd.C_below CR147.out.1 hb) CR147.out.2); have CR153 := Aside0.mk (And.intro (Kd.C_below CR153.out.1 hb) CR153.out.2); have CR157 := Aside0.mk (And.intro (Kd.C_below CR157.out.1 hb) CR157.out.2); have CR167 := Aside0.mk (And.intro (Kd.C_below CR167.out.1 hb) CR167.out.2); have CR171 := Aside0.mk (And.intro (Kd.C_below CR171.out.1 hb) CR171.out.2); have CR177 := Aside0.mk (And.intro (Kd.C_below CR177.out.1 hb) CR177.out.2); have CR181 := Aside0.mk (And.intro (Kd.C_below CR181.out.1 hb) CR181.out.2); have CR191 := Aside0.mk (And.intro (Kd.C_below CR191.out.1 hb) CR191.out.2); have CR195 := Aside0.mk (And.intro (Kd.C_below CR195.out.1 hb) CR195.out.2); have CR201 := Aside0.mk (And.intro (Kd.C_below CR201.out.1 hb) CR201.out.2); have CR205 := Aside0.mk (And.intro (Kd.C_below CR205.out.1 hb) CR205.out.2); have HS := Aside0.mk (HS.out.step hb); clear hb; (try clear z0_0 z0_1 z1_0 z1_1 z2_0 z2_1 z3_0 z3_1); have z0_0 : w225.cell? ⟨w.heap.size, 0, none⟩ = some (.slice A0_0 l0_0.length c0_0) := (blk_cell (HS.out.at_ 3 rfl) 0).trans rfl; have z0_1 : w225.cell? ⟨w.heap.size, 1, none⟩ = some (.slice A0_1 l0_1.length c0_1) := (blk_cell (HS.out.at_ 3 rfl) 1).trans rfl; have z1_0 : w225.cell? ⟨g159, 0, none⟩ = some (.slice A151 t149_1.length c152) := (blk_cell (HS.out.at_ 2 rfl) 0).trans rfl; have z1_1 : w225.cell? ⟨g159, 1, none⟩ = some (.slice A155 t149_2.length c156) := (blk_cell (HS.out.at_ 2 rfl) 1).trans rfl; have z2_0 : w225.cell? ⟨g183, 0, none⟩ = some (.slice A175 t173_1.length c176) := (blk_cell (HS.out.at_ 1 rfl) 0).trans rfl; have z2_1 : w225.cell? ⟨g183, 1, none⟩ = some (.slice A179 t173_2.length c180) := (blk_cell (HS.out.at_ 1 rfl) 1).trans rfl; have z3_0 : w225.cell? ⟨g207, 0, none⟩ = some (.slice A199 t197_1.length c200) := (blk_cell (HS.out.at_ 0 rfl) 0).trans rfl; have z3_1 : w225.cell? ⟨g207, 1, none⟩ = some (.slice A203 t197_2.length c204) := (blk_cell (HS.out.at_ 0 rfl) 1).trans rfl))
          go_ret
          exact ⟨rfl, HS.out.bel⟩
         | false =>
          rw [if_neg (by decide)] at h
          cases h
        ·rw [if_neg q216] at h
         have q216b0 := (beq_eq_false_iff_ne.2 q216 : ((l0_0.length : Int) == 0) = false)
         have Iq216 := Aside0.mk q216
         clear q216
         by_cases q226 : (0 : Int) < (l0_0.length : Int)
         ·rw [if_pos q226] at h
          have q226b0 := q226
          clear q226
          obtain ⟨⟨t229_1, t229_2⟩, q_, h⟩ := Option.bind_eq_some_iff.1 h; have E230 := Aside0.mk q_; clear q_; (try dsimp only at h)
          obtain ⟨⟨t239_1, t239_2, t239_3⟩, q_, h⟩ := Option.bind_eq_some_iff.1 h; have E240 := Aside0.mk q_; clear q_; (try dsimp only at h)
          go_upto_region 14 with (first | (go_at_call 13; (with_reducible refine (triglyphref03_Same.calls k A175 c176 t173_1 A179 c180 t173_2 A199 c200 t197_1 A203 c204 t197_2 _ _ CR177.out.1 CR177.out.2 CR181.out.1 CR181.out.2 CR201.out.1 CR201.out.2 CR205.out.1 CR205.out.2 E214.out).mono ?_); rintro e w215 ⟨rfl, hb⟩; have CRa0_0 := Aside0.mk (And.intro (Kd.C_below CRa0_0.out.1 hb) CRa0_0.out.2); have CRa0_1 := Aside0.mk (And.intro (Kd.C_below CRa0_1.out.1 hb) CRa0_1.out.2); have CR143 := Aside0.mk (And.intro (Kd.C_below CR143.out.1 hb) CR143.out.2); have CR147 := Aside0.mk (And.intro (Kd.C_below CR147.out.1 hb) CR147.out.2); have CR153 := Aside0.mk (And.intro (Kd.C_below CR153.out.1 hb) CR153.out.2); have CR157 := Aside0.mk (And.intro (Kd.C_below CR157.out.1 hb) CR157.out.2); have CR167 := Aside0.mk (And.intro (Kd.C_below CR167.out.1 hb) CR167.out.2); have CR171 := Aside0.mk (And.intro (Kd.C_below CR171.out.1 hb) CR171.out.2); have CR177 := Aside0.mk (And.intro (Kd.C_below CR177.out.1 hb) CR177.out.2); have CR181 := Aside0.mk (And.intro (Kd.C_below CR181.out.1 hb) CR181.out.2); have CR191 := Aside0.mk (And.intro (Kd.C_below CR191.out.1 hb) CR191.out.2); have CR195 := Aside0.mk (And.intro (Kd.C_below CR195.out.1 hb) CR195.out.2); have CR201 := Aside0.mk (And.intro (Kd.C_below CR201.out.1 hb) CR201.out.2); have CR205 := Aside0.mk (And.intro (Kd.C_below CR205.out.1 hb) CR205.out.2); have HS := Aside0.mk (HS.out.step hb); clear hb; (try clear z0_0 z0_1 z1_0 z1_1 z2_0 z2_1 z3_0 z3_1); have z0_0 : w215.cell? ⟨w.heap.size, 0, none⟩ = some (.slice A0_0 l0_0.length c0_0) := (blk_cell (HS.out.at_ 3 rfl) 0).trans rfl; have z0_1 : w215.cell? ⟨w.heap.size, 1, none⟩ = some (.slice A0_1 l0_1.length c0_1) := (blk_cell (HS.out.at_ 3 rfl) 1).trans rfl; have z1_0 : w215.cell? ⟨g159, 0, none⟩ = some (.slice A151 t149_1.length c152) := (blk_cell (HS.out.at_ 2 rfl) 0).trans rfl; have z1_1 : w215.cell? ⟨g159, 1, none⟩ = some (.slice A155 t149_2.length c156) := (blk_cell (HS.out.at_ 2 rfl) 1).trans rfl; have z2_0 : w215.cell? ⟨g183, 0, none⟩ = some (.slice A175 t173_1.length c176) := (blk_cell (HS.out.at_ 1 rfl) 0).trans rfl; have z2_1 : w215.cell? ⟨g183, 1, none⟩ = some (.slice A179 t173_2.length c180) := (blk_cell (HS.out.at_ 1 rfl) 1).trans rfl; have z3_0 : w215.cell? ⟨g207, 0, none⟩ = some (.slice A199 t197_1.length c200) := (blk_cell (HS.out.at_ 0 rfl) 0).trans rfl; have z3_1 : w215.cell? ⟨g207, 1, none⟩ = some (.slice A203 t197_2.length c204) := (blk_cell (HS.out.at_ 0 rfl) 1).trans rfl; obtain ⟨ad227, ea_, ad227_0⟩ := Kd.at_int CRa0_0.out.1 (0 : Int) (by omega) (by omega); (first | subst ea_ | (injection ea_ with ea_; have ea_ := ea_.symm; subst ea_)); rw [show Int.toNat 0 = 0 from rfl] at ad227_0; rw [Addr.add_zero'] at ad227_0))
          refine start_ (n := 11) (S := fun W' => Below w215.drew.heap.size w215.drew W') (ds := []) #[false, false, false, false, false, false, false, false, false, false, false] (by kernel_rfl) rfl rfl (Below.refl _ _) (fun hHeld => ?_)
          refine with_tabW triglyphlaw06_PickRotates.tab14 triglyphlaw06_PickRotates.bits14 (fun HT_ HW_ => ?_)
          (try clear z0_0 z0_1 z1_0 z1_1 z2_0 z2_1 z3_0 z3_1); have HS := Aside0.mk (HS.out.step (below_drew (Below.refl _ _)))
          have CRa0_0 := Aside0.mk (And.intro (Kd.C_below CRa0_0.out.1 (below_drew (Below.refl _ _))) CRa0_0.out.2)
          have CRa0_1 := Aside0.mk (And.intro (Kd.C_below CRa0_1.out.1 (below_drew (Below.refl _ _))) CRa0_1.out.2)
          have CR143 := Aside0.mk (And.intro (Kd.C_below CR143.out.1 (below_drew (Below.refl _ _))) CR143.out.2)
          have CR147 := Aside0.mk (And.intro (Kd.C_below CR147.out.1 (below_drew (Below.refl _ _))) CR147.out.2)
          have CR153 := Aside0.mk (And.intro (Kd.C_below CR153.out.1 (below_drew (Below.refl _ _))) CR153.out.2)
          have CR157 := Aside0.mk (And.intro (Kd.C_below CR157.out.1 (below_drew (Below.refl _ _))) CR157.out.2)
          have CR167 := Aside0.mk (And.intro (Kd.C_below CR167.out.1 (below_drew (Below.refl _ _))) CR167.out.2)
          have CR171 := Aside0.mk (And.intro (Kd.C_below CR171.out.1 (below_drew (Below.refl _ _))) CR171.out.2)
          have CR177 := Aside0.mk (And.intro (Kd.C_below CR177.out.1 (below_drew (Below.refl _ _))) CR177.out.2)
          have CR181 := Aside0.mk (And.intro (Kd.C_below CR181.out.1 (below_drew (Below.refl _ _))) CR181.out.2)
          have CR191 := Aside0.mk (And.intro (Kd.C_below CR191.out.1 (below_drew (Below.refl _ _))) CR191.out.2)
          have CR195 := Aside0.mk (And.intro (Kd.C_below CR195.out.1 (below_drew (Below.refl _ _))) CR195.out.2)
          have CR201 := Aside0.mk (And.intro (Kd.C_below CR201.out.1 (below_drew (Below.refl _ _))) CR201.out.2)
          have CR205 := Aside0.mk (And.intro (Kd.C_below CR205.out.1 (below_drew (Below.refl _ _))) CR205.out.2)
          generalize w215.drew = W228 at HS CRa0_0 CRa0_1 CR143 CR147 CR153 CR157 CR167 CR171 CR177 CR181 CR191 CR195 CR201 CR205 hHeld ⊢
          refine pure_ (i := 0) (N := some 113) (v := ?_) (a' := ?_) #[true, false, false, false, false, false, false, false, false, false, false] rfl rfl (any_of HT_.out (by kernel_rfl)) (fun _ _ _ h => h) (Or.inl ⟨by rfl, ?_⟩) ?_ ?_; rotate_left
          ·intro w'; go_simp; with_reducible rfl
          rotate_left
          ·simp only [Act.put, List.setIfInBounds_toArray, List.set_cons_zero, List.set_cons_succ, i64_w, i32_w]; rfl
          refine pure_ (i := 1) (N := some 114) (v := ?_) (a' := ?_) #[true, true, false, false, false, false, false, false, false, false, false] rfl rfl (any_of HT_.out (by kernel_rfl)) (fun _ _ _ h => h) (Or.inl ⟨by rfl, ?_⟩) ?_ ?_; rotate_left
          ·intro w'; go_simp; with_reducible rfl
          rotate_left
          ·simp only [Act.put, List.setIfInBounds_toArray, List.set_cons_zero, List.set_cons_succ, i64_w, i32_w]; rfl
          refine take_ (i := 3) (N := some 116) (v := ?_) (a' := ?_) #[true, true, false, true, false, false, false, false, false, false, false] rfl rfl (take_ofW HT_.out HW_.out (by kernel_rfl)) (fun _ _ _ h => h) (Or.inl ⟨by rfl, ?_⟩) hHeld ?_ ?_; rotate_left
          ·intro w' s0; have y0 : w'.cell? ⟨w.heap.size, 0, none⟩ = some (.slice (some ad227) l0_0.length c0_0) := (blk_cell ((HS.out.step s0).at_ 3 rfl) 0).trans rfl; have y1 : w'.cell? ⟨w.heap.size, 1, none⟩ = some (.slice A0_1 l0_1.length c0_1) := (blk_cell ((HS.out.step s0).at_ 3 rfl) 1).trans rfl; go_simp; with_reducible rfl
          rotate_left
          ·simp only [Act.put, List.setIfInBounds_toArray, List.set_cons_zero, List.set_cons_succ, i64_w, i32_w]; rfl
          refine join_ (σ := Value × Value × Value × Value × Nat) 2 #[true, true, true, true, true, true, true, true, true, false, false] (fun s_ => [(115, .agg #[s_.1, s_.2.1]), (117, .tuple #[.agg #[s_.2.2.1, s_.2.2.2.1], .int .i64 t239_3]), (17, .pointer (some ⟨s_.2.2.2.2, 0, none⟩)), (112, .tuple #[.agg #[s_.2.2.1, s_.2.2.2.1], .int .i64 t239_3]), (118, .agg #[s_.2.2.1, s_.2.2.2.1]), (119, .int .i64 t239_3)]) (fun s_ w' => Below W228.heap.size W228 w' ∧ (∃ A_ c_, s_.1 = .slice A_ (t229_1).length c_ ∧ (t229_1).length ≤ c_ ∧ Kd.F (Kd.int .i64) w' (fun k_ => k_ ≠ s_.2.2.2.2) A_ (t229_1).length t229_1) ∧ (∃ A_ c_, s_.2.1 = .slice A_ (t229_2).length c_ ∧ (t229_2).length ≤ c_ ∧ Kd.F k45 w' (fun k_ => k_ ≠ s_.2.2.2.2) A_ (t229_2).length t229_2) ∧ (∃ A_ c_, s_.2.2.1 = .slice A_ (t239_1).length c_ ∧ (t239_1).length ≤ c_ ∧ Kd.F (Kd.int .i64) w' (fun k_ => k_ ≠ s_.2.2.2.2) A_ (t239_1).length t239_1) ∧ (∃ A_ c_, s_.2.2.2.1 = .slice A_ (t239_2).length c_ ∧ (t239_2).length ≤ c_ ∧ Kd.F k45 w' (fun k_ => k_ ≠ s_.2.2.2.2) A_ (t239_2).length t239_2) ∧ (w'.heap[s_.2.2.2.2]? = some (.cells #[.slice none 0 0, .slice none 0 0] 25 (0, 0)) ∧ W228.heap.size ≤ s_.2.2.2.2)) ?_ ?_; rotate_left
          ·intro hCont
           refine two_ (i := 2) (j := 8) (Ni := some 115) (Nj := some 17) #[true, true, true, true, false, false, false, false, false, false, false] #[true, true, false, true, false, false, false, false, true, false, false] rfl rfl rfl rfl (two_of HT_.out (by kernel_rfl)) (by decide) (by decide) (fun K hK => ?_) (fun K hK => ?_)
           ·skip
            refine goes_ Try.func16 (by kernel_rfl) rfl #[.int .i64 (rd l0_0 0)] (by rfl) rfl rfl (by first | rfl | (simp only [List.map_toArray, List.map_cons, List.map_nil]; rfl)) ?_
            refine (triglyphref03_Atom.calls (rd l0_0 0) _ _ _ E230.out).mono ?_
            rintro e w1 ⟨v234, v238, rfl, hv234, hv238, hb⟩
            refine ⟨_, rfl, ?_⟩
            obtain ⟨A231, c232, hv_⟩ := Kd.R_slice hv234; subst hv_; have CR233 := Aside0.mk (And.intro (hf_F1 hv234) (Kd.R_reads' hv234).2.1); clear hv234
            obtain ⟨A235, c236, hv_⟩ := Kd.R_slice hv238; subst hv_; have CR237 := Aside0.mk (And.intro (hf_F1 hv238) (Kd.R_reads' hv238).2.1); clear hv238
            have hHeld := hHeld.trans (hb.mono hHeld.size); clear hb
            refine hK.out _ _ hHeld (fun hHeld => ?_); clear hK K
            refine norm_ (a' := ?_) ?_ ?_; rotate_left
            ·show Act.put _ (some 115) _ = _
             simp only [Act.put, List.setIfInBounds_toArray, List.set_cons_zero, List.set_cons_succ, i64_w, i32_w]; rfl
            refine two_ (i := 4) (j := 8) (Ni := some 117) (Nj := some 17) #[true, true, true, true, true, false, false, false, false, false, false] #[true, true, true, true, false, false, false, false, true, false, false] rfl rfl rfl rfl (two_of HT_.out (by kernel_rfl)) (by decide) (by decide) (fun K hK => ?_) (fun K hK => ?_)
            ·skip
             refine goes_ Try.func11 (by kernel_rfl) rfl #[.int .i64 44, .agg #[.slice A231 t229_1.length c232, .slice A235 t229_2.length c236], .agg #[.slice (some ad227) l0_0.length c0_0, .slice A0_1 l0_1.length c0_1]] (by rfl) rfl rfl (by first | rfl | (simp only [List.map_toArray, List.map_cons, List.map_nil]; rfl)) ?_
             refine (pick_Dy.calls k 44 _ A231 c232 t229_1 _ A235 c236 t229_2 _ (some ad227) c0_0 l0_0 _ A0_1 c0_1 l0_1 _ _ _ _ (Kd.V_mk CR233.out.2 CR233.out.1) (Kd.V_mk CR237.out.2 CR237.out.1) (Kd.V_mk CRa0_0.out.2 (hf_F6 (Kd.C_F (Kd.heap_int .i64) CRa0_0.out.1) hHeld)) (Kd.V_mk CRa0_1.out.2 (hf_F6 (Kd.C_F k45_heap CRa0_1.out.1) hHeld)) E240.out).mono ?_
             rintro e w1 ⟨v244, v248, rfl, hv244, hv248, hb⟩
             refine ⟨_, rfl, ?_⟩
             obtain ⟨A241, c242, hv_, hl_, hf_⟩ := hv244; subst hv_; have CR243 := Aside0.mk (And.intro (Kd.F_mono (ok' := fun _ => True) hf_ (fun _ _ => trivial)) hl_); clear hf_ hl_
             obtain ⟨A245, c246, hv_, hl_, hf_⟩ := hv248; subst hv_; have CR247 := Aside0.mk (And.intro (Kd.F_mono (ok' := fun _ => True) hf_ (fun _ _ => trivial)) hl_); clear hf_ hl_
             have CR233 := Aside0.mk (And.intro (hf_F4 CR233.out.1 hb) CR233.out.2)
             have CR237 := Aside0.mk (And.intro (hf_F4 CR237.out.1 hb) CR237.out.2)
             have hHeld := hHeld.trans (hb.mono hHeld.size); clear hb
             refine hK.out _ _ hHeld (fun hHeld => ?_); clear hK K
             refine norm_ (a' := ?_) ?_ ?_; rotate_left
             ·show Act.put _ (some 117) _ = _
              simp only [Act.put, List.setIfInBounds_toArray, List.set_cons_zero, List.set_cons_succ, i64_w, i32_w]; rfl
             refine pure_ (i := 5) (N := some 112) (v := ?_) (a' := ?_) #[true, true, true, true, true, true, false, false, false, false, false] rfl rfl (any_of HT_.out (by kernel_rfl)) (fun _ _ _ h => h) (Or.inl ⟨by rfl, ?_⟩) ?_ ?_; rotate_left
             ·intro w'; go_simp; with_reducible rfl
             rotate_left
             ·simp only [Act.put, List.setIfInBounds_toArray, List.set_cons_zero, List.set_cons_succ, i64_w, i32_w]; rfl
             refine pure_ (i := 6) (N := some 118) (v := ?_) (a' := ?_) #[true, true, true, true, true, true, true, false, false, false, false] rfl rfl (any_of HT_.out (by kernel_rfl)) (fun _ _ _ h => h) (Or.inl ⟨by rfl, ?_⟩) ?_ ?_; rotate_left
             ·intro w'; go_simp; with_reducible rfl
             rotate_left
             ·simp only [Act.put, List.setIfInBounds_toArray, List.set_cons_zero, List.set_cons_succ, i64_w, i32_w]; rfl
             refine pure_ (i := 7) (N := some 119) (v := ?_) (a' := ?_) #[true, true, true, true, true, true, true, true, false, false, false] rfl rfl (any_of HT_.out (by kernel_rfl)) (fun _ _ _ h => h) (Or.inl ⟨by rfl, ?_⟩) ?_ ?_; rotate_left
             ·intro w'; go_simp; with_reducible rfl
             rotate_left
             ·simp only [Act.put, List.setIfInBounds_toArray, List.set_cons_zero, List.set_cons_succ, i64_w, i32_w]; rfl
             refine one_ (i := 8) (N := some 17) #[true, true, true, true, true, true, true, true, true, false, false] rfl rfl (one_of HT_.out (by kernel_rfl)) (by decide) (fun K hK => ?_)
             refine box_step ?hg (N := 17) ?hd (cs := #[.slice none 0 0, .slice none 0 0]) (t := 25) ?hr ?_; (case hd => rfl); (case hg => rfl); (case hr => first | (go_simp; done) | (go_simp; rfl))
             intro g249 hg w1 hbox hb
             have HGg249 := Aside0.mk hbox; have HLg249 : Aside0 (W228.heap.size ≤ g249) := ⟨Nat.le_trans hHeld.size (Nat.le_of_eq hg.symm)⟩; have HM : Aside0 (g249 < w1.heap.size) := ⟨blk_lt hbox⟩; clear hbox
             have CR233 := Aside0.mk (And.intro (hf_F3 hg CR233.out.1 hb) CR233.out.2)
             have CR237 := Aside0.mk (And.intro (hf_F3 hg CR237.out.1 hb) CR237.out.2)
             have CR243 := Aside0.mk (And.intro (hf_F3 hg CR243.out.1 hb) CR243.out.2)
             have CR247 := Aside0.mk (And.intro (hf_F3 hg CR247.out.1 hb) CR247.out.2)
             clear hg
             have hHeld := hHeld.trans (hb.mono hHeld.size); clear hb
             refine hK.out _ _ hHeld (fun hHeld => ?_); clear hK K
             refine norm_ (a' := ?_) ?_ ?_; rotate_left
             ·show Act.put _ (some 17) _ = _
              simp only [Act.put, List.setIfInBounds_toArray, List.set_cons_zero, List.set_cons_succ, i64_w, i32_w]; rfl
             exact norm_ (by simp only [putAll, Act.put, List.setIfInBounds_toArray, List.set_cons_zero, List.set_cons_succ]) (hCont (.slice A231 t229_1.length c232, .slice A235 t229_2.length c236, .slice A241 t239_1.length c242, .slice A245 t239_2.length c246, g249) _ ⟨hHeld, ⟨_, _, rfl, CR233.out.2, CR233.out.1⟩, ⟨_, _, rfl, CR237.out.2, CR237.out.1⟩, ⟨_, _, rfl, CR243.out.2, CR243.out.1⟩, ⟨_, _, rfl, CR247.out.2, CR247.out.1⟩, ⟨HGg249.out, HLg249.out⟩⟩)
            ·skip
             refine box_step ?hg (N := 17) ?hd (cs := #[.slice none 0 0, .slice none 0 0]) (t := 25) ?hr ?_; (case hd => rfl); (case hg => rfl); (case hr => first | (go_simp; done) | (go_simp; rfl))
             intro g249 hg w1 hbox hb
             have HGg249 := Aside0.mk hbox; have HLg249 : Aside0 (W228.heap.size ≤ g249) := ⟨Nat.le_trans hHeld.size (Nat.le_of_eq hg.symm)⟩; have HM : Aside0 (g249 < w1.heap.size) := ⟨blk_lt hbox⟩; clear hbox
             have CR233 := Aside0.mk (And.intro (hf_F3 hg CR233.out.1 hb) CR233.out.2)
             have CR237 := Aside0.mk (And.intro (hf_F3 hg CR237.out.1 hb) CR237.out.2)
             clear hg
             have hHeld := hHeld.trans (hb.mono hHeld.size); clear hb
             refine hK.out _ _ hHeld (fun hHeld => ?_); clear hK K
             refine norm_ (a' := ?_) ?_ ?_; rotate_left
             ·show Act.put _ (some 17) _ = _
              simp only [Act.put, List.setIfInBounds_toArray, List.set_cons_zero, List.set_cons_succ, i64_w, i32_w]; rfl
             refine one_ (i := 4) (N := some 117) #[true, true, true, true, true, false, false, false, true, false, false] rfl rfl (one_of HT_.out (by kernel_rfl)) (by decide) (fun K hK => ?_)
             refine goes_ Try.func11 (by kernel_rfl) rfl #[.int .i64 44, .agg #[.slice A231 t229_1.length c232, .slice A235 t229_2.length c236], .agg #[.slice (some ad227) l0_0.length c0_0, .slice A0_1 l0_1.length c0_1]] (by rfl) rfl rfl (by first | rfl | (simp only [List.map_toArray, List.map_cons, List.map_nil]; rfl)) ?_
             refine (pick_Dy.calls k 44 _ A231 c232 t229_1 _ A235 c236 t229_2 _ (some ad227) c0_0 l0_0 _ A0_1 c0_1 l0_1 _ _ _ _ (Kd.V_mk CR233.out.2 CR233.out.1) (Kd.V_mk CR237.out.2 CR237.out.1) (Kd.V_mk CRa0_0.out.2 (hf_F6 (Kd.C_F (Kd.heap_int .i64) CRa0_0.out.1) hHeld)) (Kd.V_mk CRa0_1.out.2 (hf_F6 (Kd.C_F k45_heap CRa0_1.out.1) hHeld)) E240.out).mono ?_
             rintro e w1 ⟨v244, v248, rfl, hv244, hv248, hb⟩
             refine ⟨_, rfl, ?_⟩
             obtain ⟨A241, c242, hv_, hl_, hf_⟩ := hv244; subst hv_; have CR243 := Aside0.mk (And.intro (Kd.F_mono (ok' := fun k_ => k_ ≠ g249) hf_ (fun k hk => by (try dsimp only at hk); have h1 := HLg249.out; have h2 := HM.out; omega)) hl_); clear hf_ hl_
             obtain ⟨A245, c246, hv_, hl_, hf_⟩ := hv248; subst hv_; have CR247 := Aside0.mk (And.intro (Kd.F_mono (ok' := fun k_ => k_ ≠ g249) hf_ (fun k hk => by (try dsimp only at hk); have h1 := HLg249.out; have h2 := HM.out; omega)) hl_); clear hf_ hl_
             have CR233 := Aside0.mk (And.intro (hf_F4 CR233.out.1 hb) CR233.out.2)
             have CR237 := Aside0.mk (And.intro (hf_F4 CR237.out.1 hb) CR237.out.2)
             have HGg249 := Aside0.mk (blk_below HGg249.out hb); have HM := Aside0.mk (Nat.lt_of_lt_of_le HM.out (Below.size hb))
             have hHeld := hHeld.trans (hb.mono hHeld.size); clear hb
             refine hK.out _ _ hHeld (fun hHeld => ?_); clear hK K
             refine norm_ (a' := ?_) ?_ ?_; rotate_left
             ·show Act.put _ (some 117) _ = _
              simp only [Act.put, List.setIfInBounds_toArray, List.set_cons_zero, List.set_cons_succ, i64_w, i32_w]; rfl
             refine pure_ (i := 5) (N := some 112) (v := ?_) (a' := ?_) #[true, true, true, true, true, true, false, false, true, false, false] rfl rfl (any_of HT_.out (by kernel_rfl)) (fun _ _ _ h => h) (Or.inl ⟨by rfl, ?_⟩) ?_ ?_; rotate_left
             ·intro w'; go_simp; with_reducible rfl
             rotate_left
             ·simp only [Act.put, List.setIfInBounds_toArray, List.set_cons_zero, List.set_cons_succ, i64_w, i32_w]; rfl
             refine pure_ (i := 6) (N := some 118) (v := ?_) (a' := ?_) #[true, true, true, true, true, true, true, false, true, false, false] rfl rfl (any_of HT_.out (by kernel_rfl)) (fun _ _ _ h => h) (Or.inl ⟨by rfl, ?_⟩) ?_ ?_; rotate_left
             ·intro w'; go_simp; with_reducible rfl
             rotate_left
             ·simp only [Act.put, List.setIfInBounds_toArray, List.set_cons_zero, List.set_cons_succ, i64_w, i32_w]; rfl
             refine pure_ (i := 7) (N := some 119) (v := ?_) (a' := ?_) #[true, true, true, true, true, true, true, true, true, false, false] rfl rfl (any_of HT_.out (by kernel_rfl)) (fun _ _ _ h => h) (Or.inl ⟨by rfl, ?_⟩) ?_ ?_; rotate_left
             ·intro w'; go_simp; with_reducible rfl
             rotate_left
             ·simp only [Act.put, List.setIfInBounds_toArray, List.set_cons_zero, List.set_cons_succ, i64_w, i32_w]; rfl
             exact norm_ (by simp only [putAll, Act.put, List.setIfInBounds_toArray, List.set_cons_zero, List.set_cons_succ]) (hCont (.slice A231 t229_1.length c232, .slice A235 t229_2.length c236, .slice A241 t239_1.length c242, .slice A245 t239_2.length c246, g249) _ ⟨hHeld, ⟨_, _, rfl, CR233.out.2, CR233.out.1⟩, ⟨_, _, rfl, CR237.out.2, CR237.out.1⟩, ⟨_, _, rfl, CR243.out.2, CR243.out.1⟩, ⟨_, _, rfl, CR247.out.2, CR247.out.1⟩, ⟨HGg249.out, HLg249.out⟩⟩)
           ·skip
            refine box_step ?hg (N := 17) ?hd (cs := #[.slice none 0 0, .slice none 0 0]) (t := 25) ?hr ?_; (case hd => rfl); (case hg => rfl); (case hr => first | (go_simp; done) | (go_simp; rfl))
            intro g249 hg w1 hbox hb
            have HGg249 := Aside0.mk hbox; have HLg249 : Aside0 (W228.heap.size ≤ g249) := ⟨Nat.le_trans hHeld.size (Nat.le_of_eq hg.symm)⟩; have HM : Aside0 (g249 < w1.heap.size) := ⟨blk_lt hbox⟩; clear hbox
            clear hg
            have hHeld := hHeld.trans (hb.mono hHeld.size); clear hb
            refine hK.out _ _ hHeld (fun hHeld => ?_); clear hK K
            refine norm_ (a' := ?_) ?_ ?_; rotate_left
            ·show Act.put _ (some 17) _ = _
             simp only [Act.put, List.setIfInBounds_toArray, List.set_cons_zero, List.set_cons_succ, i64_w, i32_w]; rfl
            refine one_ (i := 2) (N := some 115) #[true, true, true, true, false, false, false, false, true, false, false] rfl rfl (one_of HT_.out (by kernel_rfl)) (by decide) (fun K hK => ?_)
            refine goes_ Try.func16 (by kernel_rfl) rfl #[.int .i64 (rd l0_0 0)] (by rfl) rfl rfl (by first | rfl | (simp only [List.map_toArray, List.map_cons, List.map_nil]; rfl)) ?_
            refine (triglyphref03_Atom.calls (rd l0_0 0) _ _ _ E230.out).mono ?_
            rintro e w1 ⟨v234, v238, rfl, hv234, hv238, hb⟩
            refine ⟨_, rfl, ?_⟩
            obtain ⟨A231, c232, hv_⟩ := Kd.R_slice hv234; subst hv_; have CR233 := Aside0.mk (And.intro (hf_F2 hv234 HM.out) (Kd.R_reads' hv234).2.1); clear hv234
            obtain ⟨A235, c236, hv_⟩ := Kd.R_slice hv238; subst hv_; have CR237 := Aside0.mk (And.intro (hf_F2 hv238 HM.out) (Kd.R_reads' hv238).2.1); clear hv238
            have HGg249 := Aside0.mk (blk_below HGg249.out hb); have HM := Aside0.mk (Nat.lt_of_lt_of_le HM.out (Below.size hb))
            have hHeld := hHeld.trans (hb.mono hHeld.size); clear hb
            refine hK.out _ _ hHeld (fun hHeld => ?_); clear hK K
            refine norm_ (a' := ?_) ?_ ?_; rotate_left
            ·show Act.put _ (some 115) _ = _
             simp only [Act.put, List.setIfInBounds_toArray, List.set_cons_zero, List.set_cons_succ, i64_w, i32_w]; rfl
            refine one_ (i := 4) (N := some 117) #[true, true, true, true, true, false, false, false, true, false, false] rfl rfl (one_of HT_.out (by kernel_rfl)) (by decide) (fun K hK => ?_)
            refine goes_ Try.func11 (by kernel_rfl) rfl #[.int .i64 44, .agg #[.slice A231 t229_1.length c232, .slice A235 t229_2.length c236], .agg #[.slice (some ad227) l0_0.length c0_0, .slice A0_1 l0_1.length c0_1]] (by rfl) rfl rfl (by first | rfl | (simp only [List.map_toArray, List.map_cons, List.map_nil]; rfl)) ?_
            refine (pick_Dy.calls k 44 _ A231 c232 t229_1 _ A235 c236 t229_2 _ (some ad227) c0_0 l0_0 _ A0_1 c0_1 l0_1 _ _ _ _ (Kd.V_mk CR233.out.2 CR233.out.1) (Kd.V_mk CR237.out.2 CR237.out.1) (Kd.V_mk CRa0_0.out.2 (hf_F6 (Kd.C_F (Kd.heap_int .i64) CRa0_0.out.1) hHeld)) (Kd.V_mk CRa0_1.out.2 (hf_F6 (Kd.C_F k45_heap CRa0_1.out.1) hHeld)) E240.out).mono ?_
            rintro e w1 ⟨v244, v248, rfl, hv244, hv248, hb⟩
            refine ⟨_, rfl, ?_⟩
            obtain ⟨A241, c242, hv_, hl_, hf_⟩ := hv244; subst hv_; have CR243 := Aside0.mk (And.intro (Kd.F_mono (ok' := fun k_ => k_ ≠ g249) hf_ (fun k hk => by (try dsimp only at hk); have h1 := HLg249.out; have h2 := HM.out; omega)) hl_); clear hf_ hl_
            obtain ⟨A245, c246, hv_, hl_, hf_⟩ := hv248; subst hv_; have CR247 := Aside0.mk (And.intro (Kd.F_mono (ok' := fun k_ => k_ ≠ g249) hf_ (fun k hk => by (try dsimp only at hk); have h1 := HLg249.out; have h2 := HM.out; omega)) hl_); clear hf_ hl_
            have HGg249 := Aside0.mk (blk_below HGg249.out hb); have HM := Aside0.mk (Nat.lt_of_lt_of_le HM.out (Below.size hb))
            have CR233 := Aside0.mk (And.intro (hf_F4 CR233.out.1 hb) CR233.out.2)
            have CR237 := Aside0.mk (And.intro (hf_F4 CR237.out.1 hb) CR237.out.2)
            have hHeld := hHeld.trans (hb.mono hHeld.size); clear hb
            refine hK.out _ _ hHeld (fun hHeld => ?_); clear hK K
            refine norm_ (a' := ?_) ?_ ?_; rotate_left
            ·show Act.put _ (some 117) _ = _
             simp only [Act.put, List.setIfInBounds_toArray, List.set_cons_zero, List.set_cons_succ, i64_w, i32_w]; rfl
            refine pure_ (i := 5) (N := some 112) (v := ?_) (a' := ?_) #[true, true, true, true, true, true, false, false, true, false, false] rfl rfl (any_of HT_.out (by kernel_rfl)) (fun _ _ _ h => h) (Or.inl ⟨by rfl, ?_⟩) ?_ ?_; rotate_left
            ·intro w'; go_simp; with_reducible rfl
            rotate_left
            ·simp only [Act.put, List.setIfInBounds_toArray, List.set_cons_zero, List.set_cons_succ, i64_w, i32_w]; rfl
            refine pure_ (i := 6) (N := some 118) (v := ?_) (a' := ?_) #[true, true, true, true, true, true, true, false, true, false, false] rfl rfl (any_of HT_.out (by kernel_rfl)) (fun _ _ _ h => h) (Or.inl ⟨by rfl, ?_⟩) ?_ ?_; rotate_left
            ·intro w'; go_simp; with_reducible rfl
            rotate_left
            ·simp only [Act.put, List.setIfInBounds_toArray, List.set_cons_zero, List.set_cons_succ, i64_w, i32_w]; rfl
            refine pure_ (i := 7) (N := some 119) (v := ?_) (a' := ?_) #[true, true, true, true, true, true, true, true, true, false, false] rfl rfl (any_of HT_.out (by kernel_rfl)) (fun _ _ _ h => h) (Or.inl ⟨by rfl, ?_⟩) ?_ ?_; rotate_left
            ·intro w'; go_simp; with_reducible rfl
            rotate_left
            ·simp only [Act.put, List.setIfInBounds_toArray, List.set_cons_zero, List.set_cons_succ, i64_w, i32_w]; rfl
            exact norm_ (by simp only [putAll, Act.put, List.setIfInBounds_toArray, List.set_cons_zero, List.set_cons_succ]) (hCont (.slice A231 t229_1.length c232, .slice A235 t229_2.length c236, .slice A241 t239_1.length c242, .slice A245 t239_2.length c246, g249) _ ⟨hHeld, ⟨_, _, rfl, CR233.out.2, CR233.out.1⟩, ⟨_, _, rfl, CR237.out.2, CR237.out.1⟩, ⟨_, _, rfl, CR243.out.2, CR243.out.1⟩, ⟨_, _, rfl, CR247.out.2, CR247.out.1⟩, ⟨HGg249.out, HLg249.out⟩⟩)
          rintro ⟨v234, v238, v244, v248, g249⟩ w250 ⟨hHeld, hF0_, hF1_, hF2_, hF3_, hF4_⟩
          dsimp only at hF0_ hF1_ hF2_ hF3_ hF4_
          obtain ⟨A231, c232, hv_, hl_, hf_⟩ := hF0_; have CR233 := Aside0.mk (And.intro hf_ hl_); clear hf_ hl_; subst hv_
          obtain ⟨A235, c236, hv_, hl_, hf_⟩ := hF1_; have CR237 := Aside0.mk (And.intro hf_ hl_); clear hf_ hl_; subst hv_
          obtain ⟨A241, c242, hv_, hl_, hf_⟩ := hF2_; have CR243 := Aside0.mk (And.intro hf_ hl_); clear hf_ hl_; subst hv_
          obtain ⟨A245, c246, hv_, hl_, hf_⟩ := hF3_; have CR247 := Aside0.mk (And.intro hf_ hl_); clear hf_ hl_; subst hv_
          have HG := Aside0.mk hF4_; clear hF4_
          refine norm_ (a' := ?_) ?_ ?_; rotate_left
          ·simp only [putAll, Act.put, List.setIfInBounds_toArray, List.set_cons_zero, List.set_cons_succ]; rfl
          refine one_ (i := 9) (N := none) #[true, true, true, true, true, true, true, true, true, true, false] rfl rfl (one_of HT_.out (by kernel_rfl)) (by decide) (fun K hK => ?_)
          have y0 : w250.cell? ⟨g249, 0, none⟩ = some (.slice none 0 0) := (blk_cell HG.out.1 0).trans rfl; have u0 := blk_frozen HG.out.1 0; have y1 : w250.cell? ⟨g249, 1, none⟩ = some (.slice none 0 0) := (blk_cell HG.out.1 1).trans rfl; have u1 := blk_frozen HG.out.1 1
          refine skip_ (w1 := ?_) (by rfl) rfl ?_ ?_; rotate_left
          ·go_simp; rfl
          have HB2 := Aside0.mk (hf_st2 hHeld HG.out.2 (.slice A241 t239_1.length c242) (.slice A245 t239_2.length c246))
          have CR233 := Aside0.mk (And.intro (hf_F5a CR233.out.1 (.slice A241 t239_1.length c242) (.slice A245 t239_2.length c246)) CR233.out.2)
          have CR237 := Aside0.mk (And.intro (hf_F5a CR237.out.1 (.slice A241 t239_1.length c242) (.slice A245 t239_2.length c246)) CR237.out.2)
          have CR243 := Aside0.mk (And.intro (hf_F5a CR243.out.1 (.slice A241 t239_1.length c242) (.slice A245 t239_2.length c246)) CR243.out.2)
          have CR247 := Aside0.mk (And.intro (hf_F5a CR247.out.1 (.slice A241 t239_1.length c242) (.slice A245 t239_2.length c246)) CR247.out.2)
          have HG := Aside0.mk (And.intro (hf_z2 HG.out.1 (.slice A241 t239_1.length c242) (.slice A245 t239_2.length c246)) HG.out.2)
          refine hK.out _ _ HB2.out (fun hHeld => ?_); clear hK K HB2 y0 u0 y1 u1
          generalize (w250.setCell _ _).setCell _ _ = w251 at hHeld HG CR233 CR237 CR243 CR247 ⊢
          refine pure_ (i := 10) (N := some 18) (v := ?_) (a' := ?_) #[true, true, true, true, true, true, true, true, true, true, true] rfl rfl (any_of HT_.out (by kernel_rfl)) (fun _ _ _ h => h) (Or.inl ⟨by rfl, ?_⟩) ?_ ?_; rotate_left
          ·intro w'; go_simp; with_reducible rfl
          rotate_left
          ·simp only [Act.put, List.setIfInBounds_toArray, List.set_cons_zero, List.set_cons_succ, i64_w, i32_w]; rfl
          refine done_ (done_of HT_.out (by kernel_rfl)) ?_
          have CR233 := Aside0.mk (And.intro (Kd.F_now CR233.out.1) CR233.out.2)
          have CR237 := Aside0.mk (And.intro (Kd.F_now CR237.out.1) CR237.out.2)
          have CR243 := Aside0.mk (And.intro (Kd.F_now CR243.out.1) CR243.out.2)
          have CR247 := Aside0.mk (And.intro (Kd.F_now CR247.out.1) CR247.out.2)
          have CRa0_0 := Aside0.mk (And.intro (Kd.C_below CRa0_0.out.1 hHeld) CRa0_0.out.2)
          have CRa0_1 := Aside0.mk (And.intro (Kd.C_below CRa0_1.out.1 hHeld) CRa0_1.out.2)
          have CR143 := Aside0.mk (And.intro (Kd.C_below CR143.out.1 hHeld) CR143.out.2)
          have CR147 := Aside0.mk (And.intro (Kd.C_below CR147.out.1 hHeld) CR147.out.2)
          have CR153 := Aside0.mk (And.intro (Kd.C_below CR153.out.1 hHeld) CR153.out.2)
          have CR157 := Aside0.mk (And.intro (Kd.C_below CR157.out.1 hHeld) CR157.out.2)
          have CR167 := Aside0.mk (And.intro (Kd.C_below CR167.out.1 hHeld) CR167.out.2)
          have CR171 := Aside0.mk (And.intro (Kd.C_below CR171.out.1 hHeld) CR171.out.2)
          have CR177 := Aside0.mk (And.intro (Kd.C_below CR177.out.1 hHeld) CR177.out.2)
          have CR181 := Aside0.mk (And.intro (Kd.C_below CR181.out.1 hHeld) CR181.out.2)
          have CR191 := Aside0.mk (And.intro (Kd.C_below CR191.out.1 hHeld) CR191.out.2)
          have CR195 := Aside0.mk (And.intro (Kd.C_below CR195.out.1 hHeld) CR195.out.2)
          have CR201 := Aside0.mk (And.intro (Kd.C_below CR201.out.1 hHeld) CR201.out.2)
          have CR205 := Aside0.mk (And.intro (Kd.C_below CR205.out.1 hHeld) CR205.out.2)
          have HS := Aside0.mk (BxS.add HS.out hHeld HG.out.1 HG.out.2)
          clear hHeld HG
          have z0_0 : w251.cell? ⟨w.heap.size, 0, none⟩ = some (.slice (some ad227) l0_0.length c0_0) := (blk_cell (HS.out.at_ 4 rfl) 0).trans rfl; have z0_1 : w251.cell? ⟨w.heap.size, 1, none⟩ = some (.slice A0_1 l0_1.length c0_1) := (blk_cell (HS.out.at_ 4 rfl) 1).trans rfl; have z1_0 : w251.cell? ⟨g159, 0, none⟩ = some (.slice A151 t149_1.length c152) := (blk_cell (HS.out.at_ 3 rfl) 0).trans rfl; have z1_1 : w251.cell? ⟨g159, 1, none⟩ = some (.slice A155 t149_2.length c156) := (blk_cell (HS.out.at_ 3 rfl) 1).trans rfl; have z2_0 : w251.cell? ⟨g183, 0, none⟩ = some (.slice A175 t173_1.length c176) := (blk_cell (HS.out.at_ 2 rfl) 0).trans rfl; have z2_1 : w251.cell? ⟨g183, 1, none⟩ = some (.slice A179 t173_2.length c180) := (blk_cell (HS.out.at_ 2 rfl) 1).trans rfl; have z3_0 : w251.cell? ⟨g207, 0, none⟩ = some (.slice A199 t197_1.length c200) := (blk_cell (HS.out.at_ 1 rfl) 0).trans rfl; have z3_1 : w251.cell? ⟨g207, 1, none⟩ = some (.slice A203 t197_2.length c204) := (blk_cell (HS.out.at_ 1 rfl) 1).trans rfl; have z4_0 : w251.cell? ⟨g249, 0, none⟩ = some (.slice A241 t239_1.length c242) := (blk_cell (HS.out.at_ 0 rfl) 0).trans rfl; have z4_1 : w251.cell? ⟨g249, 1, none⟩ = some (.slice A245 t239_2.length c246) := (blk_cell (HS.out.at_ 0 rfl) 1).trans rfl
          by_cases q252 : t239_3 = 0
          ·rw [if_pos q252] at h
           have q252b0 := (beq_iff_eq.2 q252 : (t239_3 == 0) = true)
           have Iq252 := Aside0.mk q252
           clear q252
           obtain ⟨t253, q_, h_⟩ := Option.bind_eq_some_iff.1 h; clear h; have h := h_; clear h_; have E254 := Aside0.mk q_; clear q_
           cases t253 with
           | true =>
            rw [if_pos rfl] at h
            obtain ⟨t256, q_, h_⟩ := Option.bind_eq_some_iff.1 h; clear h; have h := h_; clear h_; have E257 := Aside0.mk q_; clear q_
            obtain rfl := Option.some.inj h
            go_wp2_with (first | (go_at_call 13; (with_reducible refine (triglyphref03_Same.calls k (some ad227) c0_0 l0_0 A0_1 c0_1 l0_1 A241 c242 t239_1 A245 c246 t239_2 _ _ CRa0_0.out.1 CRa0_0.out.2 CRa0_1.out.1 CRa0_1.out.2 CR243.out.1 CR243.out.2 CR247.out.1 CR247.out.2 E254.out).mono ?_); rintro e w255 ⟨rfl, hb⟩; have CRa0_0 := Aside0.mk (And.intro (Kd.C_below CRa0_0.out.1 hb) CRa0_0.out.2); have CRa0_1 := Aside0.mk (And.intro (Kd.C_below CRa0_1.out.1 hb) CRa0_1.out.2); have CR143 := Aside0.mk (And.intro (Kd.C_below CR143.out.1 hb) CR143.out.2); have CR147 := Aside0.mk (And.intro (Kd.C_below CR147.out.1 hb) CR147.out.2); have CR153 := Aside0.mk (And.intro (Kd.C_below CR153.out.1 hb) CR153.out.2); have CR157 := Aside0.mk (And.intro (Kd.C_below CR157.out.1 hb) CR157.out.2); have CR167 := Aside0.mk (And.intro (Kd.C_below CR167.out.1 hb) CR167.out.2); have CR171 := Aside0.mk (And.intro (Kd.C_below CR171.out.1 hb) CR171.out.2); have CR177 := Aside0.mk (And.intro (Kd.C_below CR177.out.1 hb) CR177.out.2); have CR181 := Aside0.mk (And.intro (Kd.C_below CR181.out.1 hb) CR181.out.2); have CR191 := Aside0.mk (And.intro (Kd.C_below CR191.out.1 hb) CR191.out.2); have CR195 := Aside0.mk (And.intro (Kd.C_below CR195.out.1 hb) CR195.out.2); have CR201 := Aside0.mk (And.intro (Kd.C_below CR201.out.1 hb) CR201.out.2); have CR205 := Aside0.mk (And.intro (Kd.C_below CR205.out.1 hb) CR205.out.2); have CR233 := Aside0.mk (And.intro (Kd.C_below CR233.out.1 hb) CR233.out.2); have CR237 := Aside0.mk (And.intro (Kd.C_below CR237.out.1 hb) CR237.out.2); have CR243 := Aside0.mk (And.intro (Kd.C_below CR243.out.1 hb) CR243.out.2); have CR247 := Aside0.mk (And.intro (Kd.C_below CR247.out.1 hb) CR247.out.2); have HS := Aside0.mk (HS.out.step hb); clear hb; (try clear z0_0 z0_1 z1_0 z1_1 z2_0 z2_1 z3_0 z3_1 z4_0 z4_1); have z0_0 : w255.cell? ⟨w.heap.size, 0, none⟩ = some (.slice (some ad227) l0_0.length c0_0) := (blk_cell (HS.out.at_ 4 rfl) 0).trans rfl; have z0_1 : w255.cell? ⟨w.heap.size, 1, none⟩ = some (.slice A0_1 l0_1.length c0_1) := (blk_cell (HS.out.at_ 4 rfl) 1).trans rfl; have z1_0 : w255.cell? ⟨g159, 0, none⟩ = some (.slice A151 t149_1.length c152) := (blk_cell (HS.out.at_ 3 rfl) 0).trans rfl; have z1_1 : w255.cell? ⟨g159, 1, none⟩ = some (.slice A155 t149_2.length c156) := (blk_cell (HS.out.at_ 3 rfl) 1).trans rfl; have z2_0 : w255.cell? ⟨g183, 0, none⟩ = some (.slice A175 t173_1.length c176) := (blk_cell (HS.out.at_ 2 rfl) 0).trans rfl; have z2_1 : w255.cell? ⟨g183, 1, none⟩ = some (.slice A179 t173_2.length c180) := (blk_cell (HS.out.at_ 2 rfl) 1).trans rfl; have z3_0 : w255.cell? ⟨g207, 0, none⟩ = some (.slice A199 t197_1.length c200) := (blk_cell (HS.out.at_ 1 rfl) 0).trans rfl; have z3_1 : w255.cell? ⟨g207, 1, none⟩ = some (.slice A203 t197_2.length c204) := (blk_cell (HS.out.at_ 1 rfl) 1).trans rfl; have z4_0 : w255.cell? ⟨g249, 0, none⟩ = some (.slice A241 t239_1.length c242) := (blk_cell (HS.out.at_ 0 rfl) 0).trans rfl; have z4_1 : w255.cell? ⟨g249, 1, none⟩ = some (.slice A245 t239_2.length c246) := (blk_cell (HS.out.at_ 0 rfl) 1).trans rfl) | (go_at_call 10; (with_reducible refine (triglyphlaw06_works.calls k _ _ E257.out).mono ?_); rintro e w258 ⟨rfl, hb⟩; have CRa0_0 := Aside0.mk (And.intro (Kd.C_below CRa0_0.out.1 hb) CRa0_0.out.2); have CRa0_1 := Aside0.mk (And.intro (Kd.C_below CRa0_1.out.1 hb) CRa0_1.out.2); have CR143 := Aside0.mk (And.intro (Kd.C_below CR143.out.1 hb) CR143.out.2); have CR147 := Aside0.mk (And.intro (Kd.C_below CR147.out.1 hb) CR147.out.2); have CR153 := Aside0.mk (And.intro (Kd.C_below CR153.out.1 hb) CR153.out.2); have CR157 := Aside0.mk (And.intro (Kd.C_below CR157.out.1 hb) CR157.out.2); have CR167 := Aside0.mk (And.intro (Kd.C_below CR167.out.1 hb) CR167.out.2); have CR171 := Aside0.mk (And.intro (Kd.C_below CR171.out.1 hb) CR171.out.2); have CR177 := Aside0.mk (And.intro (Kd.C_below CR177.out.1 hb) CR177.out.2); have CR181 := Aside0.mk (And.intro (Kd.C_below CR181.out.1 hb) CR181.out.2); have CR191 := Aside0.mk (And.intro (Kd.C_below CR191.out.1 hb) CR191.out.2); have CR195 := Aside0.mk (And.intro (Kd.C_below CR195.out.1 hb) CR195.out.2); have CR201 := Aside0.mk (And.intro (Kd.C_below CR201.out.1 hb) CR201.out.2); have CR205 := Aside0.mk (And.intro (Kd.C_below CR205.out.1 hb) CR205.out.2); have CR233 := Aside0.mk (And.intro (Kd.C_below CR233.out.1 hb) CR233.out.2); have CR237 := Aside0.mk (And.intro (Kd.C_below CR237.out.1 hb) CR237.out.2); have CR243 := Aside0.mk (And.intro (Kd.C_below CR243.out.1 hb) CR243.out.2); have CR247 := Aside0.mk (And.intro (Kd.C_below CR247.out.1 hb) CR247.out.2); have HS := Aside0.mk (HS.out.step hb); clear hb; (try clear z0_0 z0_1 z1_0 z1_1 z2_0 z2_1 z3_0 z3_1 z4_0 z4_1); have z0_0 : w258.cell? ⟨w.heap.size, 0, none⟩ = some (.slice (some ad227) l0_0.length c0_0) := (blk_cell (HS.out.at_ 4 rfl) 0).trans rfl; have z0_1 : w258.cell? ⟨w.heap.size, 1, none⟩ = some (.slice A0_1 l0_1.length c0_1) := (blk_cell (HS.out.at_ 4 rfl) 1).trans rfl; have z1_0 : w258.cell? ⟨g159, 0, none⟩ = some (.slice A151 t149_1.length c152) := (blk_cell (HS.out.at_ 3 rfl) 0).trans rfl; have z1_1 : w258.cell? ⟨g159, 1, none⟩ = some (.slice A155 t149_2.length c156) := (blk_cell (HS.out.at_ 3 rfl) 1).trans rfl; have z2_0 : w258.cell? ⟨g183, 0, none⟩ = some (.slice A175 t173_1.length c176) := (blk_cell (HS.out.at_ 2 rfl) 0).trans rfl; have z2_1 : w258.cell? ⟨g183, 1, none⟩ = some (.slice A179 t173_2.length c180) := (blk_cell (HS.out.at_ 2 rfl) 1).trans rfl; have z3_0 : w258.cell? ⟨g207, 0, none⟩ = some (.slice A199 t197_1.length c200) := (blk_cell (HS.out.at_ 1 rfl) 0).trans rfl; have z3_1 : w258.cell? ⟨g207, 1, none⟩ = some (.slice A203 t197_2.length c204) := (blk_cell (HS.out.at_ 1 rfl) 1).trans rfl; have z4_0 : w258.cell? ⟨g249, 0, none⟩ = some (.slice A241 t239_1.length c242) := (blk_cell (HS.out.at_ 0 rfl) 0).trans rfl; have z4_1 : w258.cell? ⟨g249, 1, none⟩ = some (.slice A245 t239_2.length c246) := (blk_cell (HS.out.at_ 0 rfl) 1).trans rfl))
            go_ret
            exact ⟨rfl, HS.out.bel⟩
           | false =>
            rw [if_neg (by decide)] at h
            cases h
          ·rw [if_neg q252] at h
           cases h
         ·rw [if_neg q226] at h
          cases h
       | false =>
        rw [if_neg (by decide)] at h
        cases h
      ·rw [if_neg q212] at h
       cases h
     ·rw [if_neg q211] at h
      cases h
    ·rw [if_neg q210] at h
     cases h
  ·rw [if_neg q8] at h
   have q8b0 := (bne_iff_ne.2 q8 : (t5 != 0) = true)
   have Iq8 := Aside0.mk q8
   clear q8
   obtain ⟨t265, q_, h_⟩ := Option.bind_eq_some_iff.1 h; clear h; have h := h_; clear h_; have E266 := Aside0.mk q_; clear q_
   obtain rfl := Option.some.inj h
   go_wp2_with (first | (go_at_call 9; (with_reducible refine (triglyphlaw06_light.calls k A0_0 c0_0 l0_0 A0_1 c0_1 l0_1 _ _ CRa0_0.out.1 CRa0_0.out.2 CRa0_1.out.1 CRa0_1.out.2 E3.out).mono ?_); rintro e w4 ⟨rfl, hb⟩; have CRa0_0 := Aside0.mk (And.intro (Kd.C_below CRa0_0.out.1 hb) CRa0_0.out.2); have CRa0_1 := Aside0.mk (And.intro (Kd.C_below CRa0_1.out.1 hb) CRa0_1.out.2); have HS := Aside0.mk (HS.out.step hb); clear hb; (try clear z0_0 z0_1); have z0_0 : w4.cell? ⟨w.heap.size, 0, none⟩ = some (.slice A0_0 l0_0.length c0_0) := (blk_cell (HS.out.at_ 0 rfl) 0).trans rfl; have z0_1 : w4.cell? ⟨w.heap.size, 1, none⟩ = some (.slice A0_1 l0_1.length c0_1) := (blk_cell (HS.out.at_ 0 rfl) 1).trans rfl) | (go_at_call 14; (with_reducible refine (triglyphref03_Check.calls k A0_0 c0_0 l0_0 A0_1 c0_1 l0_1 _ _ CRa0_0.out.1 CRa0_0.out.2 CRa0_1.out.1 CRa0_1.out.2 E6.out).mono ?_); rintro e w7 ⟨rfl, hb⟩; have CRa0_0 := Aside0.mk (And.intro (Kd.C_below CRa0_0.out.1 hb) CRa0_0.out.2); have CRa0_1 := Aside0.mk (And.intro (Kd.C_below CRa0_1.out.1 hb) CRa0_1.out.2); have HS := Aside0.mk (HS.out.step hb); clear hb; (try clear z0_0 z0_1); have z0_0 : w7.cell? ⟨w.heap.size, 0, none⟩ = some (.slice A0_0 l0_0.length c0_0) := (blk_cell (HS.out.at_ 0 rfl) 0).trans rfl; have z0_1 : w7.cell? ⟨w.heap.size, 1, none⟩ = some (.slice A0_1 l0_1.length c0_1) := (blk_cell (HS.out.at_ 0 rfl) 1).trans rfl) | (go_at_call 10; (with_reducible refine (triglyphlaw06_works.calls k _ _ E266.out).mono ?_); rintro e w267 ⟨rfl, hb⟩; have CRa0_0 := Aside0.mk (And.intro (Kd.C_below CRa0_0.out.1 hb) CRa0_0.out.2); have CRa0_1 := Aside0.mk (And.intro (Kd.C_below CRa0_1.out.1 hb) CRa0_1.out.2); have HS := Aside0.mk (HS.out.step hb); clear hb; (try clear z0_0 z0_1); have z0_0 : w267.cell? ⟨w.heap.size, 0, none⟩ = some (.slice A0_0 l0_0.length c0_0) := (blk_cell (HS.out.at_ 0 rfl) 0).trans rfl; have z0_1 : w267.cell? ⟨w.heap.size, 1, none⟩ = some (.slice A0_1 l0_1.length c0_1) := (blk_cell (HS.out.at_ 0 rfl) 1).trans rfl))
   go_ret
   exact ⟨rfl, HS.out.bel⟩
 | false =>
  rw [if_neg (by decide)] at h
  obtain ⟨t268, q_, h_⟩ := Option.bind_eq_some_iff.1 h; clear h; have h := h_; clear h_; have E269 := Aside0.mk q_; clear q_
  obtain rfl := Option.some.inj h
  go_wp2_with (first | (go_at_call 9; (with_reducible refine (triglyphlaw06_light.calls k A0_0 c0_0 l0_0 A0_1 c0_1 l0_1 _ _ CRa0_0.out.1 CRa0_0.out.2 CRa0_1.out.1 CRa0_1.out.2 E3.out).mono ?_); rintro e w4 ⟨rfl, hb⟩; have CRa0_0 := Aside0.mk (And.intro (Kd.C_below CRa0_0.out.1 hb) CRa0_0.out.2); have CRa0_1 := Aside0.mk (And.intro (Kd.C_below CRa0_1.out.1 hb) CRa0_1.out.2); have HS := Aside0.mk (HS.out.step hb); clear hb; (try clear z0_0 z0_1); have z0_0 : w4.cell? ⟨w.heap.size, 0, none⟩ = some (.slice A0_0 l0_0.length c0_0) := (blk_cell (HS.out.at_ 0 rfl) 0).trans rfl; have z0_1 : w4.cell? ⟨w.heap.size, 1, none⟩ = some (.slice A0_1 l0_1.length c0_1) := (blk_cell (HS.out.at_ 0 rfl) 1).trans rfl) | (go_at_call 10; (with_reducible refine (triglyphlaw06_works.calls k _ _ E269.out).mono ?_); rintro e w270 ⟨rfl, hb⟩; have CRa0_0 := Aside0.mk (And.intro (Kd.C_below CRa0_0.out.1 hb) CRa0_0.out.2); have CRa0_1 := Aside0.mk (And.intro (Kd.C_below CRa0_1.out.1 hb) CRa0_1.out.2); have HS := Aside0.mk (HS.out.step hb); clear hb; (try clear z0_0 z0_1); have z0_0 : w270.cell? ⟨w.heap.size, 0, none⟩ = some (.slice A0_0 l0_0.length c0_0) := (blk_cell (HS.out.at_ 0 rfl) 0).trans rfl; have z0_1 : w270.cell? ⟨w.heap.size, 1, none⟩ = some (.slice A0_1 l0_1.length c0_1) := (blk_cell (HS.out.at_ 0 rfl) 1).trans rfl))
  go_ret
  exact ⟨rfl, HS.out.bel⟩
end Go.Proofs.Ytdihmempaonfjaa.P
