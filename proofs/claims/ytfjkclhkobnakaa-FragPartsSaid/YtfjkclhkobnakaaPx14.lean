/- Written by a program of this session: the functions that the laws reach, what each comes to, and each law as it is stated, for every input. No condition. -/
import Derived.Test.YtfjkclhkobnakaaPx0
import Derived.Test.YtfjkclhkobnakaaPx1
import Derived.Test.YtfjkclhkobnakaaPx7
import Derived.Test.YtfjkclhkobnakaaPx8
import Derived.Test.YtfjkclhkobnakaaPx13
namespace Go.Proofs.Ytfjkclhkobnakaa.P
open Go.RowKit Go.Proofs.YtfjkclhkobnakaaW.PrintWords Go.Proofs.YtfjkclhkobnakaaW.PrintLast Go.Proofs.YtfjkclhkobnakaaW.PrintMore
attribute [local go_sem] max2_int min2_int max_two min_two max_three min_three max_four min_four   -- for this text's walks alone
set_option linter.unusedVariables false
set_option linter.unusedSimpArgs false
mutual
def triglyphlaw24_FragParts.j0 : Nat → Int → Bool → Int → Int → ByteArray → List Int → List (S57) → List (S28) → Int → Option (Bool)
 | 0, _, _, _, _, _, _, _, _, _ => none
 | k + 1, x5, x34, x242000, x242001, x242002, x242003, x242004, x242005, x242006 => if x34 = true then ((triglyphlaw24_works.f k).bind fun t250 => (some t250)) else (triglyphlaw24_FragParts.l0 k x5 1 x242000 x242001 x242002 x242003 x242004 x242005 x242006)
def triglyphlaw24_FragParts.l0 : Nat → Int → Int → Int → Int → ByteArray → List Int → List (S57) → List (S28) → Int → Option (Bool)
 | 0, _, _, _, _, _, _, _, _, _ => none
 | k + 1, x5, x6, x242000, x242001, x242002, x242003, x242004, x242005, x242006 => if x6 < (x242005.length : Int) then (if 0 ≤ x6 then ((frag_Fits.f k x5 ((rd_T28 x242005 x6).f0) ((rd_T28 x242005 x6).f1) ((rd_T28 x242005 x6).f2) ((rd_T28 x242005 x6).f3.f0) ((rd_T28 x242005 x6).f3.f1) ((rd_T28 x242005 x6).f4) ((rd_T28 x242005 x6).f5)).bind fun bt252 => (if bt252.1 = 0 then (triglyphlaw24_FragParts.l0 k x5 (wrap64 (x6 + 1)) x242000 x242001 x242002 x242003 x242004 x242005 x242006) else (none))) else (none)) else ((triglyphlaw24_works.f k).bind fun t255 => (some t255))
end
def triglyphlaw24_FragParts.f (k : Nat) (a0 : Int) (a1_0 : Int) (a1_1 : Int) (a1_2 : ByteArray) (l1_3 : List Int) (l1_4 : List (S57)) (l1_5 : List (S28)) (a1_6 : Int) : Option (Bool) := (triglyphlaw24_light.f k a1_0 a1_1 a1_2 l1_3 l1_4 l1_5 a1_6).bind fun t242 => (if t242 = true then ((triglyphref10_Check.f k a1_0 a1_1 a1_2 l1_3 l1_4 l1_5 a1_6).bind fun t243 => (if t243 = 0 then (if a1_0 = 5 then ((frag_Fits.f k (Int.tmod (wrap64 (a0)) 3) a1_0 a1_1 a1_2 l1_3 l1_4 l1_5 a1_6).bind fun bt244 => (triglyphlaw24_FragParts.j0 k (Int.tmod (wrap64 (a0)) 3) (bt244.1 != 0) a1_0 a1_1 a1_2 l1_3 l1_4 l1_5 a1_6)) else (if a1_0 = 6 then ((frag_Fits.f k (Int.tmod (wrap64 (a0)) 3) a1_0 a1_1 a1_2 l1_3 l1_4 l1_5 a1_6).bind fun bt247 => (triglyphlaw24_FragParts.j0 k (Int.tmod (wrap64 (a0)) 3) (bt247.1 != 0) a1_0 a1_1 a1_2 l1_3 l1_4 l1_5 a1_6)) else (triglyphlaw24_FragParts.j0 k (Int.tmod (wrap64 (a0)) 3) true a1_0 a1_1 a1_2 l1_3 l1_4 l1_5 a1_6))) else (triglyphlaw24_FragParts.j0 k (Int.tmod (wrap64 (a0)) 3) true a1_0 a1_1 a1_2 l1_3 l1_4 l1_5 a1_6))) else (triglyphlaw24_FragParts.j0 k (Int.tmod (wrap64 (a0)) 3) true a1_0 a1_1 a1_2 l1_3 l1_4 l1_5 a1_6))
theorem triglyphlaw24_FragParts.mono_l : ∀ k, (∀ y0 y1 y2 y3 y4 y5 y6 y7 y8, LeO (triglyphlaw24_FragParts.j0 k y0 y1 y2 y3 y4 y5 y6 y7 y8) (triglyphlaw24_FragParts.j0 (k + 1) y0 y1 y2 y3 y4 y5 y6 y7 y8)) ∧ (∀ y0 y1 y2 y3 y4 y5 y6 y7 y8, LeO (triglyphlaw24_FragParts.l0 k y0 y1 y2 y3 y4 y5 y6 y7 y8) (triglyphlaw24_FragParts.l0 (k + 1) y0 y1 y2 y3 y4 y5 y6 y7 y8))
 | 0 => ⟨fun _ _ _ _ _ _ _ _ _ r h => by simp [triglyphlaw24_FragParts.j0] at h, fun _ _ _ _ _ _ _ _ _ r h => by simp [triglyphlaw24_FragParts.l0] at h⟩
 | k + 1 => by
  obtain ⟨ih0, ih1⟩ := triglyphlaw24_FragParts.mono_l k
  refine ⟨?_, ?_⟩
  ·intro y0 y1 y2 y3 y4 y5 y6 y7 y8
   unfold triglyphlaw24_FragParts.j0
   repeat' first
   | (with_reducible exact ih0 _ _ _ _ _ _ _ _ _)
   | (with_reducible exact ih1 _ _ _ _ _ _ _ _ _)
   | (with_reducible exact frag_Fits.mono _ _ _ _ _ _ _ _ _)
   | (with_reducible exact triglyphlaw24_light.mono _ _ _ _ _ _ _ _)
   | (with_reducible exact triglyphlaw24_works.mono _)
   | (with_reducible exact triglyphref10_Check.mono _ _ _ _ _ _ _ _)
   | (with_reducible exact LeO.refl _)
   | (with_reducible exact LeO.none _)
   | (with_reducible refine LeO.ite ?_ ?_)
   | (with_reducible refine LeO.bind ?_ (fun _ => ?_))


   | exact frag_Fits.mono _ _ _ _ _ _ _ _ _
   | exact triglyphlaw24_light.mono _ _ _ _ _ _ _ _
   | exact triglyphlaw24_works.mono _
   | exact triglyphref10_Check.mono _ _ _ _ _ _ _ _



  ·intro y0 y1 y2 y3 y4 y5 y6 y7 y8
   unfold triglyphlaw24_FragParts.l0
   repeat' first
   | (with_reducible exact ih0 _ _ _ _ _ _ _ _ _)
   | (with_reducible exact ih1 _ _ _ _ _ _ _ _ _)
   | (with_reducible exact frag_Fits.mono _ _ _ _ _ _ _ _ _)
   | (with_reducible exact triglyphlaw24_light.mono _ _ _ _ _ _ _ _)
   | (with_reducible exact triglyphlaw24_works.mono _)
   | (with_reducible exact triglyphref10_Check.mono _ _ _ _ _ _ _ _)
   | (with_reducible exact LeO.refl _)
   | (with_reducible exact LeO.none _)
   | (with_reducible refine LeO.ite ?_ ?_)
   | (with_reducible refine LeO.bind ?_ (fun _ => ?_))


   | exact frag_Fits.mono _ _ _ _ _ _ _ _ _
   | exact triglyphlaw24_light.mono _ _ _ _ _ _ _ _
   | exact triglyphlaw24_works.mono _
   | exact triglyphref10_Check.mono _ _ _ _ _ _ _ _
theorem triglyphlaw24_FragParts.mono : ∀ a0 a1 a2 a3 a4 a5 a6 a7 k, LeO (triglyphlaw24_FragParts.f k a0 a1 a2 a3 a4 a5 a6 a7) (triglyphlaw24_FragParts.f (k + 1) a0 a1 a2 a3 a4 a5 a6 a7) := by
 intro a0 a1 a2 a3 a4 a5 a6 a7 k
 obtain ⟨ih0, ih1⟩ := triglyphlaw24_FragParts.mono_l k
 unfold triglyphlaw24_FragParts.f
 repeat' first
   | (with_reducible exact ih0 _ _ _ _ _ _ _ _ _)
   | (with_reducible exact ih1 _ _ _ _ _ _ _ _ _)
   | (with_reducible exact frag_Fits.mono _ _ _ _ _ _ _ _ _)
   | (with_reducible exact triglyphlaw24_light.mono _ _ _ _ _ _ _ _)
   | (with_reducible exact triglyphlaw24_works.mono _)
   | (with_reducible exact triglyphref10_Check.mono _ _ _ _ _ _ _ _)
   | (with_reducible exact LeO.refl _)
   | (with_reducible exact LeO.none _)
   | (with_reducible refine LeO.ite ?_ ?_)
   | (with_reducible refine LeO.bind ?_ (fun _ => ?_))


   | exact frag_Fits.mono _ _ _ _ _ _ _ _ _
   | exact triglyphlaw24_light.mono _ _ _ _ _ _ _ _
   | exact triglyphlaw24_works.mono _
   | exact triglyphref10_Check.mono _ _ _ _ _ _ _ _
set_option maxHeartbeats 8000000 in
set_option maxRecDepth 100000 in
theorem triglyphlaw24_FragParts.calls (k : Nat) (a0 : Int) (a1_0 : Int) (a1_1 : Int) (a1_2 : ByteArray) (A1_3 : Option Addr) (c1_3 : Nat) (l1_3 : List Int) (A1_4 : Option Addr) (c1_4 : Nat) (l1_4 : List (S57)) (A1_5 : Option Addr) (c1_5 : Nat) (l1_5 : List (S28)) (a1_6 : Int) (r : Bool) (w : World) (hr1_3 : Kd.C (Kd.int .i64) w A1_3 l1_3.length l1_3) (hc1_3 : l1_3.length ≤ c1_3) (hr1_4 : Kd.C k57 w A1_4 l1_4.length l1_4) (hc1_4 : l1_4.length ≤ c1_4) (hr1_5 : Kd.C k28 w A1_5 l1_5.length l1_5) (hc1_5 : l1_5.length ≤ c1_5) (h : triglyphlaw24_FragParts.f k a0 a1_0 a1_1 a1_2 l1_3 l1_4 l1_5 a1_6 = some r) :
  Calls Try.prog 5 #[.int .u8 a0, .agg #[.int .i64 a1_0, .int .i64 a1_1, .string a1_2, .slice A1_3 l1_3.length c1_3, .slice A1_4 l1_4.length c1_4, .slice A1_5 l1_5.length c1_5, .int .i64 a1_6]] w fun e w' => e = .returned (.bool r) ∧ Below w.heap.size w w' := by
 have hu28 := Try.underlying28
 have hfd33_0 := fun (x0 x1 x2 : Int) (w : World) => (show (Instr.field 33 (.agg #[.int .i64 x0, .int .i64 x1, .int .i64 x2]) 0).run Try.prog w = Result.ok (.int .i64 x0) w from rfl)
 have HR1_3 := gA hr1_3
 have HC1_3 := gA hc1_3
 clear hr1_3 hc1_3
 have HR1_4 := gA hr1_4
 have HC1_4 := gA hc1_4
 clear hr1_4 hc1_4
 have HR1_5 := gA hr1_5
 have HC1_5 := gA hc1_5
 clear hr1_5 hc1_5
 have HB := gA (Below.refl w.heap.size w)
 have H : ((triglyphlaw24_light.f k a1_0 a1_1 a1_2 l1_3 l1_4 l1_5 a1_6).bind fun t242 => (if t242 = true then ((triglyphref10_Check.f k a1_0 a1_1 a1_2 l1_3 l1_4 l1_5 a1_6).bind fun t243 => (if t243 = 0 then (if a1_0 = 5 then ((frag_Fits.f k (Int.tmod (wrap64 (a0)) 3) a1_0 a1_1 a1_2 l1_3 l1_4 l1_5 a1_6).bind fun bt244 => (triglyphlaw24_FragParts.j0 k (Int.tmod (wrap64 (a0)) 3) (bt244.1 != 0) a1_0 a1_1 a1_2 l1_3 l1_4 l1_5 a1_6)) else (if a1_0 = 6 then ((frag_Fits.f k (Int.tmod (wrap64 (a0)) 3) a1_0 a1_1 a1_2 l1_3 l1_4 l1_5 a1_6).bind fun bt247 => (triglyphlaw24_FragParts.j0 k (Int.tmod (wrap64 (a0)) 3) (bt247.1 != 0) a1_0 a1_1 a1_2 l1_3 l1_4 l1_5 a1_6)) else (triglyphlaw24_FragParts.j0 k (Int.tmod (wrap64 (a0)) 3) true a1_0 a1_1 a1_2 l1_3 l1_4 l1_5 a1_6))) else (triglyphlaw24_FragParts.j0 k (Int.tmod (wrap64 (a0)) 3) true a1_0 a1_1 a1_2 l1_3 l1_4 l1_5 a1_6))) else (triglyphlaw24_FragParts.j0 k (Int.tmod (wrap64 (a0)) 3) true a1_0 a1_1 a1_2 l1_3 l1_4 l1_5 a1_6))) = some r := h
 clear h
 have HC3 := gA H
 clear H
 go_enter Try.func5, Try.ntmps5
 go_upto_region 2 with (first | ((with_reducible refine gate_dst (N := 3) rfl ?_); refine box_event ?hg (N := 3) ?hd (cs := #[.int .i64 a1_0, .int .i64 a1_1, .string a1_2, .slice A1_3 l1_3.length c1_3, .slice A1_4 l1_4.length c1_4, .slice A1_5 l1_5.length c1_5, .int .i64 a1_6]) (t := 28) ?hr ?_; (case hd => rfl); (case hg => rfl); (case hr => first | (go_simp; done) | (go_simp; rfl)); intro gb241 hg w4 hbox hb; have BK241 := gA (hbox); have GW241 := gA ((by rw [hg]; exact (below_size (gB HB)) : w.heap.size ≤ gb241)); have GE241 := gA ((by rw [hg]; exact (below_size (gB HB)) : w.heap.size ≤ gb241)); replace HB := gA (below_step (gB HB) hb); clear hb hbox hg))
 (try simp only [Act.put, List.setIfInBounds_toArray, List.set_cons_zero, List.set_cons_succ])
 go_cut [34] (fun v34 wc => ∃ (kq : Nat) (x34_2 : Bool), v34 = .bool x34_2 ∧ Aside0 (triglyphlaw24_FragParts.j0 kq (Int.tmod (wrap64 (a0)) 3) x34_2 a1_0 a1_1 a1_2 l1_3 l1_4 l1_5 a1_6 = some r) ∧ Aside0 (kq ≤ k) ∧ Aside0 (wc.heap[gb241]? = some (.cells #[.int .i64 a1_0, .int .i64 a1_1, .string a1_2, (.slice A1_3 l1_3.length c1_3), (.slice A1_4 l1_4.length c1_4), (.slice A1_5 l1_5.length c1_5), .int .i64 a1_6] 28 (0, 0))) ∧ Aside0 (Below w.heap.size w wc))
 case first =>
  have H := HC3.out; clear HC3
  replace H := Option.bind_eq_some_iff.mp H
  obtain ⟨t242, A50, H⟩ := H
  replace H : (if t242 = true then ((triglyphref10_Check.f k a1_0 a1_1 a1_2 l1_3 l1_4 l1_5 a1_6).bind fun t243 => (if t243 = 0 then (if a1_0 = 5 then ((frag_Fits.f k (Int.tmod (wrap64 (a0)) 3) a1_0 a1_1 a1_2 l1_3 l1_4 l1_5 a1_6).bind fun bt244 => (triglyphlaw24_FragParts.j0 k (Int.tmod (wrap64 (a0)) 3) (bt244.1 != 0) a1_0 a1_1 a1_2 l1_3 l1_4 l1_5 a1_6)) else (if a1_0 = 6 then ((frag_Fits.f k (Int.tmod (wrap64 (a0)) 3) a1_0 a1_1 a1_2 l1_3 l1_4 l1_5 a1_6).bind fun bt247 => (triglyphlaw24_FragParts.j0 k (Int.tmod (wrap64 (a0)) 3) (bt247.1 != 0) a1_0 a1_1 a1_2 l1_3 l1_4 l1_5 a1_6)) else (triglyphlaw24_FragParts.j0 k (Int.tmod (wrap64 (a0)) 3) true a1_0 a1_1 a1_2 l1_3 l1_4 l1_5 a1_6))) else (triglyphlaw24_FragParts.j0 k (Int.tmod (wrap64 (a0)) 3) true a1_0 a1_1 a1_2 l1_3 l1_4 l1_5 a1_6))) else (triglyphlaw24_FragParts.j0 k (Int.tmod (wrap64 (a0)) 3) true a1_0 a1_1 a1_2 l1_3 l1_4 l1_5 a1_6)) = some r := H
  have A5 := gA A50
  clear A50
  by_cases c6 : t242 = true
  ·subst c6
   have H1 : ((triglyphref10_Check.f k a1_0 a1_1 a1_2 l1_3 l1_4 l1_5 a1_6).bind fun t243 => (if t243 = 0 then (if a1_0 = 5 then ((frag_Fits.f k (Int.tmod (wrap64 (a0)) 3) a1_0 a1_1 a1_2 l1_3 l1_4 l1_5 a1_6).bind fun bt244 => (triglyphlaw24_FragParts.j0 k (Int.tmod (wrap64 (a0)) 3) (bt244.1 != 0) a1_0 a1_1 a1_2 l1_3 l1_4 l1_5 a1_6)) else (if a1_0 = 6 then ((frag_Fits.f k (Int.tmod (wrap64 (a0)) 3) a1_0 a1_1 a1_2 l1_3 l1_4 l1_5 a1_6).bind fun bt247 => (triglyphlaw24_FragParts.j0 k (Int.tmod (wrap64 (a0)) 3) (bt247.1 != 0) a1_0 a1_1 a1_2 l1_3 l1_4 l1_5 a1_6)) else (triglyphlaw24_FragParts.j0 k (Int.tmod (wrap64 (a0)) 3) true a1_0 a1_1 a1_2 l1_3 l1_4 l1_5 a1_6))) else (triglyphlaw24_FragParts.j0 k (Int.tmod (wrap64 (a0)) 3) true a1_0 a1_1 a1_2 l1_3 l1_4 l1_5 a1_6))) = some r := by rw [if_pos rfl] at H; exact H
   clear H; have H := H1; clear H1
   replace H := Option.bind_eq_some_iff.mp H
   obtain ⟨t243, A70, H⟩ := H
   replace H : (if t243 = 0 then (if a1_0 = 5 then ((frag_Fits.f k (Int.tmod (wrap64 (a0)) 3) a1_0 a1_1 a1_2 l1_3 l1_4 l1_5 a1_6).bind fun bt244 => (triglyphlaw24_FragParts.j0 k (Int.tmod (wrap64 (a0)) 3) (bt244.1 != 0) a1_0 a1_1 a1_2 l1_3 l1_4 l1_5 a1_6)) else (if a1_0 = 6 then ((frag_Fits.f k (Int.tmod (wrap64 (a0)) 3) a1_0 a1_1 a1_2 l1_3 l1_4 l1_5 a1_6).bind fun bt247 => (triglyphlaw24_FragParts.j0 k (Int.tmod (wrap64 (a0)) 3) (bt247.1 != 0) a1_0 a1_1 a1_2 l1_3 l1_4 l1_5 a1_6)) else (triglyphlaw24_FragParts.j0 k (Int.tmod (wrap64 (a0)) 3) true a1_0 a1_1 a1_2 l1_3 l1_4 l1_5 a1_6))) else (triglyphlaw24_FragParts.j0 k (Int.tmod (wrap64 (a0)) 3) true a1_0 a1_1 a1_2 l1_3 l1_4 l1_5 a1_6)) = some r := H
   have A7 := gA A70
   clear A70
   by_cases c8 : t243 = 0
   ·rw [if_pos c8] at H
    have c8b0 : (t243 == 0) = true := beq_iff_eq.mpr c8
    have c8b1 : (t243 != 0) = false := bne_eq_false_iff_eq.mpr c8
    clear c8
    (first | rw [c8b0] | rw [c8b1] | (simp only [i64_w, i32_w]; rw [c8b0]) | skip)
    by_cases c9 : a1_0 = 5
    ·rw [if_pos c9] at H
     have c9b0 : (a1_0 == 5) = true := beq_iff_eq.mpr c9
     have c9b1 : (a1_0 != 5) = false := bne_eq_false_iff_eq.mpr c9
     clear c9
     replace H := Option.bind_eq_some_iff.mp H
     obtain ⟨⟨t244, t245, t246⟩, A100, H⟩ := H
     replace H : (triglyphlaw24_FragParts.j0 k (Int.tmod (wrap64 (a0)) 3) (t244 != 0) a1_0 a1_1 a1_2 l1_3 l1_4 l1_5 a1_6) = some r := H
     have A10 := gA A100
     clear A100
     have H' := gA H
     clear H
     have hcz11_0 := gz BK241 0 rfl
     have hcz11_1 := gz BK241 1 rfl
     have hcz11_2 := gz BK241 2 rfl
     have hcz11_3 := gz BK241 3 rfl
     have hcz11_4 := gz BK241 4 rfl
     have hcz11_5 := gz BK241 5 rfl
     have hcz11_6 := gz BK241 6 rfl
     have hfz11_0 := blk_frozen BK241.out 0
     have hfz11_1 := blk_frozen BK241.out 1
     have hfz11_2 := blk_frozen BK241.out 2
     have hfz11_3 := blk_frozen BK241.out 3
     have hfz11_4 := blk_frozen BK241.out 4
     have hfz11_5 := blk_frozen BK241.out 5
     have hfz11_6 := blk_frozen BK241.out 6
     go_wp2_with (first | ((with_reducible refine gate_callee (f := 6) rfl ?_); refine goesL_ (some 11) rfl rfl Try.func6 (by kernel_rfl) rfl #[.agg #[.int .i64 a1_0, .int .i64 a1_1, .string a1_2, .slice A1_3 l1_3.length c1_3, .slice A1_4 l1_4.length c1_4, .slice A1_5 l1_5.length c1_5, .int .i64 a1_6]] rfl (by (try simp only [List.map_toArray, List.map_cons, List.map_nil]); first | done | rfl | (simp only [List.length_drop, List.length_take]; rfl)) ?_; (with_reducible refine (triglyphlaw24_light.calls k a1_0 a1_1 a1_2 _ _ l1_3 _ _ l1_4 _ _ l1_5 a1_6 true _ ?side1 ?side2 ?side3 ?side4 ?side5 ?side6 A5.out).mono ?_); (case side1 => exact gC HR1_3 HB); (case side2 => exact HC1_3.out); (case side3 => exact gC HR1_4 HB); (case side4 => exact HC1_4.out); (case side5 => exact gC HR1_5 HB); (case side6 => exact HC1_5.out); rintro e w12 ⟨rfl, hb⟩; refine ⟨_, rfl, ?_⟩; replace BK241 := gA (blk_below (gK BK241) hb); replace HB := gA (below_step (gB HB) hb); (try clear hb); have hcz13_0 := gz BK241 0 rfl; have hcz13_1 := gz BK241 1 rfl; have hcz13_2 := gz BK241 2 rfl; have hcz13_3 := gz BK241 3 rfl; have hcz13_4 := gz BK241 4 rfl; have hcz13_5 := gz BK241 5 rfl; have hcz13_6 := gz BK241 6 rfl; have hfz13_0 := blk_frozen BK241.out 0; have hfz13_1 := blk_frozen BK241.out 1; have hfz13_2 := blk_frozen BK241.out 2; have hfz13_3 := blk_frozen BK241.out 3; have hfz13_4 := blk_frozen BK241.out 4; have hfz13_5 := blk_frozen BK241.out 5; have hfz13_6 := blk_frozen BK241.out 6) | (go_at_call 12; (with_reducible refine (triglyphref10_Check.calls k a1_0 a1_1 a1_2 _ _ l1_3 _ _ l1_4 _ _ l1_5 a1_6 t243 _ ?side1 ?side2 ?side3 ?side4 ?side5 ?side6 A7.out).mono ?_); (case side1 => exact gC HR1_3 HB); (case side2 => exact HC1_3.out); (case side3 => exact gC HR1_4 HB); (case side4 => exact HC1_4.out); (case side5 => exact gC HR1_5 HB); (case side6 => exact HC1_5.out); rintro e w14 ⟨rfl, hb⟩; replace BK241 := gA (blk_below (gK BK241) hb); replace HB := gA (below_step (gB HB) hb); (try clear hb); have hcz15_0 := gz BK241 0 rfl; have hcz15_1 := gz BK241 1 rfl; have hcz15_2 := gz BK241 2 rfl; have hcz15_3 := gz BK241 3 rfl; have hcz15_4 := gz BK241 4 rfl; have hcz15_5 := gz BK241 5 rfl; have hcz15_6 := gz BK241 6 rfl; have hfz15_0 := blk_frozen BK241.out 0; have hfz15_1 := blk_frozen BK241.out 1; have hfz15_2 := blk_frozen BK241.out 2; have hfz15_3 := blk_frozen BK241.out 3; have hfz15_4 := blk_frozen BK241.out 4; have hfz15_5 := blk_frozen BK241.out 5; have hfz15_6 := blk_frozen BK241.out 6) | (go_at_call 8; (with_reducible refine (frag_Fits.calls k (Int.tmod (wrap64 (a0)) 3) a1_0 a1_1 a1_2 _ _ l1_3 _ _ l1_4 _ _ l1_5 a1_6 t244 t245 t246 _ ?side1 ?side2 ?side3 ?side4 ?side5 ?side6 A10.out).mono ?_); (case side1 => exact gC HR1_3 HB); (case side2 => exact HC1_3.out); (case side3 => exact gC HR1_4 HB); (case side4 => exact HC1_4.out); (case side5 => exact gC HR1_5 HB); (case side6 => exact HC1_5.out); rintro e w16 ⟨rfl, hb⟩; replace BK241 := gA (blk_below (gK BK241) hb); replace HB := gA (below_step (gB HB) hb); (try clear hb)))
     all_goals (go_meet; (case rel => exact ⟨_, ((t244 != 0)), (by first | rfl | (simp; done) | (simp [*]; done) | (exfalso; simp_all; done) | (exfalso; simp_all; omega)), H', ⟨by first | omega | exact Nat.le_refl _⟩, ⟨gK BK241⟩, ⟨gB HB⟩⟩))
    ·rw [if_neg c9] at H
     have c9b0 : (a1_0 == 5) = false := beq_eq_false_iff_ne.mpr c9
     have c9b1 : (a1_0 != 5) = true := bne_iff_ne.mpr c9
     by_cases c17 : a1_0 = 6
     ·rw [if_pos c17] at H
      have c17b0 : (a1_0 == 6) = true := beq_iff_eq.mpr c17
      have c17b1 : (a1_0 != 6) = false := bne_eq_false_iff_eq.mpr c17
      clear c17
      replace H := Option.bind_eq_some_iff.mp H
      obtain ⟨⟨t247, t248, t249⟩, A180, H⟩ := H
      replace H : (triglyphlaw24_FragParts.j0 k (Int.tmod (wrap64 (a0)) 3) (t247 != 0) a1_0 a1_1 a1_2 l1_3 l1_4 l1_5 a1_6) = some r := H
      have A18 := gA A180
      clear A180
      have H' := gA H
      clear H
      have hcz19_0 := gz BK241 0 rfl
      have hcz19_1 := gz BK241 1 rfl
      have hcz19_2 := gz BK241 2 rfl
      have hcz19_3 := gz BK241 3 rfl
      have hcz19_4 := gz BK241 4 rfl
      have hcz19_5 := gz BK241 5 rfl
      have hcz19_6 := gz BK241 6 rfl
      have hfz19_0 := blk_frozen BK241.out 0
      have hfz19_1 := blk_frozen BK241.out 1
      have hfz19_2 := blk_frozen BK241.out 2
      have hfz19_3 := blk_frozen BK241.out 3
      have hfz19_4 := blk_frozen BK241.out 4
      have hfz19_5 := blk_frozen BK241.out 5
      have hfz19_6 := blk_frozen BK241.out 6
      go_wp2_with (first | ((with_reducible refine gate_callee (f := 6) rfl ?_); refine goesL_ (some 11) rfl rfl Try.func6 (by kernel_rfl) rfl #[.agg #[.int .i64 a1_0, .int .i64 a1_1, .string a1_2, .slice A1_3 l1_3.length c1_3, .slice A1_4 l1_4.length c1_4, .slice A1_5 l1_5.length c1_5, .int .i64 a1_6]] rfl (by (try simp only [List.map_toArray, List.map_cons, List.map_nil]); first | done | rfl | (simp only [List.length_drop, List.length_take]; rfl)) ?_; (with_reducible refine (triglyphlaw24_light.calls k a1_0 a1_1 a1_2 _ _ l1_3 _ _ l1_4 _ _ l1_5 a1_6 true _ ?side1 ?side2 ?side3 ?side4 ?side5 ?side6 A5.out).mono ?_); (case side1 => exact gC HR1_3 HB); (case side2 => exact HC1_3.out); (case side3 => exact gC HR1_4 HB); (case side4 => exact HC1_4.out); (case side5 => exact gC HR1_5 HB); (case side6 => exact HC1_5.out); rintro e w20 ⟨rfl, hb⟩; refine ⟨_, rfl, ?_⟩; replace BK241 := gA (blk_below (gK BK241) hb); replace HB := gA (below_step (gB HB) hb); (try clear hb); have hcz21_0 := gz BK241 0 rfl; have hcz21_1 := gz BK241 1 rfl; have hcz21_2 := gz BK241 2 rfl; have hcz21_3 := gz BK241 3 rfl; have hcz21_4 := gz BK241 4 rfl; have hcz21_5 := gz BK241 5 rfl; have hcz21_6 := gz BK241 6 rfl; have hfz21_0 := blk_frozen BK241.out 0; have hfz21_1 := blk_frozen BK241.out 1; have hfz21_2 := blk_frozen BK241.out 2; have hfz21_3 := blk_frozen BK241.out 3; have hfz21_4 := blk_frozen BK241.out 4; have hfz21_5 := blk_frozen BK241.out 5; have hfz21_6 := blk_frozen BK241.out 6) | (go_at_call 12; (with_reducible refine (triglyphref10_Check.calls k a1_0 a1_1 a1_2 _ _ l1_3 _ _ l1_4 _ _ l1_5 a1_6 t243 _ ?side1 ?side2 ?side3 ?side4 ?side5 ?side6 A7.out).mono ?_); (case side1 => exact gC HR1_3 HB); (case side2 => exact HC1_3.out); (case side3 => exact gC HR1_4 HB); (case side4 => exact HC1_4.out); (case side5 => exact gC HR1_5 HB); (case side6 => exact HC1_5.out); rintro e w22 ⟨rfl, hb⟩; replace BK241 := gA (blk_below (gK BK241) hb); replace HB := gA (below_step (gB HB) hb); (try clear hb); have hcz23_0 := gz BK241 0 rfl; have hcz23_1 := gz BK241 1 rfl; have hcz23_2 := gz BK241 2 rfl; have hcz23_3 := gz BK241 3 rfl; have hcz23_4 := gz BK241 4 rfl; have hcz23_5 := gz BK241 5 rfl; have hcz23_6 := gz BK241 6 rfl; have hfz23_0 := blk_frozen BK241.out 0; have hfz23_1 := blk_frozen BK241.out 1; have hfz23_2 := blk_frozen BK241.out 2; have hfz23_3 := blk_frozen BK241.out 3; have hfz23_4 := blk_frozen BK241.out 4; have hfz23_5 := blk_frozen BK241.out 5; have hfz23_6 := blk_frozen BK241.out 6) | (go_at_call 8; (with_reducible refine (frag_Fits.calls k (Int.tmod (wrap64 (a0)) 3) a1_0 a1_1 a1_2 _ _ l1_3 _ _ l1_4 _ _ l1_5 a1_6 t247 t248 t249 _ ?side1 ?side2 ?side3 ?side4 ?side5 ?side6 A18.out).mono ?_); (case side1 => exact gC HR1_3 HB); (case side2 => exact HC1_3.out); (case side3 => exact gC HR1_4 HB); (case side4 => exact HC1_4.out); (case side5 => exact gC HR1_5 HB); (case side6 => exact HC1_5.out); rintro e w24 ⟨rfl, hb⟩; replace BK241 := gA (blk_below (gK BK241) hb); replace HB := gA (below_step (gB HB) hb); (try clear hb)))
      all_goals (go_meet; (case rel => exact ⟨_, ((t247 != 0)), (by first | rfl | (simp; done) | (simp [*]; done) | (exfalso; simp_all; done) | (exfalso; simp_all; omega)), H', ⟨by first | omega | exact Nat.le_refl _⟩, ⟨gK BK241⟩, ⟨gB HB⟩⟩))
     ·rw [if_neg c17] at H
      have c17b0 : (a1_0 == 6) = false := beq_eq_false_iff_ne.mpr c17
      have c17b1 : (a1_0 != 6) = true := bne_iff_ne.mpr c17
      have H' := gA H
      clear H
      have hcz25_0 := gz BK241 0 rfl
      have hcz25_1 := gz BK241 1 rfl
      have hcz25_2 := gz BK241 2 rfl
      have hcz25_3 := gz BK241 3 rfl
      have hcz25_4 := gz BK241 4 rfl
      have hcz25_5 := gz BK241 5 rfl
      have hcz25_6 := gz BK241 6 rfl
      have hfz25_0 := blk_frozen BK241.out 0
      have hfz25_1 := blk_frozen BK241.out 1
      have hfz25_2 := blk_frozen BK241.out 2
      have hfz25_3 := blk_frozen BK241.out 3
      have hfz25_4 := blk_frozen BK241.out 4
      have hfz25_5 := blk_frozen BK241.out 5
      have hfz25_6 := blk_frozen BK241.out 6
      go_wp2_with (first | ((with_reducible refine gate_callee (f := 6) rfl ?_); refine goesL_ (some 11) rfl rfl Try.func6 (by kernel_rfl) rfl #[.agg #[.int .i64 a1_0, .int .i64 a1_1, .string a1_2, .slice A1_3 l1_3.length c1_3, .slice A1_4 l1_4.length c1_4, .slice A1_5 l1_5.length c1_5, .int .i64 a1_6]] rfl (by (try simp only [List.map_toArray, List.map_cons, List.map_nil]); first | done | rfl | (simp only [List.length_drop, List.length_take]; rfl)) ?_; (with_reducible refine (triglyphlaw24_light.calls k a1_0 a1_1 a1_2 _ _ l1_3 _ _ l1_4 _ _ l1_5 a1_6 true _ ?side1 ?side2 ?side3 ?side4 ?side5 ?side6 A5.out).mono ?_); (case side1 => exact gC HR1_3 HB); (case side2 => exact HC1_3.out); (case side3 => exact gC HR1_4 HB); (case side4 => exact HC1_4.out); (case side5 => exact gC HR1_5 HB); (case side6 => exact HC1_5.out); rintro e w26 ⟨rfl, hb⟩; refine ⟨_, rfl, ?_⟩; replace BK241 := gA (blk_below (gK BK241) hb); replace HB := gA (below_step (gB HB) hb); (try clear hb); have hcz27_0 := gz BK241 0 rfl; have hcz27_1 := gz BK241 1 rfl; have hcz27_2 := gz BK241 2 rfl; have hcz27_3 := gz BK241 3 rfl; have hcz27_4 := gz BK241 4 rfl; have hcz27_5 := gz BK241 5 rfl; have hcz27_6 := gz BK241 6 rfl; have hfz27_0 := blk_frozen BK241.out 0; have hfz27_1 := blk_frozen BK241.out 1; have hfz27_2 := blk_frozen BK241.out 2; have hfz27_3 := blk_frozen BK241.out 3; have hfz27_4 := blk_frozen BK241.out 4; have hfz27_5 := blk_frozen BK241.out 5; have hfz27_6 := blk_frozen BK241.out 6) | (go_at_call 12; (with_reducible refine (triglyphref10_Check.calls k a1_0 a1_1 a1_2 _ _ l1_3 _ _ l1_4 _ _ l1_5 a1_6 t243 _ ?side1 ?side2 ?side3 ?side4 ?side5 ?side6 A7.out).mono ?_); (case side1 => exact gC HR1_3 HB); (case side2 => exact HC1_3.out); (case side3 => exact gC HR1_4 HB); (case side4 => exact HC1_4.out); (case side5 => exact gC HR1_5 HB); (case side6 => exact HC1_5.out); rintro e w28 ⟨rfl, hb⟩; replace BK241 := gA (blk_below (gK BK241) hb); replace HB := gA (below_step (gB HB) hb); (try clear hb); have hcz29_0 := gz BK241 0 rfl; have hcz29_1 := gz BK241 1 rfl; have hcz29_2 := gz BK241 2 rfl; have hcz29_3 := gz BK241 3 rfl; have hcz29_4 := gz BK241 4 rfl; have hcz29_5 := gz BK241 5 rfl; have hcz29_6 := gz BK241 6 rfl; have hfz29_0 := blk_frozen BK241.out 0; have hfz29_1 := blk_frozen BK241.out 1; have hfz29_2 := blk_frozen BK241.out 2; have hfz29_3 := blk_frozen BK241.out 3; have hfz29_4 := blk_frozen BK241.out 4; have hfz29_5 := blk_frozen BK241.out 5; have hfz29_6 := blk_frozen BK241.out 6))
      all_goals (go_meet; (case rel => exact ⟨_, (true), (by first | rfl | (simp; done) | (simp [*]; done) | (exfalso; simp_all; done) | (exfalso; simp_all; omega)), H', ⟨by first | omega | exact Nat.le_refl _⟩, ⟨gK BK241⟩, ⟨gB HB⟩⟩))
   ·rw [if_neg c8] at H
    have c8b0 : (t243 == 0) = false := beq_eq_false_iff_ne.mpr c8
    have c8b1 : (t243 != 0) = true := bne_iff_ne.mpr c8
    (first | rw [c8b0] | rw [c8b1] | (simp only [i64_w, i32_w]; rw [c8b0]) | skip)
    have H' := gA H
    clear H
    have hcz30_0 := gz BK241 0 rfl
    have hcz30_1 := gz BK241 1 rfl
    have hcz30_2 := gz BK241 2 rfl
    have hcz30_3 := gz BK241 3 rfl
    have hcz30_4 := gz BK241 4 rfl
    have hcz30_5 := gz BK241 5 rfl
    have hcz30_6 := gz BK241 6 rfl
    have hfz30_0 := blk_frozen BK241.out 0
    have hfz30_1 := blk_frozen BK241.out 1
    have hfz30_2 := blk_frozen BK241.out 2
    have hfz30_3 := blk_frozen BK241.out 3
    have hfz30_4 := blk_frozen BK241.out 4
    have hfz30_5 := blk_frozen BK241.out 5
    have hfz30_6 := blk_frozen BK241.out 6
    go_wp2_with (first | ((with_reducible refine gate_callee (f := 6) rfl ?_); refine goesL_ (some 11) rfl rfl Try.func6 (by kernel_rfl) rfl #[.agg #[.int .i64 a1_0, .int .i64 a1_1, .string a1_2, .slice A1_3 l1_3.length c1_3, .slice A1_4 l1_4.length c1_4, .slice A1_5 l1_5.length c1_5, .int .i64 a1_6]] rfl (by (try simp only [List.map_toArray, List.map_cons, List.map_nil]); first | done | rfl | (simp only [List.length_drop, List.length_take]; rfl)) ?_; (with_reducible refine (triglyphlaw24_light.calls k a1_0 a1_1 a1_2 _ _ l1_3 _ _ l1_4 _ _ l1_5 a1_6 true _ ?side1 ?side2 ?side3 ?side4 ?side5 ?side6 A5.out).mono ?_); (case side1 => exact gC HR1_3 HB); (case side2 => exact HC1_3.out); (case side3 => exact gC HR1_4 HB); (case side4 => exact HC1_4.out); (case side5 => exact gC HR1_5 HB); (case side6 => exact HC1_5.out); rintro e w31 ⟨rfl, hb⟩; refine ⟨_, rfl, ?_⟩; replace BK241 := gA (blk_below (gK BK241) hb); replace HB := gA (below_step (gB HB) hb); (try clear hb); have hcz32_0 := gz BK241 0 rfl; have hcz32_1 := gz BK241 1 rfl; have hcz32_2 := gz BK241 2 rfl; have hcz32_3 := gz BK241 3 rfl; have hcz32_4 := gz BK241 4 rfl; have hcz32_5 := gz BK241 5 rfl; have hcz32_6 := gz BK241 6 rfl; have hfz32_0 := blk_frozen BK241.out 0; have hfz32_1 := blk_frozen BK241.out 1; have hfz32_2 := blk_frozen BK241.out 2; have hfz32_3 := blk_frozen BK241.out 3; have hfz32_4 := blk_frozen BK241.out 4; have hfz32_5 := blk_frozen BK241.out 5; have hfz32_6 := blk_frozen BK241.out 6) | (go_at_call 12; (with_reducible refine (triglyphref10_Check.calls k a1_0 a1_1 a1_2 _ _ l1_3 _ _ l1_4 _ _ l1_5 a1_6 t243 _ ?side1 ?side2 ?side3 ?side4 ?side5 ?side6 A7.out).mono ?_); (case side1 => exact gC HR1_3 HB); (case side2 => exact HC1_3.out); (case side3 => exact gC HR1_4 HB); (case side4 => exact HC1_4.out); (case side5 => exact gC HR1_5 HB); (case side6 => exact HC1_5.out); rintro e w33 ⟨rfl, hb⟩; replace BK241 := gA (blk_below (gK BK241) hb); replace HB := gA (below_step (gB HB) hb); (try clear hb)))
    all_goals (go_meet; (case rel => exact ⟨_, (true), (by first | rfl | (simp; done) | (simp [*]; done) | (exfalso; simp_all; done) | (exfalso; simp_all; omega)), H', ⟨by first | omega | exact Nat.le_refl _⟩, ⟨gK BK241⟩, ⟨gB HB⟩⟩))
  ·replace c6 := Bool.eq_false_iff.mpr c6
   subst c6
   have H1 : (triglyphlaw24_FragParts.j0 k (Int.tmod (wrap64 (a0)) 3) true a1_0 a1_1 a1_2 l1_3 l1_4 l1_5 a1_6) = some r := by rw [if_neg (show ¬ (false = true) by decide)] at H; exact H
   clear H; have H := H1; clear H1
   have H' := gA H
   clear H
   have hcz34_0 := gz BK241 0 rfl
   have hcz34_1 := gz BK241 1 rfl
   have hcz34_2 := gz BK241 2 rfl
   have hcz34_3 := gz BK241 3 rfl
   have hcz34_4 := gz BK241 4 rfl
   have hcz34_5 := gz BK241 5 rfl
   have hcz34_6 := gz BK241 6 rfl
   have hfz34_0 := blk_frozen BK241.out 0
   have hfz34_1 := blk_frozen BK241.out 1
   have hfz34_2 := blk_frozen BK241.out 2
   have hfz34_3 := blk_frozen BK241.out 3
   have hfz34_4 := blk_frozen BK241.out 4
   have hfz34_5 := blk_frozen BK241.out 5
   have hfz34_6 := blk_frozen BK241.out 6
   go_wp2_with (first | ((with_reducible refine gate_callee (f := 6) rfl ?_); refine goesL_ (some 11) rfl rfl Try.func6 (by kernel_rfl) rfl #[.agg #[.int .i64 a1_0, .int .i64 a1_1, .string a1_2, .slice A1_3 l1_3.length c1_3, .slice A1_4 l1_4.length c1_4, .slice A1_5 l1_5.length c1_5, .int .i64 a1_6]] rfl (by (try simp only [List.map_toArray, List.map_cons, List.map_nil]); first | done | rfl | (simp only [List.length_drop, List.length_take]; rfl)) ?_; (with_reducible refine (triglyphlaw24_light.calls k a1_0 a1_1 a1_2 _ _ l1_3 _ _ l1_4 _ _ l1_5 a1_6 false _ ?side1 ?side2 ?side3 ?side4 ?side5 ?side6 A5.out).mono ?_); (case side1 => exact gC HR1_3 HB); (case side2 => exact HC1_3.out); (case side3 => exact gC HR1_4 HB); (case side4 => exact HC1_4.out); (case side5 => exact gC HR1_5 HB); (case side6 => exact HC1_5.out); rintro e w35 ⟨rfl, hb⟩; refine ⟨_, rfl, ?_⟩; replace BK241 := gA (blk_below (gK BK241) hb); replace HB := gA (below_step (gB HB) hb); (try clear hb)))
   all_goals (go_meet; (case rel => exact ⟨_, (true), (by first | rfl | (simp; done) | (simp [*]; done) | (exfalso; simp_all; done) | (exfalso; simp_all; omega)), H', ⟨by first | omega | exact Nat.le_refl _⟩, ⟨gK BK241⟩, ⟨gB HB⟩⟩))
 case rest =>
  clear HC3
  try clear c1
  try clear p2
  try clear c5
  try clear c6
  try clear p6
  try clear c8
  try clear c8b0
  try clear c8b1
  try clear c9
  try clear c9b0
  try clear c9b1
  try clear c17
  try clear c17b0
  try clear c17b1
  try clear hcz11_0
  try clear hcz11_1
  try clear hcz11_2
  try clear hcz11_3
  try clear hcz11_4
  try clear hcz11_5
  try clear hcz11_6
  try clear hcz13_0
  try clear hcz13_1
  try clear hcz13_2
  try clear hcz13_3
  try clear hcz13_4
  try clear hcz13_5
  try clear hcz13_6
  try clear hcz15_0
  try clear hcz15_1
  try clear hcz15_2
  try clear hcz15_3
  try clear hcz15_4
  try clear hcz15_5
  try clear hcz15_6
  try clear hcz19_0
  try clear hcz19_1
  try clear hcz19_2
  try clear hcz19_3
  try clear hcz19_4
  try clear hcz19_5
  try clear hcz19_6
  try clear hcz21_0
  try clear hcz21_1
  try clear hcz21_2
  try clear hcz21_3
  try clear hcz21_4
  try clear hcz21_5
  try clear hcz21_6
  try clear hcz23_0
  try clear hcz23_1
  try clear hcz23_2
  try clear hcz23_3
  try clear hcz23_4
  try clear hcz23_5
  try clear hcz23_6
  try clear hcz25_0
  try clear hcz25_1
  try clear hcz25_2
  try clear hcz25_3
  try clear hcz25_4
  try clear hcz25_5
  try clear hcz25_6
  try clear hcz27_0
  try clear hcz27_1
  try clear hcz27_2
  try clear hcz27_3
  try clear hcz27_4
  try clear hcz27_5
  try clear hcz27_6
  try clear hcz29_0
  try clear hcz29_1
  try clear hcz29_2
  try clear hcz29_3
  try clear hcz29_4
  try clear hcz29_5
  try clear hcz29_6
  try clear hcz30_0
  try clear hcz30_1
  try clear hcz30_2
  try clear hcz30_3
  try clear hcz30_4
  try clear hcz30_5
  try clear hcz30_6
  try clear hcz32_0
  try clear hcz32_1
  try clear hcz32_2
  try clear hcz32_3
  try clear hcz32_4
  try clear hcz32_5
  try clear hcz32_6
  try clear hcz34_0
  try clear hcz34_1
  try clear hcz34_2
  try clear hcz34_3
  try clear hcz34_4
  try clear hcz34_5
  try clear hcz34_6
  try clear hfz11_0
  try clear hfz11_1
  try clear hfz11_2
  try clear hfz11_3
  try clear hfz11_4
  try clear hfz11_5
  try clear hfz11_6
  try clear hfz13_0
  try clear hfz13_1
  try clear hfz13_2
  try clear hfz13_3
  try clear hfz13_4
  try clear hfz13_5
  try clear hfz13_6
  try clear hfz15_0
  try clear hfz15_1
  try clear hfz15_2
  try clear hfz15_3
  try clear hfz15_4
  try clear hfz15_5
  try clear hfz15_6
  try clear hfz19_0
  try clear hfz19_1
  try clear hfz19_2
  try clear hfz19_3
  try clear hfz19_4
  try clear hfz19_5
  try clear hfz19_6
  try clear hfz21_0
  try clear hfz21_1
  try clear hfz21_2
  try clear hfz21_3
  try clear hfz21_4
  try clear hfz21_5
  try clear hfz21_6
  try clear hfz23_0
  try clear hfz23_1
  try clear hfz23_2
  try clear hfz23_3
  try clear hfz23_4
  try clear hfz23_5
  try clear hfz23_6
  try clear hfz25_0
  try clear hfz25_1
  try clear hfz25_2
  try clear hfz25_3
  try clear hfz25_4
  try clear hfz25_5
  try clear hfz25_6
  try clear hfz27_0
  try clear hfz27_1
  try clear hfz27_2
  try clear hfz27_3
  try clear hfz27_4
  try clear hfz27_5
  try clear hfz27_6
  try clear hfz29_0
  try clear hfz29_1
  try clear hfz29_2
  try clear hfz29_3
  try clear hfz29_4
  try clear hfz29_5
  try clear hfz29_6
  try clear hfz30_0
  try clear hfz30_1
  try clear hfz30_2
  try clear hfz30_3
  try clear hfz30_4
  try clear hfz30_5
  try clear hfz30_6
  try clear hfz32_0
  try clear hfz32_1
  try clear hfz32_2
  try clear hfz32_3
  try clear hfz32_4
  try clear hfz32_5
  try clear hfz32_6
  try clear hfz34_0
  try clear hfz34_1
  try clear hfz34_2
  try clear hfz34_3
  try clear hfz34_4
  try clear hfz34_5
  try clear hfz34_6
  obtain ⟨kq, x34_2, rfl, HA, HJ2, BK241, HB⟩ := hcut
  cases kq with
  | zero => exact absurd HA.out (by simp [triglyphlaw24_FragParts.j0])
  | succ kj2 =>
   have H := HA.out; clear HA
   simp only [triglyphlaw24_FragParts.j0] at H
   by_cases c36 : x34_2 = true
   ·subst c36
    have H1 : ((triglyphlaw24_works.f kj2).bind fun t250 => (some t250)) = some r := by rw [if_pos rfl] at H; exact H
    clear H; have H := H1; clear H1
    replace H := Option.bind_eq_some_iff.mp H
    obtain ⟨t250, A370, H⟩ := H
    replace H : (some t250) = some r := H
    have A37 := gA A370
    clear A370
    obtain rfl := Option.some.inj H
    go_wp2_with (first | ((with_reducible refine gate_callee (f := 7) rfl ?_); refine goesL_ (some 35) rfl rfl Try.func7 (by kernel_rfl) rfl #[] rfl (by (try simp only [List.map_toArray, List.map_cons, List.map_nil]); first | done | rfl | (simp only [List.length_drop, List.length_take]; rfl)) ?_; (with_reducible refine (triglyphlaw24_works.calls kj2  t250 _ A37.out).mono ?_); rintro e w38 ⟨rfl, hb⟩; refine ⟨_, rfl, ?_⟩; replace BK241 := gA (blk_below (gK BK241) hb); replace HB := gA (below_step (gB HB) hb); (try clear hb)))
    go_ret
    exact ⟨by first | rfl | (simp [errW_none, errW_some] <;> rfl) | (simp [*, errW_none, errW_some] <;> rfl), by repeat (first | (with_reducible first | exact HB.out | apply below_alloc | apply pw_below_drewN | apply below_drew1 | refine below_set ?_ GE241.out) | exact HB.out)⟩
   ·replace c36 := Bool.eq_false_iff.mpr c36
    subst c36
    have H1 : (triglyphlaw24_FragParts.l0 kj2 (Int.tmod (wrap64 (a0)) 3) 1 a1_0 a1_1 a1_2 l1_3 l1_4 l1_5 a1_6) = some r := by rw [if_neg (show ¬ (false = true) by decide)] at H; exact H
    clear H; have H := H1; clear H1
    have H' := gA H
    clear H
    go_wp2
    go_loopg [6] kj2 (fun kq v6 w' => ∃ (x6_2 : Int), v6 = .int .i64 x6_2 ∧ Aside0 (triglyphlaw24_FragParts.l0 kq (Int.tmod (wrap64 (a0)) 3) x6_2 a1_0 a1_1 a1_2 l1_3 l1_4 l1_5 a1_6 = some r) ∧ Aside0 (kq ≤ kj2) ∧ Aside0 (w'.heap[gb241]? = some (.cells #[.int .i64 a1_0, .int .i64 a1_1, .string a1_2, (.slice A1_3 l1_3.length c1_3), (.slice A1_4 l1_4.length c1_4), (.slice A1_5 l1_5.length c1_5), .int .i64 a1_6] 28 (0, 0))) ∧ Aside0 (Below w.heap.size w w'))
    case atStart => exact ⟨(1), (rfl), H', ⟨Nat.le_refl _⟩, ⟨gK BK241⟩, ⟨by repeat first | exact gB HB | refine below_set ?_ GE241.out⟩⟩
    case round =>
     clear H'
     try clear c1
     try clear p2
     try clear c3
     try clear c5
     try clear c6
     try clear p6
     try clear c7
     try clear c8
     try clear c8b0
     try clear c8b1
     try clear c9
     try clear c9b0
     try clear c9b1
     try clear c17
     try clear c17b0
     try clear c17b1
     try clear c36
     try clear hcz11_0
     try clear hcz11_1
     try clear hcz11_2
     try clear hcz11_3
     try clear hcz11_4
     try clear hcz11_5
     try clear hcz11_6
     try clear hcz13_0
     try clear hcz13_1
     try clear hcz13_2
     try clear hcz13_3
     try clear hcz13_4
     try clear hcz13_5
     try clear hcz13_6
     try clear hcz15_0
     try clear hcz15_1
     try clear hcz15_2
     try clear hcz15_3
     try clear hcz15_4
     try clear hcz15_5
     try clear hcz15_6
     try clear hcz19_0
     try clear hcz19_1
     try clear hcz19_2
     try clear hcz19_3
     try clear hcz19_4
     try clear hcz19_5
     try clear hcz19_6
     try clear hcz21_0
     try clear hcz21_1
     try clear hcz21_2
     try clear hcz21_3
     try clear hcz21_4
     try clear hcz21_5
     try clear hcz21_6
     try clear hcz23_0
     try clear hcz23_1
     try clear hcz23_2
     try clear hcz23_3
     try clear hcz23_4
     try clear hcz23_5
     try clear hcz23_6
     try clear hcz25_0
     try clear hcz25_1
     try clear hcz25_2
     try clear hcz25_3
     try clear hcz25_4
     try clear hcz25_5
     try clear hcz25_6
     try clear hcz27_0
     try clear hcz27_1
     try clear hcz27_2
     try clear hcz27_3
     try clear hcz27_4
     try clear hcz27_5
     try clear hcz27_6
     try clear hcz29_0
     try clear hcz29_1
     try clear hcz29_2
     try clear hcz29_3
     try clear hcz29_4
     try clear hcz29_5
     try clear hcz29_6
     try clear hcz30_0
     try clear hcz30_1
     try clear hcz30_2
     try clear hcz30_3
     try clear hcz30_4
     try clear hcz30_5
     try clear hcz30_6
     try clear hcz32_0
     try clear hcz32_1
     try clear hcz32_2
     try clear hcz32_3
     try clear hcz32_4
     try clear hcz32_5
     try clear hcz32_6
     try clear hcz34_0
     try clear hcz34_1
     try clear hcz34_2
     try clear hcz34_3
     try clear hcz34_4
     try clear hcz34_5
     try clear hcz34_6
     try clear hfz11_0
     try clear hfz11_1
     try clear hfz11_2
     try clear hfz11_3
     try clear hfz11_4
     try clear hfz11_5
     try clear hfz11_6
     try clear hfz13_0
     try clear hfz13_1
     try clear hfz13_2
     try clear hfz13_3
     try clear hfz13_4
     try clear hfz13_5
     try clear hfz13_6
     try clear hfz15_0
     try clear hfz15_1
     try clear hfz15_2
     try clear hfz15_3
     try clear hfz15_4
     try clear hfz15_5
     try clear hfz15_6
     try clear hfz19_0
     try clear hfz19_1
     try clear hfz19_2
     try clear hfz19_3
     try clear hfz19_4
     try clear hfz19_5
     try clear hfz19_6
     try clear hfz21_0
     try clear hfz21_1
     try clear hfz21_2
     try clear hfz21_3
     try clear hfz21_4
     try clear hfz21_5
     try clear hfz21_6
     try clear hfz23_0
     try clear hfz23_1
     try clear hfz23_2
     try clear hfz23_3
     try clear hfz23_4
     try clear hfz23_5
     try clear hfz23_6
     try clear hfz25_0
     try clear hfz25_1
     try clear hfz25_2
     try clear hfz25_3
     try clear hfz25_4
     try clear hfz25_5
     try clear hfz25_6
     try clear hfz27_0
     try clear hfz27_1
     try clear hfz27_2
     try clear hfz27_3
     try clear hfz27_4
     try clear hfz27_5
     try clear hfz27_6
     try clear hfz29_0
     try clear hfz29_1
     try clear hfz29_2
     try clear hfz29_3
     try clear hfz29_4
     try clear hfz29_5
     try clear hfz29_6
     try clear hfz30_0
     try clear hfz30_1
     try clear hfz30_2
     try clear hfz30_3
     try clear hfz30_4
     try clear hfz30_5
     try clear hfz30_6
     try clear hfz32_0
     try clear hfz32_1
     try clear hfz32_2
     try clear hfz32_3
     try clear hfz32_4
     try clear hfz32_5
     try clear hfz32_6
     try clear hfz34_0
     try clear hfz34_1
     try clear hfz34_2
     try clear hfz34_3
     try clear hfz34_4
     try clear hfz34_5
     try clear hfz34_6
     try clear p2
     try clear p6
     obtain ⟨x6_2, rfl, HA, HK2, BK241, HB⟩ := hrel
     cases gk with
     | zero => exact absurd HA.out (by simp [triglyphlaw24_FragParts.l0])
     | succ k2 =>
      have H := HA.out; clear HA
      simp only [triglyphlaw24_FragParts.l0] at H
      by_cases c39 : x6_2 < (l1_5.length : Int)
      ·rw [if_pos c39] at H
       have c39b0 := decide_eq_true c39
       clear c39
       obtain ⟨c40, H⟩ := iS H
       have c40b0 := decide_eq_true c40
       clear c40
       replace H := Option.bind_eq_some_iff.mp H
       obtain ⟨⟨t252, t253, t254⟩, A410, H⟩ := H
       replace H : (if t252 = 0 then (triglyphlaw24_FragParts.l0 k2 (Int.tmod (wrap64 (a0)) 3) (wrap64 (x6_2 + 1)) a1_0 a1_1 a1_2 l1_3 l1_4 l1_5 a1_6) else (none)) = some r := H
       have A41 := gA A410
       clear A410
       obtain ⟨c42, H⟩ := iS H
       have c42b0 : (t252 == 0) = true := beq_iff_eq.mpr c42
       have c42b1 : (t252 != 0) = false := bne_eq_false_iff_eq.mpr c42
       clear c42
       have H' := gA H
       clear H
       have hcz43_0 := gz BK241 0 rfl
       have hcz43_1 := gz BK241 1 rfl
       have hcz43_2 := gz BK241 2 rfl
       have hcz43_3 := gz BK241 3 rfl
       have hcz43_4 := gz BK241 4 rfl
       have hcz43_5 := gz BK241 5 rfl
       have hcz43_6 := gz BK241 6 rfl
       have hfz43_0 := blk_frozen BK241.out 0
       have hfz43_1 := blk_frozen BK241.out 1
       have hfz43_2 := blk_frozen BK241.out 2
       have hfz43_3 := blk_frozen BK241.out 3
       have hfz43_4 := blk_frozen BK241.out 4
       have hfz43_5 := blk_frozen BK241.out 5
       have hfz43_6 := blk_frozen BK241.out 6
       have p251 : 0 ≤ (x6_2 : Int) := of_decide_eq_true (by assumption)
       have q251 : x6_2 < (l1_5.length : Int) := of_decide_eq_true (by assumption)
       obtain ⟨ad251, A251_3, c251_3, A251_4, c251_4, A251_5, c251_5, e251, hx251_0, hx251_1, hx251_2, hx251_3, hx251_4, hx251_5, hx251_6, hl251_3, hi251_3, hl251_4, hi251_4, hl251_5, hi251_5⟩ := at_T28 HR1_5.out x6_2 p251 q251
       cases e251
       replace hx251_0 := (HB.out.cell (World.block_lt_of_cell? w _ hx251_0)).trans hx251_0
       replace hx251_1 := (HB.out.cell (World.block_lt_of_cell? w _ hx251_1)).trans hx251_1
       replace hx251_2 := (HB.out.cell (World.block_lt_of_cell? w _ hx251_2)).trans hx251_2
       replace hx251_3 := (HB.out.cell (World.block_lt_of_cell? w _ hx251_3)).trans hx251_3
       replace hx251_4 := (HB.out.cell (World.block_lt_of_cell? w _ hx251_4)).trans hx251_4
       replace hx251_5 := (HB.out.cell (World.block_lt_of_cell? w _ hx251_5)).trans hx251_5
       replace hx251_6 := (HB.out.cell (World.block_lt_of_cell? w _ hx251_6)).trans hx251_6
       have HR251_3 := gA hi251_3
       have HC251_3 := gA hl251_3
       clear hi251_3 hl251_3
       have HR251_4 := gA hi251_4
       have HC251_4 := gA hl251_4
       clear hi251_4 hl251_4
       have HR251_5 := gA hi251_5
       have HC251_5 := gA hl251_5
       clear hi251_5 hl251_5
       replace p251 := eq_true p251
       replace q251 := eq_true q251
       go_wp2_with (first | ((with_reducible refine gate_callee (f := 8) rfl ?_); refine goesL_ (some 49) rfl rfl Try.func8 (by kernel_rfl) rfl #[.int .i64 (Int.tmod (wrap64 (a0)) 3), .agg #[.int .i64 ((rd_T28 l1_5 x6_2).f0), .int .i64 ((rd_T28 l1_5 x6_2).f1), .string ((rd_T28 l1_5 x6_2).f2), .slice A251_3 ((rd_T28 l1_5 x6_2).f3.f0).length c251_3, .slice A251_4 ((rd_T28 l1_5 x6_2).f3.f1).length c251_4, .slice A251_5 ((rd_T28 l1_5 x6_2).f4).length c251_5, .int .i64 ((rd_T28 l1_5 x6_2).f5)]] rfl (by (try simp only [List.map_toArray, List.map_cons, List.map_nil]); first | done | rfl | (simp only [List.length_drop, List.length_take]; rfl)) ?_; (with_reducible refine (frag_Fits.calls k2 (Int.tmod (wrap64 (a0)) 3) ((rd_T28 l1_5 x6_2).f0) ((rd_T28 l1_5 x6_2).f1) ((rd_T28 l1_5 x6_2).f2) _ _ ((rd_T28 l1_5 x6_2).f3.f0) _ _ ((rd_T28 l1_5 x6_2).f3.f1) _ _ ((rd_T28 l1_5 x6_2).f4) ((rd_T28 l1_5 x6_2).f5) t252 t253 t254 _ ?side1 ?side2 ?side3 ?side4 ?side5 ?side6 A41.out).mono ?_); (case side1 => exact gC HR251_3 HB); (case side2 => exact HC251_3.out); (case side3 => exact gC HR251_4 HB); (case side4 => exact HC251_4.out); (case side5 => exact gC HR251_5 HB); (case side6 => exact HC251_5.out); rintro e w44 ⟨rfl, hb⟩; refine ⟨_, rfl, ?_⟩; replace BK241 := gA (blk_below (gK BK241) hb); replace HB := gA (below_step (gB HB) hb); (try clear hb)))
       go_roundg k2
       case measure => have := HJ2.out; have := HK2.out; omega
       case rel => exact ⟨(wrap64 (x6_2 + 1)), (rfl), H', ⟨by have := HJ2.out; have := HK2.out; omega⟩, ⟨gK BK241⟩, ⟨gB HB⟩⟩
      ·rw [if_neg c39] at H
       have c39b0 := decide_eq_false c39
       clear c39
       replace H := Option.bind_eq_some_iff.mp H
       obtain ⟨t255, A450, H⟩ := H
       replace H : (some t255) = some r := H
       have A45 := gA A450
       clear A450
       obtain rfl := Option.some.inj H
       have hcz46_0 := gz BK241 0 rfl
       have hcz46_1 := gz BK241 1 rfl
       have hcz46_2 := gz BK241 2 rfl
       have hcz46_3 := gz BK241 3 rfl
       have hcz46_4 := gz BK241 4 rfl
       have hcz46_5 := gz BK241 5 rfl
       have hcz46_6 := gz BK241 6 rfl
       have hfz46_0 := blk_frozen BK241.out 0
       have hfz46_1 := blk_frozen BK241.out 1
       have hfz46_2 := blk_frozen BK241.out 2
       have hfz46_3 := blk_frozen BK241.out 3
       have hfz46_4 := blk_frozen BK241.out 4
       have hfz46_5 := blk_frozen BK241.out 5
       have hfz46_6 := blk_frozen BK241.out 6
       go_wp2_with (first | ((with_reducible refine gate_callee (f := 7) rfl ?_); refine goesL_ (some 52) rfl rfl Try.func7 (by kernel_rfl) rfl #[] rfl (by (try simp only [List.map_toArray, List.map_cons, List.map_nil]); first | done | rfl | (simp only [List.length_drop, List.length_take]; rfl)) ?_; (with_reducible refine (triglyphlaw24_works.calls k2  t255 _ A45.out).mono ?_); rintro e w47 ⟨rfl, hb⟩; refine ⟨_, rfl, ?_⟩; replace BK241 := gA (blk_below (gK BK241) hb); replace HB := gA (below_step (gB HB) hb); (try clear hb)))
       go_ret
       exact ⟨by first | rfl | (simp [errW_none, errW_some] <;> rfl) | (simp [*, errW_none, errW_some] <;> rfl), by repeat (first | (with_reducible first | exact HB.out | apply below_alloc | apply pw_below_drewN | apply below_drew1 | refine below_set ?_ GE241.out) | exact HB.out)⟩
end Go.Proofs.Ytfjkclhkobnakaa.P
