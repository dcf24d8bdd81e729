/- Written by a program of this session: the functions that the laws reach, what each comes to, and each law as it is stated, for every input. No condition. -/
import Derived.Test.YtiegcghapchimaaPx0
import Derived.Test.YtiegcghapchimaaPx2
import Derived.Test.YtiegcghapchimaaPx3
import Derived.Test.YtiegcghapchimaaPx4
import Derived.Test.YtiegcghapchimaaPx5
import Derived.Test.YtiegcghapchimaaPx6
namespace Go.Proofs.Ytiegcghapchimaa.P
open Go.RowKit Go.Proofs.YtiegcghapchimaaW.PrintWords Go.Proofs.YtiegcghapchimaaW.PrintLast Go.Proofs.YtiegcghapchimaaW.PrintMore
attribute [local go_sem] max2_int min2_int max_two min_two max_three min_three max_four min_four   -- for this text's walks alone
set_option linter.unusedVariables false
set_option linter.unusedSimpArgs false
def layout_Mo.l0 : Nat → List Int → Int → Int → List Int → List (S39) → Option (List Int × (List (S39)) × Int)
 | 0, _, _, _, _, _ => none
 | k + 1, x33, x34, x35, x285000, x285001 => if x35 < x34 then (if 0 ≤ x35 then (if x35 < (x33.length : Int) then (if x285001.length < 3518437208883 then (layout_Mo.l0 k x33 x34 (wrap64 (x35 + 1)) x285000 (x285001 ++ [(⟨0, rd x33 x35, ([] : List (S25))⟩ : S39)])) else (none)) else (none)) else (none)) else (some (x285000, x285001, 0))
def layout_Mo.f (k : Nat) (a0 : Int) (l1_0 : List Int) (l1_1 : List (S39)) : Option (List Int × (List (S39)) × Int) := (arr_Check.f k l1_0 l1_1).bind fun t267 => (if t267 = 0 then ((arr_Copy.f k l1_0 l1_1).bind fun bt268 => (if a0 = 5 then ((layout_iota0.f k bt268.1 bt268.2).bind fun bt274 => (some (bt274.1, bt274.2.1, bt274.2.2))) else (if a0 = 6 then (layout_Mo.l0 k bt268.1 (bt268.1.length : Int) 0 (([(bt268.1.length : Int)] : List Int)) ([] : List (S39))) else (if a0 = 7 then ((layout_tally.f bt268.1 bt268.2).bind fun t289 => ((arr_Atom.f t289).bind fun bt290 => (some (bt290.1, bt290.2, 0)))) else (if a0 = 8 then (some ((([(bt268.2.length : Int)] : List Int)), bt268.2, 0)) else (if a0 = 9 then ((layout_turned.f k bt268.1 bt268.2 0).bind fun bt299 => (some (bt299.1, bt299.2, 0))) else (if a0 = 10 then ((layout_turned.f k bt268.1 bt268.2 (wrap64 ((bt268.1.length : Int) - 1))).bind fun bt305 => (some (bt305.1, bt305.2, 0))) else (if a0 = 11 then ((layout_flipped.f k bt268.1 bt268.2).bind fun bt311 => (some (bt311.1, bt311.2, 0))) else (if a0 = 15 then ((arr_Deep.f k bt268.1 bt268.2).bind fun t317 => (if t317 ≥ 8 then (some (([] : List Int), ([] : List (S39)), 15)) else (some (([] : List Int), (([(⟨2, 0, (([(⟨bt268.1, bt268.2⟩ : S25)] : List (S25)))⟩ : S39)] : List (S39))), 0)))) else (if a0 = 16 then ((layout_open.f bt268.1 bt268.2).bind fun bt324 => (some (bt324.1, bt324.2.1, bt324.2.2))) else (if a0 = 17 then ((layout_first.f bt268.1 bt268.2).bind fun bt331 => (some (bt331.1, bt331.2.1, bt331.2.2))) else (if a0 = 18 then (if (bt268.1.length : Int) ≥ 8 then (some (([] : List Int), ([] : List (S39)), 6)) else ((some (([1] : List Int) : List Int)).bind fun y338 => (if y338.length + bt268.1.length < 17592186044416 then (some ((y338 ++ bt268.1), bt268.2, 0)) else (none)))) else (some (([] : List Int), ([] : List (S39)), 1)))))))))))))) else (some (([] : List Int), ([] : List (S39)), t267)))
theorem layout_Mo.mono_l : ∀ k, (∀ y0 y1 y2 y3 y4, LeO (layout_Mo.l0 k y0 y1 y2 y3 y4) (layout_Mo.l0 (k + 1) y0 y1 y2 y3 y4))
 | 0 => fun _ _ _ _ _ r h => by simp [layout_Mo.l0] at h
 | k + 1 => by
  have ih0 := layout_Mo.mono_l k
  ·intro y0 y1 y2 y3 y4
   unfold layout_Mo.l0
   repeat' first
   | (with_reducible exact ih0 _ _ _ _ _)
   | (with_reducible exact arr_Check.mono _ _ _)
   | (with_reducible exact arr_Copy.mono _ _ _)
   | (with_reducible exact arr_Deep.mono _ _ _)
   | (with_reducible exact layout_flipped.mono _ _ _)
   | (with_reducible exact layout_iota0.mono _ _ _)
   | (with_reducible exact layout_turned.mono _ _ _ _)
   | (with_reducible exact LeO.refl _)
   | (with_reducible exact LeO.none _)
   | (with_reducible refine LeO.ite ?_ ?_)
   | (with_reducible refine LeO.bind ?_ (fun _ => ?_))

   | exact arr_Check.mono _ _ _
   | exact arr_Copy.mono _ _ _
   | exact arr_Deep.mono _ _ _
   | exact layout_flipped.mono _ _ _
   | exact layout_iota0.mono _ _ _
   | exact layout_turned.mono _ _ _ _
theorem layout_Mo.mono : ∀ a0 a1 a2 k, LeO (layout_Mo.f k a0 a1 a2) (layout_Mo.f (k + 1) a0 a1 a2) := by
 intro a0 a1 a2 k
 have ih0 := layout_Mo.mono_l k
 unfold layout_Mo.f
 repeat' first
   | (with_reducible exact ih0 _ _ _ _ _)
   | (with_reducible exact arr_Check.mono _ _ _)
   | (with_reducible exact arr_Copy.mono _ _ _)
   | (with_reducible exact arr_Deep.mono _ _ _)
   | (with_reducible exact layout_flipped.mono _ _ _)
   | (with_reducible exact layout_iota0.mono _ _ _)
   | (with_reducible exact layout_turned.mono _ _ _ _)
   | (with_reducible exact LeO.refl _)
   | (with_reducible exact LeO.none _)
   | (with_reducible refine LeO.ite ?_ ?_)
   | (with_reducible refine LeO.bind ?_ (fun _ => ?_))

   | exact arr_Check.mono _ _ _
   | exact arr_Copy.mono _ _ _
   | exact arr_Deep.mono _ _ _
   | exact layout_flipped.mono _ _ _
   | exact layout_iota0.mono _ _ _
   | exact layout_turned.mono _ _ _ _
set_option maxHeartbeats 8000000 in
set_option maxRecDepth 100000 in
theorem layout_Mo.calls (k : Nat) (a0 : Int) (A1_0 : Option Addr) (c1_0 : Nat) (l1_0 : List Int) (P1_1_ : Nat → Prop) (A1_1 : Option Addr) (c1_1 : Nat) (l1_1 : List (S39)) (r1 : List Int) (r2 : List (S39)) (r3 : Int) (w : World) (hr1_0 : Kd.C (Kd.int .i64) w A1_0 l1_0.length l1_0) (hc1_0 : l1_0.length ≤ c1_0) (hs1_1 : Kd.V k39 39 w w.heap.size (fun k_ => P1_1_ k_) (.slice A1_1 l1_1.length c1_1) l1_1) (h : layout_Mo.f k a0 l1_0 l1_1 = some (r1, r2, r3)) :
  Calls Try.prog 11 #[.int .i64 a0, .agg #[.slice A1_0 l1_0.length c1_0, .slice A1_1 l1_1.length c1_1]] w fun e w' => ∃ v0_ v1_ : Value, e = .returned (.tuple #[.agg #[v0_, v1_], .int .i64 r3]) ∧ Kd.V (Kd.int .i64) 3 w' w.heap.size (fun k_ => (P1_1_ k_ ∨ w.heap.size ≤ k_)) v0_ r1 ∧ Kd.V k39 39 w' w.heap.size (fun k_ => (P1_1_ k_ ∨ w.heap.size ≤ k_)) v1_ r2 ∧ Below w.heap.size w w' := by
 have hu25 := Try.underlying25
 have hu39 := Try.underlying39
 have HR1_0 := gA hr1_0
 have HC1_0 := gA hc1_0
 clear hr1_0 hc1_0
 have HO1_1 := gA (show Kd.V k39 39 w w.heap.size (fun k_ => (P1_1_ k_ ∨ w.heap.size ≤ k_)) (.slice A1_1 l1_1.length c1_1) l1_1 from Kd.V_mono hs1_1 (fun k_ hk => .inl hk))
 have HB := gA (Below.refl w.heap.size w)
 have H : ((arr_Check.f k l1_0 l1_1).bind fun t267 => (if t267 = 0 then ((arr_Copy.f k l1_0 l1_1).bind fun bt268 => (if a0 = 5 then ((layout_iota0.f k bt268.1 bt268.2).bind fun bt274 => (some (bt274.1, bt274.2.1, bt274.2.2))) else (if a0 = 6 then (layout_Mo.l0 k bt268.1 (bt268.1.length : Int) 0 (([(bt268.1.length : Int)] : List Int)) ([] : List (S39))) else (if a0 = 7 then ((layout_tally.f bt268.1 bt268.2).bind fun t289 => ((arr_Atom.f t289).bind fun bt290 => (some (bt290.1, bt290.2, 0)))) else (if a0 = 8 then (some ((([(bt268.2.length : Int)] : List Int)), bt268.2, 0)) else (if a0 = 9 then ((layout_turned.f k bt268.1 bt268.2 0).bind fun bt299 => (some (bt299.1, bt299.2, 0))) else (if a0 = 10 then ((layout_turned.f k bt268.1 bt268.2 (wrap64 ((bt268.1.length : Int) - 1))).bind fun bt305 => (some (bt305.1, bt305.2, 0))) else (if a0 = 11 then ((layout_flipped.f k bt268.1 bt268.2).bind fun bt311 => (some (bt311.1, bt311.2, 0))) else (if a0 = 15 then ((arr_Deep.f k bt268.1 bt268.2).bind fun t317 => (if t317 ≥ 8 then (some (([] : List Int), ([] : List (S39)), 15)) else (some (([] : List Int), (([(⟨2, 0, (([(⟨bt268.1, bt268.2⟩ : S25)] : List (S25)))⟩ : S39)] : List (S39))), 0)))) else (if a0 = 16 then ((layout_open.f bt268.1 bt268.2).bind fun bt324 => (some (bt324.1, bt324.2.1, bt324.2.2))) else (if a0 = 17 then ((layout_first.f bt268.1 bt268.2).bind fun bt331 => (some (bt331.1, bt331.2.1, bt331.2.2))) else (if a0 = 18 then (if (bt268.1.length : Int) ≥ 8 then (some (([] : List Int), ([] : List (S39)), 6)) else ((some (([1] : List Int) : List Int)).bind fun y338 => (if y338.length + bt268.1.length < 17592186044416 then (some ((y338 ++ bt268.1), bt268.2, 0)) else (none)))) else (some (([] : List Int), ([] : List (S39)), 1)))))))))))))) else (some (([] : List Int), ([] : List (S39)), t267)))) = some (r1, r2, r3) := h
 clear h
 replace H := Option.bind_eq_some_iff.mp H
 obtain ⟨t267, A30, H⟩ := H
 replace H : (if t267 = 0 then ((arr_Copy.f k l1_0 l1_1).bind fun bt268 => (if a0 = 5 then ((layout_iota0.f k bt268.1 bt268.2).bind fun bt274 => (some (bt274.1, bt274.2.1, bt274.2.2))) else (if a0 = 6 then (layout_Mo.l0 k bt268.1 (bt268.1.length : Int) 0 (([(bt268.1.length : Int)] : List Int)) ([] : List (S39))) else (if a0 = 7 then ((layout_tally.f bt268.1 bt268.2).bind fun t289 => ((arr_Atom.f t289).bind fun bt290 => (some (bt290.1, bt290.2, 0)))) else (if a0 = 8 then (some ((([(bt268.2.length : Int)] : List Int)), bt268.2, 0)) else (if a0 = 9 then ((layout_turned.f k bt268.1 bt268.2 0).bind fun bt299 => (some (bt299.1, bt299.2, 0))) else (if a0 = 10 then ((layout_turned.f k bt268.1 bt268.2 (wrap64 ((bt268.1.length : Int) - 1))).bind fun bt305 => (some (bt305.1, bt305.2, 0))) else (if a0 = 11 then ((layout_flipped.f k bt268.1 bt268.2).bind fun bt311 => (some (bt311.1, bt311.2, 0))) else (if a0 = 15 then ((arr_Deep.f k bt268.1 bt268.2).bind fun t317 => (if t317 ≥ 8 then (some (([] : List Int), ([] : List (S39)), 15)) else (some (([] : List Int), (([(⟨2, 0, (([(⟨bt268.1, bt268.2⟩ : S25)] : List (S25)))⟩ : S39)] : List (S39))), 0)))) else (if a0 = 16 then ((layout_open.f bt268.1 bt268.2).bind fun bt324 => (some (bt324.1, bt324.2.1, bt324.2.2))) else (if a0 = 17 then ((layout_first.f bt268.1 bt268.2).bind fun bt331 => (some (bt331.1, bt331.2.1, bt331.2.2))) else (if a0 = 18 then (if (bt268.1.length : Int) ≥ 8 then (some (([] : List Int), ([] : List (S39)), 6)) else ((some (([1] : List Int) : List Int)).bind fun y338 => (if y338.length + bt268.1.length < 17592186044416 then (some ((y338 ++ bt268.1), bt268.2, 0)) else (none)))) else (some (([] : List Int), ([] : List (S39)), 1)))))))))))))) else (some (([] : List Int), ([] : List (S39)), t267))) = some (r1, r2, r3) := H
 have A3 := gA A30
 clear A30
 have HC4 := gA H
 clear H
 go_enter Try.func11, Try.ntmps11
 go_upto_if 13 with (first | ((with_reducible refine gate_dst (N := 3) rfl ?_); refine box_event ?hg (N := 3) ?hd (cs := #[.slice A1_0 l1_0.length c1_0, .slice A1_1 l1_1.length c1_1]) (t := 25) ?hr ?_; (case hd => rfl); (case hg => rfl); (case hr => first | (go_simp; done) | (go_simp; rfl)); intro gb265 hg w5 hbox hb; replace HO1_1 := gA (Kd.V_below (Kd.V_elderB (gV HO1_1) gb265 (Nat.le_of_eq hg.symm)) hb); have BK265 := gA (hbox); have GW265 := gA ((by rw [hg]; exact (below_size (gB HB)) : w.heap.size ≤ gb265)); have GE265 := gA ((by rw [hg]; exact (below_size (gB HB)) : w.heap.size ≤ gb265)); replace HB := gA (below_step (gB HB) hb); clear hb hbox hg) | ((with_reducible refine gate_dst (N := 4) rfl ?_); refine box_event ?hg (N := 4) ?hd (cs := #[.slice none 0 0, .slice none 0 0]) (t := 25) ?hr ?_; (case hd => rfl); (case hg => rfl); (case hr => first | (go_simp; done) | (go_simp; rfl)); intro gb266 hg w6 hbox hb; replace HO1_1 := gA (Kd.V_below (Kd.V_elderB (gV HO1_1) gb266 (Nat.le_of_eq hg.symm)) hb); have BK266 := gA (hbox); have GW266 := gA ((by rw [hg]; exact (below_size (gB HB)) : w.heap.size ≤ gb266)); have GE266 := gA ((by rw [hg]; exact (below_size (gB HB)) : w.heap.size ≤ gb266)); replace HB := gA (below_step (gB HB) hb); have NB265_266 := gA ((by rw [hg]; exact Nat.ne_of_lt (blk_lt (gK BK265)) : gb265 ≠ gb266)); have NB266_265 := gA ((by rw [hg]; exact Nat.ne_of_gt (blk_lt (gK BK265)) : gb266 ≠ gb265)); replace BK265 := gA (blk_below (gK BK265) hb); clear hb hbox hg; have hnb7 := NB265_266.out; have hnc7 := NB266_265.out; obtain ⟨hcz8_0, hcz8_1, hfz8_0, hfz8_1⟩ := gz2 BK265) | ((with_reducible refine gate_callee (f := 21) rfl ?_); refine goesL_ (some 11) rfl rfl Try.func21 (by kernel_rfl) rfl #[.agg #[.slice A1_0 l1_0.length c1_0, .slice A1_1 l1_1.length c1_1]] rfl (by (try simp only [List.map_toArray, List.map_cons, List.map_nil]); first | done | rfl | (simp only [List.length_drop, List.length_take]; rfl)) ?_; (with_reducible refine (arr_Check.calls k _ _ l1_0 _ _ l1_1 t267 _ ?side1 ?side2 ?side3 ?side4 A3.out).mono ?_); (case side1 => exact gC HR1_0 HB); (case side2 => exact HC1_0.out); (case side3 => repeat (first | exact (Kd.V_reads' HO1_1.out).2.2 | (with_reducible refine Kd.C_alloc ?_ _) | (with_reducible refine Kd.C_drewN ?_ _) | (with_reducible refine Kd.C_drew ?_))); (case side4 => exact (Kd.V_reads' HO1_1.out).2.1); rintro e w9 ⟨rfl, hb⟩; refine ⟨_, rfl, ?_⟩; replace HO1_1 := gA (Kd.V_below (gV HO1_1) hb); replace BK265 := gA (blk_below (gK BK265) hb); replace BK266 := gA (blk_below (gK BK266) hb); replace HB := gA (below_step (gB HB) hb); (try clear hb)))
 have H := HC4.out; clear HC4
 by_cases c10 : t267 = 0
 ·rw [if_pos c10] at H
  have c10b0 : (t267 == 0) = true := beq_iff_eq.mpr c10
  have c10b1 : (t267 != 0) = false := bne_eq_false_iff_eq.mpr c10
  clear c10
  (first | rw [c10b0] | rw [c10b1] | (simp only [i64_w, i32_w]; rw [c10b0]) | skip)
  replace H := Option.bind_eq_some_iff.mp H
  obtain ⟨⟨t268, t271⟩, A110, H⟩ := H
  replace H : (if a0 = 5 then ((layout_iota0.f k t268 t271).bind fun bt274 => (some (bt274.1, bt274.2.1, bt274.2.2))) else (if a0 = 6 then (layout_Mo.l0 k t268 (t268.length : Int) 0 (([(t268.length : Int)] : List Int)) ([] : List (S39))) else (if a0 = 7 then ((layout_tally.f t268 t271).bind fun t289 => ((arr_Atom.f t289).bind fun bt290 => (some (bt290.1, bt290.2, 0)))) else (if a0 = 8 then (some ((([(t271.length : Int)] : List Int)), t271, 0)) else (if a0 = 9 then ((layout_turned.f k t268 t271 0).bind fun bt299 => (some (bt299.1, bt299.2, 0))) else (if a0 = 10 then ((layout_turned.f k t268 t271 (wrap64 ((t268.length : Int) - 1))).bind fun bt305 => (some (bt305.1, bt305.2, 0))) else (if a0 = 11 then ((layout_flipped.f k t268 t271).bind fun bt311 => (some (bt311.1, bt311.2, 0))) else (if a0 = 15 then ((arr_Deep.f k t268 t271).bind fun t317 => (if t317 ≥ 8 then (some (([] : List Int), ([] : List (S39)), 15)) else (some (([] : List Int), (([(⟨2, 0, (([(⟨t268, t271⟩ : S25)] : List (S25)))⟩ : S39)] : List (S39))), 0)))) else (if a0 = 16 then ((layout_open.f t268 t271).bind fun bt324 => (some (bt324.1, bt324.2.1, bt324.2.2))) else (if a0 = 17 then ((layout_first.f t268 t271).bind fun bt331 => (some (bt331.1, bt331.2.1, bt331.2.2))) else (if a0 = 18 then (if (t268.length : Int) ≥ 8 then (some (([] : List Int), ([] : List (S39)), 6)) else ((some (([1] : List Int) : List Int)).bind fun y338 => (if y338.length + t268.length < 17592186044416 then (some ((y338 ++ t268), t271, 0)) else (none)))) else (some (([] : List Int), ([] : List (S39)), 1))))))))))))) = some (r1, r2, r3) := H
  have A11 := gA A110
  clear A110
  have HC12 := gA H
  clear H
  have hnb13 := NB265_266.out
  have hnc13 := NB266_265.out
  obtain ⟨hcz14_0, hcz14_1, hfz14_0, hfz14_1⟩ := gz2 BK265
  go_upto_if 19 with (first | ((with_reducible refine gate_callee (f := 22) rfl ?_); refine goesL_ (some 17) rfl rfl Try.func22 (by kernel_rfl) rfl #[.agg #[.slice A1_0 l1_0.length c1_0, .slice A1_1 l1_1.length c1_1]] rfl (by (try simp only [List.map_toArray, List.map_cons, List.map_nil]); first | done | rfl | (simp only [List.length_drop, List.length_take]; rfl)) ?_; (with_reducible refine (arr_Copy.calls k _ _ l1_0 (fun k_ => (((P1_1_ k_ ∨ w.heap.size ≤ k_) ∧ k_ ≠ gb265) ∧ k_ ≠ gb266)) _ _ l1_1 t268 t271 _ ?side1 ?side2 ?side3 A11.out).mono ?_); (case side1 => exact gC HR1_0 HB); (case side2 => exact HC1_0.out); (case side3 => exact HO1_1.out); rintro e w15 ⟨v269, v272, rfl, ho0, ho1, hb⟩; refine ⟨_, rfl, ?_⟩; replace HO1_1 := gA (Kd.V_mono (Kd.V_told (Kd.V_told (Kd.V_old (gV HO1_1) hb) (Kd.R_base ho0)) (by first | exact Kd.N_base ho1 | exact Kd.R_base ho1)) (fun _ h_ => h_.1)); have HO270 := gA (Kd.R_lower (Kd.R_newM (M := fun k_ => (w.heap.size ≤ k_)) (Kd.R_mono (ok' := fun k_ => True) ho0 (fun _ hk_ => trivial)) (below_size (gB HB)) (fun k_ h_ => h_)) (below_size (gB HB))); have HO273 := gA (Kd.N_lower (Kd.N_mono (ok' := fun k_ => (P1_1_ k_ ∨ w.heap.size ≤ k_) ∧ some k_ ≠ (v269 : Value).ownBlock ∧ k_ ≠ gb265 ∧ k_ ≠ gb266) ho1 (fun k_ hk_ => ⟨Or.elim hk_.1 (fun hs_ => hs_.1.1) (fun hn_ => (.inr (Nat.le_trans (below_size (gB HB)) hn_))), hk_.2, Or.elim hk_.1 (fun hs_ => hs_.1.2) (fun hn_ => (Kd.freshB (gK BK265) k_ hn_)), Or.elim hk_.1 (fun hs_ => hs_.2) (fun hn_ => (Kd.freshB (gK BK266) k_ hn_))⟩)) (below_size (gB HB))); replace BK265 := gA (blk_below (gK BK265) hb); replace BK266 := gA (blk_below (gK BK266) hb); replace HB := gA (below_step (gB HB) hb); (try clear hb); (try clear ho0); (try clear ho1); obtain ⟨Ao16, co16, eo16⟩ := Kd.R_slice HO270.out; subst eo16; obtain ⟨hcz17_0, hcz17_1, hfz17_0, hfz17_1⟩ := gz2 BK265; obtain ⟨Ao18, co18, eo18⟩ := Kd.N_slice HO273.out; subst eo18) | ((with_reducible refine gate_store (t := 25) (p := 3) rfl ?_); refine store_event (t := 25) (p := 3) (v := ?vo_w19) (w1 := ((w15.setCell ⟨gb265, 0, none⟩ (.slice Ao16 t268.length co16)).setCell ⟨gb265, 1, none⟩ (.slice Ao18 t271.length co18))) ?hg ?ho ?hn ?hr ?_; (case ho => rfl); (case hg => rfl); (case hn => rfl); (case hr => first | (go_simp; done) | (go_simp; rfl)); intro w19 hw; have n0_ : Aside0 (Kd.V k39 39 w19 w.heap.size (fun k_ => (P1_1_ k_ ∨ w.heap.size ≤ k_) ∧ some k_ ≠ (.slice Ao16 t268.length co16 : Value).ownBlock ∧ some k_ ≠ (.slice Ao18 t271.length co18 : Value).ownBlock ∧ k_ ≠ gb265 ∧ k_ ≠ gb266) (.slice A1_1 l1_1.length c1_1) l1_1) := ⟨(by rw [hw]; exact (Kd.V_mono (Kd.V_far (p := ⟨gb265, 1, none⟩) (Kd.V_far (p := ⟨gb265, 0, none⟩) (Kd.V_mono HO1_1.out (fun k_ hk => (⟨hk, hk.1.1.1.2⟩ : _ ∧ k_ ≠ gb265))) (fun _ hk => hk.2) (.slice Ao16 t268.length co16)) (fun _ hk => hk.2) (.slice Ao18 t271.length co18)) (fun _ hk => by first | exact ⟨hk.1.1.1.1.1, ⟨hk.1.1.2, ⟨hk.1.2, ⟨hk.1.1.1.1.2, hk.1.1.1.2⟩⟩⟩⟩ | (simp_all; done))))⟩; have n1_ : Aside0 (Kd.R (Kd.int .i64) 3 w19 w.heap.size (fun k_ => (w.heap.size ≤ k_)) (.slice Ao16 t268.length co16) t268) := ⟨(by rw [hw]; exact (Kd.R_mono (Kd.R_far (p := ⟨gb265, 1, none⟩) (Kd.R_far (p := ⟨gb265, 0, none⟩) (Kd.R_types HO270.out BK265.out (by decide)) (fun _ hk => hk.2) (.slice Ao16 t268.length co16)) (fun _ hk => hk.2) (.slice Ao18 t271.length co18)) (fun _ hk => hk.1.1)))⟩; have n2_ : Aside0 (Kd.N k39 39 w19 w.heap.size (fun k_ => (P1_1_ k_ ∨ w.heap.size ≤ k_) ∧ some k_ ≠ (.slice Ao16 t268.length co16 : Value).ownBlock ∧ k_ ≠ gb265 ∧ k_ ≠ gb266) (.slice Ao18 t271.length co18) t271) := ⟨(by rw [hw]; exact (Kd.N_mono (Kd.N_far (p := ⟨gb265, 1, none⟩) (Kd.N_far (p := ⟨gb265, 0, none⟩) (Kd.N_mono HO273.out (fun k_ hk => (⟨hk, hk.2.2.1⟩ : _ ∧ k_ ≠ gb265))) (fun _ hk => hk.2) (.slice Ao16 t268.length co16)) (fun _ hk => hk.2) (.slice Ao18 t271.length co18)) (fun _ hk => ⟨hk.1.1, ⟨hk.1.2.1, ⟨hk.1.2.2.1, hk.1.2.2.2⟩⟩⟩)))⟩; have n3_ : Aside0 (w19.heap[gb265]? = some (.cells #[.slice Ao16 t268.length co16, .slice Ao18 t271.length co18] 25 (0, 0))) := ⟨(by rw [hw]; exact (by refine blk_put (cs := #[.slice Ao16 t268.length co16, .slice A1_1 l1_1.length c1_1]) ?_ 1 _ rfl; refine blk_put (cs := #[.slice A1_0 l1_0.length c1_0, .slice A1_1 l1_1.length c1_1]) ?_ 0 _ rfl; exact gK BK265))⟩; have n4_ : Aside0 (w19.heap[gb266]? = some (.cells #[.slice none 0 0, .slice none 0 0] 25 (0, 0))) := ⟨(by rw [hw]; exact (by refine blk_far ?_ NB266_265.out _; refine blk_far ?_ NB266_265.out _; exact gK BK266))⟩; have n5_ : Aside0 (Below w.heap.size w w19) := ⟨(by rw [hw]; exact (by repeat (first | (with_reducible first | exact HB.out | apply below_alloc | apply pw_below_drewN | apply below_drew1 | refine below_set ?_ GE265.out | refine below_set ?_ GE266.out) | exact HB.out)))⟩; clear hw HO1_1 HO270 HO273 BK265 BK266 HB; have HO1_1 := n0_; have HO270 := n1_; have HO273 := n2_; have BK265 := n3_; have BK266 := n4_; have HB := n5_; clear n0_ n1_ n2_ n3_ n4_ n5_))
  have H := HC12.out; clear HC12
  by_cases c20 : a0 = 5
  ·rw [if_pos c20] at H
   have c20b0 : (a0 == 5) = true := beq_iff_eq.mpr c20
   have c20b1 : (a0 != 5) = false := bne_eq_false_iff_eq.mpr c20
   clear c20
   (first | rw [c20b0] | rw [c20b1] | (simp only [i64_w, i32_w]; rw [c20b0]) | skip)
   replace H := Option.bind_eq_some_iff.mp H
   obtain ⟨⟨t274, t277, t280⟩, A210, H⟩ := H
   replace H : (some (t274, t277, t280)) = some (r1, r2, r3) := H
   have A21 := gA A210
   clear A210
   simp only [Option.some.injEq, Prod.mk.injEq] at H
   obtain ⟨rfl, rfl, rfl⟩ := H
   have hnb22 := NB265_266.out
   have hnc22 := NB266_265.out
   obtain ⟨hcz23_0, hcz23_1, hfz23_0, hfz23_1⟩ := gz2 BK265
   go_wp2_with (first | ((with_reducible refine gate_callee (f := 23) rfl ?_); refine goesL_ (some 22) rfl rfl Try.func23 (by kernel_rfl) rfl #[.agg #[.slice Ao16 t268.length co16, .slice Ao18 t271.length co18]] rfl (by (try simp only [List.map_toArray, List.map_cons, List.map_nil]); first | done | rfl | (simp only [List.length_drop, List.length_take]; rfl)) ?_; (with_reducible refine (layout_iota0.calls k _ _ t268 _ _ t271 t274 t277 t280 _ ?side1 ?side2 ?side3 ?side4 A21.out).mono ?_); (case side1 => repeat (first | exact (Kd.R_reads' HO270.out).2.2 | (with_reducible refine Kd.C_alloc ?_ _) | (with_reducible refine Kd.C_drewN ?_ _) | (with_reducible refine Kd.C_drew ?_))); (case side2 => exact (Kd.R_reads' HO270.out).2.1); (case side3 => repeat (first | exact (Kd.N_reads' HO273.out).2.2 | (with_reducible refine Kd.C_alloc ?_ _) | (with_reducible refine Kd.C_drewN ?_ _) | (with_reducible refine Kd.C_drew ?_))); (case side4 => exact (Kd.N_reads' HO273.out).2.1); rintro e w24 ⟨v275, v278, rfl, ho0, ho1, hb⟩; refine ⟨_, rfl, ?_⟩; replace HO1_1 := gA (Kd.V_mono (Kd.V_told (Kd.V_told (Kd.V_old (gV HO1_1) hb) (Kd.R_base ho0)) (by first | exact Kd.N_base ho1 | exact Kd.R_base ho1)) (fun _ h_ => h_.1)); have HO276 := gA (Kd.R_lower (Kd.R_new' (Kd.R_newM (M := fun k_ => (w.heap.size ≤ k_)) ho0 (below_size (gB HB)) (fun k_ h_ => h_)) (Kd.R_lt (gR HO270))) (below_size (gB HB))); have HO279 := gA (Kd.N_lower (Kd.N_mono (ok' := fun k_ => (P1_1_ k_ ∨ w.heap.size ≤ k_) ∧ some k_ ≠ (v275 : Value).ownBlock ∧ some k_ ≠ (.slice Ao16 t268.length co16 : Value).ownBlock ∧ some k_ ≠ (.slice Ao18 t271.length co18 : Value).ownBlock ∧ k_ ≠ gb265 ∧ k_ ≠ gb266) (Kd.R_N (Kd.R_bound ho1)) (fun k_ hk_ => ⟨(.inr (Nat.le_trans (below_size (gB HB)) hk_.2.1)), hk_.1, (Kd.fresh' (Kd.R_lt (gR HO270)) k_ hk_.2.1), (Kd.fresh' (Kd.N_lt (gN HO273)) k_ hk_.2.1), (Kd.freshB (gK BK265) k_ hk_.2.1), (Kd.freshB (gK BK266) k_ hk_.2.1)⟩)) (below_size (gB HB))); replace HO270 := gA (Kd.R_elder' (gR HO270) (Kd.R_base ho0) hb); replace HO273 := gA (Kd.N_mono (Kd.N_told (Kd.N_told (Kd.N_old (gN HO273) hb) (Kd.R_base ho0)) (by first | exact Kd.N_base ho1 | exact Kd.R_base ho1)) (fun _ h_ => h_.1)); replace BK265 := gA (blk_below (gK BK265) hb); replace BK266 := gA (blk_below (gK BK266) hb); replace HB := gA (below_step (gB HB) hb); (try clear hb); (try clear ho0); (try clear ho1); obtain ⟨Ao25, co25, eo25⟩ := Kd.R_slice HO276.out; subst eo25; obtain ⟨hcz26_0, hcz26_1, hfz26_0, hfz26_1⟩ := gz2 BK266; obtain ⟨Ao27, co27, eo27⟩ := Kd.N_slice HO279.out; subst eo27))
   refine bodyPost_ret (results_ct rfl _ _ gb266 25 #[.slice Ao25 t274.length co25, .slice Ao27 t277.length co27] (0, 0) _ rfl (by refine blk_put (cs := #[.slice Ao25 t274.length co25, .slice none 0 0]) ?_ 1 _ rfl; refine blk_put (cs := #[.slice none 0 0, .slice none 0 0]) ?_ 0 _ rfl; exact gK BK266) Try.underlying25 rfl (by kernel_rfl)) rfl ?_
   exact ⟨_, _, rfl, Kd.V_mono (Kd.R_V (Kd.R_mono (Kd.R_far (p := ⟨gb266, 1, none⟩) (Kd.R_far (p := ⟨gb266, 0, none⟩) (Kd.R_types HO276.out BK266.out (by decide)) (fun _ hk => hk.2) (.slice Ao25 t274.length co25)) (fun _ hk => hk.2) (.slice Ao27 t277.length co27)) (fun _ hk => hk.1.1.1))) (fun k_ hk => by first | exact ⟨(.inr (hk.1)), hk.2⟩ | exact (.inr (hk))), Kd.N_V (Kd.N_mono (Kd.N_far (p := ⟨gb266, 1, none⟩) (Kd.N_far (p := ⟨gb266, 0, none⟩) (Kd.N_mono HO279.out (fun k_ hk => (⟨hk, hk.2.2.2.2.2⟩ : _ ∧ k_ ≠ gb266))) (fun _ hk => hk.2) (.slice Ao25 t274.length co25)) (fun _ hk => hk.2) (.slice Ao27 t277.length co27)) (fun _ hk => hk.1.1)), by repeat first | exact gB HB | refine below_set ?_ GE265.out | refine below_set ?_ GE266.out⟩
  ·rw [if_neg c20] at H
   have c20b0 : (a0 == 5) = false := beq_eq_false_iff_ne.mpr c20
   have c20b1 : (a0 != 5) = true := bne_iff_ne.mpr c20
   (first | rw [c20b0] | rw [c20b1] | (simp only [i64_w, i32_w]; rw [c20b0]) | skip)
   by_cases c28 : a0 = 6
   ·rw [if_pos c28] at H
    have c28b0 : (a0 == 6) = true := beq_iff_eq.mpr c28
    have c28b1 : (a0 != 6) = false := bne_eq_false_iff_eq.mpr c28
    clear c28
    obtain ⟨y281, hy281⟩ : ∃ y_ : List Int, y_ = (([(t268.length : Int)] : List Int)) := ⟨_, rfl⟩
    replace H : (layout_Mo.l0 k t268 (t268.length : Int) 0 y281 ([] : List (S39))) = some (r1, r2, r3) := by first | (rw [hy281]; with_reducible exact H) | (have H2_ := (Option.bind_some _ _).symm.trans H; rw [hy281]; with_reducible exact H2_) | (have H2_ := (Option.bind_some _ _).symm.trans H; with_reducible exact H2_) | with_reducible exact H | (rw [hy281]; exact H) | exact H
    have Ny281 := gA hy281
    clear hy281
    have H' := gA H
    clear H
    have hnb29 := NB265_266.out
    have hnc29 := NB266_265.out
    obtain ⟨hcz30_0, hcz30_1, hfz30_0, hfz30_1⟩ := gz2 BK265
    go_wp2_with (first | ((with_reducible refine gate_dst (N := 30) rfl ?_); refine Kd.R_lit (Kd.int .i64) _ 3 ?hg (N := 30) ?hd (xs := ([(t268.length : Int)] : List Int)) (inner := [.int .i64 (t268.length : Int)]) (ok := fun _ => True) (okp := fun _ => True) ?hr ?hp (fun _ hk => hk) trivial (Below.refl _ _) (Nat.le_refl _) (by simp) ?_; (case hd => rfl); (case hg => rfl); (case hr => first | (go_simp; done) | (go_simp; rfl)); (case hp => exact (Reps.one (show Kd.M (Kd.int .i64) _ _ _ (t268.length : Int) [.int .i64 (t268.length : Int)] from rfl) (Reps.none _ _))); intro v282 w31 ho32 hb hg_ hnew_; clear hg_ hnew_; (first | rw [← Ny281.out] at ho32 | (simp only [Int.reduceToNat] at ho32; rw [← Ny281.out] at ho32)); replace HO1_1 := gA (Kd.V_elder' (gV HO1_1) (Kd.R_base ho32) hb); replace HO273 := gA (Kd.N_elder' (gN HO273) (Kd.R_base ho32) hb); have HO283 := gA (Kd.R_lower (Kd.R_new' (Kd.R_newM (M := fun k_ => (w.heap.size ≤ k_)) ho32 (below_size (gB HB)) (fun k_ h_ => h_)) (Kd.R_lt (gR HO270))) (below_size (gB HB))); replace HO270 := gA (Kd.R_elder' (gR HO270) (Kd.R_base ho32) hb); replace BK265 := gA (blk_below (gK BK265) hb); replace BK266 := gA (blk_below (gK BK266) hb); replace HB := gA (below_step (gB HB) hb); clear hb ho32; obtain ⟨Ao33, co33, eo33⟩ := Kd.R_slice HO283.out; subst eo33) | ((with_reducible refine gate_dst (N := 7) rfl ?_); refine box_event ?hg (N := 7) ?hd (cs := #[.slice none 0 0, .slice none 0 0]) (t := 25) ?hr ?_; (case hd => rfl); (case hg => rfl); (case hr => first | (go_simp; done) | (go_simp; rfl)); intro gb284 hg w34 hbox hb; replace HO1_1 := gA (Kd.V_below (Kd.V_elderB (gV HO1_1) gb284 (Nat.le_of_eq hg.symm)) hb); replace HO270 := gA (Kd.R_below (gR HO270) hb); replace HO273 := gA (Kd.N_below (Kd.N_elderB (gN HO273) gb284 (Nat.le_of_eq hg.symm)) hb); replace HO283 := gA (Kd.R_below (gR HO283) hb); have BK284 := gA (hbox); have GW284 := gA ((by rw [hg]; exact (below_size (gB HB)) : w.heap.size ≤ gb284)); have GE284 := gA ((by rw [hg]; exact (below_size (gB HB)) : w.heap.size ≤ gb284)); replace HB := gA (below_step (gB HB) hb); have NB265_284 := gA ((by rw [hg]; exact Nat.ne_of_lt (blk_lt (gK BK265)) : gb265 ≠ gb284)); have NB284_265 := gA ((by rw [hg]; exact Nat.ne_of_gt (blk_lt (gK BK265)) : gb284 ≠ gb265)); replace BK265 := gA (blk_below (gK BK265) hb); have NB266_284 := gA ((by rw [hg]; exact Nat.ne_of_lt (blk_lt (gK BK266)) : gb266 ≠ gb284)); have NB284_266 := gA ((by rw [hg]; exact Nat.ne_of_gt (blk_lt (gK BK266)) : gb284 ≠ gb266)); replace BK266 := gA (blk_below (gK BK266) hb); clear hb hbox hg; have hnb35 := NB284_265.out; have hnc35 := NB265_284.out; have hnb36 := NB284_266.out; have hnc36 := NB266_284.out; obtain ⟨hcz37_0, hcz37_1, hfz37_0, hfz37_1⟩ := gz2 BK284; obtain ⟨hcz38_0, hcz38_1, hfz38_0, hfz38_1⟩ := gz2 BK265))
    go_loopg [35] k (fun kq v35 w' => ∃ (x35_1 : Int) (x285001_1 : List (S39)) (u285001 : Value), v35 = .int .i64 x35_1 ∧ Aside0 (layout_Mo.l0 kq t268 (t268.length : Int) x35_1 y281 x285001_1 = some (r1, r2, r3)) ∧ Aside0 (kq ≤ k) ∧ Aside0 (Kd.R (Kd.int .i64) 3 w' w.heap.size (fun k_ => (w.heap.size ≤ k_) ∧ some k_ ≠ ((.slice Ao33 y281.length co33) : Value).ownBlock) (.slice Ao16 t268.length co16) t268) ∧ Aside0 (Kd.R (Kd.int .i64) 3 w' w.heap.size (fun k_ => (w.heap.size ≤ k_) ∧ some k_ ≠ ((.slice Ao33 y281.length co33) : Value).ownBlock) (.slice Ao16 t268.length co16) t268) ∧ Aside0 (Kd.N k39 39 w' w.heap.size (fun k_ => (P1_1_ k_ ∨ w.heap.size ≤ k_) ∧ some k_ ≠ ((.slice Ao16 t268.length co16) : Value).ownBlock ∧ some k_ ≠ ((.slice Ao16 t268.length co16) : Value).ownBlock ∧ some k_ ≠ ((.slice Ao33 y281.length co33) : Value).ownBlock ∧ some k_ ≠ (u285001 : Value).ownBlock ∧ k_ ≠ gb265 ∧ k_ ≠ gb266 ∧ k_ ≠ gb284) (.slice Ao18 t271.length co18) t271) ∧ Aside0 (Kd.R (Kd.int .i64) 3 w' w.heap.size (fun k_ => (w.heap.size ≤ k_) ∧ some k_ ≠ ((.slice Ao16 t268.length co16) : Value).ownBlock ∧ some k_ ≠ ((.slice Ao16 t268.length co16) : Value).ownBlock) (.slice Ao33 y281.length co33) y281) ∧ Aside0 (Kd.N k39 39 w' w.heap.size (fun k_ => (P1_1_ k_ ∨ w.heap.size ≤ k_) ∧ some k_ ≠ ((.slice Ao16 t268.length co16) : Value).ownBlock ∧ some k_ ≠ ((.slice Ao16 t268.length co16) : Value).ownBlock ∧ some k_ ≠ ((.slice Ao18 t271.length co18) : Value).ownBlock ∧ some k_ ≠ ((.slice Ao33 y281.length co33) : Value).ownBlock ∧ k_ ≠ gb265 ∧ k_ ≠ gb266 ∧ k_ ≠ gb284) u285001 x285001_1) ∧ Aside0 (w'.heap[gb265]? = some (.cells #[(.slice Ao16 t268.length co16), (.slice Ao18 t271.length co18)] 25 (0, 0))) ∧ Aside0 (w'.heap[gb266]? = some (.cells #[(.slice none 0 0), (.slice none 0 0)] 25 (0, 0))) ∧ Aside0 (w'.heap[gb284]? = some (.cells #[(.slice Ao33 y281.length co33), u285001] 25 (0, 0))) ∧ Aside0 (Below w.heap.size w w'))
    case atStart => exact ⟨(0), (([] : List (S39))), (.slice none 0 0), (rfl), H', ⟨Nat.le_refl _⟩, ⟨Kd.R_mono (Kd.R_far (p := ⟨gb284, 1, none⟩) (Kd.R_far (p := ⟨gb284, 0, none⟩) (Kd.R_types HO270.out BK284.out (by decide)) (fun _ hk => hk.2) (.slice Ao33 y281.length co33)) (fun _ hk => hk.2) (.slice none 0 0)) (fun _ hk => ⟨hk.1.1, hk.1.2⟩)⟩, ⟨Kd.R_mono (Kd.R_far (p := ⟨gb284, 1, none⟩) (Kd.R_far (p := ⟨gb284, 0, none⟩) (Kd.R_types HO270.out BK284.out (by decide)) (fun _ hk => hk.2) (.slice Ao33 y281.length co33)) (fun _ hk => hk.2) (.slice none 0 0)) (fun _ hk => ⟨hk.1.1, hk.1.2⟩)⟩, ⟨Kd.N_mono (Kd.N_far (p := ⟨gb284, 1, none⟩) (Kd.N_far (p := ⟨gb284, 0, none⟩) (Kd.N_mono HO273.out (fun k_ hk => (⟨hk, hk.2⟩ : _ ∧ k_ ≠ gb284))) (fun _ hk => hk.2) (.slice Ao33 y281.length co33)) (fun _ hk => hk.2) (.slice none 0 0)) (fun _ hk => ⟨hk.1.1.1.1, ⟨hk.1.1.1.2.1, ⟨hk.1.1.1.2.1, ⟨hk.1.1.2, ⟨(by simp [Value.ownBlock]), ⟨hk.1.1.1.2.2.1, ⟨hk.1.1.1.2.2.2, hk.1.2⟩⟩⟩⟩⟩⟩⟩)⟩, ⟨Kd.R_mono (Kd.R_far (p := ⟨gb284, 1, none⟩) (Kd.R_far (p := ⟨gb284, 0, none⟩) (Kd.R_types HO283.out BK284.out (by decide)) (fun _ hk => hk.2) (.slice Ao33 y281.length co33)) (fun _ hk => hk.2) (.slice none 0 0)) (fun _ hk => by first | exact ⟨hk.1.1.1, ⟨hk.1.2, hk.1.2⟩⟩ | (simp_all; done))⟩, ⟨by first | exact Kd.R_nil _ _ _ _ _ | exact Kd.N_nil _ _ _ _ _ | exact Kd.V_nil _ _ _ _ _ | exact Kd.Q_nil _ _ _ _ _ | exact Kd.S_nil _ _ _ _ _⟩, ⟨by refine blk_far ?_ NB265_284.out _; refine blk_far ?_ NB265_284.out _; exact gK BK265⟩, ⟨by refine blk_far ?_ NB266_284.out _; refine blk_far ?_ NB266_284.out _; exact gK BK266⟩, ⟨by refine blk_put (cs := #[.slice Ao33 y281.length co33, .slice none 0 0]) ?_ 1 _ rfl; refine blk_put (cs := #[.slice none 0 0, .slice none 0 0]) ?_ 0 _ rfl; exact gK BK284⟩, ⟨by repeat first | exact gB HB | refine below_set ?_ GE265.out | refine below_set ?_ GE266.out | refine below_set ?_ GE284.out⟩⟩
    case round =>
     clear H'
     try clear c1
     try clear c2
     try clear p2
     try clear c3
     try clear p6
     try clear c7
     try clear c10
     try clear c10b0
     try clear c10b1
     try clear c11
     try clear c13
     try clear c20
     try clear c20b0
     try clear c20b1
     try clear c21
     try clear c22
     try clear c23
     try clear c28
     try clear c28b0
     try clear c28b1
     try clear c29
     try clear c35
     try clear c36
     try clear hcz14_0
     try clear hcz14_1
     try clear hcz17_0
     try clear hcz17_1
     try clear hcz23_0
     try clear hcz23_1
     try clear hcz26_0
     try clear hcz26_1
     try clear hcz30_0
     try clear hcz30_1
     try clear hcz37_0
     try clear hcz37_1
     try clear hcz38_0
     try clear hcz38_1
     try clear hcz8_0
     try clear hcz8_1
     try clear hfz14_0
     try clear hfz14_1
     try clear hfz17_0
     try clear hfz17_1
     try clear hfz23_0
     try clear hfz23_1
     try clear hfz26_0
     try clear hfz26_1
     try clear hfz30_0
     try clear hfz30_1
     try clear hfz37_0
     try clear hfz37_1
     try clear hfz38_0
     try clear hfz38_1
     try clear hfz8_0
     try clear hfz8_1
     obtain ⟨x35_1, x285001_1, u285001, rfl, HA, HK1, HO_33, HO_266000, HO_266001, HO_285000, HO_285001, BK265, BK266, BK284, HB⟩ := hrel
     cases gk with
     | zero => exact absurd HA.out (by simp [layout_Mo.l0])
     | succ k1 =>
      have H := HA.out; clear HA
      simp only [layout_Mo.l0] at H
      by_cases c39 : x35_1 < (t268.length : Int)
      ·rw [if_pos c39] at H
       have c39b0 := decide_eq_true c39
       clear c39
       obtain ⟨c40, H⟩ := iS H
       have c40b0 := decide_eq_true c40
       clear c40
       obtain ⟨c41, H⟩ := iS H
       have c41b0 := decide_eq_true c41
       clear c41
       obtain ⟨c42, H⟩ := iS H
       have LMc42 := gA c42
       clear c42
       obtain ⟨y286, hy286⟩ : ∃ y_ : List (S39), y_ = (x285001_1 ++ [(⟨0, rd t268 x35_1, ([] : List (S25))⟩ : S39)]) := ⟨_, rfl⟩
       replace H : (layout_Mo.l0 k1 t268 (t268.length : Int) (wrap64 (x35_1 + 1)) y281 y286) = some (r1, r2, r3) := by first | (rw [hy286]; with_reducible exact H) | (have H2_ := (Option.bind_some _ _).symm.trans H; rw [hy286]; with_reducible exact H2_) | (have H2_ := (Option.bind_some _ _).symm.trans H; with_reducible exact H2_) | with_reducible exact H | (rw [hy286]; exact H) | exact H
       have Ny286 := gA hy286
       clear hy286
       have H' := gA H
       clear H
       have p285 : 0 ≤ (x35_1 : Int) := of_decide_eq_true (by assumption)
       have q285 : x35_1 < (t268.length : Int) := of_decide_eq_true (by assumption)
       obtain ⟨ad285, e285, hx285_0⟩ := Kd.at_int (Kd.R_reads' HO_33.out).2.2 x35_1 p285 q285
       cases e285
       replace p285 := eq_true p285
       replace q285 := eq_true q285
       have hnb43 := NB284_265.out
       have hnc43 := NB265_284.out
       have hnb44 := NB284_266.out
       have hnc44 := NB266_284.out
       obtain ⟨hcz45_0, hcz45_1, hfz45_0, hfz45_1⟩ := gz2 BK284
       go_wp2_with (first | ((with_reducible refine gate_builtin (b := .append) (xs := #[.tmp 40, .tmp 43]) rfl ?_); at_builtin; refine Kd.N_append k39 (w0 := w) w.heap.size rfl (.tmp 40) (.tmp 43) 23 39 (.agg #[(.int .i64 0), (.int .i64 0), (.slice none 0 0)]) 40 rfl Try.underlying23 info39 rfl (by decide) (by omega) u285001 x285001_1 (⟨0, rd t268 x35_1, ([] : List (S25))⟩ : S39) [.int .i64 0, .int .i64 (rd t268 x35_1), .slice none 0 0] (fun k_ => (P1_1_ k_ ∨ w.heap.size ≤ k_) ∧ some k_ ≠ (.slice (some ad285) t268.length co16 : Value).ownBlock ∧ some k_ ≠ (.slice (some ad285) t268.length co16 : Value).ownBlock ∧ some k_ ≠ (.slice Ao18 t271.length co18 : Value).ownBlock ∧ some k_ ≠ (.slice Ao33 y281.length co33 : Value).ownBlock ∧ k_ ≠ gb265 ∧ k_ ≠ gb266 ∧ k_ ≠ gb284) (fun k_ => ((fun k_ => (P1_1_ k_ ∨ w.heap.size ≤ k_) ∧ some k_ ≠ (.slice (some ad285) t268.length co16 : Value).ownBlock ∧ some k_ ≠ (.slice (some ad285) t268.length co16 : Value).ownBlock ∧ some k_ ≠ (.slice Ao18 t271.length co18 : Value).ownBlock ∧ some k_ ≠ (.slice Ao33 y281.length co33 : Value).ownBlock ∧ k_ ≠ gb265 ∧ k_ ≠ gb266 ∧ k_ ≠ gb284)) k_ ∧ some k_ ≠ (u285001 : Value).ownBlock) rfl rfl ?aP (fun _ hk => hk) ?aF ?aO ?aB ?aS ?aL ?_; (case aP => exact (k39_mkF _ _ (⟨0, rd t268 x35_1, ([] : List (S25))⟩ : S39) (Nat.le_refl _) (Kd.F_nil _ _ _))); (case aB => exact (gB HB)); (case aF => exact (fun k_ hk => ⟨(.inr (Nat.le_trans (below_size (gB HB)) hk)), Kd.fresh' (Kd.R_lt (gR HO_33)) k_ hk, Kd.fresh' (Kd.R_lt (gR HO_266000)) k_ hk, Kd.fresh' (Kd.N_lt (gN HO_266001)) k_ hk, Kd.fresh' (Kd.R_lt (gR HO_285000)) k_ hk, Kd.freshB (gK BK265) k_ hk, Kd.freshB (gK BK266) k_ hk, Kd.freshB (gK BK284) k_ hk⟩)); (case aO => exact (gN HO_285001)); (case aS => exact (below_size (gB HB))); (case aL => have := LMc42.out; omega); intro v287 w46 ho hb hg hat; rw [← Ny286.out] at ho; replace HO_33 := gA (Kd.R_over' (gR HO_33) (Kd.N_typed (gN HO_285001)) (by decide) hg); replace HO_266000 := gA (Kd.R_over' (gR HO_266000) (Kd.N_typed (gN HO_285001)) (by decide) hg); replace HO_266001 := gA (Kd.N_afterv (ok := (fun k_ => (P1_1_ k_ ∨ w.heap.size ≤ k_) ∧ some k_ ≠ (.slice (some ad285) t268.length co16 : Value).ownBlock ∧ some k_ ≠ (.slice (some ad285) t268.length co16 : Value).ownBlock ∧ some k_ ≠ (.slice Ao33 y281.length co33 : Value).ownBlock ∧ k_ ≠ gb265 ∧ k_ ≠ gb266 ∧ k_ ≠ gb284)) (Kd.N_mono HO_266001.out (fun _ hk => ⟨⟨hk.1, ⟨hk.2.1, ⟨hk.2.2.1, ⟨hk.2.2.2.1, ⟨hk.2.2.2.2.2.1, ⟨hk.2.2.2.2.2.2.1, hk.2.2.2.2.2.2.2⟩⟩⟩⟩⟩⟩, hk.2.2.2.2.1⟩)) hg hat); replace HO_285000 := gA (Kd.R_over' (gR HO_285000) (Kd.N_typed (gN HO_285001)) (by decide) hg); replace BK265 := gA (blk_grown (gK BK265) hg (Kd.N_ne HO_285001.out BK265.out (by decide))); replace BK266 := gA (blk_grown (gK BK266) hg (Kd.N_ne HO_285001.out BK266.out (by decide))); replace BK284 := gA (blk_grown (gK BK284) hg (Kd.N_ne HO_285001.out BK284.out (by decide))); replace HB := gA (hb); have HO288 := gA (ho); clear HO_285001 ho hb hg hat; obtain ⟨Ao47, co47, eo47⟩ := Kd.N_slice HO288.out; subst eo47; obtain ⟨hcz48_0, hcz48_1, hfz48_0, hfz48_1⟩ := gz2 BK284))
       go_roundg k1
       case measure => have := HK1.out; omega
       case rel => exact ⟨(wrap64 (x35_1 + 1)), (y286), (.slice Ao47 y286.length co47), (rfl), H', ⟨by have := HK1.out; omega⟩, ⟨Kd.R_mono (Kd.R_far (p := ⟨gb284, 1, none⟩) (Kd.R_types HO_33.out BK284.out (by decide)) (fun _ hk => hk.2) (.slice Ao47 y286.length co47)) (fun _ hk => ⟨hk.1.1, hk.1.2⟩)⟩, ⟨Kd.R_mono (Kd.R_far (p := ⟨gb284, 1, none⟩) (Kd.R_types HO_266000.out BK284.out (by decide)) (fun _ hk => hk.2) (.slice Ao47 y286.length co47)) (fun _ hk => ⟨hk.1.1, hk.1.2⟩)⟩, ⟨Kd.N_mono (Kd.N_far (p := ⟨gb284, 1, none⟩) (Kd.N_mono HO_266001.out (fun k_ hk => (⟨hk, hk.1.2.2.2.2.2.2⟩ : _ ∧ k_ ≠ gb284))) (fun _ hk => hk.2) (.slice Ao47 y286.length co47)) (fun _ hk => by first | exact ⟨hk.1.1.1, ⟨hk.1.1.2.1, ⟨hk.1.1.2.2.1, ⟨hk.1.1.2.2.2.1, ⟨hk.1.2, ⟨hk.1.1.2.2.2.2.1, ⟨hk.1.1.2.2.2.2.2.1, hk.1.1.2.2.2.2.2.2⟩⟩⟩⟩⟩⟩⟩ | (simp_all; done))⟩, ⟨Kd.R_mono (Kd.R_far (p := ⟨gb284, 1, none⟩) (Kd.R_types HO_285000.out BK284.out (by decide)) (fun _ hk => hk.2) (.slice Ao47 y286.length co47)) (fun _ hk => ⟨hk.1.1, ⟨hk.1.2.1, hk.1.2.2⟩⟩)⟩, ⟨Kd.N_mono (Kd.N_far (p := ⟨gb284, 1, none⟩) (Kd.N_mono HO288.out (fun k_ hk => (⟨hk, hk.2.2.2.2.2.2.2⟩ : _ ∧ k_ ≠ gb284))) (fun _ hk => hk.2) (.slice Ao47 y286.length co47)) (fun _ hk => ⟨hk.1.1, ⟨hk.1.2.1, ⟨hk.1.2.2.1, ⟨hk.1.2.2.2.1, ⟨hk.1.2.2.2.2.1, ⟨hk.1.2.2.2.2.2.1, ⟨hk.1.2.2.2.2.2.2.1, hk.1.2.2.2.2.2.2.2⟩⟩⟩⟩⟩⟩⟩)⟩, ⟨by refine blk_far ?_ NB265_284.out _; exact gK BK265⟩, ⟨by refine blk_far ?_ NB266_284.out _; exact gK BK266⟩, ⟨by refine blk_put (cs := #[.slice Ao33 y281.length co33, u285001]) ?_ 1 _ rfl; exact gK BK284⟩, ⟨by repeat first | exact gB HB | refine below_set ?_ GE265.out | refine below_set ?_ GE266.out | refine below_set ?_ GE284.out⟩⟩
      ·rw [if_neg c39] at H
       have c39b0 := decide_eq_false c39
       clear c39
       simp only [Option.some.injEq, Prod.mk.injEq] at H
       obtain ⟨rfl, rfl, rfl⟩ := H
       have hnb49 := NB284_265.out
       have hnc49 := NB265_284.out
       have hnb50 := NB284_266.out
       have hnc50 := NB266_284.out
       obtain ⟨hcz51_0, hcz51_1, hfz51_0, hfz51_1⟩ := gz2 BK284
       have hnb52 := NB266_265.out
       have hnc52 := NB265_266.out
       obtain ⟨hcz53_0, hcz53_1, hfz53_0, hfz53_1⟩ := gz2 BK266
       obtain ⟨Ao54, co54, eo54⟩ := Kd.N_slice HO_285001.out
       subst eo54
       go_wp2
       refine bodyPost_ret (results_ct rfl _ _ gb266 25 #[.slice Ao33 y281.length co33, .slice Ao54 x285001_1.length co54] (0, 0) _ rfl (by refine blk_put (cs := #[.slice Ao33 y281.length co33, .slice none 0 0]) ?_ 1 _ rfl; refine blk_put (cs := #[.slice none 0 0, .slice none 0 0]) ?_ 0 _ rfl; exact gK BK266) Try.underlying25 rfl (by kernel_rfl)) rfl ?_
       exact ⟨_, _, rfl, Kd.V_mono (Kd.R_V (Kd.R_mono (Kd.R_far (p := ⟨gb266, 1, none⟩) (Kd.R_far (p := ⟨gb266, 0, none⟩) (Kd.R_types HO_285000.out BK266.out (by decide)) (fun _ hk => hk.2) (.slice Ao33 y281.length co33)) (fun _ hk => hk.2) (.slice Ao54 x285001_1.length co54)) (fun _ hk => hk.1.1))) (fun k_ hk => by first | exact ⟨(.inr (hk.1)), hk.2⟩ | exact (.inr (hk))), Kd.N_V (Kd.N_mono (Kd.N_far (p := ⟨gb266, 1, none⟩) (Kd.N_far (p := ⟨gb266, 0, none⟩) (Kd.N_mono HO_285001.out (fun k_ hk => (⟨hk, hk.2.2.2.2.2.2.1⟩ : _ ∧ k_ ≠ gb266))) (fun _ hk => hk.2) (.slice Ao33 y281.length co33)) (fun _ hk => hk.2) (.slice Ao54 x285001_1.length co54)) (fun _ hk => hk.1.1)), by repeat first | exact gB HB | refine below_set ?_ GE265.out | refine below_set ?_ GE266.out | refine below_set ?_ GE284.out⟩
   ·rw [if_neg c28] at H
    have c28b0 : (a0 == 6) = false := beq_eq_false_iff_ne.mpr c28
    have c28b1 : (a0 != 6) = true := bne_iff_ne.mpr c28
    by_cases c55 : a0 = 7
    ·rw [if_pos c55] at H
     have c55b0 : (a0 == 7) = true := beq_iff_eq.mpr c55
     have c55b1 : (a0 != 7) = false := bne_eq_false_iff_eq.mpr c55
     clear c55
     replace H := Option.bind_eq_some_iff.mp H
     obtain ⟨t289, A560, H⟩ := H
     replace H : ((arr_Atom.f t289).bind fun bt290 => (some (bt290.1, bt290.2, 0))) = some (r1, r2, r3) := H
     have A56 := gA A560
     clear A560
     replace H := Option.bind_eq_some_iff.mp H
     obtain ⟨⟨t290, t293⟩, A570, H⟩ := H
     replace H : (some (t290, t293, 0)) = some (r1, r2, r3) := H
     have A57 := gA A570
     clear A570
     simp only [Option.some.injEq, Prod.mk.injEq] at H
     obtain ⟨rfl, rfl, rfl⟩ := H
     have hnb58 := NB265_266.out
     have hnc58 := NB266_265.out
     obtain ⟨hcz59_0, hcz59_1, hfz59_0, hfz59_1⟩ := gz2 BK265
     go_wp2_with (first | ((with_reducible refine gate_callee (f := 25) rfl ?_); refine goesL_ (some 51) rfl rfl Try.func25 (by kernel_rfl) rfl #[.agg #[.slice Ao16 t268.length co16, .slice Ao18 t271.length co18]] rfl (by (try simp only [List.map_toArray, List.map_cons, List.map_nil]); first | done | rfl | (simp only [List.length_drop, List.length_take]; rfl)) ?_; (with_reducible refine (layout_tally.calls _ _ t268 _ _ t271 t289 _ ?side1 ?side2 ?side3 ?side4 A56.out).mono ?_); (case side1 => repeat (first | exact (Kd.R_reads' HO270.out).2.2 | (with_reducible refine Kd.C_alloc ?_ _) | (with_reducible refine Kd.C_drewN ?_ _) | (with_reducible refine Kd.C_drew ?_))); (case side2 => exact (Kd.R_reads' HO270.out).2.1); (case side3 => repeat (first | exact (Kd.N_reads' HO273.out).2.2 | (with_reducible refine Kd.C_alloc ?_ _) | (with_reducible refine Kd.C_drewN ?_ _) | (with_reducible refine Kd.C_drew ?_))); (case side4 => exact (Kd.N_reads' HO273.out).2.1); rintro e w60 ⟨rfl, hb⟩; refine ⟨_, rfl, ?_⟩; replace HO1_1 := gA (Kd.V_below (gV HO1_1) hb); replace HO270 := gA (Kd.R_below (gR HO270) hb); replace HO273 := gA (Kd.N_below (gN HO273) hb); replace BK265 := gA (blk_below (gK BK265) hb); replace BK266 := gA (blk_below (gK BK266) hb); replace HB := gA (below_step (gB HB) hb); (try clear hb)) | ((with_reducible refine gate_callee (f := 24) rfl ?_); refine goesL_ (some 52) rfl rfl Try.func24 (by kernel_rfl) rfl #[.int .i64 t289] rfl (by (try simp only [List.map_toArray, List.map_cons, List.map_nil]); first | done | rfl | (simp only [List.length_drop, List.length_take]; rfl)) ?_; (with_reducible refine (arr_Atom.calls t289 t290 t293 _ A57.out).mono ?_); rintro e w61 ⟨v291, v294, rfl, ho0, ho1, hb⟩; refine ⟨_, rfl, ?_⟩; replace HO1_1 := gA (Kd.V_mono (Kd.V_told (Kd.V_told (Kd.V_old (gV HO1_1) hb) (Kd.R_base ho0)) (by first | exact Kd.N_base ho1 | exact Kd.R_base ho1)) (fun _ h_ => h_.1)); have HO292 := gA (Kd.R_lower (Kd.R_new' (Kd.R_newM (M := fun k_ => (w.heap.size ≤ k_)) ho0 (below_size (gB HB)) (fun k_ h_ => h_)) (Kd.R_lt (gR HO270))) (below_size (gB HB))); have HO295 := gA (Kd.N_lower (Kd.N_mono (ok' := fun k_ => (P1_1_ k_ ∨ w.heap.size ≤ k_) ∧ some k_ ≠ (v291 : Value).ownBlock ∧ some k_ ≠ (.slice Ao16 t268.length co16 : Value).ownBlock ∧ some k_ ≠ (.slice Ao18 t271.length co18 : Value).ownBlock ∧ k_ ≠ gb265 ∧ k_ ≠ gb266) (Kd.R_N (Kd.R_bound ho1)) (fun k_ hk_ => ⟨(.inr (Nat.le_trans (below_size (gB HB)) hk_.2.1)), hk_.1, (Kd.fresh' (Kd.R_lt (gR HO270)) k_ hk_.2.1), (Kd.fresh' (Kd.N_lt (gN HO273)) k_ hk_.2.1), (Kd.freshB (gK BK265) k_ hk_.2.1), (Kd.freshB (gK BK266) k_ hk_.2.1)⟩)) (below_size (gB HB))); replace HO270 := gA (Kd.R_elder' (gR HO270) (Kd.R_base ho0) hb); replace HO273 := gA (Kd.N_mono (Kd.N_told (Kd.N_told (Kd.N_old (gN HO273) hb) (Kd.R_base ho0)) (by first | exact Kd.N_base ho1 | exact Kd.R_base ho1)) (fun _ h_ => h_.1)); replace BK265 := gA (blk_below (gK BK265) hb); replace BK266 := gA (blk_below (gK BK266) hb); replace HB := gA (below_step (gB HB) hb); (try clear hb); (try clear ho0); (try clear ho1); obtain ⟨Ao62, co62, eo62⟩ := Kd.R_slice HO292.out; subst eo62; obtain ⟨hcz63_0, hcz63_1, hfz63_0, hfz63_1⟩ := gz2 BK266; obtain ⟨Ao64, co64, eo64⟩ := Kd.N_slice HO295.out; subst eo64))
     refine bodyPost_ret (results_ct rfl _ _ gb266 25 #[.slice Ao62 t290.length co62, .slice Ao64 t293.length co64] (0, 0) _ rfl (by refine blk_put (cs := #[.slice Ao62 t290.length co62, .slice none 0 0]) ?_ 1 _ rfl; refine blk_put (cs := #[.slice none 0 0, .slice none 0 0]) ?_ 0 _ rfl; exact gK BK266) Try.underlying25 rfl (by kernel_rfl)) rfl ?_
     exact ⟨_, _, rfl, Kd.V_mono (Kd.R_V (Kd.R_mono (Kd.R_far (p := ⟨gb266, 1, none⟩) (Kd.R_far (p := ⟨gb266, 0, none⟩) (Kd.R_types HO292.out BK266.out (by decide)) (fun _ hk => hk.2) (.slice Ao62 t290.length co62)) (fun _ hk => hk.2) (.slice Ao64 t293.length co64)) (fun _ hk => hk.1.1.1))) (fun k_ hk => by first | exact ⟨(.inr (hk.1)), hk.2⟩ | exact (.inr (hk))), Kd.N_V (Kd.N_mono (Kd.N_far (p := ⟨gb266, 1, none⟩) (Kd.N_far (p := ⟨gb266, 0, none⟩) (Kd.N_mono HO295.out (fun k_ hk => (⟨hk, hk.2.2.2.2.2⟩ : _ ∧ k_ ≠ gb266))) (fun _ hk => hk.2) (.slice Ao62 t290.length co62)) (fun _ hk => hk.2) (.slice Ao64 t293.length co64)) (fun _ hk => hk.1.1)), by repeat first | exact gB HB | refine below_set ?_ GE265.out | refine below_set ?_ GE266.out⟩
    ·rw [if_neg c55] at H
     have c55b0 : (a0 == 7) = false := beq_eq_false_iff_ne.mpr c55
     have c55b1 : (a0 != 7) = true := bne_iff_ne.mpr c55
     by_cases c65 : a0 = 8
     ·rw [if_pos c65] at H
      have c65b0 : (a0 == 8) = true := beq_iff_eq.mpr c65
      have c65b1 : (a0 != 8) = false := bne_eq_false_iff_eq.mpr c65
      clear c65
      obtain ⟨y296, hy296⟩ : ∃ y_ : List Int, y_ = (([(t271.length : Int)] : List Int)) := ⟨_, rfl⟩
      replace H : (some (y296, t271, 0)) = some (r1, r2, r3) := by first | (rw [hy296]; with_reducible exact H) | (have H2_ := (Option.bind_some _ _).symm.trans H; rw [hy296]; with_reducible exact H2_) | (have H2_ := (Option.bind_some _ _).symm.trans H; with_reducible exact H2_) | with_reducible exact H | (rw [hy296]; exact H) | exact H
      have Ny296 := gA hy296
      clear hy296
      simp only [Option.some.injEq, Prod.mk.injEq] at H
      obtain ⟨rfl, rfl, rfl⟩ := H
      have hnb66 := NB265_266.out
      have hnc66 := NB266_265.out
      obtain ⟨hcz67_0, hcz67_1, hfz67_0, hfz67_1⟩ := gz2 BK265
      go_wp2_with (first | ((with_reducible refine gate_dst (N := 58) rfl ?_); refine Kd.R_lit (Kd.int .i64) _ 3 ?hg (N := 58) ?hd (xs := ([(t271.length : Int)] : List Int)) (inner := [.int .i64 (t271.length : Int)]) (ok := fun _ => True) (okp := fun _ => True) ?hr ?hp (fun _ hk => hk) trivial (Below.refl _ _) (Nat.le_refl _) (by simp) ?_; (case hd => rfl); (case hg => rfl); (case hr => first | (go_simp; done) | (go_simp; rfl)); (case hp => exact (Reps.one (show Kd.M (Kd.int .i64) _ _ _ (t271.length : Int) [.int .i64 (t271.length : Int)] from rfl) (Reps.none _ _))); intro v297 w68 ho69 hb hg_ hnew_; clear hg_ hnew_; (first | rw [← Ny296.out] at ho69 | (simp only [Int.reduceToNat] at ho69; rw [← Ny296.out] at ho69)); replace HO1_1 := gA (Kd.V_elder' (gV HO1_1) (Kd.R_base ho69) hb); replace HO273 := gA (Kd.N_elder' (gN HO273) (Kd.R_base ho69) hb); have HO298 := gA (Kd.R_lower (Kd.R_new' (Kd.R_newM (M := fun k_ => (w.heap.size ≤ k_)) ho69 (below_size (gB HB)) (fun k_ h_ => h_)) (Kd.R_lt (gR HO270))) (below_size (gB HB))); replace HO270 := gA (Kd.R_elder' (gR HO270) (Kd.R_base ho69) hb); replace BK265 := gA (blk_below (gK BK265) hb); replace BK266 := gA (blk_below (gK BK266) hb); replace HB := gA (below_step (gB HB) hb); clear hb ho69; obtain ⟨hcz70_0, hcz70_1, hfz70_0, hfz70_1⟩ := gz2 BK265; obtain ⟨Ao71, co71, eo71⟩ := Kd.R_slice HO298.out; subst eo71; obtain ⟨hcz72_0, hcz72_1, hfz72_0, hfz72_1⟩ := gz2 BK266))
      refine bodyPost_ret (results_ct rfl _ _ gb266 25 #[.slice Ao71 y296.length co71, .slice Ao18 t271.length co18] (0, 0) _ rfl (by refine blk_put (cs := #[.slice Ao71 y296.length co71, .slice none 0 0]) ?_ 1 _ rfl; refine blk_put (cs := #[.slice none 0 0, .slice none 0 0]) ?_ 0 _ rfl; exact gK BK266) Try.underlying25 rfl (by kernel_rfl)) rfl ?_
      exact ⟨_, _, rfl, Kd.V_mono (Kd.R_V (Kd.R_mono (Kd.R_far (p := ⟨gb266, 1, none⟩) (Kd.R_far (p := ⟨gb266, 0, none⟩) (Kd.R_types HO298.out BK266.out (by decide)) (fun _ hk => hk.2) (.slice Ao71 y296.length co71)) (fun _ hk => hk.2) (.slice Ao18 t271.length co18)) (fun _ hk => hk.1.1.1))) (fun k_ hk => by first | exact ⟨(.inr (hk.1)), hk.2⟩ | exact (.inr (hk))), Kd.N_V (Kd.N_mono (Kd.N_far (p := ⟨gb266, 1, none⟩) (Kd.N_far (p := ⟨gb266, 0, none⟩) (Kd.N_mono HO273.out (fun k_ hk => (⟨hk, hk.1.2.2.2⟩ : _ ∧ k_ ≠ gb266))) (fun _ hk => hk.2) (.slice Ao71 y296.length co71)) (fun _ hk => hk.2) (.slice Ao18 t271.length co18)) (fun _ hk => hk.1.1.1)), by repeat first | exact gB HB | refine below_set ?_ GE265.out | refine below_set ?_ GE266.out⟩
     ·rw [if_neg c65] at H
      have c65b0 : (a0 == 8) = false := beq_eq_false_iff_ne.mpr c65
      have c65b1 : (a0 != 8) = true := bne_iff_ne.mpr c65
      by_cases c73 : a0 = 9
      ·rw [if_pos c73] at H
       have c73b0 : (a0 == 9) = true := beq_iff_eq.mpr c73
       have c73b1 : (a0 != 9) = false := bne_eq_false_iff_eq.mpr c73
       clear c73
       replace H := Option.bind_eq_some_iff.mp H
       obtain ⟨⟨t299, t302⟩, A740, H⟩ := H
       replace H : (some (t299, t302, 0)) = some (r1, r2, r3) := H
       have A74 := gA A740
       clear A740
       simp only [Option.some.injEq, Prod.mk.injEq] at H
       obtain ⟨rfl, rfl, rfl⟩ := H
       have hnb75 := NB265_266.out
       have hnc75 := NB266_265.out
       obtain ⟨hcz76_0, hcz76_1, hfz76_0, hfz76_1⟩ := gz2 BK265
       go_wp2_with (first | ((with_reducible refine gate_callee (f := 26) rfl ?_); refine goesL_ (some 65) rfl rfl Try.func26 (by kernel_rfl) rfl #[.agg #[.slice Ao16 t268.length co16, .slice Ao18 t271.length co18], .int .i64 0] rfl (by (try simp only [List.map_toArray, List.map_cons, List.map_nil]); first | done | rfl | (simp only [List.length_drop, List.length_take]; rfl)) ?_; (with_reducible refine (layout_turned.calls k (fun k_ => some k_ = (.slice Ao16 t268.length co16 : Value).ownBlock) (.slice Ao16 t268.length co16) t268 (fun k_ => ((P1_1_ k_ ∨ w.heap.size ≤ k_) ∧ (some k_ ≠ (.slice Ao16 t268.length co16 : Value).ownBlock ∧ (k_ ≠ gb265 ∧ k_ ≠ gb266)))) _ _ t271 0 t299 t302 w _ ?side1 ?side2 ?side3 A74.out).mono ?_); (case side1 => repeat (first | (with_reducible first | exact HB.out | apply below_alloc | apply pw_below_drewN | apply below_drew1 | refine below_set ?_ GE265.out | refine below_set ?_ GE266.out) | exact HB.out)); (case side2 => exact Kd.R_tight rfl HO270.out); (case side3 => exact Kd.V_mono (Kd.N_V (HO273.out)) (fun k_ hk_ => ⟨hk_, hk_.2.1⟩)); rintro e w77 ⟨v300, v303, rfl, ho0, ho1, hb, hkp⟩; refine ⟨_, rfl, ?_⟩; replace HO1_1 := gA (Kd.V_mono (ok' := fun k_ => (P1_1_ k_ ∨ w.heap.size ≤ k_) ∧ some k_ ≠ (.slice Ao18 t271.length co18 : Value).ownBlock ∧ k_ ≠ gb265 ∧ k_ ≠ gb266 ∧ some k_ ≠ (v300 : Value).ownBlock) (Kd.V_keptB (HO1_1.out) hkp (fun k_ hk_ hs_ => (hk_.2.1) hs_)) (fun k_ hk_ => ⟨hk_.1.1, hk_.1.2.2.1, hk_.1.2.2.2.1, hk_.1.2.2.2.2, fun e_ => Or.elim (ho0.1 k_ e_.symm) (fun hs_ => hk_.2.1 hs_) (fun hn_ => Nat.not_le.2 hk_.2.2 hn_)⟩)); replace HO273 := gA (Kd.N_mono (ok' := fun k_ => (P1_1_ k_ ∨ w.heap.size ≤ k_) ∧ k_ ≠ gb265 ∧ k_ ≠ gb266 ∧ some k_ ≠ (v300 : Value).ownBlock) (Kd.N_keptB (HO273.out) hkp (fun k_ hk_ hs_ => (hk_.2.1) hs_)) (fun k_ hk_ => ⟨hk_.1.1, hk_.1.2.2.1, hk_.1.2.2.2, fun e_ => Or.elim (ho0.1 k_ e_.symm) (fun hs_ => hk_.2.1 hs_) (fun hn_ => Nat.not_le.2 hk_.2.2 hn_)⟩)); have HO301 := gA (Kd.R_mono (ok' := fun k_ => (w.heap.size ≤ k_)) ho0 (fun k_ hk_ => Or.elim hk_ (fun hs_ => (HO270.out.1 k_ (hs_).symm)) (fun hn_ => (Nat.le_trans (below_size (gB HB)) hn_)))); have HO304 := gA (Kd.V_mono (ok' := fun k_ => (P1_1_ k_ ∨ w.heap.size ≤ k_) ∧ some k_ ≠ (v300 : Value).ownBlock ∧ k_ ≠ gb265 ∧ k_ ≠ gb266) ho1 (fun k_ hk_ => ⟨Or.elim hk_.1 (fun hs_ => Or.elim hs_ (fun hs_ => (.inr ((HO270.out.1 k_ (hs_).symm)))) (fun hs_ => hs_.1)) (fun hn_ => (.inr (Nat.le_trans (below_size (gB HB)) hn_))), hk_.2, Or.elim hk_.1 (fun hs_ => Or.elim hs_ (fun hs_ => fun e_ => (Kd.R_ne HO270.out BK265.out (by decide)) (by rw [← e_]; exact hs_)) (fun hs_ => hs_.2.2.1)) (fun hn_ => (Kd.freshB (gK BK265) k_ hn_)), Or.elim hk_.1 (fun hs_ => Or.elim hs_ (fun hs_ => fun e_ => (Kd.R_ne HO270.out BK266.out (by decide)) (by rw [← e_]; exact hs_)) (fun hs_ => hs_.2.2.2)) (fun hn_ => (Kd.freshB (gK BK266) k_ hn_))⟩)); replace BK265 := gA (blk_kept (gK BK265) hkp (fun hs_ => (fun e_ => (Kd.R_ne HO270.out BK265.out (by decide)) e_) hs_)); replace BK266 := gA (blk_kept (gK BK266) hkp (fun hs_ => (fun e_ => (Kd.R_ne HO270.out BK266.out (by decide)) e_) hs_)); replace HB := gA (hb); clear HO270; (try clear hb); (try clear hkp); (try clear ho0); (try clear ho1); obtain ⟨Ao78, co78, eo78⟩ := Kd.R_slice HO301.out; subst eo78; obtain ⟨hcz79_0, hcz79_1, hfz79_0, hfz79_1⟩ := gz2 BK266; obtain ⟨Ao80, co80, eo80⟩ := Kd.V_slice HO304.out; subst eo80))
       refine bodyPost_ret (results_ct rfl _ _ gb266 25 #[.slice Ao78 t299.length co78, .slice Ao80 t302.length co80] (0, 0) _ rfl (by refine blk_put (cs := #[.slice Ao78 t299.length co78, .slice none 0 0]) ?_ 1 _ rfl; refine blk_put (cs := #[.slice none 0 0, .slice none 0 0]) ?_ 0 _ rfl; exact gK BK266) Try.underlying25 rfl (by kernel_rfl)) rfl ?_
       exact ⟨_, _, rfl, Kd.V_mono (Kd.R_V (Kd.R_mono (Kd.R_far (p := ⟨gb266, 1, none⟩) (Kd.R_far (p := ⟨gb266, 0, none⟩) (Kd.R_types HO301.out BK266.out (by decide)) (fun _ hk => hk.2) (.slice Ao78 t299.length co78)) (fun _ hk => hk.2) (.slice Ao80 t302.length co80)) (fun _ hk => hk.1))) (fun k_ hk => by first | exact ⟨(.inr (hk.1)), hk.2⟩ | exact (.inr (hk))), Kd.V_mono (Kd.V_far (p := ⟨gb266, 1, none⟩) (Kd.V_far (p := ⟨gb266, 0, none⟩) (Kd.V_mono HO304.out (fun k_ hk => (⟨hk, hk.2.2.2⟩ : _ ∧ k_ ≠ gb266))) (fun _ hk => hk.2) (.slice Ao78 t299.length co78)) (fun _ hk => hk.2) (.slice Ao80 t302.length co80)) (fun _ hk => hk.1.1), by repeat first | exact gB HB | refine below_set ?_ GE265.out | refine below_set ?_ GE266.out⟩
      ·rw [if_neg c73] at H
       have c73b0 : (a0 == 9) = false := beq_eq_false_iff_ne.mpr c73
       have c73b1 : (a0 != 9) = true := bne_iff_ne.mpr c73
       by_cases c81 : a0 = 10
       ·rw [if_pos c81] at H
        have c81b0 : (a0 == 10) = true := beq_iff_eq.mpr c81
        have c81b1 : (a0 != 10) = false := bne_eq_false_iff_eq.mpr c81
        clear c81
        replace H := Option.bind_eq_some_iff.mp H
        obtain ⟨⟨t305, t308⟩, A820, H⟩ := H
        replace H : (some (t305, t308, 0)) = some (r1, r2, r3) := H
        have A82 := gA A820
        clear A820
        simp only [Option.some.injEq, Prod.mk.injEq] at H
        obtain ⟨rfl, rfl, rfl⟩ := H
        have hnb83 := NB265_266.out
        have hnc83 := NB266_265.out
        obtain ⟨hcz84_0, hcz84_1, hfz84_0, hfz84_1⟩ := gz2 BK265
        go_wp2_with (first | ((with_reducible refine gate_callee (f := 26) rfl ?_); refine goesL_ (some 73) rfl rfl Try.func26 (by kernel_rfl) rfl #[.agg #[.slice Ao16 t268.length co16, .slice Ao18 t271.length co18], .int .i64 (wrap64 ((t268.length : Int) - 1))] rfl (by (try simp only [List.map_toArray, List.map_cons, List.map_nil]); first | done | rfl | (simp only [List.length_drop, List.length_take]; rfl)) ?_; (with_reducible refine (layout_turned.calls k (fun k_ => some k_ = (.slice Ao16 t268.length co16 : Value).ownBlock) (.slice Ao16 t268.length co16) t268 (fun k_ => ((P1_1_ k_ ∨ w.heap.size ≤ k_) ∧ (some k_ ≠ (.slice Ao16 t268.length co16 : Value).ownBlock ∧ (k_ ≠ gb265 ∧ k_ ≠ gb266)))) _ _ t271 (wrap64 ((t268.length : Int) - 1)) t305 t308 w _ ?side1 ?side2 ?side3 A82.out).mono ?_); (case side1 => repeat (first | (with_reducible first | exact HB.out | apply below_alloc | apply pw_below_drewN | apply below_drew1 | refine below_set ?_ GE265.out | refine below_set ?_ GE266.out) | exact HB.out)); (case side2 => exact Kd.R_tight rfl HO270.out); (case side3 => exact Kd.V_mono (Kd.N_V (HO273.out)) (fun k_ hk_ => ⟨hk_, hk_.2.1⟩)); rintro e w85 ⟨v306, v309, rfl, ho0, ho1, hb, hkp⟩; refine ⟨_, rfl, ?_⟩; replace HO1_1 := gA (Kd.V_mono (ok' := fun k_ => (P1_1_ k_ ∨ w.heap.size ≤ k_) ∧ some k_ ≠ (.slice Ao18 t271.length co18 : Value).ownBlock ∧ k_ ≠ gb265 ∧ k_ ≠ gb266 ∧ some k_ ≠ (v306 : Value).ownBlock) (Kd.V_keptB (HO1_1.out) hkp (fun k_ hk_ hs_ => (hk_.2.1) hs_)) (fun k_ hk_ => ⟨hk_.1.1, hk_.1.2.2.1, hk_.1.2.2.2.1, hk_.1.2.2.2.2, fun e_ => Or.elim (ho0.1 k_ e_.symm) (fun hs_ => hk_.2.1 hs_) (fun hn_ => Nat.not_le.2 hk_.2.2 hn_)⟩)); replace HO273 := gA (Kd.N_mono (ok' := fun k_ => (P1_1_ k_ ∨ w.heap.size ≤ k_) ∧ k_ ≠ gb265 ∧ k_ ≠ gb266 ∧ some k_ ≠ (v306 : Value).ownBlock) (Kd.N_keptB (HO273.out) hkp (fun k_ hk_ hs_ => (hk_.2.1) hs_)) (fun k_ hk_ => ⟨hk_.1.1, hk_.1.2.2.1, hk_.1.2.2.2, fun e_ => Or.elim (ho0.1 k_ e_.symm) (fun hs_ => hk_.2.1 hs_) (fun hn_ => Nat.not_le.2 hk_.2.2 hn_)⟩)); have HO307 := gA (Kd.R_mono (ok' := fun k_ => (w.heap.size ≤ k_)) ho0 (fun k_ hk_ => Or.elim hk_ (fun hs_ => (HO270.out.1 k_ (hs_).symm)) (fun hn_ => (Nat.le_trans (below_size (gB HB)) hn_)))); have HO310 := gA (Kd.V_mono (ok' := fun k_ => (P1_1_ k_ ∨ w.heap.size ≤ k_) ∧ some k_ ≠ (v306 : Value).ownBlock ∧ k_ ≠ gb265 ∧ k_ ≠ gb266) ho1 (fun k_ hk_ => ⟨Or.elim hk_.1 (fun hs_ => Or.elim hs_ (fun hs_ => (.inr ((HO270.out.1 k_ (hs_).symm)))) (fun hs_ => hs_.1)) (fun hn_ => (.inr (Nat.le_trans (below_size (gB HB)) hn_))), hk_.2, Or.elim hk_.1 (fun hs_ => Or.elim hs_ (fun hs_ => fun e_ => (Kd.R_ne HO270.out BK265.out (by decide)) (by rw [← e_]; exact hs_)) (fun hs_ => hs_.2.2.1)) (fun hn_ => (Kd.freshB (gK BK265) k_ hn_)), Or.elim hk_.1 (fun hs_ => Or.elim hs_ (fun hs_ => fun e_ => (Kd.R_ne HO270.out BK266.out (by decide)) (by rw [← e_]; exact hs_)) (fun hs_ => hs_.2.2.2)) (fun hn_ => (Kd.freshB (gK BK266) k_ hn_))⟩)); replace BK265 := gA (blk_kept (gK BK265) hkp (fun hs_ => (fun e_ => (Kd.R_ne HO270.out BK265.out (by decide)) e_) hs_)); replace BK266 := gA (blk_kept (gK BK266) hkp (fun hs_ => (fun e_ => (Kd.R_ne HO270.out BK266.out (by decide)) e_) hs_)); replace HB := gA (hb); clear HO270; (try clear hb); (try clear hkp); (try clear ho0); (try clear ho1); obtain ⟨Ao86, co86, eo86⟩ := Kd.R_slice HO307.out; subst eo86; obtain ⟨hcz87_0, hcz87_1, hfz87_0, hfz87_1⟩ := gz2 BK266; obtain ⟨Ao88, co88, eo88⟩ := Kd.V_slice HO310.out; subst eo88))
        refine bodyPost_ret (results_ct rfl _ _ gb266 25 #[.slice Ao86 t305.length co86, .slice Ao88 t308.length co88] (0, 0) _ rfl (by refine blk_put (cs := #[.slice Ao86 t305.length co86, .slice none 0 0]) ?_ 1 _ rfl; refine blk_put (cs := #[.slice none 0 0, .slice none 0 0]) ?_ 0 _ rfl; exact gK BK266) Try.underlying25 rfl (by kernel_rfl)) rfl ?_
        exact ⟨_, _, rfl, Kd.V_mono (Kd.R_V (Kd.R_mono (Kd.R_far (p := ⟨gb266, 1, none⟩) (Kd.R_far (p := ⟨gb266, 0, none⟩) (Kd.R_types HO307.out BK266.out (by decide)) (fun _ hk => hk.2) (.slice Ao86 t305.length co86)) (fun _ hk => hk.2) (.slice Ao88 t308.length co88)) (fun _ hk => hk.1))) (fun k_ hk => by first | exact ⟨(.inr (hk.1)), hk.2⟩ | exact (.inr (hk))), Kd.V_mono (Kd.V_far (p := ⟨gb266, 1, none⟩) (Kd.V_far (p := ⟨gb266, 0, none⟩) (Kd.V_mono HO310.out (fun k_ hk => (⟨hk, hk.2.2.2⟩ : _ ∧ k_ ≠ gb266))) (fun _ hk => hk.2) (.slice Ao86 t305.length co86)) (fun _ hk => hk.2) (.slice Ao88 t308.length co88)) (fun _ hk => hk.1.1), by repeat first | exact gB HB | refine below_set ?_ GE265.out | refine below_set ?_ GE266.out⟩
       ·rw [if_neg c81] at H
        have c81b0 : (a0 == 10) = false := beq_eq_false_iff_ne.mpr c81
        have c81b1 : (a0 != 10) = true := bne_iff_ne.mpr c81
        by_cases c89 : a0 = 11
        ·rw [if_pos c89] at H
         have c89b0 : (a0 == 11) = true := beq_iff_eq.mpr c89
         have c89b1 : (a0 != 11) = false := bne_eq_false_iff_eq.mpr c89
         clear c89
         replace H := Option.bind_eq_some_iff.mp H
         obtain ⟨⟨t311, t314⟩, A900, H⟩ := H
         replace H : (some (t311, t314, 0)) = some (r1, r2, r3) := H
         have A90 := gA A900
         clear A900
         simp only [Option.some.injEq, Prod.mk.injEq] at H
         obtain ⟨rfl, rfl, rfl⟩ := H
         have hnb91 := NB265_266.out
         have hnc91 := NB266_265.out
         obtain ⟨hcz92_0, hcz92_1, hfz92_0, hfz92_1⟩ := gz2 BK265
         go_wp2_with (first | ((with_reducible refine gate_callee (f := 27) rfl ?_); refine goesL_ (some 77) rfl rfl Try.func27 (by kernel_rfl) rfl #[.agg #[.slice Ao16 t268.length co16, .slice Ao18 t271.length co18]] rfl (by (try simp only [List.map_toArray, List.map_cons, List.map_nil]); first | done | rfl | (simp only [List.length_drop, List.length_take]; rfl)) ?_; (with_reducible refine (layout_flipped.calls k _ _ t268 (fun k_ => ((P1_1_ k_ ∨ w.heap.size ≤ k_) ∧ (some k_ ≠ (.slice Ao16 t268.length co16 : Value).ownBlock ∧ (k_ ≠ gb265 ∧ k_ ≠ gb266)))) _ _ t271 t311 t314 _ ?side1 ?side2 ?side3 A90.out).mono ?_); (case side1 => repeat (first | exact (Kd.R_reads' HO270.out).2.2 | (with_reducible refine Kd.C_alloc ?_ _) | (with_reducible refine Kd.C_drewN ?_ _) | (with_reducible refine Kd.C_drew ?_))); (case side2 => exact (Kd.R_reads' HO270.out).2.1); (case side3 => exact Kd.N_V (HO273.out)); rintro e w93 ⟨v312, v315, rfl, ho0, ho1, hb⟩; refine ⟨_, rfl, ?_⟩; replace HO1_1 := gA (Kd.V_mono (Kd.V_told (Kd.V_told (Kd.V_old (gV HO1_1) hb) (Kd.R_base ho0)) (by first | exact Kd.N_base ho1 | exact Kd.R_base ho1)) (fun _ h_ => h_.1)); replace HO273 := gA (Kd.N_mono (Kd.N_told (Kd.N_told (Kd.N_old (gN HO273) hb) (Kd.R_base ho0)) (by first | exact Kd.N_base ho1 | exact Kd.R_base ho1)) (fun _ h_ => h_.1)); have HO313 := gA (Kd.R_lower (Kd.R_new' (Kd.R_newM (M := fun k_ => (w.heap.size ≤ k_)) (Kd.R_mono (ok' := fun k_ => True) ho0 (fun _ hk_ => trivial)) (below_size (gB HB)) (fun k_ h_ => h_)) (Kd.R_lt (gR HO270))) (below_size (gB HB))); have HO316 := gA (Kd.N_lower (Kd.N_mono (ok' := fun k_ => (P1_1_ k_ ∨ w.heap.size ≤ k_) ∧ some k_ ≠ (v312 : Value).ownBlock ∧ some k_ ≠ (.slice Ao16 t268.length co16 : Value).ownBlock ∧ k_ ≠ gb265 ∧ k_ ≠ gb266) ho1 (fun k_ hk_ => ⟨Or.elim hk_.1 (fun hs_ => hs_.1) (fun hn_ => (.inr (Nat.le_trans (below_size (gB HB)) hn_))), hk_.2, Or.elim hk_.1 (fun hs_ => hs_.2.1) (fun hn_ => (Kd.fresh' (Kd.R_lt (gR HO270)) k_ hn_)), Or.elim hk_.1 (fun hs_ => hs_.2.2.1) (fun hn_ => (Kd.freshB (gK BK265) k_ hn_)), Or.elim hk_.1 (fun hs_ => hs_.2.2.2) (fun hn_ => (Kd.freshB (gK BK266) k_ hn_))⟩)) (below_size (gB HB))); replace HO270 := gA (Kd.R_elder' (gR HO270) (Kd.R_base ho0) hb); replace BK265 := gA (blk_below (gK BK265) hb); replace BK266 := gA (blk_below (gK BK266) hb); replace HB := gA (below_step (gB HB) hb); (try clear hb); (try clear ho0); (try clear ho1); obtain ⟨Ao94, co94, eo94⟩ := Kd.R_slice HO313.out; subst eo94; obtain ⟨hcz95_0, hcz95_1, hfz95_0, hfz95_1⟩ := gz2 BK266; obtain ⟨Ao96, co96, eo96⟩ := Kd.N_slice HO316.out; subst eo96))
         refine bodyPost_ret (results_ct rfl _ _ gb266 25 #[.slice Ao94 t311.length co94, .slice Ao96 t314.length co96] (0, 0) _ rfl (by refine blk_put (cs := #[.slice Ao94 t311.length co94, .slice none 0 0]) ?_ 1 _ rfl; refine blk_put (cs := #[.slice none 0 0, .slice none 0 0]) ?_ 0 _ rfl; exact gK BK266) Try.underlying25 rfl (by kernel_rfl)) rfl ?_
         exact ⟨_, _, rfl, Kd.V_mono (Kd.R_V (Kd.R_mono (Kd.R_far (p := ⟨gb266, 1, none⟩) (Kd.R_far (p := ⟨gb266, 0, none⟩) (Kd.R_types HO313.out BK266.out (by decide)) (fun _ hk => hk.2) (.slice Ao94 t311.length co94)) (fun _ hk => hk.2) (.slice Ao96 t314.length co96)) (fun _ hk => hk.1.1.1))) (fun k_ hk => by first | exact ⟨(.inr (hk.1)), hk.2⟩ | exact (.inr (hk))), Kd.N_V (Kd.N_mono (Kd.N_far (p := ⟨gb266, 1, none⟩) (Kd.N_far (p := ⟨gb266, 0, none⟩) (Kd.N_mono HO316.out (fun k_ hk => (⟨hk, hk.2.2.2.2⟩ : _ ∧ k_ ≠ gb266))) (fun _ hk => hk.2) (.slice Ao94 t311.length co94)) (fun _ hk => hk.2) (.slice Ao96 t314.length co96)) (fun _ hk => hk.1.1)), by repeat first | exact gB HB | refine below_set ?_ GE265.out | refine below_set ?_ GE266.out⟩
        ·rw [if_neg c89] at H
         have c89b0 : (a0 == 11) = false := beq_eq_false_iff_ne.mpr c89
         have c89b1 : (a0 != 11) = true := bne_iff_ne.mpr c89
         by_cases c97 : a0 = 15
         ·rw [if_pos c97] at H
          have c97b0 : (a0 == 15) = true := beq_iff_eq.mpr c97
          have c97b1 : (a0 != 15) = false := bne_eq_false_iff_eq.mpr c97
          clear c97
          replace H := Option.bind_eq_some_iff.mp H
          obtain ⟨t317, A980, H⟩ := H
          replace H : (if t317 ≥ 8 then (some (([] : List Int), ([] : List (S39)), 15)) else (some (([] : List Int), (([(⟨2, 0, (([(⟨t268, t271⟩ : S25)] : List (S25)))⟩ : S39)] : List (S39))), 0))) = some (r1, r2, r3) := H
          have A98 := gA A980
          clear A980
          have HC99 := gA H
          clear H
          have hnb100 := NB265_266.out
          have hnc100 := NB266_265.out
          obtain ⟨hcz101_0, hcz101_1, hfz101_0, hfz101_1⟩ := gz2 BK265
          go_upto_if 82 with (first | ((with_reducible refine gate_callee (f := 28) rfl ?_); refine goesL_ (some 81) rfl rfl Try.func28 (by kernel_rfl) rfl #[.agg #[.slice Ao16 t268.length co16, .slice Ao18 t271.length co18]] rfl (by (try simp only [List.map_toArray, List.map_cons, List.map_nil]); first | done | rfl | (simp only [List.length_drop, List.length_take]; rfl)) ?_; (with_reducible refine (arr_Deep.calls k _ _ t268 _ _ t271 t317 _ ?side1 ?side2 ?side3 ?side4 A98.out).mono ?_); (case side1 => repeat (first | exact (Kd.R_reads' HO270.out).2.2 | (with_reducible refine Kd.C_alloc ?_ _) | (with_reducible refine Kd.C_drewN ?_ _) | (with_reducible refine Kd.C_drew ?_))); (case side2 => exact (Kd.R_reads' HO270.out).2.1); (case side3 => repeat (first | exact (Kd.N_reads' HO273.out).2.2 | (with_reducible refine Kd.C_alloc ?_ _) | (with_reducible refine Kd.C_drewN ?_ _) | (with_reducible refine Kd.C_drew ?_))); (case side4 => exact (Kd.N_reads' HO273.out).2.1); rintro e w102 ⟨rfl, hb⟩; refine ⟨_, rfl, ?_⟩; replace HO1_1 := gA (Kd.V_below (gV HO1_1) hb); replace HO270 := gA (Kd.R_below (gR HO270) hb); replace HO273 := gA (Kd.N_below (gN HO273) hb); replace BK265 := gA (blk_below (gK BK265) hb); replace BK266 := gA (blk_below (gK BK266) hb); replace HB := gA (below_step (gB HB) hb); (try clear hb)))
          have H := HC99.out; clear HC99
          by_cases c103 : t317 ≥ 8
          ·rw [if_pos c103] at H
           have c103b0 : decide (8 ≤ t317) = true := decide_eq_true c103
           clear c103
           (first | rw [c103b0] | (simp only [i64_w, i32_w]; rw [c103b0]) | skip)
           simp only [Option.some.injEq, Prod.mk.injEq] at H
           obtain ⟨rfl, rfl, rfl⟩ := H
           have hnb104 := NB266_265.out
           have hnc104 := NB265_266.out
           obtain ⟨hcz105_0, hcz105_1, hfz105_0, hfz105_1⟩ := gz2 BK266
           go_wp2
           refine bodyPost_ret (results_ct rfl _ _ gb266 25 #[.slice none 0 0, .slice none 0 0] (0, 0) _ rfl (by refine blk_put (cs := #[.slice none 0 0, .slice none 0 0]) ?_ 1 _ rfl; refine blk_put (cs := #[.slice none 0 0, .slice none 0 0]) ?_ 0 _ rfl; exact gK BK266) Try.underlying25 rfl (by kernel_rfl)) rfl ?_
           exact ⟨_, _, rfl, by first | exact Kd.R_nil _ _ _ _ _ | exact Kd.N_nil _ _ _ _ _ | exact Kd.V_nil _ _ _ _ _ | exact Kd.Q_nil _ _ _ _ _ | exact Kd.S_nil _ _ _ _ _, by first | exact Kd.R_nil _ _ _ _ _ | exact Kd.N_nil _ _ _ _ _ | exact Kd.V_nil _ _ _ _ _ | exact Kd.Q_nil _ _ _ _ _ | exact Kd.S_nil _ _ _ _ _, by repeat first | exact gB HB | refine below_set ?_ GE265.out | refine below_set ?_ GE266.out⟩
          ·rw [if_neg c103] at H
           have c103b0 : decide (8 ≤ t317) = false := decide_eq_false c103
           clear c103
           (first | rw [c103b0] | (simp only [i64_w, i32_w]; rw [c103b0]) | skip)
           obtain ⟨y318, hy318⟩ : ∃ y_ : List (S25), y_ = (([(⟨t268, t271⟩ : S25)] : List (S25))) := ⟨_, rfl⟩
           replace H : (some (([] : List Int), (([(⟨2, 0, y318⟩ : S39)] : List (S39))), 0)) = some (r1, r2, r3) := by first | (rw [hy318]; with_reducible exact H) | (have H2_ := (Option.bind_some _ _).symm.trans H; rw [hy318]; with_reducible exact H2_) | (have H2_ := (Option.bind_some _ _).symm.trans H; with_reducible exact H2_) | with_reducible exact H | (rw [hy318]; exact H) | exact H
           have Ny318 := gA hy318
           clear hy318
           obtain ⟨y321, hy321⟩ : ∃ y_ : List (S39), y_ = (([(⟨2, 0, y318⟩ : S39)] : List (S39))) := ⟨_, rfl⟩
           replace H : (some (([] : List Int), y321, 0)) = some (r1, r2, r3) := by first | (rw [hy321]; with_reducible exact H) | (have H2_ := (Option.bind_some _ _).symm.trans H; rw [hy321]; with_reducible exact H2_) | (have H2_ := (Option.bind_some _ _).symm.trans H; with_reducible exact H2_) | with_reducible exact H | (rw [hy321]; exact H) | exact H
           have Ny321 := gA hy321
           clear hy321
           simp only [Option.some.injEq, Prod.mk.injEq] at H
           obtain ⟨rfl, rfl, rfl⟩ := H
           have hnb106 := NB265_266.out
           have hnc106 := NB266_265.out
           obtain ⟨hcz107_0, hcz107_1, hfz107_0, hfz107_1⟩ := gz2 BK265
           go_wp2_with (first | ((with_reducible refine gate_dst (N := 85) rfl ?_); refine Kd.N_lit k25 _ 25 ?hg (N' := 85) ?hd (xs := ([(⟨t268, t271⟩ : S25)] : List (S25))) (inner := [.slice Ao16 t268.length co16, .slice Ao18 t271.length co18]) (ok := (fun k_ => (P1_1_ k_ ∨ w.heap.size ≤ k_) ∧ k_ ≠ gb265 ∧ k_ ≠ gb266)) (okp := (fun k_ => (P1_1_ k_ ∨ w.heap.size ≤ k_) ∧ k_ ≠ gb265 ∧ k_ ≠ gb266)) ?hr ?hp (fun _ hk => hk) ((show ∀ k_, w102.heap.size ≤ k_ → (fun k_ => (P1_1_ k_ ∨ w.heap.size ≤ k_) ∧ k_ ≠ gb265 ∧ k_ ≠ gb266) k_ from fun k_ hk => ⟨(.inr (Nat.le_trans (below_size (gB HB)) hk)), Kd.freshB (gK BK265) k_ hk, Kd.freshB (gK BK266) k_ hk⟩) _ (Nat.le_refl _)) (Below.refl _ _) (Nat.le_refl _) (by simp) ?_; (case hd => rfl); (case hg => rfl); (case hr => first | (go_simp; done) | (go_simp; rfl)); (case hp => exact (Reps.c2 (show Kd.FK k25 _ _ (⟨t268, t271⟩ : S25) [.slice Ao16 t268.length co16, .slice Ao18 t271.length co18] from (k25_mkF _ _ (⟨t268, t271⟩ : S25) (Kd.R_reads' (Kd.R_mono (ok' := (fun k_ => (P1_1_ k_ ∨ w.heap.size ≤ k_) ∧ k_ ≠ gb265 ∧ k_ ≠ gb266)) (Kd.R_types (Kd.R_types (HO270.out) BK265.out (by decide)) BK266.out (by decide)) (fun k_ hk => ⟨(.inr (hk.1.1)), ⟨hk.1.2, hk.2⟩⟩))).2.1 (Kd.R_F (Kd.R_mono (ok' := (fun k_ => (P1_1_ k_ ∨ w.heap.size ≤ k_) ∧ k_ ≠ gb265 ∧ k_ ≠ gb266)) (Kd.R_types (Kd.R_types (HO270.out) BK265.out (by decide)) BK266.out (by decide)) (fun k_ hk => ⟨(.inr (hk.1.1)), ⟨hk.1.2, hk.2⟩⟩))) (Kd.N_reads' (Kd.N_mono (ok' := (fun k_ => (P1_1_ k_ ∨ w.heap.size ≤ k_) ∧ k_ ≠ gb265 ∧ k_ ≠ gb266)) (HO273.out) (fun k_ hk => ⟨hk.1, ⟨hk.2.2.1, hk.2.2.2⟩⟩))).2.1 (Kd.N_F (Kd.N_mono (ok' := (fun k_ => (P1_1_ k_ ∨ w.heap.size ≤ k_) ∧ k_ ≠ gb265 ∧ k_ ≠ gb266)) (HO273.out) (fun k_ hk => ⟨hk.1, ⟨hk.2.2.1, hk.2.2.2⟩⟩))))) (Reps.none _ _))); intro v319 w108 ho109 hb hg_ hnew_; clear hg_ hnew_; (first | rw [← Ny318.out] at ho109 | (simp only [Int.reduceToNat] at ho109; rw [← Ny318.out] at ho109)); replace HO1_1 := gA (Kd.V_elder' (gV HO1_1) (Kd.N_base ho109) hb); have HO320 := gA (Kd.N_lower ho109 (below_size (gB HB))); replace BK265 := gA (blk_below (gK BK265) hb); replace BK266 := gA (blk_below (gK BK266) hb); replace HB := gA (below_step (gB HB) hb); clear HO270 HO273 hb ho109; obtain ⟨Ao110, co110, eo110⟩ := Kd.N_slice HO320.out; subst eo110) | ((with_reducible refine gate_dst (N := 87) rfl ?_); refine Kd.N_lit k39 _ 39 ?hg (N' := 87) ?hd (xs := ([(⟨2, 0, y318⟩ : S39)] : List (S39))) (inner := [.int .i64 2, .int .i64 0, .slice Ao110 y318.length co110]) (ok := (fun k_ => (P1_1_ k_ ∨ w.heap.size ≤ k_) ∧ k_ ≠ gb265 ∧ k_ ≠ gb266)) (okp := (fun k_ => (P1_1_ k_ ∨ w.heap.size ≤ k_) ∧ k_ ≠ gb265 ∧ k_ ≠ gb266)) ?hr ?hp (fun _ hk => hk) ((show ∀ k_, w108.heap.size ≤ k_ → (fun k_ => (P1_1_ k_ ∨ w.heap.size ≤ k_) ∧ k_ ≠ gb265 ∧ k_ ≠ gb266) k_ from fun k_ hk => ⟨(.inr (Nat.le_trans (below_size (gB HB)) hk)), Kd.freshB (gK BK265) k_ hk, Kd.freshB (gK BK266) k_ hk⟩) _ (Nat.le_refl _)) (Below.refl _ _) (Nat.le_refl _) (by simp) ?_; (case hd => rfl); (case hg => rfl); (case hr => first | (go_simp; done) | (go_simp; rfl)); (case hp => exact (Reps.c3 (show Kd.FK k39 _ _ (⟨2, 0, y318⟩ : S39) [.int .i64 2, .int .i64 0, .slice Ao110 y318.length co110] from (k39_mkF _ _ (⟨2, 0, y318⟩ : S39) (Kd.N_reads' (Kd.N_mono (ok' := (fun k_ => (P1_1_ k_ ∨ w.heap.size ≤ k_) ∧ k_ ≠ gb265 ∧ k_ ≠ gb266)) (HO320.out) (fun k_ hk => ⟨hk.1, ⟨hk.2.1, hk.2.2⟩⟩))).2.1 (Kd.N_F (Kd.N_mono (ok' := (fun k_ => (P1_1_ k_ ∨ w.heap.size ≤ k_) ∧ k_ ≠ gb265 ∧ k_ ≠ gb266)) (HO320.out) (fun k_ hk => ⟨hk.1, ⟨hk.2.1, hk.2.2⟩⟩))))) (Reps.none _ _))); intro v322 w111 ho112 hb hg_ hnew_; clear hg_ hnew_; (first | rw [← Ny321.out] at ho112 | (simp only [Int.reduceToNat] at ho112; rw [← Ny321.out] at ho112)); replace HO1_1 := gA (Kd.V_elder' (gV HO1_1) (Kd.N_base ho112) hb); have HO323 := gA (Kd.N_lower ho112 (below_size (gB HB))); replace BK265 := gA (blk_below (gK BK265) hb); replace BK266 := gA (blk_below (gK BK266) hb); replace HB := gA (below_step (gB HB) hb); clear HO320 hb ho112; obtain ⟨Ao113, co113, eo113⟩ := Kd.N_slice HO323.out; subst eo113; obtain ⟨hcz114_0, hcz114_1, hfz114_0, hfz114_1⟩ := gz2 BK266))
           refine bodyPost_ret (results_ct rfl _ _ gb266 25 #[.slice none 0 0, .slice Ao113 y321.length co113] (0, 0) _ rfl (by refine blk_put (cs := #[.slice none 0 0, .slice none 0 0]) ?_ 1 _ rfl; refine blk_put (cs := #[.slice none 0 0, .slice none 0 0]) ?_ 0 _ rfl; exact gK BK266) Try.underlying25 rfl (by kernel_rfl)) rfl ?_
           exact ⟨_, _, rfl, by first | exact Kd.R_nil _ _ _ _ _ | exact Kd.N_nil _ _ _ _ _ | exact Kd.V_nil _ _ _ _ _ | exact Kd.Q_nil _ _ _ _ _ | exact Kd.S_nil _ _ _ _ _, Kd.N_V (Kd.N_mono (Kd.N_far (p := ⟨gb266, 1, none⟩) (Kd.N_far (p := ⟨gb266, 0, none⟩) (Kd.N_mono HO323.out (fun k_ hk => (⟨hk, hk.2.2⟩ : _ ∧ k_ ≠ gb266))) (fun _ hk => hk.2) (.slice none 0 0)) (fun _ hk => hk.2) (.slice Ao113 y321.length co113)) (fun _ hk => hk.1.1)), by repeat first | exact gB HB | refine below_set ?_ GE265.out | refine below_set ?_ GE266.out⟩
         ·rw [if_neg c97] at H
          have c97b0 : (a0 == 15) = false := beq_eq_false_iff_ne.mpr c97
          have c97b1 : (a0 != 15) = true := bne_iff_ne.mpr c97
          by_cases c115 : a0 = 16
          ·rw [if_pos c115] at H
           have c115b0 : (a0 == 16) = true := beq_iff_eq.mpr c115
           have c115b1 : (a0 != 16) = false := bne_eq_false_iff_eq.mpr c115
           clear c115
           replace H := Option.bind_eq_some_iff.mp H
           obtain ⟨⟨t324, t327, t330⟩, A1160, H⟩ := H
           replace H : (some (t324, t327, t330)) = some (r1, r2, r3) := H
           have A116 := gA A1160
           clear A1160
           simp only [Option.some.injEq, Prod.mk.injEq] at H
           obtain ⟨rfl, rfl, rfl⟩ := H
           have hnb117 := NB265_266.out
           have hnc117 := NB266_265.out
           obtain ⟨hcz118_0, hcz118_1, hfz118_0, hfz118_1⟩ := gz2 BK265
           go_wp2_with (first | ((with_reducible refine gate_callee (f := 29) rfl ?_); refine goesL_ (some 92) rfl rfl Try.func29 (by kernel_rfl) rfl #[.agg #[.slice Ao16 t268.length co16, .slice Ao18 t271.length co18]] rfl (by (try simp only [List.map_toArray, List.map_cons, List.map_nil]); first | done | rfl | (simp only [List.length_drop, List.length_take]; rfl)) ?_; (with_reducible refine (layout_open.calls (fun k_ => some k_ = (.slice Ao16 t268.length co16 : Value).ownBlock) (.slice Ao16 t268.length co16) t268 (fun k_ => ((P1_1_ k_ ∨ w.heap.size ≤ k_) ∧ (some k_ ≠ (.slice Ao16 t268.length co16 : Value).ownBlock ∧ (k_ ≠ gb265 ∧ k_ ≠ gb266)))) _ _ t271 t324 t327 t330 w _ ?side1 ?side2 ?side3 A116.out).mono ?_); (case side1 => repeat (first | (with_reducible first | exact HB.out | apply below_alloc | apply pw_below_drewN | apply below_drew1 | refine below_set ?_ GE265.out | refine below_set ?_ GE266.out) | exact HB.out)); (case side2 => exact Kd.R_tight rfl HO270.out); (case side3 => exact Kd.V_mono (Kd.N_V (HO273.out)) (fun k_ hk_ => ⟨hk_, hk_.2.1⟩)); rintro e w119 ⟨v325, v328, rfl, ho0, ho1, hb, hkp⟩; refine ⟨_, rfl, ?_⟩; replace HO1_1 := gA (Kd.V_mono (ok' := fun k_ => (P1_1_ k_ ∨ w.heap.size ≤ k_) ∧ some k_ ≠ (.slice Ao18 t271.length co18 : Value).ownBlock ∧ k_ ≠ gb265 ∧ k_ ≠ gb266) (Kd.V_keptB (HO1_1.out) hkp (fun k_ hk_ hs_ => (hk_.2.1) hs_)) (fun k_ hk_ => ⟨hk_.1.1, hk_.1.2.2.1, hk_.1.2.2.2.1, hk_.1.2.2.2.2⟩)); replace HO273 := gA (Kd.N_mono (ok' := fun k_ => (P1_1_ k_ ∨ w.heap.size ≤ k_) ∧ k_ ≠ gb265 ∧ k_ ≠ gb266) (Kd.N_keptB (HO273.out) hkp (fun k_ hk_ hs_ => (hk_.2.1) hs_)) (fun k_ hk_ => ⟨hk_.1.1, hk_.1.2.2.1, hk_.1.2.2.2⟩)); have HO326 := gA (Kd.V_mono (ok' := fun k_ => (P1_1_ k_ ∨ w.heap.size ≤ k_) ∧ k_ ≠ gb265 ∧ k_ ≠ gb266) ho0 (fun k_ hk_ => ⟨Or.elim hk_ (fun hs_ => Or.elim hs_ (fun hs_ => (.inr ((HO270.out.1 k_ (hs_).symm)))) (fun hs_ => hs_.1)) (fun hn_ => (.inr (Nat.le_trans (below_size (gB HB)) hn_))), Or.elim hk_ (fun hs_ => Or.elim hs_ (fun hs_ => fun e_ => (Kd.R_ne HO270.out BK265.out (by decide)) (by rw [← e_]; exact hs_)) (fun hs_ => hs_.2.2.1)) (fun hn_ => (Kd.freshB (gK BK265) k_ hn_)), Or.elim hk_ (fun hs_ => Or.elim hs_ (fun hs_ => fun e_ => (Kd.R_ne HO270.out BK266.out (by decide)) (by rw [← e_]; exact hs_)) (fun hs_ => hs_.2.2.2)) (fun hn_ => (Kd.freshB (gK BK266) k_ hn_))⟩)); have HO329 := gA (Kd.V_mono (ok' := fun k_ => (P1_1_ k_ ∨ w.heap.size ≤ k_) ∧ k_ ≠ gb265 ∧ k_ ≠ gb266) ho1 (fun k_ hk_ => ⟨Or.elim hk_ (fun hs_ => Or.elim hs_ (fun hs_ => (.inr ((HO270.out.1 k_ (hs_).symm)))) (fun hs_ => hs_.1)) (fun hn_ => (.inr (Nat.le_trans (below_size (gB HB)) hn_))), Or.elim hk_ (fun hs_ => Or.elim hs_ (fun hs_ => fun e_ => (Kd.R_ne HO270.out BK265.out (by decide)) (by rw [← e_]; exact hs_)) (fun hs_ => hs_.2.2.1)) (fun hn_ => (Kd.freshB (gK BK265) k_ hn_)), Or.elim hk_ (fun hs_ => Or.elim hs_ (fun hs_ => fun e_ => (Kd.R_ne HO270.out BK266.out (by decide)) (by rw [← e_]; exact hs_)) (fun hs_ => hs_.2.2.2)) (fun hn_ => (Kd.freshB (gK BK266) k_ hn_))⟩)); replace BK265 := gA (blk_kept (gK BK265) hkp (fun hs_ => (fun e_ => (Kd.R_ne HO270.out BK265.out (by decide)) e_) hs_)); replace BK266 := gA (blk_kept (gK BK266) hkp (fun hs_ => (fun e_ => (Kd.R_ne HO270.out BK266.out (by decide)) e_) hs_)); replace HB := gA (hb); clear HO270; (try clear hb); (try clear hkp); (try clear ho0); (try clear ho1); obtain ⟨Ao120, co120, eo120⟩ := Kd.V_slice HO326.out; subst eo120; obtain ⟨hcz121_0, hcz121_1, hfz121_0, hfz121_1⟩ := gz2 BK266; obtain ⟨Ao122, co122, eo122⟩ := Kd.V_slice HO329.out; subst eo122))
           refine bodyPost_ret (results_ct rfl _ _ gb266 25 #[.slice Ao120 t324.length co120, .slice Ao122 t327.length co122] (0, 0) _ rfl (by refine blk_put (cs := #[.slice Ao120 t324.length co120, .slice none 0 0]) ?_ 1 _ rfl; refine blk_put (cs := #[.slice none 0 0, .slice none 0 0]) ?_ 0 _ rfl; exact gK BK266) Try.underlying25 rfl (by kernel_rfl)) rfl ?_
           exact ⟨_, _, rfl, Kd.V_mono (Kd.V_far (p := ⟨gb266, 1, none⟩) (Kd.V_far (p := ⟨gb266, 0, none⟩) (Kd.V_mono HO326.out (fun k_ hk => (⟨hk, hk.2.2⟩ : _ ∧ k_ ≠ gb266))) (fun _ hk => hk.2) (.slice Ao120 t324.length co120)) (fun _ hk => hk.2) (.slice Ao122 t327.length co122)) (fun _ hk => hk.1.1), Kd.V_mono (Kd.V_far (p := ⟨gb266, 1, none⟩) (Kd.V_far (p := ⟨gb266, 0, none⟩) (Kd.V_mono HO329.out (fun k_ hk => (⟨hk, hk.2.2⟩ : _ ∧ k_ ≠ gb266))) (fun _ hk => hk.2) (.slice Ao120 t324.length co120)) (fun _ hk => hk.2) (.slice Ao122 t327.length co122)) (fun _ hk => hk.1.1), by repeat first | exact gB HB | refine below_set ?_ GE265.out | refine below_set ?_ GE266.out⟩
          ·rw [if_neg c115] at H
           have c115b0 : (a0 == 16) = false := beq_eq_false_iff_ne.mpr c115
           have c115b1 : (a0 != 16) = true := bne_iff_ne.mpr c115
           by_cases c123 : a0 = 17
           ·rw [if_pos c123] at H
            have c123b0 : (a0 == 17) = true := beq_iff_eq.mpr c123
            have c123b1 : (a0 != 17) = false := bne_eq_false_iff_eq.mpr c123
            clear c123
            replace H := Option.bind_eq_some_iff.mp H
            obtain ⟨⟨t331, t334, t337⟩, A1240, H⟩ := H
            replace H : (some (t331, t334, t337)) = some (r1, r2, r3) := H
            have A124 := gA A1240
            clear A1240
            simp only [Option.some.injEq, Prod.mk.injEq] at H
            obtain ⟨rfl, rfl, rfl⟩ := H
            have hnb125 := NB265_266.out
            have hnc125 := NB266_265.out
            obtain ⟨hcz126_0, hcz126_1, hfz126_0, hfz126_1⟩ := gz2 BK265
            go_wp2_with (first | ((with_reducible refine gate_callee (f := 30) rfl ?_); refine goesL_ (some 98) rfl rfl Try.func30 (by kernel_rfl) rfl #[.agg #[.slice Ao16 t268.length co16, .slice Ao18 t271.length co18]] rfl (by (try simp only [List.map_toArray, List.map_cons, List.map_nil]); first | done | rfl | (simp only [List.length_drop, List.length_take]; rfl)) ?_; (with_reducible refine (layout_first.calls (fun k_ => some k_ = (.slice Ao16 t268.length co16 : Value).ownBlock) (.slice Ao16 t268.length co16) t268 (fun k_ => ((P1_1_ k_ ∨ w.heap.size ≤ k_) ∧ (some k_ ≠ (.slice Ao16 t268.length co16 : Value).ownBlock ∧ (k_ ≠ gb265 ∧ k_ ≠ gb266)))) _ _ t271 t331 t334 t337 w _ ?side1 ?side2 ?side3 A124.out).mono ?_); (case side1 => repeat (first | (with_reducible first | exact HB.out | apply below_alloc | apply pw_below_drewN | apply below_drew1 | refine below_set ?_ GE265.out | refine below_set ?_ GE266.out) | exact HB.out)); (case side2 => exact Kd.R_tight rfl HO270.out); (case side3 => exact Kd.V_mono (Kd.N_V (HO273.out)) (fun k_ hk_ => ⟨hk_, hk_.2.1⟩)); rintro e w127 ⟨v332, v335, rfl, ho0, ho1, hb, hkp⟩; refine ⟨_, rfl, ?_⟩; replace HO1_1 := gA (Kd.V_mono (ok' := fun k_ => (P1_1_ k_ ∨ w.heap.size ≤ k_) ∧ some k_ ≠ (.slice Ao18 t271.length co18 : Value).ownBlock ∧ k_ ≠ gb265 ∧ k_ ≠ gb266) (Kd.V_keptB (HO1_1.out) hkp (fun k_ hk_ hs_ => (hk_.2.1) hs_)) (fun k_ hk_ => ⟨hk_.1.1, hk_.1.2.2.1, hk_.1.2.2.2.1, hk_.1.2.2.2.2⟩)); replace HO273 := gA (Kd.N_mono (ok' := fun k_ => (P1_1_ k_ ∨ w.heap.size ≤ k_) ∧ k_ ≠ gb265 ∧ k_ ≠ gb266) (Kd.N_keptB (HO273.out) hkp (fun k_ hk_ hs_ => (hk_.2.1) hs_)) (fun k_ hk_ => ⟨hk_.1.1, hk_.1.2.2.1, hk_.1.2.2.2⟩)); have HO333 := gA (Kd.V_mono (ok' := fun k_ => (P1_1_ k_ ∨ w.heap.size ≤ k_) ∧ k_ ≠ gb265 ∧ k_ ≠ gb266) ho0 (fun k_ hk_ => ⟨Or.elim hk_ (fun hs_ => Or.elim hs_ (fun hs_ => (.inr ((HO270.out.1 k_ (hs_).symm)))) (fun hs_ => hs_.1)) (fun hn_ => (.inr (Nat.le_trans (below_size (gB HB)) hn_))), Or.elim hk_ (fun hs_ => Or.elim hs_ (fun hs_ => fun e_ => (Kd.R_ne HO270.out BK265.out (by decide)) (by rw [← e_]; exact hs_)) (fun hs_ => hs_.2.2.1)) (fun hn_ => (Kd.freshB (gK BK265) k_ hn_)), Or.elim hk_ (fun hs_ => Or.elim hs_ (fun hs_ => fun e_ => (Kd.R_ne HO270.out BK266.out (by decide)) (by rw [← e_]; exact hs_)) (fun hs_ => hs_.2.2.2)) (fun hn_ => (Kd.freshB (gK BK266) k_ hn_))⟩)); have HO336 := gA (Kd.V_mono (ok' := fun k_ => (P1_1_ k_ ∨ w.heap.size ≤ k_) ∧ k_ ≠ gb265 ∧ k_ ≠ gb266) ho1 (fun k_ hk_ => ⟨Or.elim hk_ (fun hs_ => Or.elim hs_ (fun hs_ => (.inr ((HO270.out.1 k_ (hs_).symm)))) (fun hs_ => hs_.1)) (fun hn_ => (.inr (Nat.le_trans (below_size (gB HB)) hn_))), Or.elim hk_ (fun hs_ => Or.elim hs_ (fun hs_ => fun e_ => (Kd.R_ne HO270.out BK265.out (by decide)) (by rw [← e_]; exact hs_)) (fun hs_ => hs_.2.2.1)) (fun hn_ => (Kd.freshB (gK BK265) k_ hn_)), Or.elim hk_ (fun hs_ => Or.elim hs_ (fun hs_ => fun e_ => (Kd.R_ne HO270.out BK266.out (by decide)) (by rw [← e_]; exact hs_)) (fun hs_ => hs_.2.2.2)) (fun hn_ => (Kd.freshB (gK BK266) k_ hn_))⟩)); replace BK265 := gA (blk_kept (gK BK265) hkp (fun hs_ => (fun e_ => (Kd.R_ne HO270.out BK265.out (by decide)) e_) hs_)); replace BK266 := gA (blk_kept (gK BK266) hkp (fun hs_ => (fun e_ => (Kd.R_ne HO270.out BK266.out (by decide)) e_) hs_)); replace HB := gA (hb); clear HO270; (try clear hb); (try clear hkp); (try clear ho0); (try clear ho1); obtain ⟨Ao128, co128, eo128⟩ := Kd.V_slice HO333.out; subst eo128; obtain ⟨hcz129_0, hcz129_1, hfz129_0, hfz129_1⟩ := gz2 BK266; obtain ⟨Ao130, co130, eo130⟩ := Kd.V_slice HO336.out; subst eo130))
            refine bodyPost_ret (results_ct rfl _ _ gb266 25 #[.slice Ao128 t331.length co128, .slice Ao130 t334.length co130] (0, 0) _ rfl (by refine blk_put (cs := #[.slice Ao128 t331.length co128, .slice none 0 0]) ?_ 1 _ rfl; refine blk_put (cs := #[.slice none 0 0, .slice none 0 0]) ?_ 0 _ rfl; exact gK BK266) Try.underlying25 rfl (by kernel_rfl)) rfl ?_
            exact ⟨_, _, rfl, Kd.V_mono (Kd.V_far (p := ⟨gb266, 1, none⟩) (Kd.V_far (p := ⟨gb266, 0, none⟩) (Kd.V_mono HO333.out (fun k_ hk => (⟨hk, hk.2.2⟩ : _ ∧ k_ ≠ gb266))) (fun _ hk => hk.2) (.slice Ao128 t331.length co128)) (fun _ hk => hk.2) (.slice Ao130 t334.length co130)) (fun _ hk => hk.1.1), Kd.V_mono (Kd.V_far (p := ⟨gb266, 1, none⟩) (Kd.V_far (p := ⟨gb266, 0, none⟩) (Kd.V_mono HO336.out (fun k_ hk => (⟨hk, hk.2.2⟩ : _ ∧ k_ ≠ gb266))) (fun _ hk => hk.2) (.slice Ao128 t331.length co128)) (fun _ hk => hk.2) (.slice Ao130 t334.length co130)) (fun _ hk => hk.1.1), by repeat first | exact gB HB | refine below_set ?_ GE265.out | refine below_set ?_ GE266.out⟩
           ·rw [if_neg c123] at H
            have c123b0 : (a0 == 17) = false := beq_eq_false_iff_ne.mpr c123
            have c123b1 : (a0 != 17) = true := bne_iff_ne.mpr c123
            by_cases c131 : a0 = 18
            ·rw [if_pos c131] at H
             have c131b0 : (a0 == 18) = true := beq_iff_eq.mpr c131
             have c131b1 : (a0 != 18) = false := bne_eq_false_iff_eq.mpr c131
             clear c131
             by_cases c132 : (t268.length : Int) ≥ 8
             ·rw [if_pos c132] at H
              have c132b0 : decide (8 ≤ (t268.length : Int)) = true := decide_eq_true c132
              have c132b1 : decide (8 ≤ t268.length) = true := decide_eq_true (by omega)
              clear c132
              simp only [Option.some.injEq, Prod.mk.injEq] at H
              obtain ⟨rfl, rfl, rfl⟩ := H
              have hnb133 := NB265_266.out
              have hnc133 := NB266_265.out
              obtain ⟨hcz134_0, hcz134_1, hfz134_0, hfz134_1⟩ := gz2 BK265
              obtain ⟨hcz135_0, hcz135_1, hfz135_0, hfz135_1⟩ := gz2 BK266
              go_wp2
              refine bodyPost_ret (results_ct rfl _ _ gb266 25 #[.slice none 0 0, .slice none 0 0] (0, 0) _ rfl (by refine blk_put (cs := #[.slice none 0 0, .slice none 0 0]) ?_ 1 _ rfl; refine blk_put (cs := #[.slice none 0 0, .slice none 0 0]) ?_ 0 _ rfl; exact gK BK266) Try.underlying25 rfl (by kernel_rfl)) rfl ?_
              exact ⟨_, _, rfl, by first | exact Kd.R_nil _ _ _ _ _ | exact Kd.N_nil _ _ _ _ _ | exact Kd.V_nil _ _ _ _ _ | exact Kd.Q_nil _ _ _ _ _ | exact Kd.S_nil _ _ _ _ _, by first | exact Kd.R_nil _ _ _ _ _ | exact Kd.N_nil _ _ _ _ _ | exact Kd.V_nil _ _ _ _ _ | exact Kd.Q_nil _ _ _ _ _ | exact Kd.S_nil _ _ _ _ _, by repeat first | exact gB HB | refine below_set ?_ GE265.out | refine below_set ?_ GE266.out⟩
             ·rw [if_neg c132] at H
              have c132b0 : decide (8 ≤ (t268.length : Int)) = false := decide_eq_false c132
              have c132b1 : decide (8 ≤ t268.length) = false := decide_eq_false (by omega)
              clear c132
              obtain ⟨y338, hy338⟩ : ∃ y_ : List Int, y_ = (([1] : List Int)) := ⟨_, rfl⟩
              replace H : (if y338.length + t268.length < 17592186044416 then (some ((y338 ++ t268), t271, 0)) else (none)) = some (r1, r2, r3) := by first | (rw [hy338]; with_reducible exact H) | (have H2_ := (Option.bind_some _ _).symm.trans H; rw [hy338]; with_reducible exact H2_) | (have H2_ := (Option.bind_some _ _).symm.trans H; with_reducible exact H2_) | with_reducible exact H | (rw [hy338]; exact H) | exact H
              have Ny338 := gA hy338
              clear hy338
              obtain ⟨c136, H⟩ := iS H
              have LMc136 := gA c136
              clear c136
              obtain ⟨y341, hy341⟩ : ∃ y_ : List Int, y_ = (y338 ++ t268) := ⟨_, rfl⟩
              replace H : (some (y341, t271, 0)) = some (r1, r2, r3) := by first | (rw [hy341]; with_reducible exact H) | (have H2_ := (Option.bind_some _ _).symm.trans H; rw [hy341]; with_reducible exact H2_) | (have H2_ := (Option.bind_some _ _).symm.trans H; with_reducible exact H2_) | with_reducible exact H | (rw [hy341]; exact H) | exact H
              have Ny341 := gA hy341
              clear hy341
              simp only [Option.some.injEq, Prod.mk.injEq] at H
              obtain ⟨rfl, rfl, rfl⟩ := H
              have hnb137 := NB265_266.out
              have hnc137 := NB266_265.out
              obtain ⟨hcz138_0, hcz138_1, hfz138_0, hfz138_1⟩ := gz2 BK265
              go_wp2_with (first | ((with_reducible refine gate_dst (N := 108) rfl ?_); refine Kd.R_lit (Kd.int .i64) _ 3 ?hg (N := 108) ?hd (xs := ([1] : List Int)) (inner := [.int .i64 1]) (ok := fun _ => True) (okp := fun _ => True) ?hr ?hp (fun _ hk => hk) trivial (Below.refl _ _) (Nat.le_refl _) (by simp) ?_; (case hd => rfl); (case hg => rfl); (case hr => first | (go_simp; done) | (go_simp; rfl)); (case hp => exact (Reps.one (show Kd.M (Kd.int .i64) _ _ _ 1 [.int .i64 1] from rfl) (Reps.none _ _))); intro v339 w139 ho140 hb hg_ hnew_; clear hg_ hnew_; (first | rw [← Ny338.out] at ho140 | (simp only [Int.reduceToNat] at ho140; rw [← Ny338.out] at ho140)); replace HO1_1 := gA (Kd.V_elder' (gV HO1_1) (Kd.R_base ho140) hb); replace HO273 := gA (Kd.N_elder' (gN HO273) (Kd.R_base ho140) hb); have HO340 := gA (Kd.R_lower (Kd.R_new' (Kd.R_newM (M := fun k_ => (w.heap.size ≤ k_)) ho140 (below_size (gB HB)) (fun k_ h_ => h_)) (Kd.R_lt (gR HO270))) (below_size (gB HB))); replace HO270 := gA (Kd.R_elder' (gR HO270) (Kd.R_base ho140) hb); replace BK265 := gA (blk_below (gK BK265) hb); replace BK266 := gA (blk_below (gK BK266) hb); replace HB := gA (below_step (gB HB) hb); clear hb ho140; obtain ⟨hcz141_0, hcz141_1, hfz141_0, hfz141_1⟩ := gz2 BK265) | ((with_reducible refine gate_builtin (b := .append) (xs := #[.tmp 108, .tmp 110]) rfl ?_); at_builtin; refine Kd.R_append_rows (Kd.int .i64) (w0 := w) w.heap.size rfl (.tmp 108) (.tmp 110) 22 3 (.int .i64 0) 8 rfl Try.underlying22 info3 rfl (by decide) (by omega) v339 y338 t268 _ _ _ (fun k_ => (w.heap.size ≤ k_) ∧ some k_ ≠ (.slice Ao16 t268.length co16 : Value).ownBlock) (fun _ => False) rfl rfl ?aO ?aR (fun _ _ h => h) (fun _ h => h.elim) ?aF ?aB ?aS ?aL ?_; (case aR => repeat (first | exact (Kd.R_reads' HO270.out).2.2 | (with_reducible refine Kd.C_alloc ?_ _) | (with_reducible refine Kd.C_drewN ?_ _) | (with_reducible refine Kd.C_drew ?_))); (case aB => exact (gB HB)); (case aF => exact (fun k_ hk => ⟨(Nat.le_trans (below_size (gB HB)) hk), Kd.fresh' (Kd.R_lt (gR HO270)) k_ hk⟩)); (case aO => exact (Kd.R_mono HO340.out (fun _ hk => ⟨hk.1.1, hk.2⟩))); (case aS => exact (below_size (gB HB))); (case aL => have := LMc136.out; omega); intro v342 w142 ho hb hg hat; rw [← Ny341.out] at ho; replace HO1_1 := gA (Kd.V_afterv (ok := (fun k_ => (P1_1_ k_ ∨ w.heap.size ≤ k_) ∧ some k_ ≠ (.slice Ao16 t268.length co16 : Value).ownBlock ∧ some k_ ≠ (.slice Ao18 t271.length co18 : Value).ownBlock ∧ k_ ≠ gb265 ∧ k_ ≠ gb266)) (gV HO1_1) hg hat); replace BK265 := gA (blk_grown (gK BK265) hg (Kd.R_ne HO340.out BK265.out (by decide))); replace BK266 := gA (blk_grown (gK BK266) hg (Kd.R_ne HO340.out BK266.out (by decide))); replace HO270 := gA (Kd.R_after (ok := (fun k_ => (w.heap.size ≤ k_))) (gR HO270) hg hat); replace HO273 := gA (Kd.N_afterv (ok := (fun k_ => (P1_1_ k_ ∨ w.heap.size ≤ k_) ∧ some k_ ≠ (.slice Ao16 t268.length co16 : Value).ownBlock ∧ k_ ≠ gb265 ∧ k_ ≠ gb266)) (gN HO273) hg hat); replace HB := gA (hb); have HO343 := gA (ho); clear HO340 ho hb hg hat; obtain ⟨Ao143, co143, eo143⟩ := Kd.R_slice HO343.out; subst eo143; obtain ⟨hcz144_0, hcz144_1, hfz144_0, hfz144_1⟩ := gz2 BK265; obtain ⟨hcz145_0, hcz145_1, hfz145_0, hfz145_1⟩ := gz2 BK266))
              refine bodyPost_ret (results_ct rfl _ _ gb266 25 #[.slice Ao143 y341.length co143, .slice Ao18 t271.length co18] (0, 0) _ rfl (by refine blk_put (cs := #[.slice Ao143 y341.length co143, .slice none 0 0]) ?_ 1 _ rfl; refine blk_put (cs := #[.slice none 0 0, .slice none 0 0]) ?_ 0 _ rfl; refine blk_far ?_ NB266_265.out _; exact gK BK266) Try.underlying25 rfl (by kernel_rfl)) rfl ?_
              exact ⟨_, _, rfl, Kd.V_mono (Kd.R_V (Kd.R_mono (Kd.R_far (p := ⟨gb266, 1, none⟩) (Kd.R_far (p := ⟨gb266, 0, none⟩) (Kd.R_far (p := ⟨gb265, 0, none⟩) (Kd.R_types (Kd.R_types HO343.out BK265.out (by decide)) BK266.out (by decide)) (fun _ hk => hk.1.2) (.slice Ao143 y341.length co143)) (fun _ hk => hk.2) (.slice Ao143 y341.length co143)) (fun _ hk => hk.2) (.slice Ao18 t271.length co18)) (fun _ hk => hk.1.1.1))) (fun k_ hk => by first | exact ⟨(.inr (hk.1)), hk.2⟩ | exact (.inr (hk))), Kd.N_V (Kd.N_mono (Kd.N_far (p := ⟨gb266, 1, none⟩) (Kd.N_far (p := ⟨gb266, 0, none⟩) (Kd.N_far (p := ⟨gb265, 0, none⟩) (Kd.N_mono (Kd.N_mono HO273.out (fun k_ hk => (⟨hk, hk.1.2.2.1⟩ : _ ∧ k_ ≠ gb265))) (fun k_ hk => (⟨hk, hk.1.1.2.2.2⟩ : _ ∧ k_ ≠ gb266))) (fun _ hk => hk.1.2) (.slice Ao143 y341.length co143)) (fun _ hk => hk.2) (.slice Ao143 y341.length co143)) (fun _ hk => hk.2) (.slice Ao18 t271.length co18)) (fun _ hk => hk.1.1.1.1)), by repeat first | exact gB HB | refine below_set ?_ GE265.out | refine below_set ?_ GE266.out⟩
            ·rw [if_neg c131] at H
             have c131b0 : (a0 == 18) = false := beq_eq_false_iff_ne.mpr c131
             have c131b1 : (a0 != 18) = true := bne_iff_ne.mpr c131
             simp only [Option.some.injEq, Prod.mk.injEq] at H
             obtain ⟨rfl, rfl, rfl⟩ := H
             have hnb146 := NB266_265.out
             have hnc146 := NB265_266.out
             obtain ⟨hcz147_0, hcz147_1, hfz147_0, hfz147_1⟩ := gz2 BK266
             go_wp2
             refine bodyPost_ret (results_ct rfl _ _ gb266 25 #[.slice none 0 0, .slice none 0 0] (0, 0) _ rfl (by refine blk_put (cs := #[.slice none 0 0, .slice none 0 0]) ?_ 1 _ rfl; refine blk_put (cs := #[.slice none 0 0, .slice none 0 0]) ?_ 0 _ rfl; exact gK BK266) Try.underlying25 rfl (by kernel_rfl)) rfl ?_
             exact ⟨_, _, rfl, by first | exact Kd.R_nil _ _ _ _ _ | exact Kd.N_nil _ _ _ _ _ | exact Kd.V_nil _ _ _ _ _ | exact Kd.Q_nil _ _ _ _ _ | exact Kd.S_nil _ _ _ _ _, by first | exact Kd.R_nil _ _ _ _ _ | exact Kd.N_nil _ _ _ _ _ | exact Kd.V_nil _ _ _ _ _ | exact Kd.Q_nil _ _ _ _ _ | exact Kd.S_nil _ _ _ _ _, by repeat first | exact gB HB | refine below_set ?_ GE265.out | refine below_set ?_ GE266.out⟩
 ·rw [if_neg c10] at H
  have c10b0 : (t267 == 0) = false := beq_eq_false_iff_ne.mpr c10
  have c10b1 : (t267 != 0) = true := bne_iff_ne.mpr c10
  (first | rw [c10b0] | rw [c10b1] | (simp only [i64_w, i32_w]; rw [c10b0]) | skip)
  simp only [Option.some.injEq, Prod.mk.injEq] at H
  obtain ⟨rfl, rfl, rfl⟩ := H
  have hnb148 := NB266_265.out
  have hnc148 := NB265_266.out
  obtain ⟨hcz149_0, hcz149_1, hfz149_0, hfz149_1⟩ := gz2 BK266
  go_wp2
  refine bodyPost_ret (results_ct rfl _ _ gb266 25 #[.slice none 0 0, .slice none 0 0] (0, 0) _ rfl (by refine blk_put (cs := #[.slice none 0 0, .slice none 0 0]) ?_ 1 _ rfl; refine blk_put (cs := #[.slice none 0 0, .slice none 0 0]) ?_ 0 _ rfl; exact gK BK266) Try.underlying25 rfl (by kernel_rfl)) rfl ?_
  exact ⟨_, _, rfl, by first | exact Kd.R_nil _ _ _ _ _ | exact Kd.N_nil _ _ _ _ _ | exact Kd.V_nil _ _ _ _ _ | exact Kd.Q_nil _ _ _ _ _ | exact Kd.S_nil _ _ _ _ _, by first | exact Kd.R_nil _ _ _ _ _ | exact Kd.N_nil _ _ _ _ _ | exact Kd.V_nil _ _ _ _ _ | exact Kd.Q_nil _ _ _ _ _ | exact Kd.S_nil _ _ _ _ _, by repeat first | exact gB HB | refine below_set ?_ GE265.out | refine below_set ?_ GE266.out⟩
def slices_Max_int_int.l0 : Nat → List Int → Int → Int → Option (Int)
 | 0, _, _, _ => none
 | k + 1, x0, x3, x4 => if x4 < (x0.length : Int) then (if 0 ≤ x4 then (slices_Max_int_int.l0 k x0 (mx x3 (rd x0 x4)) (wrap64 (x4 + 1))) else (none)) else (some x3)
def slices_Max_int_int.f (k : Nat) (l0 : List Int) : Option (Int) := if (l0.length : Int) < 1 then (none) else (if 0 < (l0.length : Int) then (slices_Max_int_int.l0 k l0 (rd l0 0) 1) else (none))
theorem slices_Max_int_int.mono_l : ∀ k, (∀ y0 y1 y2, LeO (slices_Max_int_int.l0 k y0 y1 y2) (slices_Max_int_int.l0 (k + 1) y0 y1 y2))
 | 0 => fun _ _ _ r h => by simp [slices_Max_int_int.l0] at h
 | k + 1 => by
  have ih0 := slices_Max_int_int.mono_l k
  ·intro y0 y1 y2
   unfold slices_Max_int_int.l0
   repeat' first
   | (with_reducible exact ih0 _ _ _)
   | (with_reducible exact LeO.refl _)
   | (with_reducible exact LeO.none _)
   | (with_reducible refine LeO.ite ?_ ?_)
   | (with_reducible refine LeO.bind ?_ (fun _ => ?_))
theorem slices_Max_int_int.mono : ∀ a0 k, LeO (slices_Max_int_int.f k a0) (slices_Max_int_int.f (k + 1) a0) := by
 intro a0 k
 have ih0 := slices_Max_int_int.mono_l k
 unfold slices_Max_int_int.f
 repeat' first
   | (with_reducible exact ih0 _ _ _)
   | (with_reducible exact LeO.refl _)
   | (with_reducible exact LeO.none _)
   | (with_reducible refine LeO.ite ?_ ?_)
   | (with_reducible refine LeO.bind ?_ (fun _ => ?_))
set_option maxHeartbeats 8000000 in
set_option maxRecDepth 100000 in
theorem slices_Max_int_int.calls (k : Nat) (A0 : Option Addr) (c0 : Nat) (l0 : List Int) (r : Int) (w : World) (hr0 : Kd.C (Kd.int .i64) w A0 l0.length l0) (hc0 : l0.length ≤ c0) (h : slices_Max_int_int.f k l0 = some r) :
  Calls Try.prog 52 #[.slice A0 l0.length c0] w fun e w' => e = .returned (.int .i64 r) ∧ Below w.heap.size w w' := by
 have HR0 := gA hr0
 have HC0 := gA hc0
 clear hr0 hc0
 have HB := gA (Below.refl w.heap.size w)
 have H : (if (l0.length : Int) < 1 then (none) else (if 0 < (l0.length : Int) then (slices_Max_int_int.l0 k l0 (rd l0 0) 1) else (none))) = some r := h
 clear h
 obtain ⟨c2, H⟩ := iN H
 have c2b0 := decide_eq_false c2
 have c2b1 : decide (l0.length < 1) = false := decide_eq_false (by omega)
 clear c2
 obtain ⟨c3, H⟩ := iS H
 have c3b0 := decide_eq_true c3
 have c3b1 : decide (0 < l0.length) = true := decide_eq_true (by omega)
 clear c3
 have H' := gA H
 clear H
 have p344 : 0 ≤ (0 : Int) := (by omega)
 have q344 : 0 < (l0.length : Int) := of_decide_eq_true (by assumption)
 obtain ⟨ad344, e344, hx344_0⟩ := Kd.at_int HR0.out 0 p344 q344
 cases e344
 have qi344 : (0 < l0.length) = True := eq_true (by omega)
 (try rw [show ((0 : Int)).toNat = 0 from rfl] at hx344_0)
 (try rw [Addr.add_zero'] at hx344_0)
 replace p344 := eq_true p344
 replace q344 := eq_true q344
 go_enter Try.func52, Try.ntmps52
 go_wp2
 go_loopg [3, 4] k (fun kq v3 v4 w' => ∃ (x3_1 : Int) (x4_1 : Int), v3 = .int .i64 x3_1 ∧ v4 = .int .i64 x4_1 ∧ Aside0 (slices_Max_int_int.l0 kq l0 x3_1 x4_1 = some r) ∧ Aside0 (kq ≤ k) ∧ Aside0 (Below w.heap.size w w'))
 case atStart => exact ⟨(rd l0 0), (1), (rfl), (rfl), H', ⟨Nat.le_refl _⟩, ⟨gB HB⟩⟩
 case round =>
  clear H'
  try clear c2
  try clear c2b0
  try clear c2b1
  try clear p2
  try clear c3
  try clear c3b0
  try clear c3b1
  try clear p3
  try clear q3
  try clear hx3
  try clear qi3
  try clear hx344_0
  try clear p344
  try clear q344
  obtain ⟨x3_1, x4_1, rfl, rfl, HA, HK1, HB⟩ := hrel
  cases gk with
  | zero => exact absurd HA.out (by simp [slices_Max_int_int.l0])
  | succ k1 =>
   have H := HA.out; clear HA
   simp only [slices_Max_int_int.l0] at H
   by_cases c4 : x4_1 < (l0.length : Int)
   ·rw [if_pos c4] at H
    have c4b0 := decide_eq_true c4
    clear c4
    obtain ⟨c5, H⟩ := iS H
    have c5b0 := decide_eq_true c5
    clear c5
    obtain ⟨ji6, hji6⟩ : ∃ j_ : Int, (mx x3_1 (rd l0 x4_1)) = j_ := ⟨_, rfl⟩
    replace H : (slices_Max_int_int.l0 k1 l0 ji6 (wrap64 (x4_1 + 1))) = some r := by first | (rw [hji6] at H; exact H) | (simp only [hji6] at H ⊢; exact H)
    have hji6_ : (if x3_1 < (rd l0 x4_1) then (rd l0 x4_1) else x3_1) = ji6 := hji6
    have H' := gA H
    clear H
    have p345 : 0 ≤ (x4_1 : Int) := of_decide_eq_true (by assumption)
    have q345 : x4_1 < (l0.length : Int) := of_decide_eq_true (by assumption)
    obtain ⟨ad345, e345, hx345_0⟩ := Kd.at_int HR0.out x4_1 p345 q345
    obtain rfl : ad344 = ad345 := (by injection e345)
    replace hx345_0 := (HB.out.cell (World.block_lt_of_cell? w _ hx345_0)).trans hx345_0
    replace p345 := eq_true p345
    replace q345 := eq_true q345
    go_wp2
    go_roundg k1
    case measure => have := HK1.out; omega
    case rel => exact ⟨(ji6), (wrap64 (x4_1 + 1)), (by first | rfl | (simp; done) | (simp only [← hji6] <;> (first | rfl | simp)) | (simp [*]; done)), (rfl), H', ⟨by have := HK1.out; omega⟩, ⟨gB HB⟩⟩
   ·rw [if_neg c4] at H
    have c4b0 := decide_eq_false c4
    clear c4
    obtain rfl := Option.some.inj H
    go_wp2
    go_ret
    exact ⟨rfl, gB HB⟩
end Go.Proofs.Ytiegcghapchimaa.P
