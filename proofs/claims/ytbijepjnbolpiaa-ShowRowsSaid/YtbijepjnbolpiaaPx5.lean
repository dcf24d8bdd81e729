/- Written by a program of this session: the functions that the laws reach, what each comes to, and each law as it is stated, for every input. No condition. -/
import Derived.Test.YtbijepjnbolpiaaPx0
import Derived.Test.YtbijepjnbolpiaaPx3
import Derived.Test.YtbijepjnbolpiaaPx4
namespace Go.Proofs.Ytbijepjnbolpiaa.P
open Go.RowKit Go.Proofs.YtbijepjnbolpiaaW.PrintWords Go.Proofs.YtbijepjnbolpiaaW.PrintLast Go.Proofs.YtbijepjnbolpiaaW.PrintMore
attribute [local go_sem] max2_int min2_int max_two min_two max_three min_three max_four min_four   -- for this text's walks alone
set_option linter.unusedVariables false
set_option linter.unusedSimpArgs false
mutual
def show_cell.f : Nat → Int → Int → Int → List (S25) → Option (ByteArray)
 | 0, _, _, _, _ => none
 | k + 1, a0, a1_0, a1_1, l1_2 => if a1_0 = 0 then ((show_minus.f a0).bind fun t195 => ((spell_Number.f a1_1 t195).bind fun t196 => (some t196))) else (if a1_0 = 1 then ((runes_Write.f (([a1_1] : List Int))).bind fun bt200 => (some (strOfNums bt200.1))) else (if 0 < (l1_2.length : Int) then ((show_array.f k a0 ((rd_T25 l1_2 0).f0) ((rd_T25 l1_2 0).f1)).bind fun t205 => (if 1 + t205.size ≤ 9223372036854775807 then (if ((⟨#[91]⟩ : ByteArray) ++ t205).size + 1 ≤ 9223372036854775807 then (some (((⟨#[91]⟩ : ByteArray) ++ t205) ++ (⟨#[93]⟩ : ByteArray))) else (none)) else (none))) else (none)))
def show_array.l0 : Nat → Int → List ByteArray → List (S40) → Int → Int → List Int → List (S40) → Option (ByteArray)
 | 0, _, _, _, _, _, _, _ => none
 | k + 1, x0, x5, x26, x27, x28, x207000, x207001 => if x28 < x27 then (if 0 ≤ x28 then (if x28 < (x26.length : Int) then ((show_cell.f k x0 ((rd_T40 x26 x28).f0) ((rd_T40 x26 x28).f1) ((rd_T40 x26 x28).f2)).bind fun t211 => (if x5.length < 8796093022208 then (show_array.l0 k x0 (x5 ++ [t211]) x26 x27 (wrap64 (x28 + 1)) x207000 x207001) else (none))) else (none)) else (none)) else ((show_signs.f k x207001).bind fun t215 => (if t215 = true then ((strings_Join.f x5 (⟨#[]⟩ : ByteArray)).bind fun t216 => (some t216)) else ((strings_Join.f x5 (⟨#[32]⟩ : ByteArray)).bind fun t217 => (some t217))))
def show_array.l1 : Nat → Int → List ByteArray → Int → Int → Int → List Int → List (S40) → Option (ByteArray)
 | 0, _, _, _, _, _, _, _ => none
 | k + 1, x0, x5, x8, x50, x51, x207000, x207001 => if x51 < x50 then (if x8 = 0 then (none) else (if 1 ≤ (x207000.length : Int) then (if 0 ≤ (wrap64 (x51 * (wrap64 ((x207001.length : Int) / x8)))) then (if (wrap64 (x51 * (wrap64 ((x207001.length : Int) / x8)))) ≤ (wrap64 ((wrap64 (x51 + 1)) * (wrap64 ((x207001.length : Int) / x8)))) then (if (wrap64 ((wrap64 (x51 + 1)) * (wrap64 ((x207001.length : Int) / x8)))) ≤ (x207001.length : Int) then ((show_array.f k x0 (x207000.drop 1) ((x207001.take ((wrap64 ((wrap64 (x51 + 1)) * (wrap64 ((x207001.length : Int) / x8)))) : Int).toNat).drop ((wrap64 (x51 * (wrap64 ((x207001.length : Int) / x8)))) : Int).toNat)).bind fun t224 => (if x5.length < 8796093022208 then (show_array.l1 k x0 (x5 ++ [t224]) x8 x50 (wrap64 (x51 + 1)) x207000 x207001) else (none))) else (none)) else (none)) else (none)) else (none))) else ((strings_Repeat.f (⟨#[10]⟩ : ByteArray) (wrap64 ((x207000.length : Int) - 1))).bind fun t228 => ((strings_Join.f x5 t228).bind fun t229 => (some t229)))
def show_array.f : Nat → Int → List Int → List (S40) → Option (ByteArray)
 | 0, _, _, _ => none
 | k + 1, a0, l1_0, l1_1 => if (l1_0.length : Int) = 0 then (if 0 < (l1_1.length : Int) then ((show_cell.f k a0 ((rd_T40 l1_1 0).f0) ((rd_T40 l1_1 0).f1) ((rd_T40 l1_1 0).f2)).bind fun t208 => (some t208)) else (none)) else (if (l1_0.length : Int) = 1 then (show_array.l0 k a0 ([] : List ByteArray) l1_1 (l1_1.length : Int) 0 l1_0 l1_1) else (if 0 < (l1_0.length : Int) then (show_array.l1 k a0 ([] : List ByteArray) (rd l1_0 0) (rd l1_0 0) 0 l1_0 l1_1) else (none)))
end
theorem scc20.mono_l : ∀ k, (∀ y0 y1 y2 y3, LeO (show_cell.f k y0 y1 y2 y3) (show_cell.f (k + 1) y0 y1 y2 y3)) ∧ (∀ y0 y1 y2, LeO (show_array.f k y0 y1 y2) (show_array.f (k + 1) y0 y1 y2)) ∧ (∀ y0 y1 y2 y3 y4 y5 y6, LeO (show_array.l0 k y0 y1 y2 y3 y4 y5 y6) (show_array.l0 (k + 1) y0 y1 y2 y3 y4 y5 y6)) ∧ (∀ y0 y1 y2 y3 y4 y5 y6, LeO (show_array.l1 k y0 y1 y2 y3 y4 y5 y6) (show_array.l1 (k + 1) y0 y1 y2 y3 y4 y5 y6))
 | 0 => ⟨fun _ _ _ _ r h => by simp [show_cell.f] at h, fun _ _ _ r h => by simp [show_array.f] at h, fun _ _ _ _ _ _ _ r h => by simp [show_array.l0] at h, fun _ _ _ _ _ _ _ r h => by simp [show_array.l1] at h⟩
 | k + 1 => by
  obtain ⟨ih0, ih1, ih2, ih3⟩ := scc20.mono_l k
  refine ⟨?_, ?_, ?_, ?_⟩
  ·intro y0 y1 y2 y3
   unfold show_cell.f
   repeat' first
   | (with_reducible exact ih0 _ _ _ _)
   | (with_reducible exact ih1 _ _ _)
   | (with_reducible exact ih2 _ _ _ _ _ _ _)
   | (with_reducible exact ih3 _ _ _ _ _ _ _)
   | (with_reducible exact show_signs.mono _ _)
   | (with_reducible exact LeO.refl _)
   | (with_reducible exact LeO.none _)
   | (with_reducible refine LeO.ite ?_ ?_)
   | (with_reducible refine LeO.bind ?_ (fun _ => ?_))




   | exact show_signs.mono _ _



  ·intro y0 y1 y2
   unfold show_array.f
   repeat' first
   | (with_reducible exact ih0 _ _ _ _)
   | (with_reducible exact ih1 _ _ _)
   | (with_reducible exact ih2 _ _ _ _ _ _ _)
   | (with_reducible exact ih3 _ _ _ _ _ _ _)
   | (with_reducible exact show_signs.mono _ _)
   | (with_reducible exact LeO.refl _)
   | (with_reducible exact LeO.none _)
   | (with_reducible refine LeO.ite ?_ ?_)
   | (with_reducible refine LeO.bind ?_ (fun _ => ?_))




   | exact show_signs.mono _ _



  ·intro y0 y1 y2 y3 y4 y5 y6
   unfold show_array.l0
   repeat' first
   | (with_reducible exact ih0 _ _ _ _)
   | (with_reducible exact ih1 _ _ _)
   | (with_reducible exact ih2 _ _ _ _ _ _ _)
   | (with_reducible exact ih3 _ _ _ _ _ _ _)
   | (with_reducible exact show_signs.mono _ _)
   | (with_reducible exact LeO.refl _)
   | (with_reducible exact LeO.none _)
   | (with_reducible refine LeO.ite ?_ ?_)
   | (with_reducible refine LeO.bind ?_ (fun _ => ?_))




   | exact show_signs.mono _ _



  ·intro y0 y1 y2 y3 y4 y5 y6
   unfold show_array.l1
   repeat' first
   | (with_reducible exact ih0 _ _ _ _)
   | (with_reducible exact ih1 _ _ _)
   | (with_reducible exact ih2 _ _ _ _ _ _ _)
   | (with_reducible exact ih3 _ _ _ _ _ _ _)
   | (with_reducible exact show_signs.mono _ _)
   | (with_reducible exact LeO.refl _)
   | (with_reducible exact LeO.none _)
   | (with_reducible refine LeO.ite ?_ ?_)
   | (with_reducible refine LeO.bind ?_ (fun _ => ?_))




   | exact show_signs.mono _ _
theorem show_cell.mono : ∀ a0 a1 a2 a3 k, LeO (show_cell.f k a0 a1 a2 a3) (show_cell.f (k + 1) a0 a1 a2 a3) := by
 intro a0 a1 a2 a3 k
 obtain ⟨ih0, ih1, ih2, ih3⟩ := scc20.mono_l k
 exact ih0 a0 a1 a2 a3
theorem show_array.mono : ∀ a0 a1 a2 k, LeO (show_array.f k a0 a1 a2) (show_array.f (k + 1) a0 a1 a2) := by
 intro a0 a1 a2 k
 obtain ⟨ih0, ih1, ih2, ih3⟩ := scc20.mono_l k
 exact ih1 a0 a1 a2
set_option maxHeartbeats 8000000 in
set_option maxRecDepth 100000 in
theorem show_cell.step (k : Nat) (ih : ∀ k_, k_ < k → ∀ (a0 : Int) (a1_0 : Int) (a1_1 : Int) (A1_2 : Option Addr) (c1_2 : Nat) (l1_2 : List (S25)) (r : ByteArray) (w : World) (hr1_2 : Kd.C k25 w A1_2 l1_2.length l1_2) (hc1_2 : l1_2.length ≤ c1_2) (h : show_cell.f k_ a0 a1_0 a1_1 l1_2 = some r),
  Calls Try.prog 20 #[.int .i64 a0, .agg #[.int .i64 a1_0, .int .i64 a1_1, .slice A1_2 l1_2.length c1_2]] w fun e w' => e = .returned (.string r) ∧ Below w.heap.size w w') (ih_show_array : ∀ k_, k_ < k → ∀ (a0 : Int) (A1_0 : Option Addr) (c1_0 : Nat) (l1_0 : List Int) (A1_1 : Option Addr) (c1_1 : Nat) (l1_1 : List (S40)) (r : ByteArray) (w : World) (hr1_0 : Kd.C (Kd.int .i64) w A1_0 l1_0.length l1_0) (hc1_0 : l1_0.length ≤ c1_0) (hr1_1 : Kd.C k40 w A1_1 l1_1.length l1_1) (hc1_1 : l1_1.length ≤ c1_1) (h : show_array.f k_ a0 l1_0 l1_1 = some r),
  Calls Try.prog 15 #[.int .i64 a0, .agg #[.slice A1_0 l1_0.length c1_0, .slice A1_1 l1_1.length c1_1]] w fun e w' => e = .returned (.string r) ∧ Below w.heap.size w w') : ∀ (a0 : Int) (a1_0 : Int) (a1_1 : Int) (A1_2 : Option Addr) (c1_2 : Nat) (l1_2 : List (S25)) (r : ByteArray) (w : World) (hr1_2 : Kd.C k25 w A1_2 l1_2.length l1_2) (hc1_2 : l1_2.length ≤ c1_2) (h : show_cell.f k a0 a1_0 a1_1 l1_2 = some r),
  Calls Try.prog 20 #[.int .i64 a0, .agg #[.int .i64 a1_0, .int .i64 a1_1, .slice A1_2 l1_2.length c1_2]] w fun e w' => e = .returned (.string r) ∧ Below w.heap.size w w' := by
 intro a0 a1_0 a1_1 A1_2 c1_2 l1_2 r w hr1_2 hc1_2 h
 cases k with
 | zero => exact absurd h (by simp [show_cell.f])
 | succ k =>
 simp only [show_cell.f] at h
 have hu40 := Try.underlying40
 have hu25 := Try.underlying25
 have HR1_2 := gA hr1_2
 have HC1_2 := gA hc1_2
 clear hr1_2 hc1_2
 have HB := gA (Below.refl w.heap.size w)
 have H : (if a1_0 = 0 then ((show_minus.f a0).bind fun t195 => ((spell_Number.f a1_1 t195).bind fun t196 => (some t196))) else (if a1_0 = 1 then ((runes_Write.f (([a1_1] : List Int))).bind fun bt200 => (some (strOfNums bt200.1))) else (if 0 < (l1_2.length : Int) then ((show_array.f k a0 ((rd_T25 l1_2 0).f0) ((rd_T25 l1_2 0).f1)).bind fun t205 => (if 1 + t205.size ≤ 9223372036854775807 then (if ((⟨#[91]⟩ : ByteArray) ++ t205).size + 1 ≤ 9223372036854775807 then (some (((⟨#[91]⟩ : ByteArray) ++ t205) ++ (⟨#[93]⟩ : ByteArray))) else (none)) else (none))) else (none)))) = some r := h
 clear h
 by_cases c3 : a1_0 = 0
 ·rw [if_pos c3] at H
  have c3b0 : (a1_0 == 0) = true := beq_iff_eq.mpr c3
  have c3b1 : (a1_0 != 0) = false := bne_eq_false_iff_eq.mpr c3
  clear c3
  replace H := Option.bind_eq_some_iff.mp H
  obtain ⟨t195, A40, H⟩ := H
  replace H : ((spell_Number.f a1_1 t195).bind fun t196 => (some t196)) = some r := H
  have A4 := gA A40
  clear A40
  replace H := Option.bind_eq_some_iff.mp H
  obtain ⟨t196, A50, H⟩ := H
  replace H : (some t196) = some r := H
  have A5 := gA A50
  clear A50
  obtain rfl := Option.some.inj H
  go_enter Try.func20, Try.ntmps20
  try go_wp2_with (first | ((with_reducible refine gate_dst (N := 3) rfl ?_); refine box_event ?hg (N := 3) ?hd (cs := #[.int .i64 a1_0, .int .i64 a1_1, .slice A1_2 l1_2.length c1_2]) (t := 40) ?hr ?_; (case hd => rfl); (case hg => rfl); (case hr => first | (go_simp; done) | (go_simp; rfl)); intro gb194 hg w6 hbox hb; have BK194 := gA (hbox); have GW194 := gA ((by rw [hg]; exact (below_size (gB HB)) : w.heap.size ≤ gb194)); have GE194 := gA ((by rw [hg]; exact (below_size (gB HB)) : w.heap.size ≤ gb194)); replace HB := gA (below_step (gB HB) hb); clear hb hbox hg; obtain ⟨hcz7_0, hcz7_1, hcz7_2, hfz7_0, hfz7_1, hfz7_2⟩ := gz3 BK194))
  replace BK194 := gA (blk_drew BK194.out); replace HB := gA (below_drew1 HB.out)
  refine start_ (n := 6) (S := fun w' => w'.cell? ⟨gb194, 0, none⟩ = some (.int .i64 a1_0) ∧ w'.cell? ⟨gb194, 1, none⟩ = some (.int .i64 a1_1) ∧ w'.cell? ⟨gb194, 2, none⟩ = some (.slice A1_2 l1_2.length c1_2)) (ds := []) #[false, false, false, false, false, false] (by kernel_rfl) rfl rfl ⟨(blk_cell BK194.out 0).trans rfl, (blk_cell BK194.out 1).trans rfl, (blk_cell BK194.out 2).trans rfl⟩ (fun hHeld => ?_)
  generalize w6.drew = w8 at BK194 HB hHeld ⊢
  refine pure_ (i := 0) (N := some 11) (v := ?_) (a' := ?_) #[true, false, false, false, false, false] rfl rfl (by kernel_rfl) (fun _ _ _ h => h) (Or.inl ⟨by rfl, ?_⟩) ?_ ?_; rotate_left
  ·intro w'; go_simp; with_reducible rfl
  rotate_left
  ·simp only [Act.put, List.setIfInBounds_toArray, List.set_cons_zero, List.set_cons_succ, i64_w, i32_w]; rfl
  refine pure_ (i := 2) (N := some 13) (v := ?_) (a' := ?_) #[true, false, true, false, false, false] rfl rfl (by kernel_rfl) (fun _ _ _ h => h) (Or.inl ⟨by rfl, ?_⟩) ?_ ?_; rotate_left
  ·intro w'; go_simp; with_reducible rfl
  rotate_left
  ·simp only [Act.put, List.setIfInBounds_toArray, List.set_cons_zero, List.set_cons_succ, i64_w, i32_w]; rfl
  refine take_ (i := 1) (N := some 12) (v := ?_) (a' := ?_) #[true, true, true, false, false, false] rfl rfl (by kernel_rfl) (fun _ _ _ h => h) (Or.inl ⟨by rfl, ?_⟩) hHeld ?_ ?_; rotate_left
  ·rintro w' ⟨s0, s1, s2⟩; go_simp; with_reducible rfl
  rotate_left
  ·simp only [Act.put, List.setIfInBounds_toArray, List.set_cons_zero, List.set_cons_succ, i64_w, i32_w]; rfl
  refine one_ (i := 3) (N := some 14) #[true, true, true, true, false, false] rfl rfl (by kernel_rfl) (by decide) (fun K hK => ?_)
  refine goes_ Try.func31 (by kernel_rfl) rfl #[.int .i64 a0] (by rfl) rfl rfl (by (try simp only [List.map_toArray, List.map_cons, List.map_nil]); first | done | rfl | (simp only [List.length_drop, List.length_take]; rfl)) ?_
  with_reducible refine (show_minus.calls a0 t195 _ A4.out).mono ?_
  rintro e w' ⟨rfl, ⟨nd, rfl⟩⟩
  refine ⟨_, rfl, ?_⟩
  refine hK.out _ _ ⟨(blk_cell BK194.out 0).trans rfl, (blk_cell BK194.out 1).trans rfl, (blk_cell BK194.out 2).trans rfl⟩ (fun hHeld => ?_); clear hK K
  refine norm_ (a' := ?_) ?_ ?_; rotate_left
  ·show Act.put _ (some 14) _ = _
   simp only [Act.put, List.setIfInBounds_toArray, List.set_cons_zero, List.set_cons_succ, i64_w, i32_w]; rfl
  refine one_ (i := 4) (N := some 15) #[true, true, true, true, true, false] rfl rfl (by kernel_rfl) (by decide) (fun K hK => ?_)
  refine goes_ Try.func30 (by kernel_rfl) rfl #[.int .i64 a1_1, .string t195] (by rfl) rfl rfl (by (try simp only [List.map_toArray, List.map_cons, List.map_nil]); first | done | rfl | (simp only [List.length_drop, List.length_take]; rfl)) ?_
  with_reducible refine (spell_Number.calls a1_1 t195 t196 _ A5.out).mono ?_
  rintro e w9 ⟨rfl, hb⟩
  refine ⟨_, rfl, ?_⟩
  replace BK194 := gA (blk_below (gK BK194) hb); replace HB := gA (below_step (gB HB) hb); (try clear hb)
  refine hK.out _ _ ⟨(blk_cell BK194.out 0).trans rfl, (blk_cell BK194.out 1).trans rfl, (blk_cell BK194.out 2).trans rfl⟩ (fun hHeld => ?_); clear hK K
  refine norm_ (a' := ?_) ?_ ?_; rotate_left
  ·show Act.put _ (some 15) _ = _
   simp only [Act.put, List.setIfInBounds_toArray, List.set_cons_zero, List.set_cons_succ, i64_w, i32_w]; rfl
  refine pure_ (i := 5) (N := some 4) (v := ?_) (a' := ?_) #[true, true, true, true, true, true] rfl rfl (by kernel_rfl) (fun _ _ _ h => h) (Or.inl ⟨by rfl, ?_⟩) ?_ ?_; rotate_left
  ·intro w'; go_simp; with_reducible rfl
  rotate_left
  ·simp only [Act.put, List.setIfInBounds_toArray, List.set_cons_zero, List.set_cons_succ, i64_w, i32_w]; rfl
  refine done_ (by kernel_rfl) ?_
  try go_wp2
  go_ret
  exact ⟨rfl, by repeat first | exact gB HB | refine below_set ?_ GE194.out⟩
 ·rw [if_neg c3] at H
  have c3b0 : (a1_0 == 0) = false := beq_eq_false_iff_ne.mpr c3
  have c3b1 : (a1_0 != 0) = true := bne_iff_ne.mpr c3
  by_cases c10 : a1_0 = 1
  ·rw [if_pos c10] at H
   have c10b0 : (a1_0 == 1) = true := beq_iff_eq.mpr c10
   have c10b1 : (a1_0 != 1) = false := bne_eq_false_iff_eq.mpr c10
   clear c10
   obtain ⟨y197, hy197⟩ : ∃ y_ : List Int, y_ = (([a1_1] : List Int)) := ⟨_, rfl⟩
   replace H : ((runes_Write.f y197).bind fun bt200 => (some (strOfNums bt200.1))) = some r := by first | (rw [hy197]; with_reducible exact H) | (have H2_ := (Option.bind_some _ _).symm.trans H; rw [hy197]; with_reducible exact H2_) | (have H2_ := (Option.bind_some _ _).symm.trans H; with_reducible exact H2_) | with_reducible exact H | (rw [hy197]; exact H) | exact H
   have Ny197 := gA hy197
   clear hy197
   replace H := Option.bind_eq_some_iff.mp H
   obtain ⟨⟨t200, t201⟩, A110, H⟩ := H
   replace H : (some (strOfNums t200)) = some r := H
   have A11 := gA A110
   clear A110
   obtain rfl := Option.some.inj H
   go_enter Try.func20, Try.ntmps20
   go_wp2_with (first | ((with_reducible refine gate_dst (N := 3) rfl ?_); refine box_event ?hg (N := 3) ?hd (cs := #[.int .i64 a1_0, .int .i64 a1_1, .slice A1_2 l1_2.length c1_2]) (t := 40) ?hr ?_; (case hd => rfl); (case hg => rfl); (case hr => first | (go_simp; done) | (go_simp; rfl)); intro gb194 hg w12 hbox hb; have BK194 := gA (hbox); have GW194 := gA ((by rw [hg]; exact (below_size (gB HB)) : w.heap.size ≤ gb194)); have GE194 := gA ((by rw [hg]; exact (below_size (gB HB)) : w.heap.size ≤ gb194)); replace HB := gA (below_step (gB HB) hb); clear hb hbox hg; obtain ⟨hcz13_0, hcz13_1, hcz13_2, hfz13_0, hfz13_1, hfz13_2⟩ := gz3 BK194) | ((with_reducible refine gate_dst (N := 21) rfl ?_); refine Kd.R_lit (Kd.int .i64) _ 2 ?hg (N := 21) ?hd (xs := ([a1_1] : List Int)) (inner := [.int .i64 a1_1]) (ok := fun _ => True) (okp := fun _ => True) ?hr ?hp (fun _ hk => hk) trivial (Below.refl _ _) (Nat.le_refl _) (by simp) ?_; (case hd => rfl); (case hg => rfl); (case hr => first | (go_simp; done) | (go_simp; rfl)); (case hp => exact (Reps.one (show Kd.M (Kd.int .i64) _ _ _ a1_1 [.int .i64 a1_1] from rfl) (Reps.none _ _))); intro v198 w14 ho15 hb hg_ hnew_; clear hg_ hnew_; (first | rw [← Ny197.out] at ho15 | (simp only [Int.reduceToNat] at ho15; rw [← Ny197.out] at ho15)); have HO199 := gA (Kd.R_lower ho15 (below_size (gB HB))); replace BK194 := gA (blk_below (gK BK194) hb); replace HB := gA (below_step (gB HB) hb); clear hb ho15; obtain ⟨Ao16, co16, eo16⟩ := Kd.R_slice HO199.out; subst eo16) | ((with_reducible refine gate_callee (f := 32) rfl ?_); refine goesL_ (some 22) rfl rfl Try.func32 (by kernel_rfl) rfl #[.slice Ao16 y197.length co16] rfl (by (try simp only [List.map_toArray, List.map_cons, List.map_nil]); first | done | rfl | (simp only [List.length_drop, List.length_take]; rfl)) ?_; (with_reducible refine (runes_Write.calls _ _ y197 t200 t201 _ ?side1 ?side2 A11.out).mono ?_); (case side1 => repeat (first | exact (Kd.R_reads' HO199.out).2.2 | (with_reducible refine Kd.C_alloc ?_ _) | (with_reducible refine Kd.C_drewN ?_ _) | (with_reducible refine Kd.C_drew ?_))); (case side2 => exact (Kd.R_reads' HO199.out).2.1); rintro e w17 ⟨v202, rfl, ho0, hb⟩; refine ⟨_, rfl, ?_⟩; replace HO199 := gA (Kd.R_below (gR HO199) hb); have HO203 := gA (Kd.R_lower ho0 (below_size (gB HB))); replace BK194 := gA (blk_below (gK BK194) hb); replace HB := gA (below_step (gB HB) hb); (try clear hb); (try clear ho0); have hcv18 := own_string (P := Try.prog) Try.underlying56 Try.underlying5 Try.underlying9 (Kd.own_of_R HO203.out)))
   go_ret
   exact ⟨rfl, by repeat first | exact gB HB | refine below_set ?_ GE194.out⟩
  ·rw [if_neg c10] at H
   have c10b0 : (a1_0 == 1) = false := beq_eq_false_iff_ne.mpr c10
   have c10b1 : (a1_0 != 1) = true := bne_iff_ne.mpr c10
   obtain ⟨c19, H⟩ := iS H
   have c19b0 := decide_eq_true c19
   have c19b1 : decide (0 < l1_2.length) = true := decide_eq_true (by omega)
   clear c19
   replace H := Option.bind_eq_some_iff.mp H
   obtain ⟨t205, A200, H⟩ := H
   replace H : (if 1 + t205.size ≤ 9223372036854775807 then (if ((⟨#[91]⟩ : ByteArray) ++ t205).size + 1 ≤ 9223372036854775807 then (some (((⟨#[91]⟩ : ByteArray) ++ t205) ++ (⟨#[93]⟩ : ByteArray))) else (none)) else (none)) = some r := H
   have A20 := gA A200
   clear A200
   obtain ⟨c21, H⟩ := iS H
   have c21b0 := eq_true c21
   have c21b1 := decide_eq_true c21
   try have c21b2 : (9223372036854775807 < 1 + t205.size) = False := eq_false (Nat.not_lt.2 c21)
   obtain ⟨c22, H⟩ := iS H
   have c22b0 := eq_true c22
   have c22b1 := decide_eq_true c22
   try have c22b2 : (9223372036854775807 < ((⟨#[91]⟩ : ByteArray) ++ t205).size + 1) = False := eq_false (Nat.not_lt.2 c22)
   try (have c22b2z := c22b2; simp only [ByteArray.size_append, show (⟨#[91]⟩ : ByteArray).size = 1 from rfl] at c22b2z)
   obtain rfl := Option.some.inj H
   go_enter Try.func20, Try.ntmps20
   go_wp2_with (first | ((with_reducible refine gate_dst (N := 3) rfl ?_); refine box_event ?hg (N := 3) ?hd (cs := #[.int .i64 a1_0, .int .i64 a1_1, .slice A1_2 l1_2.length c1_2]) (t := 40) ?hr ?_; (case hd => rfl); (case hg => rfl); (case hr => first | (go_simp; done) | (go_simp; rfl)); intro gb194 hg w23 hbox hb; have BK194 := gA (hbox); have GW194 := gA ((by rw [hg]; exact (below_size (gB HB)) : w.heap.size ≤ gb194)); have GE194 := gA ((by rw [hg]; exact (below_size (gB HB)) : w.heap.size ≤ gb194)); replace HB := gA (below_step (gB HB) hb); clear hb hbox hg; obtain ⟨hcz24_0, hcz24_1, hcz24_2, hfz24_0, hfz24_1, hfz24_2⟩ := gz3 BK194; have p204 : 0 ≤ (0 : Int) := (by omega); have q204 : 0 < (l1_2.length : Int) := of_decide_eq_true (by assumption); obtain ⟨ad204, A204_0, c204_0, A204_1, c204_1, e204, hx204_0, hx204_1, hl204_0, hi204_0, hl204_1, hi204_1⟩ := at_T25 HR1_2.out 0 p204 q204; cases e204; have qi204 : (0 < l1_2.length) = True := eq_true (by omega); (try rw [show ((0 : Int)).toNat = 0 from rfl] at hx204_0); (try rw [show 0 * 2 = 0 from rfl] at hx204_0); (try rw [Addr.add_zero'] at hx204_0); (try rw [show ((0 : Int)).toNat = 0 from rfl] at hx204_1); (try rw [show 0 * 2 = 0 from rfl] at hx204_1); (try rw [Addr.add_zero'] at hx204_1); replace hx204_0 := (HB.out.cell (World.block_lt_of_cell? w _ hx204_0)).trans hx204_0; replace hx204_1 := (HB.out.cell (World.block_lt_of_cell? w _ hx204_1)).trans hx204_1; have HR204_0 := gA hi204_0; have HC204_0 := gA hl204_0; clear hi204_0 hl204_0; have HR204_1 := gA hi204_1; have HC204_1 := gA hl204_1; clear hi204_1 hl204_1; replace p204 := eq_true p204; replace q204 := eq_true q204) | ((with_reducible refine gate_callee (f := 15) rfl ?_); refine goesL_ (some 32) rfl rfl Try.func15 (by kernel_rfl) rfl #[.int .i64 a0, .agg #[.slice A204_0 ((rd_T25 l1_2 0).f0).length c204_0, .slice A204_1 ((rd_T25 l1_2 0).f1).length c204_1]] rfl (by (try simp only [List.map_toArray, List.map_cons, List.map_nil]); first | done | rfl | (simp only [List.length_drop, List.length_take]; rfl)) ?_; (with_reducible refine (ih_show_array k (by omega) a0 _ _ ((rd_T25 l1_2 0).f0) _ _ ((rd_T25 l1_2 0).f1) t205 _ ?side1 ?side2 ?side3 ?side4 A20.out).mono ?_); (case side1 => exact gC HR204_0 HB); (case side2 => exact HC204_0.out); (case side3 => exact gC HR204_1 HB); (case side4 => exact HC204_1.out); rintro e w25 ⟨rfl, hb⟩; refine ⟨_, rfl, ?_⟩; replace BK194 := gA (blk_below (gK BK194) hb); replace HB := gA (below_step (gB HB) hb); (try clear hb)))
   go_ret
   exact ⟨rfl, by repeat first | exact gB HB | refine below_set ?_ GE194.out⟩
def show_array.T18 : Bool × List (List Nat × List Nat) := (true, [([], []), ([], []), ([], []), ([2], [2]), ([3], [3]), ([], []), ([5], [5]), ([], []), ([], []), ([7, 8], [7, 8]), ([], []), ([10], [10]), ([], []), ([11, 12], [11, 12]), ([6, 9, 13], [6, 9, 13]), ([4, 14], [4, 14]), ([1, 15], [1, 15]), ([16], [16]), ([0, 17, 16], [0, 17]), ([18, 18, 0, 1, 2, 3, 4, 5, 6, 7, 8, 9, 10, 11, 12, 13, 14, 15, 16, 17, 18], [0, 18])])
def show_array.B18 : List Nat := [0, 0, 0, 4, 12, 0, 32, 0, 0, 384, 0, 1024, 0, 7168, 16352, 32764, 65534, 131070, 262143, 524287]
theorem show_array.tab18 : rtab .any (opsOf Try.f15 18) = show_array.T18 := by kernel_rfl
theorem show_array.bits18 : waitsOk show_array.T18.2 show_array.B18 = true := by kernel_rfl
set_option maxHeartbeats 8000000 in
set_option maxRecDepth 100000 in
theorem show_array.step (k : Nat) (ih_show_cell : ∀ k_, k_ < k → ∀ (a0 : Int) (a1_0 : Int) (a1_1 : Int) (A1_2 : Option Addr) (c1_2 : Nat) (l1_2 : List (S25)) (r : ByteArray) (w : World) (hr1_2 : Kd.C k25 w A1_2 l1_2.length l1_2) (hc1_2 : l1_2.length ≤ c1_2) (h : show_cell.f k_ a0 a1_0 a1_1 l1_2 = some r),
  Calls Try.prog 20 #[.int .i64 a0, .agg #[.int .i64 a1_0, .int .i64 a1_1, .slice A1_2 l1_2.length c1_2]] w fun e w' => e = .returned (.string r) ∧ Below w.heap.size w w') (ih : ∀ k_, k_ < k → ∀ (a0 : Int) (A1_0 : Option Addr) (c1_0 : Nat) (l1_0 : List Int) (A1_1 : Option Addr) (c1_1 : Nat) (l1_1 : List (S40)) (r : ByteArray) (w : World) (hr1_0 : Kd.C (Kd.int .i64) w A1_0 l1_0.length l1_0) (hc1_0 : l1_0.length ≤ c1_0) (hr1_1 : Kd.C k40 w A1_1 l1_1.length l1_1) (hc1_1 : l1_1.length ≤ c1_1) (h : show_array.f k_ a0 l1_0 l1_1 = some r),
  Calls Try.prog 15 #[.int .i64 a0, .agg #[.slice A1_0 l1_0.length c1_0, .slice A1_1 l1_1.length c1_1]] w fun e w' => e = .returned (.string r) ∧ Below w.heap.size w w') : ∀ (a0 : Int) (A1_0 : Option Addr) (c1_0 : Nat) (l1_0 : List Int) (A1_1 : Option Addr) (c1_1 : Nat) (l1_1 : List (S40)) (r : ByteArray) (w : World) (hr1_0 : Kd.C (Kd.int .i64) w A1_0 l1_0.length l1_0) (hc1_0 : l1_0.length ≤ c1_0) (hr1_1 : Kd.C k40 w A1_1 l1_1.length l1_1) (hc1_1 : l1_1.length ≤ c1_1) (h : show_array.f k a0 l1_0 l1_1 = some r),
  Calls Try.prog 15 #[.int .i64 a0, .agg #[.slice A1_0 l1_0.length c1_0, .slice A1_1 l1_1.length c1_1]] w fun e w' => e = .returned (.string r) ∧ Below w.heap.size w w' := by
 intro a0 A1_0 c1_0 l1_0 A1_1 c1_1 l1_1 r w hr1_0 hc1_0 hr1_1 hc1_1 h
 cases k with
 | zero => exact absurd h (by simp [show_array.f])
 | succ k =>
 simp only [show_array.f] at h
 have hu25 := Try.underlying25
 have hu40 := Try.underlying40
 have HR1_0 := gA hr1_0
 have HC1_0 := gA hc1_0
 clear hr1_0 hc1_0
 have HR1_1 := gA hr1_1
 have HC1_1 := gA hc1_1
 clear hr1_1 hc1_1
 have HB := gA (Below.refl w.heap.size w)
 have H : (if (l1_0.length : Int) = 0 then (if 0 < (l1_1.length : Int) then ((show_cell.f k a0 ((rd_T40 l1_1 0).f0) ((rd_T40 l1_1 0).f1) ((rd_T40 l1_1 0).f2)).bind fun t208 => (some t208)) else (none)) else (if (l1_0.length : Int) = 1 then (show_array.l0 k a0 ([] : List ByteArray) l1_1 (l1_1.length : Int) 0 l1_0 l1_1) else (if 0 < (l1_0.length : Int) then (show_array.l1 k a0 ([] : List ByteArray) (rd l1_0 0) (rd l1_0 0) 0 l1_0 l1_1) else (none)))) = some r := h
 clear h
 by_cases c3 : (l1_0.length : Int) = 0
 ·rw [if_pos c3] at H
  have c3b0 : ((l1_0.length : Int) == 0) = true := beq_iff_eq.mpr c3
  have c3b1 : ((l1_0.length : Int) != 0) = false := bne_eq_false_iff_eq.mpr c3
  clear c3
  obtain ⟨c4, H⟩ := iS H
  have c4b0 := decide_eq_true c4
  have c4b1 : decide (0 < l1_1.length) = true := decide_eq_true (by omega)
  clear c4
  replace H := Option.bind_eq_some_iff.mp H
  obtain ⟨t208, A50, H⟩ := H
  replace H : (some t208) = some r := H
  have A5 := gA A50
  clear A50
  obtain rfl := Option.some.inj H
  go_enter Try.func15, Try.ntmps15
  go_wp2_with (first | ((with_reducible refine gate_dst (N := 3) rfl ?_); refine box_event ?hg (N := 3) ?hd (cs := #[.slice A1_0 l1_0.length c1_0, .slice A1_1 l1_1.length c1_1]) (t := 25) ?hr ?_; (case hd => rfl); (case hg => rfl); (case hr => first | (go_simp; done) | (go_simp; rfl)); intro gb206 hg w6 hbox hb; have BK206 := gA (hbox); have GW206 := gA ((by rw [hg]; exact (below_size (gB HB)) : w.heap.size ≤ gb206)); have GE206 := gA ((by rw [hg]; exact (below_size (gB HB)) : w.heap.size ≤ gb206)); replace HB := gA (below_step (gB HB) hb); clear hb hbox hg; obtain ⟨hcz7_0, hcz7_1, hfz7_0, hfz7_1⟩ := gz2 BK206; have p207 : 0 ≤ (0 : Int) := (by omega); have q207 : 0 < (l1_1.length : Int) := of_decide_eq_true (by assumption); obtain ⟨ad207, A207_2, c207_2, e207, hx207_0, hx207_1, hx207_2, hl207_2, hi207_2⟩ := at_T40 HR1_1.out 0 p207 q207; cases e207; have qi207 : (0 < l1_1.length) = True := eq_true (by omega); (try rw [show ((0 : Int)).toNat = 0 from rfl] at hx207_0); (try rw [show 0 * 3 = 0 from rfl] at hx207_0); (try rw [Addr.add_zero'] at hx207_0); (try rw [show ((0 : Int)).toNat = 0 from rfl] at hx207_1); (try rw [show 0 * 3 = 0 from rfl] at hx207_1); (try rw [Addr.add_zero'] at hx207_1); (try rw [show ((0 : Int)).toNat = 0 from rfl] at hx207_2); (try rw [show 0 * 3 = 0 from rfl] at hx207_2); (try rw [Addr.add_zero'] at hx207_2); replace hx207_0 := (HB.out.cell (World.block_lt_of_cell? w _ hx207_0)).trans hx207_0; replace hx207_1 := (HB.out.cell (World.block_lt_of_cell? w _ hx207_1)).trans hx207_1; replace hx207_2 := (HB.out.cell (World.block_lt_of_cell? w _ hx207_2)).trans hx207_2; have HR207_2 := gA hi207_2; have HC207_2 := gA hl207_2; clear hi207_2 hl207_2; replace p207 := eq_true p207; replace q207 := eq_true q207) | ((with_reducible refine gate_callee (f := 20) rfl ?_); refine goesL_ (some 20) rfl rfl Try.func20 (by kernel_rfl) rfl #[.int .i64 a0, .agg #[.int .i64 ((rd_T40 l1_1 0).f0), .int .i64 ((rd_T40 l1_1 0).f1), .slice A207_2 ((rd_T40 l1_1 0).f2).length c207_2]] rfl (by (try simp only [List.map_toArray, List.map_cons, List.map_nil]); first | done | rfl | (simp only [List.length_drop, List.length_take]; rfl)) ?_; (with_reducible refine (ih_show_cell k (by omega) a0 ((rd_T40 l1_1 0).f0) ((rd_T40 l1_1 0).f1) _ _ ((rd_T40 l1_1 0).f2) t208 _ ?side1 ?side2 A5.out).mono ?_); (case side1 => exact gC HR207_2 HB); (case side2 => exact HC207_2.out); rintro e w8 ⟨rfl, hb⟩; refine ⟨_, rfl, ?_⟩; replace BK206 := gA (blk_below (gK BK206) hb); replace HB := gA (below_step (gB HB) hb); (try clear hb)))
  go_ret
  exact ⟨rfl, by repeat first | exact gB HB | refine below_set ?_ GE206.out⟩
 ·rw [if_neg c3] at H
  have c3b0 : ((l1_0.length : Int) == 0) = false := beq_eq_false_iff_ne.mpr c3
  have c3b1 : ((l1_0.length : Int) != 0) = true := bne_iff_ne.mpr c3
  have c3b2 : ¬ (l1_0 = []) := fun h_ => c3 (by rw [h_]; rfl)
  by_cases c9 : (l1_0.length : Int) = 1
  ·rw [if_pos c9] at H
   have c9b0 : ((l1_0.length : Int) == 1) = true := beq_iff_eq.mpr c9
   have c9b1 : ((l1_0.length : Int) != 1) = false := bne_eq_false_iff_eq.mpr c9
   clear c9
   have H' := gA H
   clear H
   go_enter Try.func15, Try.ntmps15
   go_wp2_with (first | ((with_reducible refine gate_dst (N := 3) rfl ?_); refine box_event ?hg (N := 3) ?hd (cs := #[.slice A1_0 l1_0.length c1_0, .slice A1_1 l1_1.length c1_1]) (t := 25) ?hr ?_; (case hd => rfl); (case hg => rfl); (case hr => first | (go_simp; done) | (go_simp; rfl)); intro gb206 hg w10 hbox hb; have BK206 := gA (hbox); have GW206 := gA ((by rw [hg]; exact (below_size (gB HB)) : w.heap.size ≤ gb206)); have GE206 := gA ((by rw [hg]; exact (below_size (gB HB)) : w.heap.size ≤ gb206)); replace HB := gA (below_step (gB HB) hb); clear hb hbox hg; obtain ⟨hcz11_0, hcz11_1, hfz11_0, hfz11_1⟩ := gz2 BK206))
   go_loopg [5, 28] k (fun kq v5 v28 w' => ∃ (x5_1 : List ByteArray) (x28_1 : Int), v28 = .int .i64 x28_1 ∧ Aside0 (show_array.l0 kq a0 x5_1 l1_1 (l1_1.length : Int) x28_1 l1_0 l1_1 = some r) ∧ Aside0 (kq ≤ k) ∧ Aside0 (Kd.R Kd.string 9 w' w.heap.size (fun _ => True) v5 x5_1) ∧ Aside0 (w'.heap[gb206]? = some (.cells #[(.slice A1_0 l1_0.length c1_0), (.slice A1_1 l1_1.length c1_1)] 25 (0, 0))) ∧ Aside0 (Below w.heap.size w w'))
   case atStart => exact ⟨(([] : List ByteArray)), (0), (rfl), H', ⟨Nat.le_refl _⟩, ⟨by first | exact Kd.R_nil _ _ _ _ _ | exact Kd.N_nil _ _ _ _ _ | exact Kd.V_nil _ _ _ _ _ | exact Kd.Q_nil _ _ _ _ _ | exact Kd.S_nil _ _ _ _ _⟩, ⟨gK BK206⟩, ⟨by repeat first | exact gB HB | refine below_set ?_ GE206.out⟩⟩
   case round =>
    clear H'
    try clear c1
    try clear c2
    try clear p2
    try clear q2
    try clear hx2
    try clear qi2
    try clear c3
    try clear c3b0
    try clear c3b1
    try clear c3b2
    try clear c4
    try clear c4b0
    try clear c4b1
    try clear c9
    try clear c9b0
    try clear c9b1
    try clear hcz11_0
    try clear hcz11_1
    try clear hcz7_0
    try clear hcz7_1
    try clear hfz11_0
    try clear hfz11_1
    try clear hfz7_0
    try clear hfz7_1
    try clear hx207_0
    try clear hx207_1
    try clear hx207_2
    try clear p207
    try clear q207
    obtain ⟨x5_1, x28_1, rfl, HA, HK1, HO_5, BK206, HB⟩ := hrel
    cases gk with
    | zero => exact absurd HA.out (by simp [show_array.l0])
    | succ k1 =>
     have H := HA.out; clear HA
     simp only [show_array.l0] at H
     by_cases c12 : x28_1 < (l1_1.length : Int)
     ·rw [if_pos c12] at H
      have c12b0 := decide_eq_true c12
      clear c12
      obtain ⟨c13, H⟩ := iS H
      have c13b0 := decide_eq_true c13
      clear c13
      obtain ⟨c14, H⟩ := iS H
      have c14b0 := decide_eq_true c14
      clear c14
      replace H := Option.bind_eq_some_iff.mp H
      obtain ⟨t211, A150, H⟩ := H
      replace H : (if x5_1.length < 8796093022208 then (show_array.l0 k1 a0 (x5_1 ++ [t211]) l1_1 (l1_1.length : Int) (wrap64 (x28_1 + 1)) l1_0 l1_1) else (none)) = some r := H
      have A15 := gA A150
      clear A150
      obtain ⟨c16, H⟩ := iS H
      have LMc16 := gA c16
      clear c16
      obtain ⟨y212, hy212⟩ : ∃ y_ : List ByteArray, y_ = (x5_1 ++ [t211]) := ⟨_, rfl⟩
      replace H : (show_array.l0 k1 a0 y212 l1_1 (l1_1.length : Int) (wrap64 (x28_1 + 1)) l1_0 l1_1) = some r := by first | (rw [hy212]; with_reducible exact H) | (have H2_ := (Option.bind_some _ _).symm.trans H; rw [hy212]; with_reducible exact H2_) | (have H2_ := (Option.bind_some _ _).symm.trans H; with_reducible exact H2_) | with_reducible exact H | (rw [hy212]; exact H) | exact H
      have Ny212 := gA hy212
      clear hy212
      have H' := gA H
      clear H
      have p209 : 0 ≤ (x28_1 : Int) := of_decide_eq_true (by assumption)
      have q209 : x28_1 < (l1_1.length : Int) := of_decide_eq_true (by assumption)
      obtain ⟨ad209, A209_2, c209_2, e209, hx209_0, hx209_1, hx209_2, hl209_2, hi209_2⟩ := at_T40 HR1_1.out x28_1 p209 q209
      cases e209
      replace hx209_0 := (HB.out.cell (World.block_lt_of_cell? w _ hx209_0)).trans hx209_0
      replace hx209_1 := (HB.out.cell (World.block_lt_of_cell? w _ hx209_1)).trans hx209_1
      replace hx209_2 := (HB.out.cell (World.block_lt_of_cell? w _ hx209_2)).trans hx209_2
      have HR209_2 := gA hi209_2
      have HC209_2 := gA hl209_2
      clear hi209_2 hl209_2
      replace p209 := eq_true p209
      replace q209 := eq_true q209
      go_wp2_with (first | ((with_reducible refine gate_dst (N := 7) rfl ?_); refine box_event ?hg (N := 7) ?hd (cs := #[.int .i64 0, .int .i64 0, .slice none 0 0]) (t := 40) ?hr ?_; (case hd => rfl); (case hg => rfl); (case hr => first | (go_simp; done) | (go_simp; rfl)); intro gb210 hg w17 hbox hb; replace HO_5 := gA (Kd.R_below (gR HO_5) hb); have BK210 := gA (hbox); have GW210 := gA ((by rw [hg]; exact (below_size (by repeat first | exact gB HB | refine below_set ?_ GE206.out)) : w.heap.size ≤ gb210)); have GE210 := gA ((by rw [hg]; exact (below_size (by repeat first | exact gB HB | refine below_set ?_ GE206.out)) : w.heap.size ≤ gb210)); replace HB := gA (below_step (by repeat first | exact gB HB | refine below_set ?_ GE206.out) hb); have NB206_210 := gA ((by rw [hg]; exact Nat.ne_of_lt (blk_lt (gK BK206)) : gb206 ≠ gb210)); have NB210_206 := gA ((by rw [hg]; exact Nat.ne_of_gt (blk_lt (gK BK206)) : gb210 ≠ gb206)); replace BK206 := gA (blk_below (gK BK206) hb); clear hb hbox hg; have hnb18 := NB210_206.out; have hnc18 := NB206_210.out; obtain ⟨hcz19_0, hcz19_1, hcz19_2, hfz19_0, hfz19_1, hfz19_2⟩ := gz3 BK210) | ((with_reducible refine gate_callee (f := 20) rfl ?_); refine goesL_ (some 35) rfl rfl Try.func20 (by kernel_rfl) rfl #[.int .i64 a0, .agg #[.int .i64 ((rd_T40 l1_1 x28_1).f0), .int .i64 ((rd_T40 l1_1 x28_1).f1), .slice A209_2 ((rd_T40 l1_1 x28_1).f2).length c209_2]] rfl (by (try simp only [List.map_toArray, List.map_cons, List.map_nil]); first | done | rfl | (simp only [List.length_drop, List.length_take]; rfl)) ?_; (with_reducible refine (ih_show_cell k1 (by have := HK1.out; omega) a0 ((rd_T40 l1_1 x28_1).f0) ((rd_T40 l1_1 x28_1).f1) _ _ ((rd_T40 l1_1 x28_1).f2) t211 _ ?side1 ?side2 A15.out).mono ?_); (case side1 => exact Kd.C_below HR209_2.out (by repeat first | exact gB HB | refine below_set ?_ GE206.out | refine below_set ?_ GE210.out)); (case side2 => exact HC209_2.out); rintro e w20 ⟨rfl, hb⟩; refine ⟨_, rfl, ?_⟩; replace HO_5 := gA (Kd.R_below (by (with_reducible repeat (first | apply Kd.R_alloc | apply Kd.R_drewN | apply Kd.R_drew)); exact (Kd.R_mono (Kd.R_far (p := ⟨gb210, 2, none⟩) (Kd.R_far (p := ⟨gb210, 1, none⟩) (Kd.R_far (p := ⟨gb210, 0, none⟩) (Kd.R_types HO_5.out BK210.out (by decide)) (fun _ hk => hk.2) (.int .i64 ((rd_T40 l1_1 x28_1).f0))) (fun _ hk => hk.2) (.int .i64 ((rd_T40 l1_1 x28_1).f1))) (fun _ hk => hk.2) (.slice A209_2 ((rd_T40 l1_1 x28_1).f2).length c209_2)) (fun _ h_ => h_.1))) hb); replace BK206 := gA (blk_below (g := gb206) (o := .cells #[.slice A1_0 l1_0.length c1_0, .slice (some ad209) l1_1.length c1_1] 25 (0, 0)) (by refine blk_far ?_ NB206_210.out _; refine blk_far ?_ NB206_210.out _; refine blk_far ?_ NB206_210.out _; exact gK BK206) hb); replace BK210 := gA (blk_below (g := gb210) (o := .cells #[.int .i64 ((rd_T40 l1_1 x28_1).f0), .int .i64 ((rd_T40 l1_1 x28_1).f1), .slice A209_2 ((rd_T40 l1_1 x28_1).f2).length c209_2] 40 (0, 0)) (by refine blk_put (cs := #[.int .i64 ((rd_T40 l1_1 x28_1).f0), .int .i64 ((rd_T40 l1_1 x28_1).f1), .slice none 0 0]) ?_ 2 _ rfl; refine blk_put (cs := #[.int .i64 ((rd_T40 l1_1 x28_1).f0), .int .i64 0, .slice none 0 0]) ?_ 1 _ rfl; refine blk_put (cs := #[.int .i64 0, .int .i64 0, .slice none 0 0]) ?_ 0 _ rfl; exact gK BK210) hb); replace HB := gA (below_step (by repeat first | exact gB HB | refine below_set ?_ GE206.out | refine below_set ?_ GE210.out) hb); (try clear hb); (try clear hk)) | ((with_reducible refine gate_builtin (b := .append) (xs := #[.tmp 32, .tmp 36]) rfl ?_); at_builtin; refine Kd.R_append Kd.string (w0 := w) w.heap.size rfl (.tmp 32) (.tmp 36) 45 9 (.string ⟨#[]⟩) 16 rfl Try.underlying45 info9 rfl (by decide) (by omega) u5 x5_1 t211 [.string t211] (fun _ => True) (fun _ => False) rfl rfl ?aP (fun _ hk => hk.elim) ?aF ?aO ?aB ?aS ?aL ?_; (case aP => exact rfl); (case aB => exact (by repeat first | exact gB HB | refine below_set ?_ GE206.out | refine below_set ?_ GE210.out)); (case aF => exact (fun _ _ => trivial)); (case aO => exact (gR HO_5)); (case aS => exact (below_size (by repeat first | exact gB HB | refine below_set ?_ GE206.out | refine below_set ?_ GE210.out))); (case aL => have := LMc16.out; omega); intro v213 w21 ho hb hg hat; rw [← Ny212.out] at ho; replace BK206 := gA (blk_grown (gK BK206) hg (Kd.R_ne HO_5.out BK206.out (by decide))); replace BK210 := gA (blk_grown (gK BK210) hg (Kd.R_ne HO_5.out BK210.out (by decide))); replace HB := gA (hb); have HO214 := gA (ho); clear HO_5 ho hb hg hat))
      go_roundg k1
      case measure => have := HK1.out; omega
      case rel => exact ⟨(y212), (wrap64 (x28_1 + 1)), (rfl), H', ⟨by have := HK1.out; omega⟩, ⟨gR HO214⟩, ⟨gK BK206⟩, ⟨by repeat first | exact gB HB | refine below_set ?_ GE206.out | refine below_set ?_ GE210.out⟩⟩
     ·rw [if_neg c12] at H
      have c12b0 := decide_eq_false c12
      clear c12
      replace H := Option.bind_eq_some_iff.mp H
      obtain ⟨t215, A220, H⟩ := H
      replace H : (if t215 = true then ((strings_Join.f x5_1 (⟨#[]⟩ : ByteArray)).bind fun t216 => (some t216)) else ((strings_Join.f x5_1 (⟨#[32]⟩ : ByteArray)).bind fun t217 => (some t217))) = some r := H
      have A22 := gA A220
      clear A220
      by_cases c23 : t215 = true
      ·subst c23
       have H1 : ((strings_Join.f x5_1 (⟨#[]⟩ : ByteArray)).bind fun t216 => (some t216)) = some r := by rw [if_pos rfl] at H; exact H
       clear H; have H := H1; clear H1
       replace H := Option.bind_eq_some_iff.mp H
       obtain ⟨t216, A240, H⟩ := H
       replace H : (some t216) = some r := H
       have A24 := gA A240
       clear A240
       obtain rfl := Option.some.inj H
       obtain ⟨hcz25_0, hcz25_1, hfz25_0, hfz25_1⟩ := gz2 BK206
       go_wp2_with (first | ((with_reducible refine gate_callee (f := 21) rfl ?_); refine goesL_ (some 41) rfl rfl Try.func21 (by kernel_rfl) rfl #[.slice A1_1 l1_1.length c1_1] rfl (by (try simp only [List.map_toArray, List.map_cons, List.map_nil]); first | done | rfl | (simp only [List.length_drop, List.length_take]; rfl)) ?_; (with_reducible refine (show_signs.calls k1 _ _ l1_1 true _ ?side1 ?side2 A22.out).mono ?_); (case side1 => exact gC HR1_1 HB); (case side2 => exact HC1_1.out); rintro e w26 ⟨rfl, hb⟩; refine ⟨_, rfl, ?_⟩; replace HO_5 := gA (Kd.R_below (gR HO_5) hb); replace BK206 := gA (blk_below (gK BK206) hb); replace HB := gA (below_step (gB HB) hb); (try clear hb); obtain ⟨Ao27, co27, eo27⟩ := Kd.R_slice HO_5.out; subst eo27) | ((with_reducible refine gate_callee (f := 22) rfl ?_); refine goesL_ (some 43) rfl rfl Try.func22 (by kernel_rfl) rfl #[.slice Ao27 x5_1.length co27, .string (⟨#[]⟩ : ByteArray)] rfl (by (try simp only [List.map_toArray, List.map_cons, List.map_nil]); first | done | rfl | (simp only [List.length_drop, List.length_take]; rfl)) ?_; (with_reducible refine (strings_Join.calls _ _ x5_1 (⟨#[]⟩ : ByteArray) t216 _ ?side1 ?side2 A24.out).mono ?_); (case side1 => repeat (first | exact (Kd.R_reads' HO_5.out).2.2 | (with_reducible refine Kd.C_alloc ?_ _) | (with_reducible refine Kd.C_drewN ?_ _) | (with_reducible refine Kd.C_drew ?_))); (case side2 => exact (Kd.R_reads' HO_5.out).2.1); rintro e w28 ⟨rfl, hb⟩; refine ⟨_, rfl, ?_⟩; replace HO_5 := gA (Kd.R_below (gR HO_5) hb); replace BK206 := gA (blk_below (gK BK206) hb); replace HB := gA (below_step (gB HB) hb); (try clear hb)))
       go_ret
       exact ⟨rfl, by repeat first | exact gB HB | refine below_set ?_ GE206.out⟩
      ·replace c23 := Bool.eq_false_iff.mpr c23
       subst c23
       have H1 : ((strings_Join.f x5_1 (⟨#[32]⟩ : ByteArray)).bind fun t217 => (some t217)) = some r := by rw [if_neg (show ¬ (false = true) by decide)] at H; exact H
       clear H; have H := H1; clear H1
       replace H := Option.bind_eq_some_iff.mp H
       obtain ⟨t217, A290, H⟩ := H
       replace H : (some t217) = some r := H
       have A29 := gA A290
       clear A290
       obtain rfl := Option.some.inj H
       obtain ⟨hcz30_0, hcz30_1, hfz30_0, hfz30_1⟩ := gz2 BK206
       go_wp2_with (first | ((with_reducible refine gate_callee (f := 21) rfl ?_); refine goesL_ (some 41) rfl rfl Try.func21 (by kernel_rfl) rfl #[.slice A1_1 l1_1.length c1_1] rfl (by (try simp only [List.map_toArray, List.map_cons, List.map_nil]); first | done | rfl | (simp only [List.length_drop, List.length_take]; rfl)) ?_; (with_reducible refine (show_signs.calls k1 _ _ l1_1 false _ ?side1 ?side2 A22.out).mono ?_); (case side1 => exact gC HR1_1 HB); (case side2 => exact HC1_1.out); rintro e w31 ⟨rfl, hb⟩; refine ⟨_, rfl, ?_⟩; replace HO_5 := gA (Kd.R_below (gR HO_5) hb); replace BK206 := gA (blk_below (gK BK206) hb); replace HB := gA (below_step (gB HB) hb); (try clear hb); obtain ⟨Ao32, co32, eo32⟩ := Kd.R_slice HO_5.out; subst eo32) | ((with_reducible refine gate_callee (f := 22) rfl ?_); refine goesL_ (some 45) rfl rfl Try.func22 (by kernel_rfl) rfl #[.slice Ao32 x5_1.length co32, .string (⟨#[32]⟩ : ByteArray)] rfl (by (try simp only [List.map_toArray, List.map_cons, List.map_nil]); first | done | rfl | (simp only [List.length_drop, List.length_take]; rfl)) ?_; (with_reducible refine (strings_Join.calls _ _ x5_1 (⟨#[32]⟩ : ByteArray) t217 _ ?side1 ?side2 A29.out).mono ?_); (case side1 => repeat (first | exact (Kd.R_reads' HO_5.out).2.2 | (with_reducible refine Kd.C_alloc ?_ _) | (with_reducible refine Kd.C_drewN ?_ _) | (with_reducible refine Kd.C_drew ?_))); (case side2 => exact (Kd.R_reads' HO_5.out).2.1); rintro e w33 ⟨rfl, hb⟩; refine ⟨_, rfl, ?_⟩; replace HO_5 := gA (Kd.R_below (gR HO_5) hb); replace BK206 := gA (blk_below (gK BK206) hb); replace HB := gA (below_step (gB HB) hb); (try clear hb)))
       go_ret
       exact ⟨rfl, by repeat first | exact gB HB | refine below_set ?_ GE206.out⟩
  ·rw [if_neg c9] at H
   have c9b0 : ((l1_0.length : Int) == 1) = false := beq_eq_false_iff_ne.mpr c9
   have c9b1 : ((l1_0.length : Int) != 1) = true := bne_iff_ne.mpr c9
   obtain ⟨c34, H⟩ := iS H
   have c34b0 := decide_eq_true c34
   have c34b1 : decide (0 < l1_0.length) = true := decide_eq_true (by omega)
   clear c34
   have H' := gA H
   clear H
   go_enter Try.func15, Try.ntmps15
   go_wp2_with (first | ((with_reducible refine gate_dst (N := 3) rfl ?_); refine box_event ?hg (N := 3) ?hd (cs := #[.slice A1_0 l1_0.length c1_0, .slice A1_1 l1_1.length c1_1]) (t := 25) ?hr ?_; (case hd => rfl); (case hg => rfl); (case hr => first | (go_simp; done) | (go_simp; rfl)); intro gb206 hg w35 hbox hb; have BK206 := gA (hbox); have GW206 := gA ((by rw [hg]; exact (below_size (gB HB)) : w.heap.size ≤ gb206)); have GE206 := gA ((by rw [hg]; exact (below_size (gB HB)) : w.heap.size ≤ gb206)); replace HB := gA (below_step (gB HB) hb); clear hb hbox hg; obtain ⟨hcz36_0, hcz36_1, hfz36_0, hfz36_1⟩ := gz2 BK206; have p218 : 0 ≤ (0 : Int) := (by omega); have q218 : 0 < (l1_0.length : Int) := of_decide_eq_true (by assumption); obtain ⟨ad218, e218, hx218_0⟩ := Kd.at_int HR1_0.out 0 p218 q218; cases e218; have qi218 : (0 < l1_0.length) = True := eq_true (by omega); (try rw [show ((0 : Int)).toNat = 0 from rfl] at hx218_0); (try rw [Addr.add_zero'] at hx218_0); replace hx218_0 := (HB.out.cell (World.block_lt_of_cell? w _ hx218_0)).trans hx218_0; replace p218 := eq_true p218; replace q218 := eq_true q218))
   go_loopg [5, 51] k (fun kq v5 v51 w' => ∃ (x5_1 : List ByteArray) (x51_1 : Int), v51 = .int .i64 x51_1 ∧ Aside0 (show_array.l1 kq a0 x5_1 (rd l1_0 0) (rd l1_0 0) x51_1 l1_0 l1_1 = some r) ∧ Aside0 (kq ≤ k) ∧ Aside0 (Kd.R Kd.string 9 w' w.heap.size (fun _ => True) v5 x5_1) ∧ Aside0 (w'.heap[gb206]? = some (.cells #[(.slice (some ad218) l1_0.length c1_0), (.slice A1_1 l1_1.length c1_1)] 25 (0, 0))) ∧ Aside0 (Below w.heap.size w w'))
   case atStart => exact ⟨(([] : List ByteArray)), (0), (rfl), H', ⟨Nat.le_refl _⟩, ⟨by first | exact Kd.R_nil _ _ _ _ _ | exact Kd.N_nil _ _ _ _ _ | exact Kd.V_nil _ _ _ _ _ | exact Kd.Q_nil _ _ _ _ _ | exact Kd.S_nil _ _ _ _ _⟩, ⟨gK BK206⟩, ⟨by repeat first | exact gB HB | refine below_set ?_ GE206.out⟩⟩
   case round =>
    clear H'
    try clear c1
    try clear c2
    try clear p2
    try clear q2
    try clear hx2
    try clear qi2
    try clear c3
    try clear c3b0
    try clear c3b1
    try clear c3b2
    try clear c4
    try clear c4b0
    try clear c4b1
    try clear p6
    try clear c9
    try clear c9b0
    try clear c9b1
    try clear c12
    try clear c12b0
    try clear c13
    try clear c13b0
    try clear c14
    try clear c14b0
    try clear c15
    try clear c16
    try clear c18
    try clear c20
    try clear p20
    try clear q20
    try clear hx20
    try clear qi20
    try clear c21
    try clear p21
    try clear q21
    try clear hx21
    try clear qi21
    try clear c22
    try clear c23
    try clear c34
    try clear c34b0
    try clear c34b1
    try clear hcz11_0
    try clear hcz11_1
    try clear hcz19_0
    try clear hcz19_1
    try clear hcz19_2
    try clear hcz25_0
    try clear hcz25_1
    try clear hcz30_0
    try clear hcz30_1
    try clear hcz36_0
    try clear hcz36_1
    try clear hcz7_0
    try clear hcz7_1
    try clear hfz11_0
    try clear hfz11_1
    try clear hfz19_0
    try clear hfz19_1
    try clear hfz19_2
    try clear hfz25_0
    try clear hfz25_1
    try clear hfz30_0
    try clear hfz30_1
    try clear hfz36_0
    try clear hfz36_1
    try clear hfz7_0
    try clear hfz7_1
    try clear hx207_0
    try clear hx207_1
    try clear hx207_2
    try clear hx209_0
    try clear hx209_1
    try clear hx209_2
    try clear hx218_0
    try clear p2
    try clear p207
    try clear p209
    try clear p218
    try clear q2
    try clear q207
    try clear q209
    try clear q218
    obtain ⟨x5_1, x51_1, rfl, HA, HK1, HO_5, BK206, HB⟩ := hrel
    cases gk with
    | zero => exact absurd HA.out (by simp [show_array.l1])
    | succ k1 =>
     have H := HA.out; clear HA
     simp only [show_array.l1] at H
     by_cases c37 : x51_1 < (rd l1_0 0)
     ·rw [if_pos c37] at H
      have c37b0 := decide_eq_true c37
      clear c37
      obtain ⟨c38, H⟩ := iN H
      have c38b0 : ((rd l1_0 0) == 0) = false := beq_eq_false_iff_ne.mpr c38
      have c38b1 : ((rd l1_0 0) != 0) = true := bne_iff_ne.mpr c38
      obtain ⟨c39, H⟩ := iS H
      have c39b0 := eq_true c39
      have c39b1 := decide_eq_true c39
      clear c39
      obtain ⟨ji40, hji40⟩ : ∃ j_ : Int, (wrap64 (x51_1 * (wrap64 ((l1_1.length : Int) / (rd l1_0 0))))) = j_ := ⟨_, rfl⟩
      replace H : (if 0 ≤ (ji40) then (if (ji40) ≤ (wrap64 ((wrap64 (x51_1 + 1)) * (wrap64 ((l1_1.length : Int) / (rd l1_0 0))))) then (if (wrap64 ((wrap64 (x51_1 + 1)) * (wrap64 ((l1_1.length : Int) / (rd l1_0 0))))) ≤ (l1_1.length : Int) then ((show_array.f k1 a0 (l1_0.drop 1) ((l1_1.take ((wrap64 ((wrap64 (x51_1 + 1)) * (wrap64 ((l1_1.length : Int) / (rd l1_0 0))))) : Int).toNat).drop ((ji40) : Int).toNat)).bind fun t224 => (if x5_1.length < 8796093022208 then (show_array.l1 k1 a0 (x5_1 ++ [t224]) (rd l1_0 0) (rd l1_0 0) (wrap64 (x51_1 + 1)) l1_0 l1_1) else (none))) else (none)) else (none)) else (none)) = some r := by first | (rw [hji40] at H; exact H) | (simp only [hji40] at H ⊢; exact H)
      have hji40w : (IntKind.i64.wrap (x51_1 * (wrap64 ((l1_1.length : Int) / (rd l1_0 0))))) = ji40 := (i64_w _).trans hji40
      obtain ⟨c41, H⟩ := iS H
      have c41b0 := eq_true c41
      have c41b1 := decide_eq_true c41
      clear c41
      obtain ⟨c42, H⟩ := iS H
      have c42b0 := eq_true c42
      have c42b1 := decide_eq_true c42
      obtain ⟨c43, H⟩ := iS H
      have c43b0 := eq_true c43
      have c43b1 := decide_eq_true c43
      obtain ⟨y220, hy220⟩ : ∃ y_ : List (S40), y_ = ((l1_1.take ((wrap64 ((wrap64 (x51_1 + 1)) * (wrap64 ((l1_1.length : Int) / (rd l1_0 0))))) : Int).toNat).drop ((ji40) : Int).toNat) := ⟨_, rfl⟩
      replace H : ((show_array.f k1 a0 (l1_0.drop 1) y220).bind fun t224 => (if x5_1.length < 8796093022208 then (show_array.l1 k1 a0 (x5_1 ++ [t224]) (rd l1_0 0) (rd l1_0 0) (wrap64 (x51_1 + 1)) l1_0 l1_1) else (none))) = some r := by first | (rw [hy220]; with_reducible exact H) | (have H2_ := (Option.bind_some _ _).symm.trans H; rw [hy220]; with_reducible exact H2_) | (have H2_ := (Option.bind_some _ _).symm.trans H; with_reducible exact H2_) | with_reducible exact H | (rw [hy220]; exact H) | exact H
      have Ny220 := gA hy220
      clear hy220
      replace H := Option.bind_eq_some_iff.mp H
      obtain ⟨t224, A440, H⟩ := H
      replace H : (if x5_1.length < 8796093022208 then (show_array.l1 k1 a0 (x5_1 ++ [t224]) (rd l1_0 0) (rd l1_0 0) (wrap64 (x51_1 + 1)) l1_0 l1_1) else (none)) = some r := H
      have A44 := gA A440
      clear A440
      obtain ⟨c45, H⟩ := iS H
      have LMc45 := gA c45
      clear c45
      obtain ⟨y225, hy225⟩ : ∃ y_ : List ByteArray, y_ = (x5_1 ++ [t224]) := ⟨_, rfl⟩
      replace H : (show_array.l1 k1 a0 y225 (rd l1_0 0) (rd l1_0 0) (wrap64 (x51_1 + 1)) l1_0 l1_1) = some r := by first | (rw [hy225]; with_reducible exact H) | (have H2_ := (Option.bind_some _ _).symm.trans H; rw [hy225]; with_reducible exact H2_) | (have H2_ := (Option.bind_some _ _).symm.trans H; with_reducible exact H2_) | with_reducible exact H | (rw [hy225]; exact H) | exact H
      have Ny225 := gA hy225
      clear hy225
      have H' := gA H
      clear H
      obtain ⟨hcz46_0, hcz46_1, hfz46_0, hfz46_1⟩ := gz2 BK206
      try go_wp2
      replace HO_5 := gA (Kd.R_drew HO_5.out); replace BK206 := gA (blk_drew BK206.out); replace HB := gA (below_drew1 HB.out)
      obtain ⟨i048, hi048, _, hsz48, _⟩ := info_parts info3
      obtain ⟨A48, hcut48, hA48, hC48⟩ := print_drop_of (P := Try.prog) (Value.int .i64) 0 22 3 .i64 Try.underlying22 hi048 hsz48 (some ad218) c1_0 l1_0 1 (by omega) (of_decide_eq_true (by assumption)) HC1_0.out
      have HR219 := gA (Kd.C_of_reads (h1 := fun _ => rfl) (hA48 _ (Kd.reads_of_C HR1_0.out)))
      have HC219 := gA hC48
      clear hA48 hC48 hi048 hsz48
      have q49 : ((wrap64 ((wrap64 (x51_1 + 1)) * (wrap64 ((l1_1.length : Int) / (rd l1_0 0))))) : Int) ≤ ((l1_1.length : Int) : Int) := of_decide_eq_true (by assumption)
      obtain ⟨i049, hi049, _, hsz49, _⟩ := info_parts info40
      have hroom49 : l1_1.length ≤ c1_1 := HC1_1.out
      have hC49 : Kd.C k40 _ A1_1 l1_1.length l1_1 := HR1_1.out
      have ql49 : ((ji40) : Int) ≤ ((wrap64 ((wrap64 (x51_1 + 1)) * (wrap64 ((l1_1.length : Int) / (rd l1_0 0))))) : Int) := of_decide_eq_true (by assumption)
      have q049 : (0 : Int) ≤ ((ji40) : Int) := of_decide_eq_true (by assumption)
      have hcut49 := cut_mid (P := Try.prog) 23 40 .i64 .i64 Try.underlying23 hi049 3 hsz49 A1_1 l1_1.length c1_1 (ji40) (wrap64 ((wrap64 (x51_1 + 1)) * (wrap64 ((l1_1.length : Int) / (rd l1_0 0))))) q049 ql49 q49 hroom49
      have hr49 := Kd.C_mid (lo := ((ji40) : Int).toNat) (hi := ((wrap64 ((wrap64 (x51_1 + 1)) * (wrap64 ((l1_1.length : Int) / (rd l1_0 0))))) : Int).toNat) (c := c1_1) hC49 (by omega) (by omega) hroom49
      obtain ⟨A49, hA49⟩ : ∃ A1, A1 = (if c1_1 = ((ji40) : Int).toNat then A1_1 else (A1_1 : Option Addr).map (·.add (((ji40) : Int).toNat * 3))) := ⟨_, rfl⟩
      obtain ⟨c49, hc49⟩ : ∃ c1, c1 = c1_1 - ((ji40) : Int).toNat := ⟨_, rfl⟩
      have hy49 : y220.length = ((wrap64 ((wrap64 (x51_1 + 1)) * (wrap64 ((l1_1.length : Int) / (rd l1_0 0))))) : Int).toNat - ((ji40) : Int).toNat := (by rw [Ny220.out, List.length_drop, List.length_take] <;> omega)
      rw [show ((l1_1).take ((wrap64 ((wrap64 (x51_1 + 1)) * (wrap64 ((l1_1.length : Int) / (rd l1_0 0))))) : Int).toNat).drop ((ji40) : Int).toNat = y220 from Ny220.out.symm] at hr49
      replace hr49 : Kd.C k40 _ A49 y220.length y220 := (by rw [hA49]; exact hr49)
      rw [← hy49, ← hA49, ← hc49] at hcut49
      have HR223 := gA hr49
      have HC223 := gA (show y220.length ≤ c49 from by rw [hy49, hc49]; exact Nat.sub_le_sub_right (Nat.le_trans (by omega) hroom49) _)
      clear hr49 hC49 hroom49 hi049 hsz49 hc49
      have KY49 := gA hy49
      have KA49 := gA hA49
      clear hy49 hA49
      replace q49 := eq_true q49
      refine start_ (n := 20) (S := fun w' => w'.cell? ⟨gb206, 0, none⟩ = some (.slice (some ad218) l1_0.length c1_0) ∧ w'.cell? ⟨gb206, 1, none⟩ = some (.slice A1_1 l1_1.length c1_1)) (ds := []) #[false, false, false, false, false, false, false, false, false, false, false, false, false, false, false, false, false, false, false, false] (by kernel_rfl) rfl rfl ⟨(blk_cell BK206.out 0).trans rfl, (blk_cell BK206.out 1).trans rfl⟩ (fun hHeld => ?_); refine with_tabW show_array.tab18 show_array.bits18 (fun HT_ HW_ => ?_)
      generalize wr.drew = w47 at HO_5 BK206 HB HR219 HR223 hHeld ⊢
      refine pure_ (i := 0) (N := some 59) (v := ?_) (a' := ?_) #[true, false, false, false, false, false, false, false, false, false, false, false, false, false, false, false, false, false, false, false] rfl rfl (any_of HT_.out (by kernel_rfl)) (fun _ _ _ h => h) (Or.inl ⟨by rfl, ?_⟩) ?_ ?_; rotate_left
      ·intro w'; go_simp; with_reducible rfl
      rotate_left
      ·simp only [Act.put, List.setIfInBounds_toArray, List.set_cons_zero, List.set_cons_succ, i64_w, i32_w]; rfl
      refine pure_ (i := 1) (N := some 60) (v := ?_) (a' := ?_) #[true, true, false, false, false, false, false, false, false, false, false, false, false, false, false, false, false, false, false, false] rfl rfl (any_of HT_.out (by kernel_rfl)) (fun _ _ _ h => h) (Or.inl ⟨by rfl, ?_⟩) ?_ ?_; rotate_left
      ·intro w'; go_simp; with_reducible rfl
      rotate_left
      ·simp only [Act.put, List.setIfInBounds_toArray, List.set_cons_zero, List.set_cons_succ, i64_w, i32_w]; rfl
      refine pure_ (i := 2) (N := some 61) (v := ?_) (a' := ?_) #[true, true, true, false, false, false, false, false, false, false, false, false, false, false, false, false, false, false, false, false] rfl rfl (any_of HT_.out (by kernel_rfl)) (fun _ _ _ h => h) (Or.inl ⟨by rfl, ?_⟩) ?_ ?_; rotate_left
      ·intro w'; go_simp; with_reducible rfl
      rotate_left
      ·simp only [Act.put, List.setIfInBounds_toArray, List.set_cons_zero, List.set_cons_succ, i64_w, i32_w]; rfl
      refine pure_ (i := 5) (N := some 64) (v := ?_) (a' := ?_) #[true, true, true, false, false, true, false, false, false, false, false, false, false, false, false, false, false, false, false, false] rfl rfl (any_of HT_.out (by kernel_rfl)) (fun _ _ _ h => h) (Or.inl ⟨by rfl, ?_⟩) ?_ ?_; rotate_left
      ·intro w'; go_simp; with_reducible rfl
      rotate_left
      ·simp only [Act.put, List.setIfInBounds_toArray, List.set_cons_zero, List.set_cons_succ, i64_w, i32_w]; rfl
      refine pure_ (i := 7) (N := some 66) (v := ?_) (a' := ?_) #[true, true, true, false, false, true, false, true, false, false, false, false, false, false, false, false, false, false, false, false] rfl rfl (any_of HT_.out (by kernel_rfl)) (fun _ _ _ h => h) (Or.inl ⟨by rfl, ?_⟩) ?_ ?_; rotate_left
      ·intro w'; go_simp; with_reducible rfl
      rotate_left
      ·simp only [Act.put, List.setIfInBounds_toArray, List.set_cons_zero, List.set_cons_succ, i64_w, i32_w]; rfl
      refine pure_ (i := 8) (N := some 67) (v := ?_) (a' := ?_) #[true, true, true, false, false, true, false, true, true, false, false, false, false, false, false, false, false, false, false, false] rfl rfl (any_of HT_.out (by kernel_rfl)) (fun _ _ _ h => h) (Or.inl ⟨by rfl, ?_⟩) ?_ ?_; rotate_left
      ·intro w'; go_simp; with_reducible rfl
      rotate_left
      ·simp only [Act.put, List.setIfInBounds_toArray, List.set_cons_zero, List.set_cons_succ, i64_w, i32_w]; rfl
      refine pure_ (i := 9) (N := some 68) (v := ?_) (a' := ?_) #[true, true, true, false, false, true, false, true, true, true, false, false, false, false, false, false, false, false, false, false] rfl rfl (any_of HT_.out (by kernel_rfl)) (fun _ _ _ h => h) (Or.inl ⟨by rfl, ?_⟩) ?_ ?_; rotate_left
      ·intro w'; go_simp; with_reducible rfl
      rotate_left
      ·simp only [Act.put, List.setIfInBounds_toArray, List.set_cons_zero, List.set_cons_succ, i64_w, i32_w]; rfl
      refine pure_ (i := 10) (N := some 69) (v := ?_) (a' := ?_) #[true, true, true, false, false, true, false, true, true, true, true, false, false, false, false, false, false, false, false, false] rfl rfl (any_of HT_.out (by kernel_rfl)) (fun _ _ _ h => h) (Or.inl ⟨by rfl, ?_⟩) ?_ ?_; rotate_left
      ·intro w'; go_simp; with_reducible rfl
      rotate_left
      ·simp only [Act.put, List.setIfInBounds_toArray, List.set_cons_zero, List.set_cons_succ, i64_w, i32_w]; rfl
      refine pure_ (i := 11) (N := some 70) (v := ?_) (a' := ?_) #[true, true, true, false, false, true, false, true, true, true, true, true, false, false, false, false, false, false, false, false] rfl rfl (any_of HT_.out (by kernel_rfl)) (fun _ _ _ h => h) (Or.inl ⟨by rfl, ?_⟩) ?_ ?_; rotate_left
      ·intro w'; go_simp; with_reducible rfl
      rotate_left
      ·simp only [Act.put, List.setIfInBounds_toArray, List.set_cons_zero, List.set_cons_succ, i64_w, i32_w]; rfl
      refine pure_ (i := 12) (N := some 71) (v := ?_) (a' := ?_) #[true, true, true, false, false, true, false, true, true, true, true, true, true, false, false, false, false, false, false, false] rfl rfl (any_of HT_.out (by kernel_rfl)) (fun _ _ _ h => h) (Or.inl ⟨by rfl, ?_⟩) ?_ ?_; rotate_left
      ·intro w'; go_simp; with_reducible rfl
      rotate_left
      ·simp only [Act.put, List.setIfInBounds_toArray, List.set_cons_zero, List.set_cons_succ, i64_w, i32_w]; rfl
      refine pure_ (i := 13) (N := some 72) (v := ?_) (a' := ?_) #[true, true, true, false, false, true, false, true, true, true, true, true, true, true, false, false, false, false, false, false] rfl rfl (any_of HT_.out (by kernel_rfl)) (fun _ _ _ h => h) (Or.inl ⟨by rfl, ?_⟩) ?_ ?_; rotate_left
      ·intro w'; go_simp; with_reducible rfl
      rotate_left
      ·simp only [Act.put, List.setIfInBounds_toArray, List.set_cons_zero, List.set_cons_succ, i64_w, i32_w]; rfl
      refine take_ (i := 3) (N := some 62) (v := ?_) (a' := ?_) #[true, true, true, true, false, true, false, true, true, true, true, true, true, true, false, false, false, false, false, false] rfl rfl (take_ofW HT_.out HW_.out (by kernel_rfl)) (fun _ _ _ h => h) (Or.inl ⟨by rfl, ?_⟩) hHeld ?_ ?_; rotate_left
      ·rintro w' ⟨s0, s1⟩; go_simp; with_reducible rfl
      rotate_left
      ·simp only [Act.put, List.setIfInBounds_toArray, List.set_cons_zero, List.set_cons_succ, i64_w, i32_w]; rfl
      refine pure_ (i := 4) (N := some 63) (v := ?_) (a' := ?_) #[true, true, true, true, true, true, false, true, true, true, true, true, true, true, false, false, false, false, false, false] rfl rfl (any_of HT_.out (by kernel_rfl)) (fun _ _ _ h => h) (Or.inl ⟨by rfl, ?_⟩) ?_ ?_; rotate_left
      ·intro w'; go_simp; with_reducible rfl
      rotate_left
      ·simp only [Act.put, List.setIfInBounds_toArray, List.set_cons_zero, List.set_cons_succ, i64_w, i32_w]; rfl
      refine take_ (i := 6) (N := some 65) (v := ?_) (a' := ?_) #[true, true, true, true, true, true, true, true, true, true, true, true, true, true, false, false, false, false, false, false] rfl rfl (take_ofW HT_.out HW_.out (by kernel_rfl)) (fun _ _ _ h => h) (Or.inl ⟨by rfl, ?_⟩) hHeld ?_ ?_; rotate_left
      ·rintro w' ⟨s0, s1⟩; go_simp; with_reducible rfl
      rotate_left
      ·simp only [Act.put, List.setIfInBounds_toArray, List.set_cons_zero, List.set_cons_succ, i64_w, i32_w]; rfl
      refine pure_ (i := 14) (N := some 73) (v := ?_) (a' := ?_) #[true, true, true, true, true, true, true, true, true, true, true, true, true, true, true, false, false, false, false, false] rfl rfl (any_of HT_.out (by kernel_rfl)) (fun _ _ _ h => h) (Or.inl ⟨by rfl, ?_⟩) ?_ ?_; rotate_left
      ·intro w'; go_simp; with_reducible rfl
      rotate_left
      ·simp only [Act.put, List.setIfInBounds_toArray, List.set_cons_zero, List.set_cons_succ, i64_w, i32_w]; rfl
      refine pure_ (i := 15) (N := some 74) (v := ?_) (a' := ?_) #[true, true, true, true, true, true, true, true, true, true, true, true, true, true, true, true, false, false, false, false] rfl rfl (any_of HT_.out (by kernel_rfl)) (fun _ _ _ h => h) (Or.inl ⟨by rfl, ?_⟩) ?_ ?_; rotate_left
      ·intro w'; go_simp; with_reducible rfl
      rotate_left
      ·simp only [Act.put, List.setIfInBounds_toArray, List.set_cons_zero, List.set_cons_succ, i64_w, i32_w]; rfl
      refine one_ (i := 16) (N := some 75) #[true, true, true, true, true, true, true, true, true, true, true, true, true, true, true, true, true, false, false, false] rfl rfl (one_of HT_.out (by kernel_rfl)) (by decide) (fun K hK => ?_)
      refine goes_ Try.func15 (by kernel_rfl) rfl #[.int .i64 a0, .agg #[.slice A48 (l1_0.drop 1).length (c1_0 - 1), .slice A49 y220.length c49]] (by rfl) rfl rfl (by (try simp only [List.map_toArray, List.map_cons, List.map_nil]); first | done | (rw [show (l1_0.drop 1).length = (l1_0.length - 1) from List.length_drop] <;> rfl) | rfl | (simp only [List.length_drop, List.length_take]; rfl)) ?_
      with_reducible refine (ih k1 (by have := HK1.out; omega) a0 _ _ (l1_0.drop 1) _ _ y220 t224 _ ?side1 ?side2 ?side3 ?side4 A44.out).mono ?_
      (case side1 => exact gC HR219 HB)
      (case side2 => exact HC219.out)
      (case side3 => exact gC HR223 HB)
      (case side4 => exact HC223.out)
      rintro e w50 ⟨rfl, hb⟩
      refine ⟨_, rfl, ?_⟩
      replace HO_5 := gA (Kd.R_below (gR HO_5) hb); replace BK206 := gA (blk_below (gK BK206) hb); replace HB := gA (below_step (gB HB) hb); (try clear hb)
      refine hK.out _ _ ⟨(blk_cell BK206.out 0).trans rfl, (blk_cell BK206.out 1).trans rfl⟩ (fun hHeld => ?_); clear hK K
      refine norm_ (a' := ?_) ?_ ?_; rotate_left
      ·show Act.put _ (some 75) _ = _
       simp only [Act.put, List.setIfInBounds_toArray, List.set_cons_zero, List.set_cons_succ, i64_w, i32_w]; rfl
      refine one_ (i := 17) (N := some 76) #[true, true, true, true, true, true, true, true, true, true, true, true, true, true, true, true, true, true, false, false] rfl rfl (one_of HT_.out (by kernel_rfl)) (by decide) (fun K hK => ?_)
      refine value_ (w1 := ?_) (v := ?_) (by rfl) rfl ?_ ?_
      rotate_left 2
      ·go_simp
       constructor
       ·rfl
       ·rfl
      refine hK.out _ _ ⟨(blk_cell (blk_alloc BK206.out _) 0).trans rfl, (blk_cell (blk_alloc BK206.out _) 1).trans rfl⟩ (fun hHeld => ?_); clear hK K
      refine norm_ (a' := ?_) ?_ ?_; rotate_left
      ·show Act.put _ (some 76) _ = _
       simp only [Act.put, List.setIfInBounds_toArray, List.set_cons_zero, List.set_cons_succ, i64_w, i32_w]; rfl
      refine one_ (i := 18) (N := some 77) #[true, true, true, true, true, true, true, true, true, true, true, true, true, true, true, true, true, true, true, false] rfl rfl (one_of HT_.out (by kernel_rfl)) (by decide) (fun K hK => ?_)
      refine Kd.R_append_step Kd.string (w0 := w) w.heap.size (by rfl) (.tmp 59) (.tmp 76) 45 9 (.string ⟨#[]⟩) 16 rfl Try.underlying45 info9 rfl (by decide) (by omega) u5 x5_1 t224 [.string t224] (fun _ => True) (fun _ => False) rfl rfl ?aP (fun _ hk => hk.elim) ?aF ?aO ?aB ?aS ?aL ?_
      (case aP => exact rfl)
      (case aB => exact (gB HB))
      (case aF => exact (fun _ _ => trivial))
      (case aO => exact (gR HO_5))
      (case aS => exact (below_size (gB HB)))
      (case aL => have := LMc45.out; omega)
      intro v226 w51 ho hb hg hat
      rw [← Ny225.out] at ho
      replace BK206 := gA (blk_grown (gK BK206) hg (Kd.R_ne HO_5.out BK206.out (by decide))); replace HB := gA (hb); have HO227 := gA (ho); clear HO_5 ho hb hg hat
      refine hK.out _ _ ⟨(blk_cell BK206.out 0).trans rfl, (blk_cell BK206.out 1).trans rfl⟩ (fun hHeld => ?_); clear hK K
      refine norm_ (a' := ?_) ?_ ?_; rotate_left
      ·show Act.put _ (some 77) _ = _
       simp only [Act.put, List.setIfInBounds_toArray, List.set_cons_zero, List.set_cons_succ, i64_w, i32_w]; rfl
      refine pure_ (i := 19) (N := some 5) (v := ?_) (a' := ?_) #[true, true, true, true, true, true, true, true, true, true, true, true, true, true, true, true, true, true, true, true] rfl rfl (any_of HT_.out (by kernel_rfl)) (fun _ _ _ h => h) (Or.inl ⟨by rfl, ?_⟩) ?_ ?_; rotate_left
      ·intro w'; go_simp; with_reducible rfl
      rotate_left
      ·simp only [Act.put, List.setIfInBounds_toArray, List.set_cons_zero, List.set_cons_succ, i64_w, i32_w]; rfl
      refine done_ (done_of HT_.out (by kernel_rfl)) ?_
      try go_wp2
      go_roundg k1
      case measure => have := HK1.out; omega
      case rel => exact ⟨(y225), (wrap64 (x51_1 + 1)), (rfl), H', ⟨by have := HK1.out; omega⟩, ⟨gR HO227⟩, ⟨gK BK206⟩, ⟨by repeat first | exact gB HB | refine below_set ?_ GE206.out⟩⟩
     ·rw [if_neg c37] at H
      have c37b0 := decide_eq_false c37
      clear c37
      replace H := Option.bind_eq_some_iff.mp H
      obtain ⟨t228, A520, H⟩ := H
      replace H : ((strings_Join.f x5_1 t228).bind fun t229 => (some t229)) = some r := H
      have A52 := gA A520
      clear A520
      replace H := Option.bind_eq_some_iff.mp H
      obtain ⟨t229, A530, H⟩ := H
      replace H : (some t229) = some r := H
      have A53 := gA A530
      clear A530
      obtain rfl := Option.some.inj H
      obtain ⟨hcz54_0, hcz54_1, hfz54_0, hfz54_1⟩ := gz2 BK206
      go_wp2_with (first | ((with_reducible refine gate_callee (f := 23) rfl ?_); refine goesL_ (some 84) rfl rfl Try.func23 (by kernel_rfl) rfl #[.string (⟨#[10]⟩ : ByteArray), .int .i64 (wrap64 ((l1_0.length : Int) - 1))] rfl (by (try simp only [List.map_toArray, List.map_cons, List.map_nil]); first | done | rfl | (simp only [List.length_drop, List.length_take]; rfl)) ?_; (with_reducible refine (strings_Repeat.calls (⟨#[10]⟩ : ByteArray) (wrap64 ((l1_0.length : Int) - 1)) t228 _ A52.out).mono ?_); rintro e w55 ⟨rfl, hb⟩; refine ⟨_, rfl, ?_⟩; replace HO_5 := gA (Kd.R_below (gR HO_5) hb); replace BK206 := gA (blk_below (gK BK206) hb); replace HB := gA (below_step (gB HB) hb); (try clear hb); obtain ⟨Ao56, co56, eo56⟩ := Kd.R_slice HO_5.out; subst eo56) | ((with_reducible refine gate_callee (f := 22) rfl ?_); refine goesL_ (some 85) rfl rfl Try.func22 (by kernel_rfl) rfl #[.slice Ao56 x5_1.length co56, .string t228] rfl (by (try simp only [List.map_toArray, List.map_cons, List.map_nil]); first | done | rfl | (simp only [List.length_drop, List.length_take]; rfl)) ?_; (with_reducible refine (strings_Join.calls _ _ x5_1 t228 t229 _ ?side1 ?side2 A53.out).mono ?_); (case side1 => repeat (first | exact (Kd.R_reads' HO_5.out).2.2 | (with_reducible refine Kd.C_alloc ?_ _) | (with_reducible refine Kd.C_drewN ?_ _) | (with_reducible refine Kd.C_drew ?_))); (case side2 => exact (Kd.R_reads' HO_5.out).2.1); rintro e w57 ⟨rfl, hb⟩; refine ⟨_, rfl, ?_⟩; replace HO_5 := gA (Kd.R_below (gR HO_5) hb); replace BK206 := gA (blk_below (gK BK206) hb); replace HB := gA (below_step (gB HB) hb); (try clear hb)))
      go_ret
      exact ⟨rfl, by repeat first | exact gB HB | refine below_set ?_ GE206.out⟩
theorem scc20.calls (k : Nat) : (∀ (a0 : Int) (a1_0 : Int) (a1_1 : Int) (A1_2 : Option Addr) (c1_2 : Nat) (l1_2 : List (S25)) (r : ByteArray) (w : World) (hr1_2 : Kd.C k25 w A1_2 l1_2.length l1_2) (hc1_2 : l1_2.length ≤ c1_2) (h : show_cell.f k a0 a1_0 a1_1 l1_2 = some r),
  Calls Try.prog 20 #[.int .i64 a0, .agg #[.int .i64 a1_0, .int .i64 a1_1, .slice A1_2 l1_2.length c1_2]] w fun e w' => e = .returned (.string r) ∧ Below w.heap.size w w') ∧ (∀ (a0 : Int) (A1_0 : Option Addr) (c1_0 : Nat) (l1_0 : List Int) (A1_1 : Option Addr) (c1_1 : Nat) (l1_1 : List (S40)) (r : ByteArray) (w : World) (hr1_0 : Kd.C (Kd.int .i64) w A1_0 l1_0.length l1_0) (hc1_0 : l1_0.length ≤ c1_0) (hr1_1 : Kd.C k40 w A1_1 l1_1.length l1_1) (hc1_1 : l1_1.length ≤ c1_1) (h : show_array.f k a0 l1_0 l1_1 = some r),
  Calls Try.prog 15 #[.int .i64 a0, .agg #[.slice A1_0 l1_0.length c1_0, .slice A1_1 l1_1.length c1_1]] w fun e w' => e = .returned (.string r) ∧ Below w.heap.size w w') := by
 induction k using Nat.strongRecOn with
 | _ k ih =>
 exact ⟨show_cell.step k (fun k_ h_ => (ih k_ h_).1) (fun k_ h_ => (ih k_ h_).2), show_array.step k (fun k_ h_ => (ih k_ h_).1) (fun k_ h_ => (ih k_ h_).2)⟩
theorem show_cell.calls (k : Nat) : ∀ (a0 : Int) (a1_0 : Int) (a1_1 : Int) (A1_2 : Option Addr) (c1_2 : Nat) (l1_2 : List (S25)) (r : ByteArray) (w : World) (hr1_2 : Kd.C k25 w A1_2 l1_2.length l1_2) (hc1_2 : l1_2.length ≤ c1_2) (h : show_cell.f k a0 a1_0 a1_1 l1_2 = some r),
  Calls Try.prog 20 #[.int .i64 a0, .agg #[.int .i64 a1_0, .int .i64 a1_1, .slice A1_2 l1_2.length c1_2]] w fun e w' => e = .returned (.string r) ∧ Below w.heap.size w w' := (scc20.calls k).1
theorem show_array.calls (k : Nat) : ∀ (a0 : Int) (A1_0 : Option Addr) (c1_0 : Nat) (l1_0 : List Int) (A1_1 : Option Addr) (c1_1 : Nat) (l1_1 : List (S40)) (r : ByteArray) (w : World) (hr1_0 : Kd.C (Kd.int .i64) w A1_0 l1_0.length l1_0) (hc1_0 : l1_0.length ≤ c1_0) (hr1_1 : Kd.C k40 w A1_1 l1_1.length l1_1) (hc1_1 : l1_1.length ≤ c1_1) (h : show_array.f k a0 l1_0 l1_1 = some r),
  Calls Try.prog 15 #[.int .i64 a0, .agg #[.slice A1_0 l1_0.length c1_0, .slice A1_1 l1_1.length c1_1]] w fun e w' => e = .returned (.string r) ∧ Below w.heap.size w w' := (scc20.calls k).2
def show_Show.j0 : Nat → Int → Bool → List Int → List (S40) → Option (ByteArray × Int)
 | 0, _, _, _, _ => none
 | k + 1, x0, x12, x231000, x231001 => if x12 = true then (some ((⟨#[]⟩ : ByteArray), 1)) else ((arr_Check.f k x231000 x231001).bind fun t231 => (if t231 = 0 then ((show_array.f k x0 x231000 x231001).bind fun t232 => (some (t232, 0))) else (some ((⟨#[]⟩ : ByteArray), t231))))
def show_Show.f (k : Nat) (a0 : Int) (l1_0 : List Int) (l1_1 : List (S40)) : Option (ByteArray × Int) := if a0 < 0 then (show_Show.j0 k a0 true l1_0 l1_1) else (show_Show.j0 k a0 (decide (a0 > 2)) l1_0 l1_1)
theorem show_Show.mono_l : ∀ k, (∀ y0 y1 y2 y3, LeO (show_Show.j0 k y0 y1 y2 y3) (show_Show.j0 (k + 1) y0 y1 y2 y3))
 | 0 => fun _ _ _ _ r h => by simp [show_Show.j0] at h
 | k + 1 => by
  have ih0 := show_Show.mono_l k
  ·intro y0 y1 y2 y3
   unfold show_Show.j0
   repeat' first
   | (with_reducible exact ih0 _ _ _ _)
   | (with_reducible exact arr_Check.mono _ _ _)
   | (with_reducible exact show_array.mono _ _ _ _)
   | (with_reducible exact LeO.refl _)
   | (with_reducible exact LeO.none _)
   | (with_reducible refine LeO.ite ?_ ?_)
   | (with_reducible refine LeO.bind ?_ (fun _ => ?_))

   | exact arr_Check.mono _ _ _
   | exact show_array.mono _ _ _ _
theorem show_Show.mono : ∀ a0 a1 a2 k, LeO (show_Show.f k a0 a1 a2) (show_Show.f (k + 1) a0 a1 a2) := by
 intro a0 a1 a2 k
 have ih0 := show_Show.mono_l k
 unfold show_Show.f
 repeat' first
   | (with_reducible exact ih0 _ _ _ _)
   | (with_reducible exact arr_Check.mono _ _ _)
   | (with_reducible exact show_array.mono _ _ _ _)
   | (with_reducible exact LeO.refl _)
   | (with_reducible exact LeO.none _)
   | (with_reducible refine LeO.ite ?_ ?_)
   | (with_reducible refine LeO.bind ?_ (fun _ => ?_))

   | exact arr_Check.mono _ _ _
   | exact show_array.mono _ _ _ _
set_option maxHeartbeats 8000000 in
set_option maxRecDepth 100000 in
theorem show_Show.calls (k : Nat) (a0 : Int) (A1_0 : Option Addr) (c1_0 : Nat) (l1_0 : List Int) (A1_1 : Option Addr) (c1_1 : Nat) (l1_1 : List (S40)) (r1 : ByteArray) (r2 : Int) (w : World) (hr1_0 : Kd.C (Kd.int .i64) w A1_0 l1_0.length l1_0) (hc1_0 : l1_0.length ≤ c1_0) (hr1_1 : Kd.C k40 w A1_1 l1_1.length l1_1) (hc1_1 : l1_1.length ≤ c1_1) (h : show_Show.f k a0 l1_0 l1_1 = some (r1, r2)) :
  Calls Try.prog 8 #[.int .i64 a0, .agg #[.slice A1_0 l1_0.length c1_0, .slice A1_1 l1_1.length c1_1]] w fun e w' => e = .returned (.tuple #[.string r1, .int .i64 r2]) ∧ Below w.heap.size w w' := by
 have hu25 := Try.underlying25
 have HR1_0 := gA hr1_0
 have HC1_0 := gA hc1_0
 clear hr1_0 hc1_0
 have HR1_1 := gA hr1_1
 have HC1_1 := gA hc1_1
 clear hr1_1 hc1_1
 have HB := gA (Below.refl w.heap.size w)
 have H : (if a0 < 0 then (show_Show.j0 k a0 true l1_0 l1_1) else (show_Show.j0 k a0 (decide (a0 > 2)) l1_0 l1_1)) = some (r1, r2) := h
 clear h
 have HC3 := gA H
 clear H
 go_enter Try.func8, Try.ntmps8
 go_upto_region 1 with (first | ((with_reducible refine gate_dst (N := 3) rfl ?_); refine box_event ?hg (N := 3) ?hd (cs := #[.slice A1_0 l1_0.length c1_0, .slice A1_1 l1_1.length c1_1]) (t := 25) ?hr ?_; (case hd => rfl); (case hg => rfl); (case hr => first | (go_simp; done) | (go_simp; rfl)); intro gb230 hg w4 hbox hb; have BK230 := gA (hbox); have GW230 := gA ((by rw [hg]; exact (below_size (gB HB)) : w.heap.size ≤ gb230)); have GE230 := gA ((by rw [hg]; exact (below_size (gB HB)) : w.heap.size ≤ gb230)); replace HB := gA (below_step (gB HB) hb); clear hb hbox hg))
 (try simp only [Act.put, List.setIfInBounds_toArray, List.set_cons_zero, List.set_cons_succ])
 go_cut [12] (fun v12 wc => ∃ (kq : Nat) (x12_2 : Bool), v12 = .bool x12_2 ∧ Aside0 (show_Show.j0 kq a0 x12_2 l1_0 l1_1 = some (r1, r2)) ∧ Aside0 (kq ≤ k) ∧ Aside0 (wc.heap[gb230]? = some (.cells #[(.slice A1_0 l1_0.length c1_0), (.slice A1_1 l1_1.length c1_1)] 25 (0, 0))) ∧ Aside0 (Below w.heap.size w wc))
 case first =>
  have H := HC3.out; clear HC3
  by_cases c5 : a0 < 0
  ·rw [if_pos c5] at H
   have c5b0 := decide_eq_true c5
   clear c5
   (first | rw [c5b0] | (simp only [i64_w, i32_w]; rw [c5b0]) | skip)
   have H' := gA H
   clear H
   go_wp2
   all_goals (go_meet; (case rel => exact ⟨_, (true), (by first | rfl | (simp; done) | (simp [*]; done) | (exfalso; simp_all; done) | (exfalso; simp_all; omega)), H', ⟨by first | omega | exact Nat.le_refl _⟩, ⟨gK BK230⟩, ⟨gB HB⟩⟩))
  ·rw [if_neg c5] at H
   have c5b0 := decide_eq_false c5
   clear c5
   (first | rw [c5b0] | (simp only [i64_w, i32_w]; rw [c5b0]) | skip)
   have H' := gA H
   clear H
   go_wp2
   all_goals (go_meet; (case rel => exact ⟨_, (decide (a0 > 2)), (by first | rfl | (simp; done) | (simp [*]; done) | (exfalso; simp_all; done) | (exfalso; simp_all; omega)), H', ⟨by first | omega | exact Nat.le_refl _⟩, ⟨gK BK230⟩, ⟨gB HB⟩⟩))
 case rest =>
  clear HC3
  try clear c1
  try clear p2
  try clear c5
  try clear c5b0
  obtain ⟨kq, x12_2, rfl, HA, HJ2, BK230, HB⟩ := hcut
  cases kq with
  | zero => exact absurd HA.out (by simp [show_Show.j0])
  | succ kj2 =>
   have H := HA.out; clear HA
   simp only [show_Show.j0] at H
   by_cases c6 : x12_2 = true
   ·subst c6
    have H1 : (some ((⟨#[]⟩ : ByteArray), 1)) = some (r1, r2) := by rw [if_pos rfl] at H; exact H
    clear H; have H := H1; clear H1
    simp only [Option.some.injEq, Prod.mk.injEq] at H
    obtain ⟨rfl, rfl⟩ := H
    go_wp2
    go_ret2
    exact ⟨rfl, by repeat first | exact gB HB | refine below_set ?_ GE230.out⟩
   ·replace c6 := Bool.eq_false_iff.mpr c6
    subst c6
    have H1 : ((arr_Check.f kj2 l1_0 l1_1).bind fun t231 => (if t231 = 0 then ((show_array.f kj2 a0 l1_0 l1_1).bind fun t232 => (some (t232, 0))) else (some ((⟨#[]⟩ : ByteArray), t231)))) = some (r1, r2) := by rw [if_neg (show ¬ (false = true) by decide)] at H; exact H
    clear H; have H := H1; clear H1
    replace H := Option.bind_eq_some_iff.mp H
    obtain ⟨t231, A70, H⟩ := H
    replace H : (if t231 = 0 then ((show_array.f kj2 a0 l1_0 l1_1).bind fun t232 => (some (t232, 0))) else (some ((⟨#[]⟩ : ByteArray), t231))) = some (r1, r2) := H
    have A7 := gA A70
    clear A70
    by_cases c8 : t231 = 0
    ·rw [if_pos c8] at H
     have c8b0 : (t231 == 0) = true := beq_iff_eq.mpr c8
     have c8b1 : (t231 != 0) = false := bne_eq_false_iff_eq.mpr c8
     clear c8
     replace H := Option.bind_eq_some_iff.mp H
     obtain ⟨t232, A90, H⟩ := H
     replace H : (some (t232, 0)) = some (r1, r2) := H
     have A9 := gA A90
     clear A90
     simp only [Option.some.injEq, Prod.mk.injEq] at H
     obtain ⟨rfl, rfl⟩ := H
     obtain ⟨hcz10_0, hcz10_1, hfz10_0, hfz10_1⟩ := gz2 BK230
     go_wp2_with (first | ((with_reducible refine gate_callee (f := 14) rfl ?_); refine goesL_ (some 14) rfl rfl Try.func14 (by kernel_rfl) rfl #[.agg #[.slice A1_0 l1_0.length c1_0, .slice A1_1 l1_1.length c1_1]] rfl (by (try simp only [List.map_toArray, List.map_cons, List.map_nil]); first | done | rfl | (simp only [List.length_drop, List.length_take]; rfl)) ?_; (with_reducible refine (arr_Check.calls kj2 _ _ l1_0 _ _ l1_1 t231 _ ?side1 ?side2 ?side3 ?side4 A7.out).mono ?_); (case side1 => exact gC HR1_0 HB); (case side2 => exact HC1_0.out); (case side3 => exact gC HR1_1 HB); (case side4 => exact HC1_1.out); rintro e w11 ⟨rfl, hb⟩; refine ⟨_, rfl, ?_⟩; replace BK230 := gA (blk_below (gK BK230) hb); replace HB := gA (below_step (gB HB) hb); (try clear hb); obtain ⟨hcz12_0, hcz12_1, hfz12_0, hfz12_1⟩ := gz2 BK230) | ((with_reducible refine gate_callee (f := 15) rfl ?_); refine goesL_ (some 20) rfl rfl Try.func15 (by kernel_rfl) rfl #[.int .i64 a0, .agg #[.slice A1_0 l1_0.length c1_0, .slice A1_1 l1_1.length c1_1]] rfl (by (try simp only [List.map_toArray, List.map_cons, List.map_nil]); first | done | rfl | (simp only [List.length_drop, List.length_take]; rfl)) ?_; (with_reducible refine (show_array.calls kj2 a0 _ _ l1_0 _ _ l1_1 t232 _ ?side1 ?side2 ?side3 ?side4 A9.out).mono ?_); (case side1 => exact gC HR1_0 HB); (case side2 => exact HC1_0.out); (case side3 => exact gC HR1_1 HB); (case side4 => exact HC1_1.out); rintro e w13 ⟨rfl, hb⟩; refine ⟨_, rfl, ?_⟩; replace BK230 := gA (blk_below (gK BK230) hb); replace HB := gA (below_step (gB HB) hb); (try clear hb)))
     go_ret2
     exact ⟨rfl, by repeat first | exact gB HB | refine below_set ?_ GE230.out⟩
    ·rw [if_neg c8] at H
     have c8b0 : (t231 == 0) = false := beq_eq_false_iff_ne.mpr c8
     have c8b1 : (t231 != 0) = true := bne_iff_ne.mpr c8
     simp only [Option.some.injEq, Prod.mk.injEq] at H
     obtain ⟨rfl, rfl⟩ := H
     obtain ⟨hcz14_0, hcz14_1, hfz14_0, hfz14_1⟩ := gz2 BK230
     go_wp2_with (first | ((with_reducible refine gate_callee (f := 14) rfl ?_); refine goesL_ (some 14) rfl rfl Try.func14 (by kernel_rfl) rfl #[.agg #[.slice A1_0 l1_0.length c1_0, .slice A1_1 l1_1.length c1_1]] rfl (by (try simp only [List.map_toArray, List.map_cons, List.map_nil]); first | done | rfl | (simp only [List.length_drop, List.length_take]; rfl)) ?_; (with_reducible refine (arr_Check.calls kj2 _ _ l1_0 _ _ l1_1 t231 _ ?side1 ?side2 ?side3 ?side4 A7.out).mono ?_); (case side1 => exact gC HR1_0 HB); (case side2 => exact HC1_0.out); (case side3 => exact gC HR1_1 HB); (case side4 => exact HC1_1.out); rintro e w15 ⟨rfl, hb⟩; refine ⟨_, rfl, ?_⟩; replace BK230 := gA (blk_below (gK BK230) hb); replace HB := gA (below_step (gB HB) hb); (try clear hb)))
     go_ret2
     exact ⟨rfl, by repeat first | exact gB HB | refine below_set ?_ GE230.out⟩
end Go.Proofs.Ytbijepjnbolpiaa.P
