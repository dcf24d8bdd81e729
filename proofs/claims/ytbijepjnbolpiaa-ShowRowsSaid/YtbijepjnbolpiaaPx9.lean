/- Written by a program of this session: the functions that the laws reach, what each comes to, and each law as it is stated, for every input. No condition. -/
import Derived.Test.YtbijepjnbolpiaaPx0
import Derived.Test.YtbijepjnbolpiaaPx8
namespace Go.Proofs.Ytbijepjnbolpiaa.P
open Go.RowKit Go.Proofs.YtbijepjnbolpiaaW.PrintWords Go.Proofs.YtbijepjnbolpiaaW.PrintLast Go.Proofs.YtbijepjnbolpiaaW.PrintMore
attribute [local go_sem] max2_int min2_int max_two min_two max_three min_three max_four min_four   -- for this text's walks alone
set_option linter.unusedVariables false
set_option linter.unusedSimpArgs false
mutual
def triglyphref27_cell.f : Nat → Int → Int → Int → List (S25) → Option (ByteArray)
 | 0, _, _, _, _ => none
 | k + 1, a0, a1_0, a1_1, l1_2 => if a1_0 = 1 then ((triglyphref02_Put.f k a1_1).bind fun t352 => (some (strOfNums t352))) else (if a1_0 = 2 then (if 0 < (l1_2.length : Int) then ((triglyphref27_text.f k a0 ((rd_T25 l1_2 0).f0) ((rd_T25 l1_2 0).f1)).bind fun t356 => (if 1 + t356.size ≤ 9223372036854775807 then (if ((⟨#[91]⟩ : ByteArray) ++ t356).size + 1 ≤ 9223372036854775807 then (some (((⟨#[91]⟩ : ByteArray) ++ t356) ++ (⟨#[93]⟩ : ByteArray))) else (none)) else (none))) else (none)) else (if a0 = 0 then (if a0 = 1 then ((triglyphref16_Number.f k a1_1 (⟨#[95]⟩ : ByteArray)).bind fun t357 => (some t357)) else ((triglyphref16_Number.f k a1_1 (⟨#[194, 175]⟩ : ByteArray)).bind fun t358 => (some t358))) else (if a0 = 1 then ((triglyphref16_Number.f k a1_1 (⟨#[95]⟩ : ByteArray)).bind fun t359 => (some t359)) else ((triglyphref16_Number.f k a1_1 (⟨#[45]⟩ : ByteArray)).bind fun t360 => (some t360)))))
def triglyphref27_text.j2 : Nat → Int → ByteArray → List Int → List (S40) → Option (ByteArray)
 | 0, _, _, _, _ => none
 | k + 1, x0, x5, x362000, x362001 => triglyphref27_text.l2 k x0 x5 (⟨#[]⟩ : ByteArray) 0 x362000 x362001
def triglyphref27_text.l2 : Nat → Int → ByteArray → ByteArray → Int → List Int → List (S40) → Option (ByteArray)
 | 0, _, _, _, _, _, _ => none
 | k + 1, x0, x5, x9, x10, x362000, x362001 => if 0 < (x362000.length : Int) then (if x10 < (rd x362000 0) then (if x10 > 0 then (if x9.size + x5.size ≤ 9223372036854775807 then ((triglyphref05_Item.f k x362000 x362001 x10).bind fun bt366 => ((triglyphref27_text.f k x0 bt366.1 bt366.2).bind fun t372 => (if (x9 ++ x5).size + t372.size ≤ 9223372036854775807 then (triglyphref27_text.l2 k x0 x5 ((x9 ++ x5) ++ t372) (wrap64 (x10 + 1)) x362000 x362001) else (none)))) else (none)) else ((triglyphref05_Item.f k x362000 x362001 x10).bind fun bt373 => ((triglyphref27_text.f k x0 bt373.1 bt373.2).bind fun t379 => (if x9.size + t379.size ≤ 9223372036854775807 then (triglyphref27_text.l2 k x0 x5 (x9 ++ t379) (wrap64 (x10 + 1)) x362000 x362001) else (none))))) else (some x9)) else (none)
def triglyphref27_text.l0 : Nat → Int → ByteArray → Bool → Int → List Int → List (S40) → Option (ByteArray)
 | 0, _, _, _, _, _, _ => none
 | k + 1, x0, x5, x6, x7, x362000, x362001 => if x7 < (x362001.length : Int) then (if x6 = true then (if 0 ≤ x7 then (triglyphref27_text.l0 k x0 x5 (((rd_T40 x362001 x7).f0) == 1) (wrap64 (x7 + 1)) x362000 x362001) else (none)) else (triglyphref27_text.l0 k x0 x5 false (wrap64 (x7 + 1)) x362000 x362001)) else (if x6 = true then (triglyphref27_text.j2 k x0 (⟨#[]⟩ : ByteArray) x362000 x362001) else (triglyphref27_text.j2 k x0 x5 x362000 x362001))
def triglyphref27_text.l1 : Nat → Int → ByteArray → Int → List Int → List (S40) → Option (ByteArray)
 | 0, _, _, _, _, _ => none
 | k + 1, x0, x5, x8, x362000, x362001 => if x8 < (x362000.length : Int) then (if x5.size + 1 ≤ 9223372036854775807 then (triglyphref27_text.l1 k x0 (x5 ++ (⟨#[10]⟩ : ByteArray)) (wrap64 (x8 + 1)) x362000 x362001) else (none)) else (triglyphref27_text.j2 k x0 x5 x362000 x362001)
def triglyphref27_text.f : Nat → Int → List Int → List (S40) → Option (ByteArray)
 | 0, _, _, _ => none
 | k + 1, a0, l1_0, l1_1 => if (l1_0.length : Int) = 0 then (if 0 < (l1_1.length : Int) then ((triglyphref27_cell.f k a0 ((rd_T40 l1_1 0).f0) ((rd_T40 l1_1 0).f1) ((rd_T40 l1_1 0).f2)).bind fun t363 => (some t363)) else (none)) else (if (l1_0.length : Int) = 1 then (triglyphref27_text.l0 k a0 (⟨#[32]⟩ : ByteArray) true 0 l1_0 l1_1) else (triglyphref27_text.l1 k a0 (⟨#[]⟩ : ByteArray) 1 l1_0 l1_1))
end
theorem scc24.mono_l : ∀ k, (∀ y0 y1 y2 y3, LeO (triglyphref27_cell.f k y0 y1 y2 y3) (triglyphref27_cell.f (k + 1) y0 y1 y2 y3)) ∧ (∀ y0 y1 y2, LeO (triglyphref27_text.f k y0 y1 y2) (triglyphref27_text.f (k + 1) y0 y1 y2)) ∧ (∀ y0 y1 y2 y3, LeO (triglyphref27_text.j2 k y0 y1 y2 y3) (triglyphref27_text.j2 (k + 1) y0 y1 y2 y3)) ∧ (∀ y0 y1 y2 y3 y4 y5, LeO (triglyphref27_text.l2 k y0 y1 y2 y3 y4 y5) (triglyphref27_text.l2 (k + 1) y0 y1 y2 y3 y4 y5)) ∧ (∀ y0 y1 y2 y3 y4 y5, LeO (triglyphref27_text.l0 k y0 y1 y2 y3 y4 y5) (triglyphref27_text.l0 (k + 1) y0 y1 y2 y3 y4 y5)) ∧ (∀ y0 y1 y2 y3 y4, LeO (triglyphref27_text.l1 k y0 y1 y2 y3 y4) (triglyphref27_text.l1 (k + 1) y0 y1 y2 y3 y4))
 | 0 => ⟨fun _ _ _ _ r h => by simp [triglyphref27_cell.f] at h, fun _ _ _ r h => by simp [triglyphref27_text.f] at h, fun _ _ _ _ r h => by simp [triglyphref27_text.j2] at h, fun _ _ _ _ _ _ r h => by simp [triglyphref27_text.l2] at h, fun _ _ _ _ _ _ r h => by simp [triglyphref27_text.l0] at h, fun _ _ _ _ _ r h => by simp [triglyphref27_text.l1] at h⟩
 | k + 1 => by
  obtain ⟨ih0, ih1, ih2, ih3, ih4, ih5⟩ := scc24.mono_l k
  refine ⟨?_, ?_, ?_, ?_, ?_, ?_⟩
  ·intro y0 y1 y2 y3
   unfold triglyphref27_cell.f
   repeat' first
   | (with_reducible exact ih0 _ _ _ _)
   | (with_reducible exact ih1 _ _ _)
   | (with_reducible exact ih2 _ _ _ _)
   | (with_reducible exact ih3 _ _ _ _ _ _)
   | (with_reducible exact ih4 _ _ _ _ _ _)
   | (with_reducible exact ih5 _ _ _ _ _)
   | (with_reducible exact triglyphref02_Put.mono _ _)
   | (with_reducible exact triglyphref05_Item.mono _ _ _ _)
   | (with_reducible exact triglyphref16_Number.mono _ _ _)
   | (with_reducible exact LeO.refl _)
   | (with_reducible exact LeO.none _)
   | (with_reducible refine LeO.ite ?_ ?_)
   | (with_reducible refine LeO.bind ?_ (fun _ => ?_))






   | exact triglyphref02_Put.mono _ _
   | exact triglyphref05_Item.mono _ _ _ _
   | exact triglyphref16_Number.mono _ _ _



  ·intro y0 y1 y2
   unfold triglyphref27_text.f
   repeat' first
   | (with_reducible exact ih0 _ _ _ _)
   | (with_reducible exact ih1 _ _ _)
   | (with_reducible exact ih2 _ _ _ _)
   | (with_reducible exact ih3 _ _ _ _ _ _)
   | (with_reducible exact ih4 _ _ _ _ _ _)
   | (with_reducible exact ih5 _ _ _ _ _)
   | (with_reducible exact triglyphref02_Put.mono _ _)
   | (with_reducible exact triglyphref05_Item.mono _ _ _ _)
   | (with_reducible exact triglyphref16_Number.mono _ _ _)
   | (with_reducible exact LeO.refl _)
   | (with_reducible exact LeO.none _)
   | (with_reducible refine LeO.ite ?_ ?_)
   | (with_reducible refine LeO.bind ?_ (fun _ => ?_))






   | exact triglyphref02_Put.mono _ _
   | exact triglyphref05_Item.mono _ _ _ _
   | exact triglyphref16_Number.mono _ _ _



  ·intro y0 y1 y2 y3
   unfold triglyphref27_text.j2
   repeat' first
   | (with_reducible exact ih0 _ _ _ _)
   | (with_reducible exact ih1 _ _ _)
   | (with_reducible exact ih2 _ _ _ _)
   | (with_reducible exact ih3 _ _ _ _ _ _)
   | (with_reducible exact ih4 _ _ _ _ _ _)
   | (with_reducible exact ih5 _ _ _ _ _)
   | (with_reducible exact triglyphref02_Put.mono _ _)
   | (with_reducible exact triglyphref05_Item.mono _ _ _ _)
   | (with_reducible exact triglyphref16_Number.mono _ _ _)
   | (with_reducible exact LeO.refl _)
   | (with_reducible exact LeO.none _)
   | (with_reducible refine LeO.ite ?_ ?_)
   | (with_reducible refine LeO.bind ?_ (fun _ => ?_))






   | exact triglyphref02_Put.mono _ _
   | exact triglyphref05_Item.mono _ _ _ _
   | exact triglyphref16_Number.mono _ _ _



  ·intro y0 y1 y2 y3 y4 y5
   unfold triglyphref27_text.l2
   repeat' first
   | (with_reducible exact ih0 _ _ _ _)
   | (with_reducible exact ih1 _ _ _)
   | (with_reducible exact ih2 _ _ _ _)
   | (with_reducible exact ih3 _ _ _ _ _ _)
   | (with_reducible exact ih4 _ _ _ _ _ _)
   | (with_reducible exact ih5 _ _ _ _ _)
   | (with_reducible exact triglyphref02_Put.mono _ _)
   | (with_reducible exact triglyphref05_Item.mono _ _ _ _)
   | (with_reducible exact triglyphref16_Number.mono _ _ _)
   | (with_reducible exact LeO.refl _)
   | (with_reducible exact LeO.none _)
   | (with_reducible refine LeO.ite ?_ ?_)
   | (with_reducible refine LeO.bind ?_ (fun _ => ?_))






   | exact triglyphref02_Put.mono _ _
   | exact triglyphref05_Item.mono _ _ _ _
   | exact triglyphref16_Number.mono _ _ _



  ·intro y0 y1 y2 y3 y4 y5
   unfold triglyphref27_text.l0
   repeat' first
   | (with_reducible exact ih0 _ _ _ _)
   | (with_reducible exact ih1 _ _ _)
   | (with_reducible exact ih2 _ _ _ _)
   | (with_reducible exact ih3 _ _ _ _ _ _)
   | (with_reducible exact ih4 _ _ _ _ _ _)
   | (with_reducible exact ih5 _ _ _ _ _)
   | (with_reducible exact triglyphref02_Put.mono _ _)
   | (with_reducible exact triglyphref05_Item.mono _ _ _ _)
   | (with_reducible exact triglyphref16_Number.mono _ _ _)
   | (with_reducible exact LeO.refl _)
   | (with_reducible exact LeO.none _)
   | (with_reducible refine LeO.ite ?_ ?_)
   | (with_reducible refine LeO.bind ?_ (fun _ => ?_))






   | exact triglyphref02_Put.mono _ _
   | exact triglyphref05_Item.mono _ _ _ _
   | exact triglyphref16_Number.mono _ _ _



  ·intro y0 y1 y2 y3 y4
   unfold triglyphref27_text.l1
   repeat' first
   | (with_reducible exact ih0 _ _ _ _)
   | (with_reducible exact ih1 _ _ _)
   | (with_reducible exact ih2 _ _ _ _)
   | (with_reducible exact ih3 _ _ _ _ _ _)
   | (with_reducible exact ih4 _ _ _ _ _ _)
   | (with_reducible exact ih5 _ _ _ _ _)
   | (with_reducible exact triglyphref02_Put.mono _ _)
   | (with_reducible exact triglyphref05_Item.mono _ _ _ _)
   | (with_reducible exact triglyphref16_Number.mono _ _ _)
   | (with_reducible exact LeO.refl _)
   | (with_reducible exact LeO.none _)
   | (with_reducible refine LeO.ite ?_ ?_)
   | (with_reducible refine LeO.bind ?_ (fun _ => ?_))






   | exact triglyphref02_Put.mono _ _
   | exact triglyphref05_Item.mono _ _ _ _
   | exact triglyphref16_Number.mono _ _ _
theorem triglyphref27_cell.mono : ∀ a0 a1 a2 a3 k, LeO (triglyphref27_cell.f k a0 a1 a2 a3) (triglyphref27_cell.f (k + 1) a0 a1 a2 a3) := by
 intro a0 a1 a2 a3 k
 obtain ⟨ih0, ih1, ih2, ih3, ih4, ih5⟩ := scc24.mono_l k
 exact ih0 a0 a1 a2 a3
theorem triglyphref27_text.mono : ∀ a0 a1 a2 k, LeO (triglyphref27_text.f k a0 a1 a2) (triglyphref27_text.f (k + 1) a0 a1 a2) := by
 intro a0 a1 a2 k
 obtain ⟨ih0, ih1, ih2, ih3, ih4, ih5⟩ := scc24.mono_l k
 exact ih1 a0 a1 a2
set_option maxHeartbeats 8000000 in
set_option maxRecDepth 100000 in
theorem triglyphref27_cell.step (k : Nat) (ih : ∀ k_, k_ < k → ∀ (a0 : Int) (a1_0 : Int) (a1_1 : Int) (A1_2 : Option Addr) (c1_2 : Nat) (l1_2 : List (S25)) (r : ByteArray) (w : World) (hr1_2 : Kd.C k25 w A1_2 l1_2.length l1_2) (hc1_2 : l1_2.length ≤ c1_2) (h : triglyphref27_cell.f k_ a0 a1_0 a1_1 l1_2 = some r),
  Calls Try.prog 24 #[.int .i64 a0, .agg #[.int .i64 a1_0, .int .i64 a1_1, .slice A1_2 l1_2.length c1_2]] w fun e w' => e = .returned (.string r) ∧ Below w.heap.size w w') (ih_triglyphref27_text : ∀ k_, k_ < k → ∀ (a0 : Int) (A1_0 : Option Addr) (c1_0 : Nat) (l1_0 : List Int) (A1_1 : Option Addr) (c1_1 : Nat) (l1_1 : List (S40)) (r : ByteArray) (w : World) (hr1_0 : Kd.C (Kd.int .i64) w A1_0 l1_0.length l1_0) (hc1_0 : l1_0.length ≤ c1_0) (hr1_1 : Kd.C k40 w A1_1 l1_1.length l1_1) (hc1_1 : l1_1.length ≤ c1_1) (h : triglyphref27_text.f k_ a0 l1_0 l1_1 = some r),
  Calls Try.prog 16 #[.int .i64 a0, .agg #[.slice A1_0 l1_0.length c1_0, .slice A1_1 l1_1.length c1_1]] w fun e w' => e = .returned (.string r) ∧ Below w.heap.size w w') : ∀ (a0 : Int) (a1_0 : Int) (a1_1 : Int) (A1_2 : Option Addr) (c1_2 : Nat) (l1_2 : List (S25)) (r : ByteArray) (w : World) (hr1_2 : Kd.C k25 w A1_2 l1_2.length l1_2) (hc1_2 : l1_2.length ≤ c1_2) (h : triglyphref27_cell.f k a0 a1_0 a1_1 l1_2 = some r),
  Calls Try.prog 24 #[.int .i64 a0, .agg #[.int .i64 a1_0, .int .i64 a1_1, .slice A1_2 l1_2.length c1_2]] w fun e w' => e = .returned (.string r) ∧ Below w.heap.size w w' := by
 intro a0 a1_0 a1_1 A1_2 c1_2 l1_2 r w hr1_2 hc1_2 h
 cases k with
 | zero => exact absurd h (by simp [triglyphref27_cell.f])
 | succ k =>
 simp only [triglyphref27_cell.f] at h
 have hu40 := Try.underlying40
 have hu25 := Try.underlying25
 have HR1_2 := gA hr1_2
 have HC1_2 := gA hc1_2
 clear hr1_2 hc1_2
 have HB := gA (Below.refl w.heap.size w)
 have H : (if a1_0 = 1 then ((triglyphref02_Put.f k a1_1).bind fun t352 => (some (strOfNums t352))) else (if a1_0 = 2 then (if 0 < (l1_2.length : Int) then ((triglyphref27_text.f k a0 ((rd_T25 l1_2 0).f0) ((rd_T25 l1_2 0).f1)).bind fun t356 => (if 1 + t356.size ≤ 9223372036854775807 then (if ((⟨#[91]⟩ : ByteArray) ++ t356).size + 1 ≤ 9223372036854775807 then (some (((⟨#[91]⟩ : ByteArray) ++ t356) ++ (⟨#[93]⟩ : ByteArray))) else (none)) else (none))) else (none)) else (if a0 = 0 then (if a0 = 1 then ((triglyphref16_Number.f k a1_1 (⟨#[95]⟩ : ByteArray)).bind fun t357 => (some t357)) else ((triglyphref16_Number.f k a1_1 (⟨#[194, 175]⟩ : ByteArray)).bind fun t358 => (some t358))) else (if a0 = 1 then ((triglyphref16_Number.f k a1_1 (⟨#[95]⟩ : ByteArray)).bind fun t359 => (some t359)) else ((triglyphref16_Number.f k a1_1 (⟨#[45]⟩ : ByteArray)).bind fun t360 => (some t360)))))) = some r := h
 clear h
 by_cases c3 : a1_0 = 1
 ·rw [if_pos c3] at H
  have c3b0 : (a1_0 == 1) = true := beq_iff_eq.mpr c3
  have c3b1 : (a1_0 != 1) = false := bne_eq_false_iff_eq.mpr c3
  clear c3
  replace H := Option.bind_eq_some_iff.mp H
  obtain ⟨t352, A40, H⟩ := H
  replace H : (some (strOfNums t352)) = some r := H
  have A4 := gA A40
  clear A40
  obtain rfl := Option.some.inj H
  go_enter Try.func24, Try.ntmps24
  go_wp2_with (first | ((with_reducible refine gate_dst (N := 3) rfl ?_); refine box_event ?hg (N := 3) ?hd (cs := #[.int .i64 a1_0, .int .i64 a1_1, .slice A1_2 l1_2.length c1_2]) (t := 40) ?hr ?_; (case hd => rfl); (case hg => rfl); (case hr => first | (go_simp; done) | (go_simp; rfl)); intro gb351 hg w5 hbox hb; have BK351 := gA (hbox); have GW351 := gA ((by rw [hg]; exact (below_size (gB HB)) : w.heap.size ≤ gb351)); have GE351 := gA ((by rw [hg]; exact (below_size (gB HB)) : w.heap.size ≤ gb351)); replace HB := gA (below_step (gB HB) hb); clear hb hbox hg; obtain ⟨hcz6_0, hcz6_1, hcz6_2, hfz6_0, hfz6_1, hfz6_2⟩ := gz3 BK351) | ((with_reducible refine gate_callee (f := 39) rfl ?_); refine goesL_ (some 11) rfl rfl Try.func39 (by kernel_rfl) rfl #[.int .i64 a1_1] rfl (by (try simp only [List.map_toArray, List.map_cons, List.map_nil]); first | done | rfl | (simp only [List.length_drop, List.length_take]; rfl)) ?_; (with_reducible refine (triglyphref02_Put.calls k a1_1 t352 _ A4.out).mono ?_); rintro e w7 ⟨v353, rfl, ho0, hb⟩; refine ⟨_, rfl, ?_⟩; have HO354 := gA (Kd.R_lower ho0 (below_size (gB HB))); replace BK351 := gA (blk_below (gK BK351) hb); replace HB := gA (below_step (gB HB) hb); (try clear hb); (try clear ho0); have hcv8 := own_string (P := Try.prog) Try.underlying56 Try.underlying5 Try.underlying9 (Kd.own_of_R HO354.out)))
  go_ret
  exact ⟨rfl, by repeat first | exact gB HB | refine below_set ?_ GE351.out⟩
 ·rw [if_neg c3] at H
  have c3b0 : (a1_0 == 1) = false := beq_eq_false_iff_ne.mpr c3
  have c3b1 : (a1_0 != 1) = true := bne_iff_ne.mpr c3
  by_cases c9 : a1_0 = 2
  ·rw [if_pos c9] at H
   have c9b0 : (a1_0 == 2) = true := beq_iff_eq.mpr c9
   have c9b1 : (a1_0 != 2) = false := bne_eq_false_iff_eq.mpr c9
   clear c9
   obtain ⟨c10, H⟩ := iS H
   have c10b0 := decide_eq_true c10
   have c10b1 : decide (0 < l1_2.length) = true := decide_eq_true (by omega)
   clear c10
   replace H := Option.bind_eq_some_iff.mp H
   obtain ⟨t356, A110, H⟩ := H
   replace H : (if 1 + t356.size ≤ 9223372036854775807 then (if ((⟨#[91]⟩ : ByteArray) ++ t356).size + 1 ≤ 9223372036854775807 then (some (((⟨#[91]⟩ : ByteArray) ++ t356) ++ (⟨#[93]⟩ : ByteArray))) else (none)) else (none)) = some r := H
   have A11 := gA A110
   clear A110
   obtain ⟨c12, H⟩ := iS H
   have c12b0 := eq_true c12
   have c12b1 := decide_eq_true c12
   try have c12b2 : (9223372036854775807 < 1 + t356.size) = False := eq_false (Nat.not_lt.2 c12)
   obtain ⟨c13, H⟩ := iS H
   have c13b0 := eq_true c13
   have c13b1 := decide_eq_true c13
   try have c13b2 : (9223372036854775807 < ((⟨#[91]⟩ : ByteArray) ++ t356).size + 1) = False := eq_false (Nat.not_lt.2 c13)
   try (have c13b2z := c13b2; simp only [ByteArray.size_append, show (⟨#[91]⟩ : ByteArray).size = 1 from rfl] at c13b2z)
   obtain rfl := Option.some.inj H
   go_enter Try.func24, Try.ntmps24
   go_wp2_with (first | ((with_reducible refine gate_dst (N := 3) rfl ?_); refine box_event ?hg (N := 3) ?hd (cs := #[.int .i64 a1_0, .int .i64 a1_1, .slice A1_2 l1_2.length c1_2]) (t := 40) ?hr ?_; (case hd => rfl); (case hg => rfl); (case hr => first | (go_simp; done) | (go_simp; rfl)); intro gb351 hg w14 hbox hb; have BK351 := gA (hbox); have GW351 := gA ((by rw [hg]; exact (below_size (gB HB)) : w.heap.size ≤ gb351)); have GE351 := gA ((by rw [hg]; exact (below_size (gB HB)) : w.heap.size ≤ gb351)); replace HB := gA (below_step (gB HB) hb); clear hb hbox hg; obtain ⟨hcz15_0, hcz15_1, hcz15_2, hfz15_0, hfz15_1, hfz15_2⟩ := gz3 BK351; have p355 : 0 ≤ (0 : Int) := (by omega); have q355 : 0 < (l1_2.length : Int) := of_decide_eq_true (by assumption); obtain ⟨ad355, A355_0, c355_0, A355_1, c355_1, e355, hx355_0, hx355_1, hl355_0, hi355_0, hl355_1, hi355_1⟩ := at_T25 HR1_2.out 0 p355 q355; cases e355; have qi355 : (0 < l1_2.length) = True := eq_true (by omega); (try rw [show ((0 : Int)).toNat = 0 from rfl] at hx355_0); (try rw [show 0 * 2 = 0 from rfl] at hx355_0); (try rw [Addr.add_zero'] at hx355_0); (try rw [show ((0 : Int)).toNat = 0 from rfl] at hx355_1); (try rw [show 0 * 2 = 0 from rfl] at hx355_1); (try rw [Addr.add_zero'] at hx355_1); replace hx355_0 := (HB.out.cell (World.block_lt_of_cell? w _ hx355_0)).trans hx355_0; replace hx355_1 := (HB.out.cell (World.block_lt_of_cell? w _ hx355_1)).trans hx355_1; have HR355_0 := gA hi355_0; have HC355_0 := gA hl355_0; clear hi355_0 hl355_0; have HR355_1 := gA hi355_1; have HC355_1 := gA hl355_1; clear hi355_1 hl355_1; replace p355 := eq_true p355; replace q355 := eq_true q355) | ((with_reducible refine gate_callee (f := 16) rfl ?_); refine goesL_ (some 21) rfl rfl Try.func16 (by kernel_rfl) rfl #[.int .i64 a0, .agg #[.slice A355_0 ((rd_T25 l1_2 0).f0).length c355_0, .slice A355_1 ((rd_T25 l1_2 0).f1).length c355_1]] rfl (by (try simp only [List.map_toArray, List.map_cons, List.map_nil]); first | done | rfl | (simp only [List.length_drop, List.length_take]; rfl)) ?_; (with_reducible refine (ih_triglyphref27_text k (by omega) a0 _ _ ((rd_T25 l1_2 0).f0) _ _ ((rd_T25 l1_2 0).f1) t356 _ ?side1 ?side2 ?side3 ?side4 A11.out).mono ?_); (case side1 => exact gC HR355_0 HB); (case side2 => exact HC355_0.out); (case side3 => exact gC HR355_1 HB); (case side4 => exact HC355_1.out); rintro e w16 ⟨rfl, hb⟩; refine ⟨_, rfl, ?_⟩; replace BK351 := gA (blk_below (gK BK351) hb); replace HB := gA (below_step (gB HB) hb); (try clear hb)))
   go_ret
   exact ⟨rfl, by repeat first | exact gB HB | refine below_set ?_ GE351.out⟩
  ·rw [if_neg c9] at H
   have c9b0 : (a1_0 == 2) = false := beq_eq_false_iff_ne.mpr c9
   have c9b1 : (a1_0 != 2) = true := bne_iff_ne.mpr c9
   by_cases c17 : a0 = 0
   ·rw [if_pos c17] at H
    have c17b0 : (a0 == 0) = true := beq_iff_eq.mpr c17
    have c17b1 : (a0 != 0) = false := bne_eq_false_iff_eq.mpr c17
    clear c17
    by_cases c18 : a0 = 1
    ·rw [if_pos c18] at H
     have c18b0 : (a0 == 1) = true := beq_iff_eq.mpr c18
     have c18b1 : (a0 != 1) = false := bne_eq_false_iff_eq.mpr c18
     clear c18
     replace H := Option.bind_eq_some_iff.mp H
     obtain ⟨t357, A190, H⟩ := H
     replace H : (some t357) = some r := H
     have A19 := gA A190
     clear A190
     obtain rfl := Option.some.inj H
     go_enter Try.func24, Try.ntmps24
     go_wp2_with (first | ((with_reducible refine gate_dst (N := 3) rfl ?_); refine box_event ?hg (N := 3) ?hd (cs := #[.int .i64 a1_0, .int .i64 a1_1, .slice A1_2 l1_2.length c1_2]) (t := 40) ?hr ?_; (case hd => rfl); (case hg => rfl); (case hr => first | (go_simp; done) | (go_simp; rfl)); intro gb351 hg w20 hbox hb; have BK351 := gA (hbox); have GW351 := gA ((by rw [hg]; exact (below_size (gB HB)) : w.heap.size ≤ gb351)); have GE351 := gA ((by rw [hg]; exact (below_size (gB HB)) : w.heap.size ≤ gb351)); replace HB := gA (below_step (gB HB) hb); clear hb hbox hg; obtain ⟨hcz21_0, hcz21_1, hcz21_2, hfz21_0, hfz21_1, hfz21_2⟩ := gz3 BK351) | ((with_reducible refine gate_callee (f := 40) rfl ?_); refine goesL_ (some 31) rfl rfl Try.func40 (by kernel_rfl) rfl #[.int .i64 a1_1, .string (⟨#[95]⟩ : ByteArray)] rfl (by (try simp only [List.map_toArray, List.map_cons, List.map_nil]); first | done | rfl | (simp only [List.length_drop, List.length_take]; rfl)) ?_; (with_reducible refine (triglyphref16_Number.calls k a1_1 (⟨#[95]⟩ : ByteArray) t357 _ A19.out).mono ?_); rintro e w22 ⟨rfl, hb⟩; refine ⟨_, rfl, ?_⟩; replace BK351 := gA (blk_below (gK BK351) hb); replace HB := gA (below_step (gB HB) hb); (try clear hb)))
     go_ret
     exact ⟨rfl, by repeat first | exact gB HB | refine below_set ?_ GE351.out⟩
    ·rw [if_neg c18] at H
     have c18b0 : (a0 == 1) = false := beq_eq_false_iff_ne.mpr c18
     have c18b1 : (a0 != 1) = true := bne_iff_ne.mpr c18
     replace H := Option.bind_eq_some_iff.mp H
     obtain ⟨t358, A230, H⟩ := H
     replace H : (some t358) = some r := H
     have A23 := gA A230
     clear A230
     obtain rfl := Option.some.inj H
     go_enter Try.func24, Try.ntmps24
     go_wp2_with (first | ((with_reducible refine gate_dst (N := 3) rfl ?_); refine box_event ?hg (N := 3) ?hd (cs := #[.int .i64 a1_0, .int .i64 a1_1, .slice A1_2 l1_2.length c1_2]) (t := 40) ?hr ?_; (case hd => rfl); (case hg => rfl); (case hr => first | (go_simp; done) | (go_simp; rfl)); intro gb351 hg w24 hbox hb; have BK351 := gA (hbox); have GW351 := gA ((by rw [hg]; exact (below_size (gB HB)) : w.heap.size ≤ gb351)); have GE351 := gA ((by rw [hg]; exact (below_size (gB HB)) : w.heap.size ≤ gb351)); replace HB := gA (below_step (gB HB) hb); clear hb hbox hg; obtain ⟨hcz25_0, hcz25_1, hcz25_2, hfz25_0, hfz25_1, hfz25_2⟩ := gz3 BK351) | ((with_reducible refine gate_callee (f := 40) rfl ?_); refine goesL_ (some 31) rfl rfl Try.func40 (by kernel_rfl) rfl #[.int .i64 a1_1, .string (⟨#[194, 175]⟩ : ByteArray)] rfl (by (try simp only [List.map_toArray, List.map_cons, List.map_nil]); first | done | rfl | (simp only [List.length_drop, List.length_take]; rfl)) ?_; (with_reducible refine (triglyphref16_Number.calls k a1_1 (⟨#[194, 175]⟩ : ByteArray) t358 _ A23.out).mono ?_); rintro e w26 ⟨rfl, hb⟩; refine ⟨_, rfl, ?_⟩; replace BK351 := gA (blk_below (gK BK351) hb); replace HB := gA (below_step (gB HB) hb); (try clear hb)))
     go_ret
     exact ⟨rfl, by repeat first | exact gB HB | refine below_set ?_ GE351.out⟩
   ·rw [if_neg c17] at H
    have c17b0 : (a0 == 0) = false := beq_eq_false_iff_ne.mpr c17
    have c17b1 : (a0 != 0) = true := bne_iff_ne.mpr c17
    by_cases c27 : a0 = 1
    ·rw [if_pos c27] at H
     have c27b0 : (a0 == 1) = true := beq_iff_eq.mpr c27
     have c27b1 : (a0 != 1) = false := bne_eq_false_iff_eq.mpr c27
     clear c27
     replace H := Option.bind_eq_some_iff.mp H
     obtain ⟨t359, A280, H⟩ := H
     replace H : (some t359) = some r := H
     have A28 := gA A280
     clear A280
     obtain rfl := Option.some.inj H
     go_enter Try.func24, Try.ntmps24
     go_wp2_with (first | ((with_reducible refine gate_dst (N := 3) rfl ?_); refine box_event ?hg (N := 3) ?hd (cs := #[.int .i64 a1_0, .int .i64 a1_1, .slice A1_2 l1_2.length c1_2]) (t := 40) ?hr ?_; (case hd => rfl); (case hg => rfl); (case hr => first | (go_simp; done) | (go_simp; rfl)); intro gb351 hg w29 hbox hb; have BK351 := gA (hbox); have GW351 := gA ((by rw [hg]; exact (below_size (gB HB)) : w.heap.size ≤ gb351)); have GE351 := gA ((by rw [hg]; exact (below_size (gB HB)) : w.heap.size ≤ gb351)); replace HB := gA (below_step (gB HB) hb); clear hb hbox hg; obtain ⟨hcz30_0, hcz30_1, hcz30_2, hfz30_0, hfz30_1, hfz30_2⟩ := gz3 BK351) | ((with_reducible refine gate_callee (f := 40) rfl ?_); refine goesL_ (some 31) rfl rfl Try.func40 (by kernel_rfl) rfl #[.int .i64 a1_1, .string (⟨#[95]⟩ : ByteArray)] rfl (by (try simp only [List.map_toArray, List.map_cons, List.map_nil]); first | done | rfl | (simp only [List.length_drop, List.length_take]; rfl)) ?_; (with_reducible refine (triglyphref16_Number.calls k a1_1 (⟨#[95]⟩ : ByteArray) t359 _ A28.out).mono ?_); rintro e w31 ⟨rfl, hb⟩; refine ⟨_, rfl, ?_⟩; replace BK351 := gA (blk_below (gK BK351) hb); replace HB := gA (below_step (gB HB) hb); (try clear hb)))
     go_ret
     exact ⟨rfl, by repeat first | exact gB HB | refine below_set ?_ GE351.out⟩
    ·rw [if_neg c27] at H
     have c27b0 : (a0 == 1) = false := beq_eq_false_iff_ne.mpr c27
     have c27b1 : (a0 != 1) = true := bne_iff_ne.mpr c27
     replace H := Option.bind_eq_some_iff.mp H
     obtain ⟨t360, A320, H⟩ := H
     replace H : (some t360) = some r := H
     have A32 := gA A320
     clear A320
     obtain rfl := Option.some.inj H
     go_enter Try.func24, Try.ntmps24
     go_wp2_with (first | ((with_reducible refine gate_dst (N := 3) rfl ?_); refine box_event ?hg (N := 3) ?hd (cs := #[.int .i64 a1_0, .int .i64 a1_1, .slice A1_2 l1_2.length c1_2]) (t := 40) ?hr ?_; (case hd => rfl); (case hg => rfl); (case hr => first | (go_simp; done) | (go_simp; rfl)); intro gb351 hg w33 hbox hb; have BK351 := gA (hbox); have GW351 := gA ((by rw [hg]; exact (below_size (gB HB)) : w.heap.size ≤ gb351)); have GE351 := gA ((by rw [hg]; exact (below_size (gB HB)) : w.heap.size ≤ gb351)); replace HB := gA (below_step (gB HB) hb); clear hb hbox hg; obtain ⟨hcz34_0, hcz34_1, hcz34_2, hfz34_0, hfz34_1, hfz34_2⟩ := gz3 BK351) | ((with_reducible refine gate_callee (f := 40) rfl ?_); refine goesL_ (some 31) rfl rfl Try.func40 (by kernel_rfl) rfl #[.int .i64 a1_1, .string (⟨#[45]⟩ : ByteArray)] rfl (by (try simp only [List.map_toArray, List.map_cons, List.map_nil]); first | done | rfl | (simp only [List.length_drop, List.length_take]; rfl)) ?_; (with_reducible refine (triglyphref16_Number.calls k a1_1 (⟨#[45]⟩ : ByteArray) t360 _ A32.out).mono ?_); rintro e w35 ⟨rfl, hb⟩; refine ⟨_, rfl, ?_⟩; replace BK351 := gA (blk_below (gK BK351) hb); replace HB := gA (below_step (gB HB) hb); (try clear hb)))
     go_ret
     exact ⟨rfl, by repeat first | exact gB HB | refine below_set ?_ GE351.out⟩
set_option maxHeartbeats 8000000 in
set_option maxRecDepth 100000 in
theorem triglyphref27_text.step (k : Nat) (ih_triglyphref27_cell : ∀ k_, k_ < k → ∀ (a0 : Int) (a1_0 : Int) (a1_1 : Int) (A1_2 : Option Addr) (c1_2 : Nat) (l1_2 : List (S25)) (r : ByteArray) (w : World) (hr1_2 : Kd.C k25 w A1_2 l1_2.length l1_2) (hc1_2 : l1_2.length ≤ c1_2) (h : triglyphref27_cell.f k_ a0 a1_0 a1_1 l1_2 = some r),
  Calls Try.prog 24 #[.int .i64 a0, .agg #[.int .i64 a1_0, .int .i64 a1_1, .slice A1_2 l1_2.length c1_2]] w fun e w' => e = .returned (.string r) ∧ Below w.heap.size w w') (ih : ∀ k_, k_ < k → ∀ (a0 : Int) (A1_0 : Option Addr) (c1_0 : Nat) (l1_0 : List Int) (A1_1 : Option Addr) (c1_1 : Nat) (l1_1 : List (S40)) (r : ByteArray) (w : World) (hr1_0 : Kd.C (Kd.int .i64) w A1_0 l1_0.length l1_0) (hc1_0 : l1_0.length ≤ c1_0) (hr1_1 : Kd.C k40 w A1_1 l1_1.length l1_1) (hc1_1 : l1_1.length ≤ c1_1) (h : triglyphref27_text.f k_ a0 l1_0 l1_1 = some r),
  Calls Try.prog 16 #[.int .i64 a0, .agg #[.slice A1_0 l1_0.length c1_0, .slice A1_1 l1_1.length c1_1]] w fun e w' => e = .returned (.string r) ∧ Below w.heap.size w w') : ∀ (a0 : Int) (A1_0 : Option Addr) (c1_0 : Nat) (l1_0 : List Int) (A1_1 : Option Addr) (c1_1 : Nat) (l1_1 : List (S40)) (r : ByteArray) (w : World) (hr1_0 : Kd.C (Kd.int .i64) w A1_0 l1_0.length l1_0) (hc1_0 : l1_0.length ≤ c1_0) (hr1_1 : Kd.C k40 w A1_1 l1_1.length l1_1) (hc1_1 : l1_1.length ≤ c1_1) (h : triglyphref27_text.f k a0 l1_0 l1_1 = some r),
  Calls Try.prog 16 #[.int .i64 a0, .agg #[.slice A1_0 l1_0.length c1_0, .slice A1_1 l1_1.length c1_1]] w fun e w' => e = .returned (.string r) ∧ Below w.heap.size w w' := by
 intro a0 A1_0 c1_0 l1_0 A1_1 c1_1 l1_1 r w hr1_0 hc1_0 hr1_1 hc1_1 h
 cases k with
 | zero => exact absurd h (by simp [triglyphref27_text.f])
 | succ k =>
 simp only [triglyphref27_text.f] at h
 have hu25 := Try.underlying25
 have hu40 := Try.underlying40
 have HR1_0 := gA hr1_0
 have HC1_0 := gA hc1_0
 clear hr1_0 hc1_0
 have HR1_1 := gA hr1_1
 have HC1_1 := gA hc1_1
 clear hr1_1 hc1_1
 have HB := gA (Below.refl w.heap.size w)
 have H : (if (l1_0.length : Int) = 0 then (if 0 < (l1_1.length : Int) then ((triglyphref27_cell.f k a0 ((rd_T40 l1_1 0).f0) ((rd_T40 l1_1 0).f1) ((rd_T40 l1_1 0).f2)).bind fun t363 => (some t363)) else (none)) else (if (l1_0.length : Int) = 1 then (triglyphref27_text.l0 k a0 (⟨#[32]⟩ : ByteArray) true 0 l1_0 l1_1) else (triglyphref27_text.l1 k a0 (⟨#[]⟩ : ByteArray) 1 l1_0 l1_1))) = some r := h
 clear h
 by_cases c3 : (l1_0.length : Int) = 0
 ·rw [if_pos c3] at H
  have c3b0 : ((l1_0.length : Int) == 0) = true := beq_iff_eq.mpr c3
  have c3b1 : ((l1_0.length : Int) != 0) = false := bne_eq_false_iff_eq.mpr c3
  clear c3
  obtain ⟨c4, H⟩ := iS H
  have c4b0 := decide_eq_true c4
  have c4b1 : decide (0 < l1_1.length) = true := decide_eq_true (by omega)
  clear c4
  replace H := Option.bind_eq_some_iff.mp H
  obtain ⟨t363, A50, H⟩ := H
  replace H : (some t363) = some r := H
  have A5 := gA A50
  clear A50
  obtain rfl := Option.some.inj H
  go_enter Try.func16, Try.ntmps16
  go_wp2_with (first | ((with_reducible refine gate_dst (N := 3) rfl ?_); refine box_event ?hg (N := 3) ?hd (cs := #[.slice A1_0 l1_0.length c1_0, .slice A1_1 l1_1.length c1_1]) (t := 25) ?hr ?_; (case hd => rfl); (case hg => rfl); (case hr => first | (go_simp; done) | (go_simp; rfl)); intro gb361 hg w6 hbox hb; have BK361 := gA (hbox); have GW361 := gA ((by rw [hg]; exact (below_size (gB HB)) : w.heap.size ≤ gb361)); have GE361 := gA ((by rw [hg]; exact (below_size (gB HB)) : w.heap.size ≤ gb361)); replace HB := gA (below_step (gB HB) hb); clear hb hbox hg; obtain ⟨hcz7_0, hcz7_1, hfz7_0, hfz7_1⟩ := gz2 BK361; have p362 : 0 ≤ (0 : Int) := (by omega); have q362 : 0 < (l1_1.length : Int) := of_decide_eq_true (by assumption); obtain ⟨ad362, A362_2, c362_2, e362, hx362_0, hx362_1, hx362_2, hl362_2, hi362_2⟩ := at_T40 HR1_1.out 0 p362 q362; cases e362; have qi362 : (0 < l1_1.length) = True := eq_true (by omega); (try rw [show ((0 : Int)).toNat = 0 from rfl] at hx362_0); (try rw [show 0 * 3 = 0 from rfl] at hx362_0); (try rw [Addr.add_zero'] at hx362_0); (try rw [show ((0 : Int)).toNat = 0 from rfl] at hx362_1); (try rw [show 0 * 3 = 0 from rfl] at hx362_1); (try rw [Addr.add_zero'] at hx362_1); (try rw [show ((0 : Int)).toNat = 0 from rfl] at hx362_2); (try rw [show 0 * 3 = 0 from rfl] at hx362_2); (try rw [Addr.add_zero'] at hx362_2); replace hx362_0 := (HB.out.cell (World.block_lt_of_cell? w _ hx362_0)).trans hx362_0; replace hx362_1 := (HB.out.cell (World.block_lt_of_cell? w _ hx362_1)).trans hx362_1; replace hx362_2 := (HB.out.cell (World.block_lt_of_cell? w _ hx362_2)).trans hx362_2; have HR362_2 := gA hi362_2; have HC362_2 := gA hl362_2; clear hi362_2 hl362_2; replace p362 := eq_true p362; replace q362 := eq_true q362) | ((with_reducible refine gate_callee (f := 24) rfl ?_); refine goesL_ (some 20) rfl rfl Try.func24 (by kernel_rfl) rfl #[.int .i64 a0, .agg #[.int .i64 ((rd_T40 l1_1 0).f0), .int .i64 ((rd_T40 l1_1 0).f1), .slice A362_2 ((rd_T40 l1_1 0).f2).length c362_2]] rfl (by (try simp only [List.map_toArray, List.map_cons, List.map_nil]); first | done | rfl | (simp only [List.length_drop, List.length_take]; rfl)) ?_; (with_reducible refine (ih_triglyphref27_cell k (by omega) a0 ((rd_T40 l1_1 0).f0) ((rd_T40 l1_1 0).f1) _ _ ((rd_T40 l1_1 0).f2) t363 _ ?side1 ?side2 A5.out).mono ?_); (case side1 => exact gC HR362_2 HB); (case side2 => exact HC362_2.out); rintro e w8 ⟨rfl, hb⟩; refine ⟨_, rfl, ?_⟩; replace BK361 := gA (blk_below (gK BK361) hb); replace HB := gA (below_step (gB HB) hb); (try clear hb)))
  go_ret
  exact ⟨rfl, by repeat first | exact gB HB | refine below_set ?_ GE361.out⟩
 ·rw [if_neg c3] at H
  have c3b0 : ((l1_0.length : Int) == 0) = false := beq_eq_false_iff_ne.mpr c3
  have c3b1 : ((l1_0.length : Int) != 0) = true := bne_iff_ne.mpr c3
  have c3b2 : ¬ (l1_0 = []) := fun h_ => c3 (by rw [h_]; rfl)
  have HC9 := gA H
  clear H
  go_enter Try.func16, Try.ntmps16
  go_upto_if 24 with (first | ((with_reducible refine gate_dst (N := 3) rfl ?_); refine box_event ?hg (N := 3) ?hd (cs := #[.slice A1_0 l1_0.length c1_0, .slice A1_1 l1_1.length c1_1]) (t := 25) ?hr ?_; (case hd => rfl); (case hg => rfl); (case hr => first | (go_simp; done) | (go_simp; rfl)); intro gb361 hg w10 hbox hb; have BK361 := gA (hbox); have GW361 := gA ((by rw [hg]; exact (below_size (gB HB)) : w.heap.size ≤ gb361)); have GE361 := gA ((by rw [hg]; exact (below_size (gB HB)) : w.heap.size ≤ gb361)); replace HB := gA (below_step (gB HB) hb); clear hb hbox hg; obtain ⟨hcz11_0, hcz11_1, hfz11_0, hfz11_1⟩ := gz2 BK361))
  (try simp only [Act.put, List.setIfInBounds_toArray, List.set_cons_zero, List.set_cons_succ])
  go_cut [5] (fun v5 wc => ∃ (kq : Nat) (x5_8 : ByteArray), v5 = .string x5_8 ∧ Aside0 (triglyphref27_text.j2 kq a0 x5_8 l1_0 l1_1 = some r) ∧ Aside0 (kq ≤ k) ∧ Aside0 (wc.heap[gb361]? = some (.cells #[(.slice A1_0 l1_0.length c1_0), (.slice A1_1 l1_1.length c1_1)] 25 (0, 0))) ∧ Aside0 (Below w.heap.size w wc))
  case first =>
   have H := HC9.out; clear HC9
   by_cases c12 : (l1_0.length : Int) = 1
   ·rw [if_pos c12] at H
    have c12b0 : ((l1_0.length : Int) == 1) = true := beq_iff_eq.mpr c12
    have c12b1 : ((l1_0.length : Int) != 1) = false := bne_eq_false_iff_eq.mpr c12
    clear c12
    (first | rw [c12b0] | rw [c12b1] | (simp only [i64_w, i32_w]; rw [c12b0]) | skip)
    have H' := gA H
    clear H
    go_wp2
    go_loopg [6, 7] k (fun kq v6 v7 w' => ∃ (x6_1 : Bool) (x7_1 : Int), v6 = .bool x6_1 ∧ v7 = .int .i64 x7_1 ∧ Aside0 (triglyphref27_text.l0 kq a0 (⟨#[32]⟩ : ByteArray) x6_1 x7_1 l1_0 l1_1 = some r) ∧ Aside0 (kq ≤ k) ∧ Aside0 (w'.heap[gb361]? = some (.cells #[(.slice A1_0 l1_0.length c1_0), (.slice A1_1 l1_1.length c1_1)] 25 (0, 0))) ∧ Aside0 (Below w.heap.size w w'))
    case atStart => exact ⟨(true), (0), (rfl), (rfl), H', ⟨Nat.le_refl _⟩, ⟨gK BK361⟩, ⟨by repeat first | exact gB HB | refine below_set ?_ GE361.out⟩⟩
    case round =>
     clear H'
     try clear c1
     try clear c2
     try clear p2
     try clear c3
     try clear c3b0
     try clear c3b1
     try clear c3b2
     try clear p3
     try clear q3
     try clear hx3
     try clear qi3
     try clear c4
     try clear c4b0
     try clear c4b1
     try clear c12
     try clear c12b0
     try clear c12b1
     try clear hcz11_0
     try clear hcz11_1
     try clear hcz7_0
     try clear hcz7_1
     try clear hfz11_0
     try clear hfz11_1
     try clear hfz7_0
     try clear hfz7_1
     try clear hx362_0
     try clear hx362_1
     try clear hx362_2
     try clear p362
     try clear q362
     obtain ⟨x6_1, x7_1, rfl, rfl, HA, HK1, BK361, HB⟩ := hrel
     cases gk with
     | zero => exact absurd HA.out (by simp [triglyphref27_text.l0])
     | succ k1 =>
      have H := HA.out; clear HA
      simp only [triglyphref27_text.l0] at H
      by_cases c13 : x7_1 < (l1_1.length : Int)
      ·rw [if_pos c13] at H
       have c13b0 := decide_eq_true c13
       clear c13
       by_cases c14 : x6_1 = true
       ·subst c14
        have H1 : (if 0 ≤ x7_1 then (triglyphref27_text.l0 k1 a0 (⟨#[32]⟩ : ByteArray) (((rd_T40 l1_1 x7_1).f0) == 1) (wrap64 (x7_1 + 1)) l1_0 l1_1) else (none)) = some r := by rw [if_pos rfl] at H; exact H
        clear H; have H := H1; clear H1
        obtain ⟨c15, H⟩ := iS H
        have c15b0 := decide_eq_true c15
        clear c15
        have H' := gA H
        clear H
        obtain ⟨hcz16_0, hcz16_1, hfz16_0, hfz16_1⟩ := gz2 BK361
        have p364 : 0 ≤ (x7_1 : Int) := of_decide_eq_true (by assumption)
        have q364 : x7_1 < (l1_1.length : Int) := of_decide_eq_true (by assumption)
        obtain ⟨ad364, A364_2, c364_2, e364, hx364_0, hx364_1, hx364_2, hl364_2, hi364_2⟩ := at_T40 HR1_1.out x7_1 p364 q364
        cases e364
        replace hx364_0 := (HB.out.cell (World.block_lt_of_cell? w _ hx364_0)).trans hx364_0
        replace hx364_1 := (HB.out.cell (World.block_lt_of_cell? w _ hx364_1)).trans hx364_1
        replace hx364_2 := (HB.out.cell (World.block_lt_of_cell? w _ hx364_2)).trans hx364_2
        have HR364_2 := gA hi364_2
        have HC364_2 := gA hl364_2
        clear hi364_2 hl364_2
        replace p364 := eq_true p364
        replace q364 := eq_true q364
        go_wp2
        go_roundg k1
        case measure => have := HK1.out; omega
        case rel => exact ⟨((((rd_T40 l1_1 x7_1).f0) == 1)), (wrap64 (x7_1 + 1)), (rfl), (rfl), H', ⟨by have := HK1.out; omega⟩, ⟨gK BK361⟩, ⟨by repeat first | exact gB HB | refine below_set ?_ GE361.out⟩⟩
       ·replace c14 := Bool.eq_false_iff.mpr c14
        subst c14
        have H1 : (triglyphref27_text.l0 k1 a0 (⟨#[32]⟩ : ByteArray) false (wrap64 (x7_1 + 1)) l1_0 l1_1) = some r := by rw [if_neg (show ¬ (false = true) by decide)] at H; exact H
        clear H; have H := H1; clear H1
        have H' := gA H
        clear H
        obtain ⟨hcz17_0, hcz17_1, hfz17_0, hfz17_1⟩ := gz2 BK361
        go_wp2
        go_roundg k1
        case measure => have := HK1.out; omega
        case rel => exact ⟨(false), (wrap64 (x7_1 + 1)), (rfl), (rfl), H', ⟨by have := HK1.out; omega⟩, ⟨gK BK361⟩, ⟨by repeat first | exact gB HB | refine below_set ?_ GE361.out⟩⟩
      ·rw [if_neg c13] at H
       have c13b0 := decide_eq_false c13
       clear c13
       by_cases c18 : x6_1 = true
       ·subst c18
        have H1 : (triglyphref27_text.j2 k1 a0 (⟨#[]⟩ : ByteArray) l1_0 l1_1) = some r := by rw [if_pos rfl] at H; exact H
        clear H; have H := H1; clear H1
        have H' := gA H
        clear H
        obtain ⟨hcz19_0, hcz19_1, hfz19_0, hfz19_1⟩ := gz2 BK361
        go_wp2
        all_goals (go_meet; (case rel => exact ⟨_, ((⟨#[]⟩ : ByteArray)), (by first | rfl | (simp; done) | (simp [*]; done) | (exfalso; simp_all; done) | (exfalso; simp_all; omega)), H', ⟨by have := HK1.out; first | omega | exact Nat.le_refl _⟩, ⟨gK BK361⟩, ⟨gB HB⟩⟩))
       ·replace c18 := Bool.eq_false_iff.mpr c18
        subst c18
        have H1 : (triglyphref27_text.j2 k1 a0 (⟨#[32]⟩ : ByteArray) l1_0 l1_1) = some r := by rw [if_neg (show ¬ (false = true) by decide)] at H; exact H
        clear H; have H := H1; clear H1
        have H' := gA H
        clear H
        obtain ⟨hcz20_0, hcz20_1, hfz20_0, hfz20_1⟩ := gz2 BK361
        go_wp2
        all_goals (go_meet; (case rel => exact ⟨_, ((⟨#[32]⟩ : ByteArray)), (by first | rfl | (simp; done) | (simp [*]; done) | (exfalso; simp_all; done) | (exfalso; simp_all; omega)), H', ⟨by have := HK1.out; first | omega | exact Nat.le_refl _⟩, ⟨gK BK361⟩, ⟨gB HB⟩⟩))
   ·rw [if_neg c12] at H
    have c12b0 : ((l1_0.length : Int) == 1) = false := beq_eq_false_iff_ne.mpr c12
    have c12b1 : ((l1_0.length : Int) != 1) = true := bne_iff_ne.mpr c12
    (first | rw [c12b0] | rw [c12b1] | (simp only [i64_w, i32_w]; rw [c12b0]) | skip)
    have H' := gA H
    clear H
    go_wp2
    go_loopg [5, 8] k (fun kq v5 v8 w' => ∃ (x5_1 : ByteArray) (x8_1 : Int), v5 = .string x5_1 ∧ v8 = .int .i64 x8_1 ∧ Aside0 (triglyphref27_text.l1 kq a0 x5_1 x8_1 l1_0 l1_1 = some r) ∧ Aside0 (kq ≤ k) ∧ Aside0 (w'.heap[gb361]? = some (.cells #[(.slice A1_0 l1_0.length c1_0), (.slice A1_1 l1_1.length c1_1)] 25 (0, 0))) ∧ Aside0 (Below w.heap.size w w'))
    case atStart => exact ⟨((⟨#[]⟩ : ByteArray)), (1), (rfl), (rfl), H', ⟨Nat.le_refl _⟩, ⟨gK BK361⟩, ⟨by repeat first | exact gB HB | refine below_set ?_ GE361.out⟩⟩
    case round =>
     clear H'
     try clear c1
     try clear c2
     try clear p2
     try clear c3
     try clear c3b0
     try clear c3b1
     try clear c3b2
     try clear p3
     try clear q3
     try clear hx3
     try clear qi3
     try clear c4
     try clear c4b0
     try clear c4b1
     try clear p6
     try clear c12
     try clear c12b0
     try clear c12b1
     try clear c13
     try clear c13b0
     try clear c14
     try clear c15
     try clear c15b0
     try clear c16
     try clear c18
     try clear hcz11_0
     try clear hcz11_1
     try clear hcz16_0
     try clear hcz16_1
     try clear hcz17_0
     try clear hcz17_1
     try clear hcz19_0
     try clear hcz19_1
     try clear hcz20_0
     try clear hcz20_1
     try clear hcz7_0
     try clear hcz7_1
     try clear hfz11_0
     try clear hfz11_1
     try clear hfz16_0
     try clear hfz16_1
     try clear hfz17_0
     try clear hfz17_1
     try clear hfz19_0
     try clear hfz19_1
     try clear hfz20_0
     try clear hfz20_1
     try clear hfz7_0
     try clear hfz7_1
     try clear hx362_0
     try clear hx362_1
     try clear hx362_2
     try clear hx364_0
     try clear hx364_1
     try clear hx364_2
     try clear p2
     try clear p3
     try clear p362
     try clear p364
     try clear q3
     try clear q362
     try clear q364
     obtain ⟨x5_1, x8_1, rfl, rfl, HA, HK1, BK361, HB⟩ := hrel
     cases gk with
     | zero => exact absurd HA.out (by simp [triglyphref27_text.l1])
     | succ k1 =>
      have H := HA.out; clear HA
      simp only [triglyphref27_text.l1] at H
      by_cases c21 : x8_1 < (l1_0.length : Int)
      ·rw [if_pos c21] at H
       have c21b0 := decide_eq_true c21
       clear c21
       obtain ⟨c22, H⟩ := iS H
       have c22b0 := eq_true c22
       have c22b1 := decide_eq_true c22
       try have c22b2 : (9223372036854775807 < x5_1.size + 1) = False := eq_false (Nat.not_lt.2 c22)
       have H' := gA H
       clear H
       obtain ⟨hcz23_0, hcz23_1, hfz23_0, hfz23_1⟩ := gz2 BK361
       go_wp2
       go_roundg k1
       case measure => have := HK1.out; omega
       case rel => exact ⟨(x5_1 ++ (⟨#[10]⟩ : ByteArray)), (wrap64 (x8_1 + 1)), (rfl), (rfl), H', ⟨by have := HK1.out; omega⟩, ⟨gK BK361⟩, ⟨by repeat first | exact gB HB | refine below_set ?_ GE361.out⟩⟩
      ·rw [if_neg c21] at H
       have c21b0 := decide_eq_false c21
       clear c21
       have H' := gA H
       clear H
       obtain ⟨hcz24_0, hcz24_1, hfz24_0, hfz24_1⟩ := gz2 BK361
       go_wp2
       all_goals (go_meet; (case rel => exact ⟨_, (x5_1), (by first | rfl | (simp; done) | (simp [*]; done) | (exfalso; simp_all; done) | (exfalso; simp_all; omega)), H', ⟨by have := HK1.out; first | omega | exact Nat.le_refl _⟩, ⟨gK BK361⟩, ⟨gB HB⟩⟩))
  case rest =>
   clear HC9
   try clear c1
   try clear c2
   try clear p2
   try clear c3
   try clear c3b0
   try clear c3b1
   try clear c3b2
   try clear p3
   try clear q3
   try clear hx3
   try clear qi3
   try clear c4
   try clear c4b0
   try clear c4b1
   try clear p6
   try clear c12
   try clear c12b0
   try clear c12b1
   try clear c13
   try clear c13b0
   try clear c14
   try clear c15
   try clear c15b0
   try clear c16
   try clear c18
   try clear c21
   try clear c21b0
   try clear c22
   try clear c22b0
   try clear c22b1
   try clear c22b2
   try clear c24
   try clear hcz11_0
   try clear hcz11_1
   try clear hcz16_0
   try clear hcz16_1
   try clear hcz17_0
   try clear hcz17_1
   try clear hcz19_0
   try clear hcz19_1
   try clear hcz20_0
   try clear hcz20_1
   try clear hcz23_0
   try clear hcz23_1
   try clear hcz24_0
   try clear hcz24_1
   try clear hcz7_0
   try clear hcz7_1
   try clear hfz11_0
   try clear hfz11_1
   try clear hfz16_0
   try clear hfz16_1
   try clear hfz17_0
   try clear hfz17_1
   try clear hfz19_0
   try clear hfz19_1
   try clear hfz20_0
   try clear hfz20_1
   try clear hfz23_0
   try clear hfz23_1
   try clear hfz24_0
   try clear hfz24_1
   try clear hfz7_0
   try clear hfz7_1
   try clear hx362_0
   try clear hx362_1
   try clear hx362_2
   try clear hx364_0
   try clear hx364_1
   try clear hx364_2
   try clear p2
   try clear p3
   try clear p362
   try clear p364
   try clear p6
   try clear q3
   try clear q362
   try clear q364
   obtain ⟨kq, x5_8, rfl, HA, HJ8, BK361, HB⟩ := hcut
   cases kq with
   | zero => exact absurd HA.out (by simp [triglyphref27_text.j2])
   | succ kj8 =>
    have H := HA.out; clear HA
    simp only [triglyphref27_text.j2] at H
    have H' := gA H
    clear H
    go_wp2
    go_loopg [9, 10] kj8 (fun kq v9 v10 w' => ∃ (x9_2 : ByteArray) (x10_2 : Int), v9 = .string x9_2 ∧ v10 = .int .i64 x10_2 ∧ Aside0 (triglyphref27_text.l2 kq a0 x5_8 x9_2 x10_2 l1_0 l1_1 = some r) ∧ Aside0 (kq ≤ kj8) ∧ Aside0 (w'.heap[gb361]? = some (.cells #[(.slice A1_0 l1_0.length c1_0), (.slice A1_1 l1_1.length c1_1)] 25 (0, 0))) ∧ Aside0 (Below w.heap.size w w'))
    case atStart => exact ⟨((⟨#[]⟩ : ByteArray)), (0), (rfl), (rfl), H', ⟨Nat.le_refl _⟩, ⟨gK BK361⟩, ⟨by repeat first | exact gB HB | refine below_set ?_ GE361.out⟩⟩
    case round =>
     clear H'
     try clear c1
     try clear c2
     try clear p2
     try clear c3
     try clear c3b0
     try clear c3b1
     try clear c3b2
     try clear p3
     try clear q3
     try clear hx3
     try clear qi3
     try clear c4
     try clear c4b0
     try clear c4b1
     try clear p6
     try clear c12
     try clear c12b0
     try clear c12b1
     try clear c13
     try clear c13b0
     try clear c14
     try clear c15
     try clear c15b0
     try clear c16
     try clear c18
     try clear c21
     try clear c21b0
     try clear c22
     try clear c22b0
     try clear c22b1
     try clear c22b2
     try clear c24
     try clear hcz11_0
     try clear hcz11_1
     try clear hcz16_0
     try clear hcz16_1
     try clear hcz17_0
     try clear hcz17_1
     try clear hcz19_0
     try clear hcz19_1
     try clear hcz20_0
     try clear hcz20_1
     try clear hcz23_0
     try clear hcz23_1
     try clear hcz24_0
     try clear hcz24_1
     try clear hcz7_0
     try clear hcz7_1
     try clear hfz11_0
     try clear hfz11_1
     try clear hfz16_0
     try clear hfz16_1
     try clear hfz17_0
     try clear hfz17_1
     try clear hfz19_0
     try clear hfz19_1
     try clear hfz20_0
     try clear hfz20_1
     try clear hfz23_0
     try clear hfz23_1
     try clear hfz24_0
     try clear hfz24_1
     try clear hfz7_0
     try clear hfz7_1
     try clear hx362_0
     try clear hx362_1
     try clear hx362_2
     try clear hx364_0
     try clear hx364_1
     try clear hx364_2
     try clear p2
     try clear p3
     try clear p362
     try clear p364
     try clear p6
     try clear q3
     try clear q362
     try clear q364
     obtain ⟨x9_2, x10_2, rfl, rfl, HA, HK2, BK361, HB⟩ := hrel
     cases gk with
     | zero => exact absurd HA.out (by simp [triglyphref27_text.l2])
     | succ k2 =>
      have H := HA.out; clear HA
      simp only [triglyphref27_text.l2] at H
      obtain ⟨c25, H⟩ := iS H
      have c25b0 := decide_eq_true c25
      have c25b1 : decide (0 < l1_0.length) = true := decide_eq_true (by omega)
      clear c25
      by_cases c26 : x10_2 < (rd l1_0 0)
      ·rw [if_pos c26] at H
       have c26b0 := decide_eq_true c26
       clear c26
       by_cases c27 : x10_2 > 0
       ·rw [if_pos c27] at H
        have c27b0 : decide (0 < x10_2) = true := decide_eq_true c27
        clear c27
        obtain ⟨c28, H⟩ := iS H
        have c28b0 := eq_true c28
        have c28b1 := decide_eq_true c28
        try have c28b2 : (9223372036854775807 < x9_2.size + x5_8.size) = False := eq_false (Nat.not_lt.2 c28)
        replace H := Option.bind_eq_some_iff.mp H
        obtain ⟨⟨t366, t369⟩, A290, H⟩ := H
        replace H : ((triglyphref27_text.f k2 a0 t366 t369).bind fun t372 => (if (x9_2 ++ x5_8).size + t372.size ≤ 9223372036854775807 then (triglyphref27_text.l2 k2 a0 x5_8 ((x9_2 ++ x5_8) ++ t372) (wrap64 (x10_2 + 1)) l1_0 l1_1) else (none))) = some r := H
        have A29 := gA A290
        clear A290
        replace H := Option.bind_eq_some_iff.mp H
        obtain ⟨t372, A300, H⟩ := H
        replace H : (if (x9_2 ++ x5_8).size + t372.size ≤ 9223372036854775807 then (triglyphref27_text.l2 k2 a0 x5_8 ((x9_2 ++ x5_8) ++ t372) (wrap64 (x10_2 + 1)) l1_0 l1_1) else (none)) = some r := H
        have A30 := gA A300
        clear A300
        obtain ⟨c31, H⟩ := iS H
        have c31b0 := eq_true c31
        have c31b1 := decide_eq_true c31
        try have c31b2 : (9223372036854775807 < (x9_2 ++ x5_8).size + t372.size) = False := eq_false (Nat.not_lt.2 c31)
        try (have c31b2z := c31b2; simp only [ByteArray.size_append] at c31b2z)
        have H' := gA H
        clear H
        obtain ⟨hcz32_0, hcz32_1, hfz32_0, hfz32_1⟩ := gz2 BK361
        have p365 : 0 ≤ (0 : Int) := (by omega)
        have q365 : 0 < (l1_0.length : Int) := of_decide_eq_true (by assumption)
        obtain ⟨ad365, e365, hx365_0⟩ := Kd.at_int HR1_0.out 0 p365 q365
        cases e365
        have qi365 : (0 < l1_0.length) = True := eq_true (by omega)
        (try rw [show ((0 : Int)).toNat = 0 from rfl] at hx365_0)
        (try rw [Addr.add_zero'] at hx365_0)
        replace hx365_0 := (HB.out.cell (World.block_lt_of_cell? w _ hx365_0)).trans hx365_0
        replace p365 := eq_true p365
        replace q365 := eq_true q365
        go_wp2_with (first | ((with_reducible refine gate_callee (f := 25) rfl ?_); refine goesL_ (some 69) rfl rfl Try.func25 (by kernel_rfl) rfl #[.agg #[.slice (some ad365) l1_0.length c1_0, .slice A1_1 l1_1.length c1_1], .int .i64 x10_2] rfl (by (try simp only [List.map_toArray, List.map_cons, List.map_nil]); first | done | rfl | (simp only [List.length_drop, List.length_take]; rfl)) ?_; (with_reducible refine (triglyphref05_Item.calls k2 _ _ l1_0 (fun k_ => k_ < w.heap.size) _ _ l1_1 x10_2 t366 t369 _ ?side1 ?side2 ?side3 A29.out).mono ?_); (case side1 => exact gC HR1_0 HB); (case side2 => exact HC1_0.out); (case side3 => exact Kd.V_mk HC1_1.out (Kd.F_below (Kd.C_F k40_heap HR1_1.out) (gB HB))); rintro e w33 ⟨v367, v370, rfl, ho0, ho1, hb⟩; refine ⟨_, rfl, ?_⟩; have HO368 := gA (Kd.R_lower (Kd.R_mono (ok' := fun k_ => True) ho0 (fun _ hk_ => trivial)) (below_size (gB HB))); have HO371 := gA (Kd.N_lower (Kd.N_mono (ok' := fun k_ => some k_ ≠ (v367 : Value).ownBlock ∧ k_ ≠ gb361) ho1 (fun k_ hk_ => ⟨hk_.2, Or.elim hk_.1 (fun hs_ => fun e_ => Nat.not_le.2 hs_ (by rw [e_]; exact GW361.out)) (fun hn_ => (Kd.freshB (gK BK361) k_ hn_))⟩)) (below_size (gB HB))); replace BK361 := gA (blk_below (gK BK361) hb); replace HB := gA (below_step (gB HB) hb); (try clear hb); (try clear ho0); (try clear ho1); obtain ⟨Ao34, co34, eo34⟩ := Kd.R_slice HO368.out; subst eo34; obtain ⟨Ao35, co35, eo35⟩ := Kd.N_slice HO371.out; subst eo35) | ((with_reducible refine gate_callee (f := 16) rfl ?_); refine goesL_ (some 70) rfl rfl Try.func16 (by kernel_rfl) rfl #[.int .i64 a0, .agg #[.slice Ao34 t366.length co34, .slice Ao35 t369.length co35]] rfl (by (try simp only [List.map_toArray, List.map_cons, List.map_nil]); first | done | rfl | (simp only [List.length_drop, List.length_take]; rfl)) ?_; (with_reducible refine (ih k2 (by have := HJ8.out; have := HK2.out; omega) a0 _ _ t366 _ _ t369 t372 _ ?side1 ?side2 ?side3 ?side4 A30.out).mono ?_); (case side1 => repeat (first | exact (Kd.R_reads' HO368.out).2.2 | (with_reducible refine Kd.C_alloc ?_ _) | (with_reducible refine Kd.C_drewN ?_ _) | (with_reducible refine Kd.C_drew ?_))); (case side2 => exact (Kd.R_reads' HO368.out).2.1); (case side3 => repeat (first | exact (Kd.N_reads' HO371.out).2.2 | (with_reducible refine Kd.C_alloc ?_ _) | (with_reducible refine Kd.C_drewN ?_ _) | (with_reducible refine Kd.C_drew ?_))); (case side4 => exact (Kd.N_reads' HO371.out).2.1); rintro e w36 ⟨rfl, hb⟩; refine ⟨_, rfl, ?_⟩; replace HO368 := gA (Kd.R_below (gR HO368) hb); replace HO371 := gA (Kd.N_below (gN HO371) hb); replace BK361 := gA (blk_below (gK BK361) hb); replace HB := gA (below_step (gB HB) hb); (try clear hb)))
        go_roundg k2
        case measure => have := HJ8.out; have := HK2.out; omega
        case rel => exact ⟨((x9_2 ++ x5_8) ++ t372), (wrap64 (x10_2 + 1)), (rfl), (rfl), H', ⟨by have := HJ8.out; have := HK2.out; omega⟩, ⟨gK BK361⟩, ⟨gB HB⟩⟩
       ·rw [if_neg c27] at H
        have c27b0 : decide (0 < x10_2) = false := decide_eq_false c27
        clear c27
        replace H := Option.bind_eq_some_iff.mp H
        obtain ⟨⟨t373, t376⟩, A370, H⟩ := H
        replace H : ((triglyphref27_text.f k2 a0 t373 t376).bind fun t379 => (if x9_2.size + t379.size ≤ 9223372036854775807 then (triglyphref27_text.l2 k2 a0 x5_8 (x9_2 ++ t379) (wrap64 (x10_2 + 1)) l1_0 l1_1) else (none))) = some r := H
        have A37 := gA A370
        clear A370
        replace H := Option.bind_eq_some_iff.mp H
        obtain ⟨t379, A380, H⟩ := H
        replace H : (if x9_2.size + t379.size ≤ 9223372036854775807 then (triglyphref27_text.l2 k2 a0 x5_8 (x9_2 ++ t379) (wrap64 (x10_2 + 1)) l1_0 l1_1) else (none)) = some r := H
        have A38 := gA A380
        clear A380
        obtain ⟨c39, H⟩ := iS H
        have c39b0 := eq_true c39
        have c39b1 := decide_eq_true c39
        try have c39b2 : (9223372036854775807 < x9_2.size + t379.size) = False := eq_false (Nat.not_lt.2 c39)
        have H' := gA H
        clear H
        obtain ⟨hcz40_0, hcz40_1, hfz40_0, hfz40_1⟩ := gz2 BK361
        have p365 : 0 ≤ (0 : Int) := (by omega)
        have q365 : 0 < (l1_0.length : Int) := of_decide_eq_true (by assumption)
        obtain ⟨ad365, e365, hx365_0⟩ := Kd.at_int HR1_0.out 0 p365 q365
        cases e365
        have qi365 : (0 < l1_0.length) = True := eq_true (by omega)
        (try rw [show ((0 : Int)).toNat = 0 from rfl] at hx365_0)
        (try rw [Addr.add_zero'] at hx365_0)
        replace hx365_0 := (HB.out.cell (World.block_lt_of_cell? w _ hx365_0)).trans hx365_0
        replace p365 := eq_true p365
        replace q365 := eq_true q365
        go_wp2_with (first | ((with_reducible refine gate_callee (f := 25) rfl ?_); refine goesL_ (some 69) rfl rfl Try.func25 (by kernel_rfl) rfl #[.agg #[.slice (some ad365) l1_0.length c1_0, .slice A1_1 l1_1.length c1_1], .int .i64 x10_2] rfl (by (try simp only [List.map_toArray, List.map_cons, List.map_nil]); first | done | rfl | (simp only [List.length_drop, List.length_take]; rfl)) ?_; (with_reducible refine (triglyphref05_Item.calls k2 _ _ l1_0 (fun k_ => k_ < w.heap.size) _ _ l1_1 x10_2 t373 t376 _ ?side1 ?side2 ?side3 A37.out).mono ?_); (case side1 => exact gC HR1_0 HB); (case side2 => exact HC1_0.out); (case side3 => exact Kd.V_mk HC1_1.out (Kd.F_below (Kd.C_F k40_heap HR1_1.out) (gB HB))); rintro e w41 ⟨v374, v377, rfl, ho0, ho1, hb⟩; refine ⟨_, rfl, ?_⟩; have HO375 := gA (Kd.R_lower (Kd.R_mono (ok' := fun k_ => True) ho0 (fun _ hk_ => trivial)) (below_size (gB HB))); have HO378 := gA (Kd.N_lower (Kd.N_mono (ok' := fun k_ => some k_ ≠ (v374 : Value).ownBlock ∧ k_ ≠ gb361) ho1 (fun k_ hk_ => ⟨hk_.2, Or.elim hk_.1 (fun hs_ => fun e_ => Nat.not_le.2 hs_ (by rw [e_]; exact GW361.out)) (fun hn_ => (Kd.freshB (gK BK361) k_ hn_))⟩)) (below_size (gB HB))); replace BK361 := gA (blk_below (gK BK361) hb); replace HB := gA (below_step (gB HB) hb); (try clear hb); (try clear ho0); (try clear ho1); obtain ⟨Ao42, co42, eo42⟩ := Kd.R_slice HO375.out; subst eo42; obtain ⟨Ao43, co43, eo43⟩ := Kd.N_slice HO378.out; subst eo43) | ((with_reducible refine gate_callee (f := 16) rfl ?_); refine goesL_ (some 70) rfl rfl Try.func16 (by kernel_rfl) rfl #[.int .i64 a0, .agg #[.slice Ao42 t373.length co42, .slice Ao43 t376.length co43]] rfl (by (try simp only [List.map_toArray, List.map_cons, List.map_nil]); first | done | rfl | (simp only [List.length_drop, List.length_take]; rfl)) ?_; (with_reducible refine (ih k2 (by have := HJ8.out; have := HK2.out; omega) a0 _ _ t373 _ _ t376 t379 _ ?side1 ?side2 ?side3 ?side4 A38.out).mono ?_); (case side1 => repeat (first | exact (Kd.R_reads' HO375.out).2.2 | (with_reducible refine Kd.C_alloc ?_ _) | (with_reducible refine Kd.C_drewN ?_ _) | (with_reducible refine Kd.C_drew ?_))); (case side2 => exact (Kd.R_reads' HO375.out).2.1); (case side3 => repeat (first | exact (Kd.N_reads' HO378.out).2.2 | (with_reducible refine Kd.C_alloc ?_ _) | (with_reducible refine Kd.C_drewN ?_ _) | (with_reducible refine Kd.C_drew ?_))); (case side4 => exact (Kd.N_reads' HO378.out).2.1); rintro e w44 ⟨rfl, hb⟩; refine ⟨_, rfl, ?_⟩; replace HO375 := gA (Kd.R_below (gR HO375) hb); replace HO378 := gA (Kd.N_below (gN HO378) hb); replace BK361 := gA (blk_below (gK BK361) hb); replace HB := gA (below_step (gB HB) hb); (try clear hb)))
        go_roundg k2
        case measure => have := HJ8.out; have := HK2.out; omega
        case rel => exact ⟨(x9_2 ++ t379), (wrap64 (x10_2 + 1)), (rfl), (rfl), H', ⟨by have := HJ8.out; have := HK2.out; omega⟩, ⟨gK BK361⟩, ⟨gB HB⟩⟩
      ·rw [if_neg c26] at H
       have c26b0 := decide_eq_false c26
       clear c26
       obtain rfl := Option.some.inj H
       obtain ⟨hcz45_0, hcz45_1, hfz45_0, hfz45_1⟩ := gz2 BK361
       have p365 : 0 ≤ (0 : Int) := (by omega)
       have q365 : 0 < (l1_0.length : Int) := of_decide_eq_true (by assumption)
       obtain ⟨ad365, e365, hx365_0⟩ := Kd.at_int HR1_0.out 0 p365 q365
       cases e365
       have qi365 : (0 < l1_0.length) = True := eq_true (by omega)
       (try rw [show ((0 : Int)).toNat = 0 from rfl] at hx365_0)
       (try rw [Addr.add_zero'] at hx365_0)
       replace hx365_0 := (HB.out.cell (World.block_lt_of_cell? w _ hx365_0)).trans hx365_0
       replace p365 := eq_true p365
       replace q365 := eq_true q365
       go_wp2
       go_ret
       exact ⟨rfl, by repeat first | exact gB HB | refine below_set ?_ GE361.out⟩
theorem scc24.calls (k : Nat) : (∀ (a0 : Int) (a1_0 : Int) (a1_1 : Int) (A1_2 : Option Addr) (c1_2 : Nat) (l1_2 : List (S25)) (r : ByteArray) (w : World) (hr1_2 : Kd.C k25 w A1_2 l1_2.length l1_2) (hc1_2 : l1_2.length ≤ c1_2) (h : triglyphref27_cell.f k a0 a1_0 a1_1 l1_2 = some r),
  Calls Try.prog 24 #[.int .i64 a0, .agg #[.int .i64 a1_0, .int .i64 a1_1, .slice A1_2 l1_2.length c1_2]] w fun e w' => e = .returned (.string r) ∧ Below w.heap.size w w') ∧ (∀ (a0 : Int) (A1_0 : Option Addr) (c1_0 : Nat) (l1_0 : List Int) (A1_1 : Option Addr) (c1_1 : Nat) (l1_1 : List (S40)) (r : ByteArray) (w : World) (hr1_0 : Kd.C (Kd.int .i64) w A1_0 l1_0.length l1_0) (hc1_0 : l1_0.length ≤ c1_0) (hr1_1 : Kd.C k40 w A1_1 l1_1.length l1_1) (hc1_1 : l1_1.length ≤ c1_1) (h : triglyphref27_text.f k a0 l1_0 l1_1 = some r),
  Calls Try.prog 16 #[.int .i64 a0, .agg #[.slice A1_0 l1_0.length c1_0, .slice A1_1 l1_1.length c1_1]] w fun e w' => e = .returned (.string r) ∧ Below w.heap.size w w') := by
 induction k using Nat.strongRecOn with
 | _ k ih =>
 exact ⟨triglyphref27_cell.step k (fun k_ h_ => (ih k_ h_).1) (fun k_ h_ => (ih k_ h_).2), triglyphref27_text.step k (fun k_ h_ => (ih k_ h_).1) (fun k_ h_ => (ih k_ h_).2)⟩
theorem triglyphref27_cell.calls (k : Nat) : ∀ (a0 : Int) (a1_0 : Int) (a1_1 : Int) (A1_2 : Option Addr) (c1_2 : Nat) (l1_2 : List (S25)) (r : ByteArray) (w : World) (hr1_2 : Kd.C k25 w A1_2 l1_2.length l1_2) (hc1_2 : l1_2.length ≤ c1_2) (h : triglyphref27_cell.f k a0 a1_0 a1_1 l1_2 = some r),
  Calls Try.prog 24 #[.int .i64 a0, .agg #[.int .i64 a1_0, .int .i64 a1_1, .slice A1_2 l1_2.length c1_2]] w fun e w' => e = .returned (.string r) ∧ Below w.heap.size w w' := (scc24.calls k).1
theorem triglyphref27_text.calls (k : Nat) : ∀ (a0 : Int) (A1_0 : Option Addr) (c1_0 : Nat) (l1_0 : List Int) (A1_1 : Option Addr) (c1_1 : Nat) (l1_1 : List (S40)) (r : ByteArray) (w : World) (hr1_0 : Kd.C (Kd.int .i64) w A1_0 l1_0.length l1_0) (hc1_0 : l1_0.length ≤ c1_0) (hr1_1 : Kd.C k40 w A1_1 l1_1.length l1_1) (hc1_1 : l1_1.length ≤ c1_1) (h : triglyphref27_text.f k a0 l1_0 l1_1 = some r),
  Calls Try.prog 16 #[.int .i64 a0, .agg #[.slice A1_0 l1_0.length c1_0, .slice A1_1 l1_1.length c1_1]] w fun e w' => e = .returned (.string r) ∧ Below w.heap.size w w' := (scc24.calls k).2
end Go.Proofs.Ytbijepjnbolpiaa.P
