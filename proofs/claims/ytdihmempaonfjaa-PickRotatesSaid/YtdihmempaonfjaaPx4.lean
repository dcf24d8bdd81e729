/- Written by a program of this session: the functions that the laws reach, what each comes to, and each law as it is stated, for every input. No condition. -/
import Derived.Test.YtdihmempaonfjaaPx0
import Derived.Test.YtdihmempaonfjaaPx1
import Derived.Test.YtdihmempaonfjaaPx3
namespace Go.Proofs.Ytdihmempaonfjaa.P
open Go.RowKit Go.Proofs.YtdihmempaonfjaaW.PrintWords Go.Proofs.YtdihmempaonfjaaW.PrintLast Go.Proofs.YtdihmempaonfjaaW.PrintMore
attribute [local go_sem] max2_int min2_int max_two min_two max_three min_three max_four min_four   -- for this text's walks alone
set_option linter.unusedVariables false
set_option linter.unusedSimpArgs false
mutual
def pick_from.l0 : Nat → List (S45) → Int → Int → List Int → List (S45) → List Int → List (S45) → Option (List Int × (List (S45)) × Int)
 | 0, _, _, _, _, _, _, _ => none
 | k + 1, x31, x32, x33, x185000, x185001, x186000, x186001 => if x33 < x32 then (if 0 ≤ x33 then (if x33 < (x31.length : Int) then (if ((rd_T45 x31 x33).f0) = 0 then (if ((rd_T45 x31 x33).f1) < 0 then (none) else (if 0 < (x186000.length : Int) then (if ((rd_T45 x31 x33).f1) ≥ (rd x186000 0) then (some (([] : List Int), ([] : List (S45)), 8)) else (pick_from.l0 k x31 x32 (wrap64 (x33 + 1)) x185000 x185001 x186000 x186001)) else (none))) else (none)) else (none)) else (none)) else ((some (([] : List Int) : List Int)).bind fun y190 => (if y190.length + x185000.length < 17592186044416 then ((some (y190 ++ x185000 : List Int)).bind fun y193 => (if 1 ≤ (x186000.length : Int) then (if y193.length + (x186000.drop 1).length < 17592186044416 then ((some (y193 ++ (x186000.drop 1) : List Int)).bind fun y197 => ((arr_Size.f k y197).bind fun bt201 => (if bt201.2 = 0 then ((pick_inner.f k x186000 x186001).bind fun t203 => (pick_from.l1 k t203 x185001 (x185001.length : Int) 0 x186000 x186001 y197 ([] : List (S45)))) else (none)))) else (none)) else (none))) else (none)))
def pick_from.l1 : Nat → Int → List (S45) → Int → Int → List Int → List (S45) → List Int → List (S45) → Option (List Int × (List (S45)) × Int)
 | 0, _, _, _, _, _, _, _, _ => none
 | k + 1, x11, x79, x80, x81, x186000, x186001, x201000, x201001 => if x81 < x80 then (if 0 ≤ x81 then (if x81 < (x79.length : Int) then (if 0 ≤ (wrap64 (((rd_T45 x79 x81).f1) * x11)) then (if (wrap64 (((rd_T45 x79 x81).f1) * x11)) ≤ (wrap64 ((wrap64 (((rd_T45 x79 x81).f1) + 1)) * x11)) then (if (wrap64 ((wrap64 (((rd_T45 x79 x81).f1) + 1)) * x11)) ≤ (x186001.length : Int) then ((some ((x186001.take ((wrap64 ((wrap64 (((rd_T45 x79 x81).f1) + 1)) * x11)) : Int).toNat).drop ((wrap64 (((rd_T45 x79 x81).f1) * x11)) : Int).toNat : List (S45))).bind fun y206 => (if x201001.length + y206.length < 3518437208883 then (pick_from.l1 k x11 x79 x80 (wrap64 (x81 + 1)) x186000 x186001 x201000 (x201001 ++ y206)) else (none))) else (none)) else (none)) else (none)) else (none)) else (none)) else (some (x201000, x201001, 0))
end
def pick_from.f (k : Nat) (l0_0 : List Int) (l0_1 : List (S45)) (l1_0 : List Int) (l1_1 : List (S45)) : Option (List Int × (List (S45)) × Int) := if (l1_0.length : Int) = 0 then (none) else (if (wrap64 ((wrap64 ((l0_0.length : Int) + (l1_0.length : Int))) - 1)) > 8 then (none) else (pick_from.l0 k l0_1 (l0_1.length : Int) 0 l0_0 l0_1 l1_0 l1_1))
theorem pick_from.mono_l : ∀ k, (∀ y0 y1 y2 y3 y4 y5 y6, LeO (pick_from.l0 k y0 y1 y2 y3 y4 y5 y6) (pick_from.l0 (k + 1) y0 y1 y2 y3 y4 y5 y6)) ∧ (∀ y0 y1 y2 y3 y4 y5 y6 y7, LeO (pick_from.l1 k y0 y1 y2 y3 y4 y5 y6 y7) (pick_from.l1 (k + 1) y0 y1 y2 y3 y4 y5 y6 y7))
 | 0 => ⟨fun _ _ _ _ _ _ _ r h => by simp [pick_from.l0] at h, fun _ _ _ _ _ _ _ _ r h => by simp [pick_from.l1] at h⟩
 | k + 1 => by
  obtain ⟨ih0, ih1⟩ := pick_from.mono_l k
  refine ⟨?_, ?_⟩
  ·intro y0 y1 y2 y3 y4 y5 y6
   unfold pick_from.l0
   repeat' first
   | (with_reducible exact ih0 _ _ _ _ _ _ _)
   | (with_reducible exact ih1 _ _ _ _ _ _ _ _)
   | (with_reducible exact arr_Size.mono _ _)
   | (with_reducible exact pick_inner.mono _ _ _)
   | (with_reducible exact LeO.refl _)
   | (with_reducible exact LeO.none _)
   | (with_reducible refine LeO.ite ?_ ?_)
   | (with_reducible refine LeO.bind ?_ (fun _ => ?_))


   | exact arr_Size.mono _ _
   | exact pick_inner.mono _ _ _



  ·intro y0 y1 y2 y3 y4 y5 y6 y7
   unfold pick_from.l1
   repeat' first
   | (with_reducible exact ih0 _ _ _ _ _ _ _)
   | (with_reducible exact ih1 _ _ _ _ _ _ _ _)
   | (with_reducible exact arr_Size.mono _ _)
   | (with_reducible exact pick_inner.mono _ _ _)
   | (with_reducible exact LeO.refl _)
   | (with_reducible exact LeO.none _)
   | (with_reducible refine LeO.ite ?_ ?_)
   | (with_reducible refine LeO.bind ?_ (fun _ => ?_))


   | exact arr_Size.mono _ _
   | exact pick_inner.mono _ _ _
theorem pick_from.mono : ∀ a0 a1 a2 a3 k, LeO (pick_from.f k a0 a1 a2 a3) (pick_from.f (k + 1) a0 a1 a2 a3) := by
 intro a0 a1 a2 a3 k
 obtain ⟨ih0, ih1⟩ := pick_from.mono_l k
 unfold pick_from.f
 repeat' first
   | (with_reducible exact ih0 _ _ _ _ _ _ _)
   | (with_reducible exact ih1 _ _ _ _ _ _ _ _)
   | (with_reducible exact arr_Size.mono _ _)
   | (with_reducible exact pick_inner.mono _ _ _)
   | (with_reducible exact LeO.refl _)
   | (with_reducible exact LeO.none _)
   | (with_reducible refine LeO.ite ?_ ?_)
   | (with_reducible refine LeO.bind ?_ (fun _ => ?_))


   | exact arr_Size.mono _ _
   | exact pick_inner.mono _ _ _
def pick_from.T8 : Bool × List (List Nat × List Nat) := (true, [([], []), ([0], [0]), ([1], [1]), ([2], [2]), ([3], [3]), ([4, 3], [3, 4]), ([3], [3]), ([6, 3], [3, 6]), ([7, 3], [3, 7]), ([8, 3], [3, 8]), ([5, 9, 3], [3, 5, 9]), ([3, 10], [3, 10]), ([11, 3], [11])])
def pick_from.B8 : List Nat := [0, 1, 3, 7, 15, 31, 15, 79, 207, 463, 1023, 2047, 4095]
theorem pick_from.tab8 : rtab .any (opsOf Try.f22 8) = pick_from.T8 := by kernel_rfl
theorem pick_from.bits8 : waitsOk pick_from.T8.2 pick_from.B8 = true := by kernel_rfl
def pick_from.T11 : Bool × List (List Nat × List Nat) := (true, [([], []), ([], []), ([1], [1]), ([0, 2], [0, 2]), ([], []), ([4], [4]), ([5], [5]), ([3, 6, 3], [3, 6]), ([7], [7]), ([], []), ([9, 8, 7, 0, 1, 2, 3, 4, 5, 6, 7, 8, 9], [8, 9])])
def pick_from.B11 : List Nat := [0, 0, 2, 7, 0, 16, 48, 127, 255, 0, 1023]
theorem pick_from.tab11 : rtab .any (opsOf Try.f22 11) = pick_from.T11 := by kernel_rfl
theorem pick_from.bits11 : waitsOk pick_from.T11.2 pick_from.B11 = true := by kernel_rfl
def pick_from.T19 : Bool × List (List Nat × List Nat) := (true, [([], []), ([0], [0]), ([], []), ([2], [2]), ([], []), ([4], [4]), ([], []), ([5, 6], [5, 6]), ([], []), ([8], [8]), ([9], [9]), ([], []), ([10, 11], [10, 11]), ([3, 7, 12], [3, 7, 12]), ([1, 13], [1, 13]), ([0, 1, 2, 3, 4, 5, 6, 7, 8, 9, 10, 11, 12, 13, 14], []), ([15, 14, 14, 0, 1, 2, 3, 4, 5, 6, 7, 8, 9, 10, 11, 12, 13, 14], [14, 15])])
def pick_from.B19 : List Nat := [0, 1, 0, 4, 0, 16, 0, 112, 0, 256, 768, 0, 3840, 8188, 16383, 32767, 65535]
theorem pick_from.tab19 : rtab .any (opsOf Try.f22 19) = pick_from.T19 := by kernel_rfl
theorem pick_from.bits19 : waitsOk pick_from.T19.2 pick_from.B19 = true := by kernel_rfl
set_option maxHeartbeats 8000000 in
set_option maxRecDepth 100000 in
theorem pick_from.calls (k : Nat) (A0_0 : Option Addr) (c0_0 : Nat) (l0_0 : List Int) (A0_1 : Option Addr) (c0_1 : Nat) (l0_1 : List (S45)) (A1_0 : Option Addr) (c1_0 : Nat) (l1_0 : List Int) (P1_1_ : Nat → Prop) (A1_1 : Option Addr) (c1_1 : Nat) (l1_1 : List (S45)) (r1 : List Int) (r2 : List (S45)) (r3 : Int) (w : World) (hr0_0 : Kd.C (Kd.int .i64) w A0_0 l0_0.length l0_0) (hc0_0 : l0_0.length ≤ c0_0) (hr0_1 : Kd.C k45 w A0_1 l0_1.length l0_1) (hc0_1 : l0_1.length ≤ c0_1) (hr1_0 : Kd.C (Kd.int .i64) w A1_0 l1_0.length l1_0) (hc1_0 : l1_0.length ≤ c1_0) (hs1_1 : Kd.V k45 45 w w.heap.size (fun k_ => P1_1_ k_) (.slice A1_1 l1_1.length c1_1) l1_1) (h : pick_from.f k l0_0 l0_1 l1_0 l1_1 = some (r1, r2, r3)) :
  Calls Try.prog 22 #[.agg #[.slice A0_0 l0_0.length c0_0, .slice A0_1 l0_1.length c0_1], .agg #[.slice A1_0 l1_0.length c1_0, .slice A1_1 l1_1.length c1_1]] w fun e w' => ∃ v0_ v1_ : Value, e = .returned (.tuple #[.agg #[v0_, v1_], .int .i64 r3]) ∧ Kd.R (Kd.int .i64) 3 w' w.heap.size (fun k_ => (w.heap.size ≤ k_)) v0_ r1 ∧ Kd.N k45 45 w' w.heap.size (fun k_ => (P1_1_ k_ ∨ w.heap.size ≤ k_) ∧ some k_ ≠ (v0_ : Value).ownBlock) v1_ r2 ∧ Below w.heap.size w w' := by
 have hu25 := Try.underlying25
 have hu45 := Try.underlying45
 have HR0_0 := gA hr0_0
 have HC0_0 := gA hc0_0
 clear hr0_0 hc0_0
 have HR0_1 := gA hr0_1
 have HC0_1 := gA hc0_1
 clear hr0_1 hc0_1
 have HR1_0 := gA hr1_0
 have HC1_0 := gA hc1_0
 clear hr1_0 hc1_0
 have HO1_1 := gA (show Kd.V k45 45 w w.heap.size (fun k_ => (P1_1_ k_ ∨ w.heap.size ≤ k_)) (.slice A1_1 l1_1.length c1_1) l1_1 from Kd.V_mono hs1_1 (fun k_ hk => .inl hk))
 have HB := gA (Below.refl w.heap.size w)
 have H : (if (l1_0.length : Int) = 0 then (none) else (if (wrap64 ((wrap64 ((l0_0.length : Int) + (l1_0.length : Int))) - 1)) > 8 then (none) else (pick_from.l0 k l0_1 (l0_1.length : Int) 0 l0_0 l0_1 l1_0 l1_1))) = some (r1, r2, r3) := h
 clear h
 obtain ⟨c3, H⟩ := iN H
 have c3b0 : ((l1_0.length : Int) == 0) = false := beq_eq_false_iff_ne.mpr c3
 have c3b1 : ((l1_0.length : Int) != 0) = true := bne_iff_ne.mpr c3
 have c3b2 : ¬ (l1_0 = []) := fun h_ => c3 (by rw [h_]; rfl)
 obtain ⟨c4, H⟩ := iN H
 have c4b0 : decide (8 < (wrap64 ((wrap64 ((l0_0.length : Int) + (l1_0.length : Int))) - 1))) = false := decide_eq_false c4
 clear c4
 have H' := gA H
 clear H
 go_enter Try.func22, Try.ntmps22
 go_wp2_with (first | ((with_reducible refine gate_dst (N := 2) rfl ?_); (try (refine gate_guard (by rfl) ?_; dsimp only)); refine box_event ?hg (N := 2) ?hd (cs := #[.slice A0_0 l0_0.length c0_0, .slice A0_1 l0_1.length c0_1]) (t := 25) ?hr ?_; (case hd => rfl); (case hg => rfl); (case hr => first | (go_simp; done) | (go_simp; rfl)); intro gb184 hg w5 hbox hb; replace HO1_1 := gA (Kd.V_below (Kd.V_elderB (gV HO1_1) gb184 (Nat.le_of_eq hg.symm)) hb); have BK184 := gA (hbox); have GW184 := gA ((by rw [hg]; exact (below_size (gB HB)) : w.heap.size ≤ gb184)); have GE184 := gA ((by rw [hg]; exact (below_size (gB HB)) : w.heap.size ≤ gb184)); replace HB := gA (below_step (gB HB) hb); clear hb hbox hg) | ((with_reducible refine gate_dst (N := 3) rfl ?_); (try (refine gate_guard (by rfl) ?_; dsimp only)); refine box_event ?hg (N := 3) ?hd (cs := #[.slice A1_0 l1_0.length c1_0, .slice A1_1 l1_1.length c1_1]) (t := 25) ?hr ?_; (case hd => rfl); (case hg => rfl); (case hr => first | (go_simp; done) | (go_simp; rfl)); intro gb185 hg w6 hbox hb; replace HO1_1 := gA (Kd.V_below (Kd.V_elderB (gV HO1_1) gb185 (Nat.le_of_eq hg.symm)) hb); have BK185 := gA (hbox); have GW185 := gA ((by rw [hg]; exact (below_size (by repeat (first | (with_reducible first | exact HB.out | apply below_alloc | apply pw_below_drewN | apply below_drew1 | refine below_set ?_ GE184.out) | exact HB.out))) : w.heap.size ≤ gb185)); have GE185 := gA ((by rw [hg]; exact (below_size (by repeat (first | (with_reducible first | exact HB.out | apply below_alloc | apply pw_below_drewN | apply below_drew1 | refine below_set ?_ GE184.out) | exact HB.out))) : w.heap.size ≤ gb185)); replace HB := gA (below_step (by repeat (first | (with_reducible first | exact HB.out | apply below_alloc | apply pw_below_drewN | apply below_drew1 | refine below_set ?_ GE184.out) | exact HB.out)) hb); have NB184_185 := gA ((by rw [hg]; exact Nat.ne_of_lt (blk_lt (gK BK184)) : gb184 ≠ gb185)); have NB185_184 := gA ((by rw [hg]; exact Nat.ne_of_gt (blk_lt (gK BK184)) : gb185 ≠ gb184)); replace BK184 := gA (blk_below (gK BK184) hb); clear hb hbox hg) | ((with_reducible refine gate_dst (N := 4) rfl ?_); (try (refine gate_guard (by rfl) ?_; dsimp only)); refine box_event ?hg (N := 4) ?hd (cs := #[.slice none 0 0, .slice none 0 0]) (t := 25) ?hr ?_; (case hd => rfl); (case hg => rfl); (case hr => first | (go_simp; done) | (go_simp; rfl)); intro gb186 hg w7 hbox hb; replace HO1_1 := gA (Kd.V_below (Kd.V_elderB (gV HO1_1) gb186 (Nat.le_of_eq hg.symm)) hb); have BK186 := gA (hbox); have GW186 := gA ((by rw [hg]; exact (below_size (gB HB)) : w.heap.size ≤ gb186)); have GE186 := gA ((by rw [hg]; exact (below_size (gB HB)) : w.heap.size ≤ gb186)); replace HB := gA (below_step (by repeat (first | (with_reducible first | exact HB.out | apply below_alloc | apply pw_below_drewN | apply below_drew1 | refine below_set ?_ GE184.out | refine below_set ?_ GE185.out) | exact HB.out)) hb); have NB184_186 := gA ((by rw [hg]; exact Nat.ne_of_lt (blk_lt (gK BK184)) : gb184 ≠ gb186)); have NB186_184 := gA ((by rw [hg]; exact Nat.ne_of_gt (blk_lt (gK BK184)) : gb186 ≠ gb184)); replace BK184 := gA (blk_below (gK BK184) hb); have NB185_186 := gA ((by rw [hg]; exact Nat.ne_of_lt (blk_lt (gK BK185)) : gb185 ≠ gb186)); have NB186_185 := gA ((by rw [hg]; exact Nat.ne_of_gt (blk_lt (gK BK185)) : gb186 ≠ gb185)); replace BK185 := gA (blk_below (gK BK185) hb); clear hb hbox hg; have hnb8 := NB185_184.out; have hnc8 := NB184_185.out; have hnb9 := NB185_186.out; have hnc9 := NB186_185.out; obtain ⟨hcz10_0, hcz10_1, hfz10_0, hfz10_1⟩ := gz2 BK185; have hnb11 := NB184_186.out; have hnc11 := NB186_184.out; obtain ⟨hcz12_0, hcz12_1, hfz12_0, hfz12_1⟩ := gz2 BK184))
 go_loopg [33] k (fun kq v33 w' => ∃ (x33_1 : Int), v33 = .int .i64 x33_1 ∧ Aside0 (pick_from.l0 kq l0_1 (l0_1.length : Int) x33_1 l0_0 l0_1 l1_0 l1_1 = some (r1, r2, r3)) ∧ Aside0 (kq ≤ k) ∧ Aside0 (Kd.V k45 45 w' w.heap.size (fun k_ => (P1_1_ k_ ∨ w.heap.size ≤ k_) ∧ k_ ≠ gb184 ∧ k_ ≠ gb185 ∧ k_ ≠ gb186) (.slice A1_1 l1_1.length c1_1) l1_1) ∧ Aside0 (w'.heap[gb184]? = some (.cells #[(.slice A0_0 l0_0.length c0_0), (.slice A0_1 l0_1.length c0_1)] 25 (0, 0))) ∧ Aside0 (w'.heap[gb185]? = some (.cells #[(.slice A1_0 l1_0.length c1_0), (.slice A1_1 l1_1.length c1_1)] 25 (0, 0))) ∧ Aside0 (w'.heap[gb186]? = some (.cells #[(.slice none 0 0), (.slice none 0 0)] 25 (0, 0))) ∧ Aside0 (Below w.heap.size w w'))
 case atStart => exact ⟨(0), (rfl), H', ⟨Nat.le_refl _⟩, ⟨Kd.V_mono HO1_1.out (fun _ hk => by first | exact ⟨hk.1.1.1, ⟨hk.1.1.2, ⟨hk.1.2, hk.2⟩⟩⟩ | (simp_all; done))⟩, ⟨gK BK184⟩, ⟨gK BK185⟩, ⟨gK BK186⟩, ⟨by repeat first | exact gB HB | refine below_set ?_ GE184.out | refine below_set ?_ GE185.out | refine below_set ?_ GE186.out⟩⟩
 case round =>
  clear H'
  try clear c1
  try clear c2
  try clear p2
  try clear c3
  try clear c3b0
  try clear c3b1
  try clear c3b2
  try clear c4
  try clear c4b0
  try clear p6
  try clear c8
  try clear c9
  try clear c11
  try clear hcz10_0
  try clear hcz10_1
  try clear hcz12_0
  try clear hcz12_1
  try clear hfz10_0
  try clear hfz10_1
  try clear hfz12_0
  try clear hfz12_1
  obtain ⟨x33_1, rfl, HA, HK1, HO_186001, BK184, BK185, BK186, HB⟩ := hrel
  cases gk with
  | zero => exact absurd HA.out (by simp [pick_from.l0])
  | succ k1 =>
   have H := HA.out; clear HA
   simp only [pick_from.l0] at H
   by_cases c13 : x33_1 < (l0_1.length : Int)
   ·rw [if_pos c13] at H
    have c13b0 := decide_eq_true c13
    clear c13
    obtain ⟨c14, H⟩ := iS H
    have c14b0 := decide_eq_true c14
    clear c14
    obtain ⟨c15, H⟩ := iS H
    have c15b0 := decide_eq_true c15
    clear c15
    obtain ⟨c16, H⟩ := iS H
    have c16b0 : (((rd_T45 l0_1 x33_1).f0) == 0) = true := beq_iff_eq.mpr c16
    have c16b1 : (((rd_T45 l0_1 x33_1).f0) != 0) = false := bne_eq_false_iff_eq.mpr c16
    clear c16
    obtain ⟨c17, H⟩ := iN H
    have c17b0 := decide_eq_false c17
    clear c17
    obtain ⟨c18, H⟩ := iS H
    have c18b0 := decide_eq_true c18
    have c18b1 : decide (0 < l1_0.length) = true := decide_eq_true (by omega)
    clear c18
    by_cases c19 : ((rd_T45 l0_1 x33_1).f1) ≥ (rd l1_0 0)
    ·rw [if_pos c19] at H
     have c19b0 : decide ((rd l1_0 0) ≤ ((rd_T45 l0_1 x33_1).f1)) = true := decide_eq_true c19
     clear c19
     simp only [Option.some.injEq, Prod.mk.injEq] at H
     obtain ⟨rfl, rfl, rfl⟩ := H
     have p187 : 0 ≤ (x33_1 : Int) := of_decide_eq_true (by assumption)
     have q187 : x33_1 < (l0_1.length : Int) := of_decide_eq_true (by assumption)
     obtain ⟨ad187, A187_2, c187_2, e187, hx187_0, hx187_1, hx187_2, hl187_2, hi187_2⟩ := at_T45 HR0_1.out x33_1 p187 q187
     cases e187
     replace hx187_0 := (HB.out.cell (World.block_lt_of_cell? w _ hx187_0)).trans hx187_0
     replace hx187_1 := (HB.out.cell (World.block_lt_of_cell? w _ hx187_1)).trans hx187_1
     replace hx187_2 := (HB.out.cell (World.block_lt_of_cell? w _ hx187_2)).trans hx187_2
     have HR187_2 := gA hi187_2
     have HC187_2 := gA hl187_2
     clear hi187_2 hl187_2
     replace p187 := eq_true p187
     replace q187 := eq_true q187
     try go_wp2_with (first | ((with_reducible refine gate_dst (N := 7) rfl ?_); (try (refine gate_guard (by rfl) ?_; dsimp only)); refine box_event ?hg (N := 7) ?hd (cs := #[.int .i64 0, .int .i64 0, .slice none 0 0]) (t := 45) ?hr ?_; (case hd => rfl); (case hg => rfl); (case hr => first | (go_simp; done) | (go_simp; rfl)); intro gb188 hg w20 hbox hb; replace HO_186001 := gA (Kd.V_below (Kd.V_elderB (gV HO_186001) gb188 (Nat.le_of_eq hg.symm)) hb); have BK188 := gA (hbox); have GW188 := gA ((by rw [hg]; exact (below_size (gB HB)) : w.heap.size ≤ gb188)); have GE188 := gA ((by rw [hg]; exact (below_size (gB HB)) : w.heap.size ≤ gb188)); replace HB := gA (below_step (gB HB) hb); have NB184_188 := gA ((by rw [hg]; exact Nat.ne_of_lt (blk_lt (gK BK184)) : gb184 ≠ gb188)); have NB188_184 := gA ((by rw [hg]; exact Nat.ne_of_gt (blk_lt (gK BK184)) : gb188 ≠ gb184)); replace BK184 := gA (blk_below (gK BK184) hb); have NB185_188 := gA ((by rw [hg]; exact Nat.ne_of_lt (blk_lt (gK BK185)) : gb185 ≠ gb188)); have NB188_185 := gA ((by rw [hg]; exact Nat.ne_of_gt (blk_lt (gK BK185)) : gb188 ≠ gb185)); replace BK185 := gA (blk_below (gK BK185) hb); have NB186_188 := gA ((by rw [hg]; exact Nat.ne_of_lt (blk_lt (gK BK186)) : gb186 ≠ gb188)); have NB188_186 := gA ((by rw [hg]; exact Nat.ne_of_gt (blk_lt (gK BK186)) : gb188 ≠ gb186)); replace BK186 := gA (blk_below (gK BK186) hb); clear hb hbox hg; have hnb21 := NB188_184.out; have hnc21 := NB184_188.out; have hnb22 := NB188_185.out; have hnc22 := NB185_188.out; have hnb23 := NB188_186.out; have hnc23 := NB186_188.out; obtain ⟨hcz24_0, hcz24_1, hcz24_2, hfz24_0, hfz24_1, hfz24_2⟩ := gz3 BK188))
     have n0_ : Aside0 (Kd.V k45 45 (((w20.setCell ⟨gb188, 0, none⟩ (.int .i64 ((rd_T45 l0_1 x33_1).f0))).setCell ⟨gb188, 1, none⟩ (.int .i64 ((rd_T45 l0_1 x33_1).f1))).setCell ⟨gb188, 2, none⟩ (.slice A187_2 ((rd_T45 l0_1 x33_1).f2).length c187_2)) w.heap.size (fun k_ => (P1_1_ k_ ∨ w.heap.size ≤ k_) ∧ k_ ≠ gb184 ∧ k_ ≠ gb185 ∧ k_ ≠ gb186 ∧ k_ ≠ gb188) (.slice A1_1 l1_1.length c1_1) l1_1) := ⟨Kd.V_mono (Kd.V_far (p := ⟨gb188, 2, none⟩) (Kd.V_far (p := ⟨gb188, 1, none⟩) (Kd.V_far (p := ⟨gb188, 0, none⟩) (Kd.V_mono HO_186001.out (fun k_ hk => (⟨hk, hk.2⟩ : _ ∧ k_ ≠ gb188))) (fun _ hk => hk.2) (.int .i64 ((rd_T45 l0_1 x33_1).f0))) (fun _ hk => hk.2) (.int .i64 ((rd_T45 l0_1 x33_1).f1))) (fun _ hk => hk.2) (.slice A187_2 ((rd_T45 l0_1 x33_1).f2).length c187_2)) (fun _ hk => by first | exact ⟨hk.1.1.1, ⟨hk.1.1.2.1, ⟨hk.1.1.2.2.1, ⟨hk.1.1.2.2.2, hk.1.2⟩⟩⟩⟩ | (simp_all; done))⟩
     have n1_ : Aside0 ((((w20.setCell ⟨gb188, 0, none⟩ (.int .i64 ((rd_T45 l0_1 x33_1).f0))).setCell ⟨gb188, 1, none⟩ (.int .i64 ((rd_T45 l0_1 x33_1).f1))).setCell ⟨gb188, 2, none⟩ (.slice A187_2 ((rd_T45 l0_1 x33_1).f2).length c187_2)).heap[gb184]? = some (.cells #[.slice A0_0 l0_0.length c0_0, .slice (some ad187) l0_1.length c0_1] 25 (0, 0))) := ⟨by refine blk_far ?_ NB184_188.out _; refine blk_far ?_ NB184_188.out _; refine blk_far ?_ NB184_188.out _; exact gK BK184⟩
     have n2_ : Aside0 ((((w20.setCell ⟨gb188, 0, none⟩ (.int .i64 ((rd_T45 l0_1 x33_1).f0))).setCell ⟨gb188, 1, none⟩ (.int .i64 ((rd_T45 l0_1 x33_1).f1))).setCell ⟨gb188, 2, none⟩ (.slice A187_2 ((rd_T45 l0_1 x33_1).f2).length c187_2)).heap[gb185]? = some (.cells #[.slice A1_0 l1_0.length c1_0, .slice A1_1 l1_1.length c1_1] 25 (0, 0))) := ⟨by refine blk_far ?_ NB185_188.out _; refine blk_far ?_ NB185_188.out _; refine blk_far ?_ NB185_188.out _; exact gK BK185⟩
     have n3_ : Aside0 ((((w20.setCell ⟨gb188, 0, none⟩ (.int .i64 ((rd_T45 l0_1 x33_1).f0))).setCell ⟨gb188, 1, none⟩ (.int .i64 ((rd_T45 l0_1 x33_1).f1))).setCell ⟨gb188, 2, none⟩ (.slice A187_2 ((rd_T45 l0_1 x33_1).f2).length c187_2)).heap[gb186]? = some (.cells #[.slice none 0 0, .slice none 0 0] 25 (0, 0))) := ⟨by refine blk_far ?_ NB186_188.out _; refine blk_far ?_ NB186_188.out _; refine blk_far ?_ NB186_188.out _; exact gK BK186⟩
     have n4_ : Aside0 ((((w20.setCell ⟨gb188, 0, none⟩ (.int .i64 ((rd_T45 l0_1 x33_1).f0))).setCell ⟨gb188, 1, none⟩ (.int .i64 ((rd_T45 l0_1 x33_1).f1))).setCell ⟨gb188, 2, none⟩ (.slice A187_2 ((rd_T45 l0_1 x33_1).f2).length c187_2)).heap[gb188]? = some (.cells #[.int .i64 ((rd_T45 l0_1 x33_1).f0), .int .i64 ((rd_T45 l0_1 x33_1).f1), .slice A187_2 ((rd_T45 l0_1 x33_1).f2).length c187_2] 45 (0, 0))) := ⟨by refine blk_put (cs := #[.int .i64 ((rd_T45 l0_1 x33_1).f0), .int .i64 ((rd_T45 l0_1 x33_1).f1), .slice none 0 0]) ?_ 2 _ rfl; refine blk_put (cs := #[.int .i64 ((rd_T45 l0_1 x33_1).f0), .int .i64 0, .slice none 0 0]) ?_ 1 _ rfl; refine blk_put (cs := #[.int .i64 0, .int .i64 0, .slice none 0 0]) ?_ 0 _ rfl; exact gK BK188⟩
     have n5_ : Aside0 (Below w.heap.size w (((w20.setCell ⟨gb188, 0, none⟩ (.int .i64 ((rd_T45 l0_1 x33_1).f0))).setCell ⟨gb188, 1, none⟩ (.int .i64 ((rd_T45 l0_1 x33_1).f1))).setCell ⟨gb188, 2, none⟩ (.slice A187_2 ((rd_T45 l0_1 x33_1).f2).length c187_2))) := ⟨by repeat first | exact gB HB | refine below_set ?_ GE184.out | refine below_set ?_ GE185.out | refine below_set ?_ GE186.out | refine below_set ?_ GE188.out⟩
     (try clear HO_186001)
     generalize (((w20.setCell ⟨gb188, 0, none⟩ (.int .i64 ((rd_T45 l0_1 x33_1).f0))).setCell ⟨gb188, 1, none⟩ (.int .i64 ((rd_T45 l0_1 x33_1).f1))).setCell ⟨gb188, 2, none⟩ (.slice A187_2 ((rd_T45 l0_1 x33_1).f2).length c187_2)) = w25 at n0_ n1_ n2_ n3_ n4_ n5_ ⊢
     have HO_186001 := n0_; have BK184 := n1_
     have BK185 := n2_; have BK186 := n3_
     have BK188 := n4_; have HB := n5_
     clear n0_ n1_ n2_ n3_ n4_ n5_
     replace HO_186001 := gA (Kd.V_drew HO_186001.out); replace BK184 := gA (blk_drew BK184.out); replace BK185 := gA (blk_drew BK185.out); replace BK186 := gA (blk_drew BK186.out); replace BK188 := gA (blk_drew BK188.out); replace HB := gA (below_drew1 HB.out)
     have p189 : 0 ≤ (0 : Int) := (by omega)
     have q189 : 0 < (l1_0.length : Int) := of_decide_eq_true (by assumption)
     obtain ⟨ad189, e189, hx189_0⟩ := Kd.at_int HR1_0.out 0 p189 q189
     have hw189_0 := hx189_0
     (try rw [show ((0 : Int)).toNat = 0 from rfl] at hw189_0)
     (try rw [show 0 * 1 = 0 from rfl] at hw189_0)
     (try rw [Addr.add_zero'] at hw189_0)
     cases e189
     have qi189 : (0 < l1_0.length) = True := eq_true (by omega)
     (try rw [show ((0 : Int)).toNat = 0 from rfl] at hx189_0)
     (try rw [Addr.add_zero'] at hx189_0)
     replace hx189_0 := (HB.out.cell (World.block_lt_of_cell? w _ hx189_0)).trans hx189_0
     replace p189 := eq_true p189
     replace q189 := eq_true q189
     refine start_ (n := 13) (S := fun w' => w'.cell? ⟨gb188, 0, none⟩ = some (.int .i64 ((rd_T45 l0_1 x33_1).f0)) ∧ w'.cell? ⟨gb188, 1, none⟩ = some (.int .i64 ((rd_T45 l0_1 x33_1).f1)) ∧ w'.cell? ⟨gb188, 2, none⟩ = some (.slice A187_2 ((rd_T45 l0_1 x33_1).f2).length c187_2) ∧ w'.cell? ⟨gb185, 0, none⟩ = some (.slice (some ad189) l1_0.length c1_0) ∧ w'.cell? ⟨gb185, 1, none⟩ = some (.slice A1_1 l1_1.length c1_1) ∧ w'.cell? ad189 = some (.int .i64 (rd l1_0 0))) (ds := []) #[false, false, false, false, false, false, false, false, false, false, false, false, false] (by kernel_rfl) rfl rfl ⟨(blk_cell BK188.out 0).trans rfl, (blk_cell BK188.out 1).trans rfl, (blk_cell BK188.out 2).trans rfl, (blk_cell BK185.out 0).trans rfl, (blk_cell BK185.out 1).trans rfl, ((HB.out.cell (World.block_lt_of_cell? w _ hw189_0)).trans hw189_0)⟩ (fun hHeld => ?_); refine with_tabW pick_from.tab8 pick_from.bits8 (fun HT_ HW_ => ?_)
     generalize w25.drew = w26 at HO_186001 BK184 BK185 BK186 BK188 HB hx189_0 hHeld ⊢
     refine pure_ (i := 0) (N := some 43) (v := ?_) (a' := ?_) #[true, false, false, false, false, false, false, false, false, false, false, false, false] rfl rfl (any_of HT_.out (by kernel_rfl)) (fun _ _ _ h => h) (Or.inl ⟨by rfl, ?_⟩) ?_ ?_; rotate_left
     ·intro w'; go_simp; with_reducible rfl
     rotate_left
     ·simp only [Act.put, List.setIfInBounds_toArray, List.set_cons_zero, List.set_cons_succ, i64_w, i32_w]; rfl
     refine take_ (i := 1) (N := some 44) (v := ?_) (a' := ?_) #[true, true, false, false, false, false, false, false, false, false, false, false, false] rfl rfl (take_ofW HT_.out HW_.out (by kernel_rfl)) (fun _ _ _ h => h) (Or.inl ⟨by rfl, ?_⟩) hHeld ?_ ?_; rotate_left
     ·rintro w' ⟨s0, s1, s2, s3, s4, s5⟩; go_simp; with_reducible rfl
     rotate_left
     ·simp only [Act.put, List.setIfInBounds_toArray, List.set_cons_zero, List.set_cons_succ, i64_w, i32_w]; rfl
     refine pure_ (i := 2) (N := some 45) (v := ?_) (a' := ?_) #[true, true, true, false, false, false, false, false, false, false, false, false, false] rfl rfl (any_of HT_.out (by kernel_rfl)) (fun _ _ _ h => h) (Or.inl ⟨by rfl, ?_⟩) ?_ ?_; rotate_left
     ·intro w'; go_simp; with_reducible rfl
     rotate_left
     ·simp only [Act.put, List.setIfInBounds_toArray, List.set_cons_zero, List.set_cons_succ, i64_w, i32_w]; rfl
     refine pure_ (i := 3) (N := some 46) (v := ?_) (a' := ?_) #[true, true, true, true, false, false, false, false, false, false, false, false, false] rfl rfl (any_of HT_.out (by kernel_rfl)) (fun _ _ _ h => h) (Or.inl ⟨by rfl, ?_⟩) ?_ ?_; rotate_left
     ·intro w'; go_simp; with_reducible rfl
     rotate_left
     ·simp only [Act.put, List.setIfInBounds_toArray, List.set_cons_zero, List.set_cons_succ, i64_w, i32_w]; rfl
     refine pure_ (i := 4) (N := some 47) (v := ?_) (a' := ?_) #[true, true, true, true, true, false, false, false, false, false, false, false, false] rfl rfl (any_of HT_.out (by kernel_rfl)) (fun _ _ _ h => h) (Or.inl ⟨by rfl, ?_⟩) ?_ ?_; rotate_left
     ·intro w'; go_simp; with_reducible rfl
     rotate_left
     ·simp only [Act.put, List.setIfInBounds_toArray, List.set_cons_zero, List.set_cons_succ, i64_w, i32_w]; rfl
     refine pure_ (i := 6) (N := some 49) (v := ?_) (a' := ?_) #[true, true, true, true, true, false, true, false, false, false, false, false, false] rfl rfl (any_of HT_.out (by kernel_rfl)) (fun _ _ _ h => h) (Or.inl ⟨by rfl, ?_⟩) ?_ ?_; rotate_left
     ·intro w'; go_simp; with_reducible rfl
     rotate_left
     ·simp only [Act.put, List.setIfInBounds_toArray, List.set_cons_zero, List.set_cons_succ, i64_w, i32_w]; rfl
     refine take_ (i := 5) (N := some 48) (v := ?_) (a' := ?_) #[true, true, true, true, true, true, true, false, false, false, false, false, false] rfl rfl (take_ofW HT_.out HW_.out (by kernel_rfl)) (fun _ _ _ h => h) (Or.inl ⟨by rfl, ?_⟩) hHeld ?_ ?_; rotate_left
     ·rintro w' ⟨s0, s1, s2, s3, s4, s5⟩; go_simp; with_reducible rfl
     rotate_left
     ·simp only [Act.put, List.setIfInBounds_toArray, List.set_cons_zero, List.set_cons_succ, i64_w, i32_w]; rfl
     refine take_ (i := 7) (N := some 50) (v := ?_) (a' := ?_) #[true, true, true, true, true, true, true, true, false, false, false, false, false] rfl rfl (take_ofW HT_.out HW_.out (by kernel_rfl)) (fun _ _ _ h => h) (Or.inl ⟨by rfl, ?_⟩) hHeld ?_ ?_; rotate_left
     ·rintro w' ⟨s0, s1, s2, s3, s4, s5⟩; go_simp; with_reducible rfl
     rotate_left
     ·simp only [Act.put, List.setIfInBounds_toArray, List.set_cons_zero, List.set_cons_succ, i64_w, i32_w]; rfl
     refine pure_ (i := 8) (N := some 51) (v := ?_) (a' := ?_) #[true, true, true, true, true, true, true, true, true, false, false, false, false] rfl rfl (any_of HT_.out (by kernel_rfl)) (fun _ _ _ h => h) (Or.inl ⟨by rfl, ?_⟩) ?_ ?_; rotate_left
     ·intro w'; go_simp; with_reducible rfl
     rotate_left
     ·simp only [Act.put, List.setIfInBounds_toArray, List.set_cons_zero, List.set_cons_succ, i64_w, i32_w]; rfl
     refine take_ (i := 9) (N := some 52) (v := ?_) (a' := ?_) #[true, true, true, true, true, true, true, true, true, true, false, false, false] rfl rfl (take_ofW HT_.out HW_.out (by kernel_rfl)) (fun _ _ _ h => h) (Or.inl ⟨by rfl, ?_⟩) hHeld ?_ ?_; rotate_left
     ·rintro w' ⟨s0, s1, s2, s3, s4, s5⟩; go_simp; with_reducible rfl
     rotate_left
     ·simp only [Act.put, List.setIfInBounds_toArray, List.set_cons_zero, List.set_cons_succ, i64_w, i32_w]; rfl
     refine pure_ (i := 10) (N := some 53) (v := ?_) (a' := ?_) #[true, true, true, true, true, true, true, true, true, true, true, false, false] rfl rfl (any_of HT_.out (by kernel_rfl)) (fun _ _ _ h => h) (Or.inl ⟨by rfl, ?_⟩) ?_ ?_; rotate_left
     ·intro w'; go_simp; with_reducible rfl
     rotate_left
     ·simp only [Act.put, List.setIfInBounds_toArray, List.set_cons_zero, List.set_cons_succ, i64_w, i32_w]; rfl
     refine pure_ (i := 11) (N := some 54) (v := ?_) (a' := ?_) #[true, true, true, true, true, true, true, true, true, true, true, true, false] rfl rfl (any_of HT_.out (by kernel_rfl)) (fun _ _ _ h => h) (Or.inl ⟨by rfl, ?_⟩) ?_ ?_; rotate_left
     ·intro w'; go_simp; with_reducible rfl
     rotate_left
     ·simp only [Act.put, List.setIfInBounds_toArray, List.set_cons_zero, List.set_cons_succ, i64_w, i32_w]; rfl
     refine pure_ (i := 12) (N := some 42) (v := ?_) (a' := ?_) #[true, true, true, true, true, true, true, true, true, true, true, true, true] rfl rfl (any_of HT_.out (by kernel_rfl)) (fun _ _ _ h => h) (Or.inl ⟨by rfl, ?_⟩) ?_ ?_; rotate_left
     ·intro w'; go_simp; with_reducible rfl
     rotate_left
     ·simp only [Act.put, List.setIfInBounds_toArray, List.set_cons_zero, List.set_cons_succ, i64_w, i32_w]; rfl
     refine done_ (done_of HT_.out (by kernel_rfl)) ?_
     have hnb27 := NB186_184.out
     have hnc27 := NB184_186.out
     have hnb28 := NB186_185.out
     have hnc28 := NB185_186.out
     obtain ⟨hcz29_0, hcz29_1, hfz29_0, hfz29_1⟩ := gz2 BK186
     try go_wp2
     refine bodyPost_ret (results_ct rfl _ _ gb186 25 #[.slice none 0 0, .slice none 0 0] (0, 0) _ rfl (by refine blk_put (cs := #[.slice none 0 0, .slice none 0 0]) ?_ 1 _ rfl; refine blk_put (cs := #[.slice none 0 0, .slice none 0 0]) ?_ 0 _ rfl; exact gK BK186) Try.underlying25 rfl (by kernel_rfl)) rfl ?_
     exact ⟨_, _, rfl, by first | exact Kd.R_nil _ _ _ _ _ | exact Kd.N_nil _ _ _ _ _ | exact Kd.V_nil _ _ _ _ _ | exact Kd.Q_nil _ _ _ _ _ | exact Kd.S_nil _ _ _ _ _, by first | exact Kd.R_nil _ _ _ _ _ | exact Kd.N_nil _ _ _ _ _ | exact Kd.V_nil _ _ _ _ _ | exact Kd.Q_nil _ _ _ _ _ | exact Kd.S_nil _ _ _ _ _, by repeat first | exact gB HB | refine below_set ?_ GE184.out | refine below_set ?_ GE185.out | refine below_set ?_ GE186.out | refine below_set ?_ GE188.out⟩
    ·rw [if_neg c19] at H
     have c19b0 : decide ((rd l1_0 0) ≤ ((rd_T45 l0_1 x33_1).f1)) = false := decide_eq_false c19
     clear c19
     have H' := gA H
     clear H
     have p187 : 0 ≤ (x33_1 : Int) := of_decide_eq_true (by assumption)
     have q187 : x33_1 < (l0_1.length : Int) := of_decide_eq_true (by assumption)
     obtain ⟨ad187, A187_2, c187_2, e187, hx187_0, hx187_1, hx187_2, hl187_2, hi187_2⟩ := at_T45 HR0_1.out x33_1 p187 q187
     cases e187
     replace hx187_0 := (HB.out.cell (World.block_lt_of_cell? w _ hx187_0)).trans hx187_0
     replace hx187_1 := (HB.out.cell (World.block_lt_of_cell? w _ hx187_1)).trans hx187_1
     replace hx187_2 := (HB.out.cell (World.block_lt_of_cell? w _ hx187_2)).trans hx187_2
     have HR187_2 := gA hi187_2
     have HC187_2 := gA hl187_2
     clear hi187_2 hl187_2
     replace p187 := eq_true p187
     replace q187 := eq_true q187
     try go_wp2_with (first | ((with_reducible refine gate_dst (N := 7) rfl ?_); (try (refine gate_guard (by rfl) ?_; dsimp only)); refine box_event ?hg (N := 7) ?hd (cs := #[.int .i64 0, .int .i64 0, .slice none 0 0]) (t := 45) ?hr ?_; (case hd => rfl); (case hg => rfl); (case hr => first | (go_simp; done) | (go_simp; rfl)); intro gb188 hg w30 hbox hb; replace HO_186001 := gA (Kd.V_below (Kd.V_elderB (gV HO_186001) gb188 (Nat.le_of_eq hg.symm)) hb); have BK188 := gA (hbox); have GW188 := gA ((by rw [hg]; exact (below_size (gB HB)) : w.heap.size ≤ gb188)); have GE188 := gA ((by rw [hg]; exact (below_size (gB HB)) : w.heap.size ≤ gb188)); replace HB := gA (below_step (gB HB) hb); have NB184_188 := gA ((by rw [hg]; exact Nat.ne_of_lt (blk_lt (gK BK184)) : gb184 ≠ gb188)); have NB188_184 := gA ((by rw [hg]; exact Nat.ne_of_gt (blk_lt (gK BK184)) : gb188 ≠ gb184)); replace BK184 := gA (blk_below (gK BK184) hb); have NB185_188 := gA ((by rw [hg]; exact Nat.ne_of_lt (blk_lt (gK BK185)) : gb185 ≠ gb188)); have NB188_185 := gA ((by rw [hg]; exact Nat.ne_of_gt (blk_lt (gK BK185)) : gb188 ≠ gb185)); replace BK185 := gA (blk_below (gK BK185) hb); have NB186_188 := gA ((by rw [hg]; exact Nat.ne_of_lt (blk_lt (gK BK186)) : gb186 ≠ gb188)); have NB188_186 := gA ((by rw [hg]; exact Nat.ne_of_gt (blk_lt (gK BK186)) : gb188 ≠ gb186)); replace BK186 := gA (blk_below (gK BK186) hb); clear hb hbox hg; have hnb31 := NB188_184.out; have hnc31 := NB184_188.out; have hnb32 := NB188_185.out; have hnc32 := NB185_188.out; have hnb33 := NB188_186.out; have hnc33 := NB186_188.out; obtain ⟨hcz34_0, hcz34_1, hcz34_2, hfz34_0, hfz34_1, hfz34_2⟩ := gz3 BK188))
     have n0_ : Aside0 (Kd.V k45 45 (((w30.setCell ⟨gb188, 0, none⟩ (.int .i64 ((rd_T45 l0_1 x33_1).f0))).setCell ⟨gb188, 1, none⟩ (.int .i64 ((rd_T45 l0_1 x33_1).f1))).setCell ⟨gb188, 2, none⟩ (.slice A187_2 ((rd_T45 l0_1 x33_1).f2).length c187_2)) w.heap.size (fun k_ => (P1_1_ k_ ∨ w.heap.size ≤ k_) ∧ k_ ≠ gb184 ∧ k_ ≠ gb185 ∧ k_ ≠ gb186 ∧ k_ ≠ gb188) (.slice A1_1 l1_1.length c1_1) l1_1) := ⟨Kd.V_mono (Kd.V_far (p := ⟨gb188, 2, none⟩) (Kd.V_far (p := ⟨gb188, 1, none⟩) (Kd.V_far (p := ⟨gb188, 0, none⟩) (Kd.V_mono HO_186001.out (fun k_ hk => (⟨hk, hk.2⟩ : _ ∧ k_ ≠ gb188))) (fun _ hk => hk.2) (.int .i64 ((rd_T45 l0_1 x33_1).f0))) (fun _ hk => hk.2) (.int .i64 ((rd_T45 l0_1 x33_1).f1))) (fun _ hk => hk.2) (.slice A187_2 ((rd_T45 l0_1 x33_1).f2).length c187_2)) (fun _ hk => by first | exact ⟨hk.1.1.1, ⟨hk.1.1.2.1, ⟨hk.1.1.2.2.1, ⟨hk.1.1.2.2.2, hk.1.2⟩⟩⟩⟩ | (simp_all; done))⟩
     have n1_ : Aside0 ((((w30.setCell ⟨gb188, 0, none⟩ (.int .i64 ((rd_T45 l0_1 x33_1).f0))).setCell ⟨gb188, 1, none⟩ (.int .i64 ((rd_T45 l0_1 x33_1).f1))).setCell ⟨gb188, 2, none⟩ (.slice A187_2 ((rd_T45 l0_1 x33_1).f2).length c187_2)).heap[gb184]? = some (.cells #[.slice A0_0 l0_0.length c0_0, .slice (some ad187) l0_1.length c0_1] 25 (0, 0))) := ⟨by refine blk_far ?_ NB184_188.out _; refine blk_far ?_ NB184_188.out _; refine blk_far ?_ NB184_188.out _; exact gK BK184⟩
     have n2_ : Aside0 ((((w30.setCell ⟨gb188, 0, none⟩ (.int .i64 ((rd_T45 l0_1 x33_1).f0))).setCell ⟨gb188, 1, none⟩ (.int .i64 ((rd_T45 l0_1 x33_1).f1))).setCell ⟨gb188, 2, none⟩ (.slice A187_2 ((rd_T45 l0_1 x33_1).f2).length c187_2)).heap[gb185]? = some (.cells #[.slice A1_0 l1_0.length c1_0, .slice A1_1 l1_1.length c1_1] 25 (0, 0))) := ⟨by refine blk_far ?_ NB185_188.out _; refine blk_far ?_ NB185_188.out _; refine blk_far ?_ NB185_188.out _; exact gK BK185⟩
     have n3_ : Aside0 ((((w30.setCell ⟨gb188, 0, none⟩ (.int .i64 ((rd_T45 l0_1 x33_1).f0))).setCell ⟨gb188, 1, none⟩ (.int .i64 ((rd_T45 l0_1 x33_1).f1))).setCell ⟨gb188, 2, none⟩ (.slice A187_2 ((rd_T45 l0_1 x33_1).f2).length c187_2)).heap[gb186]? = some (.cells #[.slice none 0 0, .slice none 0 0] 25 (0, 0))) := ⟨by refine blk_far ?_ NB186_188.out _; refine blk_far ?_ NB186_188.out _; refine blk_far ?_ NB186_188.out _; exact gK BK186⟩
     have n4_ : Aside0 ((((w30.setCell ⟨gb188, 0, none⟩ (.int .i64 ((rd_T45 l0_1 x33_1).f0))).setCell ⟨gb188, 1, none⟩ (.int .i64 ((rd_T45 l0_1 x33_1).f1))).setCell ⟨gb188, 2, none⟩ (.slice A187_2 ((rd_T45 l0_1 x33_1).f2).length c187_2)).heap[gb188]? = some (.cells #[.int .i64 ((rd_T45 l0_1 x33_1).f0), .int .i64 ((rd_T45 l0_1 x33_1).f1), .slice A187_2 ((rd_T45 l0_1 x33_1).f2).length c187_2] 45 (0, 0))) := ⟨by refine blk_put (cs := #[.int .i64 ((rd_T45 l0_1 x33_1).f0), .int .i64 ((rd_T45 l0_1 x33_1).f1), .slice none 0 0]) ?_ 2 _ rfl; refine blk_put (cs := #[.int .i64 ((rd_T45 l0_1 x33_1).f0), .int .i64 0, .slice none 0 0]) ?_ 1 _ rfl; refine blk_put (cs := #[.int .i64 0, .int .i64 0, .slice none 0 0]) ?_ 0 _ rfl; exact gK BK188⟩
     have n5_ : Aside0 (Below w.heap.size w (((w30.setCell ⟨gb188, 0, none⟩ (.int .i64 ((rd_T45 l0_1 x33_1).f0))).setCell ⟨gb188, 1, none⟩ (.int .i64 ((rd_T45 l0_1 x33_1).f1))).setCell ⟨gb188, 2, none⟩ (.slice A187_2 ((rd_T45 l0_1 x33_1).f2).length c187_2))) := ⟨by repeat first | exact gB HB | refine below_set ?_ GE184.out | refine below_set ?_ GE185.out | refine below_set ?_ GE186.out | refine below_set ?_ GE188.out⟩
     (try clear HO_186001)
     generalize (((w30.setCell ⟨gb188, 0, none⟩ (.int .i64 ((rd_T45 l0_1 x33_1).f0))).setCell ⟨gb188, 1, none⟩ (.int .i64 ((rd_T45 l0_1 x33_1).f1))).setCell ⟨gb188, 2, none⟩ (.slice A187_2 ((rd_T45 l0_1 x33_1).f2).length c187_2)) = w35 at n0_ n1_ n2_ n3_ n4_ n5_ ⊢
     have HO_186001 := n0_; have BK184 := n1_
     have BK185 := n2_; have BK186 := n3_
     have BK188 := n4_; have HB := n5_
     clear n0_ n1_ n2_ n3_ n4_ n5_
     replace HO_186001 := gA (Kd.V_drew HO_186001.out); replace BK184 := gA (blk_drew BK184.out); replace BK185 := gA (blk_drew BK185.out); replace BK186 := gA (blk_drew BK186.out); replace BK188 := gA (blk_drew BK188.out); replace HB := gA (below_drew1 HB.out)
     have p189 : 0 ≤ (0 : Int) := (by omega)
     have q189 : 0 < (l1_0.length : Int) := of_decide_eq_true (by assumption)
     obtain ⟨ad189, e189, hx189_0⟩ := Kd.at_int HR1_0.out 0 p189 q189
     have hw189_0 := hx189_0
     (try rw [show ((0 : Int)).toNat = 0 from rfl] at hw189_0)
     (try rw [show 0 * 1 = 0 from rfl] at hw189_0)
     (try rw [Addr.add_zero'] at hw189_0)
     cases e189
     have qi189 : (0 < l1_0.length) = True := eq_true (by omega)
     (try rw [show ((0 : Int)).toNat = 0 from rfl] at hx189_0)
     (try rw [Addr.add_zero'] at hx189_0)
     replace hx189_0 := (HB.out.cell (World.block_lt_of_cell? w _ hx189_0)).trans hx189_0
     replace p189 := eq_true p189
     replace q189 := eq_true q189
     refine start_ (n := 13) (S := fun w' => w'.cell? ⟨gb188, 0, none⟩ = some (.int .i64 ((rd_T45 l0_1 x33_1).f0)) ∧ w'.cell? ⟨gb188, 1, none⟩ = some (.int .i64 ((rd_T45 l0_1 x33_1).f1)) ∧ w'.cell? ⟨gb188, 2, none⟩ = some (.slice A187_2 ((rd_T45 l0_1 x33_1).f2).length c187_2) ∧ w'.cell? ⟨gb185, 0, none⟩ = some (.slice (some ad189) l1_0.length c1_0) ∧ w'.cell? ⟨gb185, 1, none⟩ = some (.slice A1_1 l1_1.length c1_1) ∧ w'.cell? ad189 = some (.int .i64 (rd l1_0 0))) (ds := []) #[false, false, false, false, false, false, false, false, false, false, false, false, false] (by kernel_rfl) rfl rfl ⟨(blk_cell BK188.out 0).trans rfl, (blk_cell BK188.out 1).trans rfl, (blk_cell BK188.out 2).trans rfl, (blk_cell BK185.out 0).trans rfl, (blk_cell BK185.out 1).trans rfl, ((HB.out.cell (World.block_lt_of_cell? w _ hw189_0)).trans hw189_0)⟩ (fun hHeld => ?_); refine with_tabW pick_from.tab8 pick_from.bits8 (fun HT_ HW_ => ?_)
     generalize w35.drew = w36 at HO_186001 BK184 BK185 BK186 BK188 HB hx189_0 hHeld ⊢
     refine pure_ (i := 0) (N := some 43) (v := ?_) (a' := ?_) #[true, false, false, false, false, false, false, false, false, false, false, false, false] rfl rfl (any_of HT_.out (by kernel_rfl)) (fun _ _ _ h => h) (Or.inl ⟨by rfl, ?_⟩) ?_ ?_; rotate_left
     ·intro w'; go_simp; with_reducible rfl
     rotate_left
     ·simp only [Act.put, List.setIfInBounds_toArray, List.set_cons_zero, List.set_cons_succ, i64_w, i32_w]; rfl
     refine take_ (i := 1) (N := some 44) (v := ?_) (a' := ?_) #[true, true, false, false, false, false, false, false, false, false, false, false, false] rfl rfl (take_ofW HT_.out HW_.out (by kernel_rfl)) (fun _ _ _ h => h) (Or.inl ⟨by rfl, ?_⟩) hHeld ?_ ?_; rotate_left
     ·rintro w' ⟨s0, s1, s2, s3, s4, s5⟩; go_simp; with_reducible rfl
     rotate_left
     ·simp only [Act.put, List.setIfInBounds_toArray, List.set_cons_zero, List.set_cons_succ, i64_w, i32_w]; rfl
     refine pure_ (i := 2) (N := some 45) (v := ?_) (a' := ?_) #[true, true, true, false, false, false, false, false, false, false, false, false, false] rfl rfl (any_of HT_.out (by kernel_rfl)) (fun _ _ _ h => h) (Or.inl ⟨by rfl, ?_⟩) ?_ ?_; rotate_left
     ·intro w'; go_simp; with_reducible rfl
     rotate_left
     ·simp only [Act.put, List.setIfInBounds_toArray, List.set_cons_zero, List.set_cons_succ, i64_w, i32_w]; rfl
     refine pure_ (i := 3) (N := some 46) (v := ?_) (a' := ?_) #[true, true, true, true, false, false, false, false, false, false, false, false, false] rfl rfl (any_of HT_.out (by kernel_rfl)) (fun _ _ _ h => h) (Or.inl ⟨by rfl, ?_⟩) ?_ ?_; rotate_left
     ·intro w'; go_simp; with_reducible rfl
     rotate_left
     ·simp only [Act.put, List.setIfInBounds_toArray, List.set_cons_zero, List.set_cons_succ, i64_w, i32_w]; rfl
     refine pure_ (i := 4) (N := some 47) (v := ?_) (a' := ?_) #[true, true, true, true, true, false, false, false, false, false, false, false, false] rfl rfl (any_of HT_.out (by kernel_rfl)) (fun _ _ _ h => h) (Or.inl ⟨by rfl, ?_⟩) ?_ ?_; rotate_left
     ·intro w'; go_simp; with_reducible rfl
     rotate_left
     ·simp only [Act.put, List.setIfInBounds_toArray, List.set_cons_zero, List.set_cons_succ, i64_w, i32_w]; rfl
     refine pure_ (i := 6) (N := some 49) (v := ?_) (a' := ?_) #[true, true, true, true, true, false, true, false, false, false, false, false, false] rfl rfl (any_of HT_.out (by kernel_rfl)) (fun _ _ _ h => h) (Or.inl ⟨by rfl, ?_⟩) ?_ ?_; rotate_left
     ·intro w'; go_simp; with_reducible rfl
     rotate_left
     ·simp only [Act.put, List.setIfInBounds_toArray, List.set_cons_zero, List.set_cons_succ, i64_w, i32_w]; rfl
     refine take_ (i := 5) (N := some 48) (v := ?_) (a' := ?_) #[true, true, true, true, true, true, true, false, false, false, false, false, false] rfl rfl (take_ofW HT_.out HW_.out (by kernel_rfl)) (fun _ _ _ h => h) (Or.inl ⟨by rfl, ?_⟩) hHeld ?_ ?_; rotate_left
     ·rintro w' ⟨s0, s1, s2, s3, s4, s5⟩; go_simp; with_reducible rfl
     rotate_left
     ·simp only [Act.put, List.setIfInBounds_toArray, List.set_cons_zero, List.set_cons_succ, i64_w, i32_w]; rfl
     refine take_ (i := 7) (N := some 50) (v := ?_) (a' := ?_) #[true, true, true, true, true, true, true, true, false, false, false, false, false] rfl rfl (take_ofW HT_.out HW_.out (by kernel_rfl)) (fun _ _ _ h => h) (Or.inl ⟨by rfl, ?_⟩) hHeld ?_ ?_; rotate_left
     ·rintro w' ⟨s0, s1, s2, s3, s4, s5⟩; go_simp; with_reducible rfl
     rotate_left
     ·simp only [Act.put, List.setIfInBounds_toArray, List.set_cons_zero, List.set_cons_succ, i64_w, i32_w]; rfl
     refine pure_ (i := 8) (N := some 51) (v := ?_) (a' := ?_) #[true, true, true, true, true, true, true, true, true, false, false, false, false] rfl rfl (any_of HT_.out (by kernel_rfl)) (fun _ _ _ h => h) (Or.inl ⟨by rfl, ?_⟩) ?_ ?_; rotate_left
     ·intro w'; go_simp; with_reducible rfl
     rotate_left
     ·simp only [Act.put, List.setIfInBounds_toArray, List.set_cons_zero, List.set_cons_succ, i64_w, i32_w]; rfl
     refine take_ (i := 9) (N := some 52) (v := ?_) (a' := ?_) #[true, true, true, true, true, true, true, true, true, true, false, false, false] rfl rfl (take_ofW HT_.out HW_.out (by kernel_rfl)) (fun _ _ _ h => h) (Or.inl ⟨by rfl, ?_⟩) hHeld ?_ ?_; rotate_left
     ·rintro w' ⟨s0, s1, s2, s3, s4, s5⟩; go_simp; with_reducible rfl
     rotate_left
     ·simp only [Act.put, List.setIfInBounds_toArray, List.set_cons_zero, List.set_cons_succ, i64_w, i32_w]; rfl
     refine pure_ (i := 10) (N := some 53) (v := ?_) (a' := ?_) #[true, true, true, true, true, true, true, true, true, true, true, false, false] rfl rfl (any_of HT_.out (by kernel_rfl)) (fun _ _ _ h => h) (Or.inl ⟨by rfl, ?_⟩) ?_ ?_; rotate_left
     ·intro w'; go_simp; with_reducible rfl
     rotate_left
     ·simp only [Act.put, List.setIfInBounds_toArray, List.set_cons_zero, List.set_cons_succ, i64_w, i32_w]; rfl
     refine pure_ (i := 11) (N := some 54) (v := ?_) (a' := ?_) #[true, true, true, true, true, true, true, true, true, true, true, true, false] rfl rfl (any_of HT_.out (by kernel_rfl)) (fun _ _ _ h => h) (Or.inl ⟨by rfl, ?_⟩) ?_ ?_; rotate_left
     ·intro w'; go_simp; with_reducible rfl
     rotate_left
     ·simp only [Act.put, List.setIfInBounds_toArray, List.set_cons_zero, List.set_cons_succ, i64_w, i32_w]; rfl
     refine pure_ (i := 12) (N := some 42) (v := ?_) (a' := ?_) #[true, true, true, true, true, true, true, true, true, true, true, true, true] rfl rfl (any_of HT_.out (by kernel_rfl)) (fun _ _ _ h => h) (Or.inl ⟨by rfl, ?_⟩) ?_ ?_; rotate_left
     ·intro w'; go_simp; with_reducible rfl
     rotate_left
     ·simp only [Act.put, List.setIfInBounds_toArray, List.set_cons_zero, List.set_cons_succ, i64_w, i32_w]; rfl
     refine done_ (done_of HT_.out (by kernel_rfl)) ?_
     try go_wp2
     go_roundg k1
     case measure => have := HK1.out; omega
     case rel => exact ⟨(wrap64 (x33_1 + 1)), (rfl), H', ⟨by have := HK1.out; omega⟩, ⟨Kd.V_mono HO_186001.out (fun _ hk => ⟨hk.1, ⟨hk.2.1, ⟨hk.2.2.1, hk.2.2.2.1⟩⟩⟩)⟩, ⟨gK BK184⟩, ⟨gK BK185⟩, ⟨gK BK186⟩, ⟨by repeat first | exact gB HB | refine below_set ?_ GE184.out | refine below_set ?_ GE185.out | refine below_set ?_ GE186.out | refine below_set ?_ GE188.out⟩⟩
   ·rw [if_neg c13] at H
    have c13b0 := decide_eq_false c13
    clear c13
    obtain ⟨y190, hy190⟩ : ∃ y_ : List Int, y_ = (([] : List Int)) := ⟨_, rfl⟩
    replace H : (if y190.length + l0_0.length < 17592186044416 then ((some (y190 ++ l0_0 : List Int)).bind fun y193 => (if 1 ≤ (l1_0.length : Int) then (if y193.length + (l1_0.drop 1).length < 17592186044416 then ((some (y193 ++ (l1_0.drop 1) : List Int)).bind fun y197 => ((arr_Size.f k1 y197).bind fun bt201 => (if bt201.2 = 0 then ((pick_inner.f k1 l1_0 l1_1).bind fun t203 => (pick_from.l1 k1 t203 l0_1 (l0_1.length : Int) 0 l1_0 l1_1 y197 ([] : List (S45)))) else (none)))) else (none)) else (none))) else (none)) = some (r1, r2, r3) := by first | (rw [hy190]; with_reducible exact H) | (have H2_ := (Option.bind_some _ _).symm.trans H; rw [hy190]; with_reducible exact H2_) | (have H2_ := (Option.bind_some _ _).symm.trans H; with_reducible exact H2_) | with_reducible exact H | (rw [hy190]; exact H) | exact H
    have Ny190 := gA hy190
    clear hy190
    obtain ⟨c37, H⟩ := iS H
    have LMc37 := gA c37
    clear c37
    obtain ⟨y193, hy193⟩ : ∃ y_ : List Int, y_ = (y190 ++ l0_0) := ⟨_, rfl⟩
    replace H : (if 1 ≤ (l1_0.length : Int) then (if y193.length + (l1_0.drop 1).length < 17592186044416 then ((some (y193 ++ (l1_0.drop 1) : List Int)).bind fun y197 => ((arr_Size.f k1 y197).bind fun bt201 => (if bt201.2 = 0 then ((pick_inner.f k1 l1_0 l1_1).bind fun t203 => (pick_from.l1 k1 t203 l0_1 (l0_1.length : Int) 0 l1_0 l1_1 y197 ([] : List (S45)))) else (none)))) else (none)) else (none)) = some (r1, r2, r3) := by first | (rw [hy193]; with_reducible exact H) | (have H2_ := (Option.bind_some _ _).symm.trans H; rw [hy193]; with_reducible exact H2_) | (have H2_ := (Option.bind_some _ _).symm.trans H; with_reducible exact H2_) | with_reducible exact H | (rw [hy193]; exact H) | exact H
    have Ny193 := gA hy193
    clear hy193
    obtain ⟨c38, H⟩ := iS H
    have c38b0 := eq_true c38
    have c38b1 := decide_eq_true c38
    clear c38
    obtain ⟨c39, H⟩ := iS H
    have LMc39 := gA c39
    clear c39
    obtain ⟨y197, hy197⟩ : ∃ y_ : List Int, y_ = (y193 ++ (l1_0.drop 1)) := ⟨_, rfl⟩
    replace H : ((arr_Size.f k1 y197).bind fun bt201 => (if bt201.2 = 0 then ((pick_inner.f k1 l1_0 l1_1).bind fun t203 => (pick_from.l1 k1 t203 l0_1 (l0_1.length : Int) 0 l1_0 l1_1 y197 ([] : List (S45)))) else (none))) = some (r1, r2, r3) := by first | (rw [hy197]; with_reducible exact H) | (have H2_ := (Option.bind_some _ _).symm.trans H; rw [hy197]; with_reducible exact H2_) | (have H2_ := (Option.bind_some _ _).symm.trans H; with_reducible exact H2_) | with_reducible exact H | (rw [hy197]; exact H) | exact H
    have Ny197 := gA hy197
    clear hy197
    replace H := Option.bind_eq_some_iff.mp H
    obtain ⟨⟨t201, t202⟩, A400, H⟩ := H
    replace H : (if t202 = 0 then ((pick_inner.f k1 l1_0 l1_1).bind fun t203 => (pick_from.l1 k1 t203 l0_1 (l0_1.length : Int) 0 l1_0 l1_1 y197 ([] : List (S45)))) else (none)) = some (r1, r2, r3) := H
    have A40 := gA A400
    clear A400
    obtain ⟨c41, H⟩ := iS H
    have c41b0 : (t202 == 0) = true := beq_iff_eq.mpr c41
    have c41b1 : (t202 != 0) = false := bne_eq_false_iff_eq.mpr c41
    clear c41
    replace H := Option.bind_eq_some_iff.mp H
    obtain ⟨t203, A420, H⟩ := H
    replace H : (pick_from.l1 k1 t203 l0_1 (l0_1.length : Int) 0 l1_0 l1_1 y197 ([] : List (S45))) = some (r1, r2, r3) := H
    have A42 := gA A420
    clear A420
    have H' := gA H
    clear H
    try go_wp2
    replace HO_186001 := gA (Kd.V_drew HO_186001.out); replace BK184 := gA (blk_drew BK184.out); replace BK185 := gA (blk_drew BK185.out); replace BK186 := gA (blk_drew BK186.out); replace HB := gA (below_drew1 HB.out)
    obtain ⟨i044, hi044, _, hsz44, _⟩ := info_parts info3
    obtain ⟨A44, hcut44, hA44, hC44⟩ := print_drop_of (P := Try.prog) (Value.int .i64) 0 22 3 .i64 Try.underlying22 hi044 hsz44 A1_0 c1_0 l1_0 1 (by omega) (of_decide_eq_true (by assumption)) HC1_0.out
    have HR196 := gA (Kd.C_of_reads (h1 := fun _ => rfl) (hA44 _ (Kd.reads_of_C HR1_0.out)))
    have HC196 := gA hC44
    clear hA44 hC44 hi044 hsz44
    refine start_ (n := 11) (S := fun w' => w'.cell? ⟨gb184, 0, none⟩ = some (.slice A0_0 l0_0.length c0_0) ∧ w'.cell? ⟨gb184, 1, none⟩ = some (.slice A0_1 l0_1.length c0_1) ∧ w'.cell? ⟨gb185, 0, none⟩ = some (.slice A1_0 l1_0.length c1_0) ∧ w'.cell? ⟨gb185, 1, none⟩ = some (.slice A1_1 l1_1.length c1_1)) (ds := []) #[false, false, false, false, false, false, false, false, false, false, false] (by kernel_rfl) rfl rfl ⟨(blk_cell BK184.out 0).trans rfl, (blk_cell BK184.out 1).trans rfl, (blk_cell BK185.out 0).trans rfl, (blk_cell BK185.out 1).trans rfl⟩ (fun hHeld => ?_); refine with_tabW pick_from.tab11 pick_from.bits11 (fun HT_ HW_ => ?_)
    generalize wr.drew = w43 at HO_186001 BK184 BK185 BK186 HB HR196 hHeld ⊢
    refine pure_ (i := 1) (N := some 58) (v := ?_) (a' := ?_) #[false, true, false, false, false, false, false, false, false, false, false] rfl rfl (any_of HT_.out (by kernel_rfl)) (fun _ _ _ h => h) (Or.inl ⟨by rfl, ?_⟩) ?_ ?_; rotate_left
    ·intro w'; go_simp; with_reducible rfl
    rotate_left
    ·simp only [Act.put, List.setIfInBounds_toArray, List.set_cons_zero, List.set_cons_succ, i64_w, i32_w]; rfl
    refine pure_ (i := 4) (N := some 61) (v := ?_) (a' := ?_) #[false, true, false, false, true, false, false, false, false, false, false] rfl rfl (any_of HT_.out (by kernel_rfl)) (fun _ _ _ h => h) (Or.inl ⟨by rfl, ?_⟩) ?_ ?_; rotate_left
    ·intro w'; go_simp; with_reducible rfl
    rotate_left
    ·simp only [Act.put, List.setIfInBounds_toArray, List.set_cons_zero, List.set_cons_succ, i64_w, i32_w]; rfl
    refine take_ (i := 2) (N := some 59) (v := ?_) (a' := ?_) #[false, true, true, false, true, false, false, false, false, false, false] rfl rfl (take_ofW HT_.out HW_.out (by kernel_rfl)) (fun _ _ _ h => h) (Or.inl ⟨by rfl, ?_⟩) hHeld ?_ ?_; rotate_left
    ·rintro w' ⟨s0, s1, s2, s3⟩; go_simp; with_reducible rfl
    rotate_left
    ·simp only [Act.put, List.setIfInBounds_toArray, List.set_cons_zero, List.set_cons_succ, i64_w, i32_w]; rfl
    refine take_ (i := 5) (N := some 62) (v := ?_) (a' := ?_) #[false, true, true, false, true, true, false, false, false, false, false] rfl rfl (take_ofW HT_.out HW_.out (by kernel_rfl)) (fun _ _ _ h => h) (Or.inl ⟨by rfl, ?_⟩) hHeld ?_ ?_; rotate_left
    ·rintro w' ⟨s0, s1, s2, s3⟩; go_simp; with_reducible rfl
    rotate_left
    ·simp only [Act.put, List.setIfInBounds_toArray, List.set_cons_zero, List.set_cons_succ, i64_w, i32_w]; rfl
    refine pure_ (i := 6) (N := some 63) (v := ?_) (a' := ?_) #[false, true, true, false, true, true, true, false, false, false, false] rfl rfl (any_of HT_.out (by kernel_rfl)) (fun _ _ _ h => h) (Or.inl ⟨by rfl, ?_⟩) ?_ ?_; rotate_left
    ·intro w'; go_simp; with_reducible rfl
    rotate_left
    ·simp only [Act.put, List.setIfInBounds_toArray, List.set_cons_zero, List.set_cons_succ, i64_w, i32_w]; rfl
    refine join_ (σ := Value × Value × Value × Nat) 1 #[true, true, true, true, true, true, true, true, true, true, false] (fun s_ => [(57, s_.1), (60, s_.2.1), (64, s_.2.2.1), (8, .pointer (some ⟨s_.2.2.2, 0, none⟩)), (65, .agg #[s_.2.2.1, .slice none 0 0])]) (fun s_ w' => (w'.cell? ⟨gb184, 0, none⟩ = some (.slice A0_0 l0_0.length c0_0) ∧ w'.cell? ⟨gb184, 1, none⟩ = some (.slice A0_1 l0_1.length c0_1) ∧ w'.cell? ⟨gb185, 0, none⟩ = some (.slice A1_0 l1_0.length c1_0) ∧ w'.cell? ⟨gb185, 1, none⟩ = some (.slice A1_1 l1_1.length c1_1)) ∧ (Kd.R (Kd.int .i64) 3 w' w.heap.size (fun k_ => (w.heap.size ≤ k_)) s_.2.2.1 y197) ∧ (Kd.V k45 45 w' w.heap.size (fun k_ => (P1_1_ k_ ∨ w.heap.size ≤ k_) ∧ some k_ ≠ (s_.2.2.1 : Value).ownBlock ∧ k_ ≠ gb184 ∧ k_ ≠ gb185 ∧ k_ ≠ gb186 ∧ k_ ≠ s_.2.2.2) (.slice A1_1 l1_1.length c1_1) l1_1) ∧ (w'.heap[gb184]? = some (.cells #[.slice A0_0 l0_0.length c0_0, .slice A0_1 l0_1.length c0_1] 25 (0, 0))) ∧ (w'.heap[gb185]? = some (.cells #[.slice A1_0 l1_0.length c1_0, .slice A1_1 l1_1.length c1_1] 25 (0, 0))) ∧ (w'.heap[gb186]? = some (.cells #[.slice none 0 0, .slice none 0 0] 25 (0, 0))) ∧ (w'.heap[s_.2.2.2]? = some (.cells #[.slice none 0 0, .slice none 0 0] 25 (0, 0))) ∧ (w.heap.size ≤ s_.2.2.2) ∧ (w.heap.size ≤ s_.2.2.2) ∧ (gb184 ≠ s_.2.2.2) ∧ (s_.2.2.2 ≠ gb184) ∧ (gb185 ≠ s_.2.2.2) ∧ (s_.2.2.2 ≠ gb185) ∧ (gb186 ≠ s_.2.2.2) ∧ (s_.2.2.2 ≠ gb186) ∧ (Below w.heap.size w w')) ?_ ?_; rotate_left
    ·intro hCont
     refine two_ (i := 0) (j := 9) (Ni := some 57) (Nj := some 8) #[true, true, true, false, true, true, true, false, false, false, false] #[false, true, true, false, true, true, true, false, false, true, false] rfl rfl rfl rfl (two_of HT_.out (by kernel_rfl)) (by decide) (by decide) (fun K hK => ?_) (fun K hK => ?_)
     ·skip
      refine Kd.R_lit_step (Kd.int .i64) _ 3 ?hg (N := 57) ?hd (xs := ([] : List Int)) (inner := []) (ok := fun _ => True) (okp := fun _ => True) ?hr ?hp (fun _ hk => hk) trivial (Below.refl _ _) (Nat.le_refl _) (by simp) ?_; (case hd => rfl); (case hg => rfl); (case hr => first | (go_simp; done) | (go_simp; rfl)); (case hp => exact (Reps.none _ _))
      intro v191 w45 ho46 hb hg_ hnew_; clear hg_ hnew_
      (first | rw [← Ny190.out] at ho46 | (simp only [Int.reduceToNat] at ho46; rw [← Ny190.out] at ho46))
      replace HO_186001 := gA (Kd.V_elder' (gV HO_186001) (Kd.R_base ho46) hb); have HO192 := gA (Kd.R_lower (Kd.R_newM (M := fun k_ => (w.heap.size ≤ k_)) ho46 (below_size (gB HB)) (fun k_ h_ => h_)) (below_size (gB HB))); replace BK184 := gA (blk_below (gK BK184) hb); replace BK185 := gA (blk_below (gK BK185) hb); replace BK186 := gA (blk_below (gK BK186) hb); replace HB := gA (below_step (gB HB) hb); clear hb ho46
      refine hK.out _ _ ⟨(blk_cell BK184.out 0).trans rfl, (blk_cell BK184.out 1).trans rfl, (blk_cell BK185.out 0).trans rfl, (blk_cell BK185.out 1).trans rfl⟩ (fun hHeld => ?_); clear hK K
      refine norm_ (a' := ?_) ?_ ?_; rotate_left
      ·show Act.put _ (some 57) _ = _
       simp only [Act.put, List.setIfInBounds_toArray, List.set_cons_zero, List.set_cons_succ, i64_w, i32_w]; rfl
      refine two_ (i := 3) (j := 9) (Ni := some 60) (Nj := some 8) #[true, true, true, true, true, true, true, false, false, false, false] #[true, true, true, false, true, true, true, false, false, true, false] rfl rfl rfl rfl (two_of HT_.out (by kernel_rfl)) (by decide) (by decide) (fun K hK => ?_) (fun K hK => ?_)
      ·skip
       refine Kd.R_append_rows_step (Kd.int .i64) (w0 := w) w.heap.size (by rfl) (.tmp 57) (.tmp 59) 22 3 (.int .i64 0) 8 rfl Try.underlying22 info3 rfl (by decide) (by omega) v191 y190 l0_0 _ _ _ (fun k_ => (w.heap.size ≤ k_)) (fun _ => False) rfl rfl ?aO ?aR (fun _ _ h => h) (fun _ h => h.elim) ?aF ?aB ?aS ?aL ?_
       (case aR => repeat (first | exact (Kd.C_below HR0_0.out HB.out) | (with_reducible refine Kd.C_alloc ?_ _) | (with_reducible refine Kd.C_drewN ?_ _) | (with_reducible refine Kd.C_drew ?_)))
       (case aB => exact (gB HB))
       (case aF => exact (fun k_ hk => (Nat.le_trans (below_size (gB HB)) hk)))
       (case aO => exact (Kd.R_mono HO192.out (fun _ hk => hk.1)))
       (case aS => exact (below_size (gB HB)))
       (case aL => have := LMc37.out; omega)
       intro v194 w47 ho hb hg hat
       rw [← Ny193.out] at ho
       replace HO_186001 := gA (Kd.V_afterv (ok := (fun k_ => (P1_1_ k_ ∨ w.heap.size ≤ k_) ∧ k_ ≠ gb184 ∧ k_ ≠ gb185 ∧ k_ ≠ gb186)) (gV HO_186001) hg hat); replace BK184 := gA (blk_grown (gK BK184) hg (Kd.R_ne HO192.out BK184.out (by decide))); replace BK185 := gA (blk_grown (gK BK185) hg (Kd.R_ne HO192.out BK185.out (by decide))); replace BK186 := gA (blk_grown (gK BK186) hg (Kd.R_ne HO192.out BK186.out (by decide))); replace HB := gA (hb); have HO195 := gA (ho); clear HO192 ho hb hg hat
       refine hK.out _ _ ⟨(blk_cell BK184.out 0).trans rfl, (blk_cell BK184.out 1).trans rfl, (blk_cell BK185.out 0).trans rfl, (blk_cell BK185.out 1).trans rfl⟩ (fun hHeld => ?_); clear hK K
       refine norm_ (a' := ?_) ?_ ?_; rotate_left
       ·show Act.put _ (some 60) _ = _
        simp only [Act.put, List.setIfInBounds_toArray, List.set_cons_zero, List.set_cons_succ, i64_w, i32_w]; rfl
       refine two_ (i := 7) (j := 9) (Ni := some 64) (Nj := some 8) #[true, true, true, true, true, true, true, true, false, false, false] #[true, true, true, true, true, true, true, false, false, true, false] rfl rfl rfl rfl (two_of HT_.out (by kernel_rfl)) (by decide) (by decide) (fun K hK => ?_) (fun K hK => ?_)
       ·skip
        refine Kd.R_append_rows_step (Kd.int .i64) (w0 := w) w.heap.size (by rfl) (.tmp 60) (.tmp 63) 22 3 (.int .i64 0) 8 rfl Try.underlying22 info3 rfl (by decide) (by omega) v194 y193 (l1_0.drop 1) _ _ _ (fun k_ => (w.heap.size ≤ k_)) (fun _ => False) rfl rfl ?aO ?aR (fun _ _ h => h) (fun _ h => h.elim) ?aF ?aB ?aS ?aL ?_
        (case aR => first | (rw [← show (l1_0.drop 1).length = (l1_0.length - 1) from List.length_drop]; repeat (first | exact (Kd.C_below HR196.out HB.out) | (with_reducible refine Kd.C_alloc ?_ _) | (with_reducible refine Kd.C_drewN ?_ _) | (with_reducible refine Kd.C_drew ?_))) | (repeat (first | exact (Kd.C_below HR196.out HB.out) | (with_reducible refine Kd.C_alloc ?_ _) | (with_reducible refine Kd.C_drewN ?_ _) | (with_reducible refine Kd.C_drew ?_))))
        (case aB => exact (gB HB))
        (case aF => exact (fun k_ hk => (Nat.le_trans (below_size (gB HB)) hk)))
        (case aO => exact (gR HO195))
        (case aS => exact (below_size (gB HB)))
        (case aL => have := LMc39.out; have hlx_ := (show (l1_0.drop 1).length = (l1_0.length - 1) from List.length_drop); omega)
        intro v198 w48 ho hb hg hat
        rw [← Ny197.out] at ho
        replace HO_186001 := gA (Kd.V_afterv (ok := (fun k_ => (P1_1_ k_ ∨ w.heap.size ≤ k_) ∧ k_ ≠ gb184 ∧ k_ ≠ gb185 ∧ k_ ≠ gb186)) (gV HO_186001) hg hat); replace BK184 := gA (blk_grown (gK BK184) hg (Kd.R_ne HO195.out BK184.out (by decide))); replace BK185 := gA (blk_grown (gK BK185) hg (Kd.R_ne HO195.out BK185.out (by decide))); replace BK186 := gA (blk_grown (gK BK186) hg (Kd.R_ne HO195.out BK186.out (by decide))); replace HB := gA (hb); have HO199 := gA (ho); clear HO195 ho hb hg hat
        obtain ⟨Ao49, co49, eo49⟩ := Kd.R_slice HO199.out
        (first | subst eo49 | (injection eo49 with f1_ f2_ f3_; have f4_ := f1_.symm; have f5_ := f3_.symm; clear f1_ f2_ f3_; subst f4_; subst f5_))
        refine hK.out _ _ ⟨(blk_cell BK184.out 0).trans rfl, (blk_cell BK184.out 1).trans rfl, (blk_cell BK185.out 0).trans rfl, (blk_cell BK185.out 1).trans rfl⟩ (fun hHeld => ?_); clear hK K
        refine norm_ (a' := ?_) ?_ ?_; rotate_left
        ·show Act.put _ (some 64) _ = _
         simp only [Act.put, List.setIfInBounds_toArray, List.set_cons_zero, List.set_cons_succ, i64_w, i32_w]; rfl
        refine pure_ (i := 8) (N := some 65) (v := ?_) (a' := ?_) #[true, true, true, true, true, true, true, true, true, false, false] rfl rfl (any_of HT_.out (by kernel_rfl)) (fun _ _ _ h => h) (Or.inl ⟨by rfl, ?_⟩) ?_ ?_; rotate_left
        ·intro w'; go_simp; with_reducible rfl
        rotate_left
        ·simp only [Act.put, List.setIfInBounds_toArray, List.set_cons_zero, List.set_cons_succ, i64_w, i32_w]; rfl
        refine one_ (i := 9) (N := some 8) #[true, true, true, true, true, true, true, true, true, true, false] rfl rfl (one_of HT_.out (by kernel_rfl)) (by decide) (fun K hK => ?_)
        refine box_step ?hg (N := 8) ?hd (cs := #[.slice none 0 0, .slice none 0 0]) (t := 25) ?hr ?_; (case hd => rfl); (case hg => rfl); (case hr => first | (go_simp; done) | (go_simp; rfl))
        intro gb200 hg w50 hbox hb
        replace HO_186001 := gA (Kd.V_below (Kd.V_elderB (gV HO_186001) gb200 (Nat.le_of_eq hg.symm)) hb); replace HO199 := gA (Kd.R_below (gR HO199) hb); have BK200 := gA (hbox); have GW200 := gA ((by rw [hg]; exact (below_size (gB HB)) : w.heap.size ≤ gb200)); have GE200 := gA ((by rw [hg]; exact (below_size (gB HB)) : w.heap.size ≤ gb200)); replace HB := gA (below_step (gB HB) hb); have NB184_200 := gA ((by rw [hg]; exact Nat.ne_of_lt (blk_lt (gK BK184)) : gb184 ≠ gb200)); have NB200_184 := gA ((by rw [hg]; exact Nat.ne_of_gt (blk_lt (gK BK184)) : gb200 ≠ gb184)); replace BK184 := gA (blk_below (gK BK184) hb); have NB185_200 := gA ((by rw [hg]; exact Nat.ne_of_lt (blk_lt (gK BK185)) : gb185 ≠ gb200)); have NB200_185 := gA ((by rw [hg]; exact Nat.ne_of_gt (blk_lt (gK BK185)) : gb200 ≠ gb185)); replace BK185 := gA (blk_below (gK BK185) hb); have NB186_200 := gA ((by rw [hg]; exact Nat.ne_of_lt (blk_lt (gK BK186)) : gb186 ≠ gb200)); have NB200_186 := gA ((by rw [hg]; exact Nat.ne_of_gt (blk_lt (gK BK186)) : gb200 ≠ gb186)); replace BK186 := gA (blk_below (gK BK186) hb); clear hb hbox hg
        refine hK.out _ _ ⟨(blk_cell BK184.out 0).trans rfl, (blk_cell BK184.out 1).trans rfl, (blk_cell BK185.out 0).trans rfl, (blk_cell BK185.out 1).trans rfl⟩ (fun hHeld => ?_); clear hK K
        refine norm_ (a' := ?_) ?_ ?_; rotate_left
        ·show Act.put _ (some 8) _ = _
         simp only [Act.put, List.setIfInBounds_toArray, List.set_cons_zero, List.set_cons_succ, i64_w, i32_w]; rfl
        exact norm_ (by simp only [putAll, Act.put, List.setIfInBounds_toArray, List.set_cons_zero, List.set_cons_succ]) (hCont (v191, v194, .slice Ao49 y197.length co49, gb200) _ ⟨hHeld, (gR HO199), (Kd.V_mono HO_186001.out (fun _ hk => by first | exact ⟨hk.1.1.1, ⟨hk.1.2, ⟨hk.1.1.2.1, ⟨hk.1.1.2.2.1, ⟨hk.1.1.2.2.2, hk.2⟩⟩⟩⟩⟩ | (simp_all; done))), (gK BK184), (gK BK185), (gK BK186), (gK BK200), GW200.out, GE200.out, NB184_200.out, NB200_184.out, NB185_200.out, NB200_185.out, NB186_200.out, NB200_186.out, (gB HB)⟩)
       ·skip
        refine box_step ?hg (N := 8) ?hd (cs := #[.slice none 0 0, .slice none 0 0]) (t := 25) ?hr ?_; (case hd => rfl); (case hg => rfl); (case hr => first | (go_simp; done) | (go_simp; rfl))
        intro gb200 hg w48 hbox hb
        replace HO_186001 := gA (Kd.V_below (Kd.V_elderB (gV HO_186001) gb200 (Nat.le_of_eq hg.symm)) hb); replace HO195 := gA (Kd.R_below (gR HO195) hb); have BK200 := gA (hbox); have GW200 := gA ((by rw [hg]; exact (below_size (gB HB)) : w.heap.size ≤ gb200)); have GE200 := gA ((by rw [hg]; exact (below_size (gB HB)) : w.heap.size ≤ gb200)); replace HB := gA (below_step (gB HB) hb); have NB184_200 := gA ((by rw [hg]; exact Nat.ne_of_lt (blk_lt (gK BK184)) : gb184 ≠ gb200)); have NB200_184 := gA ((by rw [hg]; exact Nat.ne_of_gt (blk_lt (gK BK184)) : gb200 ≠ gb184)); replace BK184 := gA (blk_below (gK BK184) hb); have NB185_200 := gA ((by rw [hg]; exact Nat.ne_of_lt (blk_lt (gK BK185)) : gb185 ≠ gb200)); have NB200_185 := gA ((by rw [hg]; exact Nat.ne_of_gt (blk_lt (gK BK185)) : gb200 ≠ gb185)); replace BK185 := gA (blk_below (gK BK185) hb); have NB186_200 := gA ((by rw [hg]; exact Nat.ne_of_lt (blk_lt (gK BK186)) : gb186 ≠ gb200)); have NB200_186 := gA ((by rw [hg]; exact Nat.ne_of_gt (blk_lt (gK BK186)) : gb200 ≠ gb186)); replace BK186 := gA (blk_below (gK BK186) hb); clear hb hbox hg
        refine hK.out _ _ ⟨(blk_cell BK184.out 0).trans rfl, (blk_cell BK184.out 1).trans rfl, (blk_cell BK185.out 0).trans rfl, (blk_cell BK185.out 1).trans rfl⟩ (fun hHeld => ?_); clear hK K
        refine norm_ (a' := ?_) ?_ ?_; rotate_left
        ·show Act.put _ (some 8) _ = _
         simp only [Act.put, List.setIfInBounds_toArray, List.set_cons_zero, List.set_cons_succ, i64_w, i32_w]; rfl
        refine one_ (i := 7) (N := some 64) #[true, true, true, true, true, true, true, true, false, true, false] rfl rfl (one_of HT_.out (by kernel_rfl)) (by decide) (fun K hK => ?_)
        refine Kd.R_append_rows_step (Kd.int .i64) (w0 := w) w.heap.size (by rfl) (.tmp 60) (.tmp 63) 22 3 (.int .i64 0) 8 rfl Try.underlying22 info3 rfl (by decide) (by omega) v194 y193 (l1_0.drop 1) _ _ _ (fun k_ => (w.heap.size ≤ k_)) (fun _ => False) rfl rfl ?aO ?aR (fun _ _ h => h) (fun _ h => h.elim) ?aF ?aB ?aS ?aL ?_
        (case aR => first | (rw [← show (l1_0.drop 1).length = (l1_0.length - 1) from List.length_drop]; repeat (first | exact (Kd.C_below HR196.out HB.out) | (with_reducible refine Kd.C_alloc ?_ _) | (with_reducible refine Kd.C_drewN ?_ _) | (with_reducible refine Kd.C_drew ?_))) | (repeat (first | exact (Kd.C_below HR196.out HB.out) | (with_reducible refine Kd.C_alloc ?_ _) | (with_reducible refine Kd.C_drewN ?_ _) | (with_reducible refine Kd.C_drew ?_))))
        (case aB => exact (gB HB))
        (case aF => exact (fun k_ hk => (Nat.le_trans (below_size (gB HB)) hk)))
        (case aO => exact (gR HO195))
        (case aS => exact (below_size (gB HB)))
        (case aL => have := LMc39.out; have hlx_ := (show (l1_0.drop 1).length = (l1_0.length - 1) from List.length_drop); omega)
        intro v198 w49 ho hb hg hat
        rw [← Ny197.out] at ho
        replace HO_186001 := gA (Kd.V_afterv (ok := (fun k_ => (P1_1_ k_ ∨ w.heap.size ≤ k_) ∧ k_ ≠ gb184 ∧ k_ ≠ gb185 ∧ k_ ≠ gb186 ∧ k_ ≠ gb200)) (Kd.V_mono HO_186001.out (fun _ hk => ⟨⟨hk.1.1.1, ⟨hk.1.1.2.1, ⟨hk.1.1.2.2.1, ⟨hk.1.1.2.2.2, hk.2⟩⟩⟩⟩, hk.1.2⟩)) hg hat); replace BK184 := gA (blk_grown (gK BK184) hg (Kd.R_ne HO195.out BK184.out (by decide))); replace BK185 := gA (blk_grown (gK BK185) hg (Kd.R_ne HO195.out BK185.out (by decide))); replace BK186 := gA (blk_grown (gK BK186) hg (Kd.R_ne HO195.out BK186.out (by decide))); replace BK200 := gA (blk_grown (gK BK200) hg (Kd.R_ne HO195.out BK200.out (by decide))); replace HB := gA (hb); have HO199 := gA (ho); clear HO195 ho hb hg hat
        obtain ⟨Ao50, co50, eo50⟩ := Kd.R_slice HO199.out
        (first | subst eo50 | (injection eo50 with f1_ f2_ f3_; have f4_ := f1_.symm; have f5_ := f3_.symm; clear f1_ f2_ f3_; subst f4_; subst f5_))
        refine hK.out _ _ ⟨(blk_cell BK184.out 0).trans rfl, (blk_cell BK184.out 1).trans rfl, (blk_cell BK185.out 0).trans rfl, (blk_cell BK185.out 1).trans rfl⟩ (fun hHeld => ?_); clear hK K
        refine norm_ (a' := ?_) ?_ ?_; rotate_left
        ·show Act.put _ (some 64) _ = _
         simp only [Act.put, List.setIfInBounds_toArray, List.set_cons_zero, List.set_cons_succ, i64_w, i32_w]; rfl
        refine pure_ (i := 8) (N := some 65) (v := ?_) (a' := ?_) #[true, true, true, true, true, true, true, true, true, true, false] rfl rfl (any_of HT_.out (by kernel_rfl)) (fun _ _ _ h => h) (Or.inl ⟨by rfl, ?_⟩) ?_ ?_; rotate_left
        ·intro w'; go_simp; with_reducible rfl
        rotate_left
        ·simp only [Act.put, List.setIfInBounds_toArray, List.set_cons_zero, List.set_cons_succ, i64_w, i32_w]; rfl
        exact norm_ (by simp only [putAll, Act.put, List.setIfInBounds_toArray, List.set_cons_zero, List.set_cons_succ]) (hCont (v191, v194, .slice Ao50 y197.length co50, gb200) _ ⟨hHeld, (gR HO199), (Kd.V_mono HO_186001.out (fun _ hk => ⟨hk.1.1, ⟨hk.2, ⟨hk.1.2.1, ⟨hk.1.2.2.1, ⟨hk.1.2.2.2.1, hk.1.2.2.2.2⟩⟩⟩⟩⟩)), (gK BK184), (gK BK185), (gK BK186), (gK BK200), GW200.out, GE200.out, NB184_200.out, NB200_184.out, NB185_200.out, NB200_185.out, NB186_200.out, NB200_186.out, (gB HB)⟩)
      ·skip
       refine box_step ?hg (N := 8) ?hd (cs := #[.slice none 0 0, .slice none 0 0]) (t := 25) ?hr ?_; (case hd => rfl); (case hg => rfl); (case hr => first | (go_simp; done) | (go_simp; rfl))
       intro gb200 hg w47 hbox hb
       replace HO_186001 := gA (Kd.V_below (Kd.V_elderB (gV HO_186001) gb200 (Nat.le_of_eq hg.symm)) hb); replace HO192 := gA (Kd.R_below (gR HO192) hb); have BK200 := gA (hbox); have GW200 := gA ((by rw [hg]; exact (below_size (gB HB)) : w.heap.size ≤ gb200)); have GE200 := gA ((by rw [hg]; exact (below_size (gB HB)) : w.heap.size ≤ gb200)); replace HB := gA (below_step (gB HB) hb); have NB184_200 := gA ((by rw [hg]; exact Nat.ne_of_lt (blk_lt (gK BK184)) : gb184 ≠ gb200)); have NB200_184 := gA ((by rw [hg]; exact Nat.ne_of_gt (blk_lt (gK BK184)) : gb200 ≠ gb184)); replace BK184 := gA (blk_below (gK BK184) hb); have NB185_200 := gA ((by rw [hg]; exact Nat.ne_of_lt (blk_lt (gK BK185)) : gb185 ≠ gb200)); have NB200_185 := gA ((by rw [hg]; exact Nat.ne_of_gt (blk_lt (gK BK185)) : gb200 ≠ gb185)); replace BK185 := gA (blk_below (gK BK185) hb); have NB186_200 := gA ((by rw [hg]; exact Nat.ne_of_lt (blk_lt (gK BK186)) : gb186 ≠ gb200)); have NB200_186 := gA ((by rw [hg]; exact Nat.ne_of_gt (blk_lt (gK BK186)) : gb200 ≠ gb186)); replace BK186 := gA (blk_below (gK BK186) hb); clear hb hbox hg
       refine hK.out _ _ ⟨(blk_cell BK184.out 0).trans rfl, (blk_cell BK184.out 1).trans rfl, (blk_cell BK185.out 0).trans rfl, (blk_cell BK185.out 1).trans rfl⟩ (fun hHeld => ?_); clear hK K
       refine norm_ (a' := ?_) ?_ ?_; rotate_left
       ·show Act.put _ (some 8) _ = _
        simp only [Act.put, List.setIfInBounds_toArray, List.set_cons_zero, List.set_cons_succ, i64_w, i32_w]; rfl
       refine one_ (i := 3) (N := some 60) #[true, true, true, true, true, true, true, false, false, true, false] rfl rfl (one_of HT_.out (by kernel_rfl)) (by decide) (fun K hK => ?_)
       refine Kd.R_append_rows_step (Kd.int .i64) (w0 := w) w.heap.size (by rfl) (.tmp 57) (.tmp 59) 22 3 (.int .i64 0) 8 rfl Try.underlying22 info3 rfl (by decide) (by omega) v191 y190 l0_0 _ _ _ (fun k_ => (w.heap.size ≤ k_)) (fun _ => False) rfl rfl ?aO ?aR (fun _ _ h => h) (fun _ h => h.elim) ?aF ?aB ?aS ?aL ?_
       (case aR => repeat (first | exact (Kd.C_below HR0_0.out HB.out) | (with_reducible refine Kd.C_alloc ?_ _) | (with_reducible refine Kd.C_drewN ?_ _) | (with_reducible refine Kd.C_drew ?_)))
       (case aB => exact (gB HB))
       (case aF => exact (fun k_ hk => (Nat.le_trans (below_size (gB HB)) hk)))
       (case aO => exact (Kd.R_mono HO192.out (fun _ hk => hk.1)))
       (case aS => exact (below_size (gB HB)))
       (case aL => have := LMc37.out; omega)
       intro v194 w48 ho hb hg hat
       rw [← Ny193.out] at ho
       replace HO_186001 := gA (Kd.V_afterv (ok := (fun k_ => (P1_1_ k_ ∨ w.heap.size ≤ k_) ∧ k_ ≠ gb184 ∧ k_ ≠ gb185 ∧ k_ ≠ gb186 ∧ k_ ≠ gb200)) (Kd.V_mono HO_186001.out (fun _ hk => ⟨⟨hk.1.1.1, ⟨hk.1.1.2.1, ⟨hk.1.1.2.2.1, ⟨hk.1.1.2.2.2, hk.2⟩⟩⟩⟩, hk.1.2⟩)) hg hat); replace BK184 := gA (blk_grown (gK BK184) hg (Kd.R_ne HO192.out BK184.out (by decide))); replace BK185 := gA (blk_grown (gK BK185) hg (Kd.R_ne HO192.out BK185.out (by decide))); replace BK186 := gA (blk_grown (gK BK186) hg (Kd.R_ne HO192.out BK186.out (by decide))); replace BK200 := gA (blk_grown (gK BK200) hg (Kd.R_ne HO192.out BK200.out (by decide))); replace HB := gA (hb); have HO195 := gA (ho); clear HO192 ho hb hg hat
       refine hK.out _ _ ⟨(blk_cell BK184.out 0).trans rfl, (blk_cell BK184.out 1).trans rfl, (blk_cell BK185.out 0).trans rfl, (blk_cell BK185.out 1).trans rfl⟩ (fun hHeld => ?_); clear hK K
       refine norm_ (a' := ?_) ?_ ?_; rotate_left
       ·show Act.put _ (some 60) _ = _
        simp only [Act.put, List.setIfInBounds_toArray, List.set_cons_zero, List.set_cons_succ, i64_w, i32_w]; rfl
       refine one_ (i := 7) (N := some 64) #[true, true, true, true, true, true, true, true, false, true, false] rfl rfl (one_of HT_.out (by kernel_rfl)) (by decide) (fun K hK => ?_)
       refine Kd.R_append_rows_step (Kd.int .i64) (w0 := w) w.heap.size (by rfl) (.tmp 60) (.tmp 63) 22 3 (.int .i64 0) 8 rfl Try.underlying22 info3 rfl (by decide) (by omega) v194 y193 (l1_0.drop 1) _ _ _ (fun k_ => (w.heap.size ≤ k_)) (fun _ => False) rfl rfl ?aO ?aR (fun _ _ h => h) (fun _ h => h.elim) ?aF ?aB ?aS ?aL ?_
       (case aR => first | (rw [← show (l1_0.drop 1).length = (l1_0.length - 1) from List.length_drop]; repeat (first | exact (Kd.C_below HR196.out HB.out) | (with_reducible refine Kd.C_alloc ?_ _) | (with_reducible refine Kd.C_drewN ?_ _) | (with_reducible refine Kd.C_drew ?_))) | (repeat (first | exact (Kd.C_below HR196.out HB.out) | (with_reducible refine Kd.C_alloc ?_ _) | (with_reducible refine Kd.C_drewN ?_ _) | (with_reducible refine Kd.C_drew ?_))))
       (case aB => exact (gB HB))
       (case aF => exact (fun k_ hk => (Nat.le_trans (below_size (gB HB)) hk)))
       (case aO => exact (gR HO195))
       (case aS => exact (below_size (gB HB)))
       (case aL => have := LMc39.out; have hlx_ := (show (l1_0.drop 1).length = (l1_0.length - 1) from List.length_drop); omega)
       intro v198 w49 ho hb hg hat
       rw [← Ny197.out] at ho
       replace HO_186001 := gA (Kd.V_afterv (ok := (fun k_ => (P1_1_ k_ ∨ w.heap.size ≤ k_) ∧ k_ ≠ gb184 ∧ k_ ≠ gb185 ∧ k_ ≠ gb186 ∧ k_ ≠ gb200)) (gV HO_186001) hg hat); replace BK184 := gA (blk_grown (gK BK184) hg (Kd.R_ne HO195.out BK184.out (by decide))); replace BK185 := gA (blk_grown (gK BK185) hg (Kd.R_ne HO195.out BK185.out (by decide))); replace BK186 := gA (blk_grown (gK BK186) hg (Kd.R_ne HO195.out BK186.out (by decide))); replace BK200 := gA (blk_grown (gK BK200) hg (Kd.R_ne HO195.out BK200.out (by decide))); replace HB := gA (hb); have HO199 := gA (ho); clear HO195 ho hb hg hat
       obtain ⟨Ao50, co50, eo50⟩ := Kd.R_slice HO199.out
       (first | subst eo50 | (injection eo50 with f1_ f2_ f3_; have f4_ := f1_.symm; have f5_ := f3_.symm; clear f1_ f2_ f3_; subst f4_; subst f5_))
       refine hK.out _ _ ⟨(blk_cell BK184.out 0).trans rfl, (blk_cell BK184.out 1).trans rfl, (blk_cell BK185.out 0).trans rfl, (blk_cell BK185.out 1).trans rfl⟩ (fun hHeld => ?_); clear hK K
       refine norm_ (a' := ?_) ?_ ?_; rotate_left
       ·show Act.put _ (some 64) _ = _
        simp only [Act.put, List.setIfInBounds_toArray, List.set_cons_zero, List.set_cons_succ, i64_w, i32_w]; rfl
       refine pure_ (i := 8) (N := some 65) (v := ?_) (a' := ?_) #[true, true, true, true, true, true, true, true, true, true, false] rfl rfl (any_of HT_.out (by kernel_rfl)) (fun _ _ _ h => h) (Or.inl ⟨by rfl, ?_⟩) ?_ ?_; rotate_left
       ·intro w'; go_simp; with_reducible rfl
       rotate_left
       ·simp only [Act.put, List.setIfInBounds_toArray, List.set_cons_zero, List.set_cons_succ, i64_w, i32_w]; rfl
       exact norm_ (by simp only [putAll, Act.put, List.setIfInBounds_toArray, List.set_cons_zero, List.set_cons_succ]) (hCont (v191, v194, .slice Ao50 y197.length co50, gb200) _ ⟨hHeld, (gR HO199), (Kd.V_mono HO_186001.out (fun _ hk => ⟨hk.1.1, ⟨hk.2, ⟨hk.1.2.1, ⟨hk.1.2.2.1, ⟨hk.1.2.2.2.1, hk.1.2.2.2.2⟩⟩⟩⟩⟩)), (gK BK184), (gK BK185), (gK BK186), (gK BK200), GW200.out, GE200.out, NB184_200.out, NB200_184.out, NB185_200.out, NB200_185.out, NB186_200.out, NB200_186.out, (gB HB)⟩)
     ·skip
      refine box_step ?hg (N := 8) ?hd (cs := #[.slice none 0 0, .slice none 0 0]) (t := 25) ?hr ?_; (case hd => rfl); (case hg => rfl); (case hr => first | (go_simp; done) | (go_simp; rfl))
      intro gb200 hg w45 hbox hb
      replace HO_186001 := gA (Kd.V_below (Kd.V_elderB (gV HO_186001) gb200 (Nat.le_of_eq hg.symm)) hb); have BK200 := gA (hbox); have GW200 := gA ((by rw [hg]; exact (below_size (gB HB)) : w.heap.size ≤ gb200)); have GE200 := gA ((by rw [hg]; exact (below_size (gB HB)) : w.heap.size ≤ gb200)); replace HB := gA (below_step (gB HB) hb); have NB184_200 := gA ((by rw [hg]; exact Nat.ne_of_lt (blk_lt (gK BK184)) : gb184 ≠ gb200)); have NB200_184 := gA ((by rw [hg]; exact Nat.ne_of_gt (blk_lt (gK BK184)) : gb200 ≠ gb184)); replace BK184 := gA (blk_below (gK BK184) hb); have NB185_200 := gA ((by rw [hg]; exact Nat.ne_of_lt (blk_lt (gK BK185)) : gb185 ≠ gb200)); have NB200_185 := gA ((by rw [hg]; exact Nat.ne_of_gt (blk_lt (gK BK185)) : gb200 ≠ gb185)); replace BK185 := gA (blk_below (gK BK185) hb); have NB186_200 := gA ((by rw [hg]; exact Nat.ne_of_lt (blk_lt (gK BK186)) : gb186 ≠ gb200)); have NB200_186 := gA ((by rw [hg]; exact Nat.ne_of_gt (blk_lt (gK BK186)) : gb200 ≠ gb186)); replace BK186 := gA (blk_below (gK BK186) hb); clear hb hbox hg
      refine hK.out _ _ ⟨(blk_cell BK184.out 0).trans rfl, (blk_cell BK184.out 1).trans rfl, (blk_cell BK185.out 0).trans rfl, (blk_cell BK185.out 1).trans rfl⟩ (fun hHeld => ?_); clear hK K
      refine norm_ (a' := ?_) ?_ ?_; rotate_left
      ·show Act.put _ (some 8) _ = _
       simp only [Act.put, List.setIfInBounds_toArray, List.set_cons_zero, List.set_cons_succ, i64_w, i32_w]; rfl
      refine one_ (i := 0) (N := some 57) #[true, true, true, false, true, true, true, false, false, true, false] rfl rfl (one_of HT_.out (by kernel_rfl)) (by decide) (fun K hK => ?_)
      refine Kd.R_lit_step (Kd.int .i64) _ 3 ?hg (N := 57) ?hd (xs := ([] : List Int)) (inner := []) (ok := fun _ => True) (okp := fun _ => True) ?hr ?hp (fun _ hk => hk) trivial (Below.refl _ _) (Nat.le_refl _) (by simp) ?_; (case hd => rfl); (case hg => rfl); (case hr => first | (go_simp; done) | (go_simp; rfl)); (case hp => exact (Reps.none _ _))
      intro v191 w46 ho47 hb hg_ hnew_; clear hg_ hnew_
      (first | rw [← Ny190.out] at ho47 | (simp only [Int.reduceToNat] at ho47; rw [← Ny190.out] at ho47))
      replace HO_186001 := gA (Kd.V_elder' (gV HO_186001) (Kd.R_base ho47) hb); have HO192 := gA (Kd.R_lower (Kd.R_newM (M := fun k_ => (w.heap.size ≤ k_)) ho47 (below_size (gB HB)) (fun k_ h_ => h_)) (below_size (gB HB))); replace BK184 := gA (blk_below (gK BK184) hb); replace BK185 := gA (blk_below (gK BK185) hb); replace BK186 := gA (blk_below (gK BK186) hb); replace BK200 := gA (blk_below (gK BK200) hb); replace HB := gA (below_step (gB HB) hb); clear hb ho47
      refine hK.out _ _ ⟨(blk_cell BK184.out 0).trans rfl, (blk_cell BK184.out 1).trans rfl, (blk_cell BK185.out 0).trans rfl, (blk_cell BK185.out 1).trans rfl⟩ (fun hHeld => ?_); clear hK K
      refine norm_ (a' := ?_) ?_ ?_; rotate_left
      ·show Act.put _ (some 57) _ = _
       simp only [Act.put, List.setIfInBounds_toArray, List.set_cons_zero, List.set_cons_succ, i64_w, i32_w]; rfl
      refine one_ (i := 3) (N := some 60) #[true, true, true, true, true, true, true, false, false, true, false] rfl rfl (one_of HT_.out (by kernel_rfl)) (by decide) (fun K hK => ?_)
      refine Kd.R_append_rows_step (Kd.int .i64) (w0 := w) w.heap.size (by rfl) (.tmp 57) (.tmp 59) 22 3 (.int .i64 0) 8 rfl Try.underlying22 info3 rfl (by decide) (by omega) v191 y190 l0_0 _ _ _ (fun k_ => (w.heap.size ≤ k_)) (fun _ => False) rfl rfl ?aO ?aR (fun _ _ h => h) (fun _ h => h.elim) ?aF ?aB ?aS ?aL ?_
      (case aR => repeat (first | exact (Kd.C_below HR0_0.out HB.out) | (with_reducible refine Kd.C_alloc ?_ _) | (with_reducible refine Kd.C_drewN ?_ _) | (with_reducible refine Kd.C_drew ?_)))
      (case aB => exact (gB HB))
      (case aF => exact (fun k_ hk => (Nat.le_trans (below_size (gB HB)) hk)))
      (case aO => exact (Kd.R_mono HO192.out (fun _ hk => hk.1)))
      (case aS => exact (below_size (gB HB)))
      (case aL => have := LMc37.out; omega)
      intro v194 w48 ho hb hg hat
      rw [← Ny193.out] at ho
      replace HO_186001 := gA (Kd.V_afterv (ok := (fun k_ => (P1_1_ k_ ∨ w.heap.size ≤ k_) ∧ k_ ≠ gb184 ∧ k_ ≠ gb185 ∧ k_ ≠ gb186 ∧ k_ ≠ gb200)) (Kd.V_mono HO_186001.out (fun _ hk => ⟨⟨hk.1.1.1, ⟨hk.1.1.2.1, ⟨hk.1.1.2.2.1, ⟨hk.1.1.2.2.2, hk.1.2⟩⟩⟩⟩, hk.2⟩)) hg hat); replace BK184 := gA (blk_grown (gK BK184) hg (Kd.R_ne HO192.out BK184.out (by decide))); replace BK185 := gA (blk_grown (gK BK185) hg (Kd.R_ne HO192.out BK185.out (by decide))); replace BK186 := gA (blk_grown (gK BK186) hg (Kd.R_ne HO192.out BK186.out (by decide))); replace BK200 := gA (blk_grown (gK BK200) hg (Kd.R_ne HO192.out BK200.out (by decide))); replace HB := gA (hb); have HO195 := gA (ho); clear HO192 ho hb hg hat
      refine hK.out _ _ ⟨(blk_cell BK184.out 0).trans rfl, (blk_cell BK184.out 1).trans rfl, (blk_cell BK185.out 0).trans rfl, (blk_cell BK185.out 1).trans rfl⟩ (fun hHeld => ?_); clear hK K
      refine norm_ (a' := ?_) ?_ ?_; rotate_left
      ·show Act.put _ (some 60) _ = _
       simp only [Act.put, List.setIfInBounds_toArray, List.set_cons_zero, List.set_cons_succ, i64_w, i32_w]; rfl
      refine one_ (i := 7) (N := some 64) #[true, true, true, true, true, true, true, true, false, true, false] rfl rfl (one_of HT_.out (by kernel_rfl)) (by decide) (fun K hK => ?_)
      refine Kd.R_append_rows_step (Kd.int .i64) (w0 := w) w.heap.size (by rfl) (.tmp 60) (.tmp 63) 22 3 (.int .i64 0) 8 rfl Try.underlying22 info3 rfl (by decide) (by omega) v194 y193 (l1_0.drop 1) _ _ _ (fun k_ => (w.heap.size ≤ k_)) (fun _ => False) rfl rfl ?aO ?aR (fun _ _ h => h) (fun _ h => h.elim) ?aF ?aB ?aS ?aL ?_
      (case aR => first | (rw [← show (l1_0.drop 1).length = (l1_0.length - 1) from List.length_drop]; repeat (first | exact (Kd.C_below HR196.out HB.out) | (with_reducible refine Kd.C_alloc ?_ _) | (with_reducible refine Kd.C_drewN ?_ _) | (with_reducible refine Kd.C_drew ?_))) | (repeat (first | exact (Kd.C_below HR196.out HB.out) | (with_reducible refine Kd.C_alloc ?_ _) | (with_reducible refine Kd.C_drewN ?_ _) | (with_reducible refine Kd.C_drew ?_))))
      (case aB => exact (gB HB))
      (case aF => exact (fun k_ hk => (Nat.le_trans (below_size (gB HB)) hk)))
      (case aO => exact (gR HO195))
      (case aS => exact (below_size (gB HB)))
      (case aL => have := LMc39.out; have hlx_ := (show (l1_0.drop 1).length = (l1_0.length - 1) from List.length_drop); omega)
      intro v198 w49 ho hb hg hat
      rw [← Ny197.out] at ho
      replace HO_186001 := gA (Kd.V_afterv (ok := (fun k_ => (P1_1_ k_ ∨ w.heap.size ≤ k_) ∧ k_ ≠ gb184 ∧ k_ ≠ gb185 ∧ k_ ≠ gb186 ∧ k_ ≠ gb200)) (gV HO_186001) hg hat); replace BK184 := gA (blk_grown (gK BK184) hg (Kd.R_ne HO195.out BK184.out (by decide))); replace BK185 := gA (blk_grown (gK BK185) hg (Kd.R_ne HO195.out BK185.out (by decide))); replace BK186 := gA (blk_grown (gK BK186) hg (Kd.R_ne HO195.out BK186.out (by decide))); replace BK200 := gA (blk_grown (gK BK200) hg (Kd.R_ne HO195.out BK200.out (by decide))); replace HB := gA (hb); have HO199 := gA (ho); clear HO195 ho hb hg hat
      obtain ⟨Ao50, co50, eo50⟩ := Kd.R_slice HO199.out
      (first | subst eo50 | (injection eo50 with f1_ f2_ f3_; have f4_ := f1_.symm; have f5_ := f3_.symm; clear f1_ f2_ f3_; subst f4_; subst f5_))
      refine hK.out _ _ ⟨(blk_cell BK184.out 0).trans rfl, (blk_cell BK184.out 1).trans rfl, (blk_cell BK185.out 0).trans rfl, (blk_cell BK185.out 1).trans rfl⟩ (fun hHeld => ?_); clear hK K
      refine norm_ (a' := ?_) ?_ ?_; rotate_left
      ·show Act.put _ (some 64) _ = _
       simp only [Act.put, List.setIfInBounds_toArray, List.set_cons_zero, List.set_cons_succ, i64_w, i32_w]; rfl
      refine pure_ (i := 8) (N := some 65) (v := ?_) (a' := ?_) #[true, true, true, true, true, true, true, true, true, true, false] rfl rfl (any_of HT_.out (by kernel_rfl)) (fun _ _ _ h => h) (Or.inl ⟨by rfl, ?_⟩) ?_ ?_; rotate_left
      ·intro w'; go_simp; with_reducible rfl
      rotate_left
      ·simp only [Act.put, List.setIfInBounds_toArray, List.set_cons_zero, List.set_cons_succ, i64_w, i32_w]; rfl
      exact norm_ (by simp only [putAll, Act.put, List.setIfInBounds_toArray, List.set_cons_zero, List.set_cons_succ]) (hCont (v191, v194, .slice Ao50 y197.length co50, gb200) _ ⟨hHeld, (gR HO199), (Kd.V_mono HO_186001.out (fun _ hk => ⟨hk.1.1, ⟨hk.2, ⟨hk.1.2.1, ⟨hk.1.2.2.1, ⟨hk.1.2.2.2.1, hk.1.2.2.2.2⟩⟩⟩⟩⟩)), (gK BK184), (gK BK185), (gK BK186), (gK BK200), GW200.out, GE200.out, NB184_200.out, NB200_184.out, NB185_200.out, NB200_185.out, NB186_200.out, NB200_186.out, (gB HB)⟩)
    rintro ⟨v191, v194, v198, gb200⟩ w51 ⟨hS_, h0_, h1_, h2_, h3_, h4_, h5_, h6_, h7_, h8_, h9_, h10_, h11_, h12_, h13_, h14_⟩
    have n0_ : Aside0 (Kd.R (Kd.int .i64) 3 w51 w.heap.size (fun k_ => (w.heap.size ≤ k_)) v198 y197) := ⟨h0_⟩
    have n1_ : Aside0 (Kd.V k45 45 w51 w.heap.size (fun k_ => (P1_1_ k_ ∨ w.heap.size ≤ k_) ∧ some k_ ≠ (v198 : Value).ownBlock ∧ k_ ≠ gb184 ∧ k_ ≠ gb185 ∧ k_ ≠ gb186 ∧ k_ ≠ gb200) (.slice A1_1 l1_1.length c1_1) l1_1) := ⟨h1_⟩
    have n2_ : Aside0 (w51.heap[gb184]? = some (.cells #[.slice A0_0 l0_0.length c0_0, .slice A0_1 l0_1.length c0_1] 25 (0, 0))) := ⟨h2_⟩
    have n3_ : Aside0 (w51.heap[gb185]? = some (.cells #[.slice A1_0 l1_0.length c1_0, .slice A1_1 l1_1.length c1_1] 25 (0, 0))) := ⟨h3_⟩
    have n4_ : Aside0 (w51.heap[gb186]? = some (.cells #[.slice none 0 0, .slice none 0 0] 25 (0, 0))) := ⟨h4_⟩
    have n5_ : Aside0 (w51.heap[gb200]? = some (.cells #[.slice none 0 0, .slice none 0 0] 25 (0, 0))) := ⟨h5_⟩
    have n6_ : Aside0 (w.heap.size ≤ gb200) := ⟨h6_⟩
    have n7_ : Aside0 (w.heap.size ≤ gb200) := ⟨h7_⟩
    have n8_ : Aside0 (gb184 ≠ gb200) := ⟨h8_⟩
    have n9_ : Aside0 (gb200 ≠ gb184) := ⟨h9_⟩
    have n10_ : Aside0 (gb185 ≠ gb200) := ⟨h10_⟩
    have n11_ : Aside0 (gb200 ≠ gb185) := ⟨h11_⟩
    have n12_ : Aside0 (gb186 ≠ gb200) := ⟨h12_⟩
    have n13_ : Aside0 (gb200 ≠ gb186) := ⟨h13_⟩
    have n14_ : Aside0 (Below w.heap.size w w51) := ⟨h14_⟩
    clear HO_186001 BK184 BK185 BK186 HB h0_ h1_ h2_ h3_ h4_ h5_ h6_ h7_ h8_ h9_ h10_ h11_ h12_ h13_ h14_; have HO199 := n0_; have HO_186001 := n1_; have BK184 := n2_; have BK185 := n3_; have BK186 := n4_; have BK200 := n5_; have GW200 := n6_; have GE200 := n7_; have NB184_200 := n8_; have NB200_184 := n9_; have NB185_200 := n10_; have NB200_185 := n11_; have NB186_200 := n12_; have NB200_186 := n13_; have HB := n14_; clear n0_ n1_ n2_ n3_ n4_ n5_ n6_ n7_ n8_ n9_ n10_ n11_ n12_ n13_ n14_
    have hHeld : w51.cell? ⟨gb184, 0, none⟩ = some (.slice A0_0 l0_0.length c0_0) ∧ w51.cell? ⟨gb184, 1, none⟩ = some (.slice A0_1 l0_1.length c0_1) ∧ w51.cell? ⟨gb185, 0, none⟩ = some (.slice A1_0 l1_0.length c1_0) ∧ w51.cell? ⟨gb185, 1, none⟩ = some (.slice A1_1 l1_1.length c1_1) := hS_
    obtain ⟨Ao52, co52, eo52⟩ := Kd.R_slice HO199.out
    (first | subst eo52 | (injection eo52 with f1_ f2_ f3_; have f4_ := f1_.symm; have f5_ := f3_.symm; clear f1_ f2_ f3_; subst f4_; subst f5_))
    refine norm_ (a' := ?_) ?_ ?_; rotate_left
    ·simp only [putAll, Act.put, List.setIfInBounds_toArray, List.set_cons_zero, List.set_cons_succ]; rfl
    refine one_ (i := 10) (N := none) #[true, true, true, true, true, true, true, true, true, true, true] rfl rfl (one_of HT_.out (by kernel_rfl)) (by decide) (fun K hK => ?_)
    have hs53 := gz BK200 0 rfl
    have hfs53 := blk_frozen BK200.out 0
    have hns53_0 := NB184_200.out
    have hns53_1 := NB185_200.out
    have hns53_2 := NB186_200.out
    have hms53_0 := NB200_184.out
    have hms53_1 := NB200_185.out
    have hms53_2 := NB200_186.out
    have hs54 := gz BK200 1 rfl
    have hfs54 := blk_frozen BK200.out 1
    have hns54_0 := NB184_200.out
    have hns54_1 := NB185_200.out
    have hns54_2 := NB186_200.out
    have hms54_0 := NB200_184.out
    have hms54_1 := NB200_185.out
    have hms54_2 := NB200_186.out
    refine skip_ (w1 := ?_) (by rfl) rfl ?_ ?_; rotate_left
    ·go_simp; rfl
    refine hK.out _ _ ⟨((cell_far (p := ⟨gb200, _, none⟩) NB184_200.out _).trans (((cell_far (p := ⟨gb200, _, none⟩) NB184_200.out _).trans (hHeld.1)))), ((cell_far (p := ⟨gb200, _, none⟩) NB184_200.out _).trans (((cell_far (p := ⟨gb200, _, none⟩) NB184_200.out _).trans (hHeld.2.1)))), ((cell_far (p := ⟨gb200, _, none⟩) NB185_200.out _).trans (((cell_far (p := ⟨gb200, _, none⟩) NB185_200.out _).trans (hHeld.2.2.1)))), ((cell_far (p := ⟨gb200, _, none⟩) NB185_200.out _).trans (((cell_far (p := ⟨gb200, _, none⟩) NB185_200.out _).trans (hHeld.2.2.2))))⟩ (fun hHeld => ?_); clear hK K
    refine done_ (done_of HT_.out (by kernel_rfl)) ?_
    have hnb55 := NB200_184.out
    have hnc55 := NB184_200.out
    have hnb56 := NB200_185.out
    have hnc56 := NB185_200.out
    have hnb57 := NB200_186.out
    have hnc57 := NB186_200.out
    obtain ⟨hcz58_0, hcz58_1, hfz58_0, hfz58_1⟩ := gz2 BK200
    try go_wp2_with (first | ((with_reducible refine gate_callee (f := 41) rfl ?_); refine goesL_ (some 69) rfl rfl Try.func41 (by kernel_rfl) rfl #[.slice Ao52 y197.length co52] rfl (by (try simp only [List.map_toArray, List.map_cons, List.map_nil]); first | done | rfl | (simp only [List.length_drop, List.length_take]; rfl)) ?_; (with_reducible refine (arr_Size.calls k1 _ _ y197 t201 t202 _ ?side1 ?side2 A40.out).mono ?_); (case side1 => refine (Kd.R_reads' (e := 3) (base := w.heap.size) (ok := fun k_ => (w.heap.size ≤ k_)) (n := y197.length) (c := co52) ?_).2.2; exact (by (with_reducible repeat (first | apply Kd.R_alloc | apply Kd.R_drewN | apply Kd.R_drew)); exact (Kd.R_mono (Kd.R_far (p := ⟨gb200, 1, none⟩) (Kd.R_far (p := ⟨gb200, 0, none⟩) (Kd.R_types HO199.out BK200.out (by decide)) (fun _ hk => hk.2) (.slice Ao52 y197.length co52)) (fun _ hk => hk.2) (.slice none 0 0)) (fun _ h_ => h_.1)))); (case side2 => exact (Kd.R_reads' HO199.out).2.1); rintro e w' ⟨rfl, ⟨nd, rfl⟩⟩; refine ⟨_, rfl, ?_⟩; have hnb59 := NB185_184.out; have hnc59 := NB184_185.out; have hnb60 := NB185_186.out; have hnc60 := NB186_185.out; obtain ⟨hcz61_0, hcz61_1, hfz61_0, hfz61_1⟩ := gz2 BK185) | ((with_reducible refine gate_callee (f := 42) rfl ?_); refine goesL_ (some 77) rfl rfl Try.func42 (by kernel_rfl) rfl #[.agg #[.slice A1_0 l1_0.length c1_0, .slice A1_1 l1_1.length c1_1]] rfl (by (try simp only [List.map_toArray, List.map_cons, List.map_nil]); first | done | rfl | (simp only [List.length_drop, List.length_take]; rfl)) ?_; (with_reducible refine (pick_inner.calls k1 _ _ l1_0 _ _ l1_1 t203 _ ?side1 ?side2 ?side3 ?side4 A42.out).mono ?_); (case side1 => exact Kd.C_below HR1_0.out (by repeat (first | (with_reducible first | exact HB.out | apply below_alloc | apply pw_below_drewN | apply below_drew1 | refine below_set ?_ GE184.out | refine below_set ?_ GE185.out | refine below_set ?_ GE186.out | refine below_set ?_ GE200.out) | exact HB.out))); (case side2 => exact HC1_0.out); (case side3 => refine (Kd.V_reads' (e := 45) (base := w.heap.size) (ok := fun k_ => ((P1_1_ k_ ∨ w.heap.size ≤ k_) ∧ (some k_ ≠ (.slice Ao52 y197.length co52 : Value).ownBlock ∧ (k_ ≠ gb184 ∧ (k_ ≠ gb185 ∧ (k_ ≠ gb186 ∧ k_ ≠ gb200)))))) (n := l1_1.length) (c := c1_1) ?_).2.2; exact (by (with_reducible repeat (first | apply Kd.V_alloc | apply Kd.V_drewN | apply Kd.V_drew)); exact (Kd.V_mono (Kd.V_far (p := ⟨gb200, 1, none⟩) (Kd.V_far (p := ⟨gb200, 0, none⟩) (Kd.V_mono HO_186001.out (fun k_ hk => (⟨hk, hk.2.2.2.2.2⟩ : _ ∧ k_ ≠ gb200))) (fun _ hk => hk.2) (.slice Ao52 y197.length co52)) (fun _ hk => hk.2) (.slice none 0 0)) (fun _ h_ => h_.1)))); (case side4 => exact (Kd.V_reads' HO_186001.out).2.1); rintro e w62 ⟨rfl, hb⟩; refine ⟨_, rfl, ?_⟩; replace HO_186001 := gA (Kd.V_below (by (with_reducible repeat (first | apply Kd.V_alloc | apply Kd.V_drewN | apply Kd.V_drew)); exact (Kd.V_mono (Kd.V_far (p := ⟨gb200, 1, none⟩) (Kd.V_far (p := ⟨gb200, 0, none⟩) (Kd.V_mono HO_186001.out (fun k_ hk => (⟨hk, hk.2.2.2.2.2⟩ : _ ∧ k_ ≠ gb200))) (fun _ hk => hk.2) (.slice Ao52 y197.length co52)) (fun _ hk => hk.2) (.slice none 0 0)) (fun _ h_ => h_.1))) hb); replace HO199 := gA (Kd.R_below (by (with_reducible repeat (first | apply Kd.R_alloc | apply Kd.R_drewN | apply Kd.R_drew)); exact (Kd.R_mono (Kd.R_far (p := ⟨gb200, 1, none⟩) (Kd.R_far (p := ⟨gb200, 0, none⟩) (Kd.R_types HO199.out BK200.out (by decide)) (fun _ hk => hk.2) (.slice Ao52 y197.length co52)) (fun _ hk => hk.2) (.slice none 0 0)) (fun _ h_ => h_.1))) hb); replace BK184 := gA (blk_below (g := gb184) (o := .cells #[.slice A0_0 l0_0.length c0_0, .slice A0_1 l0_1.length c0_1] 25 (0, 0)) (by refine blk_far ?_ NB184_200.out _; refine blk_far ?_ NB184_200.out _; exact gK BK184) hb); replace BK185 := gA (blk_below (g := gb185) (o := .cells #[.slice A1_0 l1_0.length c1_0, .slice A1_1 l1_1.length c1_1] 25 (0, 0)) (by refine blk_far ?_ NB185_200.out _; refine blk_far ?_ NB185_200.out _; exact gK BK185) hb); replace BK186 := gA (blk_below (g := gb186) (o := .cells #[.slice none 0 0, .slice none 0 0] 25 (0, 0)) (by refine blk_far ?_ NB186_200.out _; refine blk_far ?_ NB186_200.out _; exact gK BK186) hb); replace BK200 := gA (blk_below (g := gb200) (o := .cells #[.slice Ao52 y197.length co52, .slice none 0 0] 25 (0, 0)) (by refine blk_put (cs := #[.slice Ao52 y197.length co52, .slice none 0 0]) ?_ 1 _ rfl; refine blk_put (cs := #[.slice none 0 0, .slice none 0 0]) ?_ 0 _ rfl; exact gK BK200) hb); replace HB := gA (below_step (by repeat (first | (with_reducible first | exact HB.out | apply below_alloc | apply pw_below_drewN | apply below_drew1 | refine below_set ?_ GE184.out | refine below_set ?_ GE185.out | refine below_set ?_ GE186.out | refine below_set ?_ GE200.out) | exact HB.out)) hb); (try clear hb); (try clear hk); have hnb63 := NB184_186.out; have hnc63 := NB186_184.out; obtain ⟨hcz64_0, hcz64_1, hfz64_0, hfz64_1⟩ := gz2 BK184))
    go_loopg [81] k1 (fun kq v81 w' => ∃ (x81_2 : Int) (x201001_2 : List (S45)) (u201001 : Value), v81 = .int .i64 x81_2 ∧ Aside0 (pick_from.l1 kq t203 l0_1 (l0_1.length : Int) x81_2 l1_0 l1_1 y197 x201001_2 = some (r1, r2, r3)) ∧ Aside0 (kq ≤ k1) ∧ Aside0 (Kd.V k45 45 w' w.heap.size (fun k_ => (P1_1_ k_ ∨ w.heap.size ≤ k_) ∧ some k_ ≠ ((.slice Ao52 y197.length co52) : Value).ownBlock ∧ some k_ ≠ (u201001 : Value).ownBlock ∧ k_ ≠ gb184 ∧ k_ ≠ gb185 ∧ k_ ≠ gb186 ∧ k_ ≠ gb200) (.slice A1_1 l1_1.length c1_1) l1_1) ∧ Aside0 (Kd.R (Kd.int .i64) 3 w' w.heap.size (fun k_ => (w.heap.size ≤ k_)) (.slice Ao52 y197.length co52) y197) ∧ Aside0 (Kd.N k45 45 w' w.heap.size (fun k_ => (P1_1_ k_ ∨ w.heap.size ≤ k_) ∧ some k_ ≠ ((.slice Ao52 y197.length co52) : Value).ownBlock ∧ k_ ≠ gb184 ∧ k_ ≠ gb185 ∧ k_ ≠ gb186 ∧ k_ ≠ gb200) u201001 x201001_2) ∧ Aside0 (w'.heap[gb184]? = some (.cells #[(.slice A0_0 l0_0.length c0_0), (.slice A0_1 l0_1.length c0_1)] 25 (0, 0))) ∧ Aside0 (w'.heap[gb185]? = some (.cells #[(.slice A1_0 l1_0.length c1_0), (.slice A1_1 l1_1.length c1_1)] 25 (0, 0))) ∧ Aside0 (w'.heap[gb186]? = some (.cells #[(.slice none 0 0), (.slice none 0 0)] 25 (0, 0))) ∧ Aside0 (w'.heap[gb200]? = some (.cells #[(.slice Ao52 y197.length co52), u201001] 25 (0, 0))) ∧ Aside0 (Below w.heap.size w w'))
    case atStart => exact ⟨(0), (([] : List (S45))), (.slice none 0 0), (rfl), H', ⟨Nat.le_refl _⟩, ⟨Kd.V_mono HO_186001.out (fun _ hk => ⟨hk.1, ⟨hk.2.1, ⟨(by simp [Value.ownBlock]), ⟨hk.2.2.1, ⟨hk.2.2.2.1, ⟨hk.2.2.2.2.1, hk.2.2.2.2.2⟩⟩⟩⟩⟩⟩)⟩, ⟨gR HO199⟩, ⟨by first | exact Kd.R_nil _ _ _ _ _ | exact Kd.N_nil _ _ _ _ _ | exact Kd.V_nil _ _ _ _ _ | exact Kd.Q_nil _ _ _ _ _ | exact Kd.S_nil _ _ _ _ _⟩, ⟨gK BK184⟩, ⟨gK BK185⟩, ⟨gK BK186⟩, ⟨gK BK200⟩, ⟨by repeat first | exact gB HB | refine below_set ?_ GE184.out | refine below_set ?_ GE185.out | refine below_set ?_ GE186.out | refine below_set ?_ GE200.out⟩⟩
    case round =>
     clear H'
     try clear c1
     try clear p2
     try clear c3
     try clear c4
     try clear c5
     try clear c6
     try clear c37
     try clear c39
     try clear c41
     try clear c42
     try clear c55
     try clear c56
     try clear c57
     try clear c59
     try clear c60
     try clear c63
     try clear hcz58_0
     try clear hcz58_1
     try clear hcz61_0
     try clear hcz61_1
     try clear hcz64_0
     try clear hcz64_1
     try clear hfz58_0
     try clear hfz58_1
     try clear hfz61_0
     try clear hfz61_1
     try clear hfz64_0
     try clear hfz64_1
     obtain ⟨x81_2, x201001_2, u201001, rfl, HA, HK2, HO_186001, HO_201000, HO_201001, BK184, BK185, BK186, BK200, HB⟩ := hrel
     cases gk with
     | zero => exact absurd HA.out (by simp [pick_from.l1])
     | succ k2 =>
      have H := HA.out; clear HA
      simp only [pick_from.l1] at H
      by_cases c65 : x81_2 < (l0_1.length : Int)
      ·rw [if_pos c65] at H
       have c65b0 := decide_eq_true c65
       clear c65
       obtain ⟨c66, H⟩ := iS H
       have c66b0 := decide_eq_true c66
       clear c66
       obtain ⟨c67, H⟩ := iS H
       have c67b0 := decide_eq_true c67
       clear c67
       obtain ⟨ji68, hji68⟩ : ∃ j_ : Int, (wrap64 (((rd_T45 l0_1 x81_2).f1) * t203)) = j_ := ⟨_, rfl⟩
       replace H : (if 0 ≤ (ji68) then (if (ji68) ≤ (wrap64 ((wrap64 (((rd_T45 l0_1 x81_2).f1) + 1)) * t203)) then (if (wrap64 ((wrap64 (((rd_T45 l0_1 x81_2).f1) + 1)) * t203)) ≤ (l1_1.length : Int) then ((some ((l1_1.take ((wrap64 ((wrap64 (((rd_T45 l0_1 x81_2).f1) + 1)) * t203)) : Int).toNat).drop ((ji68) : Int).toNat : List (S45))).bind fun y206 => (if x201001_2.length + y206.length < 3518437208883 then (pick_from.l1 k2 t203 l0_1 (l0_1.length : Int) (wrap64 (x81_2 + 1)) l1_0 l1_1 y197 (x201001_2 ++ y206)) else (none))) else (none)) else (none)) else (none)) = some (r1, r2, r3) := by first | (rw [hji68] at H; exact H) | (simp only [hji68] at H ⊢; exact H)
       have hji68w : (IntKind.i64.wrap (((rd_T45 l0_1 x81_2).f1) * t203)) = ji68 := (i64_w _).trans hji68
       obtain ⟨c69, H⟩ := iS H
       have c69b0 := eq_true c69
       have c69b1 := decide_eq_true c69
       clear c69
       obtain ⟨c70, H⟩ := iS H
       have c70b0 := eq_true c70
       have c70b1 := decide_eq_true c70
       obtain ⟨c71, H⟩ := iS H
       have c71b0 := eq_true c71
       have c71b1 := decide_eq_true c71
       obtain ⟨y206, hy206⟩ : ∃ y_ : List (S45), y_ = ((l1_1.take ((wrap64 ((wrap64 (((rd_T45 l0_1 x81_2).f1) + 1)) * t203)) : Int).toNat).drop ((ji68) : Int).toNat) := ⟨_, rfl⟩
       replace H : (if x201001_2.length + y206.length < 3518437208883 then (pick_from.l1 k2 t203 l0_1 (l0_1.length : Int) (wrap64 (x81_2 + 1)) l1_0 l1_1 y197 (x201001_2 ++ y206)) else (none)) = some (r1, r2, r3) := by first | (rw [hy206]; with_reducible exact H) | (have H2_ := (Option.bind_some _ _).symm.trans H; rw [hy206]; with_reducible exact H2_) | (have H2_ := (Option.bind_some _ _).symm.trans H; with_reducible exact H2_) | with_reducible exact H | (rw [hy206]; exact H) | exact H
       have Ny206 := gA hy206
       clear hy206
       obtain ⟨c72, H⟩ := iS H
       have LMc72 := gA c72
       clear c72
       obtain ⟨y211, hy211⟩ : ∃ y_ : List (S45), y_ = (x201001_2 ++ y206) := ⟨_, rfl⟩
       replace H : (pick_from.l1 k2 t203 l0_1 (l0_1.length : Int) (wrap64 (x81_2 + 1)) l1_0 l1_1 y197 y211) = some (r1, r2, r3) := by first | (rw [hy211]; with_reducible exact H) | (have H2_ := (Option.bind_some _ _).symm.trans H; rw [hy211]; with_reducible exact H2_) | (have H2_ := (Option.bind_some _ _).symm.trans H; with_reducible exact H2_) | with_reducible exact H | (rw [hy211]; exact H) | exact H
       have Ny211 := gA hy211
       clear hy211
       have H' := gA H
       clear H
       have p204 : 0 ≤ (x81_2 : Int) := of_decide_eq_true (by assumption)
       have q204 : x81_2 < (l0_1.length : Int) := of_decide_eq_true (by assumption)
       obtain ⟨ad204, A204_2, c204_2, e204, hx204_0, hx204_1, hx204_2, hl204_2, hi204_2⟩ := at_T45 HR0_1.out x81_2 p204 q204
       cases e204
       replace hx204_0 := (HB.out.cell (World.block_lt_of_cell? w _ hx204_0)).trans hx204_0
       replace hx204_1 := (HB.out.cell (World.block_lt_of_cell? w _ hx204_1)).trans hx204_1
       replace hx204_2 := (HB.out.cell (World.block_lt_of_cell? w _ hx204_2)).trans hx204_2
       have HR204_2 := gA hi204_2
       have HC204_2 := gA hl204_2
       clear hi204_2 hl204_2
       replace p204 := eq_true p204
       replace q204 := eq_true q204
       try go_wp2_with (first | ((with_reducible refine gate_dst (N := 13) rfl ?_); (try (refine gate_guard (by rfl) ?_; dsimp only)); refine box_event ?hg (N := 13) ?hd (cs := #[.int .i64 0, .int .i64 0, .slice none 0 0]) (t := 45) ?hr ?_; (case hd => rfl); (case hg => rfl); (case hr => first | (go_simp; done) | (go_simp; rfl)); intro gb205 hg w73 hbox hb; replace HO_186001 := gA (Kd.V_below (Kd.V_elderB (gV HO_186001) gb205 (Nat.le_of_eq hg.symm)) hb); replace HO_201000 := gA (Kd.R_below (gR HO_201000) hb); replace HO_201001 := gA (Kd.N_below (Kd.N_elderB (gN HO_201001) gb205 (Nat.le_of_eq hg.symm)) hb); have BK205 := gA (hbox); have GW205 := gA ((by rw [hg]; exact (below_size (gB HB)) : w.heap.size ≤ gb205)); have GE205 := gA ((by rw [hg]; exact (below_size (gB HB)) : w.heap.size ≤ gb205)); replace HB := gA (below_step (gB HB) hb); have NB184_205 := gA ((by rw [hg]; exact Nat.ne_of_lt (blk_lt (gK BK184)) : gb184 ≠ gb205)); have NB205_184 := gA ((by rw [hg]; exact Nat.ne_of_gt (blk_lt (gK BK184)) : gb205 ≠ gb184)); replace BK184 := gA (blk_below (gK BK184) hb); have NB185_205 := gA ((by rw [hg]; exact Nat.ne_of_lt (blk_lt (gK BK185)) : gb185 ≠ gb205)); have NB205_185 := gA ((by rw [hg]; exact Nat.ne_of_gt (blk_lt (gK BK185)) : gb205 ≠ gb185)); replace BK185 := gA (blk_below (gK BK185) hb); have NB186_205 := gA ((by rw [hg]; exact Nat.ne_of_lt (blk_lt (gK BK186)) : gb186 ≠ gb205)); have NB205_186 := gA ((by rw [hg]; exact Nat.ne_of_gt (blk_lt (gK BK186)) : gb205 ≠ gb186)); replace BK186 := gA (blk_below (gK BK186) hb); have NB200_205 := gA ((by rw [hg]; exact Nat.ne_of_lt (blk_lt (gK BK200)) : gb200 ≠ gb205)); have NB205_200 := gA ((by rw [hg]; exact Nat.ne_of_gt (blk_lt (gK BK200)) : gb205 ≠ gb200)); replace BK200 := gA (blk_below (gK BK200) hb); clear hb hbox hg; have hnb74 := NB205_184.out; have hnc74 := NB184_205.out; have hnb75 := NB205_185.out; have hnc75 := NB185_205.out; have hnb76 := NB205_186.out; have hnc76 := NB186_205.out; have hnb77 := NB205_200.out; have hnc77 := NB200_205.out; obtain ⟨hcz78_0, hcz78_1, hcz78_2, hfz78_0, hfz78_1, hfz78_2⟩ := gz3 BK205))
       have n0_ : Aside0 (Kd.V k45 45 (((w73.setCell ⟨gb205, 0, none⟩ (.int .i64 ((rd_T45 l0_1 x81_2).f0))).setCell ⟨gb205, 1, none⟩ (.int .i64 ((rd_T45 l0_1 x81_2).f1))).setCell ⟨gb205, 2, none⟩ (.slice A204_2 ((rd_T45 l0_1 x81_2).f2).length c204_2)) w.heap.size (fun k_ => (P1_1_ k_ ∨ w.heap.size ≤ k_) ∧ some k_ ≠ (.slice Ao52 y197.length co52 : Value).ownBlock ∧ some k_ ≠ (u201001 : Value).ownBlock ∧ k_ ≠ gb184 ∧ k_ ≠ gb185 ∧ k_ ≠ gb186 ∧ k_ ≠ gb200 ∧ k_ ≠ gb205) (.slice A1_1 l1_1.length c1_1) l1_1) := ⟨Kd.V_mono (Kd.V_far (p := ⟨gb205, 2, none⟩) (Kd.V_far (p := ⟨gb205, 1, none⟩) (Kd.V_far (p := ⟨gb205, 0, none⟩) (Kd.V_mono HO_186001.out (fun k_ hk => (⟨hk, hk.2⟩ : _ ∧ k_ ≠ gb205))) (fun _ hk => hk.2) (.int .i64 ((rd_T45 l0_1 x81_2).f0))) (fun _ hk => hk.2) (.int .i64 ((rd_T45 l0_1 x81_2).f1))) (fun _ hk => hk.2) (.slice A204_2 ((rd_T45 l0_1 x81_2).f2).length c204_2)) (fun _ hk => by first | exact ⟨hk.1.1.1, ⟨hk.1.1.2.1, ⟨hk.1.1.2.2.1, ⟨hk.1.1.2.2.2.1, ⟨hk.1.1.2.2.2.2.1, ⟨hk.1.1.2.2.2.2.2.1, ⟨hk.1.1.2.2.2.2.2.2, hk.1.2⟩⟩⟩⟩⟩⟩⟩ | (simp_all; done))⟩
       have n1_ : Aside0 (Kd.R (Kd.int .i64) 3 (((w73.setCell ⟨gb205, 0, none⟩ (.int .i64 ((rd_T45 l0_1 x81_2).f0))).setCell ⟨gb205, 1, none⟩ (.int .i64 ((rd_T45 l0_1 x81_2).f1))).setCell ⟨gb205, 2, none⟩ (.slice A204_2 ((rd_T45 l0_1 x81_2).f2).length c204_2)) w.heap.size (fun k_ => (w.heap.size ≤ k_)) (.slice Ao52 y197.length co52) y197) := ⟨Kd.R_mono (Kd.R_far (p := ⟨gb205, 2, none⟩) (Kd.R_far (p := ⟨gb205, 1, none⟩) (Kd.R_far (p := ⟨gb205, 0, none⟩) (Kd.R_types HO_201000.out BK205.out (by decide)) (fun _ hk => hk.2) (.int .i64 ((rd_T45 l0_1 x81_2).f0))) (fun _ hk => hk.2) (.int .i64 ((rd_T45 l0_1 x81_2).f1))) (fun _ hk => hk.2) (.slice A204_2 ((rd_T45 l0_1 x81_2).f2).length c204_2)) (fun _ hk => hk.1)⟩
       have n2_ : Aside0 (Kd.N k45 45 (((w73.setCell ⟨gb205, 0, none⟩ (.int .i64 ((rd_T45 l0_1 x81_2).f0))).setCell ⟨gb205, 1, none⟩ (.int .i64 ((rd_T45 l0_1 x81_2).f1))).setCell ⟨gb205, 2, none⟩ (.slice A204_2 ((rd_T45 l0_1 x81_2).f2).length c204_2)) w.heap.size (fun k_ => (P1_1_ k_ ∨ w.heap.size ≤ k_) ∧ some k_ ≠ (.slice Ao52 y197.length co52 : Value).ownBlock ∧ k_ ≠ gb184 ∧ k_ ≠ gb185 ∧ k_ ≠ gb186 ∧ k_ ≠ gb200 ∧ k_ ≠ gb205) u201001 x201001_2) := ⟨Kd.N_mono (Kd.N_far (p := ⟨gb205, 2, none⟩) (Kd.N_far (p := ⟨gb205, 1, none⟩) (Kd.N_far (p := ⟨gb205, 0, none⟩) (Kd.N_mono HO_201001.out (fun k_ hk => (⟨hk, hk.2⟩ : _ ∧ k_ ≠ gb205))) (fun _ hk => hk.2) (.int .i64 ((rd_T45 l0_1 x81_2).f0))) (fun _ hk => hk.2) (.int .i64 ((rd_T45 l0_1 x81_2).f1))) (fun _ hk => hk.2) (.slice A204_2 ((rd_T45 l0_1 x81_2).f2).length c204_2)) (fun _ hk => by first | exact ⟨hk.1.1.1, ⟨hk.1.1.2.1, ⟨hk.1.1.2.2.1, ⟨hk.1.1.2.2.2.1, ⟨hk.1.1.2.2.2.2.1, ⟨hk.1.1.2.2.2.2.2, hk.1.2⟩⟩⟩⟩⟩⟩ | (simp_all; done))⟩
       have n3_ : Aside0 ((((w73.setCell ⟨gb205, 0, none⟩ (.int .i64 ((rd_T45 l0_1 x81_2).f0))).setCell ⟨gb205, 1, none⟩ (.int .i64 ((rd_T45 l0_1 x81_2).f1))).setCell ⟨gb205, 2, none⟩ (.slice A204_2 ((rd_T45 l0_1 x81_2).f2).length c204_2)).heap[gb184]? = some (.cells #[.slice A0_0 l0_0.length c0_0, .slice (some ad204) l0_1.length c0_1] 25 (0, 0))) := ⟨by refine blk_far ?_ NB184_205.out _; refine blk_far ?_ NB184_205.out _; refine blk_far ?_ NB184_205.out _; exact gK BK184⟩
       have n4_ : Aside0 ((((w73.setCell ⟨gb205, 0, none⟩ (.int .i64 ((rd_T45 l0_1 x81_2).f0))).setCell ⟨gb205, 1, none⟩ (.int .i64 ((rd_T45 l0_1 x81_2).f1))).setCell ⟨gb205, 2, none⟩ (.slice A204_2 ((rd_T45 l0_1 x81_2).f2).length c204_2)).heap[gb185]? = some (.cells #[.slice A1_0 l1_0.length c1_0, .slice A1_1 l1_1.length c1_1] 25 (0, 0))) := ⟨by refine blk_far ?_ NB185_205.out _; refine blk_far ?_ NB185_205.out _; refine blk_far ?_ NB185_205.out _; exact gK BK185⟩
       have n5_ : Aside0 ((((w73.setCell ⟨gb205, 0, none⟩ (.int .i64 ((rd_T45 l0_1 x81_2).f0))).setCell ⟨gb205, 1, none⟩ (.int .i64 ((rd_T45 l0_1 x81_2).f1))).setCell ⟨gb205, 2, none⟩ (.slice A204_2 ((rd_T45 l0_1 x81_2).f2).length c204_2)).heap[gb186]? = some (.cells #[.slice none 0 0, .slice none 0 0] 25 (0, 0))) := ⟨by refine blk_far ?_ NB186_205.out _; refine blk_far ?_ NB186_205.out _; refine blk_far ?_ NB186_205.out _; exact gK BK186⟩
       have n6_ : Aside0 ((((w73.setCell ⟨gb205, 0, none⟩ (.int .i64 ((rd_T45 l0_1 x81_2).f0))).setCell ⟨gb205, 1, none⟩ (.int .i64 ((rd_T45 l0_1 x81_2).f1))).setCell ⟨gb205, 2, none⟩ (.slice A204_2 ((rd_T45 l0_1 x81_2).f2).length c204_2)).heap[gb200]? = some (.cells #[.slice Ao52 y197.length co52, u201001] 25 (0, 0))) := ⟨by refine blk_far ?_ NB200_205.out _; refine blk_far ?_ NB200_205.out _; refine blk_far ?_ NB200_205.out _; exact gK BK200⟩
       have n7_ : Aside0 ((((w73.setCell ⟨gb205, 0, none⟩ (.int .i64 ((rd_T45 l0_1 x81_2).f0))).setCell ⟨gb205, 1, none⟩ (.int .i64 ((rd_T45 l0_1 x81_2).f1))).setCell ⟨gb205, 2, none⟩ (.slice A204_2 ((rd_T45 l0_1 x81_2).f2).length c204_2)).heap[gb205]? = some (.cells #[.int .i64 ((rd_T45 l0_1 x81_2).f0), .int .i64 ((rd_T45 l0_1 x81_2).f1), .slice A204_2 ((rd_T45 l0_1 x81_2).f2).length c204_2] 45 (0, 0))) := ⟨by refine blk_put (cs := #[.int .i64 ((rd_T45 l0_1 x81_2).f0), .int .i64 ((rd_T45 l0_1 x81_2).f1), .slice none 0 0]) ?_ 2 _ rfl; refine blk_put (cs := #[.int .i64 ((rd_T45 l0_1 x81_2).f0), .int .i64 0, .slice none 0 0]) ?_ 1 _ rfl; refine blk_put (cs := #[.int .i64 0, .int .i64 0, .slice none 0 0]) ?_ 0 _ rfl; exact gK BK205⟩
       have n8_ : Aside0 (Below w.heap.size w (((w73.setCell ⟨gb205, 0, none⟩ (.int .i64 ((rd_T45 l0_1 x81_2).f0))).setCell ⟨gb205, 1, none⟩ (.int .i64 ((rd_T45 l0_1 x81_2).f1))).setCell ⟨gb205, 2, none⟩ (.slice A204_2 ((rd_T45 l0_1 x81_2).f2).length c204_2))) := ⟨by repeat first | exact gB HB | refine below_set ?_ GE184.out | refine below_set ?_ GE185.out | refine below_set ?_ GE186.out | refine below_set ?_ GE200.out | refine below_set ?_ GE205.out⟩
       (try clear HO_186001)
       generalize (((w73.setCell ⟨gb205, 0, none⟩ (.int .i64 ((rd_T45 l0_1 x81_2).f0))).setCell ⟨gb205, 1, none⟩ (.int .i64 ((rd_T45 l0_1 x81_2).f1))).setCell ⟨gb205, 2, none⟩ (.slice A204_2 ((rd_T45 l0_1 x81_2).f2).length c204_2)) = w79 at n0_ n1_ n2_ n3_ n4_ n5_ n6_ n7_ n8_ ⊢
       have HO_186001 := n0_; have HO_201000 := n1_
       have HO_201001 := n2_; have BK184 := n3_
       have BK185 := n4_; have BK186 := n5_
       have BK200 := n6_; have BK205 := n7_
       have HB := n8_; clear n0_ n1_ n2_ n3_ n4_ n5_ n6_ n7_ n8_
       replace HO_186001 := gA (Kd.V_drew HO_186001.out); replace HO_201000 := gA (Kd.R_drew HO_201000.out); replace HO_201001 := gA (Kd.N_drew HO_201001.out); replace BK184 := gA (blk_drew BK184.out); replace BK185 := gA (blk_drew BK185.out); replace BK186 := gA (blk_drew BK186.out); replace BK200 := gA (blk_drew BK200.out); replace BK205 := gA (blk_drew BK205.out); replace HB := gA (below_drew1 HB.out)
       have q81 : ((wrap64 ((wrap64 (((rd_T45 l0_1 x81_2).f1) + 1)) * t203)) : Int) ≤ ((l1_1.length : Int) : Int) := of_decide_eq_true (by assumption)
       obtain ⟨i081, hi081, _, hsz81, _⟩ := info_parts info45
       have hroom81 : l1_1.length ≤ c1_1 := (Kd.V_reads' HO_186001.out).2.1
       have hC81 : Kd.F k45 _ _ A1_1 l1_1.length l1_1 := (Kd.V_at (base := w.heap.size) HO_186001.out).2.2
       have ql81 : ((ji68) : Int) ≤ ((wrap64 ((wrap64 (((rd_T45 l0_1 x81_2).f1) + 1)) * t203)) : Int) := of_decide_eq_true (by assumption)
       have q081 : (0 : Int) ≤ ((ji68) : Int) := of_decide_eq_true (by assumption)
       have hcut81 := cut_mid (P := Try.prog) 23 45 .i64 .i64 Try.underlying23 hi081 3 hsz81 A1_1 l1_1.length c1_1 (ji68) (wrap64 ((wrap64 (((rd_T45 l0_1 x81_2).f1) + 1)) * t203)) q081 ql81 q81 hroom81
       have hr81 := Kd.F_mid (lo := ((ji68) : Int).toNat) (hi := ((wrap64 ((wrap64 (((rd_T45 l0_1 x81_2).f1) + 1)) * t203)) : Int).toNat) (c := c1_1) hC81 (by omega) (by omega) hroom81
       obtain ⟨A81, hA81⟩ : ∃ A1, A1 = (if c1_1 = ((ji68) : Int).toNat then A1_1 else (A1_1 : Option Addr).map (·.add (((ji68) : Int).toNat * 3))) := ⟨_, rfl⟩
       obtain ⟨c81, hc81⟩ : ∃ c1, c1 = c1_1 - ((ji68) : Int).toNat := ⟨_, rfl⟩
       have hy81 : y206.length = ((wrap64 ((wrap64 (((rd_T45 l0_1 x81_2).f1) + 1)) * t203)) : Int).toNat - ((ji68) : Int).toNat := (by rw [Ny206.out, List.length_drop, List.length_take] <;> omega)
       rw [show ((l1_1).take ((wrap64 ((wrap64 (((rd_T45 l0_1 x81_2).f1) + 1)) * t203)) : Int).toNat).drop ((ji68) : Int).toNat = y206 from Ny206.out.symm] at hr81
       replace hr81 : Kd.F k45 _ _ A81 y206.length y206 := (by rw [hA81]; exact hr81)
       rw [← hy81, ← hA81, ← hc81] at hcut81
       have HO210 := gA (show Kd.V k45 45 _ w.heap.size _ (.slice A81 y206.length c81) y206 from Kd.V_mk (by rw [hy81, hc81]; exact Nat.sub_le_sub_right (Nat.le_trans (by omega) hroom81) _) hr81)
       have HC210 := gA (show y206.length ≤ c81 from by rw [hy81, hc81]; exact Nat.sub_le_sub_right (Nat.le_trans (by omega) hroom81) _)
       clear hr81 hC81 hroom81 hi081 hsz81 hc81
       have KY81 := gA hy81
       have KA81 := gA hA81
       clear hy81 hA81
       replace q81 := eq_true q81
       refine start_ (n := 17) (S := fun w' => w'.cell? ⟨gb200, 0, none⟩ = some (.slice Ao52 y197.length co52) ∧ w'.cell? ⟨gb200, 1, none⟩ = some (u201001) ∧ w'.cell? ⟨gb185, 0, none⟩ = some (.slice A1_0 l1_0.length c1_0) ∧ w'.cell? ⟨gb185, 1, none⟩ = some (.slice A1_1 l1_1.length c1_1) ∧ w'.cell? ⟨gb205, 0, none⟩ = some (.int .i64 ((rd_T45 l0_1 x81_2).f0)) ∧ w'.cell? ⟨gb205, 1, none⟩ = some (.int .i64 ((rd_T45 l0_1 x81_2).f1)) ∧ w'.cell? ⟨gb205, 2, none⟩ = some (.slice A204_2 ((rd_T45 l0_1 x81_2).f2).length c204_2)) (ds := [16]) #[false, false, false, false, false, false, false, false, false, false, false, false, false, false, false, false, false] (by kernel_rfl) rfl rfl ⟨(blk_cell BK200.out 0).trans rfl, (blk_cell BK200.out 1).trans rfl, (blk_cell BK185.out 0).trans rfl, (blk_cell BK185.out 1).trans rfl, (blk_cell BK205.out 0).trans rfl, (blk_cell BK205.out 1).trans rfl, (blk_cell BK205.out 2).trans rfl⟩ (fun hHeld => ?_); refine with_tabW pick_from.tab19 pick_from.bits19 (fun HT_ HW_ => ?_)
       generalize w79.drew = w80 at HO_186001 HO_201000 HO_201001 BK184 BK185 BK186 BK200 BK205 HB HO210 hHeld ⊢
       refine pure_ (i := 0) (N := some 85) (v := ?_) (a' := ?_) #[true, false, false, false, false, false, false, false, false, false, false, false, false, false, false, false, false] rfl rfl (any_of HT_.out (by kernel_rfl)) (fun _ _ _ h => h) (Or.inl ⟨by rfl, ?_⟩) ?_ ?_; rotate_left
       ·intro w'; go_simp; with_reducible rfl
       rotate_left
       ·simp only [Act.put, List.setIfInBounds_toArray, List.set_cons_zero, List.set_cons_succ, i64_w, i32_w]; rfl
       refine pure_ (i := 2) (N := some 87) (v := ?_) (a' := ?_) #[true, false, true, false, false, false, false, false, false, false, false, false, false, false, false, false, false] rfl rfl (any_of HT_.out (by kernel_rfl)) (fun _ _ _ h => h) (Or.inl ⟨by rfl, ?_⟩) ?_ ?_; rotate_left
       ·intro w'; go_simp; with_reducible rfl
       rotate_left
       ·simp only [Act.put, List.setIfInBounds_toArray, List.set_cons_zero, List.set_cons_succ, i64_w, i32_w]; rfl
       refine pure_ (i := 4) (N := some 89) (v := ?_) (a' := ?_) #[true, false, true, false, true, false, false, false, false, false, false, false, false, false, false, false, false] rfl rfl (any_of HT_.out (by kernel_rfl)) (fun _ _ _ h => h) (Or.inl ⟨by rfl, ?_⟩) ?_ ?_; rotate_left
       ·intro w'; go_simp; with_reducible rfl
       rotate_left
       ·simp only [Act.put, List.setIfInBounds_toArray, List.set_cons_zero, List.set_cons_succ, i64_w, i32_w]; rfl
       refine pure_ (i := 6) (N := some 91) (v := ?_) (a' := ?_) #[true, false, true, false, true, false, true, false, false, false, false, false, false, false, false, false, false] rfl rfl (any_of HT_.out (by kernel_rfl)) (fun _ _ _ h => h) (Or.inl ⟨by rfl, ?_⟩) ?_ ?_; rotate_left
       ·intro w'; go_simp; with_reducible rfl
       rotate_left
       ·simp only [Act.put, List.setIfInBounds_toArray, List.set_cons_zero, List.set_cons_succ, i64_w, i32_w]; rfl
       refine pure_ (i := 8) (N := some 93) (v := ?_) (a' := ?_) #[true, false, true, false, true, false, true, false, true, false, false, false, false, false, false, false, false] rfl rfl (any_of HT_.out (by kernel_rfl)) (fun _ _ _ h => h) (Or.inl ⟨by rfl, ?_⟩) ?_ ?_; rotate_left
       ·intro w'; go_simp; with_reducible rfl
       rotate_left
       ·simp only [Act.put, List.setIfInBounds_toArray, List.set_cons_zero, List.set_cons_succ, i64_w, i32_w]; rfl
       refine pure_ (i := 11) (N := some 96) (v := ?_) (a' := ?_) #[true, false, true, false, true, false, true, false, true, false, false, true, false, false, false, false, false] rfl rfl (any_of HT_.out (by kernel_rfl)) (fun _ _ _ h => h) (Or.inl ⟨by rfl, ?_⟩) ?_ ?_; rotate_left
       ·intro w'; go_simp; with_reducible rfl
       rotate_left
       ·simp only [Act.put, List.setIfInBounds_toArray, List.set_cons_zero, List.set_cons_succ, i64_w, i32_w]; rfl
       refine take_ (i := 1) (N := some 86) (v := ?_) (a' := ?_) #[true, true, true, false, true, false, true, false, true, false, false, true, false, false, false, false, false] rfl rfl (take_ofW HT_.out HW_.out (by kernel_rfl)) (fun _ _ _ h => h) (Or.inl ⟨by rfl, ?_⟩) hHeld ?_ ?_; rotate_left
       ·rintro w' ⟨s0, s1, s2, s3, s4, s5, s6⟩; go_simp; with_reducible rfl
       rotate_left
       ·simp only [Act.put, List.setIfInBounds_toArray, List.set_cons_zero, List.set_cons_succ, i64_w, i32_w]; rfl
       refine take_ (i := 3) (N := some 88) (v := ?_) (a' := ?_) #[true, true, true, true, true, false, true, false, true, false, false, true, false, false, false, false, false] rfl rfl (take_ofW HT_.out HW_.out (by kernel_rfl)) (fun _ _ _ h => h) (Or.inl ⟨by rfl, ?_⟩) hHeld ?_ ?_; rotate_left
       ·rintro w' ⟨s0, s1, s2, s3, s4, s5, s6⟩; go_simp; with_reducible rfl
       rotate_left
       ·simp only [Act.put, List.setIfInBounds_toArray, List.set_cons_zero, List.set_cons_succ, i64_w, i32_w]; rfl
       refine take_ (i := 5) (N := some 90) (v := ?_) (a' := ?_) #[true, true, true, true, true, true, true, false, true, false, false, true, false, false, false, false, false] rfl rfl (take_ofW HT_.out HW_.out (by kernel_rfl)) (fun _ _ _ h => h) (Or.inl ⟨by rfl, ?_⟩) hHeld ?_ ?_; rotate_left
       ·rintro w' ⟨s0, s1, s2, s3, s4, s5, s6⟩; go_simp; with_reducible rfl
       rotate_left
       ·simp only [Act.put, List.setIfInBounds_toArray, List.set_cons_zero, List.set_cons_succ, i64_w, i32_w]; rfl
       refine pure_ (i := 7) (N := some 92) (v := ?_) (a' := ?_) #[true, true, true, true, true, true, true, true, true, false, false, true, false, false, false, false, false] rfl rfl (any_of HT_.out (by kernel_rfl)) (fun _ _ _ h => h) (Or.inl ⟨by rfl, ?_⟩) ?_ ?_; rotate_left
       ·intro w'; go_simp; with_reducible rfl
       rotate_left
       ·simp only [Act.put, List.setIfInBounds_toArray, List.set_cons_zero, List.set_cons_succ, i64_w, i32_w]; rfl
       refine take_ (i := 9) (N := some 94) (v := ?_) (a' := ?_) #[true, true, true, true, true, true, true, true, true, true, false, true, false, false, false, false, false] rfl rfl (take_ofW HT_.out HW_.out (by kernel_rfl)) (fun _ _ _ h => h) (Or.inl ⟨by rfl, ?_⟩) hHeld ?_ ?_; rotate_left
       ·rintro w' ⟨s0, s1, s2, s3, s4, s5, s6⟩; go_simp; with_reducible rfl
       rotate_left
       ·simp only [Act.put, List.setIfInBounds_toArray, List.set_cons_zero, List.set_cons_succ, i64_w, i32_w]; rfl
       refine pure_ (i := 10) (N := some 95) (v := ?_) (a' := ?_) #[true, true, true, true, true, true, true, true, true, true, true, true, false, false, false, false, false] rfl rfl (any_of HT_.out (by kernel_rfl)) (fun _ _ _ h => h) (Or.inl ⟨by rfl, ?_⟩) ?_ ?_; rotate_left
       ·intro w'; go_simp; with_reducible rfl
       rotate_left
       ·simp only [Act.put, List.setIfInBounds_toArray, List.set_cons_zero, List.set_cons_succ, i64_w, i32_w]; rfl
       refine pure_ (i := 12) (N := some 97) (v := ?_) (a' := ?_) #[true, true, true, true, true, true, true, true, true, true, true, true, true, false, false, false, false] rfl rfl (any_of HT_.out (by kernel_rfl)) (fun _ _ _ h => h) (Or.inl ⟨by rfl, ?_⟩) ?_ ?_; rotate_left
       ·intro w'; go_simp; with_reducible rfl
       rotate_left
       ·simp only [Act.put, List.setIfInBounds_toArray, List.set_cons_zero, List.set_cons_succ, i64_w, i32_w]; rfl
       refine pure_ (i := 13) (N := some 98) (v := ?_) (a' := ?_) #[true, true, true, true, true, true, true, true, true, true, true, true, true, true, false, false, false] rfl rfl (any_of HT_.out (by kernel_rfl)) (fun _ _ _ h => h) (Or.inl ⟨by rfl, ?_⟩) ?_ ?_; rotate_left
       ·intro w'; go_simp; with_reducible rfl
       rotate_left
       ·simp only [Act.put, List.setIfInBounds_toArray, List.set_cons_zero, List.set_cons_succ, i64_w, i32_w]; rfl
       refine one_ (i := 14) (N := some 99) #[true, true, true, true, true, true, true, true, true, true, true, true, true, true, true, false, false] rfl rfl (one_of HT_.out (by kernel_rfl)) (by decide) (fun K hK => ?_)
       refine Kd.N_append_rows_step k45 (w0 := w) w.heap.size (by rfl) (.tmp 86) (.tmp 98) 23 45 (.agg #[(.int .i64 0), (.int .i64 0), (.slice none 0 0)]) 40 rfl Try.underlying23 info45 rfl (by decide) (by omega) u201001 x201001_2 y206 _ _ _ (fun k_ => (P1_1_ k_ ∨ w.heap.size ≤ k_) ∧ some k_ ≠ (.slice Ao52 y197.length co52 : Value).ownBlock ∧ k_ ≠ gb184 ∧ k_ ≠ gb185 ∧ k_ ≠ gb186 ∧ k_ ≠ gb200 ∧ k_ ≠ gb205) (fun k_ => ((fun k_ => (P1_1_ k_ ∨ w.heap.size ≤ k_) ∧ some k_ ≠ (.slice Ao52 y197.length co52 : Value).ownBlock ∧ k_ ≠ gb184 ∧ k_ ≠ gb185 ∧ k_ ≠ gb186 ∧ k_ ≠ gb200 ∧ k_ ≠ gb205)) k_ ∧ some k_ ≠ (u201001 : Value).ownBlock) rfl rfl ?aO ?aR (fun _ hk => hk) ?aF ?aB ?aS ?aL ?_
       (case aR => exact (by skip; exact Kd.V_F (Kd.V_mono (ok' := (fun k_ => ((fun k_ => (P1_1_ k_ ∨ w.heap.size ≤ k_) ∧ some k_ ≠ (.slice Ao52 y197.length co52 : Value).ownBlock ∧ k_ ≠ gb184 ∧ k_ ≠ gb185 ∧ k_ ≠ gb186 ∧ k_ ≠ gb200 ∧ k_ ≠ gb205)) k_ ∧ some k_ ≠ (u201001 : Value).ownBlock)) (HO210.out) (fun k_ hk => ⟨⟨hk.1, ⟨hk.2.1, ⟨hk.2.2.2.1, ⟨hk.2.2.2.2.1, ⟨hk.2.2.2.2.2.1, ⟨hk.2.2.2.2.2.2.1, hk.2.2.2.2.2.2.2⟩⟩⟩⟩⟩⟩, hk.2.2.1⟩))))
       (case aB => exact (gB HB))
       (case aF => exact (fun k_ hk => ⟨(.inr (Nat.le_trans (below_size (gB HB)) hk)), Kd.fresh' (Kd.R_lt (gR HO_201000)) k_ hk, Kd.freshB (gK BK184) k_ hk, Kd.freshB (gK BK185) k_ hk, Kd.freshB (gK BK186) k_ hk, Kd.freshB (gK BK200) k_ hk, Kd.freshB (gK BK205) k_ hk⟩))
       (case aO => exact (gN HO_201001))
       (case aS => exact (below_size (gB HB)))
       (case aL => have := LMc72.out; omega)
       intro v212 w82 ho hb hg hat
       rw [← Ny211.out] at ho
       replace HO_186001 := gA (Kd.V_afterv (ok := (fun k_ => (P1_1_ k_ ∨ w.heap.size ≤ k_) ∧ some k_ ≠ (.slice Ao52 y197.length co52 : Value).ownBlock ∧ k_ ≠ gb184 ∧ k_ ≠ gb185 ∧ k_ ≠ gb186 ∧ k_ ≠ gb200 ∧ k_ ≠ gb205)) (Kd.V_mono HO_186001.out (fun _ hk => ⟨⟨hk.1, ⟨hk.2.1, ⟨hk.2.2.2.1, ⟨hk.2.2.2.2.1, ⟨hk.2.2.2.2.2.1, ⟨hk.2.2.2.2.2.2.1, hk.2.2.2.2.2.2.2⟩⟩⟩⟩⟩⟩, hk.2.2.1⟩)) hg hat); replace HO_201000 := gA (Kd.R_over' (gR HO_201000) (Kd.N_typed (gN HO_201001)) (by decide) hg); replace BK184 := gA (blk_grown (gK BK184) hg (Kd.N_ne HO_201001.out BK184.out (by decide))); replace BK185 := gA (blk_grown (gK BK185) hg (Kd.N_ne HO_201001.out BK185.out (by decide))); replace BK186 := gA (blk_grown (gK BK186) hg (Kd.N_ne HO_201001.out BK186.out (by decide))); replace BK200 := gA (blk_grown (gK BK200) hg (Kd.N_ne HO_201001.out BK200.out (by decide))); replace BK205 := gA (blk_grown (gK BK205) hg (Kd.N_away HO_201001.out (fun _ hk => hk.2.2.2.2.2.2))); replace HO210 := gA (Kd.V_afterv (ok := (fun k_ => (P1_1_ k_ ∨ w.heap.size ≤ k_) ∧ some k_ ≠ (.slice Ao52 y197.length co52 : Value).ownBlock ∧ k_ ≠ gb184 ∧ k_ ≠ gb185 ∧ k_ ≠ gb186 ∧ k_ ≠ gb200 ∧ k_ ≠ gb205)) (Kd.V_mono HO210.out (fun _ hk => ⟨⟨hk.1, ⟨hk.2.1, ⟨hk.2.2.2.1, ⟨hk.2.2.2.2.1, ⟨hk.2.2.2.2.2.1, ⟨hk.2.2.2.2.2.2.1, hk.2.2.2.2.2.2.2⟩⟩⟩⟩⟩⟩, hk.2.2.1⟩)) hg hat); replace HB := gA (hb); have HO213 := gA (ho); clear HO_201001 ho hb hg hat
       obtain ⟨Ao83, co83, eo83⟩ := Kd.N_slice HO213.out
       (first | subst eo83 | (injection eo83 with f1_ f2_ f3_; have f4_ := f1_.symm; have f5_ := f3_.symm; clear f1_ f2_ f3_; subst f4_; subst f5_))
       refine hK.out _ _ ⟨(blk_cell BK200.out 0).trans rfl, (blk_cell BK200.out 1).trans rfl, (blk_cell BK185.out 0).trans rfl, (blk_cell BK185.out 1).trans rfl, (blk_cell BK205.out 0).trans rfl, (blk_cell BK205.out 1).trans rfl, (blk_cell BK205.out 2).trans rfl⟩ (fun hHeld => ?_); clear hK K
       refine norm_ (a' := ?_) ?_ ?_; rotate_left
       ·show Act.put _ (some 99) _ = _
        simp only [Act.put, List.setIfInBounds_toArray, List.set_cons_zero, List.set_cons_succ, i64_w, i32_w]; rfl
       refine pure_ (i := 15) (N := some 100) (v := ?_) (a' := ?_) #[true, true, true, true, true, true, true, true, true, true, true, true, true, true, true, true, false] rfl rfl (any_of HT_.out (by kernel_rfl)) (fun _ _ _ h => h) (Or.inl ⟨by rfl, ?_⟩) ?_ ?_; rotate_left
       ·intro w'; go_simp; with_reducible rfl
       rotate_left
       ·simp only [Act.put, List.setIfInBounds_toArray, List.set_cons_zero, List.set_cons_succ, i64_w, i32_w]; rfl
       refine last_ (i := 16) (N := none) #[true, true, true, true, true, true, true, true, true, true, true, true, true, true, true, true, true] rfl rfl (one_of HT_.out (by kernel_rfl)) (by decide) (fun K hK => ?_)
       have hs84 := gz BK200 1 rfl
       have hfs84 := blk_frozen BK200.out 1
       have hns84_0 := NB184_200.out
       have hns84_1 := NB185_200.out
       have hns84_2 := NB186_200.out
       have hns84_4 := NB205_200.out
       have hms84_0 := NB200_184.out
       have hms84_1 := NB200_185.out
       have hms84_2 := NB200_186.out
       have hms84_4 := NB200_205.out
       refine skip_ (w1 := ?_) (by rfl) rfl ?_ ?_; rotate_left
       ·go_simp; rfl
       refine hK.out _ _ ?_; clear hK K
       refine done_ (done_of HT_.out (by kernel_rfl)) ?_
       try go_wp2
       go_roundg k2
       case measure => have := HK1.out; have := HK2.out; omega
       case rel => exact ⟨(wrap64 (x81_2 + 1)), (y211), (.slice Ao83 y211.length co83), (rfl), H', ⟨by have := HK1.out; have := HK2.out; omega⟩, ⟨Kd.V_mono (Kd.V_far (p := ⟨gb200, 1, none⟩) (Kd.V_mono HO_186001.out (fun k_ hk => (⟨hk, hk.1.2.2.2.2.2.1⟩ : _ ∧ k_ ≠ gb200))) (fun _ hk => hk.2) (.slice Ao83 y211.length co83)) (fun _ hk => by first | exact ⟨hk.1.1.1, ⟨hk.1.1.2.1, ⟨hk.1.2, ⟨hk.1.1.2.2.1, ⟨hk.1.1.2.2.2.1, ⟨hk.1.1.2.2.2.2.1, hk.1.1.2.2.2.2.2.1⟩⟩⟩⟩⟩⟩ | (simp_all; done))⟩, ⟨Kd.R_mono (Kd.R_far (p := ⟨gb200, 1, none⟩) (Kd.R_types HO_201000.out BK200.out (by decide)) (fun _ hk => hk.2) (.slice Ao83 y211.length co83)) (fun _ hk => hk.1)⟩, ⟨Kd.N_mono (Kd.N_far (p := ⟨gb200, 1, none⟩) (Kd.N_mono HO213.out (fun k_ hk => (⟨hk, hk.2.2.2.2.2.1⟩ : _ ∧ k_ ≠ gb200))) (fun _ hk => hk.2) (.slice Ao83 y211.length co83)) (fun _ hk => ⟨hk.1.1, ⟨hk.1.2.1, ⟨hk.1.2.2.1, ⟨hk.1.2.2.2.1, ⟨hk.1.2.2.2.2.1, hk.1.2.2.2.2.2.1⟩⟩⟩⟩⟩)⟩, ⟨by (with_reducible repeat (first | refine blk_drewN ?_ _ | refine blk_drew ?_ | refine blk_alloc ?_ _)); refine blk_far ?_ NB184_200.out _; exact gK BK184⟩, ⟨by (with_reducible repeat (first | refine blk_drewN ?_ _ | refine blk_drew ?_ | refine blk_alloc ?_ _)); refine blk_far ?_ NB185_200.out _; exact gK BK185⟩, ⟨by (with_reducible repeat (first | refine blk_drewN ?_ _ | refine blk_drew ?_ | refine blk_alloc ?_ _)); refine blk_far ?_ NB186_200.out _; exact gK BK186⟩, ⟨by (with_reducible repeat (first | refine blk_drewN ?_ _ | refine blk_drew ?_ | refine blk_alloc ?_ _)); refine blk_put (cs := #[.slice Ao52 y197.length co52, u201001]) ?_ 1 _ rfl; exact gK BK200⟩, ⟨by repeat first | exact gB HB | refine below_set ?_ GE184.out | refine below_set ?_ GE185.out | refine below_set ?_ GE186.out | refine below_set ?_ GE200.out | refine below_set ?_ GE205.out⟩⟩
      ·rw [if_neg c65] at H
       have c65b0 := decide_eq_false c65
       clear c65
       simp only [Option.some.injEq, Prod.mk.injEq] at H
       obtain ⟨rfl, rfl, rfl⟩ := H
       have hnb85 := NB200_184.out
       have hnc85 := NB184_200.out
       have hnb86 := NB200_185.out
       have hnc86 := NB185_200.out
       have hnb87 := NB200_186.out
       have hnc87 := NB186_200.out
       obtain ⟨hcz88_0, hcz88_1, hfz88_0, hfz88_1⟩ := gz2 BK200
       have hnb89 := NB186_184.out
       have hnc89 := NB184_186.out
       have hnb90 := NB186_185.out
       have hnc90 := NB185_186.out
       obtain ⟨hcz91_0, hcz91_1, hfz91_0, hfz91_1⟩ := gz2 BK186
       obtain ⟨Ao92, co92, eo92⟩ := Kd.N_slice HO_201001.out
       subst eo92
       go_wp2
       refine bodyPost_ret (results_ct rfl _ _ gb186 25 #[.slice Ao52 y197.length co52, .slice Ao92 x201001_2.length co92] (0, 0) _ rfl (by refine blk_put (cs := #[.slice Ao52 y197.length co52, .slice none 0 0]) ?_ 1 _ rfl; refine blk_put (cs := #[.slice none 0 0, .slice none 0 0]) ?_ 0 _ rfl; exact gK BK186) Try.underlying25 rfl (by kernel_rfl)) rfl ?_
       exact ⟨_, _, rfl, Kd.R_mono (Kd.R_far (p := ⟨gb186, 1, none⟩) (Kd.R_far (p := ⟨gb186, 0, none⟩) (Kd.R_types HO_201000.out BK186.out (by decide)) (fun _ hk => hk.2) (.slice Ao52 y197.length co52)) (fun _ hk => hk.2) (.slice Ao92 x201001_2.length co92)) (fun _ hk => hk.1), Kd.N_mono (Kd.N_far (p := ⟨gb186, 1, none⟩) (Kd.N_far (p := ⟨gb186, 0, none⟩) (Kd.N_mono HO_201001.out (fun k_ hk => (⟨hk, hk.2.2.2.2.1⟩ : _ ∧ k_ ≠ gb186))) (fun _ hk => hk.2) (.slice Ao52 y197.length co52)) (fun _ hk => hk.2) (.slice Ao92 x201001_2.length co92)) (fun _ hk => ⟨hk.1.1, hk.1.2.1⟩), by repeat first | exact gB HB | refine below_set ?_ GE184.out | refine below_set ?_ GE185.out | refine below_set ?_ GE186.out | refine below_set ?_ GE200.out⟩
end Go.Proofs.Ytdihmempaonfjaa.P
