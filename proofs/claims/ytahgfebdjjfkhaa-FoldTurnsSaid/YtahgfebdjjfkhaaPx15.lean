/- Written by a program of this session: the functions that the laws reach, what each comes to, and each law as it is stated, for every input. No condition. -/
import Derived.Test.YtahgfebdjjfkhaaPx0
import Derived.Test.YtahgfebdjjfkhaaPx12
import Derived.Test.YtahgfebdjjfkhaaPx13
import Derived.Test.YtahgfebdjjfkhaaPx14
namespace Go.Proofs.Ytahgfebdjjfkhaa.P
open Go.RowKit Go.Proofs.YtahgfebdjjfkhaaW.PrintWords Go.Proofs.YtahgfebdjjfkhaaW.PrintLast Go.Proofs.YtahgfebdjjfkhaaW.PrintMore
attribute [local go_sem] max2_int min2_int max_two min_two max_three min_three max_four min_four   -- for this text's walks alone
set_option linter.unusedVariables false
set_option linter.unusedSimpArgs false
mutual
def triglyphref05_By.l0 : Nat → List Int → Int → Int → Int → List Int → List (S43) → List Int → List (S43) → Option (List Int × (List (S43)))
 | 0, _, _, _, _, _, _, _, _ => none
 | k + 1, x0, x2, x7, x10, x339000, x339001, x343000, x343001 => if x10 < x7 then ((triglyphref03_Places.f k x0 x10).bind fun bt346 => (triglyphref05_By.l1 k x0 x2 x7 x10 bt346.1 ([] : List Int) 0 x339000 x339001 x343000 x343001)) else (some (x343000, x343001))
def triglyphref05_By.l1 : Nat → List Int → Int → Int → Int → List Int → List Int → Int → List Int → List (S43) → List Int → List (S43) → Option (List Int × (List (S43)))
 | 0, _, _, _, _, _, _, _, _, _, _, _ => none
 | k + 1, x0, x2, x7, x10, x11, x13, x14, x339000, x339001, x343000, x343001 => if x14 < (x11.length : Int) then (if 0 ≤ x14 then (if x13.length < 17592186044416 then (triglyphref05_By.l1 k x0 x2 x7 x10 x11 (x13 ++ [rd x11 x14]) (wrap64 (x14 + 1)) x339000 x339001 x343000 x343001) else (none)) else (none)) else (if x2 = 0 then (triglyphref05_By.j2 k x0 x2 x7 x10 x11 x13 (wrap64 ((x13.length : Int) - 1)) (decide ((wrap64 ((x13.length : Int) - 1)) ≥ 0)) x339000 x339001 x343000 x343001) else (triglyphref05_By.j2 k x0 x2 x7 x10 x11 x13 (wrap64 ((x13.length : Int) - 1)) false x339000 x339001 x343000 x343001))
def triglyphref05_By.j2 : Nat → List Int → Int → Int → Int → List Int → List Int → Int → Bool → List Int → List (S43) → List Int → List (S43) → Option (List Int × (List (S43)))
 | 0, _, _, _, _, _, _, _, _, _, _, _, _ => none
 | k + 1, x0, x2, x7, x10, x11, x13, x15, x62, x339000, x339001, x343000, x343001 => if x62 = true then (if 0 < (x0.length : Int) then (if 0 < (x11.length : Int) then (if 0 < (x13.length : Int) then (triglyphref05_By.j3 k x0 x2 x7 x10 x11 (x13.set (0 : Int).toNat (wrap64 ((wrap64 ((rd x0 0) - 1)) - (rd x11 0)))) x15 x339000 x339001 x343000 x343001) else (none)) else (none)) else (none)) else (triglyphref05_By.j3 k x0 x2 x7 x10 x11 x13 x15 x339000 x339001 x343000 x343001)
def triglyphref05_By.j3 : Nat → List Int → Int → Int → Int → List Int → List Int → Int → List Int → List (S43) → List Int → List (S43) → Option (List Int × (List (S43)))
 | 0, _, _, _, _, _, _, _, _, _, _, _ => none
 | k + 1, x0, x2, x7, x10, x11, x13, x15, x339000, x339001, x343000, x343001 => if x2 = 1 then (triglyphref05_By.j4 k x0 x2 x7 x10 x11 x13 x15 (decide (x15 ≥ 0)) x339000 x339001 x343000 x343001) else (triglyphref05_By.j4 k x0 x2 x7 x10 x11 x13 x15 false x339000 x339001 x343000 x343001)
def triglyphref05_By.j4 : Nat → List Int → Int → Int → Int → List Int → List Int → Int → Bool → List Int → List (S43) → List Int → List (S43) → Option (List Int × (List (S43)))
 | 0, _, _, _, _, _, _, _, _, _, _, _, _ => none
 | k + 1, x0, x2, x7, x10, x11, x13, x15, x78, x339000, x339001, x343000, x343001 => if x78 = true then (if 0 ≤ x15 then (if x15 < (x0.length : Int) then (if x15 < (x11.length : Int) then (if x15 < (x13.length : Int) then (triglyphref05_By.j5 k x0 x2 x7 x10 (x13.set (x15 : Int).toNat (wrap64 ((wrap64 ((rd x0 x15) - 1)) - (rd x11 x15)))) x339000 x339001 x343000 x343001) else (none)) else (none)) else (none)) else (none)) else (triglyphref05_By.j5 k x0 x2 x7 x10 x13 x339000 x339001 x343000 x343001)
def triglyphref05_By.j5 : Nat → List Int → Int → Int → Int → List Int → List Int → List (S43) → List Int → List (S43) → Option (List Int × (List (S43)))
 | 0, _, _, _, _, _, _, _, _, _ => none
 | k + 1, x0, x2, x7, x10, x13, x339000, x339001, x343000, x343001 => if x2 = 2 then (none) else ((triglyphref03_Place.f k x339000 x13).bind fun bt360 => (if 0 ≤ bt360.1 then (if bt360.1 < (x339001.length : Int) then (if x343001.length < 3518437208883 then (triglyphref05_By.l0 k x0 x2 x7 (wrap64 (x10 + 1)) x339000 x339001 x343000 (x343001 ++ [(⟨(rd_T43 x339001 bt360.1).f0, (rd_T43 x339001 bt360.1).f1, (rd_T43 x339001 bt360.1).f2⟩ : S43)])) else (none)) else (none)) else (none)))
end
def triglyphref05_By.f (k : Nat) (l0 : List Int) (l1_0 : List Int) (l1_1 : List (S43)) (a2 : Int) : Option (List Int × (List (S43))) := (triglyphref03_Size.f k l0).bind fun bt340 => (if ([] : List Int).length + l0.length < 17592186044416 then (triglyphref05_By.l0 k l0 a2 bt340.1 0 l1_0 l1_1 (([] : List Int) ++ l0) ([] : List (S43))) else (none))
theorem triglyphref05_By.mono_l : ∀ k, (∀ y0 y1 y2 y3 y4 y5 y6 y7, LeO (triglyphref05_By.l0 k y0 y1 y2 y3 y4 y5 y6 y7) (triglyphref05_By.l0 (k + 1) y0 y1 y2 y3 y4 y5 y6 y7)) ∧ (∀ y0 y1 y2 y3 y4 y5 y6 y7 y8 y9 y10, LeO (triglyphref05_By.l1 k y0 y1 y2 y3 y4 y5 y6 y7 y8 y9 y10) (triglyphref05_By.l1 (k + 1) y0 y1 y2 y3 y4 y5 y6 y7 y8 y9 y10)) ∧ (∀ y0 y1 y2 y3 y4 y5 y6 y7 y8 y9 y10 y11, LeO (triglyphref05_By.j2 k y0 y1 y2 y3 y4 y5 y6 y7 y8 y9 y10 y11) (triglyphref05_By.j2 (k + 1) y0 y1 y2 y3 y4 y5 y6 y7 y8 y9 y10 y11)) ∧ (∀ y0 y1 y2 y3 y4 y5 y6 y7 y8 y9 y10, LeO (triglyphref05_By.j3 k y0 y1 y2 y3 y4 y5 y6 y7 y8 y9 y10) (triglyphref05_By.j3 (k + 1) y0 y1 y2 y3 y4 y5 y6 y7 y8 y9 y10)) ∧ (∀ y0 y1 y2 y3 y4 y5 y6 y7 y8 y9 y10 y11, LeO (triglyphref05_By.j4 k y0 y1 y2 y3 y4 y5 y6 y7 y8 y9 y10 y11) (triglyphref05_By.j4 (k + 1) y0 y1 y2 y3 y4 y5 y6 y7 y8 y9 y10 y11)) ∧ (∀ y0 y1 y2 y3 y4 y5 y6 y7 y8, LeO (triglyphref05_By.j5 k y0 y1 y2 y3 y4 y5 y6 y7 y8) (triglyphref05_By.j5 (k + 1) y0 y1 y2 y3 y4 y5 y6 y7 y8))
 | 0 => ⟨fun _ _ _ _ _ _ _ _ r h => by simp [triglyphref05_By.l0] at h, fun _ _ _ _ _ _ _ _ _ _ _ r h => by simp [triglyphref05_By.l1] at h, fun _ _ _ _ _ _ _ _ _ _ _ _ r h => by simp [triglyphref05_By.j2] at h, fun _ _ _ _ _ _ _ _ _ _ _ r h => by simp [triglyphref05_By.j3] at h, fun _ _ _ _ _ _ _ _ _ _ _ _ r h => by simp [triglyphref05_By.j4] at h, fun _ _ _ _ _ _ _ _ _ r h => by simp [triglyphref05_By.j5] at h⟩
 | k + 1 => by
  obtain ⟨ih0, ih1, ih2, ih3, ih4, ih5⟩ := triglyphref05_By.mono_l k
  refine ⟨?_, ?_, ?_, ?_, ?_, ?_⟩
  ·intro y0 y1 y2 y3 y4 y5 y6 y7
   unfold triglyphref05_By.l0
   repeat' first
   | (with_reducible exact ih0 _ _ _ _ _ _ _ _)
   | (with_reducible exact ih1 _ _ _ _ _ _ _ _ _ _ _)
   | (with_reducible exact ih2 _ _ _ _ _ _ _ _ _ _ _ _)
   | (with_reducible exact ih3 _ _ _ _ _ _ _ _ _ _ _)
   | (with_reducible exact ih4 _ _ _ _ _ _ _ _ _ _ _ _)
   | (with_reducible exact ih5 _ _ _ _ _ _ _ _ _)
   | (with_reducible exact triglyphref03_Place.mono _ _ _)
   | (with_reducible exact triglyphref03_Places.mono _ _ _)
   | (with_reducible exact triglyphref03_Size.mono _ _)
   | (with_reducible exact LeO.refl _)
   | (with_reducible exact LeO.none _)
   | (with_reducible refine LeO.ite ?_ ?_)
   | (with_reducible refine LeO.bind ?_ (fun _ => ?_))






   | exact triglyphref03_Place.mono _ _ _
   | exact triglyphref03_Places.mono _ _ _
   | exact triglyphref03_Size.mono _ _



  ·intro y0 y1 y2 y3 y4 y5 y6 y7 y8 y9 y10
   unfold triglyphref05_By.l1
   repeat' first
   | (with_reducible exact ih0 _ _ _ _ _ _ _ _)
   | (with_reducible exact ih1 _ _ _ _ _ _ _ _ _ _ _)
   | (with_reducible exact ih2 _ _ _ _ _ _ _ _ _ _ _ _)
   | (with_reducible exact ih3 _ _ _ _ _ _ _ _ _ _ _)
   | (with_reducible exact ih4 _ _ _ _ _ _ _ _ _ _ _ _)
   | (with_reducible exact ih5 _ _ _ _ _ _ _ _ _)
   | (with_reducible exact triglyphref03_Place.mono _ _ _)
   | (with_reducible exact triglyphref03_Places.mono _ _ _)
   | (with_reducible exact triglyphref03_Size.mono _ _)
   | (with_reducible exact LeO.refl _)
   | (with_reducible exact LeO.none _)
   | (with_reducible refine LeO.ite ?_ ?_)
   | (with_reducible refine LeO.bind ?_ (fun _ => ?_))






   | exact triglyphref03_Place.mono _ _ _
   | exact triglyphref03_Places.mono _ _ _
   | exact triglyphref03_Size.mono _ _



  ·intro y0 y1 y2 y3 y4 y5 y6 y7 y8 y9 y10 y11
   unfold triglyphref05_By.j2
   repeat' first
   | (with_reducible exact ih0 _ _ _ _ _ _ _ _)
   | (with_reducible exact ih1 _ _ _ _ _ _ _ _ _ _ _)
   | (with_reducible exact ih2 _ _ _ _ _ _ _ _ _ _ _ _)
   | (with_reducible exact ih3 _ _ _ _ _ _ _ _ _ _ _)
   | (with_reducible exact ih4 _ _ _ _ _ _ _ _ _ _ _ _)
   | (with_reducible exact ih5 _ _ _ _ _ _ _ _ _)
   | (with_reducible exact triglyphref03_Place.mono _ _ _)
   | (with_reducible exact triglyphref03_Places.mono _ _ _)
   | (with_reducible exact triglyphref03_Size.mono _ _)
   | (with_reducible exact LeO.refl _)
   | (with_reducible exact LeO.none _)
   | (with_reducible refine LeO.ite ?_ ?_)
   | (with_reducible refine LeO.bind ?_ (fun _ => ?_))






   | exact triglyphref03_Place.mono _ _ _
   | exact triglyphref03_Places.mono _ _ _
   | exact triglyphref03_Size.mono _ _



  ·intro y0 y1 y2 y3 y4 y5 y6 y7 y8 y9 y10
   unfold triglyphref05_By.j3
   repeat' first
   | (with_reducible exact ih0 _ _ _ _ _ _ _ _)
   | (with_reducible exact ih1 _ _ _ _ _ _ _ _ _ _ _)
   | (with_reducible exact ih2 _ _ _ _ _ _ _ _ _ _ _ _)
   | (with_reducible exact ih3 _ _ _ _ _ _ _ _ _ _ _)
   | (with_reducible exact ih4 _ _ _ _ _ _ _ _ _ _ _ _)
   | (with_reducible exact ih5 _ _ _ _ _ _ _ _ _)
   | (with_reducible exact triglyphref03_Place.mono _ _ _)
   | (with_reducible exact triglyphref03_Places.mono _ _ _)
   | (with_reducible exact triglyphref03_Size.mono _ _)
   | (with_reducible exact LeO.refl _)
   | (with_reducible exact LeO.none _)
   | (with_reducible refine LeO.ite ?_ ?_)
   | (with_reducible refine LeO.bind ?_ (fun _ => ?_))






   | exact triglyphref03_Place.mono _ _ _
   | exact triglyphref03_Places.mono _ _ _
   | exact triglyphref03_Size.mono _ _



  ·intro y0 y1 y2 y3 y4 y5 y6 y7 y8 y9 y10 y11
   unfold triglyphref05_By.j4
   repeat' first
   | (with_reducible exact ih0 _ _ _ _ _ _ _ _)
   | (with_reducible exact ih1 _ _ _ _ _ _ _ _ _ _ _)
   | (with_reducible exact ih2 _ _ _ _ _ _ _ _ _ _ _ _)
   | (with_reducible exact ih3 _ _ _ _ _ _ _ _ _ _ _)
   | (with_reducible exact ih4 _ _ _ _ _ _ _ _ _ _ _ _)
   | (with_reducible exact ih5 _ _ _ _ _ _ _ _ _)
   | (with_reducible exact triglyphref03_Place.mono _ _ _)
   | (with_reducible exact triglyphref03_Places.mono _ _ _)
   | (with_reducible exact triglyphref03_Size.mono _ _)
   | (with_reducible exact LeO.refl _)
   | (with_reducible exact LeO.none _)
   | (with_reducible refine LeO.ite ?_ ?_)
   | (with_reducible refine LeO.bind ?_ (fun _ => ?_))






   | exact triglyphref03_Place.mono _ _ _
   | exact triglyphref03_Places.mono _ _ _
   | exact triglyphref03_Size.mono _ _



  ·intro y0 y1 y2 y3 y4 y5 y6 y7 y8
   unfold triglyphref05_By.j5
   repeat' first
   | (with_reducible exact ih0 _ _ _ _ _ _ _ _)
   | (with_reducible exact ih1 _ _ _ _ _ _ _ _ _ _ _)
   | (with_reducible exact ih2 _ _ _ _ _ _ _ _ _ _ _ _)
   | (with_reducible exact ih3 _ _ _ _ _ _ _ _ _ _ _)
   | (with_reducible exact ih4 _ _ _ _ _ _ _ _ _ _ _ _)
   | (with_reducible exact ih5 _ _ _ _ _ _ _ _ _)
   | (with_reducible exact triglyphref03_Place.mono _ _ _)
   | (with_reducible exact triglyphref03_Places.mono _ _ _)
   | (with_reducible exact triglyphref03_Size.mono _ _)
   | (with_reducible exact LeO.refl _)
   | (with_reducible exact LeO.none _)
   | (with_reducible refine LeO.ite ?_ ?_)
   | (with_reducible refine LeO.bind ?_ (fun _ => ?_))






   | exact triglyphref03_Place.mono _ _ _
   | exact triglyphref03_Places.mono _ _ _
   | exact triglyphref03_Size.mono _ _
theorem triglyphref05_By.mono : ∀ a0 a1 a2 a3 k, LeO (triglyphref05_By.f k a0 a1 a2 a3) (triglyphref05_By.f (k + 1) a0 a1 a2 a3) := by
 intro a0 a1 a2 a3 k
 obtain ⟨ih0, ih1, ih2, ih3, ih4, ih5⟩ := triglyphref05_By.mono_l k
 unfold triglyphref05_By.f
 repeat' first
   | (with_reducible exact ih0 _ _ _ _ _ _ _ _)
   | (with_reducible exact ih1 _ _ _ _ _ _ _ _ _ _ _)
   | (with_reducible exact ih2 _ _ _ _ _ _ _ _ _ _ _ _)
   | (with_reducible exact ih3 _ _ _ _ _ _ _ _ _ _ _)
   | (with_reducible exact ih4 _ _ _ _ _ _ _ _ _ _ _ _)
   | (with_reducible exact ih5 _ _ _ _ _ _ _ _ _)
   | (with_reducible exact triglyphref03_Place.mono _ _ _)
   | (with_reducible exact triglyphref03_Places.mono _ _ _)
   | (with_reducible exact triglyphref03_Size.mono _ _)
   | (with_reducible exact LeO.refl _)
   | (with_reducible exact LeO.none _)
   | (with_reducible refine LeO.ite ?_ ?_)
   | (with_reducible refine LeO.bind ?_ (fun _ => ?_))






   | exact triglyphref03_Place.mono _ _ _
   | exact triglyphref03_Places.mono _ _ _
   | exact triglyphref03_Size.mono _ _
def triglyphref05_By.T15 : Bool × List (List Nat × List Nat) := (true, [([], []), ([], []), ([1], [1]), ([2], [2]), ([3], [3]), ([], []), ([5], [5]), ([6], [6]), ([4, 7], [4, 7]), ([0, 0, 1, 2, 3, 4, 5, 6, 7, 8], [0]), ([9, 8, 0, 1, 2, 3, 4, 5, 6, 7, 8], [8, 9])])
def triglyphref05_By.B15 : List Nat := [0, 0, 2, 6, 14, 0, 32, 96, 254, 511, 1023]
theorem triglyphref05_By.tab15 : rtab .any (opsOf Try.f22 15) = triglyphref05_By.T15 := by kernel_rfl
theorem triglyphref05_By.bits15 : waitsOk triglyphref05_By.T15.2 triglyphref05_By.B15 = true := by kernel_rfl
def triglyphref05_By.T17 : Bool × List (List Nat × List Nat) := (true, [([], []), ([], []), ([], []), ([], []), ([2, 3], [2, 3]), ([4], [4]), ([5], [5]), ([], []), ([], []), ([7, 8], [7, 8]), ([9], [9]), ([6, 10], [6, 10]), ([0, 1, 0, 1, 2, 3, 4, 5, 6, 7, 8, 9, 10, 11], [0, 1]), ([12, 11, 0, 1, 2, 3, 4, 5, 6, 7, 8, 9, 10, 11], [11, 12])])
def triglyphref05_By.B17 : List Nat := [0, 0, 0, 0, 12, 28, 60, 0, 0, 384, 896, 2044, 4095, 8191]
theorem triglyphref05_By.tab17 : rtab .any (opsOf Try.f22 17) = triglyphref05_By.T17 := by kernel_rfl
theorem triglyphref05_By.bits17 : waitsOk triglyphref05_By.T17.2 triglyphref05_By.B17 = true := by kernel_rfl
def triglyphref05_By.T24 : Bool × List (List Nat × List Nat) := (true, [([], []), ([0], [0]), ([], []), ([2], [2]), ([], []), ([3, 4], [3, 4]), ([5], [5]), ([6], [6]), ([1, 7], [1, 7]), ([0, 1, 2, 3, 4, 5, 6, 7, 8], []), ([9, 8, 8, 0, 1, 2, 3, 4, 5, 6, 7, 8], [8, 9])])
def triglyphref05_By.B24 : List Nat := [0, 1, 0, 4, 0, 28, 60, 124, 255, 511, 1023]
theorem triglyphref05_By.tab24 : rtab .any (opsOf Try.f22 24) = triglyphref05_By.T24 := by kernel_rfl
theorem triglyphref05_By.bits24 : waitsOk triglyphref05_By.T24.2 triglyphref05_By.B24 = true := by kernel_rfl
set_option maxHeartbeats 8000000 in
set_option maxRecDepth 100000 in
theorem triglyphref05_By.calls (k : Nat) (A0 : Option Addr) (c0 : Nat) (l0 : List Int) (A1_0 : Option Addr) (c1_0 : Nat) (l1_0 : List Int) (P1_1_ : Nat → Prop) (A1_1 : Option Addr) (c1_1 : Nat) (l1_1 : List (S43)) (a2 : Int) (r1 : List Int) (r2 : List (S43)) (w : World) (hr0 : Kd.C (Kd.int .i64) w A0 l0.length l0) (hc0 : l0.length ≤ c0) (hr1_0 : Kd.C (Kd.int .i64) w A1_0 l1_0.length l1_0) (hc1_0 : l1_0.length ≤ c1_0) (hs1_1 : Kd.V k43 43 w w.heap.size (fun k_ => P1_1_ k_) (.slice A1_1 l1_1.length c1_1) l1_1) (h : triglyphref05_By.f k l0 l1_0 l1_1 a2 = some (r1, r2)) :
  Calls Try.prog 22 #[.slice A0 l0.length c0, .agg #[.slice A1_0 l1_0.length c1_0, .slice A1_1 l1_1.length c1_1], .int .i64 a2] w fun e w' => ∃ v0_ v1_ : Value, e = .returned (.agg #[v0_, v1_]) ∧ Kd.R (Kd.int .i64) 3 w' w.heap.size (fun k_ => (w.heap.size ≤ k_)) v0_ r1 ∧ Kd.N k43 43 w' w.heap.size (fun k_ => (P1_1_ k_ ∨ w.heap.size ≤ k_) ∧ some k_ ≠ (v0_ : Value).ownBlock) v1_ r2 ∧ Below w.heap.size w w' := by
 have hu25 := Try.underlying25
 have hu43 := Try.underlying43
 have HR0 := gA hr0
 have HC0 := gA hc0
 clear hr0 hc0
 have HR1_0 := gA hr1_0
 have HC1_0 := gA hc1_0
 clear hr1_0 hc1_0
 have HO1_1 := gA (show Kd.V k43 43 w w.heap.size (fun k_ => (P1_1_ k_ ∨ w.heap.size ≤ k_)) (.slice A1_1 l1_1.length c1_1) l1_1 from Kd.V_mono hs1_1 (fun k_ hk => .inl hk))
 have HB := gA (Below.refl w.heap.size w)
 have H : ((triglyphref03_Size.f k l0).bind fun bt340 => (if ([] : List Int).length + l0.length < 17592186044416 then (triglyphref05_By.l0 k l0 a2 bt340.1 0 l1_0 l1_1 (([] : List Int) ++ l0) ([] : List (S43))) else (none))) = some (r1, r2) := h
 clear h
 replace H := Option.bind_eq_some_iff.mp H
 obtain ⟨⟨t340, t341⟩, A40, H⟩ := H
 replace H : (if ([] : List Int).length + l0.length < 17592186044416 then (triglyphref05_By.l0 k l0 a2 t340 0 l1_0 l1_1 (([] : List Int) ++ l0) ([] : List (S43))) else (none)) = some (r1, r2) := H
 have A4 := gA A40
 clear A40
 obtain ⟨c5, H⟩ := iS H
 have LMc5 := gA c5
 clear c5
 obtain ⟨y343, hy343⟩ : ∃ y_ : List Int, y_ = (([] : List Int) ++ l0) := ⟨_, rfl⟩
 replace H : (triglyphref05_By.l0 k l0 a2 t340 0 l1_0 l1_1 y343 ([] : List (S43))) = some (r1, r2) := by first | (rw [hy343]; with_reducible exact H) | (have H2_ := (Option.bind_some _ _).symm.trans H; rw [hy343]; with_reducible exact H2_) | (have H2_ := (Option.bind_some _ _).symm.trans H; with_reducible exact H2_) | with_reducible exact H | (rw [hy343]; exact H) | exact H
 have Ny343 := gA hy343
 clear hy343
 have H' := gA H
 clear H
 go_enter Try.func22, Try.ntmps22
 go_wp2_with (first | ((with_reducible refine gate_dst (N := 4) rfl ?_); refine box_event ?hg (N := 4) ?hd (cs := #[.slice A1_0 l1_0.length c1_0, .slice A1_1 l1_1.length c1_1]) (t := 25) ?hr ?_; (case hd => rfl); (case hg => rfl); (case hr => first | (go_simp; done) | (go_simp; rfl)); intro gb338 hg w6 hbox hb; replace HO1_1 := gA (Kd.V_below (Kd.V_elderB (by (with_reducible repeat (first | apply Kd.V_alloc | apply Kd.V_drewN | apply Kd.V_drew)); exact HO1_1.out) gb338 (Nat.le_of_eq hg.symm)) hb); have BK338 := gA (hbox); have GW338 := gA ((by rw [hg]; exact (below_size (by repeat (first | (with_reducible first | exact HB.out | apply below_alloc | apply pw_below_drewN | apply below_drew1) | exact HB.out))) : w.heap.size ≤ gb338)); have GE338 := gA ((by rw [hg]; exact (below_size (by repeat (first | (with_reducible first | exact HB.out | apply below_alloc | apply pw_below_drewN | apply below_drew1) | exact HB.out))) : w.heap.size ≤ gb338)); replace HB := gA (below_step (by repeat (first | (with_reducible first | exact HB.out | apply below_alloc | apply pw_below_drewN | apply below_drew1) | exact HB.out)) hb); clear hb hbox hg) | ((with_reducible refine gate_dst (N := 6) rfl ?_); refine box_event ?hg (N := 6) ?hd (cs := #[.slice none 0 0, .slice none 0 0]) (t := 25) ?hr ?_; (case hd => rfl); (case hg => rfl); (case hr => first | (go_simp; done) | (go_simp; rfl)); intro gb339 hg w7 hbox hb; replace HO1_1 := gA (Kd.V_below (Kd.V_elderB (by (with_reducible repeat (first | apply Kd.V_alloc | apply Kd.V_drewN | apply Kd.V_drew)); exact HO1_1.out) gb339 (Nat.le_of_eq hg.symm)) hb); have BK339 := gA (hbox); have GW339 := gA ((by rw [hg]; exact (below_size (by repeat (first | (with_reducible first | exact HB.out | apply below_alloc | apply pw_below_drewN | apply below_drew1 | refine below_set ?_ GE338.out) | exact HB.out))) : w.heap.size ≤ gb339)); have GE339 := gA ((by rw [hg]; exact (below_size (by repeat (first | (with_reducible first | exact HB.out | apply below_alloc | apply pw_below_drewN | apply below_drew1 | refine below_set ?_ GE338.out) | exact HB.out))) : w.heap.size ≤ gb339)); replace HB := gA (below_step (by repeat (first | (with_reducible first | exact HB.out | apply below_alloc | apply pw_below_drewN | apply below_drew1 | refine below_set ?_ GE338.out) | exact HB.out)) hb); have NB338_339 := gA ((by rw [hg]; exact Nat.ne_of_lt (blk_lt (g := gb338) (o := .cells #[.slice A1_0 l1_0.length c1_0, .slice A1_1 l1_1.length c1_1] 25 (0, 0)) (by (with_reducible repeat (first | refine blk_drewN ?_ _ | refine blk_drew ?_ | refine blk_alloc ?_ _)); exact BK338.out)) : gb338 ≠ gb339)); have NB339_338 := gA ((by rw [hg]; exact Nat.ne_of_gt (blk_lt (g := gb338) (o := .cells #[.slice A1_0 l1_0.length c1_0, .slice A1_1 l1_1.length c1_1] 25 (0, 0)) (by (with_reducible repeat (first | refine blk_drewN ?_ _ | refine blk_drew ?_ | refine blk_alloc ?_ _)); exact BK338.out)) : gb339 ≠ gb338)); replace BK338 := gA (blk_below (g := gb338) (o := .cells #[.slice A1_0 l1_0.length c1_0, .slice A1_1 l1_1.length c1_1] 25 (0, 0)) (by (with_reducible repeat (first | refine blk_drewN ?_ _ | refine blk_drew ?_ | refine blk_alloc ?_ _)); exact BK338.out) hb); clear hb hbox hg) | ((with_reducible refine gate_callee (f := 36) rfl ?_); refine goesL_ (some 21) rfl rfl Try.func36 (by kernel_rfl) rfl #[.slice A0 l0.length c0] rfl (by (try simp only [List.map_toArray, List.map_cons, List.map_nil]); first | done | rfl | (simp only [List.length_drop, List.length_take]; rfl)) ?_; (with_reducible refine (triglyphref03_Size.calls k _ _ l0 t340 t341 _ ?side1 ?side2 A4.out).mono ?_); (case side1 => repeat (first | exact (Kd.C_below HR0.out HB.out) | (with_reducible refine Kd.C_alloc ?_ _) | (with_reducible refine Kd.C_drewN ?_ _) | (with_reducible refine Kd.C_drew ?_))); (case side2 => exact HC0.out); rintro e w' ⟨rfl, ⟨nd, rfl⟩⟩; refine ⟨_, rfl, ?_⟩; (try (rw [drewN_self w7]; generalize hq_ : World.drewN w7 _ = w7; have n0_ : Aside0 (Kd.V k43 43 w7 w.heap.size (fun k_ => (P1_1_ k_ ∨ w.heap.size ≤ k_) ∧ k_ ≠ gb338 ∧ k_ ≠ gb339) (.slice A1_1 l1_1.length c1_1) l1_1) := ⟨by rw [← hq_]; exact (by (with_reducible repeat (first | apply Kd.V_alloc | apply Kd.V_drewN | apply Kd.V_drew)); exact Kd.V_mono HO1_1.out (fun _ hk => ⟨hk.1.1, ⟨hk.1.2, hk.2⟩⟩))⟩; have n1_ : Aside0 (w7.heap[gb338]? = some (.cells #[.slice A1_0 l1_0.length c1_0, .slice A1_1 l1_1.length c1_1] 25 (0, 0))) := ⟨by rw [← hq_]; exact (by (with_reducible repeat (first | refine blk_drewN ?_ _ | refine blk_drew ?_ | refine blk_alloc ?_ _)); exact BK338.out)⟩; have n2_ : Aside0 (w7.heap[gb339]? = some (.cells #[.slice none 0 0, .slice none 0 0] 25 (0, 0))) := ⟨by rw [← hq_]; exact (by (with_reducible repeat (first | refine blk_drewN ?_ _ | refine blk_drew ?_ | refine blk_alloc ?_ _)); exact BK339.out)⟩; have n3_ : Aside0 (Below w.heap.size w w7) := ⟨by rw [← hq_]; exact (by repeat (first | (with_reducible first | exact HB.out | apply below_alloc | apply pw_below_drewN | apply below_drew1 | refine below_set ?_ GE338.out | refine below_set ?_ GE339.out) | exact HB.out))⟩; clear HO1_1 BK338 BK339 HB hq_; have HO1_1 := n0_; have BK338 := n1_; have BK339 := n2_; have HB := n3_; clear n0_ n1_ n2_ n3_))) | ((with_reducible refine gate_dst (N := 9) rfl ?_); refine box_event ?hg (N := 9) ?hd (cs := #[.slice none 0 0, .slice none 0 0]) (t := 25) ?hr ?_; (case hd => rfl); (case hg => rfl); (case hr => first | (go_simp; done) | (go_simp; rfl)); intro gb342 hg w8 hbox hb; replace HO1_1 := gA (Kd.V_below (Kd.V_elderB (by (with_reducible repeat (first | apply Kd.V_alloc | apply Kd.V_drewN | apply Kd.V_drew)); exact HO1_1.out) gb342 (Nat.le_of_eq hg.symm)) hb); have BK342 := gA (hbox); have GW342 := gA ((by rw [hg]; exact (below_size (by repeat (first | (with_reducible first | exact HB.out | apply below_alloc | apply pw_below_drewN | apply below_drew1 | refine below_set ?_ GE338.out | refine below_set ?_ GE339.out) | exact HB.out))) : w.heap.size ≤ gb342)); have GE342 := gA ((by rw [hg]; exact (below_size (by repeat (first | (with_reducible first | exact HB.out | apply below_alloc | apply pw_below_drewN | apply below_drew1 | refine below_set ?_ GE338.out | refine below_set ?_ GE339.out) | exact HB.out))) : w.heap.size ≤ gb342)); replace HB := gA (below_step (by repeat (first | (with_reducible first | exact HB.out | apply below_alloc | apply pw_below_drewN | apply below_drew1 | refine below_set ?_ GE338.out | refine below_set ?_ GE339.out) | exact HB.out)) hb); have NB338_342 := gA ((by rw [hg]; exact Nat.ne_of_lt (blk_lt (g := gb338) (o := .cells #[.slice A1_0 l1_0.length c1_0, .slice A1_1 l1_1.length c1_1] 25 (0, 0)) (by (with_reducible repeat (first | refine blk_drewN ?_ _ | refine blk_drew ?_ | refine blk_alloc ?_ _)); exact BK338.out)) : gb338 ≠ gb342)); have NB342_338 := gA ((by rw [hg]; exact Nat.ne_of_gt (blk_lt (g := gb338) (o := .cells #[.slice A1_0 l1_0.length c1_0, .slice A1_1 l1_1.length c1_1] 25 (0, 0)) (by (with_reducible repeat (first | refine blk_drewN ?_ _ | refine blk_drew ?_ | refine blk_alloc ?_ _)); exact BK338.out)) : gb342 ≠ gb338)); replace BK338 := gA (blk_below (g := gb338) (o := .cells #[.slice A1_0 l1_0.length c1_0, .slice A1_1 l1_1.length c1_1] 25 (0, 0)) (by (with_reducible repeat (first | refine blk_drewN ?_ _ | refine blk_drew ?_ | refine blk_alloc ?_ _)); exact BK338.out) hb); have NB339_342 := gA ((by rw [hg]; exact Nat.ne_of_lt (blk_lt (g := gb339) (o := .cells #[.slice none 0 0, .slice none 0 0] 25 (0, 0)) (by (with_reducible repeat (first | refine blk_drewN ?_ _ | refine blk_drew ?_ | refine blk_alloc ?_ _)); exact BK339.out)) : gb339 ≠ gb342)); have NB342_339 := gA ((by rw [hg]; exact Nat.ne_of_gt (blk_lt (g := gb339) (o := .cells #[.slice none 0 0, .slice none 0 0] 25 (0, 0)) (by (with_reducible repeat (first | refine blk_drewN ?_ _ | refine blk_drew ?_ | refine blk_alloc ?_ _)); exact BK339.out)) : gb342 ≠ gb339)); replace BK339 := gA (blk_below (g := gb339) (o := .cells #[.slice none 0 0, .slice none 0 0] 25 (0, 0)) (by (with_reducible repeat (first | refine blk_drewN ?_ _ | refine blk_drew ?_ | refine blk_alloc ?_ _)); exact BK339.out) hb); clear hb hbox hg; have hnb9 := NB342_338.out; have hnc9 := NB338_342.out; have hnb10 := NB342_339.out; have hnc10 := NB339_342.out; obtain ⟨hcz11_0, hcz11_1, hfz11_0, hfz11_1⟩ := gz2 BK342) | ((with_reducible refine gate_builtin (b := .append) (xs := #[.tmp 26, .tmp 27]) rfl ?_); at_builtin; refine Kd.R_append_rows (Kd.int .i64) (w0 := w) w.heap.size rfl (.tmp 26) (.tmp 27) 22 3 (.int .i64 0) 8 rfl Try.underlying22 info3 rfl (by decide) (by omega) (.slice none 0 0) ([] : List Int) l0 _ _ _ (fun k_ => (w.heap.size ≤ k_)) (fun _ => False) rfl rfl ?aO ?aR (fun _ _ h => h) (fun _ h => h.elim) ?aF ?aB ?aS ?aL ?_; (case aR => exact Kd.C_below HR0.out (by repeat (first | (with_reducible first | exact HB.out | apply below_alloc | apply pw_below_drewN | apply below_drew1 | refine below_set ?_ GE338.out | refine below_set ?_ GE339.out | refine below_set ?_ GE342.out) | exact HB.out))); (case aB => exact (by repeat (first | (with_reducible first | exact HB.out | apply below_alloc | apply pw_below_drewN | apply below_drew1 | refine below_set ?_ GE338.out | refine below_set ?_ GE339.out | refine below_set ?_ GE342.out) | exact HB.out))); (case aF => exact (fun k_ hk => (Nat.le_trans (below_size (by repeat (first | (with_reducible first | exact HB.out | apply below_alloc | apply pw_below_drewN | apply below_drew1 | refine below_set ?_ GE338.out | refine below_set ?_ GE339.out | refine below_set ?_ GE342.out) | exact HB.out))) hk))); (case aO => exact ((Kd.R_nil _ _ _ _ (fun k_ => (w.heap.size ≤ k_))))); (case aS => exact (below_size (by repeat (first | (with_reducible first | exact HB.out | apply below_alloc | apply pw_below_drewN | apply below_drew1 | refine below_set ?_ GE338.out | refine below_set ?_ GE339.out | refine below_set ?_ GE342.out) | exact HB.out)))); (case aL => have := LMc5.out; omega); intro v344 w12 ho hb hg hat; rw [← Ny343.out] at ho; replace HO1_1 := gA (Kd.V_afterv (Kd.V_apart_nil (by (with_reducible repeat (first | apply Kd.V_alloc | apply Kd.V_drewN | apply Kd.V_drew)); exact (Kd.V_mono (Kd.V_far (p := ⟨gb342, 1, none⟩) (Kd.V_far (p := ⟨gb342, 0, none⟩) (Kd.V_mono HO1_1.out (fun k_ hk => (⟨hk, hk.2⟩ : _ ∧ k_ ≠ gb342))) (fun _ hk => hk.2) (.slice none 0 0)) (fun _ hk => hk.2) (.slice none 0 0)) (fun _ h_ => h_.1)))) hg hat); replace BK338 := gA (blk_grown (g := gb338) (o := .cells #[.slice A1_0 l1_0.length c1_0, .slice A1_1 l1_1.length c1_1] 25 (0, 0)) (by (with_reducible repeat (first | refine blk_drewN ?_ _ | refine blk_drew ?_ | refine blk_alloc ?_ _)); refine blk_far ?_ NB338_342.out _; (with_reducible repeat (first | refine blk_drewN ?_ _ | refine blk_drew ?_ | refine blk_alloc ?_ _)); refine blk_far ?_ NB338_342.out _; (with_reducible repeat (first | refine blk_drewN ?_ _ | refine blk_drew ?_ | refine blk_alloc ?_ _)); exact BK338.out) hg (by simp [Value.ownBlock])); replace BK339 := gA (blk_grown (g := gb339) (o := .cells #[.slice none 0 0, .slice none 0 0] 25 (0, 0)) (by (with_reducible repeat (first | refine blk_drewN ?_ _ | refine blk_drew ?_ | refine blk_alloc ?_ _)); refine blk_far ?_ NB339_342.out _; (with_reducible repeat (first | refine blk_drewN ?_ _ | refine blk_drew ?_ | refine blk_alloc ?_ _)); refine blk_far ?_ NB339_342.out _; (with_reducible repeat (first | refine blk_drewN ?_ _ | refine blk_drew ?_ | refine blk_alloc ?_ _)); exact BK339.out) hg (by simp [Value.ownBlock])); replace BK342 := gA (blk_grown (g := gb342) (o := .cells #[.slice none 0 0, .slice none 0 0] 25 (0, 0)) (by (with_reducible repeat (first | refine blk_drewN ?_ _ | refine blk_drew ?_ | refine blk_alloc ?_ _)); refine blk_put (cs := #[.slice none 0 0, .slice none 0 0]) ?_ 1 _ rfl; (with_reducible repeat (first | refine blk_drewN ?_ _ | refine blk_drew ?_ | refine blk_alloc ?_ _)); refine blk_put (cs := #[.slice none 0 0, .slice none 0 0]) ?_ 0 _ rfl; (with_reducible repeat (first | refine blk_drewN ?_ _ | refine blk_drew ?_ | refine blk_alloc ?_ _)); exact BK342.out) hg (by simp [Value.ownBlock])); replace HB := gA (hb); have HO345 := gA (ho); clear ho hb hg hat; obtain ⟨Ao13, co13, eo13⟩ := Kd.R_slice HO345.out; subst eo13; obtain ⟨hcz14_0, hcz14_1, hfz14_0, hfz14_1⟩ := gz2 BK342))
 go_loopg [10] k (fun kq v10 w' => ∃ (x10_1 : Int) (x343000_1 : List Int) (x343001_1 : List (S43)) (u343000 : Value) (u343001 : Value), v10 = .int .i64 x10_1 ∧ Aside0 (triglyphref05_By.l0 kq l0 a2 t340 x10_1 l1_0 l1_1 x343000_1 x343001_1 = some (r1, r2)) ∧ Aside0 (kq ≤ k) ∧ Aside0 (Kd.V k43 43 w' w.heap.size (fun k_ => (P1_1_ k_ ∨ w.heap.size ≤ k_) ∧ some k_ ≠ (u343000 : Value).ownBlock ∧ some k_ ≠ (u343001 : Value).ownBlock ∧ k_ ≠ gb338 ∧ k_ ≠ gb339 ∧ k_ ≠ gb342) (.slice A1_1 l1_1.length c1_1) l1_1) ∧ Aside0 (Kd.R (Kd.int .i64) 3 w' w.heap.size (fun k_ => (w.heap.size ≤ k_)) u343000 x343000_1) ∧ Aside0 (Kd.N k43 43 w' w.heap.size (fun k_ => (P1_1_ k_ ∨ w.heap.size ≤ k_) ∧ some k_ ≠ (u343000 : Value).ownBlock ∧ k_ ≠ gb338 ∧ k_ ≠ gb339 ∧ k_ ≠ gb342) u343001 x343001_1) ∧ Aside0 (w'.heap[gb338]? = some (.cells #[(.slice A1_0 l1_0.length c1_0), (.slice A1_1 l1_1.length c1_1)] 25 (0, 0))) ∧ Aside0 (w'.heap[gb339]? = some (.cells #[(.slice none 0 0), (.slice none 0 0)] 25 (0, 0))) ∧ Aside0 (w'.heap[gb342]? = some (.cells #[u343000, u343001] 25 (0, 0))) ∧ Aside0 (Below w.heap.size w w'))
 case atStart => exact ⟨(0), (y343), (([] : List (S43))), (.slice Ao13 y343.length co13), (.slice none 0 0), (by first | rfl | (simp; done) | (simp [*]; done)), H', ⟨Nat.le_refl _⟩, ⟨by (with_reducible repeat (first | apply Kd.V_alloc | apply Kd.V_drewN | apply Kd.V_drew)); exact Kd.V_mono (Kd.V_far (p := ⟨gb342, 0, none⟩) (Kd.V_mono HO1_1.out (fun k_ hk => (⟨hk, hk.1.2⟩ : _ ∧ k_ ≠ gb342))) (fun _ hk => hk.2) (.slice Ao13 y343.length co13)) (fun _ hk => ⟨hk.1.1.1.1, ⟨hk.1.2, ⟨(by simp [Value.ownBlock]), ⟨hk.1.1.1.2.1, ⟨hk.1.1.1.2.2, hk.1.1.2⟩⟩⟩⟩⟩)⟩, ⟨by (with_reducible repeat (first | apply Kd.R_alloc | apply Kd.R_drewN | apply Kd.R_drew)); exact Kd.R_mono (Kd.R_far (p := ⟨gb342, 0, none⟩) (Kd.R_types HO345.out BK342.out (by decide)) (fun _ hk => hk.2) (.slice Ao13 y343.length co13)) (fun _ hk => hk.1)⟩, ⟨by first | exact Kd.R_nil _ _ _ _ _ | exact Kd.N_nil _ _ _ _ _ | exact Kd.V_nil _ _ _ _ _ | exact Kd.Q_nil _ _ _ _ _ | exact Kd.S_nil _ _ _ _ _⟩, ⟨by (with_reducible repeat (first | refine blk_drewN ?_ _ | refine blk_drew ?_ | refine blk_alloc ?_ _)); refine blk_far ?_ NB338_342.out _; (with_reducible repeat (first | refine blk_drewN ?_ _ | refine blk_drew ?_ | refine blk_alloc ?_ _)); exact BK338.out⟩, ⟨by (with_reducible repeat (first | refine blk_drewN ?_ _ | refine blk_drew ?_ | refine blk_alloc ?_ _)); refine blk_far ?_ NB339_342.out _; (with_reducible repeat (first | refine blk_drewN ?_ _ | refine blk_drew ?_ | refine blk_alloc ?_ _)); exact BK339.out⟩, ⟨by (with_reducible repeat (first | refine blk_drewN ?_ _ | refine blk_drew ?_ | refine blk_alloc ?_ _)); refine blk_put (cs := #[.slice none 0 0, .slice none 0 0]) ?_ 0 _ rfl; (with_reducible repeat (first | refine blk_drewN ?_ _ | refine blk_drew ?_ | refine blk_alloc ?_ _)); exact BK342.out⟩, ⟨by repeat (first | (with_reducible first | exact HB.out | apply below_alloc | apply pw_below_drewN | apply below_drew1 | refine below_set ?_ GE338.out | refine below_set ?_ GE339.out | refine below_set ?_ GE342.out) | exact HB.out)⟩⟩
 case round =>
  clear H'
  try clear c1
  try clear c2
  try clear p2
  try clear c3
  try clear c5
  try clear c9
  try clear c10
  try clear hcz11_0
  try clear hcz11_1
  try clear hcz14_0
  try clear hcz14_1
  try clear hfz11_0
  try clear hfz11_1
  try clear hfz14_0
  try clear hfz14_1
  obtain ⟨x10_1, x343000_1, x343001_1, u343000, u343001, rfl, HA, HK1, HO_339001, HO_343000, HO_343001, BK338, BK339, BK342, HB⟩ := hrel
  cases gk with
  | zero => exact absurd HA.out (by simp [triglyphref05_By.l0])
  | succ k1 =>
   have H := HA.out; clear HA
   simp only [triglyphref05_By.l0] at H
   by_cases c15 : x10_1 < t340
   ·rw [if_pos c15] at H
    have c15b0 := decide_eq_true c15
    clear c15
    replace H := Option.bind_eq_some_iff.mp H
    obtain ⟨⟨t346, t347⟩, A160, H⟩ := H
    replace H : (triglyphref05_By.l1 k1 l0 a2 t340 x10_1 t346 ([] : List Int) 0 l1_0 l1_1 x343000_1 x343001_1) = some (r1, r2) := H
    have A16 := gA A160
    clear A160
    have H' := gA H
    clear H
    go_wp2_with (first | ((with_reducible refine gate_callee (f := 37) rfl ?_); refine goesL_ (some 38) rfl rfl Try.func37 (by kernel_rfl) rfl #[.slice A0 l0.length c0, .int .i64 x10_1] rfl (by (try simp only [List.map_toArray, List.map_cons, List.map_nil]); first | done | rfl | (simp only [List.length_drop, List.length_take]; rfl)) ?_; (with_reducible refine (triglyphref03_Places.calls k1 _ _ l0 x10_1 t346 t347 _ ?side1 ?side2 A16.out).mono ?_); (case side1 => repeat (first | exact (Kd.C_below HR0.out HB.out) | (with_reducible refine Kd.C_alloc ?_ _) | (with_reducible refine Kd.C_drewN ?_ _) | (with_reducible refine Kd.C_drew ?_))); (case side2 => exact HC0.out); rintro e w17 ⟨v348, rfl, ho0, hb⟩; refine ⟨_, rfl, ?_⟩; replace HO_339001 := gA (Kd.V_elder' (by (with_reducible repeat (first | apply Kd.V_alloc | apply Kd.V_drewN | apply Kd.V_drew)); exact HO_339001.out) (Kd.R_base ho0) hb); replace HO_343001 := gA (Kd.N_elder' (by (with_reducible repeat (first | apply Kd.N_alloc | apply Kd.N_drewN | apply Kd.N_drew)); exact HO_343001.out) (Kd.R_base ho0) hb); have HO349 := gA (Kd.R_lower (Kd.R_new' (Kd.R_newM (M := fun k_ => (w.heap.size ≤ k_)) ho0 (below_size (by repeat (first | (with_reducible first | exact HB.out | apply below_alloc | apply pw_below_drewN | apply below_drew1 | refine below_set ?_ GE338.out | refine below_set ?_ GE339.out | refine below_set ?_ GE342.out) | exact HB.out))) (fun k_ h_ => h_)) (Kd.R_lt (by (with_reducible repeat (first | apply Kd.R_alloc | apply Kd.R_drewN | apply Kd.R_drew)); exact HO_343000.out))) (below_size (by repeat (first | (with_reducible first | exact HB.out | apply below_alloc | apply pw_below_drewN | apply below_drew1 | refine below_set ?_ GE338.out | refine below_set ?_ GE339.out | refine below_set ?_ GE342.out) | exact HB.out)))); replace HO_343000 := gA (Kd.R_elder' (by (with_reducible repeat (first | apply Kd.R_alloc | apply Kd.R_drewN | apply Kd.R_drew)); exact HO_343000.out) (Kd.R_base ho0) hb); replace BK338 := gA (blk_below (g := gb338) (o := .cells #[.slice A1_0 l1_0.length c1_0, .slice A1_1 l1_1.length c1_1] 25 (0, 0)) (by (with_reducible repeat (first | refine blk_drewN ?_ _ | refine blk_drew ?_ | refine blk_alloc ?_ _)); exact BK338.out) hb); replace BK339 := gA (blk_below (g := gb339) (o := .cells #[.slice none 0 0, .slice none 0 0] 25 (0, 0)) (by (with_reducible repeat (first | refine blk_drewN ?_ _ | refine blk_drew ?_ | refine blk_alloc ?_ _)); exact BK339.out) hb); replace BK342 := gA (blk_below (g := gb342) (o := .cells #[u343000, u343001] 25 (0, 0)) (by (with_reducible repeat (first | refine blk_drewN ?_ _ | refine blk_drew ?_ | refine blk_alloc ?_ _)); exact BK342.out) hb); replace HB := gA (below_step (by repeat (first | (with_reducible first | exact HB.out | apply below_alloc | apply pw_below_drewN | apply below_drew1 | refine below_set ?_ GE338.out | refine below_set ?_ GE339.out | refine below_set ?_ GE342.out) | exact HB.out)) hb); (try clear hb); (try clear ho0)))
    go_loopg [13, 14] k1 (fun kq v13 v14 w' => ∃ (x13_2 : List Int) (x14_2 : Int), v14 = .int .i64 x14_2 ∧ Aside0 (triglyphref05_By.l1 kq l0 a2 t340 x10_1 t346 x13_2 x14_2 l1_0 l1_1 x343000_1 x343001_1 = some (r1, r2)) ∧ Aside0 (kq ≤ k1) ∧ Aside0 (Kd.R (Kd.int .i64) 3 w' w.heap.size (fun k_ => (w.heap.size ≤ k_) ∧ some k_ ≠ (v13 : Value).ownBlock ∧ some k_ ≠ (u343000 : Value).ownBlock) v348 t346) ∧ Aside0 (Kd.R (Kd.int .i64) 3 w' w.heap.size (fun k_ => (w.heap.size ≤ k_) ∧ some k_ ≠ (v348 : Value).ownBlock ∧ some k_ ≠ (u343000 : Value).ownBlock) v13 x13_2) ∧ Aside0 (Kd.V k43 43 w' w.heap.size (fun k_ => (P1_1_ k_ ∨ w.heap.size ≤ k_) ∧ some k_ ≠ (v348 : Value).ownBlock ∧ some k_ ≠ (v13 : Value).ownBlock ∧ some k_ ≠ (u343000 : Value).ownBlock ∧ some k_ ≠ (u343001 : Value).ownBlock ∧ k_ ≠ gb338 ∧ k_ ≠ gb339 ∧ k_ ≠ gb342) (.slice A1_1 l1_1.length c1_1) l1_1) ∧ Aside0 (Kd.R (Kd.int .i64) 3 w' w.heap.size (fun k_ => (w.heap.size ≤ k_) ∧ some k_ ≠ (v348 : Value).ownBlock ∧ some k_ ≠ (v13 : Value).ownBlock) u343000 x343000_1) ∧ Aside0 (Kd.N k43 43 w' w.heap.size (fun k_ => (P1_1_ k_ ∨ w.heap.size ≤ k_) ∧ some k_ ≠ (v348 : Value).ownBlock ∧ some k_ ≠ (v13 : Value).ownBlock ∧ some k_ ≠ (u343000 : Value).ownBlock ∧ k_ ≠ gb338 ∧ k_ ≠ gb339 ∧ k_ ≠ gb342) u343001 x343001_1) ∧ Aside0 (w'.heap[gb338]? = some (.cells #[(.slice A1_0 l1_0.length c1_0), (.slice A1_1 l1_1.length c1_1)] 25 (0, 0))) ∧ Aside0 (w'.heap[gb339]? = some (.cells #[(.slice none 0 0), (.slice none 0 0)] 25 (0, 0))) ∧ Aside0 (w'.heap[gb342]? = some (.cells #[u343000, u343001] 25 (0, 0))) ∧ Aside0 (Below w.heap.size w w'))
    case atStart => exact ⟨(([] : List Int)), (0), (by first | rfl | (simp; done) | (simp [*]; done)), H', ⟨Nat.le_refl _⟩, ⟨by (with_reducible repeat (first | apply Kd.R_alloc | apply Kd.R_drewN | apply Kd.R_drew)); exact Kd.R_mono HO349.out (fun _ hk => ⟨hk.1.1, ⟨(by simp [Value.ownBlock]), hk.2⟩⟩)⟩, ⟨by first | exact Kd.R_nil _ _ _ _ _ | exact Kd.N_nil _ _ _ _ _ | exact Kd.V_nil _ _ _ _ _ | exact Kd.Q_nil _ _ _ _ _ | exact Kd.S_nil _ _ _ _ _⟩, ⟨by (with_reducible repeat (first | apply Kd.V_alloc | apply Kd.V_drewN | apply Kd.V_drew)); exact Kd.V_mono HO_339001.out (fun _ hk => ⟨hk.1.1, ⟨hk.2, ⟨(by simp [Value.ownBlock]), ⟨hk.1.2.1, ⟨hk.1.2.2.1, ⟨hk.1.2.2.2.1, ⟨hk.1.2.2.2.2.1, hk.1.2.2.2.2.2⟩⟩⟩⟩⟩⟩⟩)⟩, ⟨by (with_reducible repeat (first | apply Kd.R_alloc | apply Kd.R_drewN | apply Kd.R_drew)); exact Kd.R_mono HO_343000.out (fun _ hk => ⟨hk.1, ⟨hk.2, (by simp [Value.ownBlock])⟩⟩)⟩, ⟨by (with_reducible repeat (first | apply Kd.N_alloc | apply Kd.N_drewN | apply Kd.N_drew)); exact Kd.N_mono HO_343001.out (fun _ hk => ⟨hk.1.1, ⟨hk.2, ⟨(by simp [Value.ownBlock]), ⟨hk.1.2.1, ⟨hk.1.2.2.1, ⟨hk.1.2.2.2.1, hk.1.2.2.2.2⟩⟩⟩⟩⟩⟩)⟩, ⟨by (with_reducible repeat (first | refine blk_drewN ?_ _ | refine blk_drew ?_ | refine blk_alloc ?_ _)); exact BK338.out⟩, ⟨by (with_reducible repeat (first | refine blk_drewN ?_ _ | refine blk_drew ?_ | refine blk_alloc ?_ _)); exact BK339.out⟩, ⟨by (with_reducible repeat (first | refine blk_drewN ?_ _ | refine blk_drew ?_ | refine blk_alloc ?_ _)); exact BK342.out⟩, ⟨by repeat (first | (with_reducible first | exact HB.out | apply below_alloc | apply pw_below_drewN | apply below_drew1 | refine below_set ?_ GE338.out | refine below_set ?_ GE339.out | refine below_set ?_ GE342.out) | exact HB.out)⟩⟩
    case round =>
     clear H'
     try clear c1
     try clear c2
     try clear p2
     try clear c3
     try clear c5
     try clear c9
     try clear c10
     try clear c15
     try clear c15b0
     try clear hcz11_0
     try clear hcz11_1
     try clear hcz14_0
     try clear hcz14_1
     try clear hfz11_0
     try clear hfz11_1
     try clear hfz14_0
     try clear hfz14_1
     try clear p2
     obtain ⟨x13_2, x14_2, rfl, HA, HK2, HO_11, HO_13, HO_339001, HO_343000, HO_343001, BK338, BK339, BK342, HB⟩ := hrel
     cases gk with
     | zero => exact absurd HA.out (by simp [triglyphref05_By.l1])
     | succ k2 =>
      have H := HA.out; clear HA
      simp only [triglyphref05_By.l1] at H
      by_cases c18 : x14_2 < (t346.length : Int)
      ·rw [if_pos c18] at H
       have c18b0 := decide_eq_true c18
       clear c18
       obtain ⟨c19, H⟩ := iS H
       have c19b0 := decide_eq_true c19
       clear c19
       obtain ⟨c20, H⟩ := iS H
       have LMc20 := gA c20
       clear c20
       obtain ⟨y351, hy351⟩ : ∃ y_ : List Int, y_ = (x13_2 ++ [rd t346 x14_2]) := ⟨_, rfl⟩
       replace H : (triglyphref05_By.l1 k2 l0 a2 t340 x10_1 t346 y351 (wrap64 (x14_2 + 1)) l1_0 l1_1 x343000_1 x343001_1) = some (r1, r2) := by first | (rw [hy351]; with_reducible exact H) | (have H2_ := (Option.bind_some _ _).symm.trans H; rw [hy351]; with_reducible exact H2_) | (have H2_ := (Option.bind_some _ _).symm.trans H; with_reducible exact H2_) | with_reducible exact H | (rw [hy351]; exact H) | exact H
       have Ny351 := gA hy351
       clear hy351
       have H' := gA H
       clear H
       obtain ⟨Ao21, co21, eo21⟩ := Kd.R_slice HO_11.out
       subst eo21
       have p350 : 0 ≤ (x14_2 : Int) := of_decide_eq_true (by first | (with_reducible assumption) | assumption)
       have q350 : x14_2 < (t346.length : Int) := of_decide_eq_true (by first | (with_reducible assumption) | assumption)
       obtain ⟨ad350, e350, hx350_0⟩ := Kd.at_int (Kd.R_reads' HO_11.out).2.2 x14_2 p350 q350
       cases e350
       replace p350 := eq_true p350
       replace q350 := eq_true q350
       go_wp2_with (first | ((with_reducible refine gate_builtin (b := .append) (xs := #[.tmp 47, .tmp 52]) rfl ?_); at_builtin; refine Kd.R_append (Kd.int .i64) (w0 := w) w.heap.size rfl (.tmp 47) (.tmp 52) 22 3 (.int .i64 0) 8 rfl Try.underlying22 info3 rfl (by decide) (by omega) u13 x13_2 (rd t346 x14_2) [.int .i64 (rd t346 x14_2)] (fun k_ => (w.heap.size ≤ k_) ∧ some k_ ≠ (.slice (some ad350) t346.length co21 : Value).ownBlock ∧ some k_ ≠ (u343000 : Value).ownBlock) (fun _ => False) rfl rfl ?aP (fun _ hk => hk.elim) ?aF ?aO ?aB ?aS ?aL ?_; (case aP => exact rfl); (case aB => exact (by repeat (first | (with_reducible first | exact HB.out | apply below_alloc | apply pw_below_drewN | apply below_drew1 | refine below_set ?_ GE338.out | refine below_set ?_ GE339.out | refine below_set ?_ GE342.out) | exact HB.out))); (case aF => exact (fun k_ hk => ⟨(Nat.le_trans (below_size (by repeat (first | (with_reducible first | exact HB.out | apply below_alloc | apply pw_below_drewN | apply below_drew1 | refine below_set ?_ GE338.out | refine below_set ?_ GE339.out | refine below_set ?_ GE342.out) | exact HB.out))) hk), Kd.fresh' (Kd.R_lt (by (with_reducible repeat (first | apply Kd.R_alloc | apply Kd.R_drewN | apply Kd.R_drew)); exact HO_11.out)) k_ hk, Kd.fresh' (Kd.R_lt (by (with_reducible repeat (first | apply Kd.R_alloc | apply Kd.R_drewN | apply Kd.R_drew)); exact HO_343000.out)) k_ hk⟩)); (case aO => exact (by (with_reducible repeat (first | apply Kd.R_alloc | apply Kd.R_drewN | apply Kd.R_drew)); exact HO_13.out)); (case aS => exact (below_size (by repeat (first | (with_reducible first | exact HB.out | apply below_alloc | apply pw_below_drewN | apply below_drew1 | refine below_set ?_ GE338.out | refine below_set ?_ GE339.out | refine below_set ?_ GE342.out) | exact HB.out)))); (case aL => have := LMc20.out; omega); intro v352 w22 ho hb hg hat; rw [← Ny351.out] at ho; replace HO_11 := gA (Kd.R_after (ok := (fun k_ => (w.heap.size ≤ k_) ∧ some k_ ≠ (u343000 : Value).ownBlock)) (by (with_reducible repeat (first | apply Kd.R_alloc | apply Kd.R_drewN | apply Kd.R_drew)); exact Kd.R_mono HO_11.out (fun _ hk => ⟨⟨hk.1, hk.2.2⟩, hk.2.1⟩)) hg hat); replace HO_339001 := gA (Kd.V_afterv (ok := (fun k_ => (P1_1_ k_ ∨ w.heap.size ≤ k_) ∧ some k_ ≠ (.slice (some ad350) t346.length co21 : Value).ownBlock ∧ some k_ ≠ (u343000 : Value).ownBlock ∧ some k_ ≠ (u343001 : Value).ownBlock ∧ k_ ≠ gb338 ∧ k_ ≠ gb339 ∧ k_ ≠ gb342)) (by (with_reducible repeat (first | apply Kd.V_alloc | apply Kd.V_drewN | apply Kd.V_drew)); exact Kd.V_mono HO_339001.out (fun _ hk => ⟨⟨hk.1, ⟨hk.2.1, ⟨hk.2.2.2.1, ⟨hk.2.2.2.2.1, ⟨hk.2.2.2.2.2.1, ⟨hk.2.2.2.2.2.2.1, hk.2.2.2.2.2.2.2⟩⟩⟩⟩⟩⟩, hk.2.2.1⟩)) hg hat); replace HO_343000 := gA (Kd.R_after (ok := (fun k_ => (w.heap.size ≤ k_) ∧ some k_ ≠ (.slice (some ad350) t346.length co21 : Value).ownBlock)) (by (with_reducible repeat (first | apply Kd.R_alloc | apply Kd.R_drewN | apply Kd.R_drew)); exact Kd.R_mono HO_343000.out (fun _ hk => ⟨⟨hk.1, hk.2.1⟩, hk.2.2⟩)) hg hat); replace HO_343001 := gA (Kd.N_afterv (ok := (fun k_ => (P1_1_ k_ ∨ w.heap.size ≤ k_) ∧ some k_ ≠ (.slice (some ad350) t346.length co21 : Value).ownBlock ∧ some k_ ≠ (u343000 : Value).ownBlock ∧ k_ ≠ gb338 ∧ k_ ≠ gb339 ∧ k_ ≠ gb342)) (by (with_reducible repeat (first | apply Kd.N_alloc | apply Kd.N_drewN | apply Kd.N_drew)); exact Kd.N_mono HO_343001.out (fun _ hk => ⟨⟨hk.1, ⟨hk.2.1, ⟨hk.2.2.2.1, ⟨hk.2.2.2.2.1, ⟨hk.2.2.2.2.2.1, hk.2.2.2.2.2.2⟩⟩⟩⟩⟩, hk.2.2.1⟩)) hg hat); replace BK338 := gA (blk_grown (g := gb338) (o := .cells #[.slice A1_0 l1_0.length c1_0, .slice A1_1 l1_1.length c1_1] 25 (0, 0)) (by (with_reducible repeat (first | refine blk_drewN ?_ _ | refine blk_drew ?_ | refine blk_alloc ?_ _)); exact BK338.out) hg (Kd.R_ne HO_13.out BK338.out (by decide))); replace BK339 := gA (blk_grown (g := gb339) (o := .cells #[.slice none 0 0, .slice none 0 0] 25 (0, 0)) (by (with_reducible repeat (first | refine blk_drewN ?_ _ | refine blk_drew ?_ | refine blk_alloc ?_ _)); exact BK339.out) hg (Kd.R_ne HO_13.out BK339.out (by decide))); replace BK342 := gA (blk_grown (g := gb342) (o := .cells #[u343000, u343001] 25 (0, 0)) (by (with_reducible repeat (first | refine blk_drewN ?_ _ | refine blk_drew ?_ | refine blk_alloc ?_ _)); exact BK342.out) hg (Kd.R_ne HO_13.out BK342.out (by decide))); replace HB := gA (hb); have HO353 := gA (ho); clear HO_13 ho hb hg hat))
       go_roundg k2
       case measure => have := HK1.out; have := HK2.out; omega
       case rel => exact ⟨(y351), (wrap64 (x14_2 + 1)), (by first | rfl | (simp; done) | (simp [*]; done)), H', ⟨by have := HK1.out; have := HK2.out; omega⟩, ⟨by (with_reducible repeat (first | apply Kd.R_alloc | apply Kd.R_drewN | apply Kd.R_drew)); exact Kd.R_mono HO_11.out (fun _ hk => ⟨hk.1.1, ⟨hk.2, hk.1.2⟩⟩)⟩, ⟨by (with_reducible repeat (first | apply Kd.R_alloc | apply Kd.R_drewN | apply Kd.R_drew)); exact HO353.out⟩, ⟨by (with_reducible repeat (first | apply Kd.V_alloc | apply Kd.V_drewN | apply Kd.V_drew)); exact Kd.V_mono HO_339001.out (fun _ hk => ⟨hk.1.1, ⟨hk.1.2.1, ⟨hk.2, ⟨hk.1.2.2.1, ⟨hk.1.2.2.2.1, ⟨hk.1.2.2.2.2.1, ⟨hk.1.2.2.2.2.2.1, hk.1.2.2.2.2.2.2⟩⟩⟩⟩⟩⟩⟩)⟩, ⟨by (with_reducible repeat (first | apply Kd.R_alloc | apply Kd.R_drewN | apply Kd.R_drew)); exact Kd.R_mono HO_343000.out (fun _ hk => ⟨hk.1.1, ⟨hk.1.2, hk.2⟩⟩)⟩, ⟨by (with_reducible repeat (first | apply Kd.N_alloc | apply Kd.N_drewN | apply Kd.N_drew)); exact Kd.N_mono HO_343001.out (fun _ hk => ⟨hk.1.1, ⟨hk.1.2.1, ⟨hk.2, ⟨hk.1.2.2.1, ⟨hk.1.2.2.2.1, ⟨hk.1.2.2.2.2.1, hk.1.2.2.2.2.2⟩⟩⟩⟩⟩⟩)⟩, ⟨by (with_reducible repeat (first | refine blk_drewN ?_ _ | refine blk_drew ?_ | refine blk_alloc ?_ _)); exact BK338.out⟩, ⟨by (with_reducible repeat (first | refine blk_drewN ?_ _ | refine blk_drew ?_ | refine blk_alloc ?_ _)); exact BK339.out⟩, ⟨by (with_reducible repeat (first | refine blk_drewN ?_ _ | refine blk_drew ?_ | refine blk_alloc ?_ _)); exact BK342.out⟩, ⟨by repeat (first | (with_reducible first | exact HB.out | apply below_alloc | apply pw_below_drewN | apply below_drew1 | refine below_set ?_ GE338.out | refine below_set ?_ GE339.out | refine below_set ?_ GE342.out) | exact HB.out)⟩⟩
      ·rw [if_neg c18] at H
       have c18b0 := decide_eq_false c18
       clear c18
       have HC23 := gA H
       clear H
       obtain ⟨Ao24, co24, eo24⟩ := Kd.R_slice HO_11.out
       subst eo24
       obtain ⟨Ao25, co25, eo25⟩ := Kd.R_slice HO_13.out
       subst eo25
       go_upto_region 14 with (fail)
       go_cut [62] (fun v62 wc => ∃ (kq : Nat) (x62_22 : Bool), v62 = .bool x62_22 ∧ Aside0 (triglyphref05_By.j2 kq l0 a2 t340 x10_1 t346 x13_2 (wrap64 ((x13_2.length : Int) - 1)) x62_22 l1_0 l1_1 x343000_1 x343001_1 = some (r1, r2)) ∧ Aside0 (kq ≤ k2) ∧ Aside0 (Kd.R (Kd.int .i64) 3 wc w.heap.size (fun k_ => (w.heap.size ≤ k_) ∧ some k_ ≠ ((.slice Ao25 x13_2.length co25) : Value).ownBlock ∧ some k_ ≠ (u343000 : Value).ownBlock) (.slice Ao24 t346.length co24) t346) ∧ Aside0 (Kd.R (Kd.int .i64) 3 wc w.heap.size (fun k_ => (w.heap.size ≤ k_) ∧ some k_ ≠ ((.slice Ao24 t346.length co24) : Value).ownBlock ∧ some k_ ≠ (u343000 : Value).ownBlock) (.slice Ao25 x13_2.length co25) x13_2) ∧ Aside0 (Kd.V k43 43 wc w.heap.size (fun k_ => (P1_1_ k_ ∨ w.heap.size ≤ k_) ∧ some k_ ≠ ((.slice Ao24 t346.length co24) : Value).ownBlock ∧ some k_ ≠ ((.slice Ao25 x13_2.length co25) : Value).ownBlock ∧ some k_ ≠ (u343000 : Value).ownBlock ∧ some k_ ≠ (u343001 : Value).ownBlock ∧ k_ ≠ gb338 ∧ k_ ≠ gb339 ∧ k_ ≠ gb342) (.slice A1_1 l1_1.length c1_1) l1_1) ∧ Aside0 (Kd.R (Kd.int .i64) 3 wc w.heap.size (fun k_ => (w.heap.size ≤ k_) ∧ some k_ ≠ ((.slice Ao24 t346.length co24) : Value).ownBlock ∧ some k_ ≠ ((.slice Ao25 x13_2.length co25) : Value).ownBlock) u343000 x343000_1) ∧ Aside0 (Kd.N k43 43 wc w.heap.size (fun k_ => (P1_1_ k_ ∨ w.heap.size ≤ k_) ∧ some k_ ≠ ((.slice Ao24 t346.length co24) : Value).ownBlock ∧ some k_ ≠ ((.slice Ao25 x13_2.length co25) : Value).ownBlock ∧ some k_ ≠ (u343000 : Value).ownBlock ∧ k_ ≠ gb338 ∧ k_ ≠ gb339 ∧ k_ ≠ gb342) u343001 x343001_1) ∧ Aside0 (wc.heap[gb338]? = some (.cells #[(.slice A1_0 l1_0.length c1_0), (.slice A1_1 l1_1.length c1_1)] 25 (0, 0))) ∧ Aside0 (wc.heap[gb339]? = some (.cells #[(.slice none 0 0), (.slice none 0 0)] 25 (0, 0))) ∧ Aside0 (wc.heap[gb342]? = some (.cells #[u343000, u343001] 25 (0, 0))) ∧ Aside0 (Below w.heap.size w wc))
       case first =>
        have H := HC23.out; clear HC23
        by_cases c26 : a2 = 0
        ·rw [if_pos c26] at H
         have c26b0 : (a2 == 0) = true := beq_iff_eq.mpr c26
         have c26b1 : (a2 != 0) = false := bne_eq_false_iff_eq.mpr c26
         clear c26
         (first | rw [c26b0] | rw [c26b1] | (simp only [i64_w, i32_w]; rw [c26b0]) | skip)
         have H' := gA H
         clear H
         go_wp2
         all_goals (go_meet; (case rel => exact ⟨_, (decide ((wrap64 ((x13_2.length : Int) - 1)) ≥ 0)), (by first | rfl | (simp; done) | (simp [*]; done) | (exfalso; simp_all; done) | (exfalso; simp_all; omega)), H', ⟨by have := HK1.out; have := HK2.out; first | omega | exact Nat.le_refl _⟩, ⟨by (with_reducible repeat (first | apply Kd.R_alloc | apply Kd.R_drewN | apply Kd.R_drew)); exact HO_11.out⟩, ⟨by (with_reducible repeat (first | apply Kd.R_alloc | apply Kd.R_drewN | apply Kd.R_drew)); exact HO_13.out⟩, ⟨by (with_reducible repeat (first | apply Kd.V_alloc | apply Kd.V_drewN | apply Kd.V_drew)); exact HO_339001.out⟩, ⟨by (with_reducible repeat (first | apply Kd.R_alloc | apply Kd.R_drewN | apply Kd.R_drew)); exact HO_343000.out⟩, ⟨by (with_reducible repeat (first | apply Kd.N_alloc | apply Kd.N_drewN | apply Kd.N_drew)); exact HO_343001.out⟩, ⟨by (with_reducible repeat (first | refine blk_drewN ?_ _ | refine blk_drew ?_ | refine blk_alloc ?_ _)); exact BK338.out⟩, ⟨by (with_reducible repeat (first | refine blk_drewN ?_ _ | refine blk_drew ?_ | refine blk_alloc ?_ _)); exact BK339.out⟩, ⟨by (with_reducible repeat (first | refine blk_drewN ?_ _ | refine blk_drew ?_ | refine blk_alloc ?_ _)); exact BK342.out⟩, ⟨by repeat (first | (with_reducible first | exact HB.out | apply below_alloc | apply pw_below_drewN | apply below_drew1 | refine below_set ?_ GE338.out | refine below_set ?_ GE339.out | refine below_set ?_ GE342.out) | exact HB.out)⟩⟩))
        ·rw [if_neg c26] at H
         have c26b0 : (a2 == 0) = false := beq_eq_false_iff_ne.mpr c26
         have c26b1 : (a2 != 0) = true := bne_iff_ne.mpr c26
         (first | rw [c26b0] | rw [c26b1] | (simp only [i64_w, i32_w]; rw [c26b0]) | skip)
         have H' := gA H
         clear H
         go_wp2
         all_goals (go_meet; (case rel => exact ⟨_, (false), (by first | rfl | (simp; done) | (simp [*]; done) | (exfalso; simp_all; done) | (exfalso; simp_all; omega)), H', ⟨by have := HK1.out; have := HK2.out; first | omega | exact Nat.le_refl _⟩, ⟨by (with_reducible repeat (first | apply Kd.R_alloc | apply Kd.R_drewN | apply Kd.R_drew)); exact HO_11.out⟩, ⟨by (with_reducible repeat (first | apply Kd.R_alloc | apply Kd.R_drewN | apply Kd.R_drew)); exact HO_13.out⟩, ⟨by (with_reducible repeat (first | apply Kd.V_alloc | apply Kd.V_drewN | apply Kd.V_drew)); exact HO_339001.out⟩, ⟨by (with_reducible repeat (first | apply Kd.R_alloc | apply Kd.R_drewN | apply Kd.R_drew)); exact HO_343000.out⟩, ⟨by (with_reducible repeat (first | apply Kd.N_alloc | apply Kd.N_drewN | apply Kd.N_drew)); exact HO_343001.out⟩, ⟨by (with_reducible repeat (first | refine blk_drewN ?_ _ | refine blk_drew ?_ | refine blk_alloc ?_ _)); exact BK338.out⟩, ⟨by (with_reducible repeat (first | refine blk_drewN ?_ _ | refine blk_drew ?_ | refine blk_alloc ?_ _)); exact BK339.out⟩, ⟨by (with_reducible repeat (first | refine blk_drewN ?_ _ | refine blk_drew ?_ | refine blk_alloc ?_ _)); exact BK342.out⟩, ⟨by repeat (first | (with_reducible first | exact HB.out | apply below_alloc | apply pw_below_drewN | apply below_drew1 | refine below_set ?_ GE338.out | refine below_set ?_ GE339.out | refine below_set ?_ GE342.out) | exact HB.out)⟩⟩))
       case rest =>
        clear HC23
        try clear c1
        try clear c2
        try clear p2
        try clear c3
        try clear p3
        try clear q3
        try clear hx3
        try clear c5
        try clear p6
        try clear c9
        try clear c10
        try clear c15
        try clear c15b0
        try clear c18
        try clear c18b0
        try clear c19
        try clear c19b0
        try clear c20
        try clear c22
        try clear c26
        try clear c26b0
        try clear c26b1
        try clear hcz11_0
        try clear hcz11_1
        try clear hcz14_0
        try clear hcz14_1
        try clear hfz11_0
        try clear hfz11_1
        try clear hfz14_0
        try clear hfz14_1
        try clear hx350_0
        try clear p2
        try clear p350
        try clear q350
        obtain ⟨kq, x62_22, rfl, HA, HJ22, HO_11, HO_13, HO_339001, HO_343000, HO_343001, BK338, BK339, BK342, HB⟩ := hcut
        cases kq with
        | zero => exact absurd HA.out (by simp [triglyphref05_By.j2])
        | succ kj22 =>
         have H := HA.out; clear HA
         simp only [triglyphref05_By.j2] at H
         have HC27 := gA H
         clear H
         go_upto_if 62 with (fail)
         go_cut [] (fun wc => ∃ (kq : Nat) (x13_26 : List Int), Aside0 (triglyphref05_By.j3 kq l0 a2 t340 x10_1 t346 x13_26 (wrap64 ((x13_2.length : Int) - 1)) l1_0 l1_1 x343000_1 x343001_1 = some (r1, r2)) ∧ Aside0 (kq ≤ kj22) ∧ Aside0 (Kd.R (Kd.int .i64) 3 wc w.heap.size (fun k_ => (w.heap.size ≤ k_) ∧ some k_ ≠ ((.slice Ao25 x13_2.length co25) : Value).ownBlock ∧ some k_ ≠ (u343000 : Value).ownBlock) (.slice Ao24 t346.length co24) t346) ∧ Aside0 (Kd.R (Kd.int .i64) 3 wc w.heap.size (fun k_ => (w.heap.size ≤ k_) ∧ some k_ ≠ ((.slice Ao24 t346.length co24) : Value).ownBlock ∧ some k_ ≠ (u343000 : Value).ownBlock) (.slice Ao25 x13_2.length co25) x13_26) ∧ Aside0 (Kd.V k43 43 wc w.heap.size (fun k_ => (P1_1_ k_ ∨ w.heap.size ≤ k_) ∧ some k_ ≠ ((.slice Ao24 t346.length co24) : Value).ownBlock ∧ some k_ ≠ ((.slice Ao25 x13_2.length co25) : Value).ownBlock ∧ some k_ ≠ (u343000 : Value).ownBlock ∧ some k_ ≠ (u343001 : Value).ownBlock ∧ k_ ≠ gb338 ∧ k_ ≠ gb339 ∧ k_ ≠ gb342) (.slice A1_1 l1_1.length c1_1) l1_1) ∧ Aside0 (Kd.R (Kd.int .i64) 3 wc w.heap.size (fun k_ => (w.heap.size ≤ k_) ∧ some k_ ≠ ((.slice Ao24 t346.length co24) : Value).ownBlock ∧ some k_ ≠ ((.slice Ao25 x13_2.length co25) : Value).ownBlock) u343000 x343000_1) ∧ Aside0 (Kd.N k43 43 wc w.heap.size (fun k_ => (P1_1_ k_ ∨ w.heap.size ≤ k_) ∧ some k_ ≠ ((.slice Ao24 t346.length co24) : Value).ownBlock ∧ some k_ ≠ ((.slice Ao25 x13_2.length co25) : Value).ownBlock ∧ some k_ ≠ (u343000 : Value).ownBlock ∧ k_ ≠ gb338 ∧ k_ ≠ gb339 ∧ k_ ≠ gb342) u343001 x343001_1) ∧ Aside0 (wc.heap[gb338]? = some (.cells #[(.slice A1_0 l1_0.length c1_0), (.slice A1_1 l1_1.length c1_1)] 25 (0, 0))) ∧ Aside0 (wc.heap[gb339]? = some (.cells #[(.slice none 0 0), (.slice none 0 0)] 25 (0, 0))) ∧ Aside0 (wc.heap[gb342]? = some (.cells #[u343000, u343001] 25 (0, 0))) ∧ Aside0 (Below w.heap.size w wc))
         case first =>
          have H := HC27.out; clear HC27
          by_cases c28 : x62_22 = true
          ·subst c28
           have H1 : (if 0 < (l0.length : Int) then (if 0 < (t346.length : Int) then (if 0 < (x13_2.length : Int) then (triglyphref05_By.j3 kj22 l0 a2 t340 x10_1 t346 (x13_2.set (0 : Int).toNat (wrap64 ((wrap64 ((rd l0 0) - 1)) - (rd t346 0)))) (wrap64 ((x13_2.length : Int) - 1)) l1_0 l1_1 x343000_1 x343001_1) else (none)) else (none)) else (none)) = some (r1, r2) := by rw [if_pos rfl] at H; exact H
           clear H; have H := H1; clear H1
           obtain ⟨c29, H⟩ := iS H
           have c29b0 := decide_eq_true c29
           have c29b1 : decide (0 < l0.length) = true := decide_eq_true (by omega)
           clear c29
           (first | rw [c29b0] | rw [c29b1] | (simp only [i64_w, i32_w]; rw [c29b0]) | skip)
           obtain ⟨c30, H⟩ := iS H
           have c30b0 := decide_eq_true c30
           have c30b1 : decide (0 < t346.length) = true := decide_eq_true (by omega)
           clear c30
           obtain ⟨c31, H⟩ := iS H
           have c31b0 := decide_eq_true c31
           have c31b1 : decide (0 < x13_2.length) = true := decide_eq_true (by omega)
           clear c31
           obtain ⟨y356, hy356⟩ : ∃ y_ : List Int, y_ = (x13_2.set (0 : Int).toNat (wrap64 ((wrap64 ((rd l0 0) - 1)) - (rd t346 0)))) := ⟨_, rfl⟩
           replace H : (triglyphref05_By.j3 kj22 l0 a2 t340 x10_1 t346 y356 (wrap64 ((x13_2.length : Int) - 1)) l1_0 l1_1 x343000_1 x343001_1) = some (r1, r2) := by first | (rw [hy356]; with_reducible exact H) | (have H2_ := (Option.bind_some _ _).symm.trans H; rw [hy356]; with_reducible exact H2_) | (have H2_ := (Option.bind_some _ _).symm.trans H; with_reducible exact H2_) | with_reducible exact H | (rw [hy356]; exact H) | exact H
           have Ny356 := gA hy356
           clear hy356
           have H' := gA H
           clear H
           try go_wp2
           replace HO_11 := gA (Kd.R_drew HO_11.out); replace HO_13 := gA (Kd.R_drew HO_13.out); replace HO_339001 := gA (Kd.V_drew HO_339001.out); replace HO_343000 := gA (Kd.R_drew HO_343000.out); replace HO_343001 := gA (Kd.N_drew HO_343001.out); replace BK338 := gA (blk_drew BK338.out); replace BK339 := gA (blk_drew BK339.out); replace BK342 := gA (blk_drew BK342.out); replace HB := gA (below_drew1 HB.out)
           have p354 : 0 ≤ (0 : Int) := (by omega)
           have q354 : 0 < (l0.length : Int) := of_decide_eq_true (by first | (with_reducible assumption) | assumption)
           obtain ⟨ad354, e354, hx354_0⟩ := Kd.at_int HR0.out 0 p354 q354
           have hw354_0 := hx354_0
           (try rw [show ((0 : Int)).toNat = 0 from rfl] at hw354_0)
           (try rw [show 0 * 1 = 0 from rfl] at hw354_0)
           (try rw [Addr.add_zero'] at hw354_0)
           cases e354
           have qi354 : (0 < l0.length) = True := eq_true (by omega)
           (try rw [show ((0 : Int)).toNat = 0 from rfl] at hx354_0)
           (try rw [Addr.add_zero'] at hx354_0)
           replace hx354_0 := (HB.out.cell (World.block_lt_of_cell? w _ hx354_0)).trans hx354_0
           replace p354 := eq_true p354
           replace q354 := eq_true q354
           have p355 : 0 ≤ (0 : Int) := (by omega)
           have q355 : 0 < (t346.length : Int) := of_decide_eq_true (by first | (with_reducible assumption) | assumption)
           obtain ⟨ad355, e355, hx355_0⟩ := Kd.at_int (Kd.R_reads' HO_11.out).2.2 0 p355 q355
           cases e355
           have qi355 : (0 < t346.length) = True := eq_true (by omega)
           (try rw [show ((0 : Int)).toNat = 0 from rfl] at hx355_0)
           (try rw [Addr.add_zero'] at hx355_0)
           replace p355 := eq_true p355
           replace q355 := eq_true q355
           have p32 : 0 ≤ (0 : Int) := (by omega)
           have q32 : (0 : Int) < ((x13_2.length : Int) : Int) := of_decide_eq_true (by first | (with_reducible assumption) | assumption)
           have qi32 : (0 < x13_2.length) = True := eq_true (by omega)
           obtain ⟨go32, co32, eo32, gb32, gl32, cl32, HG32⟩ := Kd.R_form HO_13.out (by omega)
           (first | cases eo32 | (injection eo32 with ea_ en_ ec_; (first | subst ea_ | (injection ea_ with ea_; subst ea_)); subst ec_; clear en_))
           have GB32 := gA gb32
           have GG32 := gA HG32
           clear gb32 gl32 HG32
           obtain ⟨hx32_0, hf32_0⟩ := Kd.R_celln 0 HO_13.out (0 : Int) p32 q32
           (try rw [show ((0 : Int)).toNat = 0 from rfl] at hx32_0)
           (try simp only [Nat.reduceMul, Nat.zero_mul, Nat.zero_add, Nat.reduceAdd] at hx32_0)
           (try rw [show ((0 : Int)).toNat = 0 from rfl] at hf32_0)
           (try simp only [Nat.reduceMul, Nat.zero_mul, Nat.zero_add, Nat.reduceAdd] at hf32_0)
           replace p32 := eq_true p32
           replace q32 := eq_true q32
           have HP34 := Kd.R_putn HO_13.out (0 : Int) (wrap64 ((wrap64 ((rd l0 0) - 1)) - (rd t346 0)))
           rw [← Ny356.out] at HP34
           have HQ34 := gA HP34
           clear HP34
           refine start_ (n := 11) (S := fun w' => w'.cell? ad354 = some (.int .i64 (rd l0 0)) ∧ w'.cell? ad355 = some (.int .i64 (rd t346 0))) (ds := [10]) #[false, false, false, false, false, false, false, false, false, false, false] (by kernel_rfl) rfl rfl ⟨((HB.out.cell (World.block_lt_of_cell? w _ hw354_0)).trans hw354_0), hx355_0⟩ (fun hHeld => ?_); refine with_tabW triglyphref05_By.tab15 triglyphref05_By.bits15 (fun HT_ HW_ => ?_)
           generalize wc.drew = w33 at HO_11 HO_13 HO_339001 HO_343000 HO_343001 BK338 BK339 BK342 HB GG32 HQ34 hf32_0 hx32_0 hx354_0 hx355_0 hHeld ⊢
           refine pure_ (i := 0) (N := some 63) (v := ?_) (a' := ?_) #[true, false, false, false, false, false, false, false, false, false, false] rfl rfl (any_of HT_.out (by kernel_rfl)) (fun _ _ _ h => h) (Or.inl ⟨by rfl, ?_⟩) ?_ ?_; rotate_left
           ·intro w'; go_simp; with_reducible rfl
           rotate_left
           ·simp only [Act.put, List.setIfInBounds_toArray, List.set_cons_zero, List.set_cons_succ, i64_w, i32_w]; rfl
           refine pure_ (i := 1) (N := some 64) (v := ?_) (a' := ?_) #[true, true, false, false, false, false, false, false, false, false, false] rfl rfl (any_of HT_.out (by kernel_rfl)) (fun _ _ _ h => h) (Or.inl ⟨by rfl, ?_⟩) ?_ ?_; rotate_left
           ·intro w'; go_simp; with_reducible rfl
           rotate_left
           ·simp only [Act.put, List.setIfInBounds_toArray, List.set_cons_zero, List.set_cons_succ, i64_w, i32_w]; rfl
           refine pure_ (i := 2) (N := some 65) (v := ?_) (a' := ?_) #[true, true, true, false, false, false, false, false, false, false, false] rfl rfl (any_of HT_.out (by kernel_rfl)) (fun _ _ _ h => h) (Or.inl ⟨by rfl, ?_⟩) ?_ ?_; rotate_left
           ·intro w'; go_simp; with_reducible rfl
           rotate_left
           ·simp only [Act.put, List.setIfInBounds_toArray, List.set_cons_zero, List.set_cons_succ, i64_w, i32_w]; rfl
           refine pure_ (i := 5) (N := some 68) (v := ?_) (a' := ?_) #[true, true, true, false, false, true, false, false, false, false, false] rfl rfl (any_of HT_.out (by kernel_rfl)) (fun _ _ _ h => h) (Or.inl ⟨by rfl, ?_⟩) ?_ ?_; rotate_left
           ·intro w'; go_simp; with_reducible rfl
           rotate_left
           ·simp only [Act.put, List.setIfInBounds_toArray, List.set_cons_zero, List.set_cons_succ, i64_w, i32_w]; rfl
           refine pure_ (i := 6) (N := some 69) (v := ?_) (a' := ?_) #[true, true, true, false, false, true, true, false, false, false, false] rfl rfl (any_of HT_.out (by kernel_rfl)) (fun _ _ _ h => h) (Or.inl ⟨by rfl, ?_⟩) ?_ ?_; rotate_left
           ·intro w'; go_simp; with_reducible rfl
           rotate_left
           ·simp only [Act.put, List.setIfInBounds_toArray, List.set_cons_zero, List.set_cons_succ, i64_w, i32_w]; rfl
           refine take_ (i := 3) (N := some 66) (v := ?_) (a' := ?_) #[true, true, true, true, false, true, true, false, false, false, false] rfl rfl (take_ofW HT_.out HW_.out (by kernel_rfl)) (fun _ _ _ h => h) (Or.inl ⟨by rfl, ?_⟩) hHeld ?_ ?_; rotate_left
           ·rintro w' ⟨s0, s1⟩; go_simp; with_reducible rfl
           rotate_left
           ·simp only [Act.put, List.setIfInBounds_toArray, List.set_cons_zero, List.set_cons_succ, i64_w, i32_w]; rfl
           refine pure_ (i := 4) (N := some 67) (v := ?_) (a' := ?_) #[true, true, true, true, true, true, true, false, false, false, false] rfl rfl (any_of HT_.out (by kernel_rfl)) (fun _ _ _ h => h) (Or.inl ⟨by rfl, ?_⟩) ?_ ?_; rotate_left
           ·intro w'; go_simp; with_reducible rfl
           rotate_left
           ·simp only [Act.put, List.setIfInBounds_toArray, List.set_cons_zero, List.set_cons_succ, i64_w, i32_w]; rfl
           refine take_ (i := 7) (N := some 70) (v := ?_) (a' := ?_) #[true, true, true, true, true, true, true, true, false, false, false] rfl rfl (take_ofW HT_.out HW_.out (by kernel_rfl)) (fun _ _ _ h => h) (Or.inl ⟨by rfl, ?_⟩) hHeld ?_ ?_; rotate_left
           ·rintro w' ⟨s0, s1⟩; go_simp; with_reducible rfl
           rotate_left
           ·simp only [Act.put, List.setIfInBounds_toArray, List.set_cons_zero, List.set_cons_succ, i64_w, i32_w]; rfl
           refine pure_ (i := 8) (N := some 71) (v := ?_) (a' := ?_) #[true, true, true, true, true, true, true, true, true, false, false] rfl rfl (any_of HT_.out (by kernel_rfl)) (fun _ _ _ h => h) (Or.inl ⟨by rfl, ?_⟩) ?_ ?_; rotate_left
           ·intro w'; go_simp; with_reducible rfl
           rotate_left
           ·simp only [Act.put, List.setIfInBounds_toArray, List.set_cons_zero, List.set_cons_succ, i64_w, i32_w]; rfl
           refine pure_ (i := 9) (N := some 72) (v := ?_) (a' := ?_) #[true, true, true, true, true, true, true, true, true, true, false] rfl rfl (any_of HT_.out (by kernel_rfl)) (fun _ _ _ h => h) (Or.inl ⟨by rfl, ?_⟩) ?_ ?_; rotate_left
           ·intro w'; go_simp; with_reducible rfl
           rotate_left
           ·simp only [Act.put, List.setIfInBounds_toArray, List.set_cons_zero, List.set_cons_succ, i64_w, i32_w]; rfl
           refine last_ (i := 10) (N := none) #[true, true, true, true, true, true, true, true, true, true, true] rfl rfl (one_of HT_.out (by kernel_rfl)) (by decide) (fun K hK => ?_)
           refine skip_ (w1 := ?_) (by rfl) rfl ?_ ?_; rotate_left
           ·go_simp; rfl
           refine hK.out _ _ ?_; clear hK K
           refine done_ (done_of HT_.out (by kernel_rfl)) ?_
           try go_wp2
           all_goals (go_meet; (case rel => exact ⟨_, (y356), H', ⟨by have := HK1.out; have := HK2.out; have := HJ22.out; first | omega | exact Nat.le_refl _⟩, ⟨by (with_reducible repeat (first | apply Kd.R_alloc | apply Kd.R_drewN | apply Kd.R_drew)); exact Kd.R_mono (Kd.R_far (p := ⟨go32, 0, none⟩) (Kd.R_mono HO_11.out (fun k_ hk => (⟨hk, fun e_ => hk.2.1 (by rw [e_]; rfl)⟩ : _ ∧ k_ ≠ go32))) (fun _ hk => hk.2) (.int .i64 (wrap64 ((wrap64 ((rd l0 0) - 1)) - (rd t346 0))))) (fun _ hk => ⟨hk.1.1, ⟨hk.1.2.1, hk.1.2.2⟩⟩)⟩, ⟨by (with_reducible repeat (first | apply Kd.R_alloc | apply Kd.R_drewN | apply Kd.R_drew)); exact HQ34.out⟩, ⟨by (with_reducible repeat (first | apply Kd.V_alloc | apply Kd.V_drewN | apply Kd.V_drew)); exact Kd.V_mono (Kd.V_far (p := ⟨go32, 0, none⟩) (Kd.V_mono HO_339001.out (fun k_ hk => (⟨hk, fun e_ => hk.2.2.1 (by rw [e_]; rfl)⟩ : _ ∧ k_ ≠ go32))) (fun _ hk => hk.2) (.int .i64 (wrap64 ((wrap64 ((rd l0 0) - 1)) - (rd t346 0))))) (fun _ hk => ⟨hk.1.1, ⟨hk.1.2.1, ⟨hk.1.2.2.1, ⟨hk.1.2.2.2.1, ⟨hk.1.2.2.2.2.1, ⟨hk.1.2.2.2.2.2.1, ⟨hk.1.2.2.2.2.2.2.1, hk.1.2.2.2.2.2.2.2⟩⟩⟩⟩⟩⟩⟩)⟩, ⟨by (with_reducible repeat (first | apply Kd.R_alloc | apply Kd.R_drewN | apply Kd.R_drew)); exact Kd.R_mono (Kd.R_far (p := ⟨go32, 0, none⟩) (Kd.R_mono HO_343000.out (fun k_ hk => (⟨hk, fun e_ => hk.2.2 (by rw [e_]; rfl)⟩ : _ ∧ k_ ≠ go32))) (fun _ hk => hk.2) (.int .i64 (wrap64 ((wrap64 ((rd l0 0) - 1)) - (rd t346 0))))) (fun _ hk => ⟨hk.1.1, ⟨hk.1.2.1, hk.1.2.2⟩⟩)⟩, ⟨by (with_reducible repeat (first | apply Kd.N_alloc | apply Kd.N_drewN | apply Kd.N_drew)); exact Kd.N_mono (Kd.N_far (p := ⟨go32, 0, none⟩) (Kd.N_mono HO_343001.out (fun k_ hk => (⟨hk, fun e_ => hk.2.2.1 (by rw [e_]; rfl)⟩ : _ ∧ k_ ≠ go32))) (fun _ hk => hk.2) (.int .i64 (wrap64 ((wrap64 ((rd l0 0) - 1)) - (rd t346 0))))) (fun _ hk => ⟨hk.1.1, ⟨hk.1.2.1, ⟨hk.1.2.2.1, ⟨hk.1.2.2.2.1, ⟨hk.1.2.2.2.2.1, ⟨hk.1.2.2.2.2.2.1, hk.1.2.2.2.2.2.2⟩⟩⟩⟩⟩⟩)⟩, ⟨by (with_reducible repeat (first | refine blk_drewN ?_ _ | refine blk_drew ?_ | refine blk_alloc ?_ _)); refine blk_far ?_ (by have h_ := Kd.R_ne HO_13.out BK338.out (by decide); intro e_; exact h_ (by rw [e_]; rfl)) _; (with_reducible repeat (first | refine blk_drewN ?_ _ | refine blk_drew ?_ | refine blk_alloc ?_ _)); exact BK338.out⟩, ⟨by (with_reducible repeat (first | refine blk_drewN ?_ _ | refine blk_drew ?_ | refine blk_alloc ?_ _)); refine blk_far ?_ (by have h_ := Kd.R_ne HO_13.out BK339.out (by decide); intro e_; exact h_ (by rw [e_]; rfl)) _; (with_reducible repeat (first | refine blk_drewN ?_ _ | refine blk_drew ?_ | refine blk_alloc ?_ _)); exact BK339.out⟩, ⟨by (with_reducible repeat (first | refine blk_drewN ?_ _ | refine blk_drew ?_ | refine blk_alloc ?_ _)); refine blk_far ?_ (by have h_ := Kd.R_ne HO_13.out BK342.out (by decide); intro e_; exact h_ (by rw [e_]; rfl)) _; (with_reducible repeat (first | refine blk_drewN ?_ _ | refine blk_drew ?_ | refine blk_alloc ?_ _)); exact BK342.out⟩, ⟨by repeat (first | (with_reducible first | exact HB.out | apply below_alloc | apply pw_below_drewN | apply below_drew1 | refine below_set ?_ GB32.out | refine below_set ?_ GE338.out | refine below_set ?_ GE339.out | refine below_set ?_ GE342.out) | exact HB.out)⟩⟩))
          ·replace c28 := Bool.eq_false_iff.mpr c28
           subst c28
           have H1 : (triglyphref05_By.j3 kj22 l0 a2 t340 x10_1 t346 x13_2 (wrap64 ((x13_2.length : Int) - 1)) l1_0 l1_1 x343000_1 x343001_1) = some (r1, r2) := by rw [if_neg (show ¬ (false = true) by decide)] at H; exact H
           clear H; have H := H1; clear H1
           have H' := gA H
           clear H
           go_wp2
           all_goals (go_meet; (case rel => exact ⟨_, (x13_2), H', ⟨by have := HK1.out; have := HK2.out; have := HJ22.out; first | omega | exact Nat.le_refl _⟩, ⟨by (with_reducible repeat (first | apply Kd.R_alloc | apply Kd.R_drewN | apply Kd.R_drew)); exact HO_11.out⟩, ⟨by (with_reducible repeat (first | apply Kd.R_alloc | apply Kd.R_drewN | apply Kd.R_drew)); exact HO_13.out⟩, ⟨by (with_reducible repeat (first | apply Kd.V_alloc | apply Kd.V_drewN | apply Kd.V_drew)); exact HO_339001.out⟩, ⟨by (with_reducible repeat (first | apply Kd.R_alloc | apply Kd.R_drewN | apply Kd.R_drew)); exact HO_343000.out⟩, ⟨by (with_reducible repeat (first | apply Kd.N_alloc | apply Kd.N_drewN | apply Kd.N_drew)); exact HO_343001.out⟩, ⟨by (with_reducible repeat (first | refine blk_drewN ?_ _ | refine blk_drew ?_ | refine blk_alloc ?_ _)); exact BK338.out⟩, ⟨by (with_reducible repeat (first | refine blk_drewN ?_ _ | refine blk_drew ?_ | refine blk_alloc ?_ _)); exact BK339.out⟩, ⟨by (with_reducible repeat (first | refine blk_drewN ?_ _ | refine blk_drew ?_ | refine blk_alloc ?_ _)); exact BK342.out⟩, ⟨by repeat (first | (with_reducible first | exact HB.out | apply below_alloc | apply pw_below_drewN | apply below_drew1 | refine below_set ?_ GE338.out | refine below_set ?_ GE339.out | refine below_set ?_ GE342.out) | exact HB.out)⟩⟩))
         case rest =>
          clear HC27
          try clear c1
          try clear c2
          try clear p2
          try clear c3
          try clear p3
          try clear q3
          try clear hx3
          try clear qi3
          try clear hf3
          try clear c5
          try clear p6
          try clear c9
          try clear c10
          try clear c15
          try clear c15b0
          try clear c18
          try clear c18b0
          try clear c19
          try clear c19b0
          try clear c20
          try clear c22
          try clear c26
          try clear c26b0
          try clear c26b1
          try clear c28
          try clear c29
          try clear c29b0
          try clear c29b1
          try clear c30
          try clear c30b0
          try clear c30b1
          try clear c31
          try clear c31b0
          try clear c31b1
          try clear p32
          try clear q32
          try clear hx32
          try clear qi32
          try clear hf32
          try clear hcz11_0
          try clear hcz11_1
          try clear hcz14_0
          try clear hcz14_1
          try clear hfz11_0
          try clear hfz11_1
          try clear hfz14_0
          try clear hfz14_1
          try clear hx32_0
          try clear hx350_0
          try clear hx354_0
          try clear hx355_0
          try clear p2
          try clear p3
          try clear p32
          try clear p350
          try clear p354
          try clear p355
          try clear p6
          try clear q3
          try clear q32
          try clear q350
          try clear q354
          try clear q355
          obtain ⟨kq, x13_26, HA, HJ26, HO_11, HO_13, HO_339001, HO_343000, HO_343001, BK338, BK339, BK342, HB⟩ := hcut
          have hl13_26 := (Kd.R_reads' HO_13.out).1
          rw [hl13_26] at HO_13
          (try simp only [hl13_26])
          (try simp only [hl13_26] at BK338)
          (try simp only [hl13_26] at BK339)
          (try simp only [hl13_26] at BK342)
          (try simp only [hl13_26] at HO_11)
          (try simp only [hl13_26] at HO_339001)
          (try simp only [hl13_26] at HO_343000)
          (try simp only [hl13_26] at HO_343001)
          cases kq with
          | zero => exact absurd HA.out (by simp [triglyphref05_By.j3])
          | succ kj26 =>
           have H := HA.out; clear HA
           simp only [triglyphref05_By.j3] at H
           have HC35 := gA H
           clear H
           go_upto_region 16 with (fail)
           go_cut [78] (fun v78 wc => ∃ (kq : Nat) (x78_34 : Bool), v78 = .bool x78_34 ∧ Aside0 (triglyphref05_By.j4 kq l0 a2 t340 x10_1 t346 x13_26 (wrap64 ((x13_2.length : Int) - 1)) x78_34 l1_0 l1_1 x343000_1 x343001_1 = some (r1, r2)) ∧ Aside0 (kq ≤ kj26) ∧ Aside0 (Kd.R (Kd.int .i64) 3 wc w.heap.size (fun k_ => (w.heap.size ≤ k_) ∧ some k_ ≠ ((.slice Ao25 x13_26.length co25) : Value).ownBlock ∧ some k_ ≠ (u343000 : Value).ownBlock) (.slice Ao24 t346.length co24) t346) ∧ Aside0 (Kd.R (Kd.int .i64) 3 wc w.heap.size (fun k_ => (w.heap.size ≤ k_) ∧ some k_ ≠ ((.slice Ao24 t346.length co24) : Value).ownBlock ∧ some k_ ≠ (u343000 : Value).ownBlock) (.slice Ao25 x13_26.length co25) x13_26) ∧ Aside0 (Kd.V k43 43 wc w.heap.size (fun k_ => (P1_1_ k_ ∨ w.heap.size ≤ k_) ∧ some k_ ≠ ((.slice Ao24 t346.length co24) : Value).ownBlock ∧ some k_ ≠ ((.slice Ao25 x13_26.length co25) : Value).ownBlock ∧ some k_ ≠ (u343000 : Value).ownBlock ∧ some k_ ≠ (u343001 : Value).ownBlock ∧ k_ ≠ gb338 ∧ k_ ≠ gb339 ∧ k_ ≠ gb342) (.slice A1_1 l1_1.length c1_1) l1_1) ∧ Aside0 (Kd.R (Kd.int .i64) 3 wc w.heap.size (fun k_ => (w.heap.size ≤ k_) ∧ some k_ ≠ ((.slice Ao24 t346.length co24) : Value).ownBlock ∧ some k_ ≠ ((.slice Ao25 x13_26.length co25) : Value).ownBlock) u343000 x343000_1) ∧ Aside0 (Kd.N k43 43 wc w.heap.size (fun k_ => (P1_1_ k_ ∨ w.heap.size ≤ k_) ∧ some k_ ≠ ((.slice Ao24 t346.length co24) : Value).ownBlock ∧ some k_ ≠ ((.slice Ao25 x13_26.length co25) : Value).ownBlock ∧ some k_ ≠ (u343000 : Value).ownBlock ∧ k_ ≠ gb338 ∧ k_ ≠ gb339 ∧ k_ ≠ gb342) u343001 x343001_1) ∧ Aside0 (wc.heap[gb338]? = some (.cells #[(.slice A1_0 l1_0.length c1_0), (.slice A1_1 l1_1.length c1_1)] 25 (0, 0))) ∧ Aside0 (wc.heap[gb339]? = some (.cells #[(.slice none 0 0), (.slice none 0 0)] 25 (0, 0))) ∧ Aside0 (wc.heap[gb342]? = some (.cells #[u343000, u343001] 25 (0, 0))) ∧ Aside0 (Below w.heap.size w wc))
           case first =>
            have H := HC35.out; clear HC35
            by_cases c36 : a2 = 1
            ·rw [if_pos c36] at H
             have c36b0 : (a2 == 1) = true := beq_iff_eq.mpr c36
             have c36b1 : (a2 != 1) = false := bne_eq_false_iff_eq.mpr c36
             clear c36
             (first | rw [c36b0] | rw [c36b1] | (simp only [i64_w, i32_w]; rw [c36b0]) | skip)
             have H' := gA H
             clear H
             go_wp2
             all_goals (go_meet; (case rel => exact ⟨_, (decide ((wrap64 ((x13_2.length : Int) - 1)) ≥ 0)), (by first | rfl | (simp; done) | (simp [*]; done) | (exfalso; simp_all; done) | (exfalso; simp_all; omega)), H', ⟨by have := HK1.out; have := HK2.out; have := HJ22.out; have := HJ26.out; first | omega | exact Nat.le_refl _⟩, ⟨by (try simp only [hl13_26]); (with_reducible repeat (first | apply Kd.R_alloc | apply Kd.R_drewN | apply Kd.R_drew)); exact HO_11.out⟩, ⟨by (try simp only [hl13_26]); (with_reducible repeat (first | apply Kd.R_alloc | apply Kd.R_drewN | apply Kd.R_drew)); exact HO_13.out⟩, ⟨by (try simp only [hl13_26]); (with_reducible repeat (first | apply Kd.V_alloc | apply Kd.V_drewN | apply Kd.V_drew)); exact HO_339001.out⟩, ⟨by (try simp only [hl13_26]); (with_reducible repeat (first | apply Kd.R_alloc | apply Kd.R_drewN | apply Kd.R_drew)); exact HO_343000.out⟩, ⟨by (try simp only [hl13_26]); (with_reducible repeat (first | apply Kd.N_alloc | apply Kd.N_drewN | apply Kd.N_drew)); exact HO_343001.out⟩, ⟨by (try simp only [hl13_26]); (with_reducible repeat (first | refine blk_drewN ?_ _ | refine blk_drew ?_ | refine blk_alloc ?_ _)); exact BK338.out⟩, ⟨by (try simp only [hl13_26]); (with_reducible repeat (first | refine blk_drewN ?_ _ | refine blk_drew ?_ | refine blk_alloc ?_ _)); exact BK339.out⟩, ⟨by (try simp only [hl13_26]); (with_reducible repeat (first | refine blk_drewN ?_ _ | refine blk_drew ?_ | refine blk_alloc ?_ _)); exact BK342.out⟩, ⟨by repeat (first | (with_reducible first | exact HB.out | apply below_alloc | apply pw_below_drewN | apply below_drew1 | refine below_set ?_ GE338.out | refine below_set ?_ GE339.out | refine below_set ?_ GE342.out) | exact HB.out)⟩⟩))
            ·rw [if_neg c36] at H
             have c36b0 : (a2 == 1) = false := beq_eq_false_iff_ne.mpr c36
             have c36b1 : (a2 != 1) = true := bne_iff_ne.mpr c36
             (first | rw [c36b0] | rw [c36b1] | (simp only [i64_w, i32_w]; rw [c36b0]) | skip)
             have H' := gA H
             clear H
             go_wp2
             all_goals (go_meet; (case rel => exact ⟨_, (false), (by first | rfl | (simp; done) | (simp [*]; done) | (exfalso; simp_all; done) | (exfalso; simp_all; omega)), H', ⟨by have := HK1.out; have := HK2.out; have := HJ22.out; have := HJ26.out; first | omega | exact Nat.le_refl _⟩, ⟨by (try simp only [hl13_26]); (with_reducible repeat (first | apply Kd.R_alloc | apply Kd.R_drewN | apply Kd.R_drew)); exact HO_11.out⟩, ⟨by (try simp only [hl13_26]); (with_reducible repeat (first | apply Kd.R_alloc | apply Kd.R_drewN | apply Kd.R_drew)); exact HO_13.out⟩, ⟨by (try simp only [hl13_26]); (with_reducible repeat (first | apply Kd.V_alloc | apply Kd.V_drewN | apply Kd.V_drew)); exact HO_339001.out⟩, ⟨by (try simp only [hl13_26]); (with_reducible repeat (first | apply Kd.R_alloc | apply Kd.R_drewN | apply Kd.R_drew)); exact HO_343000.out⟩, ⟨by (try simp only [hl13_26]); (with_reducible repeat (first | apply Kd.N_alloc | apply Kd.N_drewN | apply Kd.N_drew)); exact HO_343001.out⟩, ⟨by (try simp only [hl13_26]); (with_reducible repeat (first | refine blk_drewN ?_ _ | refine blk_drew ?_ | refine blk_alloc ?_ _)); exact BK338.out⟩, ⟨by (try simp only [hl13_26]); (with_reducible repeat (first | refine blk_drewN ?_ _ | refine blk_drew ?_ | refine blk_alloc ?_ _)); exact BK339.out⟩, ⟨by (try simp only [hl13_26]); (with_reducible repeat (first | refine blk_drewN ?_ _ | refine blk_drew ?_ | refine blk_alloc ?_ _)); exact BK342.out⟩, ⟨by repeat (first | (with_reducible first | exact HB.out | apply below_alloc | apply pw_below_drewN | apply below_drew1 | refine below_set ?_ GE338.out | refine below_set ?_ GE339.out | refine below_set ?_ GE342.out) | exact HB.out)⟩⟩))
           case rest =>
            clear HC35
            try clear c1
            try clear c2
            try clear p2
            try clear c3
            try clear p3
            try clear q3
            try clear hx3
            try clear qi3
            try clear hf3
            try clear c5
            try clear p6
            try clear c9
            try clear c10
            try clear c15
            try clear c15b0
            try clear c18
            try clear c18b0
            try clear c19
            try clear c19b0
            try clear c20
            try clear c22
            try clear c26
            try clear c26b0
            try clear c26b1
            try clear c28
            try clear c29
            try clear c29b0
            try clear c29b1
            try clear c30
            try clear c30b0
            try clear c30b1
            try clear c31
            try clear c31b0
            try clear c31b1
            try clear p32
            try clear q32
            try clear hx32
            try clear qi32
            try clear hf32
            try clear p35
            try clear q35
            try clear hx35
            try clear qi35
            try clear c36
            try clear c36b0
            try clear c36b1
            try clear hcz11_0
            try clear hcz11_1
            try clear hcz14_0
            try clear hcz14_1
            try clear hfz11_0
            try clear hfz11_1
            try clear hfz14_0
            try clear hfz14_1
            try clear hx32_0
            try clear hx350_0
            try clear hx354_0
            try clear hx355_0
            try clear p2
            try clear p3
            try clear p32
            try clear p350
            try clear p354
            try clear p355
            try clear p6
            try clear q3
            try clear q32
            try clear q350
            try clear q354
            try clear q355
            obtain ⟨kq, x78_34, rfl, HA, HJ34, HO_11, HO_13, HO_339001, HO_343000, HO_343001, BK338, BK339, BK342, HB⟩ := hcut
            cases kq with
            | zero => exact absurd HA.out (by simp [triglyphref05_By.j4])
            | succ kj34 =>
             have H := HA.out; clear HA
             simp only [triglyphref05_By.j4] at H
             have HC37 := gA H
             clear H
             go_upto_if 78 with (fail)
             go_cut [] (fun wc => ∃ (kq : Nat) (x13_36 : List Int), Aside0 (triglyphref05_By.j5 kq l0 a2 t340 x10_1 x13_36 l1_0 l1_1 x343000_1 x343001_1 = some (r1, r2)) ∧ Aside0 (kq ≤ kj34) ∧ Aside0 (Kd.R (Kd.int .i64) 3 wc w.heap.size (fun k_ => (w.heap.size ≤ k_) ∧ some k_ ≠ (u343000 : Value).ownBlock) (.slice Ao25 x13_26.length co25) x13_36) ∧ Aside0 (Kd.V k43 43 wc w.heap.size (fun k_ => (P1_1_ k_ ∨ w.heap.size ≤ k_) ∧ some k_ ≠ ((.slice Ao25 x13_26.length co25) : Value).ownBlock ∧ some k_ ≠ (u343000 : Value).ownBlock ∧ some k_ ≠ (u343001 : Value).ownBlock ∧ k_ ≠ gb338 ∧ k_ ≠ gb339 ∧ k_ ≠ gb342) (.slice A1_1 l1_1.length c1_1) l1_1) ∧ Aside0 (Kd.R (Kd.int .i64) 3 wc w.heap.size (fun k_ => (w.heap.size ≤ k_) ∧ some k_ ≠ ((.slice Ao25 x13_26.length co25) : Value).ownBlock) u343000 x343000_1) ∧ Aside0 (Kd.N k43 43 wc w.heap.size (fun k_ => (P1_1_ k_ ∨ w.heap.size ≤ k_) ∧ some k_ ≠ ((.slice Ao25 x13_26.length co25) : Value).ownBlock ∧ some k_ ≠ (u343000 : Value).ownBlock ∧ k_ ≠ gb338 ∧ k_ ≠ gb339 ∧ k_ ≠ gb342) u343001 x343001_1) ∧ Aside0 (wc.heap[gb338]? = some (.cells #[(.slice A1_0 l1_0.length c1_0), (.slice A1_1 l1_1.length c1_1)] 25 (0, 0))) ∧ Aside0 (wc.heap[gb339]? = some (.cells #[(.slice none 0 0), (.slice none 0 0)] 25 (0, 0))) ∧ Aside0 (wc.heap[gb342]? = some (.cells #[u343000, u343001] 25 (0, 0))) ∧ Aside0 (Below w.heap.size w wc))
             case first =>
              have H := HC37.out; clear HC37
              by_cases c38 : x78_34 = true
              ·subst c38
               have H1 : (if 0 ≤ (wrap64 ((x13_2.length : Int) - 1)) then (if (wrap64 ((x13_2.length : Int) - 1)) < (l0.length : Int) then (if (wrap64 ((x13_2.length : Int) - 1)) < (t346.length : Int) then (if (wrap64 ((x13_2.length : Int) - 1)) < (x13_26.length : Int) then (triglyphref05_By.j5 kj34 l0 a2 t340 x10_1 (x13_26.set ((wrap64 ((x13_2.length : Int) - 1)) : Int).toNat (wrap64 ((wrap64 ((rd l0 (wrap64 ((x13_2.length : Int) - 1))) - 1)) - (rd t346 (wrap64 ((x13_2.length : Int) - 1)))))) l1_0 l1_1 x343000_1 x343001_1) else (none)) else (none)) else (none)) else (none)) = some (r1, r2) := by rw [if_pos rfl] at H; exact H
               clear H; have H := H1; clear H1
               obtain ⟨ji39, hji39⟩ : ∃ j_ : Int, (wrap64 ((x13_2.length : Int) - 1)) = j_ := ⟨_, rfl⟩
               replace H : (if 0 ≤ (ji39) then (if (ji39) < (l0.length : Int) then (if (ji39) < (t346.length : Int) then (if (ji39) < (x13_26.length : Int) then (triglyphref05_By.j5 kj34 l0 a2 t340 x10_1 (x13_26.set ((ji39) : Int).toNat (wrap64 ((wrap64 ((rd l0 (ji39)) - 1)) - (rd t346 (ji39))))) l1_0 l1_1 x343000_1 x343001_1) else (none)) else (none)) else (none)) else (none)) = some (r1, r2) := by first | (rw [hji39] at H; exact H) | (simp only [hji39] at H ⊢; exact H)
               have hji39w : (IntKind.i64.wrap ((x13_2.length : Int) - 1)) = ji39 := (i64_w _).trans hji39
               rw [hl13_26] at hji39 hji39w
               obtain ⟨c40, H⟩ := iS H
               have c40b0 := decide_eq_true c40
               clear c40
               (first | rw [c40b0] | (simp only [i64_w, i32_w]; rw [c40b0]) | skip)
               obtain ⟨c41, H⟩ := iS H
               have c41b0 := decide_eq_true c41
               clear c41
               obtain ⟨c42, H⟩ := iS H
               have c42b0 := decide_eq_true c42
               clear c42
               obtain ⟨c43, H⟩ := iS H
               have c43b0 := decide_eq_true c43
               clear c43
               obtain ⟨y359, hy359⟩ : ∃ y_ : List Int, y_ = (x13_26.set ((ji39) : Int).toNat (wrap64 ((wrap64 ((rd l0 (ji39)) - 1)) - (rd t346 (ji39))))) := ⟨_, rfl⟩
               replace H : (triglyphref05_By.j5 kj34 l0 a2 t340 x10_1 y359 l1_0 l1_1 x343000_1 x343001_1) = some (r1, r2) := by first | (rw [hy359]; with_reducible exact H) | (have H2_ := (Option.bind_some _ _).symm.trans H; rw [hy359]; with_reducible exact H2_) | (have H2_ := (Option.bind_some _ _).symm.trans H; with_reducible exact H2_) | with_reducible exact H | (rw [hy359]; exact H) | exact H
               have Ny359 := gA hy359
               clear hy359
               have H' := gA H
               clear H
               try go_wp2
               replace HO_11 := gA (Kd.R_drew HO_11.out); replace HO_13 := gA (Kd.R_drew HO_13.out); replace HO_339001 := gA (Kd.V_drew HO_339001.out); replace HO_343000 := gA (Kd.R_drew HO_343000.out); replace HO_343001 := gA (Kd.N_drew HO_343001.out); replace BK338 := gA (blk_drew BK338.out); replace BK339 := gA (blk_drew BK339.out); replace BK342 := gA (blk_drew BK342.out); replace HB := gA (below_drew1 HB.out)
               have p357 : 0 ≤ ((ji39) : Int) := of_decide_eq_true (by first | (with_reducible assumption) | assumption)
               have q357 : (ji39) < (l0.length : Int) := of_decide_eq_true (by first | (with_reducible assumption) | assumption)
               obtain ⟨ad357, e357, hx357_0⟩ := Kd.at_int HR0.out (ji39) p357 q357
               have hw357_0 := hx357_0
               cases e357
               replace hx357_0 := (HB.out.cell (World.block_lt_of_cell? w _ hx357_0)).trans hx357_0
               replace p357 := eq_true p357
               replace q357 := eq_true q357
               have p358 : 0 ≤ ((ji39) : Int) := of_decide_eq_true (by first | (with_reducible assumption) | assumption)
               have q358 : (ji39) < (t346.length : Int) := of_decide_eq_true (by first | (with_reducible assumption) | assumption)
               obtain ⟨ad358, e358, hx358_0⟩ := Kd.at_int (Kd.R_reads' HO_11.out).2.2 (ji39) p358 q358
               cases e358
               replace p358 := eq_true p358
               replace q358 := eq_true q358
               have p44 : 0 ≤ ((ji39) : Int) := of_decide_eq_true (by first | (with_reducible assumption) | assumption)
               have q44 : ((ji39) : Int) < ((x13_26.length : Int) : Int) := of_decide_eq_true (by first | (with_reducible assumption) | assumption)
               obtain ⟨go44, co44, eo44, gb44, gl44, cl44, HG44⟩ := Kd.R_form HO_13.out (by omega)
               (first | cases eo44 | (injection eo44 with ea_ en_ ec_; (first | subst ea_ | (injection ea_ with ea_; subst ea_)); subst ec_; clear en_))
               have GB44 := gA gb44
               have GG44 := gA HG44
               clear gb44 gl44 HG44
               obtain ⟨hx44_0, hf44_0⟩ := Kd.R_celln 0 HO_13.out ((ji39) : Int) p44 q44
               replace p44 := eq_true p44
               replace q44 := eq_true q44
               have HP46 := Kd.R_putn HO_13.out ((ji39) : Int) (wrap64 ((wrap64 ((rd l0 (ji39)) - 1)) - (rd t346 (ji39))))
               rw [← Ny359.out] at HP46
               have HQ46 := gA HP46
               clear HP46
               refine start_ (n := 14) (S := fun w' => w'.cell? (ad357.add ((ji39)).toNat) = some (.int .i64 (rd l0 (ji39))) ∧ w'.cell? (ad358.add ((ji39)).toNat) = some (.int .i64 (rd t346 (ji39)))) (ds := [13]) #[false, false, false, false, false, false, false, false, false, false, false, false, false, false] (by kernel_rfl) rfl rfl ⟨((HB.out.cell (World.block_lt_of_cell? w _ hw357_0)).trans hw357_0), hx358_0⟩ (fun hHeld => ?_); refine with_tabW triglyphref05_By.tab17 triglyphref05_By.bits17 (fun HT_ HW_ => ?_)
               generalize wc.drew = w45 at HO_11 HO_13 HO_339001 HO_343000 HO_343001 BK338 BK339 BK342 HB GG44 HQ46 hf44_0 hx357_0 hx358_0 hx44_0 hHeld ⊢
               refine pure_ (i := 0) (N := some 79) (v := ?_) (a' := ?_) #[true, false, false, false, false, false, false, false, false, false, false, false, false, false] rfl rfl (any_of HT_.out (by kernel_rfl)) (fun _ _ _ h => h) (Or.inl ⟨by rfl, ?_⟩) ?_ ?_; rotate_left
               ·intro w'; go_simp; with_reducible rfl
               rotate_left
               ·simp only [Act.put, List.setIfInBounds_toArray, List.set_cons_zero, List.set_cons_succ, i64_w, i32_w]; rfl
               refine pure_ (i := 1) (N := some 80) (v := ?_) (a' := ?_) #[true, true, false, false, false, false, false, false, false, false, false, false, false, false] rfl rfl (any_of HT_.out (by kernel_rfl)) (fun _ _ _ h => h) (Or.inl ⟨by rfl, ?_⟩) ?_ ?_; rotate_left
               ·intro w'; go_simp; with_reducible rfl
               rotate_left
               ·simp only [Act.put, List.setIfInBounds_toArray, List.set_cons_zero, List.set_cons_succ, i64_w, i32_w]; rfl
               refine pure_ (i := 2) (N := some 81) (v := ?_) (a' := ?_) #[true, true, true, false, false, false, false, false, false, false, false, false, false, false] rfl rfl (any_of HT_.out (by kernel_rfl)) (fun _ _ _ h => h) (Or.inl ⟨by rfl, ?_⟩) ?_ ?_; rotate_left
               ·intro w'; go_simp; with_reducible rfl
               rotate_left
               ·simp only [Act.put, List.setIfInBounds_toArray, List.set_cons_zero, List.set_cons_succ, i64_w, i32_w]; rfl
               refine pure_ (i := 3) (N := some 82) (v := ?_) (a' := ?_) #[true, true, true, true, false, false, false, false, false, false, false, false, false, false] rfl rfl (any_of HT_.out (by kernel_rfl)) (fun _ _ _ h => h) (Or.inl ⟨by rfl, ?_⟩) ?_ ?_; rotate_left
               ·intro w'; go_simp; with_reducible rfl
               rotate_left
               ·simp only [Act.put, List.setIfInBounds_toArray, List.set_cons_zero, List.set_cons_succ, i64_w, i32_w]; rfl
               refine pure_ (i := 4) (N := some 83) (v := ?_) (a' := ?_) #[true, true, true, true, true, false, false, false, false, false, false, false, false, false] rfl rfl (any_of HT_.out (by kernel_rfl)) (fun _ _ _ h => h) (Or.inl ⟨by rfl, ?_⟩) ?_ ?_; rotate_left
               ·intro w'; go_simp; with_reducible rfl
               rotate_left
               ·simp only [Act.put, List.setIfInBounds_toArray, List.set_cons_zero, List.set_cons_succ, i64_w, i32_w]; rfl
               refine pure_ (i := 7) (N := some 86) (v := ?_) (a' := ?_) #[true, true, true, true, true, false, false, true, false, false, false, false, false, false] rfl rfl (any_of HT_.out (by kernel_rfl)) (fun _ _ _ h => h) (Or.inl ⟨by rfl, ?_⟩) ?_ ?_; rotate_left
               ·intro w'; go_simp; with_reducible rfl
               rotate_left
               ·simp only [Act.put, List.setIfInBounds_toArray, List.set_cons_zero, List.set_cons_succ, i64_w, i32_w]; rfl
               refine pure_ (i := 8) (N := some 87) (v := ?_) (a' := ?_) #[true, true, true, true, true, false, false, true, true, false, false, false, false, false] rfl rfl (any_of HT_.out (by kernel_rfl)) (fun _ _ _ h => h) (Or.inl ⟨by rfl, ?_⟩) ?_ ?_; rotate_left
               ·intro w'; go_simp; with_reducible rfl
               rotate_left
               ·simp only [Act.put, List.setIfInBounds_toArray, List.set_cons_zero, List.set_cons_succ, i64_w, i32_w]; rfl
               refine pure_ (i := 9) (N := some 88) (v := ?_) (a' := ?_) #[true, true, true, true, true, false, false, true, true, true, false, false, false, false] rfl rfl (any_of HT_.out (by kernel_rfl)) (fun _ _ _ h => h) (Or.inl ⟨by rfl, ?_⟩) ?_ ?_; rotate_left
               ·intro w'; go_simp; with_reducible rfl
               rotate_left
               ·simp only [Act.put, List.setIfInBounds_toArray, List.set_cons_zero, List.set_cons_succ, i64_w, i32_w]; rfl
               refine take_ (i := 5) (N := some 84) (v := ?_) (a' := ?_) #[true, true, true, true, true, true, false, true, true, true, false, false, false, false] rfl rfl (take_ofW HT_.out HW_.out (by kernel_rfl)) (fun _ _ _ h => h) (Or.inl ⟨by rfl, ?_⟩) hHeld ?_ ?_; rotate_left
               ·rintro w' ⟨s0, s1⟩; go_simp; with_reducible rfl
               rotate_left
               ·simp only [Act.put, List.setIfInBounds_toArray, List.set_cons_zero, List.set_cons_succ, i64_w, i32_w]; rfl
               refine pure_ (i := 6) (N := some 85) (v := ?_) (a' := ?_) #[true, true, true, true, true, true, true, true, true, true, false, false, false, false] rfl rfl (any_of HT_.out (by kernel_rfl)) (fun _ _ _ h => h) (Or.inl ⟨by rfl, ?_⟩) ?_ ?_; rotate_left
               ·intro w'; go_simp; with_reducible rfl
               rotate_left
               ·simp only [Act.put, List.setIfInBounds_toArray, List.set_cons_zero, List.set_cons_succ, i64_w, i32_w]; rfl
               refine take_ (i := 10) (N := some 89) (v := ?_) (a' := ?_) #[true, true, true, true, true, true, true, true, true, true, true, false, false, false] rfl rfl (take_ofW HT_.out HW_.out (by kernel_rfl)) (fun _ _ _ h => h) (Or.inl ⟨by rfl, ?_⟩) hHeld ?_ ?_; rotate_left
               ·rintro w' ⟨s0, s1⟩; go_simp; with_reducible rfl
               rotate_left
               ·simp only [Act.put, List.setIfInBounds_toArray, List.set_cons_zero, List.set_cons_succ, i64_w, i32_w]; rfl
               refine pure_ (i := 11) (N := some 90) (v := ?_) (a' := ?_) #[true, true, true, true, true, true, true, true, true, true, true, true, false, false] rfl rfl (any_of HT_.out (by kernel_rfl)) (fun _ _ _ h => h) (Or.inl ⟨by rfl, ?_⟩) ?_ ?_; rotate_left
               ·intro w'; go_simp; with_reducible rfl
               rotate_left
               ·simp only [Act.put, List.setIfInBounds_toArray, List.set_cons_zero, List.set_cons_succ, i64_w, i32_w]; rfl
               refine pure_ (i := 12) (N := some 91) (v := ?_) (a' := ?_) #[true, true, true, true, true, true, true, true, true, true, true, true, true, false] rfl rfl (any_of HT_.out (by kernel_rfl)) (fun _ _ _ h => h) (Or.inl ⟨by rfl, ?_⟩) ?_ ?_; rotate_left
               ·intro w'; go_simp; with_reducible rfl
               rotate_left
               ·simp only [Act.put, List.setIfInBounds_toArray, List.set_cons_zero, List.set_cons_succ, i64_w, i32_w]; rfl
               refine last_ (i := 13) (N := none) #[true, true, true, true, true, true, true, true, true, true, true, true, true, true] rfl rfl (one_of HT_.out (by kernel_rfl)) (by decide) (fun K hK => ?_)
               refine skip_ (w1 := ?_) (by rfl) rfl ?_ ?_; rotate_left
               ·go_simp; rfl
               refine hK.out _ _ ?_; clear hK K
               refine done_ (done_of HT_.out (by kernel_rfl)) ?_
               try go_wp2
               all_goals (go_meet; (case rel => exact ⟨_, (y359), H', ⟨by have := HK1.out; have := HK2.out; have := HJ22.out; have := HJ26.out; have := HJ34.out; first | omega | exact Nat.le_refl _⟩, ⟨by (try simp only [hl13_26]); (with_reducible repeat (first | apply Kd.R_alloc | apply Kd.R_drewN | apply Kd.R_drew)); exact Kd.R_mono HQ46.out (fun _ hk => ⟨hk.1, hk.2.2⟩)⟩, ⟨by (try simp only [hl13_26]); (with_reducible repeat (first | apply Kd.V_alloc | apply Kd.V_drewN | apply Kd.V_drew)); exact Kd.V_mono (Kd.V_far (p := ⟨go44, ((ji39) : Int).toNat, none⟩) (Kd.V_mono HO_339001.out (fun k_ hk => (⟨hk, fun e_ => hk.2.2.1 (by rw [e_]; rfl)⟩ : _ ∧ k_ ≠ go44))) (fun _ hk => hk.2) (.int .i64 (wrap64 ((wrap64 ((rd l0 (ji39)) - 1)) - (rd t346 (ji39)))))) (fun _ hk => ⟨hk.1.1, ⟨hk.1.2.2.1, ⟨hk.1.2.2.2.1, ⟨hk.1.2.2.2.2.1, ⟨hk.1.2.2.2.2.2.1, ⟨hk.1.2.2.2.2.2.2.1, hk.1.2.2.2.2.2.2.2⟩⟩⟩⟩⟩⟩)⟩, ⟨by (try simp only [hl13_26]); (with_reducible repeat (first | apply Kd.R_alloc | apply Kd.R_drewN | apply Kd.R_drew)); exact Kd.R_mono (Kd.R_far (p := ⟨go44, ((ji39) : Int).toNat, none⟩) (Kd.R_mono HO_343000.out (fun k_ hk => (⟨hk, fun e_ => hk.2.2 (by rw [e_]; rfl)⟩ : _ ∧ k_ ≠ go44))) (fun _ hk => hk.2) (.int .i64 (wrap64 ((wrap64 ((rd l0 (ji39)) - 1)) - (rd t346 (ji39)))))) (fun _ hk => ⟨hk.1.1, hk.1.2.2⟩)⟩, ⟨by (try simp only [hl13_26]); (with_reducible repeat (first | apply Kd.N_alloc | apply Kd.N_drewN | apply Kd.N_drew)); exact Kd.N_mono (Kd.N_far (p := ⟨go44, ((ji39) : Int).toNat, none⟩) (Kd.N_mono HO_343001.out (fun k_ hk => (⟨hk, fun e_ => hk.2.2.1 (by rw [e_]; rfl)⟩ : _ ∧ k_ ≠ go44))) (fun _ hk => hk.2) (.int .i64 (wrap64 ((wrap64 ((rd l0 (ji39)) - 1)) - (rd t346 (ji39)))))) (fun _ hk => ⟨hk.1.1, ⟨hk.1.2.2.1, ⟨hk.1.2.2.2.1, ⟨hk.1.2.2.2.2.1, ⟨hk.1.2.2.2.2.2.1, hk.1.2.2.2.2.2.2⟩⟩⟩⟩⟩)⟩, ⟨by (try simp only [hl13_26]); (with_reducible repeat (first | refine blk_drewN ?_ _ | refine blk_drew ?_ | refine blk_alloc ?_ _)); refine blk_far ?_ (by have h_ := Kd.R_ne HO_13.out BK338.out (by decide); intro e_; exact h_ (by rw [e_]; rfl)) _; (with_reducible repeat (first | refine blk_drewN ?_ _ | refine blk_drew ?_ | refine blk_alloc ?_ _)); exact BK338.out⟩, ⟨by (try simp only [hl13_26]); (with_reducible repeat (first | refine blk_drewN ?_ _ | refine blk_drew ?_ | refine blk_alloc ?_ _)); refine blk_far ?_ (by have h_ := Kd.R_ne HO_13.out BK339.out (by decide); intro e_; exact h_ (by rw [e_]; rfl)) _; (with_reducible repeat (first | refine blk_drewN ?_ _ | refine blk_drew ?_ | refine blk_alloc ?_ _)); exact BK339.out⟩, ⟨by (try simp only [hl13_26]); (with_reducible repeat (first | refine blk_drewN ?_ _ | refine blk_drew ?_ | refine blk_alloc ?_ _)); refine blk_far ?_ (by have h_ := Kd.R_ne HO_13.out BK342.out (by decide); intro e_; exact h_ (by rw [e_]; rfl)) _; (with_reducible repeat (first | refine blk_drewN ?_ _ | refine blk_drew ?_ | refine blk_alloc ?_ _)); exact BK342.out⟩, ⟨by repeat (first | (with_reducible first | exact HB.out | apply below_alloc | apply pw_below_drewN | apply below_drew1 | refine below_set ?_ GB44.out | refine below_set ?_ GE338.out | refine below_set ?_ GE339.out | refine below_set ?_ GE342.out) | exact HB.out)⟩⟩))
              ·replace c38 := Bool.eq_false_iff.mpr c38
               subst c38
               have H1 : (triglyphref05_By.j5 kj34 l0 a2 t340 x10_1 x13_26 l1_0 l1_1 x343000_1 x343001_1) = some (r1, r2) := by rw [if_neg (show ¬ (false = true) by decide)] at H; exact H
               clear H; have H := H1; clear H1
               have H' := gA H
               clear H
               go_wp2
               all_goals (go_meet; (case rel => exact ⟨_, (x13_26), H', ⟨by have := HK1.out; have := HK2.out; have := HJ22.out; have := HJ26.out; have := HJ34.out; first | omega | exact Nat.le_refl _⟩, ⟨by (try simp only [hl13_26]); (with_reducible repeat (first | apply Kd.R_alloc | apply Kd.R_drewN | apply Kd.R_drew)); exact Kd.R_mono HO_13.out (fun _ hk => ⟨hk.1, hk.2.2⟩)⟩, ⟨by (try simp only [hl13_26]); (with_reducible repeat (first | apply Kd.V_alloc | apply Kd.V_drewN | apply Kd.V_drew)); exact Kd.V_mono HO_339001.out (fun _ hk => ⟨hk.1, ⟨hk.2.2.1, ⟨hk.2.2.2.1, ⟨hk.2.2.2.2.1, ⟨hk.2.2.2.2.2.1, ⟨hk.2.2.2.2.2.2.1, hk.2.2.2.2.2.2.2⟩⟩⟩⟩⟩⟩)⟩, ⟨by (try simp only [hl13_26]); (with_reducible repeat (first | apply Kd.R_alloc | apply Kd.R_drewN | apply Kd.R_drew)); exact Kd.R_mono HO_343000.out (fun _ hk => ⟨hk.1, hk.2.2⟩)⟩, ⟨by (try simp only [hl13_26]); (with_reducible repeat (first | apply Kd.N_alloc | apply Kd.N_drewN | apply Kd.N_drew)); exact Kd.N_mono HO_343001.out (fun _ hk => ⟨hk.1, ⟨hk.2.2.1, ⟨hk.2.2.2.1, ⟨hk.2.2.2.2.1, ⟨hk.2.2.2.2.2.1, hk.2.2.2.2.2.2⟩⟩⟩⟩⟩)⟩, ⟨by (try simp only [hl13_26]); (with_reducible repeat (first | refine blk_drewN ?_ _ | refine blk_drew ?_ | refine blk_alloc ?_ _)); exact BK338.out⟩, ⟨by (try simp only [hl13_26]); (with_reducible repeat (first | refine blk_drewN ?_ _ | refine blk_drew ?_ | refine blk_alloc ?_ _)); exact BK339.out⟩, ⟨by (try simp only [hl13_26]); (with_reducible repeat (first | refine blk_drewN ?_ _ | refine blk_drew ?_ | refine blk_alloc ?_ _)); exact BK342.out⟩, ⟨by repeat (first | (with_reducible first | exact HB.out | apply below_alloc | apply pw_below_drewN | apply below_drew1 | refine below_set ?_ GE338.out | refine below_set ?_ GE339.out | refine below_set ?_ GE342.out) | exact HB.out)⟩⟩))
             case rest =>
              clear HC37
              try clear c1
              try clear c2
              try clear p2
              try clear c3
              try clear p3
              try clear q3
              try clear hx3
              try clear qi3
              try clear hf3
              try clear c4
              try clear p4
              try clear q4
              try clear hx4
              try clear hf4
              try clear c5
              try clear p6
              try clear c9
              try clear c10
              try clear c15
              try clear c15b0
              try clear c18
              try clear c18b0
              try clear c19
              try clear c19b0
              try clear c20
              try clear c22
              try clear c26
              try clear c26b0
              try clear c26b1
              try clear c28
              try clear c29
              try clear c29b0
              try clear c29b1
              try clear c30
              try clear c30b0
              try clear c30b1
              try clear c31
              try clear c31b0
              try clear c31b1
              try clear p32
              try clear q32
              try clear hx32
              try clear qi32
              try clear hf32
              try clear p35
              try clear q35
              try clear hx35
              try clear qi35
              try clear c36
              try clear c36b0
              try clear c36b1
              try clear c38
              try clear c40
              try clear c40b0
              try clear c41
              try clear c41b0
              try clear c42
              try clear c42b0
              try clear c43
              try clear c43b0
              try clear p44
              try clear q44
              try clear hx44
              try clear hf44
              try clear hcz11_0
              try clear hcz11_1
              try clear hcz14_0
              try clear hcz14_1
              try clear hfz11_0
              try clear hfz11_1
              try clear hfz14_0
              try clear hfz14_1
              try clear hx32_0
              try clear hx350_0
              try clear hx354_0
              try clear hx355_0
              try clear hx357_0
              try clear hx358_0
              try clear hx44_0
              try clear p2
              try clear p3
              try clear p32
              try clear p35
              try clear p350
              try clear p354
              try clear p355
              try clear p357
              try clear p358
              try clear p44
              try clear p6
              try clear q3
              try clear q32
              try clear q35
              try clear q350
              try clear q354
              try clear q355
              try clear q357
              try clear q358
              try clear q44
              obtain ⟨kq, x13_36, HA, HJ36, HO_13, HO_339001, HO_343000, HO_343001, BK338, BK339, BK342, HB⟩ := hcut
              have hl13_36 := (Kd.R_reads' HO_13.out).1
              rw [hl13_36] at HO_13
              (try simp only [hl13_36])
              (try simp only [hl13_36] at BK338)
              (try simp only [hl13_36] at BK339)
              (try simp only [hl13_36] at BK342)
              (try simp only [hl13_36] at HO_339001)
              (try simp only [hl13_36] at HO_343000)
              (try simp only [hl13_36] at HO_343001)
              cases kq with
              | zero => exact absurd HA.out (by simp [triglyphref05_By.j5])
              | succ kj36 =>
               have H := HA.out; clear HA
               simp only [triglyphref05_By.j5] at H
               obtain ⟨c47, H⟩ := iN H
               have c47b0 : (a2 == 2) = false := beq_eq_false_iff_ne.mpr c47
               have c47b1 : (a2 != 2) = true := bne_iff_ne.mpr c47
               replace H := Option.bind_eq_some_iff.mp H
               obtain ⟨⟨t360, t361⟩, A480, H⟩ := H
               replace H : (if 0 ≤ t360 then (if t360 < (l1_1.length : Int) then (if x343001_1.length < 3518437208883 then (triglyphref05_By.l0 kj36 l0 a2 t340 (wrap64 (x10_1 + 1)) l1_0 l1_1 x343000_1 (x343001_1 ++ [(⟨(rd_T43 l1_1 t360).f0, (rd_T43 l1_1 t360).f1, (rd_T43 l1_1 t360).f2⟩ : S43)])) else (none)) else (none)) else (none)) = some (r1, r2) := H
               have A48 := gA A480
               clear A480
               obtain ⟨c49, H⟩ := iS H
               have c49b0 := decide_eq_true c49
               clear c49
               obtain ⟨c50, H⟩ := iS H
               have c50b0 := decide_eq_true c50
               clear c50
               obtain ⟨c51, H⟩ := iS H
               have LMc51 := gA c51
               clear c51
               obtain ⟨y363, hy363⟩ : ∃ y_ : List (S43), y_ = (x343001_1 ++ [(⟨(rd_T43 l1_1 t360).f0, (rd_T43 l1_1 t360).f1, (rd_T43 l1_1 t360).f2⟩ : S43)]) := ⟨_, rfl⟩
               replace H : (triglyphref05_By.l0 kj36 l0 a2 t340 (wrap64 (x10_1 + 1)) l1_0 l1_1 x343000_1 y363) = some (r1, r2) := by first | (rw [hy363]; with_reducible exact H) | (have H2_ := (Option.bind_some _ _).symm.trans H; rw [hy363]; with_reducible exact H2_) | (have H2_ := (Option.bind_some _ _).symm.trans H; with_reducible exact H2_) | with_reducible exact H | (rw [hy363]; exact H) | exact H
               have Ny363 := gA hy363
               clear hy363
               have H' := gA H
               clear H
               have hnb52 := NB338_339.out
               have hnc52 := NB339_338.out
               have hnb53 := NB338_342.out
               have hnc53 := NB342_338.out
               obtain ⟨hcz54_0, hcz54_1, hfz54_0, hfz54_1⟩ := gz2 BK338
               try go_wp2_with (first | ((with_reducible refine gate_callee (f := 41) rfl ?_); refine goesL_ (some 112) rfl rfl Try.func41 (by kernel_rfl) rfl #[.slice A1_0 l1_0.length c1_0, .slice Ao25 x13_36.length co25] rfl (by (try simp only [List.map_toArray, List.map_cons, List.map_nil]); first | done | rfl | (simp only [List.length_drop, List.length_take]; rfl)) ?_; (with_reducible refine (triglyphref03_Place.calls kj36 _ _ l1_0 _ _ x13_36 t360 t361 _ ?side1 ?side2 ?side3 ?side4 A48.out).mono ?_); (case side1 => repeat (first | exact (Kd.C_below HR1_0.out HB.out) | (with_reducible refine Kd.C_alloc ?_ _) | (with_reducible refine Kd.C_drewN ?_ _) | (with_reducible refine Kd.C_drew ?_))); (case side2 => exact HC1_0.out); (case side3 => repeat (first | exact (Kd.R_reads' HO_13.out).2.2 | (with_reducible refine Kd.C_alloc ?_ _) | (with_reducible refine Kd.C_drewN ?_ _) | (with_reducible refine Kd.C_drew ?_))); (case side4 => exact (Kd.R_reads' HO_13.out).2.1); rintro e w' ⟨rfl, ⟨nd, rfl⟩⟩; refine ⟨_, rfl, ?_⟩; (try (rw [drewN_self wc]; generalize hq_ : World.drewN wc _ = wc; have n0_ : Aside0 (Kd.R (Kd.int .i64) 3 wc w.heap.size (fun k_ => (w.heap.size ≤ k_) ∧ some k_ ≠ (u343000 : Value).ownBlock) (.slice Ao25 x13_36.length co25) x13_36) := ⟨by rw [← hq_]; exact (by (with_reducible repeat (first | apply Kd.R_alloc | apply Kd.R_drewN | apply Kd.R_drew)); exact HO_13.out)⟩; have n1_ : Aside0 (Kd.V k43 43 wc w.heap.size (fun k_ => (P1_1_ k_ ∨ w.heap.size ≤ k_) ∧ some k_ ≠ (.slice Ao25 x13_36.length co25 : Value).ownBlock ∧ some k_ ≠ (u343000 : Value).ownBlock ∧ some k_ ≠ (u343001 : Value).ownBlock ∧ k_ ≠ gb338 ∧ k_ ≠ gb339 ∧ k_ ≠ gb342) (.slice A1_1 l1_1.length c1_1) l1_1) := ⟨by rw [← hq_]; exact (by (with_reducible repeat (first | apply Kd.V_alloc | apply Kd.V_drewN | apply Kd.V_drew)); exact HO_339001.out)⟩; have n2_ : Aside0 (Kd.R (Kd.int .i64) 3 wc w.heap.size (fun k_ => (w.heap.size ≤ k_) ∧ some k_ ≠ (.slice Ao25 x13_36.length co25 : Value).ownBlock) u343000 x343000_1) := ⟨by rw [← hq_]; exact (by (with_reducible repeat (first | apply Kd.R_alloc | apply Kd.R_drewN | apply Kd.R_drew)); exact HO_343000.out)⟩; have n3_ : Aside0 (Kd.N k43 43 wc w.heap.size (fun k_ => (P1_1_ k_ ∨ w.heap.size ≤ k_) ∧ some k_ ≠ (.slice Ao25 x13_36.length co25 : Value).ownBlock ∧ some k_ ≠ (u343000 : Value).ownBlock ∧ k_ ≠ gb338 ∧ k_ ≠ gb339 ∧ k_ ≠ gb342) u343001 x343001_1) := ⟨by rw [← hq_]; exact (by (with_reducible repeat (first | apply Kd.N_alloc | apply Kd.N_drewN | apply Kd.N_drew)); exact HO_343001.out)⟩; have n4_ : Aside0 (wc.heap[gb338]? = some (.cells #[.slice A1_0 l1_0.length c1_0, .slice A1_1 l1_1.length c1_1] 25 (0, 0))) := ⟨by rw [← hq_]; exact (by (with_reducible repeat (first | refine blk_drewN ?_ _ | refine blk_drew ?_ | refine blk_alloc ?_ _)); exact BK338.out)⟩; have n5_ : Aside0 (wc.heap[gb339]? = some (.cells #[.slice none 0 0, .slice none 0 0] 25 (0, 0))) := ⟨by rw [← hq_]; exact (by (with_reducible repeat (first | refine blk_drewN ?_ _ | refine blk_drew ?_ | refine blk_alloc ?_ _)); exact BK339.out)⟩; have n6_ : Aside0 (wc.heap[gb342]? = some (.cells #[u343000, u343001] 25 (0, 0))) := ⟨by rw [← hq_]; exact (by (with_reducible repeat (first | refine blk_drewN ?_ _ | refine blk_drew ?_ | refine blk_alloc ?_ _)); exact BK342.out)⟩; have n7_ : Aside0 (Below w.heap.size w wc) := ⟨by rw [← hq_]; exact (by repeat (first | (with_reducible first | exact HB.out | apply below_alloc | apply pw_below_drewN | apply below_drew1 | refine below_set ?_ GE338.out | refine below_set ?_ GE339.out | refine below_set ?_ GE342.out) | exact HB.out))⟩; clear HO_13 HO_339001 HO_343000 HO_343001 BK338 BK339 BK342 HB hq_; have HO_13 := n0_; have HO_339001 := n1_; have HO_343000 := n2_; have HO_343001 := n3_; have BK338 := n4_; have BK339 := n5_; have BK342 := n6_; have HB := n7_; clear n0_ n1_ n2_ n3_ n4_ n5_ n6_ n7_))))
               replace HO_13 := gA (Kd.R_drew HO_13.out); replace HO_339001 := gA (Kd.V_drew HO_339001.out); replace HO_343000 := gA (Kd.R_drew HO_343000.out); replace HO_343001 := gA (Kd.N_drew HO_343001.out); replace BK338 := gA (blk_drew BK338.out); replace BK339 := gA (blk_drew BK339.out); replace BK342 := gA (blk_drew BK342.out); replace HB := gA (below_drew1 HB.out)
               have p362 : 0 ≤ (t360 : Int) := of_decide_eq_true (by first | (with_reducible assumption) | assumption)
               have q362 : t360 < (l1_1.length : Int) := of_decide_eq_true (by first | (with_reducible assumption) | assumption)
               obtain ⟨ad362, A362_2, c362_2, e362, hx362_0, hx362_1, hx362_2, hl362_2, hi362_2⟩ := at_T43 (Kd.V_reads' HO_339001.out).2.2 t360 p362 q362
               cases e362
               obtain ⟨ce362, hce362, hMe362, hcc362⟩ := Kd.V_get HO_339001.out z43 t360 p362 (by first | exact q362 | exact of_decide_eq_true (by first | (with_reducible assumption) | assumption) | (have e_ := (Kd.V_reads' HO_339001.out).1; omega))
               obtain ⟨ua362_2, uc362_2, rfl, ul362_2, ge362_2⟩ := k43_openF hMe362
               have hv362_2 := hcc362 2 _ rfl
               rw [add_field _ _ 2 (by omega)] at hv362_2
               replace hv362_2 := Option.some.inj (hv362_2.symm.trans hx362_2)
               injection hv362_2 with hva_ hvn_ hvc_
               rw [hva_] at ge362_2
               rw [hvc_] at ul362_2
               have HL362_2 := gA (show Kd.V k25 25 _ w.heap.size _ _ ((rd_T43 l1_1 t360).f2) from Kd.V_mk ul362_2 ge362_2)
               clear hva_ hvn_ hvc_ ge362_2 ul362_2 hcc362 hce362
               have HR362_2 := gA hi362_2
               have HC362_2 := gA hl362_2
               clear hi362_2 hl362_2
               replace p362 := eq_true p362
               replace q362 := eq_true q362
               refine start_ (n := 11) (S := fun w' => w'.cell? ⟨gb342, 0, none⟩ = some (u343000) ∧ w'.cell? ⟨gb342, 1, none⟩ = some (u343001) ∧ w'.cell? ⟨gb338, 0, none⟩ = some (.slice A1_0 l1_0.length c1_0) ∧ w'.cell? ⟨gb338, 1, none⟩ = some (.slice (some ad362) l1_1.length c1_1) ∧ w'.cell? (ad362.add ((t360).toNat * 3)) = some (.int .i64 ((rd_T43 l1_1 t360).f0)) ∧ w'.cell? ⟨(ad362.add ((t360).toNat * 3)).block, (ad362.add ((t360).toNat * 3)).off + 1, none⟩ = some (.int .i64 ((rd_T43 l1_1 t360).f1)) ∧ w'.cell? ⟨(ad362.add ((t360).toNat * 3)).block, (ad362.add ((t360).toNat * 3)).off + 2, none⟩ = some (.slice A362_2 ((rd_T43 l1_1 t360).f2).length c362_2)) (ds := [8, 10]) #[false, false, false, false, false, false, false, false, false, false, false] (by kernel_rfl) rfl rfl ⟨(blk_cell BK342.out 0).trans rfl, (blk_cell BK342.out 1).trans rfl, (blk_cell BK338.out 0).trans rfl, (blk_cell BK338.out 1).trans rfl, hx362_0, hx362_1, hx362_2⟩ (fun hHeld => ?_); refine with_tabW triglyphref05_By.tab24 triglyphref05_By.bits24 (fun HT_ HW_ => ?_)
               generalize wc.drew = w55 at HO_13 HO_339001 HO_343000 HO_343001 BK338 BK339 BK342 HB HL362_2 HR362_2 hx362_0 hx362_1 hx362_2 hHeld ⊢
               refine pure_ (i := 0) (N := some 115) (v := ?_) (a' := ?_) #[true, false, false, false, false, false, false, false, false, false, false] rfl rfl (any_of HT_.out (by kernel_rfl)) (fun _ _ _ h => h) (Or.inl ⟨by rfl, ?_⟩) ?_ ?_; rotate_left
               ·intro w'; go_simp; with_reducible rfl
               rotate_left
               ·simp only [Act.put, List.setIfInBounds_toArray, List.set_cons_zero, List.set_cons_succ, i64_w, i32_w]; rfl
               refine pure_ (i := 2) (N := some 117) (v := ?_) (a' := ?_) #[true, false, true, false, false, false, false, false, false, false, false] rfl rfl (any_of HT_.out (by kernel_rfl)) (fun _ _ _ h => h) (Or.inl ⟨by rfl, ?_⟩) ?_ ?_; rotate_left
               ·intro w'; go_simp; with_reducible rfl
               rotate_left
               ·simp only [Act.put, List.setIfInBounds_toArray, List.set_cons_zero, List.set_cons_succ, i64_w, i32_w]; rfl
               refine pure_ (i := 4) (N := some 119) (v := ?_) (a' := ?_) #[true, false, true, false, true, false, false, false, false, false, false] rfl rfl (any_of HT_.out (by kernel_rfl)) (fun _ _ _ h => h) (Or.inl ⟨by rfl, ?_⟩) ?_ ?_; rotate_left
               ·intro w'; go_simp; with_reducible rfl
               rotate_left
               ·simp only [Act.put, List.setIfInBounds_toArray, List.set_cons_zero, List.set_cons_succ, i64_w, i32_w]; rfl
               refine take_ (i := 1) (N := some 116) (v := ?_) (a' := ?_) #[true, true, true, false, true, false, false, false, false, false, false] rfl rfl (take_ofW HT_.out HW_.out (by kernel_rfl)) (fun _ _ _ h => h) (Or.inl ⟨by rfl, ?_⟩) hHeld ?_ ?_; rotate_left
               ·rintro w' ⟨s0, s1, s2, s3, s4, s5, s6⟩; go_simp; with_reducible rfl
               rotate_left
               ·simp only [Act.put, List.setIfInBounds_toArray, List.set_cons_zero, List.set_cons_succ, i64_w, i32_w]; rfl
               refine take_ (i := 3) (N := some 118) (v := ?_) (a' := ?_) #[true, true, true, true, true, false, false, false, false, false, false] rfl rfl (take_ofW HT_.out HW_.out (by kernel_rfl)) (fun _ _ _ h => h) (Or.inl ⟨by rfl, ?_⟩) hHeld ?_ ?_; rotate_left
               ·rintro w' ⟨s0, s1, s2, s3, s4, s5, s6⟩; go_simp; with_reducible rfl
               rotate_left
               ·simp only [Act.put, List.setIfInBounds_toArray, List.set_cons_zero, List.set_cons_succ, i64_w, i32_w]; rfl
               refine pure_ (i := 5) (N := some 120) (v := ?_) (a' := ?_) #[true, true, true, true, true, true, false, false, false, false, false] rfl rfl (any_of HT_.out (by kernel_rfl)) (fun _ _ _ h => h) (Or.inl ⟨by rfl, ?_⟩) ?_ ?_; rotate_left
               ·intro w'; go_simp; with_reducible rfl
               rotate_left
               ·simp only [Act.put, List.setIfInBounds_toArray, List.set_cons_zero, List.set_cons_succ, i64_w, i32_w]; rfl
               refine take_ (i := 6) (N := some 121) (v := ?_) (a' := ?_) #[true, true, true, true, true, true, true, false, false, false, false] rfl rfl (take_ofW HT_.out HW_.out (by kernel_rfl)) (fun _ _ _ h => h) (Or.inl ⟨by rfl, ?_⟩) hHeld ?_ ?_; rotate_left
               ·rintro w' ⟨s0, s1, s2, s3, s4, s5, s6⟩; go_simp; with_reducible rfl
               rotate_left
               ·simp only [Act.put, List.setIfInBounds_toArray, List.set_cons_zero, List.set_cons_succ, i64_w, i32_w]; rfl
               refine one_ (i := 7) (N := some 122) #[true, true, true, true, true, true, true, true, false, false, false] rfl rfl (one_of HT_.out (by kernel_rfl)) (by decide) (fun K hK => ?_)
               refine value_ (w1 := ?_) (v := ?_) (by rfl) rfl ?_ ?_
               rotate_left 2
               ·go_simp
                constructor
                ·rfl
                ·rfl
               refine hK.out _ _ ⟨(blk_cell (blk_alloc BK342.out _) 0).trans rfl, (blk_cell (blk_alloc BK342.out _) 1).trans rfl, (blk_cell (blk_alloc BK338.out _) 0).trans rfl, (blk_cell (blk_alloc BK338.out _) 1).trans rfl, (World.cell?_alloc_lt _ _ _ (World.block_lt_of_cell? _ _ (hHeld.2.2.2.2.1))).trans (hHeld.2.2.2.2.1), (World.cell?_alloc_lt _ _ _ (World.block_lt_of_cell? _ _ (hHeld.2.2.2.2.2.1))).trans (hHeld.2.2.2.2.2.1), (World.cell?_alloc_lt _ _ _ (World.block_lt_of_cell? _ _ (hHeld.2.2.2.2.2.2))).trans (hHeld.2.2.2.2.2.2)⟩ (fun hHeld => ?_); clear hK K
               refine norm_ (a' := ?_) ?_ ?_; rotate_left
               ·show Act.put _ (some 122) _ = _
                simp only [Act.put, List.setIfInBounds_toArray, List.set_cons_zero, List.set_cons_succ, i64_w, i32_w]; rfl
               refine last_ (i := 8) (N := some 123) #[true, true, true, true, true, true, true, true, true, false, false] rfl rfl (one_of HT_.out (by kernel_rfl)) (by decide) (fun K hK => ?_)
               refine Kd.N_append_step k43 (w0 := w) w.heap.size (by rfl) (.tmp 116) (.tmp 122) 23 43 (.agg #[(.int .i64 0), (.int .i64 0), (.slice none 0 0)]) 40 rfl Try.underlying23 info43 rfl (by decide) (by omega) u343001 x343001_1 (⟨(rd_T43 l1_1 t360).f0, (rd_T43 l1_1 t360).f1, (rd_T43 l1_1 t360).f2⟩ : S43) [.int .i64 ((rd_T43 l1_1 t360).f0), .int .i64 ((rd_T43 l1_1 t360).f1), .slice A362_2 ((rd_T43 l1_1 t360).f2).length c362_2] (fun k_ => (P1_1_ k_ ∨ w.heap.size ≤ k_) ∧ some k_ ≠ (.slice Ao25 x13_36.length co25 : Value).ownBlock ∧ some k_ ≠ (u343000 : Value).ownBlock ∧ k_ ≠ gb338 ∧ k_ ≠ gb339 ∧ k_ ≠ gb342) (fun k_ => ((fun k_ => (P1_1_ k_ ∨ w.heap.size ≤ k_) ∧ some k_ ≠ (.slice Ao25 x13_36.length co25 : Value).ownBlock ∧ some k_ ≠ (u343000 : Value).ownBlock ∧ k_ ≠ gb338 ∧ k_ ≠ gb339 ∧ k_ ≠ gb342)) k_ ∧ some k_ ≠ (u343001 : Value).ownBlock) rfl rfl ?aP (fun _ hk => hk) ?aF ?aO ?aB ?aS ?aL ?_
               (case aP => exact (k43_mkF _ _ (⟨(rd_T43 l1_1 t360).f0, (rd_T43 l1_1 t360).f1, (rd_T43 l1_1 t360).f2⟩ : S43) (Kd.V_reads' (Kd.V_mono (ok' := (fun k_ => ((fun k_ => (P1_1_ k_ ∨ w.heap.size ≤ k_) ∧ some k_ ≠ (.slice Ao25 x13_36.length co25 : Value).ownBlock ∧ some k_ ≠ (u343000 : Value).ownBlock ∧ k_ ≠ gb338 ∧ k_ ≠ gb339 ∧ k_ ≠ gb342)) k_ ∧ some k_ ≠ (u343001 : Value).ownBlock)) (HL362_2.out) (fun k_ hk => ⟨⟨hk.1, ⟨hk.2.1, ⟨hk.2.2.1, ⟨hk.2.2.2.2.1, ⟨hk.2.2.2.2.2.1, hk.2.2.2.2.2.2⟩⟩⟩⟩⟩, hk.2.2.2.1⟩))).2.1 (Kd.V_F (Kd.V_mono (ok' := (fun k_ => ((fun k_ => (P1_1_ k_ ∨ w.heap.size ≤ k_) ∧ some k_ ≠ (.slice Ao25 x13_36.length co25 : Value).ownBlock ∧ some k_ ≠ (u343000 : Value).ownBlock ∧ k_ ≠ gb338 ∧ k_ ≠ gb339 ∧ k_ ≠ gb342)) k_ ∧ some k_ ≠ (u343001 : Value).ownBlock)) (HL362_2.out) (fun k_ hk => ⟨⟨hk.1, ⟨hk.2.1, ⟨hk.2.2.1, ⟨hk.2.2.2.2.1, ⟨hk.2.2.2.2.2.1, hk.2.2.2.2.2.2⟩⟩⟩⟩⟩, hk.2.2.2.1⟩)))))
               (case aB => exact (by repeat (first | (with_reducible first | exact HB.out | apply below_alloc | apply pw_below_drewN | apply below_drew1 | refine below_set ?_ GE338.out | refine below_set ?_ GE339.out | refine below_set ?_ GE342.out) | exact HB.out)))
               (case aF => exact (fun k_ hk => ⟨(.inr (Nat.le_trans (below_size (by repeat (first | (with_reducible first | exact HB.out | apply below_alloc | apply pw_below_drewN | apply below_drew1 | refine below_set ?_ GE338.out | refine below_set ?_ GE339.out | refine below_set ?_ GE342.out) | exact HB.out))) hk)), Kd.fresh' (Kd.R_lt (by (with_reducible repeat (first | apply Kd.R_alloc | apply Kd.R_drewN | apply Kd.R_drew)); exact HO_13.out)) k_ hk, Kd.fresh' (Kd.R_lt (by (with_reducible repeat (first | apply Kd.R_alloc | apply Kd.R_drewN | apply Kd.R_drew)); exact HO_343000.out)) k_ hk, Kd.freshB (g := gb338) (o := .cells #[.slice A1_0 l1_0.length c1_0, .slice (some ad362) l1_1.length c1_1] 25 (0, 0)) (by (with_reducible repeat (first | refine blk_drewN ?_ _ | refine blk_drew ?_ | refine blk_alloc ?_ _)); exact BK338.out) k_ hk, Kd.freshB (g := gb339) (o := .cells #[.slice none 0 0, .slice none 0 0] 25 (0, 0)) (by (with_reducible repeat (first | refine blk_drewN ?_ _ | refine blk_drew ?_ | refine blk_alloc ?_ _)); exact BK339.out) k_ hk, Kd.freshB (g := gb342) (o := .cells #[u343000, u343001] 25 (0, 0)) (by (with_reducible repeat (first | refine blk_drewN ?_ _ | refine blk_drew ?_ | refine blk_alloc ?_ _)); exact BK342.out) k_ hk⟩))
               (case aO => exact (by (with_reducible repeat (first | apply Kd.N_alloc | apply Kd.N_drewN | apply Kd.N_drew)); exact HO_343001.out))
               (case aS => exact (below_size (by repeat (first | (with_reducible first | exact HB.out | apply below_alloc | apply pw_below_drewN | apply below_drew1 | refine below_set ?_ GE338.out | refine below_set ?_ GE339.out | refine below_set ?_ GE342.out) | exact HB.out))))
               (case aL => have := LMc51.out; omega)
               intro v364 w56 ho hb hg hat
               rw [← Ny363.out] at ho
               replace HO_13 := gA (Kd.R_over' (by (with_reducible repeat (first | apply Kd.R_alloc | apply Kd.R_drewN | apply Kd.R_drew)); exact HO_13.out) (Kd.N_typed (by (with_reducible repeat (first | apply Kd.N_alloc | apply Kd.N_drewN | apply Kd.N_drew)); exact HO_343001.out)) (by decide) hg); replace HO_339001 := gA (Kd.V_afterv (ok := (fun k_ => (P1_1_ k_ ∨ w.heap.size ≤ k_) ∧ some k_ ≠ (.slice Ao25 x13_36.length co25 : Value).ownBlock ∧ some k_ ≠ (u343000 : Value).ownBlock ∧ k_ ≠ gb338 ∧ k_ ≠ gb339 ∧ k_ ≠ gb342)) (by (with_reducible repeat (first | apply Kd.V_alloc | apply Kd.V_drewN | apply Kd.V_drew)); exact Kd.V_mono HO_339001.out (fun _ hk => ⟨⟨hk.1, ⟨hk.2.1, ⟨hk.2.2.1, ⟨hk.2.2.2.2.1, ⟨hk.2.2.2.2.2.1, hk.2.2.2.2.2.2⟩⟩⟩⟩⟩, hk.2.2.2.1⟩)) hg hat); replace HO_343000 := gA (Kd.R_over' (by (with_reducible repeat (first | apply Kd.R_alloc | apply Kd.R_drewN | apply Kd.R_drew)); exact HO_343000.out) (Kd.N_typed (by (with_reducible repeat (first | apply Kd.N_alloc | apply Kd.N_drewN | apply Kd.N_drew)); exact HO_343001.out)) (by decide) hg); replace BK338 := gA (blk_grown (g := gb338) (o := .cells #[.slice A1_0 l1_0.length c1_0, .slice (some ad362) l1_1.length c1_1] 25 (0, 0)) (by (with_reducible repeat (first | refine blk_drewN ?_ _ | refine blk_drew ?_ | refine blk_alloc ?_ _)); exact BK338.out) hg (Kd.N_ne HO_343001.out BK338.out (by decide))); replace BK339 := gA (blk_grown (g := gb339) (o := .cells #[.slice none 0 0, .slice none 0 0] 25 (0, 0)) (by (with_reducible repeat (first | refine blk_drewN ?_ _ | refine blk_drew ?_ | refine blk_alloc ?_ _)); exact BK339.out) hg (Kd.N_ne HO_343001.out BK339.out (by decide))); replace BK342 := gA (blk_grown (g := gb342) (o := .cells #[u343000, u343001] 25 (0, 0)) (by (with_reducible repeat (first | refine blk_drewN ?_ _ | refine blk_drew ?_ | refine blk_alloc ?_ _)); exact BK342.out) hg (Kd.N_ne HO_343001.out BK342.out (by decide))); replace HL362_2 := gA (Kd.V_afterv (ok := (fun k_ => (P1_1_ k_ ∨ w.heap.size ≤ k_) ∧ some k_ ≠ (.slice Ao25 x13_36.length co25 : Value).ownBlock ∧ some k_ ≠ (u343000 : Value).ownBlock ∧ k_ ≠ gb338 ∧ k_ ≠ gb339 ∧ k_ ≠ gb342)) (by (with_reducible repeat (first | apply Kd.V_alloc | apply Kd.V_drewN | apply Kd.V_drew)); exact Kd.V_mono HL362_2.out (fun _ hk => ⟨⟨hk.1, ⟨hk.2.1, ⟨hk.2.2.1, ⟨hk.2.2.2.2.1, ⟨hk.2.2.2.2.2.1, hk.2.2.2.2.2.2⟩⟩⟩⟩⟩, hk.2.2.2.1⟩)) hg hat); replace HB := gA (hb); have HO365 := gA (ho); clear HO_343001 ho hb hg hat
               obtain ⟨Ao57, co57, eo57⟩ := Kd.N_slice HO365.out
               (first | subst eo57 | (injection eo57 with f1_ f2_ f3_; have f4_ := f1_.symm; have f5_ := f3_.symm; clear f1_ f2_ f3_; subst f4_; subst f5_))
               refine hK.out _ _ ?_; clear hK K
               refine norm_ (a' := ?_) ?_ ?_; rotate_left
               ·show Act.put _ (some 123) _ = _
                simp only [Act.put, List.setIfInBounds_toArray, List.set_cons_zero, List.set_cons_succ, i64_w, i32_w]; rfl
               refine pure_ (i := 9) (N := some 124) (v := ?_) (a' := ?_) #[true, true, true, true, true, true, true, true, true, true, false] rfl rfl (any_of HT_.out (by kernel_rfl)) (fun _ _ _ h => h) (Or.inl ⟨by rfl, ?_⟩) ?_ ?_; rotate_left
               ·intro w'; go_simp; with_reducible rfl
               rotate_left
               ·simp only [Act.put, List.setIfInBounds_toArray, List.set_cons_zero, List.set_cons_succ, i64_w, i32_w]; rfl
               refine last_ (i := 10) (N := none) #[true, true, true, true, true, true, true, true, true, true, true] rfl rfl (one_of HT_.out (by kernel_rfl)) (by decide) (fun K hK => ?_)
               have hs58 : w56.cell? ⟨gb342, 1, none⟩ = some (u343001) := (blk_cell BK342.out 1).trans rfl
               have hfs58 := blk_frozen BK342.out 1
               have hns58_0 := NB338_342.out
               have hns58_1 := NB339_342.out
               have hms58_0 := NB342_338.out
               have hms58_1 := NB342_339.out
               refine skip_ (w1 := ?_) (by rfl) rfl ?_ ?_; rotate_left
               ·go_simp; rfl
               refine hK.out _ _ ?_; clear hK K
               refine done_ (done_of HT_.out (by kernel_rfl)) ?_
               try go_wp2
               (try simp only [← hl13_26, ← hl13_36])
               go_roundg kj36
               case measure => have := HK1.out; have := HK2.out; have := HJ22.out; have := HJ26.out; have := HJ34.out; have := HJ36.out; omega
               case rel => exact ⟨(wrap64 (x10_1 + 1)), (x343000_1), (y363), (u343000), (.slice Ao57 y363.length co57), (by first | rfl | (simp; done) | (simp [*]; done)), H', ⟨by have := HK1.out; have := HK2.out; have := HJ22.out; have := HJ26.out; have := HJ34.out; have := HJ36.out; omega⟩, ⟨by (try simp only [hl13_26]); (try simp only [hl13_36]); (with_reducible repeat (first | apply Kd.V_alloc | apply Kd.V_drewN | apply Kd.V_drew)); exact Kd.V_mono (Kd.V_far (p := ⟨gb342, 1, none⟩) (Kd.V_mono HO_339001.out (fun k_ hk => (⟨hk, hk.1.2.2.2.2.2⟩ : _ ∧ k_ ≠ gb342))) (fun _ hk => hk.2) (.slice Ao57 y363.length co57)) (fun _ hk => by first | exact ⟨hk.1.1.1, ⟨hk.1.1.2.2.1, ⟨hk.1.2, ⟨hk.1.1.2.2.2.1, ⟨hk.1.1.2.2.2.2.1, hk.1.1.2.2.2.2.2⟩⟩⟩⟩⟩ | (simp_all; done))⟩, ⟨by (try simp only [hl13_26]); (try simp only [hl13_36]); (with_reducible repeat (first | apply Kd.R_alloc | apply Kd.R_drewN | apply Kd.R_drew)); exact Kd.R_mono (Kd.R_far (p := ⟨gb342, 1, none⟩) (Kd.R_types HO_343000.out BK342.out (by decide)) (fun _ hk => hk.2) (.slice Ao57 y363.length co57)) (fun _ hk => hk.1.1)⟩, ⟨by (try simp only [hl13_26]); (try simp only [hl13_36]); (with_reducible repeat (first | apply Kd.N_alloc | apply Kd.N_drewN | apply Kd.N_drew)); exact Kd.N_mono (Kd.N_far (p := ⟨gb342, 1, none⟩) (Kd.N_mono HO365.out (fun k_ hk => (⟨hk, hk.2.2.2.2.2⟩ : _ ∧ k_ ≠ gb342))) (fun _ hk => hk.2) (.slice Ao57 y363.length co57)) (fun _ hk => ⟨hk.1.1, ⟨hk.1.2.2.1, ⟨hk.1.2.2.2.1, ⟨hk.1.2.2.2.2.1, hk.1.2.2.2.2.2⟩⟩⟩⟩)⟩, ⟨by (try simp only [hl13_26]); (try simp only [hl13_36]); (with_reducible repeat (first | refine blk_drewN ?_ _ | refine blk_drew ?_ | refine blk_alloc ?_ _)); refine blk_far ?_ NB338_342.out _; (with_reducible repeat (first | refine blk_drewN ?_ _ | refine blk_drew ?_ | refine blk_alloc ?_ _)); exact BK338.out⟩, ⟨by (try simp only [hl13_26]); (try simp only [hl13_36]); (with_reducible repeat (first | refine blk_drewN ?_ _ | refine blk_drew ?_ | refine blk_alloc ?_ _)); refine blk_far ?_ NB339_342.out _; (with_reducible repeat (first | refine blk_drewN ?_ _ | refine blk_drew ?_ | refine blk_alloc ?_ _)); exact BK339.out⟩, ⟨by (try simp only [hl13_26]); (try simp only [hl13_36]); (with_reducible repeat (first | refine blk_drewN ?_ _ | refine blk_drew ?_ | refine blk_alloc ?_ _)); refine blk_put (cs := #[u343000, u343001]) ?_ 1 _ rfl; (with_reducible repeat (first | refine blk_drewN ?_ _ | refine blk_drew ?_ | refine blk_alloc ?_ _)); exact BK342.out⟩, ⟨by repeat (first | (with_reducible first | exact HB.out | apply below_alloc | apply pw_below_drewN | apply below_drew1 | refine below_set ?_ GE338.out | refine below_set ?_ GE339.out | refine below_set ?_ GE342.out) | exact HB.out)⟩⟩
   ·rw [if_neg c15] at H
    have c15b0 := decide_eq_false c15
    clear c15
    simp only [Option.some.injEq, Prod.mk.injEq] at H
    obtain ⟨rfl, rfl⟩ := H
    have hnb59 := NB342_338.out
    have hnc59 := NB338_342.out
    have hnb60 := NB342_339.out
    have hnc60 := NB339_342.out
    obtain ⟨hcz61_0, hcz61_1, hfz61_0, hfz61_1⟩ := gz2 BK342
    obtain ⟨Ao62, co62, eo62⟩ := Kd.R_slice HO_343000.out
    subst eo62
    have hnb63 := NB339_338.out
    have hnc63 := NB338_339.out
    obtain ⟨hcz64_0, hcz64_1, hfz64_0, hfz64_1⟩ := gz2 BK339
    obtain ⟨Ao65, co65, eo65⟩ := Kd.N_slice HO_343001.out
    subst eo65
    go_wp2
    refine bodyPost_ret (results_cell_row rfl _ _ gb339 25 #[.slice Ao62 x343000_1.length co62, .slice Ao65 x343001_1.length co65] (0, 0) _ rfl (by (with_reducible repeat (first | refine blk_drewN ?_ _ | refine blk_drew ?_ | refine blk_alloc ?_ _)); refine blk_put (cs := #[.slice Ao62 x343000_1.length co62, .slice none 0 0]) ?_ 1 _ rfl; (with_reducible repeat (first | refine blk_drewN ?_ _ | refine blk_drew ?_ | refine blk_alloc ?_ _)); refine blk_put (cs := #[.slice none 0 0, .slice none 0 0]) ?_ 0 _ rfl; (with_reducible repeat (first | refine blk_drewN ?_ _ | refine blk_drew ?_ | refine blk_alloc ?_ _)); exact BK339.out) Try.underlying25 rfl (by kernel_rfl)) rfl ?_
    exact ⟨_, _, by first | rfl | (simp [errW_none, errW_some] <;> rfl) | (simp [*, errW_none, errW_some] <;> rfl), by (with_reducible repeat (first | apply Kd.R_alloc | apply Kd.R_drewN | apply Kd.R_drew)); exact Kd.R_mono (Kd.R_far (p := ⟨gb339, 1, none⟩) (Kd.R_far (p := ⟨gb339, 0, none⟩) (Kd.R_types HO_343000.out BK339.out (by decide)) (fun _ hk => hk.2) (.slice Ao62 x343000_1.length co62)) (fun _ hk => hk.2) (.slice Ao65 x343001_1.length co65)) (fun _ hk => hk.1), by (with_reducible repeat (first | apply Kd.N_alloc | apply Kd.N_drewN | apply Kd.N_drew)); exact Kd.N_mono (Kd.N_far (p := ⟨gb339, 1, none⟩) (Kd.N_far (p := ⟨gb339, 0, none⟩) (Kd.N_mono HO_343001.out (fun k_ hk => (⟨hk, hk.2.2.2.1⟩ : _ ∧ k_ ≠ gb339))) (fun _ hk => hk.2) (.slice Ao62 x343000_1.length co62)) (fun _ hk => hk.2) (.slice Ao65 x343001_1.length co65)) (fun _ hk => ⟨hk.1.1, hk.1.2.1⟩), by repeat (first | (with_reducible first | exact HB.out | apply below_alloc | apply pw_below_drewN | apply below_drew1 | refine below_set ?_ GE338.out | refine below_set ?_ GE339.out | refine below_set ?_ GE342.out) | exact HB.out)⟩
end Go.Proofs.Ytahgfebdjjfkhaa.P
