/- Written by a program of this session: the functions that the laws reach, what each comes to, and each law as it is stated, for every input. No condition. -/
import Derived.Test.YtdihmempaonfjaaPx0
import Derived.Test.YtdihmempaonfjaaPx1
import Derived.Test.YtdihmempaonfjaaPx3
import Derived.Test.YtdihmempaonfjaaPx5
namespace Go.Proofs.Ytdihmempaonfjaa.P
open Go.RowKit Go.Proofs.YtdihmempaonfjaaW.PrintWords Go.Proofs.YtdihmempaonfjaaW.PrintLast Go.Proofs.YtdihmempaonfjaaW.PrintMore
attribute [local go_sem] max2_int min2_int max_two min_two max_three min_three max_four min_four   -- for this text's walks alone
set_option linter.unusedVariables false
set_option linter.unusedSimpArgs false
mutual
def pick_repeated.j0 : Nat → Int → List Int → List (S45) → List Int → List (S45) → Option (List Int × (List (S45)) × Int)
 | 0, _, _, _, _, _ => none
 | k + 1, x8, x225000, x225001, x226000, x226001 => if 0 ≤ x8 then (if x8 < (x226000.length : Int) then ((pick_times.f k x225000 x225001 (rd x226000 x8)).bind fun bt234 => (if bt234.2 = 0 then ((some (([] : List Int) : List Int)).bind fun y238 => (if y238.length + x226000.length < 17592186044416 then ((some (y238 ++ x226000 : List Int)).bind fun y241 => (if x8 < (y241.length : Int) then (pick_repeated.l0 k x8 bt234.1 (bt234.1.length : Int) 0 x226000 x226001 (y241.set (x8 : Int).toNat 0)) else (none))) else (none))) else (none))) else (none)) else (none)
def pick_repeated.l0 : Nat → Int → List Int → Int → Int → List Int → List (S45) → List Int → Option (List Int × (List (S45)) × Int)
 | 0, _, _, _, _, _, _, _ => none
 | k + 1, x8, x9, x53, x54, x226000, x226001, x245000 => if x54 < x53 then (if 0 ≤ x54 then (if x54 < (x9.length : Int) then (if 0 ≤ x8 then (if x8 < (x245000.length : Int) then (pick_repeated.l0 k x8 x9 x53 (wrap64 (x54 + 1)) x226000 x226001 (x245000.set (x8 : Int).toNat (wrap64 ((rd x245000 x8) + (rd x9 x54))))) else (none)) else (none)) else (none)) else (none)) else ((arr_Size.f k x245000).bind fun bt249 => (if bt249.2 = 0 then (if 0 ≤ (wrap64 (x8 + 1)) then (if (wrap64 (x8 + 1)) ≤ (x226000.length : Int) then ((some (x226000.drop ((wrap64 (x8 + 1)) : Int).toNat : List Int)).bind fun y251 => (pick_repeated.l1 k x9 1 y251 (y251.length : Int) 0 x226000 x226001 x245000)) else (none)) else (none)) else (none)))
def pick_repeated.l1 : Nat → List Int → Int → List Int → Int → Int → List Int → List (S45) → List Int → Option (List Int × (List (S45)) × Int)
 | 0, _, _, _, _, _, _, _, _ => none
 | k + 1, x9, x16, x81, x82, x83, x226000, x226001, x245000 => if x83 < x82 then (if 0 ≤ x83 then (if x83 < (x81.length : Int) then (pick_repeated.l1 k x9 (wrap64 (x16 * (rd x81 x83))) x81 x82 (wrap64 (x83 + 1)) x226000 x226001 x245000) else (none)) else (none)) else (pick_repeated.l2 k x9 x16 0 x226000 x226001 x245000 ([] : List (S45)))
def pick_repeated.l2 : Nat → List Int → Int → Int → List Int → List (S45) → List Int → List (S45) → Option (List Int × (List (S45)) × Int)
 | 0, _, _, _, _, _, _, _ => none
 | k + 1, x9, x16, x19, x226000, x226001, x245000, x245001 => if x19 < (x226001.length : Int) then (pick_repeated.l3 k x9 x16 x19 (x9.length : Int) 0 x226000 x226001 x245000 x245001) else (some (x245000, x245001, 0))
def pick_repeated.l3 : Nat → List Int → Int → Int → Int → Int → List Int → List (S45) → List Int → List (S45) → Option (List Int × (List (S45)) × Int)
 | 0, _, _, _, _, _, _, _, _, _ => none
 | k + 1, x9, x16, x19, x103, x104, x226000, x226001, x245000, x245001 => if x104 < x103 then (if 0 ≤ x104 then (if x104 < (x9.length : Int) then (pick_repeated.l4 k x9 x16 x19 x104 x103 x104 (rd x9 x104) 0 x226000 x226001 x245000 x245001) else (none)) else (none)) else (pick_repeated.l2 k x9 x16 (wrap64 (x19 + (wrap64 ((x9.length : Int) * x16)))) x226000 x226001 x245000 x245001)
def pick_repeated.l4 : Nat → List Int → Int → Int → Int → Int → Int → Int → Int → List Int → List (S45) → List Int → List (S45) → Option (List Int × (List (S45)) × Int)
 | 0, _, _, _, _, _, _, _, _, _, _, _, _ => none
 | k + 1, x9, x16, x19, x20, x103, x104, x109, x110, x226000, x226001, x245000, x245001 => if x110 < x109 then (if 0 ≤ (wrap64 (x19 + (wrap64 (x20 * x16)))) then (if (wrap64 (x19 + (wrap64 (x20 * x16)))) ≤ (wrap64 (x19 + (wrap64 ((wrap64 (x20 + 1)) * x16)))) then (if (wrap64 (x19 + (wrap64 ((wrap64 (x20 + 1)) * x16)))) ≤ (x226001.length : Int) then ((some ((x226001.take ((wrap64 (x19 + (wrap64 ((wrap64 (x20 + 1)) * x16)))) : Int).toNat).drop ((wrap64 (x19 + (wrap64 (x20 * x16)))) : Int).toNat : List (S45))).bind fun y258 => (if x245001.length + y258.length < 3518437208883 then (pick_repeated.l4 k x9 x16 x19 x20 x103 x104 x109 (wrap64 (x110 + 1)) x226000 x226001 x245000 (x245001 ++ y258)) else (none))) else (none)) else (none)) else (none)) else (pick_repeated.l3 k x9 x16 x19 x103 (wrap64 (x104 + 1)) x226000 x226001 x245000 x245001)
end
def pick_repeated.f (k : Nat) (l0_0 : List Int) (l0_1 : List (S45)) (l1_0 : List Int) (l1_1 : List (S45)) (a2 : Bool) : Option (List Int × (List (S45)) × Int) := (pick_listed.f l1_0 l1_1).bind fun bt227 => (if a2 = true then (pick_repeated.j0 k (wrap64 ((bt227.1.length : Int) - 1)) l0_0 l0_1 bt227.1 bt227.2) else (pick_repeated.j0 k 0 l0_0 l0_1 bt227.1 bt227.2))
theorem pick_repeated.mono_l : ∀ k, (∀ y0 y1 y2 y3 y4, LeO (pick_repeated.j0 k y0 y1 y2 y3 y4) (pick_repeated.j0 (k + 1) y0 y1 y2 y3 y4)) ∧ (∀ y0 y1 y2 y3 y4 y5 y6, LeO (pick_repeated.l0 k y0 y1 y2 y3 y4 y5 y6) (pick_repeated.l0 (k + 1) y0 y1 y2 y3 y4 y5 y6)) ∧ (∀ y0 y1 y2 y3 y4 y5 y6 y7, LeO (pick_repeated.l1 k y0 y1 y2 y3 y4 y5 y6 y7) (pick_repeated.l1 (k + 1) y0 y1 y2 y3 y4 y5 y6 y7)) ∧ (∀ y0 y1 y2 y3 y4 y5 y6, LeO (pick_repeated.l2 k y0 y1 y2 y3 y4 y5 y6) (pick_repeated.l2 (k + 1) y0 y1 y2 y3 y4 y5 y6)) ∧ (∀ y0 y1 y2 y3 y4 y5 y6 y7 y8, LeO (pick_repeated.l3 k y0 y1 y2 y3 y4 y5 y6 y7 y8) (pick_repeated.l3 (k + 1) y0 y1 y2 y3 y4 y5 y6 y7 y8)) ∧ (∀ y0 y1 y2 y3 y4 y5 y6 y7 y8 y9 y10 y11, LeO (pick_repeated.l4 k y0 y1 y2 y3 y4 y5 y6 y7 y8 y9 y10 y11) (pick_repeated.l4 (k + 1) y0 y1 y2 y3 y4 y5 y6 y7 y8 y9 y10 y11))
 | 0 => ⟨fun _ _ _ _ _ r h => by simp [pick_repeated.j0] at h, fun _ _ _ _ _ _ _ r h => by simp [pick_repeated.l0] at h, fun _ _ _ _ _ _ _ _ r h => by simp [pick_repeated.l1] at h, fun _ _ _ _ _ _ _ r h => by simp [pick_repeated.l2] at h, fun _ _ _ _ _ _ _ _ _ r h => by simp [pick_repeated.l3] at h, fun _ _ _ _ _ _ _ _ _ _ _ _ r h => by simp [pick_repeated.l4] at h⟩
 | k + 1 => by
  obtain ⟨ih0, ih1, ih2, ih3, ih4, ih5⟩ := pick_repeated.mono_l k
  refine ⟨?_, ?_, ?_, ?_, ?_, ?_⟩
  ·intro y0 y1 y2 y3 y4
   unfold pick_repeated.j0
   repeat' first
   | (with_reducible exact ih0 _ _ _ _ _)
   | (with_reducible exact ih1 _ _ _ _ _ _ _)
   | (with_reducible exact ih2 _ _ _ _ _ _ _ _)
   | (with_reducible exact ih3 _ _ _ _ _ _ _)
   | (with_reducible exact ih4 _ _ _ _ _ _ _ _ _)
   | (with_reducible exact ih5 _ _ _ _ _ _ _ _ _ _ _ _)
   | (with_reducible exact arr_Size.mono _ _)
   | (with_reducible exact pick_times.mono _ _ _ _)
   | (with_reducible exact LeO.refl _)
   | (with_reducible exact LeO.none _)
   | (with_reducible refine LeO.ite ?_ ?_)
   | (with_reducible refine LeO.bind ?_ (fun _ => ?_))






   | exact arr_Size.mono _ _
   | exact pick_times.mono _ _ _ _



  ·intro y0 y1 y2 y3 y4 y5 y6
   unfold pick_repeated.l0
   repeat' first
   | (with_reducible exact ih0 _ _ _ _ _)
   | (with_reducible exact ih1 _ _ _ _ _ _ _)
   | (with_reducible exact ih2 _ _ _ _ _ _ _ _)
   | (with_reducible exact ih3 _ _ _ _ _ _ _)
   | (with_reducible exact ih4 _ _ _ _ _ _ _ _ _)
   | (with_reducible exact ih5 _ _ _ _ _ _ _ _ _ _ _ _)
   | (with_reducible exact arr_Size.mono _ _)
   | (with_reducible exact pick_times.mono _ _ _ _)
   | (with_reducible exact LeO.refl _)
   | (with_reducible exact LeO.none _)
   | (with_reducible refine LeO.ite ?_ ?_)
   | (with_reducible refine LeO.bind ?_ (fun _ => ?_))






   | exact arr_Size.mono _ _
   | exact pick_times.mono _ _ _ _



  ·intro y0 y1 y2 y3 y4 y5 y6 y7
   unfold pick_repeated.l1
   repeat' first
   | (with_reducible exact ih0 _ _ _ _ _)
   | (with_reducible exact ih1 _ _ _ _ _ _ _)
   | (with_reducible exact ih2 _ _ _ _ _ _ _ _)
   | (with_reducible exact ih3 _ _ _ _ _ _ _)
   | (with_reducible exact ih4 _ _ _ _ _ _ _ _ _)
   | (with_reducible exact ih5 _ _ _ _ _ _ _ _ _ _ _ _)
   | (with_reducible exact arr_Size.mono _ _)
   | (with_reducible exact pick_times.mono _ _ _ _)
   | (with_reducible exact LeO.refl _)
   | (with_reducible exact LeO.none _)
   | (with_reducible refine LeO.ite ?_ ?_)
   | (with_reducible refine LeO.bind ?_ (fun _ => ?_))






   | exact arr_Size.mono _ _
   | exact pick_times.mono _ _ _ _



  ·intro y0 y1 y2 y3 y4 y5 y6
   unfold pick_repeated.l2
   repeat' first
   | (with_reducible exact ih0 _ _ _ _ _)
   | (with_reducible exact ih1 _ _ _ _ _ _ _)
   | (with_reducible exact ih2 _ _ _ _ _ _ _ _)
   | (with_reducible exact ih3 _ _ _ _ _ _ _)
   | (with_reducible exact ih4 _ _ _ _ _ _ _ _ _)
   | (with_reducible exact ih5 _ _ _ _ _ _ _ _ _ _ _ _)
   | (with_reducible exact arr_Size.mono _ _)
   | (with_reducible exact pick_times.mono _ _ _ _)
   | (with_reducible exact LeO.refl _)
   | (with_reducible exact LeO.none _)
   | (with_reducible refine LeO.ite ?_ ?_)
   | (with_reducible refine LeO.bind ?_ (fun _ => ?_))






   | exact arr_Size.mono _ _
   | exact pick_times.mono _ _ _ _



  ·intro y0 y1 y2 y3 y4 y5 y6 y7 y8
   unfold pick_repeated.l3
   repeat' first
   | (with_reducible exact ih0 _ _ _ _ _)
   | (with_reducible exact ih1 _ _ _ _ _ _ _)
   | (with_reducible exact ih2 _ _ _ _ _ _ _ _)
   | (with_reducible exact ih3 _ _ _ _ _ _ _)
   | (with_reducible exact ih4 _ _ _ _ _ _ _ _ _)
   | (with_reducible exact ih5 _ _ _ _ _ _ _ _ _ _ _ _)
   | (with_reducible exact arr_Size.mono _ _)
   | (with_reducible exact pick_times.mono _ _ _ _)
   | (with_reducible exact LeO.refl _)
   | (with_reducible exact LeO.none _)
   | (with_reducible refine LeO.ite ?_ ?_)
   | (with_reducible refine LeO.bind ?_ (fun _ => ?_))






   | exact arr_Size.mono _ _
   | exact pick_times.mono _ _ _ _



  ·intro y0 y1 y2 y3 y4 y5 y6 y7 y8 y9 y10 y11
   unfold pick_repeated.l4
   repeat' first
   | (with_reducible exact ih0 _ _ _ _ _)
   | (with_reducible exact ih1 _ _ _ _ _ _ _)
   | (with_reducible exact ih2 _ _ _ _ _ _ _ _)
   | (with_reducible exact ih3 _ _ _ _ _ _ _)
   | (with_reducible exact ih4 _ _ _ _ _ _ _ _ _)
   | (with_reducible exact ih5 _ _ _ _ _ _ _ _ _ _ _ _)
   | (with_reducible exact arr_Size.mono _ _)
   | (with_reducible exact pick_times.mono _ _ _ _)
   | (with_reducible exact LeO.refl _)
   | (with_reducible exact LeO.none _)
   | (with_reducible refine LeO.ite ?_ ?_)
   | (with_reducible refine LeO.bind ?_ (fun _ => ?_))






   | exact arr_Size.mono _ _
   | exact pick_times.mono _ _ _ _
theorem pick_repeated.mono : ∀ a0 a1 a2 a3 a4 k, LeO (pick_repeated.f k a0 a1 a2 a3 a4) (pick_repeated.f (k + 1) a0 a1 a2 a3 a4) := by
 intro a0 a1 a2 a3 a4 k
 obtain ⟨ih0, ih1, ih2, ih3, ih4, ih5⟩ := pick_repeated.mono_l k
 unfold pick_repeated.f
 repeat' first
   | (with_reducible exact ih0 _ _ _ _ _)
   | (with_reducible exact ih1 _ _ _ _ _ _ _)
   | (with_reducible exact ih2 _ _ _ _ _ _ _ _)
   | (with_reducible exact ih3 _ _ _ _ _ _ _)
   | (with_reducible exact ih4 _ _ _ _ _ _ _ _ _)
   | (with_reducible exact ih5 _ _ _ _ _ _ _ _ _ _ _ _)
   | (with_reducible exact arr_Size.mono _ _)
   | (with_reducible exact pick_times.mono _ _ _ _)
   | (with_reducible exact LeO.refl _)
   | (with_reducible exact LeO.none _)
   | (with_reducible refine LeO.ite ?_ ?_)
   | (with_reducible refine LeO.bind ?_ (fun _ => ?_))






   | exact arr_Size.mono _ _
   | exact pick_times.mono _ _ _ _
def pick_repeated.T5 : Bool × List (List Nat × List Nat) := (true, [([], []), ([], []), ([1], [1]), ([], []), ([2, 3], [2, 3]), ([4], [4]), ([0, 5], [0, 5]), ([6], [6]), ([7], [7]), ([7], [7]), ([8, 6, 0, 1, 2, 3, 4, 5, 6, 7, 8], [8]), ([9, 10, 0, 1, 2, 3, 4, 5, 6, 7, 8, 9, 10], [9])])
def pick_repeated.B5 : List Nat := [0, 0, 2, 0, 14, 30, 63, 127, 255, 255, 511, 2047]
theorem pick_repeated.tab5 : rtab .any (opsOf Try.f23 5) = pick_repeated.T5 := by kernel_rfl
theorem pick_repeated.bits5 : waitsOk pick_repeated.T5.2 pick_repeated.B5 = true := by kernel_rfl
def pick_repeated.T32 : Bool × List (List Nat × List Nat) := (true, [([], []), ([0], [0]), ([], []), ([2], [2]), ([], []), ([], []), ([], []), ([5, 6], [5, 6]), ([4, 7], [4, 7]), ([], []), ([], []), ([10], [10]), ([], []), ([11, 12], [11, 12]), ([9, 13], [9, 13]), ([3, 8, 14], [3, 8, 14]), ([1, 15], [1, 15]), ([0, 1, 2, 3, 4, 5, 6, 7, 8, 9, 10, 11, 12, 13, 14, 15, 16], []), ([17, 16, 16, 0, 1, 2, 3, 4, 5, 6, 7, 8, 9, 10, 11, 12, 13, 14, 15, 16], [16, 17])])
def pick_repeated.B32 : List Nat := [0, 1, 0, 4, 0, 0, 0, 96, 240, 0, 0, 1024, 0, 7168, 15872, 32764, 65535, 131071, 262143]
theorem pick_repeated.tab32 : rtab .any (opsOf Try.f23 32) = pick_repeated.T32 := by kernel_rfl
theorem pick_repeated.bits32 : waitsOk pick_repeated.T32.2 pick_repeated.B32 = true := by kernel_rfl
set_option maxHeartbeats 8000000 in
set_option maxRecDepth 100000 in
theorem pick_repeated.calls (k : Nat) (A0_0 : Option Addr) (c0_0 : Nat) (l0_0 : List Int) (A0_1 : Option Addr) (c0_1 : Nat) (l0_1 : List (S45)) (P1_0_ : Nat → Prop) (A1_0 : Option Addr) (c1_0 : Nat) (l1_0 : List Int) (P1_1_ : Nat → Prop) (A1_1 : Option Addr) (c1_1 : Nat) (l1_1 : List (S45)) (a2 : Bool) (r1 : List Int) (r2 : List (S45)) (r3 : Int) (w : World) (hr0_0 : Kd.C (Kd.int .i64) w A0_0 l0_0.length l0_0) (hc0_0 : l0_0.length ≤ c0_0) (hr0_1 : Kd.C k45 w A0_1 l0_1.length l0_1) (hc0_1 : l0_1.length ≤ c0_1) (hs1_0 : Kd.V (Kd.int .i64) 3 w w.heap.size (fun k_ => P1_0_ k_) (.slice A1_0 l1_0.length c1_0) l1_0) (hs1_1 : Kd.V k45 45 w w.heap.size (fun k_ => P1_1_ k_) (.slice A1_1 l1_1.length c1_1) l1_1) (h : pick_repeated.f k l0_0 l0_1 l1_0 l1_1 a2 = some (r1, r2, r3)) :
  Calls Try.prog 23 #[.agg #[.slice A0_0 l0_0.length c0_0, .slice A0_1 l0_1.length c0_1], .agg #[.slice A1_0 l1_0.length c1_0, .slice A1_1 l1_1.length c1_1], .bool a2] w fun e w' => ∃ v0_ v1_ : Value, e = .returned (.tuple #[.agg #[v0_, v1_], .int .i64 r3]) ∧ Kd.R (Kd.int .i64) 3 w' w.heap.size (fun k_ => (w.heap.size ≤ k_)) v0_ r1 ∧ Kd.N k45 45 w' w.heap.size (fun k_ => ((P1_0_ k_ ∨ P1_1_ k_) ∨ w.heap.size ≤ k_) ∧ some k_ ≠ (v0_ : Value).ownBlock) v1_ r2 ∧ Below w.heap.size w w' := by
 have hu25 := Try.underlying25
 have HR0_0 := gA hr0_0
 have HC0_0 := gA hc0_0
 clear hr0_0 hc0_0
 have HR0_1 := gA hr0_1
 have HC0_1 := gA hc0_1
 clear hr0_1 hc0_1
 have HO1_0 := gA (show Kd.V (Kd.int .i64) 3 w w.heap.size (fun k_ => ((P1_0_ k_ ∨ P1_1_ k_) ∨ w.heap.size ≤ k_)) (.slice A1_0 l1_0.length c1_0) l1_0 from Kd.V_mono hs1_0 (fun k_ hk => .inl (.inl hk)))
 have HO1_1 := gA (show Kd.V k45 45 w w.heap.size (fun k_ => ((P1_0_ k_ ∨ P1_1_ k_) ∨ w.heap.size ≤ k_)) (.slice A1_1 l1_1.length c1_1) l1_1 from Kd.V_mono hs1_1 (fun k_ hk => .inl (.inr hk)))
 have HB := gA (Below.refl w.heap.size w)
 have H : ((pick_listed.f l1_0 l1_1).bind fun bt227 => (if a2 = true then (pick_repeated.j0 k (wrap64 ((bt227.1.length : Int) - 1)) l0_0 l0_1 bt227.1 bt227.2) else (pick_repeated.j0 k 0 l0_0 l0_1 bt227.1 bt227.2))) = some (r1, r2, r3) := h
 clear h
 replace H := Option.bind_eq_some_iff.mp H
 obtain ⟨⟨t227, t230⟩, A40, H⟩ := H
 replace H : (if a2 = true then (pick_repeated.j0 k (wrap64 ((t227.length : Int) - 1)) l0_0 l0_1 t227 t230) else (pick_repeated.j0 k 0 l0_0 l0_1 t227 t230)) = some (r1, r2, r3) := H
 have A4 := gA A40
 clear A40
 have HC5 := gA H
 clear H
 go_enter Try.func23, Try.ntmps23
 go_upto_if 24 with (first | ((with_reducible refine gate_dst (N := 3) rfl ?_); refine box_event ?hg (N := 3) ?hd (cs := #[.slice A0_0 l0_0.length c0_0, .slice A0_1 l0_1.length c0_1]) (t := 25) ?hr ?_; (case hd => rfl); (case hg => rfl); (case hr => first | (go_simp; done) | (go_simp; rfl)); intro gb224 hg w6 hbox hb; replace HO1_0 := gA (Kd.V_below (Kd.V_elderB (gV HO1_0) gb224 (Nat.le_of_eq hg.symm)) hb); replace HO1_1 := gA (Kd.V_below (Kd.V_elderB (gV HO1_1) gb224 (Nat.le_of_eq hg.symm)) hb); have BK224 := gA (hbox); have GW224 := gA ((by rw [hg]; exact (below_size (gB HB)) : w.heap.size ≤ gb224)); have GE224 := gA ((by rw [hg]; exact (below_size (gB HB)) : w.heap.size ≤ gb224)); replace HB := gA (below_step (gB HB) hb); clear hb hbox hg) | ((with_reducible refine gate_dst (N := 4) rfl ?_); refine box_event ?hg (N := 4) ?hd (cs := #[.slice A1_0 l1_0.length c1_0, .slice A1_1 l1_1.length c1_1]) (t := 25) ?hr ?_; (case hd => rfl); (case hg => rfl); (case hr => first | (go_simp; done) | (go_simp; rfl)); intro gb225 hg w7 hbox hb; replace HO1_0 := gA (Kd.V_below (Kd.V_elderB (gV HO1_0) gb225 (Nat.le_of_eq hg.symm)) hb); replace HO1_1 := gA (Kd.V_below (Kd.V_elderB (gV HO1_1) gb225 (Nat.le_of_eq hg.symm)) hb); have BK225 := gA (hbox); have GW225 := gA ((by rw [hg]; exact (below_size (gB HB)) : w.heap.size ≤ gb225)); have GE225 := gA ((by rw [hg]; exact (below_size (gB HB)) : w.heap.size ≤ gb225)); replace HB := gA (below_step (gB HB) hb); have NB224_225 := gA ((by rw [hg]; exact Nat.ne_of_lt (blk_lt (gK BK224)) : gb224 ≠ gb225)); have NB225_224 := gA ((by rw [hg]; exact Nat.ne_of_gt (blk_lt (gK BK224)) : gb225 ≠ gb224)); replace BK224 := gA (blk_below (gK BK224) hb); clear hb hbox hg) | ((with_reducible refine gate_dst (N := 6) rfl ?_); refine box_event ?hg (N := 6) ?hd (cs := #[.slice none 0 0, .slice none 0 0]) (t := 25) ?hr ?_; (case hd => rfl); (case hg => rfl); (case hr => first | (go_simp; done) | (go_simp; rfl)); intro gb226 hg w8 hbox hb; replace HO1_0 := gA (Kd.V_below (Kd.V_elderB (gV HO1_0) gb226 (Nat.le_of_eq hg.symm)) hb); replace HO1_1 := gA (Kd.V_below (Kd.V_elderB (gV HO1_1) gb226 (Nat.le_of_eq hg.symm)) hb); have BK226 := gA (hbox); have GW226 := gA ((by rw [hg]; exact (below_size (gB HB)) : w.heap.size ≤ gb226)); have GE226 := gA ((by rw [hg]; exact (below_size (gB HB)) : w.heap.size ≤ gb226)); replace HB := gA (below_step (gB HB) hb); have NB224_226 := gA ((by rw [hg]; exact Nat.ne_of_lt (blk_lt (gK BK224)) : gb224 ≠ gb226)); have NB226_224 := gA ((by rw [hg]; exact Nat.ne_of_gt (blk_lt (gK BK224)) : gb226 ≠ gb224)); replace BK224 := gA (blk_below (gK BK224) hb); have NB225_226 := gA ((by rw [hg]; exact Nat.ne_of_lt (blk_lt (gK BK225)) : gb225 ≠ gb226)); have NB226_225 := gA ((by rw [hg]; exact Nat.ne_of_gt (blk_lt (gK BK225)) : gb226 ≠ gb225)); replace BK225 := gA (blk_below (gK BK225) hb); clear hb hbox hg; have hnb9 := NB225_224.out; have hnc9 := NB224_225.out; have hnb10 := NB225_226.out; have hnc10 := NB226_225.out; obtain ⟨hcz11_0, hcz11_1, hfz11_0, hfz11_1⟩ := gz2 BK225) | ((with_reducible refine gate_callee (f := 43) rfl ?_); refine goesL_ (some 23) rfl rfl Try.func43 (by kernel_rfl) rfl #[.agg #[.slice A1_0 l1_0.length c1_0, .slice A1_1 l1_1.length c1_1]] rfl (by (try simp only [List.map_toArray, List.map_cons, List.map_nil]); first | done | rfl | (simp only [List.length_drop, List.length_take]; rfl)) ?_; (with_reducible refine (pick_listed.calls (fun k_ => (((((P1_0_ k_ ∨ P1_1_ k_) ∨ w.heap.size ≤ k_) ∧ k_ ≠ gb224) ∧ k_ ≠ gb225) ∧ k_ ≠ gb226)) _ _ l1_0 (fun k_ => (((((P1_0_ k_ ∨ P1_1_ k_) ∨ w.heap.size ≤ k_) ∧ k_ ≠ gb224) ∧ k_ ≠ gb225) ∧ k_ ≠ gb226)) _ _ l1_1 t227 t230 _ ?side1 ?side2 A4.out).mono ?_); (case side1 => exact HO1_0.out); (case side2 => exact HO1_1.out); rintro e w12 ⟨v228, v231, rfl, ho0, ho1, hb⟩; refine ⟨_, rfl, ?_⟩; replace HO1_0 := gA (Kd.V_below (gV HO1_0) hb); replace HO1_1 := gA (Kd.V_below (gV HO1_1) hb); have HO229 := gA (Kd.V_lower (Kd.V_mono (ok' := fun k_ => ((P1_0_ k_ ∨ P1_1_ k_) ∨ w.heap.size ≤ k_) ∧ k_ ≠ gb224 ∧ k_ ≠ gb225 ∧ k_ ≠ gb226) ho0 (fun k_ hk_ => ⟨Or.elim hk_ (fun hs_ => Or.elim hs_ (fun hs_ => hs_.1.1.1) (fun hs_ => hs_.1.1.1)) (fun hn_ => (.inr (Nat.le_trans (below_size (gB HB)) hn_))), Or.elim hk_ (fun hs_ => Or.elim hs_ (fun hs_ => hs_.1.1.2) (fun hs_ => hs_.1.1.2)) (fun hn_ => (Kd.freshB (gK BK224) k_ hn_)), Or.elim hk_ (fun hs_ => Or.elim hs_ (fun hs_ => hs_.1.2) (fun hs_ => hs_.1.2)) (fun hn_ => (Kd.freshB (gK BK225) k_ hn_)), Or.elim hk_ (fun hs_ => Or.elim hs_ (fun hs_ => hs_.2) (fun hs_ => hs_.2)) (fun hn_ => (Kd.freshB (gK BK226) k_ hn_))⟩)) (below_size (gB HB))); have HO232 := gA (Kd.V_lower (Kd.V_mono (ok' := fun k_ => ((P1_0_ k_ ∨ P1_1_ k_) ∨ w.heap.size ≤ k_) ∧ k_ ≠ gb224 ∧ k_ ≠ gb225 ∧ k_ ≠ gb226) ho1 (fun k_ hk_ => ⟨Or.elim hk_ (fun hs_ => Or.elim hs_ (fun hs_ => hs_.1.1.1) (fun hs_ => hs_.1.1.1)) (fun hn_ => (.inr (Nat.le_trans (below_size (gB HB)) hn_))), Or.elim hk_ (fun hs_ => Or.elim hs_ (fun hs_ => hs_.1.1.2) (fun hs_ => hs_.1.1.2)) (fun hn_ => (Kd.freshB (gK BK224) k_ hn_)), Or.elim hk_ (fun hs_ => Or.elim hs_ (fun hs_ => hs_.1.2) (fun hs_ => hs_.1.2)) (fun hn_ => (Kd.freshB (gK BK225) k_ hn_)), Or.elim hk_ (fun hs_ => Or.elim hs_ (fun hs_ => hs_.2) (fun hs_ => hs_.2)) (fun hn_ => (Kd.freshB (gK BK226) k_ hn_))⟩)) (below_size (gB HB))); replace BK224 := gA (blk_below (gK BK224) hb); replace BK225 := gA (blk_below (gK BK225) hb); replace BK226 := gA (blk_below (gK BK226) hb); replace HB := gA (below_step (gB HB) hb); (try clear hb); (try clear ho0); (try clear ho1); obtain ⟨Ao13, co13, eo13⟩ := Kd.V_slice HO229.out; subst eo13; obtain ⟨hcz14_0, hcz14_1, hfz14_0, hfz14_1⟩ := gz2 BK225; obtain ⟨Ao15, co15, eo15⟩ := Kd.V_slice HO232.out; subst eo15))
 (try simp only [Act.put, List.setIfInBounds_toArray, List.set_cons_zero, List.set_cons_succ])
 go_cut [8] (fun v8 wc => ∃ (kq : Nat) (x8_4 : Int), v8 = .int .i64 x8_4 ∧ Aside0 (pick_repeated.j0 kq x8_4 l0_0 l0_1 t227 t230 = some (r1, r2, r3)) ∧ Aside0 (kq ≤ k) ∧ Aside0 (Kd.V (Kd.int .i64) 3 wc w.heap.size (fun k_ => ((P1_0_ k_ ∨ P1_1_ k_) ∨ w.heap.size ≤ k_) ∧ k_ ≠ gb224 ∧ k_ ≠ gb225 ∧ k_ ≠ gb226) (.slice Ao13 t227.length co13) t227) ∧ Aside0 (Kd.V k45 45 wc w.heap.size (fun k_ => ((P1_0_ k_ ∨ P1_1_ k_) ∨ w.heap.size ≤ k_) ∧ k_ ≠ gb224 ∧ k_ ≠ gb225 ∧ k_ ≠ gb226) (.slice Ao15 t230.length co15) t230) ∧ Aside0 (wc.heap[gb224]? = some (.cells #[(.slice A0_0 l0_0.length c0_0), (.slice A0_1 l0_1.length c0_1)] 25 (0, 0))) ∧ Aside0 (wc.heap[gb225]? = some (.cells #[(.slice Ao13 t227.length co13), (.slice Ao15 t230.length co15)] 25 (0, 0))) ∧ Aside0 (wc.heap[gb226]? = some (.cells #[(.slice none 0 0), (.slice none 0 0)] 25 (0, 0))) ∧ Aside0 (Below w.heap.size w wc))
 case first =>
  have H := HC5.out; clear HC5
  by_cases c16 : a2 = true
  ·subst c16
   have H1 : (pick_repeated.j0 k (wrap64 ((t227.length : Int) - 1)) l0_0 l0_1 t227 t230) = some (r1, r2, r3) := by rw [if_pos rfl] at H; exact H
   clear H; have H := H1; clear H1
   have H' := gA H
   clear H
   have hnb17 := NB225_224.out
   have hnc17 := NB224_225.out
   have hnb18 := NB225_226.out
   have hnc18 := NB226_225.out
   obtain ⟨hcz19_0, hcz19_1, hfz19_0, hfz19_1⟩ := gz2 BK225
   go_wp2
   all_goals (go_meet; (case rel => exact ⟨_, (wrap64 ((t227.length : Int) - 1)), (by first | rfl | (simp; done) | (simp [*]; done) | (exfalso; simp_all; done) | (exfalso; simp_all; omega)), H', ⟨by first | omega | exact Nat.le_refl _⟩, ⟨Kd.V_mono (Kd.V_far (p := ⟨gb225, 1, none⟩) (Kd.V_far (p := ⟨gb225, 0, none⟩) (Kd.V_mono HO229.out (fun k_ hk => (⟨hk, hk.2.2.1⟩ : _ ∧ k_ ≠ gb225))) (fun _ hk => hk.2) (.slice Ao13 t227.length co13)) (fun _ hk => hk.2) (.slice Ao15 t230.length co15)) (fun _ hk => ⟨hk.1.1, ⟨hk.1.2.1, ⟨hk.1.2.2.1, hk.1.2.2.2⟩⟩⟩)⟩, ⟨Kd.V_mono (Kd.V_far (p := ⟨gb225, 1, none⟩) (Kd.V_far (p := ⟨gb225, 0, none⟩) (Kd.V_mono HO232.out (fun k_ hk => (⟨hk, hk.2.2.1⟩ : _ ∧ k_ ≠ gb225))) (fun _ hk => hk.2) (.slice Ao13 t227.length co13)) (fun _ hk => hk.2) (.slice Ao15 t230.length co15)) (fun _ hk => ⟨hk.1.1, ⟨hk.1.2.1, ⟨hk.1.2.2.1, hk.1.2.2.2⟩⟩⟩)⟩, ⟨by (with_reducible repeat (first | refine blk_drewN ?_ _ | refine blk_drew ?_ | refine blk_alloc ?_ _)); refine blk_far ?_ NB224_225.out _; (with_reducible repeat (first | refine blk_drewN ?_ _ | refine blk_drew ?_ | refine blk_alloc ?_ _)); refine blk_far ?_ NB224_225.out _; exact gK BK224⟩, ⟨by (with_reducible repeat (first | refine blk_drewN ?_ _ | refine blk_drew ?_ | refine blk_alloc ?_ _)); refine blk_put (cs := #[.slice Ao13 t227.length co13, .slice A1_1 l1_1.length c1_1]) ?_ 1 _ rfl; (with_reducible repeat (first | refine blk_drewN ?_ _ | refine blk_drew ?_ | refine blk_alloc ?_ _)); refine blk_put (cs := #[.slice A1_0 l1_0.length c1_0, .slice A1_1 l1_1.length c1_1]) ?_ 0 _ rfl; exact gK BK225⟩, ⟨by (with_reducible repeat (first | refine blk_drewN ?_ _ | refine blk_drew ?_ | refine blk_alloc ?_ _)); refine blk_far ?_ NB226_225.out _; (with_reducible repeat (first | refine blk_drewN ?_ _ | refine blk_drew ?_ | refine blk_alloc ?_ _)); refine blk_far ?_ NB226_225.out _; exact gK BK226⟩, ⟨by repeat first | exact gB HB | refine below_set ?_ GE224.out | refine below_set ?_ GE225.out | refine below_set ?_ GE226.out⟩⟩))
  ·replace c16 := Bool.eq_false_iff.mpr c16
   subst c16
   have H1 : (pick_repeated.j0 k 0 l0_0 l0_1 t227 t230) = some (r1, r2, r3) := by rw [if_neg (show ¬ (false = true) by decide)] at H; exact H
   clear H; have H := H1; clear H1
   have H' := gA H
   clear H
   go_wp2
   all_goals (go_meet; (case rel => exact ⟨_, (0), (by first | rfl | (simp; done) | (simp [*]; done) | (exfalso; simp_all; done) | (exfalso; simp_all; omega)), H', ⟨by first | omega | exact Nat.le_refl _⟩, ⟨Kd.V_mono (Kd.V_far (p := ⟨gb225, 1, none⟩) (Kd.V_far (p := ⟨gb225, 0, none⟩) (Kd.V_mono HO229.out (fun k_ hk => (⟨hk, hk.2.2.1⟩ : _ ∧ k_ ≠ gb225))) (fun _ hk => hk.2) (.slice Ao13 t227.length co13)) (fun _ hk => hk.2) (.slice Ao15 t230.length co15)) (fun _ hk => ⟨hk.1.1, ⟨hk.1.2.1, ⟨hk.1.2.2.1, hk.1.2.2.2⟩⟩⟩)⟩, ⟨Kd.V_mono (Kd.V_far (p := ⟨gb225, 1, none⟩) (Kd.V_far (p := ⟨gb225, 0, none⟩) (Kd.V_mono HO232.out (fun k_ hk => (⟨hk, hk.2.2.1⟩ : _ ∧ k_ ≠ gb225))) (fun _ hk => hk.2) (.slice Ao13 t227.length co13)) (fun _ hk => hk.2) (.slice Ao15 t230.length co15)) (fun _ hk => ⟨hk.1.1, ⟨hk.1.2.1, ⟨hk.1.2.2.1, hk.1.2.2.2⟩⟩⟩)⟩, ⟨by (with_reducible repeat (first | refine blk_drewN ?_ _ | refine blk_drew ?_ | refine blk_alloc ?_ _)); refine blk_far ?_ NB224_225.out _; (with_reducible repeat (first | refine blk_drewN ?_ _ | refine blk_drew ?_ | refine blk_alloc ?_ _)); refine blk_far ?_ NB224_225.out _; exact gK BK224⟩, ⟨by (with_reducible repeat (first | refine blk_drewN ?_ _ | refine blk_drew ?_ | refine blk_alloc ?_ _)); refine blk_put (cs := #[.slice Ao13 t227.length co13, .slice A1_1 l1_1.length c1_1]) ?_ 1 _ rfl; (with_reducible repeat (first | refine blk_drewN ?_ _ | refine blk_drew ?_ | refine blk_alloc ?_ _)); refine blk_put (cs := #[.slice A1_0 l1_0.length c1_0, .slice A1_1 l1_1.length c1_1]) ?_ 0 _ rfl; exact gK BK225⟩, ⟨by (with_reducible repeat (first | refine blk_drewN ?_ _ | refine blk_drew ?_ | refine blk_alloc ?_ _)); refine blk_far ?_ NB226_225.out _; (with_reducible repeat (first | refine blk_drewN ?_ _ | refine blk_drew ?_ | refine blk_alloc ?_ _)); refine blk_far ?_ NB226_225.out _; exact gK BK226⟩, ⟨by repeat first | exact gB HB | refine below_set ?_ GE224.out | refine below_set ?_ GE225.out | refine below_set ?_ GE226.out⟩⟩))
 case rest =>
  clear HC5
  try clear c1
  try clear c2
  try clear p2
  try clear c4
  try clear p6
  try clear c9
  try clear c10
  try clear c16
  try clear c17
  try clear c18
  try clear hcz11_0
  try clear hcz11_1
  try clear hcz14_0
  try clear hcz14_1
  try clear hcz19_0
  try clear hcz19_1
  try clear hfz11_0
  try clear hfz11_1
  try clear hfz14_0
  try clear hfz14_1
  try clear hfz19_0
  try clear hfz19_1
  obtain ⟨kq, x8_4, rfl, HA, HJ4, HO_226000, HO_226001, BK224, BK225, BK226, HB⟩ := hcut
  cases kq with
  | zero => exact absurd HA.out (by simp [pick_repeated.j0])
  | succ kj4 =>
   have H := HA.out; clear HA
   simp only [pick_repeated.j0] at H
   obtain ⟨c20, H⟩ := iS H
   have c20b0 := decide_eq_true c20; have c20b0z := c20b0; (try rw [hl9_2] at c20b0z)
   clear c20
   obtain ⟨c21, H⟩ := iS H
   have c21b0 := decide_eq_true c21; have c21b0z := c21b0; (try rw [hl9_2] at c21b0z)
   clear c21
   replace H := Option.bind_eq_some_iff.mp H
   obtain ⟨⟨t234, t237⟩, A220, H⟩ := H
   replace H : (if t237 = 0 then ((some (([] : List Int) : List Int)).bind fun y238 => (if y238.length + t227.length < 17592186044416 then ((some (y238 ++ t227 : List Int)).bind fun y241 => (if x8_4 < (y241.length : Int) then (pick_repeated.l0 kj4 x8_4 t234 (t234.length : Int) 0 t227 t230 (y241.set (x8_4 : Int).toNat 0)) else (none))) else (none))) else (none)) = some (r1, r2, r3) := H
   have A22 := gA A220
   clear A220
   obtain ⟨c23, H⟩ := iS H
   have c23b0 : (t237 == 0) = true := beq_iff_eq.mpr c23
   have c23b1 : (t237 != 0) = false := bne_eq_false_iff_eq.mpr c23
   clear c23
   obtain ⟨y238, hy238⟩ : ∃ y_ : List Int, y_ = (([] : List Int)) := ⟨_, rfl⟩
   replace H : (if y238.length + t227.length < 17592186044416 then ((some (y238 ++ t227 : List Int)).bind fun y241 => (if x8_4 < (y241.length : Int) then (pick_repeated.l0 kj4 x8_4 t234 (t234.length : Int) 0 t227 t230 (y241.set (x8_4 : Int).toNat 0)) else (none))) else (none)) = some (r1, r2, r3) := by first | (rw [hy238]; with_reducible exact H) | (have H2_ := (Option.bind_some _ _).symm.trans H; rw [hy238]; with_reducible exact H2_) | (have H2_ := (Option.bind_some _ _).symm.trans H; with_reducible exact H2_) | with_reducible exact H | (rw [hy238]; exact H) | exact H
   have Ny238 := gA hy238
   clear hy238
   obtain ⟨c24, H⟩ := iS H
   have LMc24 := gA c24
   clear c24
   obtain ⟨y241, hy241⟩ : ∃ y_ : List Int, y_ = (y238 ++ t227) := ⟨_, rfl⟩
   replace H : (if x8_4 < (y241.length : Int) then (pick_repeated.l0 kj4 x8_4 t234 (t234.length : Int) 0 t227 t230 (y241.set (x8_4 : Int).toNat 0)) else (none)) = some (r1, r2, r3) := by first | (rw [hy241]; with_reducible exact H) | (have H2_ := (Option.bind_some _ _).symm.trans H; rw [hy241]; with_reducible exact H2_) | (have H2_ := (Option.bind_some _ _).symm.trans H; with_reducible exact H2_) | with_reducible exact H | (rw [hy241]; exact H) | exact H
   have Ny241 := gA hy241
   clear hy241
   obtain ⟨c25, H⟩ := iS H
   have c25b0 := decide_eq_true c25; have c25b0z := c25b0; (try rw [hl9_2] at c25b0z)
   clear c25
   obtain ⟨y245, hy245⟩ : ∃ y_ : List Int, y_ = (y241.set (x8_4 : Int).toNat 0) := ⟨_, rfl⟩
   replace H : (pick_repeated.l0 kj4 x8_4 t234 (t234.length : Int) 0 t227 t230 y245) = some (r1, r2, r3) := by first | (rw [hy245]; with_reducible exact H) | (have H2_ := (Option.bind_some _ _).symm.trans H; rw [hy245]; with_reducible exact H2_) | (have H2_ := (Option.bind_some _ _).symm.trans H; with_reducible exact H2_) | with_reducible exact H | (rw [hy245]; exact H) | exact H
   have Ny245 := gA hy245
   clear hy245
   have H' := gA H
   clear H
   try go_wp2
   replace HO_226000 := gA (Kd.V_drew HO_226000.out); replace HO_226001 := gA (Kd.V_drew HO_226001.out); replace BK224 := gA (blk_drew BK224.out); replace BK225 := gA (blk_drew BK225.out); replace BK226 := gA (blk_drew BK226.out); replace HB := gA (below_drew1 HB.out)
   have p233 : 0 ≤ (x8_4 : Int) := of_decide_eq_true (by assumption)
   have q233 : x8_4 < (t227.length : Int) := of_decide_eq_true (by assumption)
   obtain ⟨ad233, e233, hx233_0⟩ := Kd.at_int (Kd.V_reads' HO_226000.out).2.2 x8_4 p233 q233
   cases e233
   replace p233 := eq_true p233
   replace q233 := eq_true q233
   refine start_ (n := 12) (S := fun w' => w'.cell? ⟨gb224, 0, none⟩ = some (.slice A0_0 l0_0.length c0_0) ∧ w'.cell? ⟨gb224, 1, none⟩ = some (.slice A0_1 l0_1.length c0_1) ∧ w'.cell? ⟨gb225, 0, none⟩ = some (.slice (some ad233) t227.length co13) ∧ w'.cell? ⟨gb225, 1, none⟩ = some (.slice Ao15 t230.length co15) ∧ w'.cell? (ad233.add (x8_4).toNat) = some (.int .i64 (rd t227 x8_4))) (ds := []) #[false, false, false, false, false, false, false, false, false, false, false, false] (by kernel_rfl) rfl rfl ⟨(blk_cell BK224.out 0).trans rfl, (blk_cell BK224.out 1).trans rfl, (blk_cell BK225.out 0).trans rfl, (blk_cell BK225.out 1).trans rfl, hx233_0⟩ (fun hHeld => ?_); refine with_tabW pick_repeated.tab5 pick_repeated.bits5 (fun HT_ HW_ => ?_)
   generalize wc.drew = w27 at HO_226000 HO_226001 BK224 BK225 BK226 HB hx233_0 hHeld ⊢
   refine pure_ (i := 1) (N := some 31) (v := ?_) (a' := ?_) #[false, true, false, false, false, false, false, false, false, false, false, false] rfl rfl (any_of HT_.out (by kernel_rfl)) (fun _ _ _ h => h) (Or.inl ⟨by rfl, ?_⟩) ?_ ?_; rotate_left
   ·intro w'; go_simp; with_reducible rfl
   rotate_left
   ·simp only [Act.put, List.setIfInBounds_toArray, List.set_cons_zero, List.set_cons_succ, i64_w, i32_w]; rfl
   refine pure_ (i := 3) (N := some 33) (v := ?_) (a' := ?_) #[false, true, false, true, false, false, false, false, false, false, false, false] rfl rfl (any_of HT_.out (by kernel_rfl)) (fun _ _ _ h => h) (Or.inl ⟨by rfl, ?_⟩) ?_ ?_; rotate_left
   ·intro w'; go_simp; with_reducible rfl
   rotate_left
   ·simp only [Act.put, List.setIfInBounds_toArray, List.set_cons_zero, List.set_cons_succ, i64_w, i32_w]; rfl
   refine take_ (i := 0) (N := some 30) (v := ?_) (a' := ?_) #[true, true, false, true, false, false, false, false, false, false, false, false] rfl rfl (take_ofW HT_.out HW_.out (by kernel_rfl)) (fun _ _ _ h => h) (Or.inl ⟨by rfl, ?_⟩) hHeld ?_ ?_; rotate_left
   ·rintro w' ⟨s0, s1, s2, s3, s4⟩; go_simp; with_reducible rfl
   rotate_left
   ·simp only [Act.put, List.setIfInBounds_toArray, List.set_cons_zero, List.set_cons_succ, i64_w, i32_w]; rfl
   refine take_ (i := 2) (N := some 32) (v := ?_) (a' := ?_) #[true, true, true, true, false, false, false, false, false, false, false, false] rfl rfl (take_ofW HT_.out HW_.out (by kernel_rfl)) (fun _ _ _ h => h) (Or.inl ⟨by rfl, ?_⟩) hHeld ?_ ?_; rotate_left
   ·rintro w' ⟨s0, s1, s2, s3, s4⟩; go_simp; with_reducible rfl
   rotate_left
   ·simp only [Act.put, List.setIfInBounds_toArray, List.set_cons_zero, List.set_cons_succ, i64_w, i32_w]; rfl
   refine pure_ (i := 4) (N := some 34) (v := ?_) (a' := ?_) #[true, true, true, true, true, false, false, false, false, false, false, false] rfl rfl (any_of HT_.out (by kernel_rfl)) (fun _ _ _ h => h) (Or.inl ⟨by rfl, ?_⟩) ?_ ?_; rotate_left
   ·intro w'; go_simp; with_reducible rfl
   rotate_left
   ·simp only [Act.put, List.setIfInBounds_toArray, List.set_cons_zero, List.set_cons_succ, i64_w, i32_w]; rfl
   refine take_ (i := 5) (N := some 35) (v := ?_) (a' := ?_) #[true, true, true, true, true, true, false, false, false, false, false, false] rfl rfl (take_ofW HT_.out HW_.out (by kernel_rfl)) (fun _ _ _ h => h) (Or.inl ⟨by rfl, ?_⟩) hHeld ?_ ?_; rotate_left
   ·rintro w' ⟨s0, s1, s2, s3, s4⟩; go_simp; with_reducible rfl
   rotate_left
   ·simp only [Act.put, List.setIfInBounds_toArray, List.set_cons_zero, List.set_cons_succ, i64_w, i32_w]; rfl
   refine one_ (i := 6) (N := some 36) #[true, true, true, true, true, true, true, false, false, false, false, false] rfl rfl (one_of HT_.out (by kernel_rfl)) (by decide) (fun K hK => ?_)
   refine goes_ Try.func44 (by kernel_rfl) rfl #[.agg #[.slice A0_0 l0_0.length c0_0, .slice A0_1 l0_1.length c0_1], .int .i64 (rd t227 x8_4)] (by rfl) rfl rfl (by (try simp only [List.map_toArray, List.map_cons, List.map_nil]); first | done | rfl | (simp only [List.length_drop, List.length_take]; rfl)) ?_
   with_reducible refine (pick_times.calls kj4 _ _ l0_0 _ _ l0_1 (rd t227 x8_4) t234 t237 _ ?side1 ?side2 ?side3 ?side4 A22.out).mono ?_
   (case side1 => exact gC HR0_0 HB)
   (case side2 => exact HC0_0.out)
   (case side3 => exact gC HR0_1 HB)
   (case side4 => exact HC0_1.out)
   rintro e w28 ⟨v235, rfl, ho0, hb⟩
   have HS4_ := (hb.cell (World.block_lt_of_cell? _ _ (hHeld.2.2.2.2))).trans (hHeld.2.2.2.2)
   refine ⟨_, rfl, ?_⟩
   replace HO_226000 := gA (Kd.V_elder' (gV HO_226000) (Kd.R_base ho0) hb); replace HO_226001 := gA (Kd.V_elder' (gV HO_226001) (Kd.R_base ho0) hb); have HO236 := gA (Kd.R_lower (Kd.R_newM (M := fun k_ => (w.heap.size ≤ k_)) ho0 (below_size (gB HB)) (fun k_ h_ => h_)) (below_size (gB HB))); replace BK224 := gA (blk_below (gK BK224) hb); replace BK225 := gA (blk_below (gK BK225) hb); replace BK226 := gA (blk_below (gK BK226) hb); replace HB := gA (below_step (gB HB) hb); (try clear hb); (try clear ho0)
   refine hK.out _ _ ⟨(blk_cell BK224.out 0).trans rfl, (blk_cell BK224.out 1).trans rfl, (blk_cell BK225.out 0).trans rfl, (blk_cell BK225.out 1).trans rfl, HS4_⟩ (fun hHeld => ?_); clear hK K
   refine norm_ (a' := ?_) ?_ ?_; rotate_left
   ·show Act.put _ (some 36) _ = _
    simp only [Act.put, List.setIfInBounds_toArray, List.set_cons_zero, List.set_cons_succ, i64_w, i32_w]; rfl
   refine pure_ (i := 7) (N := some 29) (v := ?_) (a' := ?_) #[true, true, true, true, true, true, true, true, false, false, false, false] rfl rfl (any_of HT_.out (by kernel_rfl)) (fun _ _ _ h => h) (Or.inl ⟨by rfl, ?_⟩) ?_ ?_; rotate_left
   ·intro w'; go_simp; with_reducible rfl
   rotate_left
   ·simp only [Act.put, List.setIfInBounds_toArray, List.set_cons_zero, List.set_cons_succ, i64_w, i32_w]; rfl
   refine pure_ (i := 8) (N := some 37) (v := ?_) (a' := ?_) #[true, true, true, true, true, true, true, true, true, false, false, false] rfl rfl (any_of HT_.out (by kernel_rfl)) (fun _ _ _ h => h) (Or.inl ⟨by rfl, ?_⟩) ?_ ?_; rotate_left
   ·intro w'; go_simp; with_reducible rfl
   rotate_left
   ·simp only [Act.put, List.setIfInBounds_toArray, List.set_cons_zero, List.set_cons_succ, i64_w, i32_w]; rfl
   refine pure_ (i := 9) (N := some 38) (v := ?_) (a' := ?_) #[true, true, true, true, true, true, true, true, true, true, false, false] rfl rfl (any_of HT_.out (by kernel_rfl)) (fun _ _ _ h => h) (Or.inl ⟨by rfl, ?_⟩) ?_ ?_; rotate_left
   ·intro w'; go_simp; with_reducible rfl
   rotate_left
   ·simp only [Act.put, List.setIfInBounds_toArray, List.set_cons_zero, List.set_cons_succ, i64_w, i32_w]; rfl
   refine pure_ (i := 10) (N := some 9) (v := ?_) (a' := ?_) #[true, true, true, true, true, true, true, true, true, true, true, false] rfl rfl (any_of HT_.out (by kernel_rfl)) (fun _ _ _ h => h) (Or.inl ⟨by rfl, ?_⟩) ?_ ?_; rotate_left
   ·intro w'; go_simp; with_reducible rfl
   rotate_left
   ·simp only [Act.put, List.setIfInBounds_toArray, List.set_cons_zero, List.set_cons_succ, i64_w, i32_w]; rfl
   refine pure_ (i := 11) (N := some 10) (v := ?_) (a' := ?_) #[true, true, true, true, true, true, true, true, true, true, true, true] rfl rfl (any_of HT_.out (by kernel_rfl)) (fun _ _ _ h => h) (Or.inl ⟨by rfl, ?_⟩) ?_ ?_; rotate_left
   ·intro w'; go_simp; with_reducible rfl
   rotate_left
   ·simp only [Act.put, List.setIfInBounds_toArray, List.set_cons_zero, List.set_cons_succ, i64_w, i32_w]; rfl
   refine done_ (done_of HT_.out (by kernel_rfl)) ?_
   try go_wp2_with (first | ((with_reducible refine gate_dst (N := 43) rfl ?_); refine Kd.R_lit (Kd.int .i64) _ 3 ?hg (N := 43) ?hd (xs := ([] : List Int)) (inner := []) (ok := fun _ => True) (okp := fun _ => True) ?hr ?hp (fun _ hk => hk) trivial (Below.refl _ _) (Nat.le_refl _) (by simp) ?_; (case hd => rfl); (case hg => rfl); (case hr => first | (go_simp; done) | (go_simp; rfl)); (case hp => exact (Reps.none _ _)); intro v239 w29 ho30 hb hg_ hnew_; clear hg_ hnew_; (first | rw [← Ny238.out] at ho30 | (simp only [Int.reduceToNat] at ho30; rw [← Ny238.out] at ho30)); replace HO_226000 := gA (Kd.V_elder' (gV HO_226000) (Kd.R_base ho30) hb); replace HO_226001 := gA (Kd.V_elder' (gV HO_226001) (Kd.R_base ho30) hb); have HO240 := gA (Kd.R_lower (Kd.R_new' (Kd.R_newM (M := fun k_ => (w.heap.size ≤ k_)) ho30 (below_size (gB HB)) (fun k_ h_ => h_)) (Kd.R_lt (gR HO236))) (below_size (gB HB))); replace HO236 := gA (Kd.R_elder' (gR HO236) (Kd.R_base ho30) hb); replace BK224 := gA (blk_below (gK BK224) hb); replace BK225 := gA (blk_below (gK BK225) hb); replace BK226 := gA (blk_below (gK BK226) hb); replace HB := gA (below_step (gB HB) hb); clear hb ho30; have hnb31 := NB225_224.out; have hnc31 := NB224_225.out; have hnb32 := NB225_226.out; have hnc32 := NB226_225.out; obtain ⟨hcz33_0, hcz33_1, hfz33_0, hfz33_1⟩ := gz2 BK225) | ((with_reducible refine gate_builtin (b := .append) (xs := #[.tmp 43, .tmp 45]) rfl ?_); at_builtin; refine Kd.R_append_rows (Kd.int .i64) (w0 := w) w.heap.size rfl (.tmp 43) (.tmp 45) 22 3 (.int .i64 0) 8 rfl Try.underlying22 info3 rfl (by decide) (by omega) v239 y238 t227 _ _ _ (fun k_ => (w.heap.size ≤ k_) ∧ some k_ ≠ (v235 : Value).ownBlock) (fun _ => False) rfl rfl ?aO ?aR (fun _ _ h => h) (fun _ h => h.elim) ?aF ?aB ?aS ?aL ?_; (case aR => repeat (first | exact (Kd.V_reads' HO_226000.out).2.2 | (with_reducible refine Kd.C_alloc ?_ _) | (with_reducible refine Kd.C_drewN ?_ _) | (with_reducible refine Kd.C_drew ?_))); (case aB => exact (gB HB)); (case aF => exact (fun k_ hk => ⟨(Nat.le_trans (below_size (gB HB)) hk), Kd.fresh' (Kd.R_lt (gR HO236)) k_ hk⟩)); (case aO => exact (Kd.R_mono HO240.out (fun _ hk => ⟨hk.1.1, hk.2⟩))); (case aS => exact (below_size (gB HB))); (case aL => have := LMc24.out; omega); intro v242 w34 ho hb hg hat; rw [← Ny241.out] at ho; replace HO_226000 := gA (Kd.V_afterv (ok := (fun k_ => ((P1_0_ k_ ∨ P1_1_ k_) ∨ w.heap.size ≤ k_) ∧ some k_ ≠ (v235 : Value).ownBlock ∧ k_ ≠ gb224 ∧ k_ ≠ gb225 ∧ k_ ≠ gb226)) (Kd.V_mono HO_226000.out (fun _ hk => ⟨⟨hk.1.1.1, ⟨hk.1.2, ⟨hk.1.1.2.1, ⟨hk.1.1.2.2.1, hk.1.1.2.2.2⟩⟩⟩⟩, hk.2⟩)) hg hat); replace HO_226001 := gA (Kd.V_afterv (ok := (fun k_ => ((P1_0_ k_ ∨ P1_1_ k_) ∨ w.heap.size ≤ k_) ∧ some k_ ≠ (v235 : Value).ownBlock ∧ k_ ≠ gb224 ∧ k_ ≠ gb225 ∧ k_ ≠ gb226)) (Kd.V_mono HO_226001.out (fun _ hk => ⟨⟨hk.1.1.1, ⟨hk.1.2, ⟨hk.1.1.2.1, ⟨hk.1.1.2.2.1, hk.1.1.2.2.2⟩⟩⟩⟩, hk.2⟩)) hg hat); replace BK224 := gA (blk_grown (gK BK224) hg (Kd.R_ne HO240.out BK224.out (by decide))); replace BK225 := gA (blk_grown (gK BK225) hg (Kd.R_ne HO240.out BK225.out (by decide))); replace BK226 := gA (blk_grown (gK BK226) hg (Kd.R_ne HO240.out BK226.out (by decide))); replace HO236 := gA (Kd.R_after (ok := (fun k_ => (w.heap.size ≤ k_))) (Kd.R_mono HO236.out (fun _ hk => ⟨hk.1.1, hk.2⟩)) hg hat); replace HB := gA (hb); have HO243 := gA (ho); clear HO240 ho hb hg hat; obtain ⟨Ao35, co35, eo35⟩ := Kd.R_slice HO243.out; subst eo35) | ((with_reducible refine gate_dst (N := 11) rfl ?_); refine box_event ?hg (N := 11) ?hd (cs := #[.slice none 0 0, .slice none 0 0]) (t := 25) ?hr ?_; (case hd => rfl); (case hg => rfl); (case hr => first | (go_simp; done) | (go_simp; rfl)); intro gb244 hg w36 hbox hb; replace HO_226000 := gA (Kd.V_below (Kd.V_elderB (gV HO_226000) gb244 (Nat.le_of_eq hg.symm)) hb); replace HO_226001 := gA (Kd.V_below (Kd.V_elderB (gV HO_226001) gb244 (Nat.le_of_eq hg.symm)) hb); replace HO236 := gA (Kd.R_below (gR HO236) hb); replace HO243 := gA (Kd.R_below (gR HO243) hb); have BK244 := gA (hbox); have GW244 := gA ((by rw [hg]; exact (below_size (gB HB)) : w.heap.size ≤ gb244)); have GE244 := gA ((by rw [hg]; exact (below_size (gB HB)) : w.heap.size ≤ gb244)); replace HB := gA (below_step (gB HB) hb); have NB224_244 := gA ((by rw [hg]; exact Nat.ne_of_lt (blk_lt (gK BK224)) : gb224 ≠ gb244)); have NB244_224 := gA ((by rw [hg]; exact Nat.ne_of_gt (blk_lt (gK BK224)) : gb244 ≠ gb224)); replace BK224 := gA (blk_below (gK BK224) hb); have NB225_244 := gA ((by rw [hg]; exact Nat.ne_of_lt (blk_lt (gK BK225)) : gb225 ≠ gb244)); have NB244_225 := gA ((by rw [hg]; exact Nat.ne_of_gt (blk_lt (gK BK225)) : gb244 ≠ gb225)); replace BK225 := gA (blk_below (gK BK225) hb); have NB226_244 := gA ((by rw [hg]; exact Nat.ne_of_lt (blk_lt (gK BK226)) : gb226 ≠ gb244)); have NB244_226 := gA ((by rw [hg]; exact Nat.ne_of_gt (blk_lt (gK BK226)) : gb244 ≠ gb226)); replace BK226 := gA (blk_below (gK BK226) hb); clear hb hbox hg; have hnb37 := NB244_224.out; have hnc37 := NB224_244.out; have hnb38 := NB244_225.out; have hnc38 := NB225_244.out; have hnb39 := NB244_226.out; have hnc39 := NB226_244.out; obtain ⟨hcz40_0, hcz40_1, hfz40_0, hfz40_1⟩ := gz2 BK244) | ((with_reducible refine gate_store (t := 25) (p := 11) rfl ?_); refine store_event (t := 25) (p := 11) (v := ?vo_w41) (w1 := ((w36.setCell ⟨gb244, 0, none⟩ (.slice Ao35 y241.length co35)).setCell ⟨gb244, 1, none⟩ (.slice none 0 0))) ?hg ?ho ?hn ?hr ?_; (case ho => rfl); (case hg => rfl); (case hn => rfl); (case hr => first | (go_simp; done) | (go_simp; rfl)); intro w41 hw; have n0_ : Aside0 (Kd.V (Kd.int .i64) 3 w41 w.heap.size (fun k_ => ((P1_0_ k_ ∨ P1_1_ k_) ∨ w.heap.size ≤ k_) ∧ some k_ ≠ (v235 : Value).ownBlock ∧ some k_ ≠ (.slice Ao35 y241.length co35 : Value).ownBlock ∧ k_ ≠ gb224 ∧ k_ ≠ gb225 ∧ k_ ≠ gb226 ∧ k_ ≠ gb244) (.slice (some ad233) t227.length co13) t227) := ⟨(by rw [hw]; exact (Kd.V_mono (Kd.V_far (p := ⟨gb244, 1, none⟩) (Kd.V_far (p := ⟨gb244, 0, none⟩) (Kd.V_mono HO_226000.out (fun k_ hk => (⟨hk, hk.2⟩ : _ ∧ k_ ≠ gb244))) (fun _ hk => hk.2) (.slice Ao35 y241.length co35)) (fun _ hk => hk.2) (.slice none 0 0)) (fun _ hk => by first | exact ⟨hk.1.1.1.1, ⟨hk.1.1.1.2.1, ⟨hk.1.1.2, ⟨hk.1.1.1.2.2.1, ⟨hk.1.1.1.2.2.2.1, ⟨hk.1.1.1.2.2.2.2, hk.1.2⟩⟩⟩⟩⟩⟩ | (simp_all; done))))⟩; have n1_ : Aside0 (Kd.V k45 45 w41 w.heap.size (fun k_ => ((P1_0_ k_ ∨ P1_1_ k_) ∨ w.heap.size ≤ k_) ∧ some k_ ≠ (v235 : Value).ownBlock ∧ some k_ ≠ (.slice Ao35 y241.length co35 : Value).ownBlock ∧ k_ ≠ gb224 ∧ k_ ≠ gb225 ∧ k_ ≠ gb226 ∧ k_ ≠ gb244) (.slice Ao15 t230.length co15) t230) := ⟨(by rw [hw]; exact (Kd.V_mono (Kd.V_far (p := ⟨gb244, 1, none⟩) (Kd.V_far (p := ⟨gb244, 0, none⟩) (Kd.V_mono HO_226001.out (fun k_ hk => (⟨hk, hk.2⟩ : _ ∧ k_ ≠ gb244))) (fun _ hk => hk.2) (.slice Ao35 y241.length co35)) (fun _ hk => hk.2) (.slice none 0 0)) (fun _ hk => by first | exact ⟨hk.1.1.1.1, ⟨hk.1.1.1.2.1, ⟨hk.1.1.2, ⟨hk.1.1.1.2.2.1, ⟨hk.1.1.1.2.2.2.1, ⟨hk.1.1.1.2.2.2.2, hk.1.2⟩⟩⟩⟩⟩⟩ | (simp_all; done))))⟩; have n2_ : Aside0 (Kd.R (Kd.int .i64) 3 w41 w.heap.size (fun k_ => (w.heap.size ≤ k_) ∧ some k_ ≠ (.slice Ao35 y241.length co35 : Value).ownBlock) v235 t234) := ⟨(by rw [hw]; exact (Kd.R_mono (Kd.R_far (p := ⟨gb244, 1, none⟩) (Kd.R_far (p := ⟨gb244, 0, none⟩) (Kd.R_types HO236.out BK244.out (by decide)) (fun _ hk => hk.2) (.slice Ao35 y241.length co35)) (fun _ hk => hk.2) (.slice none 0 0)) (fun _ hk => ⟨hk.1.1, hk.1.2⟩)))⟩; have n3_ : Aside0 (Kd.R (Kd.int .i64) 3 w41 w.heap.size (fun k_ => (w.heap.size ≤ k_) ∧ some k_ ≠ (v235 : Value).ownBlock) (.slice Ao35 y241.length co35) y241) := ⟨(by rw [hw]; exact (Kd.R_mono (Kd.R_far (p := ⟨gb244, 1, none⟩) (Kd.R_far (p := ⟨gb244, 0, none⟩) (Kd.R_types HO243.out BK244.out (by decide)) (fun _ hk => hk.2) (.slice Ao35 y241.length co35)) (fun _ hk => hk.2) (.slice none 0 0)) (fun _ hk => ⟨hk.1.1, hk.1.2⟩)))⟩; have n4_ : Aside0 (w41.heap[gb224]? = some (.cells #[.slice A0_0 l0_0.length c0_0, .slice A0_1 l0_1.length c0_1] 25 (0, 0))) := ⟨(by rw [hw]; exact (by refine blk_far ?_ NB224_244.out _; refine blk_far ?_ NB224_244.out _; exact gK BK224))⟩; have n5_ : Aside0 (w41.heap[gb225]? = some (.cells #[.slice (some ad233) t227.length co13, .slice Ao15 t230.length co15] 25 (0, 0))) := ⟨(by rw [hw]; exact (by refine blk_far ?_ NB225_244.out _; refine blk_far ?_ NB225_244.out _; exact gK BK225))⟩; have n6_ : Aside0 (w41.heap[gb226]? = some (.cells #[.slice none 0 0, .slice none 0 0] 25 (0, 0))) := ⟨(by rw [hw]; exact (by refine blk_far ?_ NB226_244.out _; refine blk_far ?_ NB226_244.out _; exact gK BK226))⟩; have n7_ : Aside0 (w41.heap[gb244]? = some (.cells #[.slice Ao35 y241.length co35, .slice none 0 0] 25 (0, 0))) := ⟨(by rw [hw]; exact (by refine blk_put (cs := #[.slice Ao35 y241.length co35, .slice none 0 0]) ?_ 1 _ rfl; refine blk_put (cs := #[.slice none 0 0, .slice none 0 0]) ?_ 0 _ rfl; exact gK BK244))⟩; have n8_ : Aside0 (Below w.heap.size w w41) := ⟨(by rw [hw]; exact (by repeat (first | (with_reducible first | exact HB.out | apply below_alloc | apply pw_below_drewN | apply below_drew1 | refine below_set ?_ GE224.out | refine below_set ?_ GE225.out | refine below_set ?_ GE226.out | refine below_set ?_ GE244.out) | exact HB.out)))⟩; clear hw HO_226000 HO_226001 HO236 HO243 BK224 BK225 BK226 BK244 HB; have HO_226000 := n0_; have HO_226001 := n1_; have HO236 := n2_; have HO243 := n3_; have BK224 := n4_; have BK225 := n5_; have BK226 := n6_; have BK244 := n7_; have HB := n8_; clear n0_ n1_ n2_ n3_ n4_ n5_ n6_ n7_ n8_; obtain ⟨hcz42_0, hcz42_1, hfz42_0, hfz42_1⟩ := gz2 BK244; have p26 : 0 ≤ (x8_4 : Int) := of_decide_eq_true (by assumption); have q26 : (x8_4 : Int) < ((y241.length : Int) : Int) := of_decide_eq_true (by assumption); obtain ⟨go26, co26, eo26, gb26, gl26, cl26, HG26⟩ := Kd.R_form HO243.out (by omega); (first | cases eo26 | (injection eo26 with ea_ en_ ec_; (first | subst ea_ | (injection ea_ with ea_; subst ea_)); subst ec_; clear en_)); have GB26 := gA gb26; have GG26 := gA HG26; clear gb26 gl26 HG26; obtain ⟨hx26_0, hf26_0⟩ := Kd.R_celln 0 HO243.out (x8_4 : Int) p26 q26; replace p26 := eq_true p26; replace q26 := eq_true q26; obtain ⟨hy43_, hz43_⟩ := Kd.R_celln 0 HO243.out (x8_4 : Int) (of_decide_eq_true (by assumption)) (of_decide_eq_true (by assumption)); have HP43 := Kd.R_putg HO243.out (x8_4 : Int) 0) | ((with_reducible refine gate_store (t := 3) (p := 51) rfl ?_); refine store_event (t := 3) (p := 51) (v := ?vo_w44) (w1 := (w41.setCell ⟨go26, (x8_4 : Int).toNat, none⟩ (.int .i64 0))) ?hg ?ho ?hn ?hr ?_; (case ho => rfl); (case hg => rfl); (case hn => rfl); (case hr => first | (go_simp; done) | (go_simp; rfl)); intro w44 hw; have hg : w41.grownBy w44 (some go26) := (by rw [hw]; exact HP43.2); have hp_ : Kd.R (Kd.int .i64) 3 w44 w.heap.size (fun k_ => (w.heap.size ≤ k_) ∧ some k_ ≠ (v235 : Value).ownBlock) (.slice (some ⟨go26, 0, none⟩) y241.length co35) y245 := (by rw [hw, Ny245.out]; exact HP43.1); clear HP43; replace HO_226000 := gA (Kd.V_afterv (v := (.slice (some ⟨go26, 0, none⟩) y241.length co35)) (v1 := (.slice (some ⟨go26, 0, none⟩) y241.length co35)) (ok := (fun k_ => ((P1_0_ k_ ∨ P1_1_ k_) ∨ w.heap.size ≤ k_) ∧ some k_ ≠ (v235 : Value).ownBlock ∧ k_ ≠ gb224 ∧ k_ ≠ gb225 ∧ k_ ≠ gb226 ∧ k_ ≠ gb244)) (Kd.V_mono HO_226000.out (fun _ hk => ⟨⟨hk.1, ⟨hk.2.1, ⟨hk.2.2.2.1, ⟨hk.2.2.2.2.1, ⟨hk.2.2.2.2.2.1, hk.2.2.2.2.2.2⟩⟩⟩⟩⟩, hk.2.2.1⟩)) hg (.inl rfl)); replace HO_226001 := gA (Kd.V_afterv (v := (.slice (some ⟨go26, 0, none⟩) y241.length co35)) (v1 := (.slice (some ⟨go26, 0, none⟩) y241.length co35)) (ok := (fun k_ => ((P1_0_ k_ ∨ P1_1_ k_) ∨ w.heap.size ≤ k_) ∧ some k_ ≠ (v235 : Value).ownBlock ∧ k_ ≠ gb224 ∧ k_ ≠ gb225 ∧ k_ ≠ gb226 ∧ k_ ≠ gb244)) (Kd.V_mono HO_226001.out (fun _ hk => ⟨⟨hk.1, ⟨hk.2.1, ⟨hk.2.2.2.1, ⟨hk.2.2.2.2.1, ⟨hk.2.2.2.2.2.1, hk.2.2.2.2.2.2⟩⟩⟩⟩⟩, hk.2.2.1⟩)) hg (.inl rfl)); replace BK224 := gA (blk_grown (gK BK224) hg (Kd.R_ne HO243.out BK224.out (by decide))); replace BK225 := gA (blk_grown (gK BK225) hg (Kd.R_ne HO243.out BK225.out (by decide))); replace BK226 := gA (blk_grown (gK BK226) hg (Kd.R_ne HO243.out BK226.out (by decide))); replace HO236 := gA (Kd.R_after (v := (.slice (some ⟨go26, 0, none⟩) y241.length co35)) (v1 := (.slice (some ⟨go26, 0, none⟩) y241.length co35)) (ok := (fun k_ => (w.heap.size ≤ k_))) (gR HO236) hg (.inl rfl)); replace BK244 := gA (blk_grown (gK BK244) hg (Kd.R_ne HO243.out BK244.out (by decide))); replace HO243 := gA (hp_); replace HB := gA ((by rw [hw]; exact below_set (HB.out) GB26.out : Below w.heap.size w w44)); clear hg hw hp_; obtain ⟨Ao45, co45, eo45⟩ := Kd.R_slice HO236.out; subst eo45))
   go_loopg [54] kj4 (fun kq v54 w' => ∃ (x9_2 : List Int) (x54_2 : Int) (x226000_2 : List Int) (x245000_2 : List Int) (u226000 : Value) (u245000 : Value), v54 = .int .i64 x54_2 ∧ Aside0 (pick_repeated.l0 kq x8_4 x9_2 (t234.length : Int) x54_2 x226000_2 t230 x245000_2 = some (r1, r2, r3)) ∧ Aside0 (kq ≤ kj4) ∧ Aside0 (Kd.R (Kd.int .i64) 3 w' w.heap.size (fun k_ => (w.heap.size ≤ k_) ∧ some k_ ≠ (u245000 : Value).ownBlock) (.slice Ao45 t234.length co45) x9_2) ∧ Aside0 (Kd.V (Kd.int .i64) 3 w' w.heap.size (fun k_ => ((P1_0_ k_ ∨ P1_1_ k_) ∨ w.heap.size ≤ k_) ∧ some k_ ≠ ((.slice Ao45 t234.length co45) : Value).ownBlock ∧ some k_ ≠ (u245000 : Value).ownBlock ∧ k_ ≠ gb224 ∧ k_ ≠ gb225 ∧ k_ ≠ gb226 ∧ k_ ≠ gb244) u226000 x226000_2) ∧ Aside0 (Kd.V k45 45 w' w.heap.size (fun k_ => ((P1_0_ k_ ∨ P1_1_ k_) ∨ w.heap.size ≤ k_) ∧ some k_ ≠ ((.slice Ao45 t234.length co45) : Value).ownBlock ∧ some k_ ≠ (u245000 : Value).ownBlock ∧ k_ ≠ gb224 ∧ k_ ≠ gb225 ∧ k_ ≠ gb226 ∧ k_ ≠ gb244) (.slice Ao15 t230.length co15) t230) ∧ Aside0 (Kd.R (Kd.int .i64) 3 w' w.heap.size (fun k_ => (w.heap.size ≤ k_) ∧ some k_ ≠ ((.slice Ao45 t234.length co45) : Value).ownBlock) u245000 x245000_2) ∧ Aside0 (w'.heap[gb224]? = some (.cells #[(.slice A0_0 l0_0.length c0_0), (.slice A0_1 l0_1.length c0_1)] 25 (0, 0))) ∧ Aside0 (w'.heap[gb225]? = some (.cells #[u226000, (.slice Ao15 t230.length co15)] 25 (0, 0))) ∧ Aside0 (w'.heap[gb226]? = some (.cells #[(.slice none 0 0), (.slice none 0 0)] 25 (0, 0))) ∧ Aside0 (w'.heap[gb244]? = some (.cells #[u245000, (.slice none 0 0)] 25 (0, 0))) ∧ Aside0 (Below w.heap.size w w'))
   case atStart => exact ⟨(t234), (0), (t227), (y245), (.slice (some ad233) t227.length co13), (.slice (some ⟨go26, 0, none⟩) y241.length co35), (rfl), H', ⟨Nat.le_refl _⟩, ⟨gR HO236⟩, ⟨Kd.V_mono HO_226000.out (fun _ hk => ⟨hk.1.1, ⟨hk.1.2.1, ⟨hk.2, ⟨hk.1.2.2.1, ⟨hk.1.2.2.2.1, ⟨hk.1.2.2.2.2.1, hk.1.2.2.2.2.2⟩⟩⟩⟩⟩⟩)⟩, ⟨Kd.V_mono HO_226001.out (fun _ hk => ⟨hk.1.1, ⟨hk.1.2.1, ⟨hk.2, ⟨hk.1.2.2.1, ⟨hk.1.2.2.2.1, ⟨hk.1.2.2.2.2.1, hk.1.2.2.2.2.2⟩⟩⟩⟩⟩⟩)⟩, ⟨gR HO243⟩, ⟨gK BK224⟩, ⟨gK BK225⟩, ⟨gK BK226⟩, ⟨gK BK244⟩, ⟨by repeat first | exact gB HB | refine below_set ?_ GE224.out | refine below_set ?_ GE225.out | refine below_set ?_ GE226.out | refine below_set ?_ GE244.out⟩⟩
   case round =>
    clear H'
    try clear c1
    try clear c2
    try clear p2
    try clear q2
    try clear hx2
    try clear c3
    try clear c4
    try clear p6
    try clear c9
    try clear c10
    try clear c16
    try clear c17
    try clear c18
    try clear c20
    try clear c20b0
    try clear c21
    try clear c21b0
    try clear c23
    try clear c23b0
    try clear c23b1
    try clear p23
    try clear q23
    try clear hx23
    try clear c24
    try clear c25
    try clear c25b0
    try clear p26
    try clear q26
    try clear hx26
    try clear hf26
    try clear c31
    try clear c32
    try clear c37
    try clear c38
    try clear c39
    try clear c43
    try clear c44
    try clear hcz11_0
    try clear hcz11_1
    try clear hcz14_0
    try clear hcz14_1
    try clear hcz19_0
    try clear hcz19_1
    try clear hcz33_0
    try clear hcz33_1
    try clear hcz40_0
    try clear hcz40_1
    try clear hcz42_0
    try clear hcz42_1
    try clear hfz11_0
    try clear hfz11_1
    try clear hfz14_0
    try clear hfz14_1
    try clear hfz19_0
    try clear hfz19_1
    try clear hfz33_0
    try clear hfz33_1
    try clear hfz40_0
    try clear hfz40_1
    try clear hfz42_0
    try clear hfz42_1
    try clear hx233_0
    try clear hx26_0
    try clear p2
    try clear p233
    try clear p26
    try clear p6
    try clear q233
    try clear q26
    obtain ⟨x9_2, x54_2, x226000_2, x245000_2, u226000, u245000, rfl, HA, HK2, HO_9, HO_226000, HO_226001, HO_245000, BK224, BK225, BK226, BK244, HB⟩ := hrel
    have hl9_2 := (Kd.R_reads' HO_9.out).1
    rw [hl9_2] at HO_9
    (try simp only [hl9_2])
    (try simp only [hl9_2] at BK224)
    (try simp only [hl9_2] at BK225)
    (try simp only [hl9_2] at BK226)
    (try simp only [hl9_2] at BK244)
    (try simp only [hl9_2] at HO_226000)
    (try simp only [hl9_2] at HO_226001)
    (try simp only [hl9_2] at HO_245000)
    cases gk with
    | zero => exact absurd HA.out (by simp [pick_repeated.l0])
    | succ k2 =>
     have H := HA.out; clear HA
     simp only [pick_repeated.l0] at H
     by_cases c46 : x54_2 < (t234.length : Int)
     ·rw [if_pos c46] at H
      have c46b0 := decide_eq_true c46; have c46b0z := c46b0; (try rw [hl9_2] at c46b0z)
      clear c46
      obtain ⟨c47, H⟩ := iS H
      have c47b0 := decide_eq_true c47; have c47b0z := c47b0; (try rw [hl9_2] at c47b0z)
      clear c47
      obtain ⟨c48, H⟩ := iS H
      have c48b0 := decide_eq_true c48; have c48b0z := c48b0; (try rw [hl9_2] at c48b0z)
      clear c48
      obtain ⟨c49, H⟩ := iS H
      have c49b0 := decide_eq_true c49; have c49b0z := c49b0; (try rw [hl9_2] at c49b0z)
      clear c49
      obtain ⟨c50, H⟩ := iS H
      have c50b0 := decide_eq_true c50; have c50b0z := c50b0; (try rw [hl9_2] at c50b0z)
      clear c50
      obtain ⟨y248, hy248⟩ : ∃ y_ : List Int, y_ = (x245000_2.set (x8_4 : Int).toNat (wrap64 ((rd x245000_2 x8_4) + (rd x9_2 x54_2)))) := ⟨_, rfl⟩
      replace H : (pick_repeated.l0 k2 x8_4 x9_2 (t234.length : Int) (wrap64 (x54_2 + 1)) x226000_2 t230 y248) = some (r1, r2, r3) := by first | (rw [hy248]; with_reducible exact H) | (have H2_ := (Option.bind_some _ _).symm.trans H; rw [hy248]; with_reducible exact H2_) | (have H2_ := (Option.bind_some _ _).symm.trans H; with_reducible exact H2_) | with_reducible exact H | (rw [hy248]; exact H) | exact H
      have Ny248 := gA hy248
      clear hy248
      have H' := gA H
      clear H
      have p246 : 0 ≤ (x54_2 : Int) := of_decide_eq_true (by assumption)
      have q246 : x54_2 < (x9_2.length : Int) := of_decide_eq_true (by assumption)
      obtain ⟨ad246, e246, hx246_0⟩ := Kd.at_int (Kd.R_reads' HO_9.out).2.2 x54_2 p246 q246
      cases e246
      replace p246 := eq_true p246
      replace q246 := eq_true q246
      have hnb52 := NB244_224.out
      have hnc52 := NB224_244.out
      have hnb53 := NB244_225.out
      have hnc53 := NB225_244.out
      have hnb54 := NB244_226.out
      have hnc54 := NB226_244.out
      obtain ⟨hcz55_0, hcz55_1, hfz55_0, hfz55_1⟩ := gz2 BK244
      obtain ⟨Ao56, co56, eo56⟩ := Kd.R_slice HO_245000.out
      subst eo56
      have p247 : 0 ≤ (x8_4 : Int) := of_decide_eq_true (by assumption)
      have q247 : x8_4 < (x245000_2.length : Int) := of_decide_eq_true (by assumption)
      obtain ⟨ad247, e247, hx247_0⟩ := Kd.at_int (Kd.R_reads' HO_245000.out).2.2 x8_4 p247 q247
      cases e247
      replace p247 := eq_true p247
      replace q247 := eq_true q247
      have p51 : 0 ≤ (x8_4 : Int) := of_decide_eq_true (by assumption)
      have q51 : (x8_4 : Int) < ((x245000_2.length : Int) : Int) := of_decide_eq_true (by assumption)
      obtain ⟨go51, co51, eo51, gb51, gl51, cl51, HG51⟩ := Kd.R_form HO_245000.out (by omega)
      (first | cases eo51 | (injection eo51 with ea_ en_ ec_; (first | subst ea_ | (injection ea_ with ea_; subst ea_)); subst ec_; clear en_))
      have GB51 := gA gb51
      have GG51 := gA HG51
      clear gb51 gl51 HG51
      (first | simp only [add_plain] at hx247_0 | skip)
      obtain ⟨hx51_0, hf51_0⟩ := Kd.R_celln 0 HO_245000.out (x8_4 : Int) p51 q51
      replace p51 := eq_true p51
      replace q51 := eq_true q51
      have HP57 := Kd.R_putg HO_245000.out (x8_4 : Int) (wrap64 ((rd x245000_2 x8_4) + (rd x9_2 x54_2)))
      go_wp2_with (first | ((with_reducible refine gate_store (t := 3) (p := 65) rfl ?_); refine store_event (t := 3) (p := 65) (v := ?vo_w58) (w1 := (wr.setCell ⟨go51, (x8_4 : Int).toNat, none⟩ (.int .i64 (wrap64 ((rd x245000_2 x8_4) + (rd x9_2 x54_2)))))) ?hg ?ho ?hn ?hr ?_; (case ho => rfl); (case hg => rfl); (case hn => rfl); (case hr => first | (go_simp; done) | (go_simp; rfl)); intro w58 hw; have hg : wr.grownBy w58 (some go51) := (by rw [hw]; exact HP57.2); have hp_ : Kd.R (Kd.int .i64) 3 w58 w.heap.size (fun k_ => (w.heap.size ≤ k_) ∧ some k_ ≠ (.slice (some ad246) x9_2.length co45 : Value).ownBlock) (.slice (some ⟨go51, 0, none⟩) x245000_2.length co56) y248 := (by rw [hw, Ny248.out]; exact HP57.1); clear HP57; replace HO_9 := gA (Kd.R_after (v := (.slice (some ⟨go51, 0, none⟩) x245000_2.length co56)) (v1 := (.slice (some ⟨go51, 0, none⟩) x245000_2.length co56)) (ok := (fun k_ => (w.heap.size ≤ k_))) (gR HO_9) hg (.inl rfl)); replace HO_226000 := gA (Kd.V_afterv (v := (.slice (some ⟨go51, 0, none⟩) x245000_2.length co56)) (v1 := (.slice (some ⟨go51, 0, none⟩) x245000_2.length co56)) (ok := (fun k_ => ((P1_0_ k_ ∨ P1_1_ k_) ∨ w.heap.size ≤ k_) ∧ some k_ ≠ (.slice (some ad246) x9_2.length co45 : Value).ownBlock ∧ k_ ≠ gb224 ∧ k_ ≠ gb225 ∧ k_ ≠ gb226 ∧ k_ ≠ gb244)) (Kd.V_mono HO_226000.out (fun _ hk => ⟨⟨hk.1, ⟨hk.2.1, ⟨hk.2.2.2.1, ⟨hk.2.2.2.2.1, ⟨hk.2.2.2.2.2.1, hk.2.2.2.2.2.2⟩⟩⟩⟩⟩, hk.2.2.1⟩)) hg (.inl rfl)); replace HO_226001 := gA (Kd.V_afterv (v := (.slice (some ⟨go51, 0, none⟩) x245000_2.length co56)) (v1 := (.slice (some ⟨go51, 0, none⟩) x245000_2.length co56)) (ok := (fun k_ => ((P1_0_ k_ ∨ P1_1_ k_) ∨ w.heap.size ≤ k_) ∧ some k_ ≠ (.slice (some ad246) x9_2.length co45 : Value).ownBlock ∧ k_ ≠ gb224 ∧ k_ ≠ gb225 ∧ k_ ≠ gb226 ∧ k_ ≠ gb244)) (Kd.V_mono HO_226001.out (fun _ hk => ⟨⟨hk.1, ⟨hk.2.1, ⟨hk.2.2.2.1, ⟨hk.2.2.2.2.1, ⟨hk.2.2.2.2.2.1, hk.2.2.2.2.2.2⟩⟩⟩⟩⟩, hk.2.2.1⟩)) hg (.inl rfl)); replace BK224 := gA (blk_grown (gK BK224) hg (Kd.R_ne HO_245000.out BK224.out (by decide))); replace BK225 := gA (blk_grown (gK BK225) hg (Kd.R_ne HO_245000.out BK225.out (by decide))); replace BK226 := gA (blk_grown (gK BK226) hg (Kd.R_ne HO_245000.out BK226.out (by decide))); replace BK244 := gA (blk_grown (gK BK244) hg (Kd.R_ne HO_245000.out BK244.out (by decide))); replace HO_245000 := gA (hp_); replace HB := gA ((by rw [hw]; exact below_set (HB.out) GB51.out : Below w.heap.size w w58)); clear hg hw hp_))
      (try simp only [← hl9_2])
      go_roundg k2
      case measure => have := HJ4.out; have := HK2.out; omega
      case rel => exact ⟨(x9_2), (wrap64 (x54_2 + 1)), (x226000_2), (y248), (u226000), (.slice (some ⟨go51, 0, none⟩) x245000_2.length co56), (rfl), H', ⟨by have := HJ4.out; have := HK2.out; omega⟩, ⟨by (try simp only [hl9_2]); (with_reducible repeat (first | apply Kd.R_alloc | apply Kd.R_drewN | apply Kd.R_drew)); exact HO_9.out⟩, ⟨by (try simp only [hl9_2]); (with_reducible repeat (first | apply Kd.V_alloc | apply Kd.V_drewN | apply Kd.V_drew)); exact Kd.V_mono HO_226000.out (fun _ hk => ⟨hk.1.1, ⟨hk.1.2.1, ⟨hk.2, ⟨hk.1.2.2.1, ⟨hk.1.2.2.2.1, ⟨hk.1.2.2.2.2.1, hk.1.2.2.2.2.2⟩⟩⟩⟩⟩⟩)⟩, ⟨by (try simp only [hl9_2]); (with_reducible repeat (first | apply Kd.V_alloc | apply Kd.V_drewN | apply Kd.V_drew)); exact Kd.V_mono HO_226001.out (fun _ hk => ⟨hk.1.1, ⟨hk.1.2.1, ⟨hk.2, ⟨hk.1.2.2.1, ⟨hk.1.2.2.2.1, ⟨hk.1.2.2.2.2.1, hk.1.2.2.2.2.2⟩⟩⟩⟩⟩⟩)⟩, ⟨by (try simp only [hl9_2]); (with_reducible repeat (first | apply Kd.R_alloc | apply Kd.R_drewN | apply Kd.R_drew)); exact HO_245000.out⟩, ⟨by (try simp only [hl9_2]); exact gK BK224⟩, ⟨by (try simp only [hl9_2]); exact gK BK225⟩, ⟨by (try simp only [hl9_2]); exact gK BK226⟩, ⟨by (try simp only [hl9_2]); exact gK BK244⟩, ⟨gB HB⟩⟩
     ·rw [if_neg c46] at H
      have c46b0 := decide_eq_false c46; have c46b0z := c46b0; (try rw [hl9_2] at c46b0z)
      clear c46
      replace H := Option.bind_eq_some_iff.mp H
      obtain ⟨⟨t249, t250⟩, A590, H⟩ := H
      replace H : (if t250 = 0 then (if 0 ≤ (wrap64 (x8_4 + 1)) then (if (wrap64 (x8_4 + 1)) ≤ (x226000_2.length : Int) then ((some (x226000_2.drop ((wrap64 (x8_4 + 1)) : Int).toNat : List Int)).bind fun y251 => (pick_repeated.l1 k2 x9_2 1 y251 (y251.length : Int) 0 x226000_2 t230 x245000_2)) else (none)) else (none)) else (none)) = some (r1, r2, r3) := H
      have A59 := gA A590
      clear A590
      obtain ⟨c60, H⟩ := iS H
      have c60b0 : (t250 == 0) = true := beq_iff_eq.mpr c60
      have c60b1 : (t250 != 0) = false := bne_eq_false_iff_eq.mpr c60
      clear c60
      obtain ⟨ji61, hji61⟩ : ∃ j_ : Int, (wrap64 (x8_4 + 1)) = j_ := ⟨_, rfl⟩
      replace H : (if 0 ≤ (ji61) then (if (ji61) ≤ (x226000_2.length : Int) then ((some (x226000_2.drop ((ji61) : Int).toNat : List Int)).bind fun y251 => (pick_repeated.l1 k2 x9_2 1 y251 (y251.length : Int) 0 x226000_2 t230 x245000_2)) else (none)) else (none)) = some (r1, r2, r3) := by first | (rw [hji61] at H; exact H) | (simp only [hji61] at H ⊢; exact H)
      (try rw [hji61] at A59)
      have hji61w : (IntKind.i64.wrap (x8_4 + 1)) = ji61 := (i64_w _).trans hji61
      obtain ⟨c62, H⟩ := iS H
      have c62b0 := eq_true c62
      have c62b1 := decide_eq_true c62
      clear c62
      obtain ⟨c63, H⟩ := iS H
      have c63b0 := eq_true c63
      have c63b1 := decide_eq_true c63
      clear c63
      obtain ⟨y251, hy251⟩ : ∃ y_ : List Int, y_ = (x226000_2.drop ((ji61) : Int).toNat) := ⟨_, rfl⟩
      replace H : (pick_repeated.l1 k2 x9_2 1 y251 (y251.length : Int) 0 x226000_2 t230 x245000_2) = some (r1, r2, r3) := by first | (rw [hy251]; with_reducible exact H) | (have H2_ := (Option.bind_some _ _).symm.trans H; rw [hy251]; with_reducible exact H2_) | (have H2_ := (Option.bind_some _ _).symm.trans H; with_reducible exact H2_) | with_reducible exact H | (rw [hy251]; exact H) | exact H
      have Ny251 := gA hy251
      clear hy251
      have H' := gA H
      clear H
      have hnb64 := NB244_224.out
      have hnc64 := NB224_244.out
      have hnb65 := NB244_225.out
      have hnc65 := NB225_244.out
      have hnb66 := NB244_226.out
      have hnc66 := NB226_244.out
      obtain ⟨hcz67_0, hcz67_1, hfz67_0, hfz67_1⟩ := gz2 BK244
      obtain ⟨Ao68, co68, eo68⟩ := Kd.R_slice HO_245000.out
      subst eo68
      go_wp2_with (first | ((with_reducible refine gate_callee (f := 41) rfl ?_); refine goesL_ (some 70) rfl rfl Try.func41 (by kernel_rfl) rfl #[.slice Ao68 x245000_2.length co68] rfl (by (try simp only [List.map_toArray, List.map_cons, List.map_nil]); first | done | rfl | (simp only [List.length_drop, List.length_take]; rfl)) ?_; (with_reducible refine (arr_Size.calls k2 _ _ x245000_2 t249 t250 _ ?side1 ?side2 A59.out).mono ?_); (case side1 => repeat (first | exact (Kd.R_reads' HO_245000.out).2.2 | (with_reducible refine Kd.C_alloc ?_ _) | (with_reducible refine Kd.C_drewN ?_ _) | (with_reducible refine Kd.C_drew ?_))); (case side2 => exact (Kd.R_reads' HO_245000.out).2.1); rintro e w' ⟨rfl, ⟨nd, rfl⟩⟩; refine ⟨_, rfl, ?_⟩; have hnb69 := NB225_224.out; have hnc69 := NB224_225.out; have hnb70 := NB225_226.out; have hnc70 := NB226_225.out; obtain ⟨hcz71_0, hcz71_1, hfz71_0, hfz71_1⟩ := gz2 BK225; obtain ⟨Ao73, co73, eo73⟩ := Kd.V_slice HO_226000.out; subst eo73; have q72 : ((ji61) : Int) ≤ ((x226000_2.length : Int) : Int) := of_decide_eq_true (by assumption); obtain ⟨i072, hi072, _, hsz72, _⟩ := info_parts info3; have hroom72 : x226000_2.length ≤ co73 := (Kd.V_reads' HO_226000.out).2.1; have hC72 : Kd.F (Kd.int .i64) _ _ Ao73 x226000_2.length x226000_2 := (Kd.V_at (base := w.heap.size) HO_226000.out).2.2; have q072 : (0 : Int) ≤ ((ji61) : Int) := of_decide_eq_true (by assumption); have hcut72 := cut_from (P := Try.prog) 22 3 .i64 Try.underlying22 hi072 1 hsz72 Ao73 x226000_2.length co73 (ji61) q072 q72; have hr72 := Kd.F_cut (m := ((ji61) : Int).toNat) (c := co73) hC72 (by omega) hroom72; obtain ⟨A72, hA72⟩ : ∃ A1, A1 = (if co73 = ((ji61) : Int).toNat then Ao73 else (Ao73 : Option Addr).map (·.add (((ji61) : Int).toNat * 1))) := ⟨_, rfl⟩; obtain ⟨c72, hc72⟩ : ∃ c1, c1 = co73 - ((ji61) : Int).toNat := ⟨_, rfl⟩; have hy72 : y251.length = x226000_2.length - ((ji61) : Int).toNat := (by rw [Ny251.out, List.length_drop] <;> omega); rw [show (x226000_2).drop ((ji61) : Int).toNat = y251 from Ny251.out.symm] at hr72; replace hr72 : Kd.F (Kd.int .i64) _ _ A72 y251.length y251 := (by rw [hA72]; exact hr72); rw [← hy72, ← hA72, ← hc72] at hcut72; have HO255 := gA (show Kd.V (Kd.int .i64) 3 _ w.heap.size _ (.slice A72 y251.length c72) y251 from Kd.V_mk (by rw [hy72, hc72]; exact Nat.sub_le_sub_right hroom72 _) hr72); have HC255 := gA (show y251.length ≤ c72 from by rw [hy72, hc72]; exact Nat.sub_le_sub_right hroom72 _); clear hr72 hC72 hroom72 hi072 hsz72 hc72; have KY72 := gA hy72; have KA72 := gA hA72; clear hy72 hA72; replace q72 := eq_true q72))
      go_loopg [16, 83] k2 (fun kq v16 v83 w' => ∃ (x16_3 : Int) (x83_3 : Int), v16 = .int .i64 x16_3 ∧ v83 = .int .i64 x83_3 ∧ Aside0 (pick_repeated.l1 kq x9_2 x16_3 y251 (y251.length : Int) x83_3 x226000_2 t230 x245000_2 = some (r1, r2, r3)) ∧ Aside0 (kq ≤ k2) ∧ Aside0 (Kd.R (Kd.int .i64) 3 w' w.heap.size (fun k_ => (w.heap.size ≤ k_) ∧ some k_ ≠ ((.slice Ao68 x245000_2.length co68) : Value).ownBlock) (.slice Ao45 x9_2.length co45) x9_2) ∧ Aside0 (Kd.V (Kd.int .i64) 3 w' w.heap.size (fun k_ => ((P1_0_ k_ ∨ P1_1_ k_) ∨ w.heap.size ≤ k_) ∧ some k_ ≠ ((.slice Ao45 x9_2.length co45) : Value).ownBlock ∧ some k_ ≠ ((.slice Ao68 x245000_2.length co68) : Value).ownBlock ∧ k_ ≠ gb224 ∧ k_ ≠ gb225 ∧ k_ ≠ gb226 ∧ k_ ≠ gb244) (.slice A72 y251.length c72) y251) ∧ Aside0 (Kd.V (Kd.int .i64) 3 w' w.heap.size (fun k_ => ((P1_0_ k_ ∨ P1_1_ k_) ∨ w.heap.size ≤ k_) ∧ some k_ ≠ ((.slice Ao45 x9_2.length co45) : Value).ownBlock ∧ some k_ ≠ ((.slice Ao68 x245000_2.length co68) : Value).ownBlock ∧ k_ ≠ gb224 ∧ k_ ≠ gb225 ∧ k_ ≠ gb226 ∧ k_ ≠ gb244) (.slice Ao73 x226000_2.length co73) x226000_2) ∧ Aside0 (Kd.V k45 45 w' w.heap.size (fun k_ => ((P1_0_ k_ ∨ P1_1_ k_) ∨ w.heap.size ≤ k_) ∧ some k_ ≠ ((.slice Ao45 x9_2.length co45) : Value).ownBlock ∧ some k_ ≠ ((.slice Ao68 x245000_2.length co68) : Value).ownBlock ∧ k_ ≠ gb224 ∧ k_ ≠ gb225 ∧ k_ ≠ gb226 ∧ k_ ≠ gb244) (.slice Ao15 t230.length co15) t230) ∧ Aside0 (Kd.R (Kd.int .i64) 3 w' w.heap.size (fun k_ => (w.heap.size ≤ k_) ∧ some k_ ≠ ((.slice Ao45 x9_2.length co45) : Value).ownBlock) (.slice Ao68 x245000_2.length co68) x245000_2) ∧ Aside0 (w'.heap[gb224]? = some (.cells #[(.slice A0_0 l0_0.length c0_0), (.slice A0_1 l0_1.length c0_1)] 25 (0, 0))) ∧ Aside0 (w'.heap[gb225]? = some (.cells #[(.slice Ao73 x226000_2.length co73), (.slice Ao15 t230.length co15)] 25 (0, 0))) ∧ Aside0 (w'.heap[gb226]? = some (.cells #[(.slice none 0 0), (.slice none 0 0)] 25 (0, 0))) ∧ Aside0 (w'.heap[gb244]? = some (.cells #[(.slice Ao68 x245000_2.length co68), (.slice none 0 0)] 25 (0, 0))) ∧ Aside0 (Below w.heap.size w w'))
      case atStart => exact ⟨(1), (0), (rfl), (rfl), H', ⟨Nat.le_refl _⟩, ⟨by (try simp only [hl9_2]); (with_reducible repeat (first | apply Kd.R_alloc | apply Kd.R_drewN | apply Kd.R_drew)); exact HO_9.out⟩, ⟨by (try simp only [hl9_2]); (with_reducible repeat (first | apply Kd.V_alloc | apply Kd.V_drewN | apply Kd.V_drew)); exact HO255.out⟩, ⟨by (try simp only [hl9_2]); (with_reducible repeat (first | apply Kd.V_alloc | apply Kd.V_drewN | apply Kd.V_drew)); exact HO_226000.out⟩, ⟨by (try simp only [hl9_2]); (with_reducible repeat (first | apply Kd.V_alloc | apply Kd.V_drewN | apply Kd.V_drew)); exact HO_226001.out⟩, ⟨by (try simp only [hl9_2]); (with_reducible repeat (first | apply Kd.R_alloc | apply Kd.R_drewN | apply Kd.R_drew)); exact HO_245000.out⟩, ⟨by (try simp only [hl9_2]); exact gK BK224⟩, ⟨by (try simp only [hl9_2]); exact gK BK225⟩, ⟨by (try simp only [hl9_2]); exact gK BK226⟩, ⟨by (try simp only [hl9_2]); exact gK BK244⟩, ⟨by repeat first | exact gB HB | refine below_set ?_ GE224.out | refine below_set ?_ GE225.out | refine below_set ?_ GE226.out | refine below_set ?_ GE244.out⟩⟩
      case round =>
       clear H'
       try clear c1
       try clear c2
       try clear p2
       try clear q2
       try clear hx2
       try clear c3
       try clear c4
       try clear c5
       try clear p5
       try clear q5
       try clear hx5
       try clear hf5
       try clear c6
       try clear p6
       try clear c7
       try clear q7
       try clear c9
       try clear c10
       try clear c16
       try clear c17
       try clear c18
       try clear c20
       try clear c20b0
       try clear c21
       try clear c21b0
       try clear c23
       try clear c23b0
       try clear c23b1
       try clear p23
       try clear q23
       try clear hx23
       try clear c24
       try clear p24
       try clear q24
       try clear hx24
       try clear c25
       try clear c25b0
       try clear p26
       try clear q26
       try clear hx26
       try clear hf26
       try clear c31
       try clear c32
       try clear c37
       try clear c38
       try clear c39
       try clear c41
       try clear c43
       try clear c44
       try clear c46
       try clear c46b0
       try clear c47
       try clear c47b0
       try clear c48
       try clear c48b0
       try clear c49
       try clear c49b0
       try clear c50
       try clear c50b0
       try clear p51
       try clear q51
       try clear hx51
       try clear hf51
       try clear c52
       try clear c53
       try clear c54
       try clear c60
       try clear c60b0
       try clear c60b1
       try clear c62
       try clear c62b0
       try clear c62b1
       try clear c63
       try clear c63b0
       try clear c63b1
       try clear c64
       try clear p64
       try clear c65
       try clear c66
       try clear c69
       try clear c70
       try clear c72
       try clear q72
       try clear hcz11_0
       try clear hcz11_1
       try clear hcz14_0
       try clear hcz14_1
       try clear hcz19_0
       try clear hcz19_1
       try clear hcz33_0
       try clear hcz33_1
       try clear hcz40_0
       try clear hcz40_1
       try clear hcz42_0
       try clear hcz42_1
       try clear hcz55_0
       try clear hcz55_1
       try clear hcz67_0
       try clear hcz67_1
       try clear hcz71_0
       try clear hcz71_1
       try clear hfz11_0
       try clear hfz11_1
       try clear hfz14_0
       try clear hfz14_1
       try clear hfz19_0
       try clear hfz19_1
       try clear hfz33_0
       try clear hfz33_1
       try clear hfz40_0
       try clear hfz40_1
       try clear hfz42_0
       try clear hfz42_1
       try clear hfz55_0
       try clear hfz55_1
       try clear hfz67_0
       try clear hfz67_1
       try clear hfz71_0
       try clear hfz71_1
       try clear hx233_0
       try clear hx246_0
       try clear hx247_0
       try clear hx26_0
       try clear hx51_0
       try clear p2
       try clear p23
       try clear p233
       try clear p246
       try clear p247
       try clear p26
       try clear p51
       try clear p6
       try clear q072
       try clear q2
       try clear q23
       try clear q233
       try clear q246
       try clear q247
       try clear q26
       try clear q51
       try clear q72
       obtain ⟨x16_3, x83_3, rfl, rfl, HA, HK3, HO_9, HO_81, HO_226000, HO_226001, HO_245000, BK224, BK225, BK226, BK244, HB⟩ := hrel
       cases gk with
       | zero => exact absurd HA.out (by simp [pick_repeated.l1])
       | succ k3 =>
        have H := HA.out; clear HA
        simp only [pick_repeated.l1] at H
        by_cases c74 : x83_3 < (y251.length : Int)
        ·rw [if_pos c74] at H
         have c74b0 := decide_eq_true c74; have c74b0z := c74b0; (try rw [hl9_2] at c74b0z)
         clear c74
         obtain ⟨c75, H⟩ := iS H
         have c75b0 := decide_eq_true c75; have c75b0z := c75b0; (try rw [hl9_2] at c75b0z)
         clear c75
         obtain ⟨c76, H⟩ := iS H
         have c76b0 := decide_eq_true c76; have c76b0z := c76b0; (try rw [hl9_2] at c76b0z)
         clear c76
         have H' := gA H
         clear H
         have p256 : 0 ≤ (x83_3 : Int) := of_decide_eq_true (by assumption)
         have q256 : x83_3 < (y251.length : Int) := of_decide_eq_true (by assumption)
         obtain ⟨ad256, e256, hx256_0⟩ := Kd.at_int (Kd.V_reads' HO_81.out).2.2 x83_3 p256 q256
         cases e256
         replace p256 := eq_true p256
         replace q256 := eq_true q256
         go_wp2
         go_roundg k3
         case measure => have := HJ4.out; have := HK2.out; have := HK3.out; omega
         case rel => exact ⟨(wrap64 (x16_3 * (rd y251 x83_3))), (wrap64 (x83_3 + 1)), (rfl), (rfl), H', ⟨by have := HJ4.out; have := HK2.out; have := HK3.out; omega⟩, ⟨by (try simp only [hl9_2]); (with_reducible repeat (first | apply Kd.R_alloc | apply Kd.R_drewN | apply Kd.R_drew)); exact HO_9.out⟩, ⟨by (try simp only [hl9_2]); (with_reducible repeat (first | apply Kd.V_alloc | apply Kd.V_drewN | apply Kd.V_drew)); exact HO_81.out⟩, ⟨by (try simp only [hl9_2]); (with_reducible repeat (first | apply Kd.V_alloc | apply Kd.V_drewN | apply Kd.V_drew)); exact HO_226000.out⟩, ⟨by (try simp only [hl9_2]); (with_reducible repeat (first | apply Kd.V_alloc | apply Kd.V_drewN | apply Kd.V_drew)); exact HO_226001.out⟩, ⟨by (try simp only [hl9_2]); (with_reducible repeat (first | apply Kd.R_alloc | apply Kd.R_drewN | apply Kd.R_drew)); exact HO_245000.out⟩, ⟨by (try simp only [hl9_2]); exact gK BK224⟩, ⟨by (try simp only [hl9_2]); exact gK BK225⟩, ⟨by (try simp only [hl9_2]); exact gK BK226⟩, ⟨by (try simp only [hl9_2]); exact gK BK244⟩, ⟨gB HB⟩⟩
        ·rw [if_neg c74] at H
         have c74b0 := decide_eq_false c74; have c74b0z := c74b0; (try rw [hl9_2] at c74b0z)
         clear c74
         have H' := gA H
         clear H
         go_wp2
         go_loopg [19] k3 (fun kq v19 w' => ∃ (x19_4 : Int) (x245001_4 : List (S45)) (u245001 : Value), v19 = .int .i64 x19_4 ∧ Aside0 (pick_repeated.l2 kq x9_2 x16_3 x19_4 x226000_2 t230 x245000_2 x245001_4 = some (r1, r2, r3)) ∧ Aside0 (kq ≤ k3) ∧ Aside0 (Kd.R (Kd.int .i64) 3 w' w.heap.size (fun k_ => (w.heap.size ≤ k_) ∧ some k_ ≠ ((.slice Ao68 x245000_2.length co68) : Value).ownBlock) (.slice Ao45 x9_2.length co45) x9_2) ∧ Aside0 (Kd.V (Kd.int .i64) 3 w' w.heap.size (fun k_ => ((P1_0_ k_ ∨ P1_1_ k_) ∨ w.heap.size ≤ k_) ∧ some k_ ≠ ((.slice Ao45 x9_2.length co45) : Value).ownBlock ∧ some k_ ≠ ((.slice Ao68 x245000_2.length co68) : Value).ownBlock ∧ some k_ ≠ (u245001 : Value).ownBlock ∧ k_ ≠ gb224 ∧ k_ ≠ gb225 ∧ k_ ≠ gb226 ∧ k_ ≠ gb244) (.slice Ao73 x226000_2.length co73) x226000_2) ∧ Aside0 (Kd.V k45 45 w' w.heap.size (fun k_ => ((P1_0_ k_ ∨ P1_1_ k_) ∨ w.heap.size ≤ k_) ∧ some k_ ≠ ((.slice Ao45 x9_2.length co45) : Value).ownBlock ∧ some k_ ≠ ((.slice Ao68 x245000_2.length co68) : Value).ownBlock ∧ some k_ ≠ (u245001 : Value).ownBlock ∧ k_ ≠ gb224 ∧ k_ ≠ gb225 ∧ k_ ≠ gb226 ∧ k_ ≠ gb244) (.slice Ao15 t230.length co15) t230) ∧ Aside0 (Kd.R (Kd.int .i64) 3 w' w.heap.size (fun k_ => (w.heap.size ≤ k_) ∧ some k_ ≠ ((.slice Ao45 x9_2.length co45) : Value).ownBlock) (.slice Ao68 x245000_2.length co68) x245000_2) ∧ Aside0 (Kd.N k45 45 w' w.heap.size (fun k_ => ((P1_0_ k_ ∨ P1_1_ k_) ∨ w.heap.size ≤ k_) ∧ some k_ ≠ ((.slice Ao45 x9_2.length co45) : Value).ownBlock ∧ some k_ ≠ ((.slice Ao68 x245000_2.length co68) : Value).ownBlock ∧ k_ ≠ gb224 ∧ k_ ≠ gb225 ∧ k_ ≠ gb226 ∧ k_ ≠ gb244) u245001 x245001_4) ∧ Aside0 (w'.heap[gb224]? = some (.cells #[(.slice A0_0 l0_0.length c0_0), (.slice A0_1 l0_1.length c0_1)] 25 (0, 0))) ∧ Aside0 (w'.heap[gb225]? = some (.cells #[(.slice Ao73 x226000_2.length co73), (.slice Ao15 t230.length co15)] 25 (0, 0))) ∧ Aside0 (w'.heap[gb226]? = some (.cells #[(.slice none 0 0), (.slice none 0 0)] 25 (0, 0))) ∧ Aside0 (w'.heap[gb244]? = some (.cells #[(.slice Ao68 x245000_2.length co68), u245001] 25 (0, 0))) ∧ Aside0 (Below w.heap.size w w'))
         case atStart => exact ⟨(0), (([] : List (S45))), (.slice none 0 0), (rfl), H', ⟨Nat.le_refl _⟩, ⟨by (try simp only [hl9_2]); (with_reducible repeat (first | apply Kd.R_alloc | apply Kd.R_drewN | apply Kd.R_drew)); exact HO_9.out⟩, ⟨by (try simp only [hl9_2]); (with_reducible repeat (first | apply Kd.V_alloc | apply Kd.V_drewN | apply Kd.V_drew)); exact Kd.V_mono HO_226000.out (fun _ hk => ⟨hk.1, ⟨hk.2.1, ⟨hk.2.2.1, ⟨(by simp [Value.ownBlock]), ⟨hk.2.2.2.1, ⟨hk.2.2.2.2.1, ⟨hk.2.2.2.2.2.1, hk.2.2.2.2.2.2⟩⟩⟩⟩⟩⟩⟩)⟩, ⟨by (try simp only [hl9_2]); (with_reducible repeat (first | apply Kd.V_alloc | apply Kd.V_drewN | apply Kd.V_drew)); exact Kd.V_mono HO_226001.out (fun _ hk => ⟨hk.1, ⟨hk.2.1, ⟨hk.2.2.1, ⟨(by simp [Value.ownBlock]), ⟨hk.2.2.2.1, ⟨hk.2.2.2.2.1, ⟨hk.2.2.2.2.2.1, hk.2.2.2.2.2.2⟩⟩⟩⟩⟩⟩⟩)⟩, ⟨by (try simp only [hl9_2]); (with_reducible repeat (first | apply Kd.R_alloc | apply Kd.R_drewN | apply Kd.R_drew)); exact HO_245000.out⟩, ⟨by (try simp only [hl9_2]); first | exact Kd.R_nil _ _ _ _ _ | exact Kd.N_nil _ _ _ _ _ | exact Kd.V_nil _ _ _ _ _ | exact Kd.Q_nil _ _ _ _ _ | exact Kd.S_nil _ _ _ _ _⟩, ⟨by (try simp only [hl9_2]); exact gK BK224⟩, ⟨by (try simp only [hl9_2]); exact gK BK225⟩, ⟨by (try simp only [hl9_2]); exact gK BK226⟩, ⟨by (try simp only [hl9_2]); exact gK BK244⟩, ⟨by repeat first | exact gB HB | refine below_set ?_ GE224.out | refine below_set ?_ GE225.out | refine below_set ?_ GE226.out | refine below_set ?_ GE244.out⟩⟩
         case round =>
          clear H'
          try clear c1
          try clear c2
          try clear p2
          try clear q2
          try clear hx2
          try clear c3
          try clear c4
          try clear c5
          try clear p5
          try clear q5
          try clear hx5
          try clear hf5
          try clear c6
          try clear p6
          try clear c7
          try clear q7
          try clear c9
          try clear c10
          try clear c16
          try clear c17
          try clear c18
          try clear c20
          try clear c20b0
          try clear c21
          try clear c21b0
          try clear c23
          try clear c23b0
          try clear c23b1
          try clear p23
          try clear q23
          try clear hx23
          try clear c24
          try clear p24
          try clear q24
          try clear hx24
          try clear c25
          try clear c25b0
          try clear p25
          try clear q25
          try clear hx25
          try clear p26
          try clear q26
          try clear hx26
          try clear hf26
          try clear c31
          try clear c32
          try clear c37
          try clear c38
          try clear c39
          try clear c41
          try clear c43
          try clear c44
          try clear c46
          try clear c46b0
          try clear c47
          try clear c47b0
          try clear c48
          try clear c48b0
          try clear c49
          try clear c49b0
          try clear c50
          try clear c50b0
          try clear p51
          try clear q51
          try clear hx51
          try clear hf51
          try clear c52
          try clear c53
          try clear c54
          try clear c60
          try clear c60b0
          try clear c60b1
          try clear c62
          try clear c62b0
          try clear c62b1
          try clear c63
          try clear c63b0
          try clear c63b1
          try clear c64
          try clear p64
          try clear c65
          try clear c66
          try clear c69
          try clear c70
          try clear c72
          try clear q72
          try clear c74
          try clear c74b0
          try clear c75
          try clear c75b0
          try clear c76
          try clear c76b0
          try clear hcz11_0
          try clear hcz11_1
          try clear hcz14_0
          try clear hcz14_1
          try clear hcz19_0
          try clear hcz19_1
          try clear hcz33_0
          try clear hcz33_1
          try clear hcz40_0
          try clear hcz40_1
          try clear hcz42_0
          try clear hcz42_1
          try clear hcz55_0
          try clear hcz55_1
          try clear hcz67_0
          try clear hcz67_1
          try clear hcz71_0
          try clear hcz71_1
          try clear hfz11_0
          try clear hfz11_1
          try clear hfz14_0
          try clear hfz14_1
          try clear hfz19_0
          try clear hfz19_1
          try clear hfz33_0
          try clear hfz33_1
          try clear hfz40_0
          try clear hfz40_1
          try clear hfz42_0
          try clear hfz42_1
          try clear hfz55_0
          try clear hfz55_1
          try clear hfz67_0
          try clear hfz67_1
          try clear hfz71_0
          try clear hfz71_1
          try clear hx233_0
          try clear hx246_0
          try clear hx247_0
          try clear hx256_0
          try clear hx26_0
          try clear hx51_0
          try clear p2
          try clear p23
          try clear p233
          try clear p24
          try clear p246
          try clear p247
          try clear p256
          try clear p26
          try clear p5
          try clear p51
          try clear p6
          try clear p64
          try clear q072
          try clear q2
          try clear q23
          try clear q233
          try clear q24
          try clear q246
          try clear q247
          try clear q256
          try clear q26
          try clear q5
          try clear q51
          try clear q7
          try clear q72
          obtain ⟨x19_4, x245001_4, u245001, rfl, HA, HK4, HO_9, HO_226000, HO_226001, HO_245000, HO_245001, BK224, BK225, BK226, BK244, HB⟩ := hrel
          cases gk with
          | zero => exact absurd HA.out (by simp [pick_repeated.l2])
          | succ k4 =>
           have H := HA.out; clear HA
           simp only [pick_repeated.l2] at H
           by_cases c77 : x19_4 < (t230.length : Int)
           ·rw [if_pos c77] at H
            have c77b0 := decide_eq_true c77; have c77b0z := c77b0; (try rw [hl9_2] at c77b0z)
            clear c77
            have H' := gA H
            clear H
            have hnb78 := NB225_224.out
            have hnc78 := NB224_225.out
            have hnb79 := NB225_226.out
            have hnc79 := NB226_225.out
            have hnb80 := NB225_244.out
            have hnc80 := NB244_225.out
            obtain ⟨hcz81_0, hcz81_1, hfz81_0, hfz81_1⟩ := gz2 BK225
            go_wp2
            go_loopg [104] k4 (fun kq v104 w' => ∃ (x104_5 : Int) (x245001_5 : List (S45)) (u245001 : Value), v104 = .int .i64 x104_5 ∧ Aside0 (pick_repeated.l3 kq x9_2 x16_3 x19_4 (x9_2.length : Int) x104_5 x226000_2 t230 x245000_2 x245001_5 = some (r1, r2, r3)) ∧ Aside0 (kq ≤ k4) ∧ Aside0 (Kd.R (Kd.int .i64) 3 w' w.heap.size (fun k_ => (w.heap.size ≤ k_) ∧ some k_ ≠ ((.slice Ao68 x245000_2.length co68) : Value).ownBlock) (.slice Ao45 x9_2.length co45) x9_2) ∧ Aside0 (Kd.V (Kd.int .i64) 3 w' w.heap.size (fun k_ => ((P1_0_ k_ ∨ P1_1_ k_) ∨ w.heap.size ≤ k_) ∧ some k_ ≠ ((.slice Ao45 x9_2.length co45) : Value).ownBlock ∧ some k_ ≠ ((.slice Ao68 x245000_2.length co68) : Value).ownBlock ∧ some k_ ≠ (u245001 : Value).ownBlock ∧ k_ ≠ gb224 ∧ k_ ≠ gb225 ∧ k_ ≠ gb226 ∧ k_ ≠ gb244) (.slice Ao73 x226000_2.length co73) x226000_2) ∧ Aside0 (Kd.V k45 45 w' w.heap.size (fun k_ => ((P1_0_ k_ ∨ P1_1_ k_) ∨ w.heap.size ≤ k_) ∧ some k_ ≠ ((.slice Ao45 x9_2.length co45) : Value).ownBlock ∧ some k_ ≠ ((.slice Ao68 x245000_2.length co68) : Value).ownBlock ∧ some k_ ≠ (u245001 : Value).ownBlock ∧ k_ ≠ gb224 ∧ k_ ≠ gb225 ∧ k_ ≠ gb226 ∧ k_ ≠ gb244) (.slice Ao15 t230.length co15) t230) ∧ Aside0 (Kd.R (Kd.int .i64) 3 w' w.heap.size (fun k_ => (w.heap.size ≤ k_) ∧ some k_ ≠ ((.slice Ao45 x9_2.length co45) : Value).ownBlock) (.slice Ao68 x245000_2.length co68) x245000_2) ∧ Aside0 (Kd.N k45 45 w' w.heap.size (fun k_ => ((P1_0_ k_ ∨ P1_1_ k_) ∨ w.heap.size ≤ k_) ∧ some k_ ≠ ((.slice Ao45 x9_2.length co45) : Value).ownBlock ∧ some k_ ≠ ((.slice Ao68 x245000_2.length co68) : Value).ownBlock ∧ k_ ≠ gb224 ∧ k_ ≠ gb225 ∧ k_ ≠ gb226 ∧ k_ ≠ gb244) u245001 x245001_5) ∧ Aside0 (w'.heap[gb224]? = some (.cells #[(.slice A0_0 l0_0.length c0_0), (.slice A0_1 l0_1.length c0_1)] 25 (0, 0))) ∧ Aside0 (w'.heap[gb225]? = some (.cells #[(.slice Ao73 x226000_2.length co73), (.slice Ao15 t230.length co15)] 25 (0, 0))) ∧ Aside0 (w'.heap[gb226]? = some (.cells #[(.slice none 0 0), (.slice none 0 0)] 25 (0, 0))) ∧ Aside0 (w'.heap[gb244]? = some (.cells #[(.slice Ao68 x245000_2.length co68), u245001] 25 (0, 0))) ∧ Aside0 (Below w.heap.size w w'))
            case atStart => exact ⟨(0), (x245001_4), (u245001), (rfl), H', ⟨Nat.le_refl _⟩, ⟨by (try simp only [hl9_2]); (with_reducible repeat (first | apply Kd.R_alloc | apply Kd.R_drewN | apply Kd.R_drew)); exact HO_9.out⟩, ⟨by (try simp only [hl9_2]); (with_reducible repeat (first | apply Kd.V_alloc | apply Kd.V_drewN | apply Kd.V_drew)); exact HO_226000.out⟩, ⟨by (try simp only [hl9_2]); (with_reducible repeat (first | apply Kd.V_alloc | apply Kd.V_drewN | apply Kd.V_drew)); exact HO_226001.out⟩, ⟨by (try simp only [hl9_2]); (with_reducible repeat (first | apply Kd.R_alloc | apply Kd.R_drewN | apply Kd.R_drew)); exact HO_245000.out⟩, ⟨by (try simp only [hl9_2]); (with_reducible repeat (first | apply Kd.N_alloc | apply Kd.N_drewN | apply Kd.N_drew)); exact HO_245001.out⟩, ⟨by (try simp only [hl9_2]); exact gK BK224⟩, ⟨by (try simp only [hl9_2]); exact gK BK225⟩, ⟨by (try simp only [hl9_2]); exact gK BK226⟩, ⟨by (try simp only [hl9_2]); exact gK BK244⟩, ⟨by repeat first | exact gB HB | refine below_set ?_ GE224.out | refine below_set ?_ GE225.out | refine below_set ?_ GE226.out | refine below_set ?_ GE244.out⟩⟩
            case round =>
             clear H'
             try clear c1
             try clear c2
             try clear p2
             try clear q2
             try clear hx2
             try clear c3
             try clear c4
             try clear c5
             try clear p5
             try clear q5
             try clear hx5
             try clear hf5
             try clear c6
             try clear p6
             try clear c7
             try clear q7
             try clear c8
             try clear c9
             try clear c10
             try clear c16
             try clear c17
             try clear c18
             try clear c20
             try clear c20b0
             try clear c21
             try clear c21b0
             try clear c23
             try clear c23b0
             try clear c23b1
             try clear p23
             try clear q23
             try clear hx23
             try clear c24
             try clear p24
             try clear q24
             try clear hx24
             try clear c25
             try clear c25b0
             try clear p25
             try clear q25
             try clear hx25
             try clear p26
             try clear q26
             try clear hx26
             try clear hf26
             try clear c31
             try clear c32
             try clear c37
             try clear c38
             try clear c39
             try clear c41
             try clear c43
             try clear c44
             try clear c46
             try clear c46b0
             try clear c47
             try clear c47b0
             try clear c48
             try clear c48b0
             try clear c49
             try clear c49b0
             try clear c50
             try clear c50b0
             try clear p51
             try clear q51
             try clear hx51
             try clear hf51
             try clear c52
             try clear c53
             try clear c54
             try clear c60
             try clear c60b0
             try clear c60b1
             try clear c62
             try clear c62b0
             try clear c62b1
             try clear c63
             try clear c63b0
             try clear c63b1
             try clear c64
             try clear p64
             try clear c65
             try clear c66
             try clear c69
             try clear c70
             try clear c72
             try clear q72
             try clear c74
             try clear c74b0
             try clear c75
             try clear c75b0
             try clear c76
             try clear c76b0
             try clear c77
             try clear c77b0
             try clear c78
             try clear c79
             try clear c80
             try clear hcz11_0
             try clear hcz11_1
             try clear hcz14_0
             try clear hcz14_1
             try clear hcz19_0
             try clear hcz19_1
             try clear hcz33_0
             try clear hcz33_1
             try clear hcz40_0
             try clear hcz40_1
             try clear hcz42_0
             try clear hcz42_1
             try clear hcz55_0
             try clear hcz55_1
             try clear hcz67_0
             try clear hcz67_1
             try clear hcz71_0
             try clear hcz71_1
             try clear hcz81_0
             try clear hcz81_1
             try clear hfz11_0
             try clear hfz11_1
             try clear hfz14_0
             try clear hfz14_1
             try clear hfz19_0
             try clear hfz19_1
             try clear hfz33_0
             try clear hfz33_1
             try clear hfz40_0
             try clear hfz40_1
             try clear hfz42_0
             try clear hfz42_1
             try clear hfz55_0
             try clear hfz55_1
             try clear hfz67_0
             try clear hfz67_1
             try clear hfz71_0
             try clear hfz71_1
             try clear hfz81_0
             try clear hfz81_1
             try clear hx233_0
             try clear hx246_0
             try clear hx247_0
             try clear hx256_0
             try clear hx26_0
             try clear hx51_0
             try clear p2
             try clear p23
             try clear p233
             try clear p24
             try clear p246
             try clear p247
             try clear p25
             try clear p256
             try clear p26
             try clear p5
             try clear p51
             try clear p6
             try clear p64
             try clear q072
             try clear q2
             try clear q23
             try clear q233
             try clear q24
             try clear q246
             try clear q247
             try clear q25
             try clear q256
             try clear q26
             try clear q5
             try clear q51
             try clear q7
             try clear q72
             obtain ⟨x104_5, x245001_5, u245001, rfl, HA, HK5, HO_9, HO_226000, HO_226001, HO_245000, HO_245001, BK224, BK225, BK226, BK244, HB⟩ := hrel
             cases gk with
             | zero => exact absurd HA.out (by simp [pick_repeated.l3])
             | succ k5 =>
              have H := HA.out; clear HA
              simp only [pick_repeated.l3] at H
              by_cases c82 : x104_5 < (x9_2.length : Int)
              ·rw [if_pos c82] at H
               have c82b0 := decide_eq_true c82; have c82b0z := c82b0; (try rw [hl9_2] at c82b0z)
               clear c82
               obtain ⟨c83, H⟩ := iS H
               have c83b0 := decide_eq_true c83; have c83b0z := c83b0; (try rw [hl9_2] at c83b0z)
               clear c83
               obtain ⟨c84, H⟩ := iS H
               have c84b0 := decide_eq_true c84; have c84b0z := c84b0; (try rw [hl9_2] at c84b0z)
               clear c84
               have H' := gA H
               clear H
               have p257 : 0 ≤ (x104_5 : Int) := of_decide_eq_true (by assumption)
               have q257 : x104_5 < (x9_2.length : Int) := of_decide_eq_true (by assumption)
               obtain ⟨ad257, e257, hx257_0⟩ := Kd.at_int (Kd.R_reads' HO_9.out).2.2 x104_5 p257 q257
               cases e257
               replace p257 := eq_true p257
               replace q257 := eq_true q257
               go_wp2
               go_loopg [110] k5 (fun kq v110 w' => ∃ (x110_6 : Int) (x245001_6 : List (S45)) (u245001 : Value), v110 = .int .i64 x110_6 ∧ Aside0 (pick_repeated.l4 kq x9_2 x16_3 x19_4 x104_5 (x9_2.length : Int) x104_5 (rd x9_2 x104_5) x110_6 x226000_2 t230 x245000_2 x245001_6 = some (r1, r2, r3)) ∧ Aside0 (kq ≤ k5) ∧ Aside0 (Kd.R (Kd.int .i64) 3 w' w.heap.size (fun k_ => (w.heap.size ≤ k_) ∧ some k_ ≠ ((.slice Ao68 x245000_2.length co68) : Value).ownBlock) (.slice (some ad257) x9_2.length co45) x9_2) ∧ Aside0 (Kd.V (Kd.int .i64) 3 w' w.heap.size (fun k_ => ((P1_0_ k_ ∨ P1_1_ k_) ∨ w.heap.size ≤ k_) ∧ some k_ ≠ ((.slice (some ad257) x9_2.length co45) : Value).ownBlock ∧ some k_ ≠ ((.slice Ao68 x245000_2.length co68) : Value).ownBlock ∧ some k_ ≠ (u245001 : Value).ownBlock ∧ k_ ≠ gb224 ∧ k_ ≠ gb225 ∧ k_ ≠ gb226 ∧ k_ ≠ gb244) (.slice Ao73 x226000_2.length co73) x226000_2) ∧ Aside0 (Kd.V k45 45 w' w.heap.size (fun k_ => ((P1_0_ k_ ∨ P1_1_ k_) ∨ w.heap.size ≤ k_) ∧ some k_ ≠ ((.slice (some ad257) x9_2.length co45) : Value).ownBlock ∧ some k_ ≠ ((.slice Ao68 x245000_2.length co68) : Value).ownBlock ∧ some k_ ≠ (u245001 : Value).ownBlock ∧ k_ ≠ gb224 ∧ k_ ≠ gb225 ∧ k_ ≠ gb226 ∧ k_ ≠ gb244) (.slice Ao15 t230.length co15) t230) ∧ Aside0 (Kd.R (Kd.int .i64) 3 w' w.heap.size (fun k_ => (w.heap.size ≤ k_) ∧ some k_ ≠ ((.slice (some ad257) x9_2.length co45) : Value).ownBlock) (.slice Ao68 x245000_2.length co68) x245000_2) ∧ Aside0 (Kd.N k45 45 w' w.heap.size (fun k_ => ((P1_0_ k_ ∨ P1_1_ k_) ∨ w.heap.size ≤ k_) ∧ some k_ ≠ ((.slice (some ad257) x9_2.length co45) : Value).ownBlock ∧ some k_ ≠ ((.slice Ao68 x245000_2.length co68) : Value).ownBlock ∧ k_ ≠ gb224 ∧ k_ ≠ gb225 ∧ k_ ≠ gb226 ∧ k_ ≠ gb244) u245001 x245001_6) ∧ Aside0 (w'.heap[gb224]? = some (.cells #[(.slice A0_0 l0_0.length c0_0), (.slice A0_1 l0_1.length c0_1)] 25 (0, 0))) ∧ Aside0 (w'.heap[gb225]? = some (.cells #[(.slice Ao73 x226000_2.length co73), (.slice Ao15 t230.length co15)] 25 (0, 0))) ∧ Aside0 (w'.heap[gb226]? = some (.cells #[(.slice none 0 0), (.slice none 0 0)] 25 (0, 0))) ∧ Aside0 (w'.heap[gb244]? = some (.cells #[(.slice Ao68 x245000_2.length co68), u245001] 25 (0, 0))) ∧ Aside0 (Below w.heap.size w w'))
               case atStart => exact ⟨(0), (x245001_5), (u245001), (rfl), H', ⟨Nat.le_refl _⟩, ⟨by (try simp only [hl9_2]); (with_reducible repeat (first | apply Kd.R_alloc | apply Kd.R_drewN | apply Kd.R_drew)); exact HO_9.out⟩, ⟨by (try simp only [hl9_2]); (with_reducible repeat (first | apply Kd.V_alloc | apply Kd.V_drewN | apply Kd.V_drew)); exact HO_226000.out⟩, ⟨by (try simp only [hl9_2]); (with_reducible repeat (first | apply Kd.V_alloc | apply Kd.V_drewN | apply Kd.V_drew)); exact HO_226001.out⟩, ⟨by (try simp only [hl9_2]); (with_reducible repeat (first | apply Kd.R_alloc | apply Kd.R_drewN | apply Kd.R_drew)); exact HO_245000.out⟩, ⟨by (try simp only [hl9_2]); (with_reducible repeat (first | apply Kd.N_alloc | apply Kd.N_drewN | apply Kd.N_drew)); exact HO_245001.out⟩, ⟨by (try simp only [hl9_2]); exact gK BK224⟩, ⟨by (try simp only [hl9_2]); exact gK BK225⟩, ⟨by (try simp only [hl9_2]); exact gK BK226⟩, ⟨by (try simp only [hl9_2]); exact gK BK244⟩, ⟨by repeat first | exact gB HB | refine below_set ?_ GE224.out | refine below_set ?_ GE225.out | refine below_set ?_ GE226.out | refine below_set ?_ GE244.out⟩⟩
               case round =>
                clear H'
                try clear c1
                try clear c2
                try clear p2
                try clear q2
                try clear hx2
                try clear c3
                try clear c4
                try clear c5
                try clear p5
                try clear q5
                try clear hx5
                try clear hf5
                try clear c6
                try clear p6
                try clear c7
                try clear q7
                try clear c8
                try clear c9
                try clear c10
                try clear c16
                try clear c17
                try clear c18
                try clear c20
                try clear c20b0
                try clear c21
                try clear c21b0
                try clear c23
                try clear c23b0
                try clear c23b1
                try clear p23
                try clear q23
                try clear hx23
                try clear c24
                try clear p24
                try clear q24
                try clear hx24
                try clear c25
                try clear c25b0
                try clear p25
                try clear q25
                try clear hx25
                try clear p26
                try clear q26
                try clear hx26
                try clear hf26
                try clear c31
                try clear c32
                try clear c37
                try clear c38
                try clear c39
                try clear c41
                try clear c43
                try clear c44
                try clear c46
                try clear c46b0
                try clear c47
                try clear c47b0
                try clear c48
                try clear c48b0
                try clear c49
                try clear c49b0
                try clear c50
                try clear c50b0
                try clear p51
                try clear q51
                try clear hx51
                try clear hf51
                try clear c52
                try clear c53
                try clear c54
                try clear c60
                try clear c60b0
                try clear c60b1
                try clear c62
                try clear c62b0
                try clear c62b1
                try clear c63
                try clear c63b0
                try clear c63b1
                try clear c64
                try clear p64
                try clear c65
                try clear c66
                try clear c69
                try clear c70
                try clear c72
                try clear q72
                try clear c74
                try clear c74b0
                try clear c75
                try clear c75b0
                try clear c76
                try clear c76b0
                try clear c77
                try clear c77b0
                try clear c78
                try clear c79
                try clear c80
                try clear c82
                try clear c82b0
                try clear c83
                try clear c83b0
                try clear c84
                try clear c84b0
                try clear hcz11_0
                try clear hcz11_1
                try clear hcz14_0
                try clear hcz14_1
                try clear hcz19_0
                try clear hcz19_1
                try clear hcz33_0
                try clear hcz33_1
                try clear hcz40_0
                try clear hcz40_1
                try clear hcz42_0
                try clear hcz42_1
                try clear hcz55_0
                try clear hcz55_1
                try clear hcz67_0
                try clear hcz67_1
                try clear hcz71_0
                try clear hcz71_1
                try clear hcz81_0
                try clear hcz81_1
                try clear hfz11_0
                try clear hfz11_1
                try clear hfz14_0
                try clear hfz14_1
                try clear hfz19_0
                try clear hfz19_1
                try clear hfz33_0
                try clear hfz33_1
                try clear hfz40_0
                try clear hfz40_1
                try clear hfz42_0
                try clear hfz42_1
                try clear hfz55_0
                try clear hfz55_1
                try clear hfz67_0
                try clear hfz67_1
                try clear hfz71_0
                try clear hfz71_1
                try clear hfz81_0
                try clear hfz81_1
                try clear hx233_0
                try clear hx246_0
                try clear hx247_0
                try clear hx256_0
                try clear hx257_0
                try clear hx26_0
                try clear hx51_0
                try clear p2
                try clear p23
                try clear p233
                try clear p24
                try clear p246
                try clear p247
                try clear p25
                try clear p256
                try clear p257
                try clear p26
                try clear p5
                try clear p51
                try clear p6
                try clear p64
                try clear q072
                try clear q2
                try clear q23
                try clear q233
                try clear q24
                try clear q246
                try clear q247
                try clear q25
                try clear q256
                try clear q257
                try clear q26
                try clear q5
                try clear q51
                try clear q7
                try clear q72
                obtain ⟨x110_6, x245001_6, u245001, rfl, HA, HK6, HO_9, HO_226000, HO_226001, HO_245000, HO_245001, BK224, BK225, BK226, BK244, HB⟩ := hrel
                cases gk with
                | zero => exact absurd HA.out (by simp [pick_repeated.l4])
                | succ k6 =>
                 have H := HA.out; clear HA
                 simp only [pick_repeated.l4] at H
                 by_cases c85 : x110_6 < (rd x9_2 x104_5)
                 ·rw [if_pos c85] at H
                  have c85b0 := decide_eq_true c85; have c85b0z := c85b0; (try rw [hl9_2] at c85b0z)
                  clear c85
                  obtain ⟨ji86, hji86⟩ : ∃ j_ : Int, (wrap64 (x19_4 + (wrap64 (x104_5 * x16_3)))) = j_ := ⟨_, rfl⟩
                  replace H : (if 0 ≤ (ji86) then (if (ji86) ≤ (wrap64 (x19_4 + (wrap64 ((wrap64 (x104_5 + 1)) * x16_3)))) then (if (wrap64 (x19_4 + (wrap64 ((wrap64 (x104_5 + 1)) * x16_3)))) ≤ (t230.length : Int) then ((some ((t230.take ((wrap64 (x19_4 + (wrap64 ((wrap64 (x104_5 + 1)) * x16_3)))) : Int).toNat).drop ((ji86) : Int).toNat : List (S45))).bind fun y258 => (if x245001_6.length + y258.length < 3518437208883 then (pick_repeated.l4 k6 x9_2 x16_3 x19_4 x104_5 (x9_2.length : Int) x104_5 (rd x9_2 x104_5) (wrap64 (x110_6 + 1)) x226000_2 t230 x245000_2 (x245001_6 ++ y258)) else (none))) else (none)) else (none)) else (none)) = some (r1, r2, r3) := by first | (rw [hji86] at H; exact H) | (simp only [hji86] at H ⊢; exact H)
                  have hji86w : (IntKind.i64.wrap (x19_4 + (wrap64 (x104_5 * x16_3)))) = ji86 := (i64_w _).trans hji86
                  obtain ⟨c87, H⟩ := iS H
                  have c87b0 := eq_true c87
                  have c87b1 := decide_eq_true c87
                  clear c87
                  obtain ⟨c88, H⟩ := iS H
                  have c88b0 := eq_true c88
                  have c88b1 := decide_eq_true c88
                  obtain ⟨c89, H⟩ := iS H
                  have c89b0 := eq_true c89
                  have c89b1 := decide_eq_true c89
                  obtain ⟨y258, hy258⟩ : ∃ y_ : List (S45), y_ = ((t230.take ((wrap64 (x19_4 + (wrap64 ((wrap64 (x104_5 + 1)) * x16_3)))) : Int).toNat).drop ((ji86) : Int).toNat) := ⟨_, rfl⟩
                  replace H : (if x245001_6.length + y258.length < 3518437208883 then (pick_repeated.l4 k6 x9_2 x16_3 x19_4 x104_5 (x9_2.length : Int) x104_5 (rd x9_2 x104_5) (wrap64 (x110_6 + 1)) x226000_2 t230 x245000_2 (x245001_6 ++ y258)) else (none)) = some (r1, r2, r3) := by first | (rw [hy258]; with_reducible exact H) | (have H2_ := (Option.bind_some _ _).symm.trans H; rw [hy258]; with_reducible exact H2_) | (have H2_ := (Option.bind_some _ _).symm.trans H; with_reducible exact H2_) | with_reducible exact H | (rw [hy258]; exact H) | exact H
                  have Ny258 := gA hy258
                  clear hy258
                  obtain ⟨c90, H⟩ := iS H
                  have LMc90 := gA c90
                  clear c90
                  obtain ⟨y263, hy263⟩ : ∃ y_ : List (S45), y_ = (x245001_6 ++ y258) := ⟨_, rfl⟩
                  replace H : (pick_repeated.l4 k6 x9_2 x16_3 x19_4 x104_5 (x9_2.length : Int) x104_5 (rd x9_2 x104_5) (wrap64 (x110_6 + 1)) x226000_2 t230 x245000_2 y263) = some (r1, r2, r3) := by first | (rw [hy263]; with_reducible exact H) | (have H2_ := (Option.bind_some _ _).symm.trans H; rw [hy263]; with_reducible exact H2_) | (have H2_ := (Option.bind_some _ _).symm.trans H; with_reducible exact H2_) | with_reducible exact H | (rw [hy263]; exact H) | exact H
                  have Ny263 := gA hy263
                  clear hy263
                  have H' := gA H
                  clear H
                  try go_wp2
                  replace HO_9 := gA (Kd.R_drew HO_9.out); replace HO_226000 := gA (Kd.V_drew HO_226000.out); replace HO_226001 := gA (Kd.V_drew HO_226001.out); replace HO_245000 := gA (Kd.R_drew HO_245000.out); replace HO_245001 := gA (Kd.N_drew HO_245001.out); replace BK224 := gA (blk_drew BK224.out); replace BK225 := gA (blk_drew BK225.out); replace BK226 := gA (blk_drew BK226.out); replace BK244 := gA (blk_drew BK244.out); replace HB := gA (below_drew1 HB.out)
                  have q92 : ((wrap64 (x19_4 + (wrap64 ((wrap64 (x104_5 + 1)) * x16_3)))) : Int) ≤ ((t230.length : Int) : Int) := of_decide_eq_true (by assumption)
                  obtain ⟨i092, hi092, _, hsz92, _⟩ := info_parts info45
                  have hroom92 : t230.length ≤ co15 := (Kd.V_reads' HO_226001.out).2.1
                  have hC92 : Kd.F k45 _ _ Ao15 t230.length t230 := (Kd.V_at (base := w.heap.size) HO_226001.out).2.2
                  have ql92 : ((ji86) : Int) ≤ ((wrap64 (x19_4 + (wrap64 ((wrap64 (x104_5 + 1)) * x16_3)))) : Int) := of_decide_eq_true (by assumption)
                  have q092 : (0 : Int) ≤ ((ji86) : Int) := of_decide_eq_true (by assumption)
                  have hcut92 := cut_mid (P := Try.prog) 23 45 .i64 .i64 Try.underlying23 hi092 3 hsz92 Ao15 t230.length co15 (ji86) (wrap64 (x19_4 + (wrap64 ((wrap64 (x104_5 + 1)) * x16_3)))) q092 ql92 q92 hroom92
                  have hr92 := Kd.F_mid (lo := ((ji86) : Int).toNat) (hi := ((wrap64 (x19_4 + (wrap64 ((wrap64 (x104_5 + 1)) * x16_3)))) : Int).toNat) (c := co15) hC92 (by omega) (by omega) hroom92
                  obtain ⟨A92, hA92⟩ : ∃ A1, A1 = (if co15 = ((ji86) : Int).toNat then Ao15 else (Ao15 : Option Addr).map (·.add (((ji86) : Int).toNat * 3))) := ⟨_, rfl⟩
                  obtain ⟨c92, hc92⟩ : ∃ c1, c1 = co15 - ((ji86) : Int).toNat := ⟨_, rfl⟩
                  have hy92 : y258.length = ((wrap64 (x19_4 + (wrap64 ((wrap64 (x104_5 + 1)) * x16_3)))) : Int).toNat - ((ji86) : Int).toNat := (by rw [Ny258.out, List.length_drop, List.length_take] <;> omega)
                  rw [show ((t230).take ((wrap64 (x19_4 + (wrap64 ((wrap64 (x104_5 + 1)) * x16_3)))) : Int).toNat).drop ((ji86) : Int).toNat = y258 from Ny258.out.symm] at hr92
                  replace hr92 : Kd.F k45 _ _ A92 y258.length y258 := (by rw [hA92]; exact hr92)
                  rw [← hy92, ← hA92, ← hc92] at hcut92
                  have HO262 := gA (show Kd.V k45 45 _ w.heap.size _ (.slice A92 y258.length c92) y258 from Kd.V_mk (by rw [hy92, hc92]; exact Nat.sub_le_sub_right (Nat.le_trans (by omega) hroom92) _) hr92)
                  have HC262 := gA (show y258.length ≤ c92 from by rw [hy92, hc92]; exact Nat.sub_le_sub_right (Nat.le_trans (by omega) hroom92) _)
                  clear hr92 hC92 hroom92 hi092 hsz92 hc92
                  have KY92 := gA hy92
                  have KA92 := gA hA92
                  clear hy92 hA92
                  replace q92 := eq_true q92
                  refine start_ (n := 19) (S := fun w' => w'.cell? ⟨gb244, 0, none⟩ = some (.slice Ao68 x245000_2.length co68) ∧ w'.cell? ⟨gb244, 1, none⟩ = some (u245001) ∧ w'.cell? ⟨gb225, 0, none⟩ = some (.slice Ao73 x226000_2.length co73) ∧ w'.cell? ⟨gb225, 1, none⟩ = some (.slice Ao15 t230.length co15)) (ds := [18]) #[false, false, false, false, false, false, false, false, false, false, false, false, false, false, false, false, false, false, false] (by kernel_rfl) rfl rfl ⟨(blk_cell BK244.out 0).trans rfl, (blk_cell BK244.out 1).trans rfl, (blk_cell BK225.out 0).trans rfl, (blk_cell BK225.out 1).trans rfl⟩ (fun hHeld => ?_); refine with_tabW pick_repeated.tab32 pick_repeated.bits32 (fun HT_ HW_ => ?_)
                  generalize wr.drew = w91 at HO_9 HO_226000 HO_226001 HO_245000 HO_245001 BK224 BK225 BK226 BK244 HB HO262 hHeld ⊢
                  refine pure_ (i := 0) (N := some 112) (v := ?_) (a' := ?_) #[true, false, false, false, false, false, false, false, false, false, false, false, false, false, false, false, false, false, false] rfl rfl (any_of HT_.out (by kernel_rfl)) (fun _ _ _ h => h) (Or.inl ⟨by rfl, ?_⟩) ?_ ?_; rotate_left
                  ·intro w'; go_simp; with_reducible rfl
                  rotate_left
                  ·simp only [Act.put, List.setIfInBounds_toArray, List.set_cons_zero, List.set_cons_succ, i64_w, i32_w]; rfl
                  refine pure_ (i := 2) (N := some 114) (v := ?_) (a' := ?_) #[true, false, true, false, false, false, false, false, false, false, false, false, false, false, false, false, false, false, false] rfl rfl (any_of HT_.out (by kernel_rfl)) (fun _ _ _ h => h) (Or.inl ⟨by rfl, ?_⟩) ?_ ?_; rotate_left
                  ·intro w'; go_simp; with_reducible rfl
                  rotate_left
                  ·simp only [Act.put, List.setIfInBounds_toArray, List.set_cons_zero, List.set_cons_succ, i64_w, i32_w]; rfl
                  refine pure_ (i := 4) (N := some 116) (v := ?_) (a' := ?_) #[true, false, true, false, true, false, false, false, false, false, false, false, false, false, false, false, false, false, false] rfl rfl (any_of HT_.out (by kernel_rfl)) (fun _ _ _ h => h) (Or.inl ⟨by rfl, ?_⟩) ?_ ?_; rotate_left
                  ·intro w'; go_simp; with_reducible rfl
                  rotate_left
                  ·simp only [Act.put, List.setIfInBounds_toArray, List.set_cons_zero, List.set_cons_succ, i64_w, i32_w]; rfl
                  refine pure_ (i := 5) (N := some 117) (v := ?_) (a' := ?_) #[true, false, true, false, true, true, false, false, false, false, false, false, false, false, false, false, false, false, false] rfl rfl (any_of HT_.out (by kernel_rfl)) (fun _ _ _ h => h) (Or.inl ⟨by rfl, ?_⟩) ?_ ?_; rotate_left
                  ·intro w'; go_simp; with_reducible rfl
                  rotate_left
                  ·simp only [Act.put, List.setIfInBounds_toArray, List.set_cons_zero, List.set_cons_succ, i64_w, i32_w]; rfl
                  refine pure_ (i := 6) (N := some 118) (v := ?_) (a' := ?_) #[true, false, true, false, true, true, true, false, false, false, false, false, false, false, false, false, false, false, false] rfl rfl (any_of HT_.out (by kernel_rfl)) (fun _ _ _ h => h) (Or.inl ⟨by rfl, ?_⟩) ?_ ?_; rotate_left
                  ·intro w'; go_simp; with_reducible rfl
                  rotate_left
                  ·simp only [Act.put, List.setIfInBounds_toArray, List.set_cons_zero, List.set_cons_succ, i64_w, i32_w]; rfl
                  refine pure_ (i := 7) (N := some 119) (v := ?_) (a' := ?_) #[true, false, true, false, true, true, true, true, false, false, false, false, false, false, false, false, false, false, false] rfl rfl (any_of HT_.out (by kernel_rfl)) (fun _ _ _ h => h) (Or.inl ⟨by rfl, ?_⟩) ?_ ?_; rotate_left
                  ·intro w'; go_simp; with_reducible rfl
                  rotate_left
                  ·simp only [Act.put, List.setIfInBounds_toArray, List.set_cons_zero, List.set_cons_succ, i64_w, i32_w]; rfl
                  refine pure_ (i := 8) (N := some 120) (v := ?_) (a' := ?_) #[true, false, true, false, true, true, true, true, true, false, false, false, false, false, false, false, false, false, false] rfl rfl (any_of HT_.out (by kernel_rfl)) (fun _ _ _ h => h) (Or.inl ⟨by rfl, ?_⟩) ?_ ?_; rotate_left
                  ·intro w'; go_simp; with_reducible rfl
                  rotate_left
                  ·simp only [Act.put, List.setIfInBounds_toArray, List.set_cons_zero, List.set_cons_succ, i64_w, i32_w]; rfl
                  refine pure_ (i := 9) (N := some 121) (v := ?_) (a' := ?_) #[true, false, true, false, true, true, true, true, true, true, false, false, false, false, false, false, false, false, false] rfl rfl (any_of HT_.out (by kernel_rfl)) (fun _ _ _ h => h) (Or.inl ⟨by rfl, ?_⟩) ?_ ?_; rotate_left
                  ·intro w'; go_simp; with_reducible rfl
                  rotate_left
                  ·simp only [Act.put, List.setIfInBounds_toArray, List.set_cons_zero, List.set_cons_succ, i64_w, i32_w]; rfl
                  refine pure_ (i := 10) (N := some 122) (v := ?_) (a' := ?_) #[true, false, true, false, true, true, true, true, true, true, true, false, false, false, false, false, false, false, false] rfl rfl (any_of HT_.out (by kernel_rfl)) (fun _ _ _ h => h) (Or.inl ⟨by rfl, ?_⟩) ?_ ?_; rotate_left
                  ·intro w'; go_simp; with_reducible rfl
                  rotate_left
                  ·simp only [Act.put, List.setIfInBounds_toArray, List.set_cons_zero, List.set_cons_succ, i64_w, i32_w]; rfl
                  refine pure_ (i := 11) (N := some 123) (v := ?_) (a' := ?_) #[true, false, true, false, true, true, true, true, true, true, true, true, false, false, false, false, false, false, false] rfl rfl (any_of HT_.out (by kernel_rfl)) (fun _ _ _ h => h) (Or.inl ⟨by rfl, ?_⟩) ?_ ?_; rotate_left
                  ·intro w'; go_simp; with_reducible rfl
                  rotate_left
                  ·simp only [Act.put, List.setIfInBounds_toArray, List.set_cons_zero, List.set_cons_succ, i64_w, i32_w]; rfl
                  refine pure_ (i := 12) (N := some 124) (v := ?_) (a' := ?_) #[true, false, true, false, true, true, true, true, true, true, true, true, true, false, false, false, false, false, false] rfl rfl (any_of HT_.out (by kernel_rfl)) (fun _ _ _ h => h) (Or.inl ⟨by rfl, ?_⟩) ?_ ?_; rotate_left
                  ·intro w'; go_simp; with_reducible rfl
                  rotate_left
                  ·simp only [Act.put, List.setIfInBounds_toArray, List.set_cons_zero, List.set_cons_succ, i64_w, i32_w]; rfl
                  refine pure_ (i := 13) (N := some 125) (v := ?_) (a' := ?_) #[true, false, true, false, true, true, true, true, true, true, true, true, true, true, false, false, false, false, false] rfl rfl (any_of HT_.out (by kernel_rfl)) (fun _ _ _ h => h) (Or.inl ⟨by rfl, ?_⟩) ?_ ?_; rotate_left
                  ·intro w'; go_simp; with_reducible rfl
                  rotate_left
                  ·simp only [Act.put, List.setIfInBounds_toArray, List.set_cons_zero, List.set_cons_succ, i64_w, i32_w]; rfl
                  refine pure_ (i := 14) (N := some 126) (v := ?_) (a' := ?_) #[true, false, true, false, true, true, true, true, true, true, true, true, true, true, true, false, false, false, false] rfl rfl (any_of HT_.out (by kernel_rfl)) (fun _ _ _ h => h) (Or.inl ⟨by rfl, ?_⟩) ?_ ?_; rotate_left
                  ·intro w'; go_simp; with_reducible rfl
                  rotate_left
                  ·simp only [Act.put, List.setIfInBounds_toArray, List.set_cons_zero, List.set_cons_succ, i64_w, i32_w]; rfl
                  refine take_ (i := 1) (N := some 113) (v := ?_) (a' := ?_) #[true, true, true, false, true, true, true, true, true, true, true, true, true, true, true, false, false, false, false] rfl rfl (take_ofW HT_.out HW_.out (by kernel_rfl)) (fun _ _ _ h => h) (Or.inl ⟨by rfl, ?_⟩) hHeld ?_ ?_; rotate_left
                  ·rintro w' ⟨s0, s1, s2, s3⟩; go_simp; with_reducible rfl
                  rotate_left
                  ·simp only [Act.put, List.setIfInBounds_toArray, List.set_cons_zero, List.set_cons_succ, i64_w, i32_w]; rfl
                  refine take_ (i := 3) (N := some 115) (v := ?_) (a' := ?_) #[true, true, true, true, true, true, true, true, true, true, true, true, true, true, true, false, false, false, false] rfl rfl (take_ofW HT_.out HW_.out (by kernel_rfl)) (fun _ _ _ h => h) (Or.inl ⟨by rfl, ?_⟩) hHeld ?_ ?_; rotate_left
                  ·rintro w' ⟨s0, s1, s2, s3⟩; go_simp; with_reducible rfl
                  rotate_left
                  ·simp only [Act.put, List.setIfInBounds_toArray, List.set_cons_zero, List.set_cons_succ, i64_w, i32_w]; rfl
                  refine pure_ (i := 15) (N := some 127) (v := ?_) (a' := ?_) #[true, true, true, true, true, true, true, true, true, true, true, true, true, true, true, true, false, false, false] rfl rfl (any_of HT_.out (by kernel_rfl)) (fun _ _ _ h => h) (Or.inl ⟨by rfl, ?_⟩) ?_ ?_; rotate_left
                  ·intro w'; go_simp; with_reducible rfl
                  rotate_left
                  ·simp only [Act.put, List.setIfInBounds_toArray, List.set_cons_zero, List.set_cons_succ, i64_w, i32_w]; rfl
                  refine one_ (i := 16) (N := some 128) #[true, true, true, true, true, true, true, true, true, true, true, true, true, true, true, true, true, false, false] rfl rfl (one_of HT_.out (by kernel_rfl)) (by decide) (fun K hK => ?_)
                  refine Kd.N_append_rows_step k45 (w0 := w) w.heap.size (by rfl) (.tmp 113) (.tmp 127) 23 45 (.agg #[(.int .i64 0), (.int .i64 0), (.slice none 0 0)]) 40 rfl Try.underlying23 info45 rfl (by decide) (by omega) u245001 x245001_6 y258 _ _ _ (fun k_ => ((P1_0_ k_ ∨ P1_1_ k_) ∨ w.heap.size ≤ k_) ∧ some k_ ≠ (.slice (some ad257) x9_2.length co45 : Value).ownBlock ∧ some k_ ≠ (.slice Ao68 x245000_2.length co68 : Value).ownBlock ∧ k_ ≠ gb224 ∧ k_ ≠ gb225 ∧ k_ ≠ gb226 ∧ k_ ≠ gb244) (fun k_ => ((fun k_ => ((P1_0_ k_ ∨ P1_1_ k_) ∨ w.heap.size ≤ k_) ∧ some k_ ≠ (.slice (some ad257) x9_2.length co45 : Value).ownBlock ∧ some k_ ≠ (.slice Ao68 x245000_2.length co68 : Value).ownBlock ∧ k_ ≠ gb224 ∧ k_ ≠ gb225 ∧ k_ ≠ gb226 ∧ k_ ≠ gb244)) k_ ∧ some k_ ≠ (u245001 : Value).ownBlock) rfl rfl ?aO ?aR (fun _ hk => hk) ?aF ?aB ?aS ?aL ?_
                  (case aR => exact (by skip; exact Kd.V_F (Kd.V_mono (ok' := (fun k_ => ((fun k_ => ((P1_0_ k_ ∨ P1_1_ k_) ∨ w.heap.size ≤ k_) ∧ some k_ ≠ (.slice (some ad257) x9_2.length co45 : Value).ownBlock ∧ some k_ ≠ (.slice Ao68 x245000_2.length co68 : Value).ownBlock ∧ k_ ≠ gb224 ∧ k_ ≠ gb225 ∧ k_ ≠ gb226 ∧ k_ ≠ gb244)) k_ ∧ some k_ ≠ (u245001 : Value).ownBlock)) (HO262.out) (fun k_ hk => ⟨⟨hk.1, ⟨hk.2.1, ⟨hk.2.2.1, ⟨hk.2.2.2.2.1, ⟨hk.2.2.2.2.2.1, ⟨hk.2.2.2.2.2.2.1, hk.2.2.2.2.2.2.2⟩⟩⟩⟩⟩⟩, hk.2.2.2.1⟩))))
                  (case aB => exact (gB HB))
                  (case aF => exact (fun k_ hk => ⟨(.inr (Nat.le_trans (below_size (gB HB)) hk)), Kd.fresh' (Kd.R_lt (gR HO_9)) k_ hk, Kd.fresh' (Kd.R_lt (gR HO_245000)) k_ hk, Kd.freshB (gK BK224) k_ hk, Kd.freshB (gK BK225) k_ hk, Kd.freshB (gK BK226) k_ hk, Kd.freshB (gK BK244) k_ hk⟩))
                  (case aO => exact (gN HO_245001))
                  (case aS => exact (below_size (gB HB)))
                  (case aL => have := LMc90.out; omega)
                  intro v264 w93 ho hb hg hat
                  rw [← Ny263.out] at ho
                  replace HO_9 := gA (Kd.R_over' (gR HO_9) (Kd.N_typed (gN HO_245001)) (by decide) hg); replace HO_226000 := gA (Kd.V_afterv (ok := (fun k_ => ((P1_0_ k_ ∨ P1_1_ k_) ∨ w.heap.size ≤ k_) ∧ some k_ ≠ (.slice (some ad257) x9_2.length co45 : Value).ownBlock ∧ some k_ ≠ (.slice Ao68 x245000_2.length co68 : Value).ownBlock ∧ k_ ≠ gb224 ∧ k_ ≠ gb225 ∧ k_ ≠ gb226 ∧ k_ ≠ gb244)) (Kd.V_mono HO_226000.out (fun _ hk => ⟨⟨hk.1, ⟨hk.2.1, ⟨hk.2.2.1, ⟨hk.2.2.2.2.1, ⟨hk.2.2.2.2.2.1, ⟨hk.2.2.2.2.2.2.1, hk.2.2.2.2.2.2.2⟩⟩⟩⟩⟩⟩, hk.2.2.2.1⟩)) hg hat); replace HO_226001 := gA (Kd.V_afterv (ok := (fun k_ => ((P1_0_ k_ ∨ P1_1_ k_) ∨ w.heap.size ≤ k_) ∧ some k_ ≠ (.slice (some ad257) x9_2.length co45 : Value).ownBlock ∧ some k_ ≠ (.slice Ao68 x245000_2.length co68 : Value).ownBlock ∧ k_ ≠ gb224 ∧ k_ ≠ gb225 ∧ k_ ≠ gb226 ∧ k_ ≠ gb244)) (Kd.V_mono HO_226001.out (fun _ hk => ⟨⟨hk.1, ⟨hk.2.1, ⟨hk.2.2.1, ⟨hk.2.2.2.2.1, ⟨hk.2.2.2.2.2.1, ⟨hk.2.2.2.2.2.2.1, hk.2.2.2.2.2.2.2⟩⟩⟩⟩⟩⟩, hk.2.2.2.1⟩)) hg hat); replace HO_245000 := gA (Kd.R_over' (gR HO_245000) (Kd.N_typed (gN HO_245001)) (by decide) hg); replace BK224 := gA (blk_grown (gK BK224) hg (Kd.N_ne HO_245001.out BK224.out (by decide))); replace BK225 := gA (blk_grown (gK BK225) hg (Kd.N_ne HO_245001.out BK225.out (by decide))); replace BK226 := gA (blk_grown (gK BK226) hg (Kd.N_ne HO_245001.out BK226.out (by decide))); replace BK244 := gA (blk_grown (gK BK244) hg (Kd.N_ne HO_245001.out BK244.out (by decide))); replace HO262 := gA (Kd.V_afterv (ok := (fun k_ => ((P1_0_ k_ ∨ P1_1_ k_) ∨ w.heap.size ≤ k_) ∧ some k_ ≠ (.slice (some ad257) x9_2.length co45 : Value).ownBlock ∧ some k_ ≠ (.slice Ao68 x245000_2.length co68 : Value).ownBlock ∧ k_ ≠ gb224 ∧ k_ ≠ gb225 ∧ k_ ≠ gb226 ∧ k_ ≠ gb244)) (Kd.V_mono HO262.out (fun _ hk => ⟨⟨hk.1, ⟨hk.2.1, ⟨hk.2.2.1, ⟨hk.2.2.2.2.1, ⟨hk.2.2.2.2.2.1, ⟨hk.2.2.2.2.2.2.1, hk.2.2.2.2.2.2.2⟩⟩⟩⟩⟩⟩, hk.2.2.2.1⟩)) hg hat); replace HB := gA (hb); have HO265 := gA (ho); clear HO_245001 ho hb hg hat
                  obtain ⟨Ao94, co94, eo94⟩ := Kd.N_slice HO265.out
                  (first | subst eo94 | (injection eo94 with f1_ f2_ f3_; have f4_ := f1_.symm; have f5_ := f3_.symm; clear f1_ f2_ f3_; subst f4_; subst f5_))
                  refine hK.out _ _ ⟨(blk_cell BK244.out 0).trans rfl, (blk_cell BK244.out 1).trans rfl, (blk_cell BK225.out 0).trans rfl, (blk_cell BK225.out 1).trans rfl⟩ (fun hHeld => ?_); clear hK K
                  refine norm_ (a' := ?_) ?_ ?_; rotate_left
                  ·show Act.put _ (some 128) _ = _
                   simp only [Act.put, List.setIfInBounds_toArray, List.set_cons_zero, List.set_cons_succ, i64_w, i32_w]; rfl
                  refine pure_ (i := 17) (N := some 129) (v := ?_) (a' := ?_) #[true, true, true, true, true, true, true, true, true, true, true, true, true, true, true, true, true, true, false] rfl rfl (any_of HT_.out (by kernel_rfl)) (fun _ _ _ h => h) (Or.inl ⟨by rfl, ?_⟩) ?_ ?_; rotate_left
                  ·intro w'; go_simp; with_reducible rfl
                  rotate_left
                  ·simp only [Act.put, List.setIfInBounds_toArray, List.set_cons_zero, List.set_cons_succ, i64_w, i32_w]; rfl
                  refine last_ (i := 18) (N := none) #[true, true, true, true, true, true, true, true, true, true, true, true, true, true, true, true, true, true, true] rfl rfl (one_of HT_.out (by kernel_rfl)) (by decide) (fun K hK => ?_)
                  have hs95 := gz BK244 1 rfl
                  have hfs95 := blk_frozen BK244.out 1
                  have hns95_0 := NB224_244.out
                  have hns95_1 := NB225_244.out
                  have hns95_2 := NB226_244.out
                  have hms95_0 := NB244_224.out
                  have hms95_1 := NB244_225.out
                  have hms95_2 := NB244_226.out
                  refine skip_ (w1 := ?_) (by rfl) rfl ?_ ?_; rotate_left
                  ·go_simp; rfl
                  refine hK.out _ _ ?_; clear hK K
                  refine done_ (done_of HT_.out (by kernel_rfl)) ?_
                  try go_wp2
                  go_roundg k6
                  case measure => have := HJ4.out; have := HK2.out; have := HK3.out; have := HK4.out; have := HK5.out; have := HK6.out; omega
                  case rel => exact ⟨(wrap64 (x110_6 + 1)), (y263), (.slice Ao94 y263.length co94), (rfl), H', ⟨by have := HJ4.out; have := HK2.out; have := HK3.out; have := HK4.out; have := HK5.out; have := HK6.out; omega⟩, ⟨by (try simp only [hl9_2]); (with_reducible repeat (first | apply Kd.R_alloc | apply Kd.R_drewN | apply Kd.R_drew)); exact Kd.R_mono (Kd.R_far (p := ⟨gb244, 1, none⟩) (Kd.R_types HO_9.out BK244.out (by decide)) (fun _ hk => hk.2) (.slice Ao94 y263.length co94)) (fun _ hk => ⟨hk.1.1, hk.1.2⟩)⟩, ⟨by (try simp only [hl9_2]); (with_reducible repeat (first | apply Kd.V_alloc | apply Kd.V_drewN | apply Kd.V_drew)); exact Kd.V_mono (Kd.V_far (p := ⟨gb244, 1, none⟩) (Kd.V_mono HO_226000.out (fun k_ hk => (⟨hk, hk.1.2.2.2.2.2.2⟩ : _ ∧ k_ ≠ gb244))) (fun _ hk => hk.2) (.slice Ao94 y263.length co94)) (fun _ hk => by first | exact ⟨hk.1.1.1, ⟨hk.1.1.2.1, ⟨hk.1.1.2.2.1, ⟨hk.1.2, ⟨hk.1.1.2.2.2.1, ⟨hk.1.1.2.2.2.2.1, ⟨hk.1.1.2.2.2.2.2.1, hk.1.1.2.2.2.2.2.2⟩⟩⟩⟩⟩⟩⟩ | (simp_all; done))⟩, ⟨by (try simp only [hl9_2]); (with_reducible repeat (first | apply Kd.V_alloc | apply Kd.V_drewN | apply Kd.V_drew)); exact Kd.V_mono (Kd.V_far (p := ⟨gb244, 1, none⟩) (Kd.V_mono HO_226001.out (fun k_ hk => (⟨hk, hk.1.2.2.2.2.2.2⟩ : _ ∧ k_ ≠ gb244))) (fun _ hk => hk.2) (.slice Ao94 y263.length co94)) (fun _ hk => by first | exact ⟨hk.1.1.1, ⟨hk.1.1.2.1, ⟨hk.1.1.2.2.1, ⟨hk.1.2, ⟨hk.1.1.2.2.2.1, ⟨hk.1.1.2.2.2.2.1, ⟨hk.1.1.2.2.2.2.2.1, hk.1.1.2.2.2.2.2.2⟩⟩⟩⟩⟩⟩⟩ | (simp_all; done))⟩, ⟨by (try simp only [hl9_2]); (with_reducible repeat (first | apply Kd.R_alloc | apply Kd.R_drewN | apply Kd.R_drew)); exact Kd.R_mono (Kd.R_far (p := ⟨gb244, 1, none⟩) (Kd.R_types HO_245000.out BK244.out (by decide)) (fun _ hk => hk.2) (.slice Ao94 y263.length co94)) (fun _ hk => ⟨hk.1.1, hk.1.2⟩)⟩, ⟨by (try simp only [hl9_2]); (with_reducible repeat (first | apply Kd.N_alloc | apply Kd.N_drewN | apply Kd.N_drew)); exact Kd.N_mono (Kd.N_far (p := ⟨gb244, 1, none⟩) (Kd.N_mono HO265.out (fun k_ hk => (⟨hk, hk.2.2.2.2.2.2⟩ : _ ∧ k_ ≠ gb244))) (fun _ hk => hk.2) (.slice Ao94 y263.length co94)) (fun _ hk => ⟨hk.1.1, ⟨hk.1.2.1, ⟨hk.1.2.2.1, ⟨hk.1.2.2.2.1, ⟨hk.1.2.2.2.2.1, ⟨hk.1.2.2.2.2.2.1, hk.1.2.2.2.2.2.2⟩⟩⟩⟩⟩⟩)⟩, ⟨by (try simp only [hl9_2]); (with_reducible repeat (first | refine blk_drewN ?_ _ | refine blk_drew ?_ | refine blk_alloc ?_ _)); refine blk_far ?_ NB224_244.out _; exact gK BK224⟩, ⟨by (try simp only [hl9_2]); (with_reducible repeat (first | refine blk_drewN ?_ _ | refine blk_drew ?_ | refine blk_alloc ?_ _)); refine blk_far ?_ NB225_244.out _; exact gK BK225⟩, ⟨by (try simp only [hl9_2]); (with_reducible repeat (first | refine blk_drewN ?_ _ | refine blk_drew ?_ | refine blk_alloc ?_ _)); refine blk_far ?_ NB226_244.out _; exact gK BK226⟩, ⟨by (try simp only [hl9_2]); (with_reducible repeat (first | refine blk_drewN ?_ _ | refine blk_drew ?_ | refine blk_alloc ?_ _)); refine blk_put (cs := #[.slice Ao68 x245000_2.length co68, u245001]) ?_ 1 _ rfl; exact gK BK244⟩, ⟨by repeat first | exact gB HB | refine below_set ?_ GE224.out | refine below_set ?_ GE225.out | refine below_set ?_ GE226.out | refine below_set ?_ GE244.out⟩⟩
                 ·rw [if_neg c85] at H
                  have c85b0 := decide_eq_false c85; have c85b0z := c85b0; (try rw [hl9_2] at c85b0z)
                  clear c85
                  have H' := gA H
                  clear H
                  go_wp2
                  go_roundg k6
                  case measure => have := HJ4.out; have := HK2.out; have := HK3.out; have := HK4.out; have := HK5.out; have := HK6.out; omega
                  case rel => exact ⟨(wrap64 (x104_5 + 1)), (x245001_6), (u245001), (rfl), H', ⟨by have := HJ4.out; have := HK2.out; have := HK3.out; have := HK4.out; have := HK5.out; have := HK6.out; omega⟩, ⟨by (try simp only [hl9_2]); (with_reducible repeat (first | apply Kd.R_alloc | apply Kd.R_drewN | apply Kd.R_drew)); exact HO_9.out⟩, ⟨by (try simp only [hl9_2]); (with_reducible repeat (first | apply Kd.V_alloc | apply Kd.V_drewN | apply Kd.V_drew)); exact HO_226000.out⟩, ⟨by (try simp only [hl9_2]); (with_reducible repeat (first | apply Kd.V_alloc | apply Kd.V_drewN | apply Kd.V_drew)); exact HO_226001.out⟩, ⟨by (try simp only [hl9_2]); (with_reducible repeat (first | apply Kd.R_alloc | apply Kd.R_drewN | apply Kd.R_drew)); exact HO_245000.out⟩, ⟨by (try simp only [hl9_2]); (with_reducible repeat (first | apply Kd.N_alloc | apply Kd.N_drewN | apply Kd.N_drew)); exact HO_245001.out⟩, ⟨by (try simp only [hl9_2]); exact gK BK224⟩, ⟨by (try simp only [hl9_2]); exact gK BK225⟩, ⟨by (try simp only [hl9_2]); exact gK BK226⟩, ⟨by (try simp only [hl9_2]); exact gK BK244⟩, ⟨gB HB⟩⟩
              ·rw [if_neg c82] at H
               have c82b0 := decide_eq_false c82; have c82b0z := c82b0; (try rw [hl9_2] at c82b0z)
               clear c82
               have H' := gA H
               clear H
               go_wp2
               go_roundg k5
               case measure => have := HJ4.out; have := HK2.out; have := HK3.out; have := HK4.out; have := HK5.out; omega
               case rel => exact ⟨(wrap64 (x19_4 + (wrap64 ((x9_2.length : Int) * x16_3)))), (x245001_5), (u245001), (rfl), H', ⟨by have := HJ4.out; have := HK2.out; have := HK3.out; have := HK4.out; have := HK5.out; omega⟩, ⟨by (try simp only [hl9_2]); (with_reducible repeat (first | apply Kd.R_alloc | apply Kd.R_drewN | apply Kd.R_drew)); exact HO_9.out⟩, ⟨by (try simp only [hl9_2]); (with_reducible repeat (first | apply Kd.V_alloc | apply Kd.V_drewN | apply Kd.V_drew)); exact HO_226000.out⟩, ⟨by (try simp only [hl9_2]); (with_reducible repeat (first | apply Kd.V_alloc | apply Kd.V_drewN | apply Kd.V_drew)); exact HO_226001.out⟩, ⟨by (try simp only [hl9_2]); (with_reducible repeat (first | apply Kd.R_alloc | apply Kd.R_drewN | apply Kd.R_drew)); exact HO_245000.out⟩, ⟨by (try simp only [hl9_2]); (with_reducible repeat (first | apply Kd.N_alloc | apply Kd.N_drewN | apply Kd.N_drew)); exact HO_245001.out⟩, ⟨by (try simp only [hl9_2]); exact gK BK224⟩, ⟨by (try simp only [hl9_2]); exact gK BK225⟩, ⟨by (try simp only [hl9_2]); exact gK BK226⟩, ⟨by (try simp only [hl9_2]); exact gK BK244⟩, ⟨gB HB⟩⟩
           ·rw [if_neg c77] at H
            have c77b0 := decide_eq_false c77; have c77b0z := c77b0; (try rw [hl9_2] at c77b0z)
            clear c77
            simp only [Option.some.injEq, Prod.mk.injEq] at H
            obtain ⟨rfl, rfl, rfl⟩ := H
            have hnb96 := NB225_224.out
            have hnc96 := NB224_225.out
            have hnb97 := NB225_226.out
            have hnc97 := NB226_225.out
            have hnb98 := NB225_244.out
            have hnc98 := NB244_225.out
            obtain ⟨hcz99_0, hcz99_1, hfz99_0, hfz99_1⟩ := gz2 BK225
            have hnb100 := NB244_224.out
            have hnc100 := NB224_244.out
            have hnb101 := NB244_226.out
            have hnc101 := NB226_244.out
            obtain ⟨hcz102_0, hcz102_1, hfz102_0, hfz102_1⟩ := gz2 BK244
            have hnb103 := NB226_224.out
            have hnc103 := NB224_226.out
            obtain ⟨hcz104_0, hcz104_1, hfz104_0, hfz104_1⟩ := gz2 BK226
            obtain ⟨Ao105, co105, eo105⟩ := Kd.N_slice HO_245001.out
            subst eo105
            go_wp2
            refine bodyPost_ret (results_ct rfl _ _ gb226 25 #[.slice Ao68 x245000_2.length co68, .slice Ao105 x245001_4.length co105] (0, 0) _ rfl (by refine blk_put (cs := #[.slice Ao68 x245000_2.length co68, .slice none 0 0]) ?_ 1 _ rfl; refine blk_put (cs := #[.slice none 0 0, .slice none 0 0]) ?_ 0 _ rfl; exact gK BK226) Try.underlying25 rfl (by kernel_rfl)) rfl ?_
            exact ⟨_, _, by first | rfl | (simp [errW_none, errW_some] <;> rfl) | (simp only [← hji61]; first | rfl | (simp [errW_none, errW_some] <;> rfl)) | (simp [*, errW_none, errW_some] <;> rfl), Kd.R_mono (Kd.R_far (p := ⟨gb226, 1, none⟩) (Kd.R_far (p := ⟨gb226, 0, none⟩) (Kd.R_types HO_245000.out BK226.out (by decide)) (fun _ hk => hk.2) (.slice Ao68 x245000_2.length co68)) (fun _ hk => hk.2) (.slice Ao105 x245001_4.length co105)) (fun _ hk => hk.1.1), Kd.N_mono (Kd.N_far (p := ⟨gb226, 1, none⟩) (Kd.N_far (p := ⟨gb226, 0, none⟩) (Kd.N_mono HO_245001.out (fun k_ hk => (⟨hk, hk.2.2.2.2.2.1⟩ : _ ∧ k_ ≠ gb226))) (fun _ hk => hk.2) (.slice Ao68 x245000_2.length co68)) (fun _ hk => hk.2) (.slice Ao105 x245001_4.length co105)) (fun _ hk => ⟨hk.1.1, hk.1.2.2.1⟩), by repeat first | exact gB HB | refine below_set ?_ GE224.out | refine below_set ?_ GE225.out | refine below_set ?_ GE226.out | refine below_set ?_ GE244.out⟩
end Go.Proofs.Ytdihmempaonfjaa.P
