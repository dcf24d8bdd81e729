/- Written by a program of this session: the functions that the laws reach, what each comes to, and each law as it is stated, for every input. No condition. -/
import Derived.Test.YteamkcgkhcalhaaPx0
import Derived.Test.YteamkcgkhcalhaaPx1
import Derived.Test.YteamkcgkhcalhaaPx2
import Derived.Test.YteamkcgkhcalhaaPx3
namespace Go.Proofs.Yteamkcgkhcalhaa.P
open Go.RowKit Go.Proofs.YteamkcgkhcalhaaW.PrintWords Go.Proofs.YteamkcgkhcalhaaW.PrintLast Go.Proofs.YteamkcgkhcalhaaW.PrintMore
attribute [local go_sem] max2_int min2_int max_two min_two max_three min_three max_four min_four   -- for this text's walks alone
set_option linter.unusedVariables false
set_option linter.unusedSimpArgs false
mutual
def spell_Literal.j0 : Nat → List ByteArray → Bool → List Int → List (S60) → List ByteArray → List ByteArray → List ByteArray → ByteArray → ByteArray → ByteArray → ByteArray → ByteArray → ByteArray → ByteArray → ByteArray → Bool → Bool → Bool → Option (ByteArray × Int)
 | 0, _, _, _, _, _, _, _, _, _, _, _, _, _, _, _, _, _, _ => none
 | k + 1, x6, x27, x139000, x139001, x140000, x140001, x140002, x140003, x140004, x140005, x140006, x140007, x140008, x140009, x140010, x140011, x140012, x140013 => if x27 = true then (spell_Literal.l0 k x6 x139001 (x139001.length : Int) 0 x140000 x140001 x140002 x140003 x140004 x140005 x140006 x140007 x140008 x140009 x140010 x140011 x140012 x140013) else (spell_Literal.l1 k x6 x139001 (x139001.length : Int) 0 x140000 x140001 x140002 x140003 x140004 x140005 x140006 x140007 x140008 x140009 x140010 x140011 x140012 x140013)
def spell_Literal.l0 : Nat → List ByteArray → List (S60) → Int → Int → List ByteArray → List ByteArray → List ByteArray → ByteArray → ByteArray → ByteArray → ByteArray → ByteArray → ByteArray → ByteArray → ByteArray → Bool → Bool → Bool → Option (ByteArray × Int)
 | 0, _, _, _, _, _, _, _, _, _, _, _, _, _, _, _, _, _, _ => none
 | k + 1, x6, x29, x30, x31, x140000, x140001, x140002, x140003, x140004, x140005, x140006, x140007, x140008, x140009, x140010, x140011, x140012, x140013 => if x31 < x30 then (if 0 ≤ x31 then (if x31 < (x29.length : Int) then ((spell_Number.f ((rd_T60 x29 x31).f1) x140009).bind fun t144 => (if x6.length < 8796093022208 then (spell_Literal.l0 k (x6 ++ [t144]) x29 x30 (wrap64 (x31 + 1)) x140000 x140001 x140002 x140003 x140004 x140005 x140006 x140007 x140008 x140009 x140010 x140011 x140012 x140013) else (none))) else (none)) else (none)) else ((strings_Join.f x6 (⟨#[32]⟩ : ByteArray)).bind fun t148 => (some (t148, 0)))
def spell_Literal.l1 : Nat → List ByteArray → List (S60) → Int → Int → List ByteArray → List ByteArray → List ByteArray → ByteArray → ByteArray → ByteArray → ByteArray → ByteArray → ByteArray → ByteArray → ByteArray → Bool → Bool → Bool → Option (ByteArray × Int)
 | 0, _, _, _, _, _, _, _, _, _, _, _, _, _, _, _, _, _, _ => none
 | k + 1, x6, x47, x48, x49, x140000, x140001, x140002, x140003, x140004, x140005, x140006, x140007, x140008, x140009, x140010, x140011, x140012, x140013 => if x49 < x48 then (if 0 ≤ x49 then (if x49 < (x47.length : Int) then ((runes_Write.f (([(rd_T60 x47 x49).f1] : List Int))).bind fun bt154 => ((spell_sign.f k (strOfNums bt154.1) x140000 x140001 x140002 x140003 x140004 x140005 x140006 x140007 x140008 x140009 x140010 x140011 x140012 x140013).bind fun t158 => (if x6.length < 8796093022208 then (spell_Literal.l1 k (x6 ++ [t158]) x47 x48 (wrap64 (x49 + 1)) x140000 x140001 x140002 x140003 x140004 x140005 x140006 x140007 x140008 x140009 x140010 x140011 x140012 x140013) else (none)))) else (none)) else (none)) else ((strings_Join.f x6 (⟨#[]⟩ : ByteArray)).bind fun t162 => (if x140010.size + t162.size ≤ 9223372036854775807 then (if (x140010 ++ t162).size + x140010.size ≤ 9223372036854775807 then (some ((x140010 ++ t162) ++ x140010, 0)) else (none)) else (none)))
end
def spell_Literal.f (k : Nat) (l0_0 : List Int) (l0_1 : List (S60)) (l1_0 : List ByteArray) (l1_1 : List ByteArray) (l1_2 : List ByteArray) (a1_3 : ByteArray) (a1_4 : ByteArray) (a1_5 : ByteArray) (a1_6 : ByteArray) (a1_7 : ByteArray) (a1_8 : ByteArray) (a1_9 : ByteArray) (a1_10 : ByteArray) (a1_11 : Bool) (a1_12 : Bool) (a1_13 : Bool) : Option (ByteArray × Int) := (core_Literal.f k l0_0 l0_1).bind fun t140 => (if t140 = true then (if (l0_1.length : Int) > 0 then (if 0 < (l0_1.length : Int) then (spell_Literal.j0 k ([] : List ByteArray) (((rd_T60 l0_1 0).f0) == 0) l0_0 l0_1 l1_0 l1_1 l1_2 a1_3 a1_4 a1_5 a1_6 a1_7 a1_8 a1_9 a1_10 a1_11 a1_12 a1_13) else (none)) else (spell_Literal.j0 k ([] : List ByteArray) false l0_0 l0_1 l1_0 l1_1 l1_2 a1_3 a1_4 a1_5 a1_6 a1_7 a1_8 a1_9 a1_10 a1_11 a1_12 a1_13)) else (some ((⟨#[]⟩ : ByteArray), 1)))
theorem spell_Literal.mono_l : ∀ k, (∀ y0 y1 y2 y3 y4 y5 y6 y7 y8 y9 y10 y11 y12 y13 y14 y15 y16 y17, LeO (spell_Literal.j0 k y0 y1 y2 y3 y4 y5 y6 y7 y8 y9 y10 y11 y12 y13 y14 y15 y16 y17) (spell_Literal.j0 (k + 1) y0 y1 y2 y3 y4 y5 y6 y7 y8 y9 y10 y11 y12 y13 y14 y15 y16 y17)) ∧ (∀ y0 y1 y2 y3 y4 y5 y6 y7 y8 y9 y10 y11 y12 y13 y14 y15 y16 y17, LeO (spell_Literal.l0 k y0 y1 y2 y3 y4 y5 y6 y7 y8 y9 y10 y11 y12 y13 y14 y15 y16 y17) (spell_Literal.l0 (k + 1) y0 y1 y2 y3 y4 y5 y6 y7 y8 y9 y10 y11 y12 y13 y14 y15 y16 y17)) ∧ (∀ y0 y1 y2 y3 y4 y5 y6 y7 y8 y9 y10 y11 y12 y13 y14 y15 y16 y17, LeO (spell_Literal.l1 k y0 y1 y2 y3 y4 y5 y6 y7 y8 y9 y10 y11 y12 y13 y14 y15 y16 y17) (spell_Literal.l1 (k + 1) y0 y1 y2 y3 y4 y5 y6 y7 y8 y9 y10 y11 y12 y13 y14 y15 y16 y17))
 | 0 => ⟨fun _ _ _ _ _ _ _ _ _ _ _ _ _ _ _ _ _ _ r h => by simp [spell_Literal.j0] at h, fun _ _ _ _ _ _ _ _ _ _ _ _ _ _ _ _ _ _ r h => by simp [spell_Literal.l0] at h, fun _ _ _ _ _ _ _ _ _ _ _ _ _ _ _ _ _ _ r h => by simp [spell_Literal.l1] at h⟩
 | k + 1 => by
  obtain ⟨ih0, ih1, ih2⟩ := spell_Literal.mono_l k
  refine ⟨?_, ?_, ?_⟩
  ·intro y0 y1 y2 y3 y4 y5 y6 y7 y8 y9 y10 y11 y12 y13 y14 y15 y16 y17
   unfold spell_Literal.j0
   repeat' first
   | (with_reducible exact ih0 _ _ _ _ _ _ _ _ _ _ _ _ _ _ _ _ _ _)
   | (with_reducible exact ih1 _ _ _ _ _ _ _ _ _ _ _ _ _ _ _ _ _ _)
   | (with_reducible exact ih2 _ _ _ _ _ _ _ _ _ _ _ _ _ _ _ _ _ _)
   | (with_reducible exact core_Literal.mono _ _ _)
   | (with_reducible exact spell_sign.mono _ _ _ _ _ _ _ _ _ _ _ _ _ _ _ _)
   | (with_reducible exact LeO.refl _)
   | (with_reducible exact LeO.none _)
   | (with_reducible refine LeO.ite ?_ ?_)
   | (with_reducible refine LeO.bind ?_ (fun _ => ?_))



   | exact core_Literal.mono _ _ _
   | exact spell_sign.mono _ _ _ _ _ _ _ _ _ _ _ _ _ _ _ _



  ·intro y0 y1 y2 y3 y4 y5 y6 y7 y8 y9 y10 y11 y12 y13 y14 y15 y16 y17
   unfold spell_Literal.l0
   repeat' first
   | (with_reducible exact ih0 _ _ _ _ _ _ _ _ _ _ _ _ _ _ _ _ _ _)
   | (with_reducible exact ih1 _ _ _ _ _ _ _ _ _ _ _ _ _ _ _ _ _ _)
   | (with_reducible exact ih2 _ _ _ _ _ _ _ _ _ _ _ _ _ _ _ _ _ _)
   | (with_reducible exact core_Literal.mono _ _ _)
   | (with_reducible exact spell_sign.mono _ _ _ _ _ _ _ _ _ _ _ _ _ _ _ _)
   | (with_reducible exact LeO.refl _)
   | (with_reducible exact LeO.none _)
   | (with_reducible refine LeO.ite ?_ ?_)
   | (with_reducible refine LeO.bind ?_ (fun _ => ?_))



   | exact core_Literal.mono _ _ _
   | exact spell_sign.mono _ _ _ _ _ _ _ _ _ _ _ _ _ _ _ _



  ·intro y0 y1 y2 y3 y4 y5 y6 y7 y8 y9 y10 y11 y12 y13 y14 y15 y16 y17
   unfold spell_Literal.l1
   repeat' first
   | (with_reducible exact ih0 _ _ _ _ _ _ _ _ _ _ _ _ _ _ _ _ _ _)
   | (with_reducible exact ih1 _ _ _ _ _ _ _ _ _ _ _ _ _ _ _ _ _ _)
   | (with_reducible exact ih2 _ _ _ _ _ _ _ _ _ _ _ _ _ _ _ _ _ _)
   | (with_reducible exact core_Literal.mono _ _ _)
   | (with_reducible exact spell_sign.mono _ _ _ _ _ _ _ _ _ _ _ _ _ _ _ _)
   | (with_reducible exact LeO.refl _)
   | (with_reducible exact LeO.none _)
   | (with_reducible refine LeO.ite ?_ ?_)
   | (with_reducible refine LeO.bind ?_ (fun _ => ?_))



   | exact core_Literal.mono _ _ _
   | exact spell_sign.mono _ _ _ _ _ _ _ _ _ _ _ _ _ _ _ _
theorem spell_Literal.mono : ∀ a0 a1 a2 a3 a4 a5 a6 a7 a8 a9 a10 a11 a12 a13 a14 a15 k, LeO (spell_Literal.f k a0 a1 a2 a3 a4 a5 a6 a7 a8 a9 a10 a11 a12 a13 a14 a15) (spell_Literal.f (k + 1) a0 a1 a2 a3 a4 a5 a6 a7 a8 a9 a10 a11 a12 a13 a14 a15) := by
 intro a0 a1 a2 a3 a4 a5 a6 a7 a8 a9 a10 a11 a12 a13 a14 a15 k
 obtain ⟨ih0, ih1, ih2⟩ := spell_Literal.mono_l k
 unfold spell_Literal.f
 repeat' first
   | (with_reducible exact ih0 _ _ _ _ _ _ _ _ _ _ _ _ _ _ _ _ _ _)
   | (with_reducible exact ih1 _ _ _ _ _ _ _ _ _ _ _ _ _ _ _ _ _ _)
   | (with_reducible exact ih2 _ _ _ _ _ _ _ _ _ _ _ _ _ _ _ _ _ _)
   | (with_reducible exact core_Literal.mono _ _ _)
   | (with_reducible exact spell_sign.mono _ _ _ _ _ _ _ _ _ _ _ _ _ _ _ _)
   | (with_reducible exact LeO.refl _)
   | (with_reducible exact LeO.none _)
   | (with_reducible refine LeO.ite ?_ ?_)
   | (with_reducible refine LeO.bind ?_ (fun _ => ?_))



   | exact core_Literal.mono _ _ _
   | exact spell_sign.mono _ _ _ _ _ _ _ _ _ _ _ _ _ _ _ _
def spell_Literal.T17 : Bool × List (List Nat × List Nat) := (true, [([], []), ([0], [0]), ([], []), ([2], [2]), ([1, 3], [1, 3]), ([], []), ([5], [5]), ([4, 6], [4, 6]), ([7, 3, 0, 1, 2, 3, 4, 5, 6, 7], [7]), ([8, 0, 1, 2, 3, 4, 5, 6, 7, 8], [])])
def spell_Literal.B17 : List Nat := [0, 1, 0, 4, 15, 0, 32, 127, 255, 511]
theorem spell_Literal.tab17 : rtab .any (opsOf Try.f10 17) = spell_Literal.T17 := by kernel_rfl
theorem spell_Literal.bits17 : waitsOk spell_Literal.T17.2 spell_Literal.B17 = true := by kernel_rfl
set_option maxHeartbeats 8000000 in
set_option maxRecDepth 100000 in
theorem spell_Literal.calls (k : Nat) (A0_0 : Option Addr) (c0_0 : Nat) (l0_0 : List Int) (A0_1 : Option Addr) (c0_1 : Nat) (l0_1 : List (S60)) (A1_0 : Option Addr) (c1_0 : Nat) (l1_0 : List ByteArray) (A1_1 : Option Addr) (c1_1 : Nat) (l1_1 : List ByteArray) (A1_2 : Option Addr) (c1_2 : Nat) (l1_2 : List ByteArray) (a1_3 : ByteArray) (a1_4 : ByteArray) (a1_5 : ByteArray) (a1_6 : ByteArray) (a1_7 : ByteArray) (a1_8 : ByteArray) (a1_9 : ByteArray) (a1_10 : ByteArray) (a1_11 : Bool) (a1_12 : Bool) (a1_13 : Bool) (r1 : ByteArray) (r2 : Int) (w : World) (hr0_0 : Kd.C (Kd.int .i64) w A0_0 l0_0.length l0_0) (hc0_0 : l0_0.length ≤ c0_0) (hr0_1 : Kd.C k60 w A0_1 l0_1.length l0_1) (hc0_1 : l0_1.length ≤ c0_1) (hr1_0 : Kd.C Kd.string w A1_0 l1_0.length l1_0) (hc1_0 : l1_0.length ≤ c1_0) (hr1_1 : Kd.C Kd.string w A1_1 l1_1.length l1_1) (hc1_1 : l1_1.length ≤ c1_1) (hr1_2 : Kd.C Kd.string w A1_2 l1_2.length l1_2) (hc1_2 : l1_2.length ≤ c1_2) (h : spell_Literal.f k l0_0 l0_1 l1_0 l1_1 l1_2 a1_3 a1_4 a1_5 a1_6 a1_7 a1_8 a1_9 a1_10 a1_11 a1_12 a1_13 = some (r1, r2)) :
  Calls Try.prog 10 #[.agg #[.slice A0_0 l0_0.length c0_0, .slice A0_1 l0_1.length c0_1], .agg #[.slice A1_0 l1_0.length c1_0, .slice A1_1 l1_1.length c1_1, .slice A1_2 l1_2.length c1_2, .string a1_3, .string a1_4, .string a1_5, .string a1_6, .string a1_7, .string a1_8, .string a1_9, .string a1_10, .bool a1_11, .bool a1_12, .bool a1_13]] w fun e w' => e = .returned (.tuple #[.string r1, .int .i64 r2]) ∧ Below w.heap.size w w' := by
 have hu28 := Try.underlying28
 have hu32 := Try.underlying32
 have hu60 := Try.underlying60
 have HR0_0 := gA hr0_0
 have HC0_0 := gA hc0_0
 clear hr0_0 hc0_0
 have HR0_1 := gA hr0_1
 have HC0_1 := gA hc0_1
 clear hr0_1 hc0_1
 have HR1_0 := gA hr1_0
 have HC1_0 := gA hc1_0
 clear hr1_0 hc1_0
 have HR1_1 := gA hr1_1
 have HC1_1 := gA hc1_1
 clear hr1_1 hc1_1
 have HR1_2 := gA hr1_2
 have HC1_2 := gA hc1_2
 clear hr1_2 hc1_2
 have HB := gA (Below.refl w.heap.size w)
 have H : ((core_Literal.f k l0_0 l0_1).bind fun t140 => (if t140 = true then (if (l0_1.length : Int) > 0 then (if 0 < (l0_1.length : Int) then (spell_Literal.j0 k ([] : List ByteArray) (((rd_T60 l0_1 0).f0) == 0) l0_0 l0_1 l1_0 l1_1 l1_2 a1_3 a1_4 a1_5 a1_6 a1_7 a1_8 a1_9 a1_10 a1_11 a1_12 a1_13) else (none)) else (spell_Literal.j0 k ([] : List ByteArray) false l0_0 l0_1 l1_0 l1_1 l1_2 a1_3 a1_4 a1_5 a1_6 a1_7 a1_8 a1_9 a1_10 a1_11 a1_12 a1_13)) else (some ((⟨#[]⟩ : ByteArray), 1)))) = some (r1, r2) := h
 clear h
 replace H := Option.bind_eq_some_iff.mp H
 obtain ⟨t140, A30, H⟩ := H
 replace H : (if t140 = true then (if (l0_1.length : Int) > 0 then (if 0 < (l0_1.length : Int) then (spell_Literal.j0 k ([] : List ByteArray) (((rd_T60 l0_1 0).f0) == 0) l0_0 l0_1 l1_0 l1_1 l1_2 a1_3 a1_4 a1_5 a1_6 a1_7 a1_8 a1_9 a1_10 a1_11 a1_12 a1_13) else (none)) else (spell_Literal.j0 k ([] : List ByteArray) false l0_0 l0_1 l1_0 l1_1 l1_2 a1_3 a1_4 a1_5 a1_6 a1_7 a1_8 a1_9 a1_10 a1_11 a1_12 a1_13)) else (some ((⟨#[]⟩ : ByteArray), 1))) = some (r1, r2) := H
 have A3 := gA A30
 clear A30
 by_cases c4 : t140 = true
 ·subst c4
  have H1 : (if (l0_1.length : Int) > 0 then (if 0 < (l0_1.length : Int) then (spell_Literal.j0 k ([] : List ByteArray) (((rd_T60 l0_1 0).f0) == 0) l0_0 l0_1 l1_0 l1_1 l1_2 a1_3 a1_4 a1_5 a1_6 a1_7 a1_8 a1_9 a1_10 a1_11 a1_12 a1_13) else (none)) else (spell_Literal.j0 k ([] : List ByteArray) false l0_0 l0_1 l1_0 l1_1 l1_2 a1_3 a1_4 a1_5 a1_6 a1_7 a1_8 a1_9 a1_10 a1_11 a1_12 a1_13)) = some (r1, r2) := by rw [if_pos rfl] at H; exact H
  clear H; have H := H1; clear H1
  have HC5 := gA H
  clear H
  go_enter Try.func10, Try.ntmps10
  go_upto_region 4 with (first | ((with_reducible refine gate_dst (N := 2) rfl ?_); refine box_event ?hg (N := 2) ?hd (cs := #[.slice A0_0 l0_0.length c0_0, .slice A0_1 l0_1.length c0_1]) (t := 28) ?hr ?_; (case hd => rfl); (case hg => rfl); (case hr => first | (go_simp; done) | (go_simp; rfl)); intro gb138 hg w6 hbox hb; have BK138 := gA (hbox); have GW138 := gA ((by rw [hg]; exact (below_size (gB HB)) : w.heap.size ≤ gb138)); have GE138 := gA ((by rw [hg]; exact (below_size (gB HB)) : w.heap.size ≤ gb138)); replace HB := gA (below_step (gB HB) hb); clear hb hbox hg) | ((with_reducible refine gate_dst (N := 3) rfl ?_); refine box_event ?hg (N := 3) ?hd (cs := #[.slice A1_0 l1_0.length c1_0, .slice A1_1 l1_1.length c1_1, .slice A1_2 l1_2.length c1_2, .string a1_3, .string a1_4, .string a1_5, .string a1_6, .string a1_7, .string a1_8, .string a1_9, .string a1_10, .bool a1_11, .bool a1_12, .bool a1_13]) (t := 32) ?hr ?_; (case hd => rfl); (case hg => rfl); (case hr => first | (go_simp; done) | (go_simp; rfl)); intro gb139 hg w7 hbox hb; have BK139 := gA (hbox); have GW139 := gA ((by rw [hg]; exact (below_size (gB HB)) : w.heap.size ≤ gb139)); have GE139 := gA ((by rw [hg]; exact (below_size (gB HB)) : w.heap.size ≤ gb139)); replace HB := gA (below_step (gB HB) hb); have NB138_139 := gA ((by rw [hg]; exact Nat.ne_of_lt (blk_lt (gK BK138)) : gb138 ≠ gb139)); have NB139_138 := gA ((by rw [hg]; exact Nat.ne_of_gt (blk_lt (gK BK138)) : gb139 ≠ gb138)); replace BK138 := gA (blk_below (gK BK138) hb); clear hb hbox hg; have hnb8 := NB138_139.out; have hnc8 := NB139_138.out; obtain ⟨hcz9_0, hcz9_1, hfz9_0, hfz9_1⟩ := gz2 BK138) | ((with_reducible refine gate_callee (f := 24) rfl ?_); refine goesL_ (some 14) rfl rfl Try.func24 (by kernel_rfl) rfl #[.agg #[.slice A0_0 l0_0.length c0_0, .slice A0_1 l0_1.length c0_1]] rfl (by (try simp only [List.map_toArray, List.map_cons, List.map_nil]); first | done | rfl | (simp only [List.length_drop, List.length_take]; rfl)) ?_; (with_reducible refine (core_Literal.calls k _ _ l0_0 _ _ l0_1 true _ ?side1 ?side2 ?side3 ?side4 A3.out).mono ?_); (case side1 => exact gC HR0_0 HB); (case side2 => exact HC0_0.out); (case side3 => exact gC HR0_1 HB); (case side4 => exact HC0_1.out); rintro e w10 ⟨rfl, hb⟩; refine ⟨_, rfl, ?_⟩; replace BK138 := gA (blk_below (gK BK138) hb); replace BK139 := gA (blk_below (gK BK139) hb); replace HB := gA (below_step (gB HB) hb); (try clear hb)))
  (try simp only [Act.put, List.setIfInBounds_toArray, List.set_cons_zero, List.set_cons_succ])
  go_cut [27] (fun v27 wc => ∃ (kq : Nat) (x27_4 : Bool), v27 = .bool x27_4 ∧ Aside0 (spell_Literal.j0 kq ([] : List ByteArray) x27_4 l0_0 l0_1 l1_0 l1_1 l1_2 a1_3 a1_4 a1_5 a1_6 a1_7 a1_8 a1_9 a1_10 a1_11 a1_12 a1_13 = some (r1, r2)) ∧ Aside0 (kq ≤ k) ∧ Aside0 (Kd.R Kd.string 9 wc w.heap.size (fun _ => True) (.slice none 0 0) ([] : List ByteArray)) ∧ Aside0 (wc.heap[gb138]? = some (.cells #[(.slice A0_0 l0_0.length c0_0), (.slice A0_1 l0_1.length c0_1)] 28 (0, 0))) ∧ Aside0 (wc.heap[gb139]? = some (.cells #[(.slice A1_0 l1_0.length c1_0), (.slice A1_1 l1_1.length c1_1), (.slice A1_2 l1_2.length c1_2), .string a1_3, .string a1_4, .string a1_5, .string a1_6, .string a1_7, .string a1_8, .string a1_9, .string a1_10, .bool a1_11, .bool a1_12, .bool a1_13] 32 (0, 0))) ∧ Aside0 (Below w.heap.size w wc))
  case first =>
   have H := HC5.out; clear HC5
   by_cases c11 : (l0_1.length : Int) > 0
   ·rw [if_pos c11] at H
    have c11b0 : decide (0 < (l0_1.length : Int)) = true := decide_eq_true c11
    have c11b1 : decide (0 < l0_1.length) = true := decide_eq_true (by omega)
    clear c11
    (first | rw [c11b0] | rw [c11b1] | (simp only [i64_w, i32_w]; rw [c11b0]) | skip)
    obtain ⟨c12, H⟩ := iS H
    have c12b0 := decide_eq_true c12
    have c12b1 : decide (0 < l0_1.length) = true := decide_eq_true (by omega)
    clear c12
    have H' := gA H
    clear H
    have hnb13 := NB138_139.out
    have hnc13 := NB139_138.out
    obtain ⟨hcz14_0, hcz14_1, hfz14_0, hfz14_1⟩ := gz2 BK138
    have p141 : 0 ≤ (0 : Int) := (by omega)
    have q141 : 0 < (l0_1.length : Int) := of_decide_eq_true (by assumption)
    obtain ⟨ad141, A141_2, c141_2, e141, hx141_0, hx141_1, hx141_2, hl141_2, hi141_2⟩ := at_T60 HR0_1.out 0 p141 q141
    cases e141
    have qi141 : (0 < l0_1.length) = True := eq_true (by omega)
    (try rw [show ((0 : Int)).toNat = 0 from rfl] at hx141_0)
    (try rw [show 0 * 3 = 0 from rfl] at hx141_0)
    (try rw [Addr.add_zero'] at hx141_0)
    (try rw [show ((0 : Int)).toNat = 0 from rfl] at hx141_1)
    (try rw [show 0 * 3 = 0 from rfl] at hx141_1)
    (try rw [Addr.add_zero'] at hx141_1)
    (try rw [show ((0 : Int)).toNat = 0 from rfl] at hx141_2)
    (try rw [show 0 * 3 = 0 from rfl] at hx141_2)
    (try rw [Addr.add_zero'] at hx141_2)
    replace hx141_0 := (HB.out.cell (World.block_lt_of_cell? w _ hx141_0)).trans hx141_0
    replace hx141_1 := (HB.out.cell (World.block_lt_of_cell? w _ hx141_1)).trans hx141_1
    replace hx141_2 := (HB.out.cell (World.block_lt_of_cell? w _ hx141_2)).trans hx141_2
    have HR141_2 := gA hi141_2
    have HC141_2 := gA hl141_2
    clear hi141_2 hl141_2
    replace p141 := eq_true p141
    replace q141 := eq_true q141
    go_wp2
    all_goals (go_meet; (case rel => exact ⟨_, ((((rd_T60 l0_1 0).f0) == 0)), (by first | rfl | (simp; done) | (simp [*]; done) | (exfalso; simp_all; done) | (exfalso; simp_all; omega)), H', ⟨by first | omega | exact Nat.le_refl _⟩, ⟨by first | exact Kd.R_nil _ _ _ _ _ | exact Kd.N_nil _ _ _ _ _ | exact Kd.V_nil _ _ _ _ _ | exact Kd.Q_nil _ _ _ _ _ | exact Kd.S_nil _ _ _ _ _⟩, ⟨gK BK138⟩, ⟨gK BK139⟩, ⟨gB HB⟩⟩))
   ·rw [if_neg c11] at H
    have c11b0 : decide (0 < (l0_1.length : Int)) = false := decide_eq_false c11
    have c11b1 : decide (0 < l0_1.length) = false := decide_eq_false (by omega)
    clear c11
    (first | rw [c11b0] | rw [c11b1] | (simp only [i64_w, i32_w]; rw [c11b0]) | skip)
    have H' := gA H
    clear H
    have hnb15 := NB138_139.out
    have hnc15 := NB139_138.out
    obtain ⟨hcz16_0, hcz16_1, hfz16_0, hfz16_1⟩ := gz2 BK138
    go_wp2
    all_goals (go_meet; (case rel => exact ⟨_, (false), (by first | rfl | (simp; done) | (simp [*]; done) | (exfalso; simp_all; done) | (exfalso; simp_all; omega)), H', ⟨by first | omega | exact Nat.le_refl _⟩, ⟨by first | exact Kd.R_nil _ _ _ _ _ | exact Kd.N_nil _ _ _ _ _ | exact Kd.V_nil _ _ _ _ _ | exact Kd.Q_nil _ _ _ _ _ | exact Kd.S_nil _ _ _ _ _⟩, ⟨gK BK138⟩, ⟨gK BK139⟩, ⟨gB HB⟩⟩))
  case rest =>
   clear HC5
   try clear c1
   try clear p1
   try clear q1
   try clear hx1
   try clear qi1
   try clear c2
   try clear p2
   try clear c4
   try clear c8
   try clear c10
   try clear c11
   try clear c11b0
   try clear c11b1
   try clear c12
   try clear c12b0
   try clear c12b1
   try clear c13
   try clear c14
   try clear p14
   try clear q14
   try clear hx14
   try clear qi14
   try clear c15
   try clear hcz14_0
   try clear hcz14_1
   try clear hcz16_0
   try clear hcz16_1
   try clear hcz9_0
   try clear hcz9_1
   try clear hfz14_0
   try clear hfz14_1
   try clear hfz16_0
   try clear hfz16_1
   try clear hfz9_0
   try clear hfz9_1
   try clear hx141_0
   try clear hx141_1
   try clear hx141_2
   try clear p141
   try clear q141
   obtain ⟨kq, x27_4, rfl, HA, HJ4, HO_6, BK138, BK139, HB⟩ := hcut
   cases kq with
   | zero => exact absurd HA.out (by simp [spell_Literal.j0])
   | succ kj4 =>
    have H := HA.out; clear HA
    simp only [spell_Literal.j0] at H
    by_cases c17 : x27_4 = true
    ·subst c17
     have H1 : (spell_Literal.l0 kj4 ([] : List ByteArray) l0_1 (l0_1.length : Int) 0 l1_0 l1_1 l1_2 a1_3 a1_4 a1_5 a1_6 a1_7 a1_8 a1_9 a1_10 a1_11 a1_12 a1_13) = some (r1, r2) := by rw [if_pos rfl] at H; exact H
     clear H; have H := H1; clear H1
     have H' := gA H
     clear H
     have hnb18 := NB138_139.out
     have hnc18 := NB139_138.out
     obtain ⟨hcz19_0, hcz19_1, hfz19_0, hfz19_1⟩ := gz2 BK138
     go_wp2
     go_loopg [6, 31] kj4 (fun kq v6 v31 w' => ∃ (x6_2 : List ByteArray) (x31_2 : Int), v31 = .int .i64 x31_2 ∧ Aside0 (spell_Literal.l0 kq x6_2 l0_1 (l0_1.length : Int) x31_2 l1_0 l1_1 l1_2 a1_3 a1_4 a1_5 a1_6 a1_7 a1_8 a1_9 a1_10 a1_11 a1_12 a1_13 = some (r1, r2)) ∧ Aside0 (kq ≤ kj4) ∧ Aside0 (Kd.R Kd.string 9 w' w.heap.size (fun _ => True) v6 x6_2) ∧ Aside0 (w'.heap[gb138]? = some (.cells #[(.slice A0_0 l0_0.length c0_0), (.slice A0_1 l0_1.length c0_1)] 28 (0, 0))) ∧ Aside0 (w'.heap[gb139]? = some (.cells #[(.slice A1_0 l1_0.length c1_0), (.slice A1_1 l1_1.length c1_1), (.slice A1_2 l1_2.length c1_2), .string a1_3, .string a1_4, .string a1_5, .string a1_6, .string a1_7, .string a1_8, .string a1_9, .string a1_10, .bool a1_11, .bool a1_12, .bool a1_13] 32 (0, 0))) ∧ Aside0 (Below w.heap.size w w'))
     case atStart => exact ⟨(([] : List ByteArray)), (0), (rfl), H', ⟨Nat.le_refl _⟩, ⟨gR HO_6⟩, ⟨gK BK138⟩, ⟨gK BK139⟩, ⟨by repeat first | exact gB HB | refine below_set ?_ GE138.out | refine below_set ?_ GE139.out⟩⟩
     case round =>
      clear H'
      try clear c1
      try clear p1
      try clear q1
      try clear hx1
      try clear qi1
      try clear c2
      try clear p2
      try clear c4
      try clear c8
      try clear c10
      try clear c11
      try clear c11b0
      try clear c11b1
      try clear c12
      try clear c12b0
      try clear c12b1
      try clear c13
      try clear c14
      try clear p14
      try clear q14
      try clear hx14
      try clear qi14
      try clear c15
      try clear c17
      try clear c18
      try clear hcz14_0
      try clear hcz14_1
      try clear hcz16_0
      try clear hcz16_1
      try clear hcz19_0
      try clear hcz19_1
      try clear hcz9_0
      try clear hcz9_1
      try clear hfz14_0
      try clear hfz14_1
      try clear hfz16_0
      try clear hfz16_1
      try clear hfz19_0
      try clear hfz19_1
      try clear hfz9_0
      try clear hfz9_1
      try clear hx141_0
      try clear hx141_1
      try clear hx141_2
      try clear p1
      try clear p14
      try clear p141
      try clear p2
      try clear q1
      try clear q14
      try clear q141
      obtain ⟨x6_2, x31_2, rfl, HA, HK2, HO_6, BK138, BK139, HB⟩ := hrel
      cases gk with
      | zero => exact absurd HA.out (by simp [spell_Literal.l0])
      | succ k2 =>
       have H := HA.out; clear HA
       simp only [spell_Literal.l0] at H
       by_cases c20 : x31_2 < (l0_1.length : Int)
       ·rw [if_pos c20] at H
        have c20b0 := decide_eq_true c20
        clear c20
        obtain ⟨c21, H⟩ := iS H
        have c21b0 := decide_eq_true c21
        clear c21
        obtain ⟨c22, H⟩ := iS H
        have c22b0 := decide_eq_true c22
        clear c22
        replace H := Option.bind_eq_some_iff.mp H
        obtain ⟨t144, A230, H⟩ := H
        replace H : (if x6_2.length < 8796093022208 then (spell_Literal.l0 k2 (x6_2 ++ [t144]) l0_1 (l0_1.length : Int) (wrap64 (x31_2 + 1)) l1_0 l1_1 l1_2 a1_3 a1_4 a1_5 a1_6 a1_7 a1_8 a1_9 a1_10 a1_11 a1_12 a1_13) else (none)) = some (r1, r2) := H
        have A23 := gA A230
        clear A230
        obtain ⟨c24, H⟩ := iS H
        have LMc24 := gA c24
        clear c24
        obtain ⟨y145, hy145⟩ : ∃ y_ : List ByteArray, y_ = (x6_2 ++ [t144]) := ⟨_, rfl⟩
        replace H : (spell_Literal.l0 k2 y145 l0_1 (l0_1.length : Int) (wrap64 (x31_2 + 1)) l1_0 l1_1 l1_2 a1_3 a1_4 a1_5 a1_6 a1_7 a1_8 a1_9 a1_10 a1_11 a1_12 a1_13) = some (r1, r2) := by first | (rw [hy145]; with_reducible exact H) | (have H2_ := (Option.bind_some _ _).symm.trans H; rw [hy145]; with_reducible exact H2_) | (have H2_ := (Option.bind_some _ _).symm.trans H; with_reducible exact H2_) | with_reducible exact H | (rw [hy145]; exact H) | exact H
        have Ny145 := gA hy145
        clear hy145
        have H' := gA H
        clear H
        have p142 : 0 ≤ (x31_2 : Int) := of_decide_eq_true (by assumption)
        have q142 : x31_2 < (l0_1.length : Int) := of_decide_eq_true (by assumption)
        obtain ⟨ad142, A142_2, c142_2, e142, hx142_0, hx142_1, hx142_2, hl142_2, hi142_2⟩ := at_T60 HR0_1.out x31_2 p142 q142
        cases e142
        replace hx142_0 := (HB.out.cell (World.block_lt_of_cell? w _ hx142_0)).trans hx142_0
        replace hx142_1 := (HB.out.cell (World.block_lt_of_cell? w _ hx142_1)).trans hx142_1
        replace hx142_2 := (HB.out.cell (World.block_lt_of_cell? w _ hx142_2)).trans hx142_2
        have HR142_2 := gA hi142_2
        have HC142_2 := gA hl142_2
        clear hi142_2 hl142_2
        replace p142 := eq_true p142
        replace q142 := eq_true q142
        go_wp2_with (first | ((with_reducible refine gate_dst (N := 8) rfl ?_); refine box_event ?hg (N := 8) ?hd (cs := #[.int .i64 0, .int .i64 0, .slice none 0 0]) (t := 60) ?hr ?_; (case hd => rfl); (case hg => rfl); (case hr => first | (go_simp; done) | (go_simp; rfl)); intro gb143 hg w25 hbox hb; replace HO_6 := gA (Kd.R_below (gR HO_6) hb); have BK143 := gA (hbox); have GW143 := gA ((by rw [hg]; exact (below_size (gB HB)) : w.heap.size ≤ gb143)); have GE143 := gA ((by rw [hg]; exact (below_size (gB HB)) : w.heap.size ≤ gb143)); replace HB := gA (below_step (by repeat first | exact gB HB | refine below_set ?_ GE138.out | refine below_set ?_ GE139.out) hb); have NB138_143 := gA ((by rw [hg]; exact Nat.ne_of_lt (blk_lt (gK BK138)) : gb138 ≠ gb143)); have NB143_138 := gA ((by rw [hg]; exact Nat.ne_of_gt (blk_lt (gK BK138)) : gb143 ≠ gb138)); replace BK138 := gA (blk_below (gK BK138) hb); have NB139_143 := gA ((by rw [hg]; exact Nat.ne_of_lt (blk_lt (gK BK139)) : gb139 ≠ gb143)); have NB143_139 := gA ((by rw [hg]; exact Nat.ne_of_gt (blk_lt (gK BK139)) : gb143 ≠ gb139)); replace BK139 := gA (blk_below (gK BK139) hb); clear hb hbox hg; have hnb26 := NB143_138.out; have hnc26 := NB138_143.out; have hnb27 := NB143_139.out; have hnc27 := NB139_143.out; obtain ⟨hcz28_0, hcz28_1, hcz28_2, hfz28_0, hfz28_1, hfz28_2⟩ := gz3 BK143; have hnb29 := NB139_138.out; have hnc29 := NB138_139.out; have hcz30_0 := gz BK139 0 rfl; have hcz30_1 := gz BK139 1 rfl; have hcz30_2 := gz BK139 2 rfl; have hcz30_3 := gz BK139 3 rfl; have hcz30_4 := gz BK139 4 rfl; have hcz30_5 := gz BK139 5 rfl; have hcz30_6 := gz BK139 6 rfl; have hcz30_7 := gz BK139 7 rfl; have hcz30_8 := gz BK139 8 rfl; have hcz30_9 := gz BK139 9 rfl; have hcz30_10 := gz BK139 10 rfl; have hcz30_11 := gz BK139 11 rfl; have hcz30_12 := gz BK139 12 rfl; have hcz30_13 := gz BK139 13 rfl; have hfz30_0 := blk_frozen BK139.out 0; have hfz30_1 := blk_frozen BK139.out 1; have hfz30_2 := blk_frozen BK139.out 2; have hfz30_3 := blk_frozen BK139.out 3; have hfz30_4 := blk_frozen BK139.out 4; have hfz30_5 := blk_frozen BK139.out 5; have hfz30_6 := blk_frozen BK139.out 6; have hfz30_7 := blk_frozen BK139.out 7; have hfz30_8 := blk_frozen BK139.out 8; have hfz30_9 := blk_frozen BK139.out 9; have hfz30_10 := blk_frozen BK139.out 10; have hfz30_11 := blk_frozen BK139.out 11; have hfz30_12 := blk_frozen BK139.out 12; have hfz30_13 := blk_frozen BK139.out 13) | ((with_reducible refine gate_callee (f := 5) rfl ?_); refine goesL_ (some 40) rfl rfl Try.func5 (by kernel_rfl) rfl #[.int .i64 ((rd_T60 l0_1 x31_2).f1), .string a1_9] rfl (by (try simp only [List.map_toArray, List.map_cons, List.map_nil]); first | done | rfl | (simp only [List.length_drop, List.length_take]; rfl)) ?_; (with_reducible refine (spell_Number.calls ((rd_T60 l0_1 x31_2).f1) a1_9 t144 _ A23.out).mono ?_); rintro e w31 ⟨rfl, hb⟩; refine ⟨_, rfl, ?_⟩; replace HO_6 := gA (Kd.R_below (by (with_reducible repeat (first | apply Kd.R_alloc | apply Kd.R_drewN | apply Kd.R_drew)); exact (Kd.R_mono (Kd.R_far (p := ⟨gb143, 2, none⟩) (Kd.R_far (p := ⟨gb143, 1, none⟩) (Kd.R_far (p := ⟨gb143, 0, none⟩) (Kd.R_types HO_6.out BK143.out (by decide)) (fun _ hk => hk.2) (.int .i64 ((rd_T60 l0_1 x31_2).f0))) (fun _ hk => hk.2) (.int .i64 ((rd_T60 l0_1 x31_2).f1))) (fun _ hk => hk.2) (.slice A142_2 ((rd_T60 l0_1 x31_2).f2).length c142_2)) (fun _ h_ => h_.1))) hb); replace BK138 := gA (blk_below (g := gb138) (o := .cells #[.slice A0_0 l0_0.length c0_0, .slice (some ad142) l0_1.length c0_1] 28 (0, 0)) (by refine blk_far ?_ NB138_143.out _; refine blk_far ?_ NB138_143.out _; refine blk_far ?_ NB138_143.out _; exact gK BK138) hb); replace BK139 := gA (blk_below (g := gb139) (o := .cells #[.slice A1_0 l1_0.length c1_0, .slice A1_1 l1_1.length c1_1, .slice A1_2 l1_2.length c1_2, .string a1_3, .string a1_4, .string a1_5, .string a1_6, .string a1_7, .string a1_8, .string a1_9, .string a1_10, .bool a1_11, .bool a1_12, .bool a1_13] 32 (0, 0)) (by refine blk_far ?_ NB139_143.out _; refine blk_far ?_ NB139_143.out _; refine blk_far ?_ NB139_143.out _; exact gK BK139) hb); replace BK143 := gA (blk_below (g := gb143) (o := .cells #[.int .i64 ((rd_T60 l0_1 x31_2).f0), .int .i64 ((rd_T60 l0_1 x31_2).f1), .slice A142_2 ((rd_T60 l0_1 x31_2).f2).length c142_2] 60 (0, 0)) (by refine blk_put (cs := #[.int .i64 ((rd_T60 l0_1 x31_2).f0), .int .i64 ((rd_T60 l0_1 x31_2).f1), .slice none 0 0]) ?_ 2 _ rfl; refine blk_put (cs := #[.int .i64 ((rd_T60 l0_1 x31_2).f0), .int .i64 0, .slice none 0 0]) ?_ 1 _ rfl; refine blk_put (cs := #[.int .i64 0, .int .i64 0, .slice none 0 0]) ?_ 0 _ rfl; exact gK BK143) hb); replace HB := gA (below_step (by repeat first | exact gB HB | refine below_set ?_ GE138.out | refine below_set ?_ GE139.out | refine below_set ?_ GE143.out) hb); (try clear hb); (try clear hk)) | ((with_reducible refine gate_builtin (b := .append) (xs := #[.tmp 35, .tmp 41]) rfl ?_); at_builtin; refine Kd.R_append Kd.string (w0 := w) w.heap.size rfl (.tmp 35) (.tmp 41) 30 9 (.string ⟨#[]⟩) 16 rfl Try.underlying30 info9 rfl (by decide) (by omega) u6 x6_2 t144 [.string t144] (fun _ => True) (fun _ => False) rfl rfl ?aP (fun _ hk => hk.elim) ?aF ?aO ?aB ?aS ?aL ?_; (case aP => exact rfl); (case aB => exact (gB HB)); (case aF => exact (fun _ _ => trivial)); (case aO => exact (gR HO_6)); (case aS => exact (below_size (gB HB))); (case aL => have := LMc24.out; omega); intro v146 w32 ho hb hg hat; rw [← Ny145.out] at ho; replace BK138 := gA (blk_grown (gK BK138) hg (Kd.R_ne HO_6.out BK138.out (by decide))); replace BK139 := gA (blk_grown (gK BK139) hg (Kd.R_ne HO_6.out BK139.out (by decide))); replace BK143 := gA (blk_grown (gK BK143) hg (Kd.R_ne HO_6.out BK143.out (by decide))); replace HB := gA (hb); have HO147 := gA (ho); clear HO_6 ho hb hg hat))
        go_roundg k2
        case measure => have := HJ4.out; have := HK2.out; omega
        case rel => exact ⟨(y145), (wrap64 (x31_2 + 1)), (rfl), H', ⟨by have := HJ4.out; have := HK2.out; omega⟩, ⟨gR HO147⟩, ⟨gK BK138⟩, ⟨gK BK139⟩, ⟨gB HB⟩⟩
       ·rw [if_neg c20] at H
        have c20b0 := decide_eq_false c20
        clear c20
        replace H := Option.bind_eq_some_iff.mp H
        obtain ⟨t148, A330, H⟩ := H
        replace H : (some (t148, 0)) = some (r1, r2) := H
        have A33 := gA A330
        clear A330
        simp only [Option.some.injEq, Prod.mk.injEq] at H
        obtain ⟨rfl, rfl⟩ := H
        obtain ⟨Ao34, co34, eo34⟩ := Kd.R_slice HO_6.out
        subst eo34
        go_wp2_with (first | ((with_reducible refine gate_callee (f := 25) rfl ?_); refine goesL_ (some 45) rfl rfl Try.func25 (by kernel_rfl) rfl #[.slice Ao34 x6_2.length co34, .string (⟨#[32]⟩ : ByteArray)] rfl (by (try simp only [List.map_toArray, List.map_cons, List.map_nil]); first | done | rfl | (simp only [List.length_drop, List.length_take]; rfl)) ?_; (with_reducible refine (strings_Join.calls _ _ x6_2 (⟨#[32]⟩ : ByteArray) t148 _ ?side1 ?side2 A33.out).mono ?_); (case side1 => repeat (first | exact (Kd.R_reads' HO_6.out).2.2 | (with_reducible refine Kd.C_alloc ?_ _) | (with_reducible refine Kd.C_drewN ?_ _) | (with_reducible refine Kd.C_drew ?_))); (case side2 => exact (Kd.R_reads' HO_6.out).2.1); rintro e w35 ⟨rfl, hb⟩; refine ⟨_, rfl, ?_⟩; replace HO_6 := gA (Kd.R_below (gR HO_6) hb); replace BK138 := gA (blk_below (gK BK138) hb); replace BK139 := gA (blk_below (gK BK139) hb); replace HB := gA (below_step (gB HB) hb); (try clear hb)))
        go_ret2
        exact ⟨rfl, by repeat first | exact gB HB | refine below_set ?_ GE138.out | refine below_set ?_ GE139.out⟩
    ·replace c17 := Bool.eq_false_iff.mpr c17
     subst c17
     have H1 : (spell_Literal.l1 kj4 ([] : List ByteArray) l0_1 (l0_1.length : Int) 0 l1_0 l1_1 l1_2 a1_3 a1_4 a1_5 a1_6 a1_7 a1_8 a1_9 a1_10 a1_11 a1_12 a1_13) = some (r1, r2) := by rw [if_neg (show ¬ (false = true) by decide)] at H; exact H
     clear H; have H := H1; clear H1
     have H' := gA H
     clear H
     have hnb36 := NB138_139.out
     have hnc36 := NB139_138.out
     obtain ⟨hcz37_0, hcz37_1, hfz37_0, hfz37_1⟩ := gz2 BK138
     go_wp2
     go_loopg [6, 49] kj4 (fun kq v6 v49 w' => ∃ (x6_2 : List ByteArray) (x49_2 : Int), v49 = .int .i64 x49_2 ∧ Aside0 (spell_Literal.l1 kq x6_2 l0_1 (l0_1.length : Int) x49_2 l1_0 l1_1 l1_2 a1_3 a1_4 a1_5 a1_6 a1_7 a1_8 a1_9 a1_10 a1_11 a1_12 a1_13 = some (r1, r2)) ∧ Aside0 (kq ≤ kj4) ∧ Aside0 (Kd.R Kd.string 9 w' w.heap.size (fun _ => True) v6 x6_2) ∧ Aside0 (w'.heap[gb138]? = some (.cells #[(.slice A0_0 l0_0.length c0_0), (.slice A0_1 l0_1.length c0_1)] 28 (0, 0))) ∧ Aside0 (w'.heap[gb139]? = some (.cells #[(.slice A1_0 l1_0.length c1_0), (.slice A1_1 l1_1.length c1_1), (.slice A1_2 l1_2.length c1_2), .string a1_3, .string a1_4, .string a1_5, .string a1_6, .string a1_7, .string a1_8, .string a1_9, .string a1_10, .bool a1_11, .bool a1_12, .bool a1_13] 32 (0, 0))) ∧ Aside0 (Below w.heap.size w w'))
     case atStart => exact ⟨(([] : List ByteArray)), (0), (rfl), H', ⟨Nat.le_refl _⟩, ⟨gR HO_6⟩, ⟨gK BK138⟩, ⟨gK BK139⟩, ⟨by repeat first | exact gB HB | refine below_set ?_ GE138.out | refine below_set ?_ GE139.out⟩⟩
     case round =>
      clear H'
      try clear c1
      try clear p1
      try clear q1
      try clear hx1
      try clear qi1
      try clear c2
      try clear p2
      try clear c3
      try clear c4
      try clear c5
      try clear p6
      try clear c8
      try clear c10
      try clear c11
      try clear c11b0
      try clear c11b1
      try clear c12
      try clear c12b0
      try clear c12b1
      try clear c13
      try clear c14
      try clear p14
      try clear q14
      try clear hx14
      try clear qi14
      try clear c15
      try clear c17
      try clear c18
      try clear c20
      try clear c20b0
      try clear c21
      try clear c21b0
      try clear c22
      try clear c22b0
      try clear c24
      try clear c25
      try clear c26
      try clear c27
      try clear c29
      try clear c36
      try clear hcz14_0
      try clear hcz14_1
      try clear hcz16_0
      try clear hcz16_1
      try clear hcz19_0
      try clear hcz19_1
      try clear hcz28_0
      try clear hcz28_1
      try clear hcz28_2
      try clear hcz30_0
      try clear hcz30_1
      try clear hcz30_10
      try clear hcz30_11
      try clear hcz30_12
      try clear hcz30_13
      try clear hcz30_2
      try clear hcz30_3
      try clear hcz30_4
      try clear hcz30_5
      try clear hcz30_6
      try clear hcz30_7
      try clear hcz30_8
      try clear hcz30_9
      try clear hcz37_0
      try clear hcz37_1
      try clear hcz9_0
      try clear hcz9_1
      try clear hfz14_0
      try clear hfz14_1
      try clear hfz16_0
      try clear hfz16_1
      try clear hfz19_0
      try clear hfz19_1
      try clear hfz28_0
      try clear hfz28_1
      try clear hfz28_2
      try clear hfz30_0
      try clear hfz30_1
      try clear hfz30_10
      try clear hfz30_11
      try clear hfz30_12
      try clear hfz30_13
      try clear hfz30_2
      try clear hfz30_3
      try clear hfz30_4
      try clear hfz30_5
      try clear hfz30_6
      try clear hfz30_7
      try clear hfz30_8
      try clear hfz30_9
      try clear hfz37_0
      try clear hfz37_1
      try clear hfz9_0
      try clear hfz9_1
      try clear hx141_0
      try clear hx141_1
      try clear hx141_2
      try clear hx142_0
      try clear hx142_1
      try clear hx142_2
      try clear p1
      try clear p14
      try clear p141
      try clear p142
      try clear p2
      try clear q1
      try clear q14
      try clear q141
      try clear q142
      obtain ⟨x6_2, x49_2, rfl, HA, HK2, HO_6, BK138, BK139, HB⟩ := hrel
      cases gk with
      | zero => exact absurd HA.out (by simp [spell_Literal.l1])
      | succ k2 =>
       have H := HA.out; clear HA
       simp only [spell_Literal.l1] at H
       by_cases c38 : x49_2 < (l0_1.length : Int)
       ·rw [if_pos c38] at H
        have c38b0 := decide_eq_true c38
        clear c38
        obtain ⟨c39, H⟩ := iS H
        have c39b0 := decide_eq_true c39
        clear c39
        obtain ⟨c40, H⟩ := iS H
        have c40b0 := decide_eq_true c40
        clear c40
        obtain ⟨y151, hy151⟩ : ∃ y_ : List Int, y_ = (([(rd_T60 l0_1 x49_2).f1] : List Int)) := ⟨_, rfl⟩
        replace H : ((runes_Write.f y151).bind fun bt154 => ((spell_sign.f k2 (strOfNums bt154.1) l1_0 l1_1 l1_2 a1_3 a1_4 a1_5 a1_6 a1_7 a1_8 a1_9 a1_10 a1_11 a1_12 a1_13).bind fun t158 => (if x6_2.length < 8796093022208 then (spell_Literal.l1 k2 (x6_2 ++ [t158]) l0_1 (l0_1.length : Int) (wrap64 (x49_2 + 1)) l1_0 l1_1 l1_2 a1_3 a1_4 a1_5 a1_6 a1_7 a1_8 a1_9 a1_10 a1_11 a1_12 a1_13) else (none)))) = some (r1, r2) := by first | (rw [hy151]; with_reducible exact H) | (have H2_ := (Option.bind_some _ _).symm.trans H; rw [hy151]; with_reducible exact H2_) | (have H2_ := (Option.bind_some _ _).symm.trans H; with_reducible exact H2_) | with_reducible exact H | (rw [hy151]; exact H) | exact H
        have Ny151 := gA hy151
        clear hy151
        replace H := Option.bind_eq_some_iff.mp H
        obtain ⟨⟨t154, t155⟩, A410, H⟩ := H
        replace H : ((spell_sign.f k2 (strOfNums t154) l1_0 l1_1 l1_2 a1_3 a1_4 a1_5 a1_6 a1_7 a1_8 a1_9 a1_10 a1_11 a1_12 a1_13).bind fun t158 => (if x6_2.length < 8796093022208 then (spell_Literal.l1 k2 (x6_2 ++ [t158]) l0_1 (l0_1.length : Int) (wrap64 (x49_2 + 1)) l1_0 l1_1 l1_2 a1_3 a1_4 a1_5 a1_6 a1_7 a1_8 a1_9 a1_10 a1_11 a1_12 a1_13) else (none))) = some (r1, r2) := H
        have A41 := gA A410
        clear A410
        replace H := Option.bind_eq_some_iff.mp H
        obtain ⟨t158, A420, H⟩ := H
        replace H : (if x6_2.length < 8796093022208 then (spell_Literal.l1 k2 (x6_2 ++ [t158]) l0_1 (l0_1.length : Int) (wrap64 (x49_2 + 1)) l1_0 l1_1 l1_2 a1_3 a1_4 a1_5 a1_6 a1_7 a1_8 a1_9 a1_10 a1_11 a1_12 a1_13) else (none)) = some (r1, r2) := H
        have A42 := gA A420
        clear A420
        obtain ⟨c43, H⟩ := iS H
        have LMc43 := gA c43
        clear c43
        obtain ⟨y159, hy159⟩ : ∃ y_ : List ByteArray, y_ = (x6_2 ++ [t158]) := ⟨_, rfl⟩
        replace H : (spell_Literal.l1 k2 y159 l0_1 (l0_1.length : Int) (wrap64 (x49_2 + 1)) l1_0 l1_1 l1_2 a1_3 a1_4 a1_5 a1_6 a1_7 a1_8 a1_9 a1_10 a1_11 a1_12 a1_13) = some (r1, r2) := by first | (rw [hy159]; with_reducible exact H) | (have H2_ := (Option.bind_some _ _).symm.trans H; rw [hy159]; with_reducible exact H2_) | (have H2_ := (Option.bind_some _ _).symm.trans H; with_reducible exact H2_) | with_reducible exact H | (rw [hy159]; exact H) | exact H
        have Ny159 := gA hy159
        clear hy159
        have H' := gA H
        clear H
        have p149 : 0 ≤ (x49_2 : Int) := of_decide_eq_true (by assumption)
        have q149 : x49_2 < (l0_1.length : Int) := of_decide_eq_true (by assumption)
        obtain ⟨ad149, A149_2, c149_2, e149, hx149_0, hx149_1, hx149_2, hl149_2, hi149_2⟩ := at_T60 HR0_1.out x49_2 p149 q149
        cases e149
        replace hx149_0 := (HB.out.cell (World.block_lt_of_cell? w _ hx149_0)).trans hx149_0
        replace hx149_1 := (HB.out.cell (World.block_lt_of_cell? w _ hx149_1)).trans hx149_1
        replace hx149_2 := (HB.out.cell (World.block_lt_of_cell? w _ hx149_2)).trans hx149_2
        have HR149_2 := gA hi149_2
        have HC149_2 := gA hl149_2
        clear hi149_2 hl149_2
        replace p149 := eq_true p149
        replace q149 := eq_true q149
        go_wp2_with (first | ((with_reducible refine gate_dst (N := 10) rfl ?_); refine box_event ?hg (N := 10) ?hd (cs := #[.int .i64 0, .int .i64 0, .slice none 0 0]) (t := 60) ?hr ?_; (case hd => rfl); (case hg => rfl); (case hr => first | (go_simp; done) | (go_simp; rfl)); intro gb150 hg w44 hbox hb; replace HO_6 := gA (Kd.R_below (gR HO_6) hb); have BK150 := gA (hbox); have GW150 := gA ((by rw [hg]; exact (below_size (by repeat first | exact gB HB | refine below_set ?_ GE138.out | refine below_set ?_ GE139.out)) : w.heap.size ≤ gb150)); have GE150 := gA ((by rw [hg]; exact (below_size (by repeat first | exact gB HB | refine below_set ?_ GE138.out | refine below_set ?_ GE139.out)) : w.heap.size ≤ gb150)); replace HB := gA (below_step (by repeat first | exact gB HB | refine below_set ?_ GE138.out | refine below_set ?_ GE139.out) hb); have NB138_150 := gA ((by rw [hg]; exact Nat.ne_of_lt (blk_lt (gK BK138)) : gb138 ≠ gb150)); have NB150_138 := gA ((by rw [hg]; exact Nat.ne_of_gt (blk_lt (gK BK138)) : gb150 ≠ gb138)); replace BK138 := gA (blk_below (gK BK138) hb); have NB139_150 := gA ((by rw [hg]; exact Nat.ne_of_lt (blk_lt (gK BK139)) : gb139 ≠ gb150)); have NB150_139 := gA ((by rw [hg]; exact Nat.ne_of_gt (blk_lt (gK BK139)) : gb150 ≠ gb139)); replace BK139 := gA (blk_below (gK BK139) hb); clear hb hbox hg; have hnb45 := NB150_138.out; have hnc45 := NB138_150.out; have hnb46 := NB150_139.out; have hnc46 := NB139_150.out; obtain ⟨hcz47_0, hcz47_1, hcz47_2, hfz47_0, hfz47_1, hfz47_2⟩ := gz3 BK150) | ((with_reducible refine gate_dst (N := 56) rfl ?_); refine Kd.R_lit (Kd.int .i64) _ 2 ?hg (N := 56) ?hd (xs := ([(rd_T60 l0_1 x49_2).f1] : List Int)) (inner := [.int .i64 ((rd_T60 l0_1 x49_2).f1)]) (ok := fun _ => True) (okp := fun _ => True) ?hr ?hp (fun _ hk => hk) trivial (Below.refl _ _) (Nat.le_refl _) (by simp) ?_; (case hd => rfl); (case hg => rfl); (case hr => first | (go_simp; done) | (go_simp; rfl)); (case hp => exact (Reps.one (show Kd.M (Kd.int .i64) _ _ _ ((rd_T60 l0_1 x49_2).f1) [.int .i64 ((rd_T60 l0_1 x49_2).f1)] from rfl) (Reps.none _ _))); intro v152 w48 ho49 hb hg_ hnew_; clear hg_ hnew_; (first | rw [← Ny151.out] at ho49 | (simp only [Int.reduceToNat] at ho49; rw [← Ny151.out] at ho49)); replace HO_6 := gA (Kd.R_below (by (with_reducible repeat (first | apply Kd.R_alloc | apply Kd.R_drewN | apply Kd.R_drew)); exact (Kd.R_mono (Kd.R_far (p := ⟨gb150, 2, none⟩) (Kd.R_far (p := ⟨gb150, 1, none⟩) (Kd.R_far (p := ⟨gb150, 0, none⟩) (Kd.R_types HO_6.out BK150.out (by decide)) (fun _ hk => hk.2) (.int .i64 ((rd_T60 l0_1 x49_2).f0))) (fun _ hk => hk.2) (.int .i64 ((rd_T60 l0_1 x49_2).f1))) (fun _ hk => hk.2) (.slice A149_2 ((rd_T60 l0_1 x49_2).f2).length c149_2)) (fun _ h_ => h_.1))) hb); have HO153 := gA (Kd.R_lower ho49 (below_size (by repeat first | exact gB HB | refine below_set ?_ GE138.out | refine below_set ?_ GE139.out | refine below_set ?_ GE150.out))); replace BK138 := gA (blk_below (g := gb138) (o := .cells #[.slice A0_0 l0_0.length c0_0, .slice (some ad149) l0_1.length c0_1] 28 (0, 0)) (by refine blk_far ?_ NB138_150.out _; refine blk_far ?_ NB138_150.out _; refine blk_far ?_ NB138_150.out _; exact gK BK138) hb); replace BK139 := gA (blk_below (g := gb139) (o := .cells #[.slice A1_0 l1_0.length c1_0, .slice A1_1 l1_1.length c1_1, .slice A1_2 l1_2.length c1_2, .string a1_3, .string a1_4, .string a1_5, .string a1_6, .string a1_7, .string a1_8, .string a1_9, .string a1_10, .bool a1_11, .bool a1_12, .bool a1_13] 32 (0, 0)) (by refine blk_far ?_ NB139_150.out _; refine blk_far ?_ NB139_150.out _; refine blk_far ?_ NB139_150.out _; exact gK BK139) hb); replace BK150 := gA (blk_below (g := gb150) (o := .cells #[.int .i64 ((rd_T60 l0_1 x49_2).f0), .int .i64 ((rd_T60 l0_1 x49_2).f1), .slice A149_2 ((rd_T60 l0_1 x49_2).f2).length c149_2] 60 (0, 0)) (by refine blk_put (cs := #[.int .i64 ((rd_T60 l0_1 x49_2).f0), .int .i64 ((rd_T60 l0_1 x49_2).f1), .slice none 0 0]) ?_ 2 _ rfl; refine blk_put (cs := #[.int .i64 ((rd_T60 l0_1 x49_2).f0), .int .i64 0, .slice none 0 0]) ?_ 1 _ rfl; refine blk_put (cs := #[.int .i64 0, .int .i64 0, .slice none 0 0]) ?_ 0 _ rfl; exact gK BK150) hb); replace HB := gA (below_step (by repeat first | exact gB HB | refine below_set ?_ GE138.out | refine below_set ?_ GE139.out | refine below_set ?_ GE150.out) hb); clear hb ho49; obtain ⟨Ao50, co50, eo50⟩ := Kd.R_slice HO153.out; subst eo50) | ((with_reducible refine gate_callee (f := 26) rfl ?_); refine goesL_ (some 57) rfl rfl Try.func26 (by kernel_rfl) rfl #[.slice Ao50 y151.length co50] rfl (by (try simp only [List.map_toArray, List.map_cons, List.map_nil]); first | done | rfl | (simp only [List.length_drop, List.length_take]; rfl)) ?_; (with_reducible refine (runes_Write.calls _ _ y151 t154 t155 _ ?side1 ?side2 A41.out).mono ?_); (case side1 => repeat (first | exact (Kd.R_reads' HO153.out).2.2 | (with_reducible refine Kd.C_alloc ?_ _) | (with_reducible refine Kd.C_drewN ?_ _) | (with_reducible refine Kd.C_drew ?_))); (case side2 => exact (Kd.R_reads' HO153.out).2.1); rintro e w51 ⟨v156, rfl, ho0, hb⟩; refine ⟨_, rfl, ?_⟩; replace HO_6 := gA (Kd.R_below (gR HO_6) hb); replace HO153 := gA (Kd.R_below (gR HO153) hb); have HO157 := gA (Kd.R_lower ho0 (below_size (by repeat first | exact gB HB | refine below_set ?_ GE138.out | refine below_set ?_ GE139.out | refine below_set ?_ GE150.out))); replace BK138 := gA (blk_below (gK BK138) hb); replace BK139 := gA (blk_below (gK BK139) hb); replace BK150 := gA (blk_below (gK BK150) hb); replace HB := gA (below_step (by repeat first | exact gB HB | refine below_set ?_ GE138.out | refine below_set ?_ GE139.out | refine below_set ?_ GE150.out) hb); (try clear hb); (try clear ho0); have hcv52 := own_string (P := Try.prog) Try.underlying44 Try.underlying5 Try.underlying9 (Kd.own_of_R HO157.out); have hnb53 := NB139_138.out; have hnc53 := NB138_139.out; have hcz54_0 := gz BK139 0 rfl; have hcz54_1 := gz BK139 1 rfl; have hcz54_2 := gz BK139 2 rfl; have hcz54_3 := gz BK139 3 rfl; have hcz54_4 := gz BK139 4 rfl; have hcz54_5 := gz BK139 5 rfl; have hcz54_6 := gz BK139 6 rfl; have hcz54_7 := gz BK139 7 rfl; have hcz54_8 := gz BK139 8 rfl; have hcz54_9 := gz BK139 9 rfl; have hcz54_10 := gz BK139 10 rfl; have hcz54_11 := gz BK139 11 rfl; have hcz54_12 := gz BK139 12 rfl; have hcz54_13 := gz BK139 13 rfl; have hfz54_0 := blk_frozen BK139.out 0; have hfz54_1 := blk_frozen BK139.out 1; have hfz54_2 := blk_frozen BK139.out 2; have hfz54_3 := blk_frozen BK139.out 3; have hfz54_4 := blk_frozen BK139.out 4; have hfz54_5 := blk_frozen BK139.out 5; have hfz54_6 := blk_frozen BK139.out 6; have hfz54_7 := blk_frozen BK139.out 7; have hfz54_8 := blk_frozen BK139.out 8; have hfz54_9 := blk_frozen BK139.out 9; have hfz54_10 := blk_frozen BK139.out 10; have hfz54_11 := blk_frozen BK139.out 11; have hfz54_12 := blk_frozen BK139.out 12; have hfz54_13 := blk_frozen BK139.out 13) | ((with_reducible refine gate_callee (f := 27) rfl ?_); refine goesL_ (some 64) rfl rfl Try.func27 (by kernel_rfl) rfl #[.string (strOfNums t154), .agg #[.slice A1_0 l1_0.length c1_0, .slice A1_1 l1_1.length c1_1, .slice A1_2 l1_2.length c1_2, .string a1_3, .string a1_4, .string a1_5, .string a1_6, .string a1_7, .string a1_8, .string a1_9, .string a1_10, .bool a1_11, .bool a1_12, .bool a1_13]] rfl (by (try simp only [List.map_toArray, List.map_cons, List.map_nil]); first | done | rfl | (simp only [List.length_drop, List.length_take]; rfl)) ?_; (with_reducible refine (spell_sign.calls k2 (strOfNums t154) _ _ l1_0 _ _ l1_1 _ _ l1_2 a1_3 a1_4 a1_5 a1_6 a1_7 a1_8 a1_9 a1_10 a1_11 a1_12 a1_13 t158 _ ?side1 ?side2 ?side3 ?side4 ?side5 ?side6 A42.out).mono ?_); (case side1 => exact gC HR1_0 HB); (case side2 => exact HC1_0.out); (case side3 => exact gC HR1_1 HB); (case side4 => exact HC1_1.out); (case side5 => exact gC HR1_2 HB); (case side6 => exact HC1_2.out); rintro e w55 ⟨rfl, hb⟩; refine ⟨_, rfl, ?_⟩; replace HO_6 := gA (Kd.R_below (gR HO_6) hb); replace HO153 := gA (Kd.R_below (gR HO153) hb); replace HO157 := gA (Kd.R_below (gR HO157) hb); replace BK138 := gA (blk_below (gK BK138) hb); replace BK139 := gA (blk_below (gK BK139) hb); replace BK150 := gA (blk_below (gK BK150) hb); replace HB := gA (below_step (by repeat first | exact gB HB | refine below_set ?_ GE138.out | refine below_set ?_ GE139.out | refine below_set ?_ GE150.out) hb); (try clear hb)) | ((with_reducible refine gate_builtin (b := .append) (xs := #[.tmp 60, .tmp 65]) rfl ?_); at_builtin; refine Kd.R_append Kd.string (w0 := w) w.heap.size rfl (.tmp 60) (.tmp 65) 30 9 (.string ⟨#[]⟩) 16 rfl Try.underlying30 info9 rfl (by decide) (by omega) u6 x6_2 t158 [.string t158] (fun _ => True) (fun _ => False) rfl rfl ?aP (fun _ hk => hk.elim) ?aF ?aO ?aB ?aS ?aL ?_; (case aP => exact rfl); (case aB => exact (by repeat first | exact gB HB | refine below_set ?_ GE138.out | refine below_set ?_ GE139.out | refine below_set ?_ GE150.out)); (case aF => exact (fun _ _ => trivial)); (case aO => exact (gR HO_6)); (case aS => exact (below_size (by repeat first | exact gB HB | refine below_set ?_ GE138.out | refine below_set ?_ GE139.out | refine below_set ?_ GE150.out))); (case aL => have := LMc43.out; omega); intro v160 w56 ho hb hg hat; rw [← Ny159.out] at ho; replace BK138 := gA (blk_grown (gK BK138) hg (Kd.R_ne HO_6.out BK138.out (by decide))); replace BK139 := gA (blk_grown (gK BK139) hg (Kd.R_ne HO_6.out BK139.out (by decide))); replace BK150 := gA (blk_grown (gK BK150) hg (Kd.R_ne HO_6.out BK150.out (by decide))); replace HO153 := gA (Kd.R_over' (gR HO153) (Kd.R_typed (gR HO_6)) (by decide) hg); replace HO157 := gA (Kd.R_over' (gR HO157) (Kd.R_typed (gR HO_6)) (by decide) hg); replace HB := gA (hb); have HO161 := gA (ho); clear HO_6 ho hb hg hat))
        go_roundg k2
        case measure => have := HJ4.out; have := HK2.out; omega
        case rel => exact ⟨(y159), (wrap64 (x49_2 + 1)), (rfl), H', ⟨by have := HJ4.out; have := HK2.out; omega⟩, ⟨gR HO161⟩, ⟨gK BK138⟩, ⟨gK BK139⟩, ⟨gB HB⟩⟩
       ·rw [if_neg c38] at H
        have c38b0 := decide_eq_false c38
        clear c38
        replace H := Option.bind_eq_some_iff.mp H
        obtain ⟨t162, A570, H⟩ := H
        replace H : (if a1_10.size + t162.size ≤ 9223372036854775807 then (if (a1_10 ++ t162).size + a1_10.size ≤ 9223372036854775807 then (some ((a1_10 ++ t162) ++ a1_10, 0)) else (none)) else (none)) = some (r1, r2) := H
        have A57 := gA A570
        clear A570
        obtain ⟨c58, H⟩ := iS H
        have c58b0 := eq_true c58
        have c58b1 := decide_eq_true c58
        try have c58b2 : (9223372036854775807 < a1_10.size + t162.size) = False := eq_false (Nat.not_lt.2 c58)
        obtain ⟨c59, H⟩ := iS H
        have c59b0 := eq_true c59
        have c59b1 := decide_eq_true c59
        try have c59b2 : (9223372036854775807 < (a1_10 ++ t162).size + a1_10.size) = False := eq_false (Nat.not_lt.2 c59)
        try (have c59b2z := c59b2; simp only [ByteArray.size_append] at c59b2z)
        simp only [Option.some.injEq, Prod.mk.injEq] at H
        obtain ⟨rfl, rfl⟩ := H
        try go_wp2
        replace HO_6 := gA (Kd.R_drew HO_6.out); replace BK138 := gA (blk_drew BK138.out); replace BK139 := gA (blk_drew BK139.out); replace HB := gA (below_drew1 HB.out)
        obtain ⟨Ao61, co61, eo61⟩ := Kd.R_slice HO_6.out
        (first | subst eo61 | (injection eo61 with f1_ f2_ f3_; have f4_ := f1_.symm; have f5_ := f3_.symm; clear f1_ f2_ f3_; subst f4_; subst f5_))
        refine start_ (n := 10) (S := fun w' => w'.cell? ⟨gb139, 0, none⟩ = some (.slice A1_0 l1_0.length c1_0) ∧ w'.cell? ⟨gb139, 1, none⟩ = some (.slice A1_1 l1_1.length c1_1) ∧ w'.cell? ⟨gb139, 2, none⟩ = some (.slice A1_2 l1_2.length c1_2) ∧ w'.cell? ⟨gb139, 3, none⟩ = some (.string a1_3) ∧ w'.cell? ⟨gb139, 4, none⟩ = some (.string a1_4) ∧ w'.cell? ⟨gb139, 5, none⟩ = some (.string a1_5) ∧ w'.cell? ⟨gb139, 6, none⟩ = some (.string a1_6) ∧ w'.cell? ⟨gb139, 7, none⟩ = some (.string a1_7) ∧ w'.cell? ⟨gb139, 8, none⟩ = some (.string a1_8) ∧ w'.cell? ⟨gb139, 9, none⟩ = some (.string a1_9) ∧ w'.cell? ⟨gb139, 10, none⟩ = some (.string a1_10) ∧ w'.cell? ⟨gb139, 11, none⟩ = some (.bool a1_11) ∧ w'.cell? ⟨gb139, 12, none⟩ = some (.bool a1_12) ∧ w'.cell? ⟨gb139, 13, none⟩ = some (.bool a1_13)) (ds := []) #[false, false, false, false, false, false, false, false, false, false] (by kernel_rfl) rfl rfl ⟨(blk_cell BK139.out 0).trans rfl, (blk_cell BK139.out 1).trans rfl, (blk_cell BK139.out 2).trans rfl, (blk_cell BK139.out 3).trans rfl, (blk_cell BK139.out 4).trans rfl, (blk_cell BK139.out 5).trans rfl, (blk_cell BK139.out 6).trans rfl, (blk_cell BK139.out 7).trans rfl, (blk_cell BK139.out 8).trans rfl, (blk_cell BK139.out 9).trans rfl, (blk_cell BK139.out 10).trans rfl, (blk_cell BK139.out 11).trans rfl, (blk_cell BK139.out 12).trans rfl, (blk_cell BK139.out 13).trans rfl⟩ (fun hHeld => ?_); refine with_tabW spell_Literal.tab17 spell_Literal.bits17 (fun HT_ HW_ => ?_)
        generalize wr.drew = w60 at HO_6 BK138 BK139 HB hHeld ⊢
        refine pure_ (i := 0) (N := some 68) (v := ?_) (a' := ?_) #[true, false, false, false, false, false, false, false, false, false] rfl rfl (any_of HT_.out (by kernel_rfl)) (fun _ _ _ h => h) (Or.inl ⟨by rfl, ?_⟩) ?_ ?_; rotate_left
        ·intro w'; go_simp; with_reducible rfl
        rotate_left
        ·simp only [Act.put, List.setIfInBounds_toArray, List.set_cons_zero, List.set_cons_succ, i64_w, i32_w]; rfl
        refine pure_ (i := 2) (N := some 70) (v := ?_) (a' := ?_) #[true, false, true, false, false, false, false, false, false, false] rfl rfl (any_of HT_.out (by kernel_rfl)) (fun _ _ _ h => h) (Or.inl ⟨by rfl, ?_⟩) ?_ ?_; rotate_left
        ·intro w'; go_simp; with_reducible rfl
        rotate_left
        ·simp only [Act.put, List.setIfInBounds_toArray, List.set_cons_zero, List.set_cons_succ, i64_w, i32_w]; rfl
        refine pure_ (i := 5) (N := some 73) (v := ?_) (a' := ?_) #[true, false, true, false, false, true, false, false, false, false] rfl rfl (any_of HT_.out (by kernel_rfl)) (fun _ _ _ h => h) (Or.inl ⟨by rfl, ?_⟩) ?_ ?_; rotate_left
        ·intro w'; go_simp; with_reducible rfl
        rotate_left
        ·simp only [Act.put, List.setIfInBounds_toArray, List.set_cons_zero, List.set_cons_succ, i64_w, i32_w]; rfl
        refine take_ (i := 1) (N := some 69) (v := ?_) (a' := ?_) #[true, true, true, false, false, true, false, false, false, false] rfl rfl (take_ofW HT_.out HW_.out (by kernel_rfl)) (fun _ _ _ h => h) (Or.inl ⟨by rfl, ?_⟩) hHeld ?_ ?_; rotate_left
        ·rintro w' ⟨s0, s1, s2, s3, s4, s5, s6, s7, s8, s9, s10, s11, s12, s13⟩; go_simp; with_reducible rfl
        rotate_left
        ·simp only [Act.put, List.setIfInBounds_toArray, List.set_cons_zero, List.set_cons_succ, i64_w, i32_w]; rfl
        refine take_ (i := 6) (N := some 74) (v := ?_) (a' := ?_) #[true, true, true, false, false, true, true, false, false, false] rfl rfl (take_ofW HT_.out HW_.out (by kernel_rfl)) (fun _ _ _ h => h) (Or.inl ⟨by rfl, ?_⟩) hHeld ?_ ?_; rotate_left
        ·rintro w' ⟨s0, s1, s2, s3, s4, s5, s6, s7, s8, s9, s10, s11, s12, s13⟩; go_simp; with_reducible rfl
        rotate_left
        ·simp only [Act.put, List.setIfInBounds_toArray, List.set_cons_zero, List.set_cons_succ, i64_w, i32_w]; rfl
        refine one_ (i := 3) (N := some 71) #[true, true, true, true, false, true, true, false, false, false] rfl rfl (one_of HT_.out (by kernel_rfl)) (by decide) (fun K hK => ?_)
        refine goes_ Try.func25 (by kernel_rfl) rfl #[.slice Ao61 x6_2.length co61, .string (⟨#[]⟩ : ByteArray)] (by rfl) rfl rfl (by (try simp only [List.map_toArray, List.map_cons, List.map_nil]); first | done | rfl | (simp only [List.length_drop, List.length_take]; rfl)) ?_
        with_reducible refine (strings_Join.calls _ _ x6_2 (⟨#[]⟩ : ByteArray) t162 _ ?side1 ?side2 A57.out).mono ?_
        (case side1 => repeat (first | exact (Kd.R_reads' HO_6.out).2.2 | (with_reducible refine Kd.C_alloc ?_ _) | (with_reducible refine Kd.C_drewN ?_ _) | (with_reducible refine Kd.C_drew ?_)))
        (case side2 => exact (Kd.R_reads' HO_6.out).2.1)
        rintro e w62 ⟨rfl, hb⟩
        refine ⟨_, rfl, ?_⟩
        replace HO_6 := gA (Kd.R_below (gR HO_6) hb); replace BK138 := gA (blk_below (gK BK138) hb); replace BK139 := gA (blk_below (gK BK139) hb); replace HB := gA (below_step (gB HB) hb); (try clear hb)
        refine hK.out _ _ ⟨(blk_cell BK139.out 0).trans rfl, (blk_cell BK139.out 1).trans rfl, (blk_cell BK139.out 2).trans rfl, (blk_cell BK139.out 3).trans rfl, (blk_cell BK139.out 4).trans rfl, (blk_cell BK139.out 5).trans rfl, (blk_cell BK139.out 6).trans rfl, (blk_cell BK139.out 7).trans rfl, (blk_cell BK139.out 8).trans rfl, (blk_cell BK139.out 9).trans rfl, (blk_cell BK139.out 10).trans rfl, (blk_cell BK139.out 11).trans rfl, (blk_cell BK139.out 12).trans rfl, (blk_cell BK139.out 13).trans rfl⟩ (fun hHeld => ?_); clear hK K
        refine norm_ (a' := ?_) ?_ ?_; rotate_left
        ·show Act.put _ (some 71) _ = _
         simp only [Act.put, List.setIfInBounds_toArray, List.set_cons_zero, List.set_cons_succ, i64_w, i32_w]; rfl
        refine pure_ (i := 4) (N := some 72) (v := ?_) (a' := ?_) #[true, true, true, true, true, true, true, false, false, false] rfl rfl (any_of HT_.out (by kernel_rfl)) (fun _ _ _ h => h) (Or.inl ⟨by rfl, ?_⟩) ?_ ?_; rotate_left
        ·intro w'; go_simp; with_reducible rfl
        rotate_left
        ·simp only [Act.put, List.setIfInBounds_toArray, List.set_cons_zero, List.set_cons_succ, i64_w, i32_w]; rfl
        refine pure_ (i := 7) (N := some 75) (v := ?_) (a' := ?_) #[true, true, true, true, true, true, true, true, false, false] rfl rfl (any_of HT_.out (by kernel_rfl)) (fun _ _ _ h => h) (Or.inl ⟨by rfl, ?_⟩) ?_ ?_; rotate_left
        ·intro w'; go_simp; with_reducible rfl
        rotate_left
        ·simp only [Act.put, List.setIfInBounds_toArray, List.set_cons_zero, List.set_cons_succ, i64_w, i32_w]; rfl
        refine pure_ (i := 8) (N := some 4) (v := ?_) (a' := ?_) #[true, true, true, true, true, true, true, true, true, false] rfl rfl (any_of HT_.out (by kernel_rfl)) (fun _ _ _ h => h) (Or.inl ⟨by rfl, ?_⟩) ?_ ?_; rotate_left
        ·intro w'; go_simp; with_reducible rfl
        rotate_left
        ·simp only [Act.put, List.setIfInBounds_toArray, List.set_cons_zero, List.set_cons_succ, i64_w, i32_w]; rfl
        refine pure_ (i := 9) (N := some 5) (v := ?_) (a' := ?_) #[true, true, true, true, true, true, true, true, true, true] rfl rfl (any_of HT_.out (by kernel_rfl)) (fun _ _ _ h => h) (Or.inl ⟨by rfl, ?_⟩) ?_ ?_; rotate_left
        ·intro w'; go_simp; with_reducible rfl
        rotate_left
        ·simp only [Act.put, List.setIfInBounds_toArray, List.set_cons_zero, List.set_cons_succ, i64_w, i32_w]; rfl
        refine done_ (done_of HT_.out (by kernel_rfl)) ?_
        try go_wp2
        go_ret2
        exact ⟨rfl, by repeat first | exact gB HB | refine below_set ?_ GE138.out | refine below_set ?_ GE139.out⟩
 ·replace c4 := Bool.eq_false_iff.mpr c4
  subst c4
  have H1 : (some ((⟨#[]⟩ : ByteArray), 1)) = some (r1, r2) := by rw [if_neg (show ¬ (false = true) by decide)] at H; exact H
  clear H; have H := H1; clear H1
  simp only [Option.some.injEq, Prod.mk.injEq] at H
  obtain ⟨rfl, rfl⟩ := H
  go_enter Try.func10, Try.ntmps10
  go_wp2_with (first | ((with_reducible refine gate_dst (N := 2) rfl ?_); refine box_event ?hg (N := 2) ?hd (cs := #[.slice A0_0 l0_0.length c0_0, .slice A0_1 l0_1.length c0_1]) (t := 28) ?hr ?_; (case hd => rfl); (case hg => rfl); (case hr => first | (go_simp; done) | (go_simp; rfl)); intro gb138 hg w63 hbox hb; have BK138 := gA (hbox); have GW138 := gA ((by rw [hg]; exact (below_size (gB HB)) : w.heap.size ≤ gb138)); have GE138 := gA ((by rw [hg]; exact (below_size (gB HB)) : w.heap.size ≤ gb138)); replace HB := gA (below_step (gB HB) hb); clear hb hbox hg) | ((with_reducible refine gate_dst (N := 3) rfl ?_); refine box_event ?hg (N := 3) ?hd (cs := #[.slice A1_0 l1_0.length c1_0, .slice A1_1 l1_1.length c1_1, .slice A1_2 l1_2.length c1_2, .string a1_3, .string a1_4, .string a1_5, .string a1_6, .string a1_7, .string a1_8, .string a1_9, .string a1_10, .bool a1_11, .bool a1_12, .bool a1_13]) (t := 32) ?hr ?_; (case hd => rfl); (case hg => rfl); (case hr => first | (go_simp; done) | (go_simp; rfl)); intro gb139 hg w64 hbox hb; have BK139 := gA (hbox); have GW139 := gA ((by rw [hg]; exact (below_size (gB HB)) : w.heap.size ≤ gb139)); have GE139 := gA ((by rw [hg]; exact (below_size (gB HB)) : w.heap.size ≤ gb139)); replace HB := gA (below_step (gB HB) hb); have NB138_139 := gA ((by rw [hg]; exact Nat.ne_of_lt (blk_lt (gK BK138)) : gb138 ≠ gb139)); have NB139_138 := gA ((by rw [hg]; exact Nat.ne_of_gt (blk_lt (gK BK138)) : gb139 ≠ gb138)); replace BK138 := gA (blk_below (gK BK138) hb); clear hb hbox hg; have hnb65 := NB138_139.out; have hnc65 := NB139_138.out; obtain ⟨hcz66_0, hcz66_1, hfz66_0, hfz66_1⟩ := gz2 BK138) | ((with_reducible refine gate_callee (f := 24) rfl ?_); refine goesL_ (some 14) rfl rfl Try.func24 (by kernel_rfl) rfl #[.agg #[.slice A0_0 l0_0.length c0_0, .slice A0_1 l0_1.length c0_1]] rfl (by (try simp only [List.map_toArray, List.map_cons, List.map_nil]); first | done | rfl | (simp only [List.length_drop, List.length_take]; rfl)) ?_; (with_reducible refine (core_Literal.calls k _ _ l0_0 _ _ l0_1 false _ ?side1 ?side2 ?side3 ?side4 A3.out).mono ?_); (case side1 => exact gC HR0_0 HB); (case side2 => exact HC0_0.out); (case side3 => exact gC HR0_1 HB); (case side4 => exact HC0_1.out); rintro e w67 ⟨rfl, hb⟩; refine ⟨_, rfl, ?_⟩; replace BK138 := gA (blk_below (gK BK138) hb); replace BK139 := gA (blk_below (gK BK139) hb); replace HB := gA (below_step (gB HB) hb); (try clear hb)))
  go_ret2
  exact ⟨rfl, by repeat first | exact gB HB | refine below_set ?_ GE138.out | refine below_set ?_ GE139.out⟩
def triglyphref03_Nums.l0 : Nat → List Int → Int → List Int → List (S60) → Option (List Int × (List (S60)))
 | 0, _, _, _, _ => none
 | k + 1, x0, x4, x168000, x168001 => if x4 < (x0.length : Int) then (if 0 ≤ x4 then (if x168001.length < 3518437208883 then (triglyphref03_Nums.l0 k x0 (wrap64 (x4 + 1)) x168000 (x168001 ++ [(⟨0, rd x0 x4, ([] : List (S28))⟩ : S60)])) else (none)) else (none)) else (some (x168000, x168001))
def triglyphref03_Nums.f (k : Nat) (l0 : List Int) : Option (List Int × (List (S60))) := triglyphref03_Nums.l0 k l0 0 (([(l0.length : Int)] : List Int)) ([] : List (S60))
theorem triglyphref03_Nums.mono_l : ∀ k, (∀ y0 y1 y2 y3, LeO (triglyphref03_Nums.l0 k y0 y1 y2 y3) (triglyphref03_Nums.l0 (k + 1) y0 y1 y2 y3))
 | 0 => fun _ _ _ _ r h => by simp [triglyphref03_Nums.l0] at h
 | k + 1 => by
  have ih0 := triglyphref03_Nums.mono_l k
  ·intro y0 y1 y2 y3
   unfold triglyphref03_Nums.l0
   repeat' first
   | (with_reducible exact ih0 _ _ _ _)
   | (with_reducible exact LeO.refl _)
   | (with_reducible exact LeO.none _)
   | (with_reducible refine LeO.ite ?_ ?_)
   | (with_reducible refine LeO.bind ?_ (fun _ => ?_))
theorem triglyphref03_Nums.mono : ∀ a0 k, LeO (triglyphref03_Nums.f k a0) (triglyphref03_Nums.f (k + 1) a0) := by
 intro a0 k
 have ih0 := triglyphref03_Nums.mono_l k
 unfold triglyphref03_Nums.f
 repeat' first
   | (with_reducible exact ih0 _ _ _ _)
   | (with_reducible exact LeO.refl _)
   | (with_reducible exact LeO.none _)
   | (with_reducible refine LeO.ite ?_ ?_)
   | (with_reducible refine LeO.bind ?_ (fun _ => ?_))
def triglyphref03_Nums.T5 : Bool × List (List Nat × List Nat) := (true, [([], []), ([0], [0]), ([], []), ([], []), ([2, 3], [2, 3]), ([4], [4]), ([5], [5]), ([6], [6]), ([1, 7], [1, 7]), ([0, 1, 2, 3, 4, 5, 6, 7, 8], []), ([9, 8, 8, 0, 1, 2, 3, 4, 5, 6, 7, 8], [8, 9])])
def triglyphref03_Nums.B5 : List Nat := [0, 1, 0, 0, 12, 28, 60, 124, 255, 511, 1023]
theorem triglyphref03_Nums.tab5 : rtab .any (opsOf Try.f13 5) = triglyphref03_Nums.T5 := by kernel_rfl
theorem triglyphref03_Nums.bits5 : waitsOk triglyphref03_Nums.T5.2 triglyphref03_Nums.B5 = true := by kernel_rfl
set_option maxHeartbeats 8000000 in
set_option maxRecDepth 100000 in
theorem triglyphref03_Nums.calls (k : Nat) (A0 : Option Addr) (c0 : Nat) (l0 : List Int) (r1 : List Int) (r2 : List (S60)) (w : World) (hr0 : Kd.C (Kd.int .i64) w A0 l0.length l0) (hc0 : l0.length ≤ c0) (h : triglyphref03_Nums.f k l0 = some (r1, r2)) :
  Calls Try.prog 13 #[.slice A0 l0.length c0] w fun e w' => ∃ v0_ v1_ : Value, e = .returned (.agg #[v0_, v1_]) ∧ Kd.R (Kd.int .i64) 3 w' w.heap.size (fun _ => True) v0_ r1 ∧ Kd.R k60 60 w' w.heap.size (fun k_ => some k_ ≠ (v0_ : Value).ownBlock) v1_ r2 ∧ Below w.heap.size w w' := by
 have hu28 := Try.underlying28
 have hu60 := Try.underlying60
 have HR0 := gA hr0
 have HC0 := gA hc0
 clear hr0 hc0
 have HB := gA (Below.refl w.heap.size w)
 have H : (triglyphref03_Nums.l0 k l0 0 (([(l0.length : Int)] : List Int)) ([] : List (S60))) = some (r1, r2) := h
 clear h
 obtain ⟨y164, hy164⟩ : ∃ y_ : List Int, y_ = (([(l0.length : Int)] : List Int)) := ⟨_, rfl⟩
 replace H : (triglyphref03_Nums.l0 k l0 0 y164 ([] : List (S60))) = some (r1, r2) := by first | (rw [hy164]; with_reducible exact H) | (have H2_ := (Option.bind_some _ _).symm.trans H; rw [hy164]; with_reducible exact H2_) | (have H2_ := (Option.bind_some _ _).symm.trans H; with_reducible exact H2_) | with_reducible exact H | (rw [hy164]; exact H) | exact H
 have Ny164 := gA hy164
 clear hy164
 have H' := gA H
 clear H
 go_enter Try.func13, Try.ntmps13
 go_wp2_with (first | ((with_reducible refine gate_dst (N := 2) rfl ?_); refine box_event ?hg (N := 2) ?hd (cs := #[.slice none 0 0, .slice none 0 0]) (t := 28) ?hr ?_; (case hd => rfl); (case hg => rfl); (case hr => first | (go_simp; done) | (go_simp; rfl)); intro gb163 hg w2 hbox hb; have BK163 := gA (hbox); have GW163 := gA ((by rw [hg]; exact (below_size (gB HB)) : w.heap.size ≤ gb163)); have GE163 := gA ((by rw [hg]; exact (below_size (gB HB)) : w.heap.size ≤ gb163)); replace HB := gA (below_step (gB HB) hb); clear hb hbox hg) | ((with_reducible refine gate_dst (N := 7) rfl ?_); refine Kd.R_lit (Kd.int .i64) _ 3 ?hg (N := 7) ?hd (xs := ([(l0.length : Int)] : List Int)) (inner := [.int .i64 (l0.length : Int)]) (ok := fun _ => True) (okp := fun _ => True) ?hr ?hp (fun _ hk => hk) trivial (Below.refl _ _) (Nat.le_refl _) (by simp) ?_; (case hd => rfl); (case hg => rfl); (case hr => first | (go_simp; done) | (go_simp; rfl)); (case hp => exact (Reps.one (show Kd.M (Kd.int .i64) _ _ _ (l0.length : Int) [.int .i64 (l0.length : Int)] from rfl) (Reps.none _ _))); intro v165 w3 ho4 hb hg_ hnew_; clear hg_ hnew_; (first | rw [← Ny164.out] at ho4 | (simp only [Int.reduceToNat] at ho4; rw [← Ny164.out] at ho4)); have HO166 := gA (Kd.R_lower ho4 (below_size (gB HB))); replace BK163 := gA (blk_below (gK BK163) hb); replace HB := gA (below_step (gB HB) hb); clear hb ho4; obtain ⟨Ao5, co5, eo5⟩ := Kd.R_slice HO166.out; subst eo5) | ((with_reducible refine gate_dst (N := 3) rfl ?_); refine box_event ?hg (N := 3) ?hd (cs := #[.slice none 0 0, .slice none 0 0]) (t := 28) ?hr ?_; (case hd => rfl); (case hg => rfl); (case hr => first | (go_simp; done) | (go_simp; rfl)); intro gb167 hg w6 hbox hb; replace HO166 := gA (Kd.R_below (gR HO166) hb); have BK167 := gA (hbox); have GW167 := gA ((by rw [hg]; exact (below_size (gB HB)) : w.heap.size ≤ gb167)); have GE167 := gA ((by rw [hg]; exact (below_size (gB HB)) : w.heap.size ≤ gb167)); replace HB := gA (below_step (gB HB) hb); have NB163_167 := gA ((by rw [hg]; exact Nat.ne_of_lt (blk_lt (gK BK163)) : gb163 ≠ gb167)); have NB167_163 := gA ((by rw [hg]; exact Nat.ne_of_gt (blk_lt (gK BK163)) : gb167 ≠ gb163)); replace BK163 := gA (blk_below (gK BK163) hb); clear hb hbox hg; have hnb7 := NB167_163.out; have hnc7 := NB163_167.out; obtain ⟨hcz8_0, hcz8_1, hfz8_0, hfz8_1⟩ := gz2 BK167))
 go_loopg [4] k (fun kq v4 w' => ∃ (x4_1 : Int) (x168001_1 : List (S60)) (u168001 : Value), v4 = .int .i64 x4_1 ∧ Aside0 (triglyphref03_Nums.l0 kq l0 x4_1 y164 x168001_1 = some (r1, r2)) ∧ Aside0 (kq ≤ k) ∧ Aside0 (Kd.R (Kd.int .i64) 3 w' w.heap.size (fun _ => True) (.slice Ao5 y164.length co5) y164) ∧ Aside0 (Kd.R k60 60 w' w.heap.size (fun k_ => some k_ ≠ ((.slice Ao5 y164.length co5) : Value).ownBlock ∧ k_ ≠ gb163 ∧ k_ ≠ gb167) u168001 x168001_1) ∧ Aside0 (w'.heap[gb163]? = some (.cells #[(.slice none 0 0), (.slice none 0 0)] 28 (0, 0))) ∧ Aside0 (w'.heap[gb167]? = some (.cells #[(.slice Ao5 y164.length co5), u168001] 28 (0, 0))) ∧ Aside0 (Below w.heap.size w w'))
 case atStart => exact ⟨(0), (([] : List (S60))), (.slice none 0 0), (rfl), H', ⟨Nat.le_refl _⟩, ⟨Kd.R_mono (Kd.R_far (p := ⟨gb167, 1, none⟩) (Kd.R_far (p := ⟨gb167, 0, none⟩) (Kd.R_types HO166.out BK167.out (by decide)) (fun _ hk => hk.2) (.slice Ao5 y164.length co5)) (fun _ hk => hk.2) (.slice none 0 0)) (fun _ hk => trivial)⟩, ⟨by first | exact Kd.R_nil _ _ _ _ _ | exact Kd.N_nil _ _ _ _ _ | exact Kd.V_nil _ _ _ _ _ | exact Kd.Q_nil _ _ _ _ _ | exact Kd.S_nil _ _ _ _ _⟩, ⟨by refine blk_far ?_ NB163_167.out _; refine blk_far ?_ NB163_167.out _; exact gK BK163⟩, ⟨by refine blk_put (cs := #[.slice Ao5 y164.length co5, .slice none 0 0]) ?_ 1 _ rfl; refine blk_put (cs := #[.slice none 0 0, .slice none 0 0]) ?_ 0 _ rfl; exact gK BK167⟩, ⟨by repeat first | exact gB HB | refine below_set ?_ GE163.out | refine below_set ?_ GE167.out⟩⟩
 case round =>
  clear H'
  try clear c1
  try clear p2
  try clear c7
  try clear hcz8_0
  try clear hcz8_1
  try clear hfz8_0
  try clear hfz8_1
  obtain ⟨x4_1, x168001_1, u168001, rfl, HA, HK1, HO_168000, HO_168001, BK163, BK167, HB⟩ := hrel
  cases gk with
  | zero => exact absurd HA.out (by simp [triglyphref03_Nums.l0])
  | succ k1 =>
   have H := HA.out; clear HA
   simp only [triglyphref03_Nums.l0] at H
   by_cases c9 : x4_1 < (l0.length : Int)
   ·rw [if_pos c9] at H
    have c9b0 := decide_eq_true c9
    clear c9
    obtain ⟨c10, H⟩ := iS H
    have c10b0 := decide_eq_true c10
    clear c10
    obtain ⟨c11, H⟩ := iS H
    have LMc11 := gA c11
    clear c11
    obtain ⟨y169, hy169⟩ : ∃ y_ : List (S60), y_ = (x168001_1 ++ [(⟨0, rd l0 x4_1, ([] : List (S28))⟩ : S60)]) := ⟨_, rfl⟩
    replace H : (triglyphref03_Nums.l0 k1 l0 (wrap64 (x4_1 + 1)) y164 y169) = some (r1, r2) := by first | (rw [hy169]; with_reducible exact H) | (have H2_ := (Option.bind_some _ _).symm.trans H; rw [hy169]; with_reducible exact H2_) | (have H2_ := (Option.bind_some _ _).symm.trans H; with_reducible exact H2_) | with_reducible exact H | (rw [hy169]; exact H) | exact H
    have Ny169 := gA hy169
    clear hy169
    have H' := gA H
    clear H
    try go_wp2
    replace HO_168000 := gA (Kd.R_drew HO_168000.out); replace HO_168001 := gA (Kd.R_drew HO_168001.out); replace BK163 := gA (blk_drew BK163.out); replace BK167 := gA (blk_drew BK167.out); replace HB := gA (below_drew1 HB.out)
    have p168 : 0 ≤ (x4_1 : Int) := of_decide_eq_true (by assumption)
    have q168 : x4_1 < (l0.length : Int) := of_decide_eq_true (by assumption)
    obtain ⟨ad168, e168, hx168_0⟩ := Kd.at_int HR0.out x4_1 p168 q168
    have hw168_0 := hx168_0
    cases e168
    replace hx168_0 := (HB.out.cell (World.block_lt_of_cell? w _ hx168_0)).trans hx168_0
    replace p168 := eq_true p168
    replace q168 := eq_true q168
    refine start_ (n := 11) (S := fun w' => w'.cell? ⟨gb167, 0, none⟩ = some (.slice Ao5 y164.length co5) ∧ w'.cell? ⟨gb167, 1, none⟩ = some (u168001) ∧ w'.cell? (ad168.add (x4_1).toNat) = some (.int .i64 (rd l0 x4_1))) (ds := [10]) #[false, false, false, false, false, false, false, false, false, false, false] (by kernel_rfl) rfl rfl ⟨(blk_cell BK167.out 0).trans rfl, (blk_cell BK167.out 1).trans rfl, ((HB.out.cell (World.block_lt_of_cell? w _ hw168_0)).trans hw168_0)⟩ (fun hHeld => ?_); refine with_tabW triglyphref03_Nums.tab5 triglyphref03_Nums.bits5 (fun HT_ HW_ => ?_)
    generalize wr.drew = w12 at HO_168000 HO_168001 BK163 BK167 HB hx168_0 hHeld ⊢
    refine pure_ (i := 0) (N := some 15) (v := ?_) (a' := ?_) #[true, false, false, false, false, false, false, false, false, false, false] rfl rfl (any_of HT_.out (by kernel_rfl)) (fun _ _ _ h => h) (Or.inl ⟨by rfl, ?_⟩) ?_ ?_; rotate_left
    ·intro w'; go_simp; with_reducible rfl
    rotate_left
    ·simp only [Act.put, List.setIfInBounds_toArray, List.set_cons_zero, List.set_cons_succ, i64_w, i32_w]; rfl
    refine pure_ (i := 2) (N := some 17) (v := ?_) (a' := ?_) #[true, false, true, false, false, false, false, false, false, false, false] rfl rfl (any_of HT_.out (by kernel_rfl)) (fun _ _ _ h => h) (Or.inl ⟨by rfl, ?_⟩) ?_ ?_; rotate_left
    ·intro w'; go_simp; with_reducible rfl
    rotate_left
    ·simp only [Act.put, List.setIfInBounds_toArray, List.set_cons_zero, List.set_cons_succ, i64_w, i32_w]; rfl
    refine pure_ (i := 3) (N := some 18) (v := ?_) (a' := ?_) #[true, false, true, true, false, false, false, false, false, false, false] rfl rfl (any_of HT_.out (by kernel_rfl)) (fun _ _ _ h => h) (Or.inl ⟨by rfl, ?_⟩) ?_ ?_; rotate_left
    ·intro w'; go_simp; with_reducible rfl
    rotate_left
    ·simp only [Act.put, List.setIfInBounds_toArray, List.set_cons_zero, List.set_cons_succ, i64_w, i32_w]; rfl
    refine pure_ (i := 4) (N := some 19) (v := ?_) (a' := ?_) #[true, false, true, true, true, false, false, false, false, false, false] rfl rfl (any_of HT_.out (by kernel_rfl)) (fun _ _ _ h => h) (Or.inl ⟨by rfl, ?_⟩) ?_ ?_; rotate_left
    ·intro w'; go_simp; with_reducible rfl
    rotate_left
    ·simp only [Act.put, List.setIfInBounds_toArray, List.set_cons_zero, List.set_cons_succ, i64_w, i32_w]; rfl
    refine take_ (i := 1) (N := some 16) (v := ?_) (a' := ?_) #[true, true, true, true, true, false, false, false, false, false, false] rfl rfl (take_ofW HT_.out HW_.out (by kernel_rfl)) (fun _ _ _ h => h) (Or.inl ⟨by rfl, ?_⟩) hHeld ?_ ?_; rotate_left
    ·rintro w' ⟨s0, s1, s2⟩; go_simp; with_reducible rfl
    rotate_left
    ·simp only [Act.put, List.setIfInBounds_toArray, List.set_cons_zero, List.set_cons_succ, i64_w, i32_w]; rfl
    refine take_ (i := 5) (N := some 20) (v := ?_) (a' := ?_) #[true, true, true, true, true, true, false, false, false, false, false] rfl rfl (take_ofW HT_.out HW_.out (by kernel_rfl)) (fun _ _ _ h => h) (Or.inl ⟨by rfl, ?_⟩) hHeld ?_ ?_; rotate_left
    ·rintro w' ⟨s0, s1, s2⟩; go_simp; with_reducible rfl
    rotate_left
    ·simp only [Act.put, List.setIfInBounds_toArray, List.set_cons_zero, List.set_cons_succ, i64_w, i32_w]; rfl
    refine pure_ (i := 6) (N := some 21) (v := ?_) (a' := ?_) #[true, true, true, true, true, true, true, false, false, false, false] rfl rfl (any_of HT_.out (by kernel_rfl)) (fun _ _ _ h => h) (Or.inl ⟨by rfl, ?_⟩) ?_ ?_; rotate_left
    ·intro w'; go_simp; with_reducible rfl
    rotate_left
    ·simp only [Act.put, List.setIfInBounds_toArray, List.set_cons_zero, List.set_cons_succ, i64_w, i32_w]; rfl
    refine one_ (i := 7) (N := some 22) #[true, true, true, true, true, true, true, true, false, false, false] rfl rfl (one_of HT_.out (by kernel_rfl)) (by decide) (fun K hK => ?_)
    refine value_ (w1 := ?_) (v := ?_) (by rfl) rfl ?_ ?_
    rotate_left 2
    ·go_simp
     constructor
     ·rfl
     ·rfl
    refine hK.out _ _ ⟨(blk_cell (blk_alloc BK167.out _) 0).trans rfl, (blk_cell (blk_alloc BK167.out _) 1).trans rfl, (World.cell?_alloc_lt _ _ _ (World.block_lt_of_cell? _ _ (((HB.out.cell (World.block_lt_of_cell? w _ hw168_0)).trans hw168_0)))).trans (((HB.out.cell (World.block_lt_of_cell? w _ hw168_0)).trans hw168_0))⟩ (fun hHeld => ?_); clear hK K
    refine norm_ (a' := ?_) ?_ ?_; rotate_left
    ·show Act.put _ (some 22) _ = _
     simp only [Act.put, List.setIfInBounds_toArray, List.set_cons_zero, List.set_cons_succ, i64_w, i32_w]; rfl
    refine one_ (i := 8) (N := some 23) #[true, true, true, true, true, true, true, true, true, false, false] rfl rfl (one_of HT_.out (by kernel_rfl)) (by decide) (fun K hK => ?_)
    refine Kd.R_append_step k60 (w0 := w) w.heap.size (by rfl) (.tmp 16) (.tmp 22) 26 60 (.agg #[(.int .i64 0), (.int .i64 0), (.slice none 0 0)]) 40 rfl Try.underlying26 info60 rfl (by decide) (by omega) u168001 x168001_1 (⟨0, rd l0 x4_1, ([] : List (S28))⟩ : S60) [.int .i64 0, .int .i64 (rd l0 x4_1), .slice none 0 0] (fun k_ => some k_ ≠ (.slice Ao5 y164.length co5 : Value).ownBlock ∧ k_ ≠ gb163 ∧ k_ ≠ gb167) (fun k_ => ((fun k_ => some k_ ≠ (.slice Ao5 y164.length co5 : Value).ownBlock ∧ k_ ≠ gb163 ∧ k_ ≠ gb167)) k_ ∧ some k_ ≠ (u168001 : Value).ownBlock) rfl rfl ?aP (fun _ hk => hk) ?aF ?aO ?aB ?aS ?aL ?_
    (case aP => exact k60_mkM _ _ _ (⟨0, rd l0 x4_1, ([] : List (S28))⟩ : S60) (Kd.R_nil _ _ _ _ _))
    (case aB => exact (gB HB))
    (case aF => exact (fun k_ hk => ⟨Kd.fresh' (Kd.R_lt (gR HO_168000)) k_ hk, Kd.freshB (gK BK163) k_ hk, Kd.freshB (gK BK167) k_ hk⟩))
    (case aO => exact (gR HO_168001))
    (case aS => exact (below_size (gB HB)))
    (case aL => have := LMc11.out; omega)
    intro v170 w13 ho hb hg hat
    rw [← Ny169.out] at ho
    replace HO_168000 := gA (Kd.R_over' (gR HO_168000) (Kd.R_typed (gR HO_168001)) (by decide) hg); replace BK163 := gA (blk_grown (gK BK163) hg (Kd.R_ne HO_168001.out BK163.out (by decide))); replace BK167 := gA (blk_grown (gK BK167) hg (Kd.R_ne HO_168001.out BK167.out (by decide))); replace HB := gA (hb); have HO171 := gA (ho); clear HO_168001 ho hb hg hat
    obtain ⟨Ao14, co14, eo14⟩ := Kd.R_slice HO171.out
    (first | subst eo14 | (injection eo14 with f1_ f2_ f3_; have f4_ := f1_.symm; have f5_ := f3_.symm; clear f1_ f2_ f3_; subst f4_; subst f5_))
    refine hK.out _ _ ⟨(blk_cell BK167.out 0).trans rfl, (blk_cell BK167.out 1).trans rfl, ((HB.out.cell (World.block_lt_of_cell? w _ hw168_0)).trans hw168_0)⟩ (fun hHeld => ?_); clear hK K
    refine norm_ (a' := ?_) ?_ ?_; rotate_left
    ·show Act.put _ (some 23) _ = _
     simp only [Act.put, List.setIfInBounds_toArray, List.set_cons_zero, List.set_cons_succ, i64_w, i32_w]; rfl
    refine pure_ (i := 9) (N := some 24) (v := ?_) (a' := ?_) #[true, true, true, true, true, true, true, true, true, true, false] rfl rfl (any_of HT_.out (by kernel_rfl)) (fun _ _ _ h => h) (Or.inl ⟨by rfl, ?_⟩) ?_ ?_; rotate_left
    ·intro w'; go_simp; with_reducible rfl
    rotate_left
    ·simp only [Act.put, List.setIfInBounds_toArray, List.set_cons_zero, List.set_cons_succ, i64_w, i32_w]; rfl
    refine last_ (i := 10) (N := none) #[true, true, true, true, true, true, true, true, true, true, true] rfl rfl (one_of HT_.out (by kernel_rfl)) (by decide) (fun K hK => ?_)
    have hs15 := gz BK167 1 rfl
    have hfs15 := blk_frozen BK167.out 1
    have hns15_0 := NB163_167.out
    have hms15_0 := NB167_163.out
    refine skip_ (w1 := ?_) (by rfl) rfl ?_ ?_; rotate_left
    ·go_simp; rfl
    refine hK.out _ _ ?_; clear hK K
    refine done_ (done_of HT_.out (by kernel_rfl)) ?_
    try go_wp2
    go_roundg k1
    case measure => have := HK1.out; omega
    case rel => exact ⟨(wrap64 (x4_1 + 1)), (y169), (.slice Ao14 y169.length co14), (rfl), H', ⟨by have := HK1.out; omega⟩, ⟨Kd.R_mono (Kd.R_far (p := ⟨gb167, 1, none⟩) (Kd.R_types HO_168000.out BK167.out (by decide)) (fun _ hk => hk.2) (.slice Ao14 y169.length co14)) (fun _ hk => trivial)⟩, ⟨Kd.R_mono (Kd.R_far (p := ⟨gb167, 1, none⟩) (Kd.R_mono HO171.out (fun k_ hk => (⟨hk, hk.2.2⟩ : _ ∧ k_ ≠ gb167))) (fun _ hk => hk.2) (.slice Ao14 y169.length co14)) (fun _ hk => ⟨hk.1.1, ⟨hk.1.2.1, hk.1.2.2⟩⟩)⟩, ⟨by refine blk_far ?_ NB163_167.out _; exact gK BK163⟩, ⟨by refine blk_put (cs := #[.slice Ao5 y164.length co5, u168001]) ?_ 1 _ rfl; exact gK BK167⟩, ⟨by repeat first | exact gB HB | refine below_set ?_ GE163.out | refine below_set ?_ GE167.out⟩⟩
   ·rw [if_neg c9] at H
    have c9b0 := decide_eq_false c9
    clear c9
    simp only [Option.some.injEq, Prod.mk.injEq] at H
    obtain ⟨rfl, rfl⟩ := H
    have hnb16 := NB167_163.out
    have hnc16 := NB163_167.out
    obtain ⟨hcz17_0, hcz17_1, hfz17_0, hfz17_1⟩ := gz2 BK167
    obtain ⟨hcz18_0, hcz18_1, hfz18_0, hfz18_1⟩ := gz2 BK163
    obtain ⟨Ao19, co19, eo19⟩ := Kd.R_slice HO_168001.out
    subst eo19
    go_wp2
    refine bodyPost_ret (results_cell_row rfl _ _ gb163 28 #[.slice Ao5 y164.length co5, .slice Ao19 x168001_1.length co19] (0, 0) _ rfl (by refine blk_put (cs := #[.slice Ao5 y164.length co5, .slice none 0 0]) ?_ 1 _ rfl; refine blk_put (cs := #[.slice none 0 0, .slice none 0 0]) ?_ 0 _ rfl; exact gK BK163) Try.underlying28 rfl (by kernel_rfl)) rfl ?_
    exact ⟨_, _, rfl, Kd.R_mono (Kd.R_far (p := ⟨gb163, 1, none⟩) (Kd.R_far (p := ⟨gb163, 0, none⟩) (Kd.R_types HO_168000.out BK163.out (by decide)) (fun _ hk => hk.2) (.slice Ao5 y164.length co5)) (fun _ hk => hk.2) (.slice Ao19 x168001_1.length co19)) (fun _ hk => trivial), Kd.R_mono (Kd.R_far (p := ⟨gb163, 1, none⟩) (Kd.R_far (p := ⟨gb163, 0, none⟩) (Kd.R_mono HO_168001.out (fun k_ hk => (⟨hk, hk.2.1⟩ : _ ∧ k_ ≠ gb163))) (fun _ hk => hk.2) (.slice Ao5 y164.length co5)) (fun _ hk => hk.2) (.slice Ao19 x168001_1.length co19)) (fun _ hk => hk.1.1), by repeat first | exact gB HB | refine below_set ?_ GE163.out | refine below_set ?_ GE167.out⟩
def triglyphref15_APL.f  : Option (List ByteArray × List ByteArray × List ByteArray × ByteArray × ByteArray × ByteArray × ByteArray × ByteArray × ByteArray × ByteArray × ByteArray × Bool × Bool × Bool) := some ((([(⟨#[43]⟩ : ByteArray), (⟨#[45]⟩ : ByteArray), (⟨#[195, 151]⟩ : ByteArray), (⟨#[124]⟩ : ByteArray), (⟨#[126]⟩ : ByteArray), (⟨#[226, 141, 179]⟩ : ByteArray), (⟨#[226, 141, 180]⟩ : ByteArray), (⟨#[226, 137, 162]⟩ : ByteArray), (⟨#[44]⟩ : ByteArray), (⟨#[226, 138, 150]⟩ : ByteArray), (⟨#[226, 140, 189]⟩ : ByteArray), (⟨#[226, 141, 137]⟩ : ByteArray), (⟨#[226, 141, 139]⟩ : ByteArray), (⟨#[226, 141, 146]⟩ : ByteArray), (⟨#[226, 136, 170]⟩ : ByteArray), (⟨#[226, 138, 130]⟩ : ByteArray), (⟨#[226, 138, 131]⟩ : ByteArray), (⟨#[195, 183]⟩ : ByteArray), (⟨#[226, 140, 138]⟩ : ByteArray), (⟨#[226, 140, 136]⟩ : ByteArray), (⟨#[61]⟩ : ByteArray), (⟨#[226, 137, 160]⟩ : ByteArray), (⟨#[60]⟩ : ByteArray), (⟨#[62]⟩ : ByteArray), (⟨#[226, 137, 164]⟩ : ByteArray), (⟨#[226, 137, 165]⟩ : ByteArray), (⟨#[226, 134, 145]⟩ : ByteArray), (⟨#[226, 134, 147]⟩ : ByteArray), (⟨#[226, 141, 170]⟩ : ByteArray), (⟨#[226, 136, 138]⟩ : ByteArray), (⟨#[226, 140, 183]⟩ : ByteArray)] : List ByteArray)), (([(⟨#[47]⟩ : ByteArray), (⟨#[226, 140, 191]⟩ : ByteArray), (⟨#[92]⟩ : ByteArray), (⟨#[226, 141, 128]⟩ : ByteArray), (⟨#[226, 141, 168]⟩ : ByteArray)] : List ByteArray)), (([(⟨#[47]⟩ : ByteArray), (⟨#[226, 140, 191]⟩ : ByteArray)] : List ByteArray)), (⟨#[226, 136, 152, 46]⟩ : ByteArray), (⟨#[226, 141, 163]⟩ : ByteArray), (⟨#[123]⟩ : ByteArray), (⟨#[125]⟩ : ByteArray), (⟨#[226, 141, 186]⟩ : ByteArray), (⟨#[226, 141, 181]⟩ : ByteArray), (⟨#[194, 175]⟩ : ByteArray), (⟨#[39]⟩ : ByteArray), false, false, true)
set_option maxHeartbeats 8000000 in
set_option maxRecDepth 100000 in
theorem triglyphref15_APL.calls  (r1 : List ByteArray) (r2 : List ByteArray) (r3 : List ByteArray) (r4 : ByteArray) (r5 : ByteArray) (r6 : ByteArray) (r7 : ByteArray) (r8 : ByteArray) (r9 : ByteArray) (r10 : ByteArray) (r11 : ByteArray) (r12 : Bool) (r13 : Bool) (r14 : Bool) (w : World) (h : triglyphref15_APL.f  = some (r1, r2, r3, r4, r5, r6, r7, r8, r9, r10, r11, r12, r13, r14)) :
  Calls Try.prog 14 #[] w fun e w' => ∃ v0_ v1_ v2_ : Value, e = .returned (.agg #[v0_, v1_, v2_, .string r4, .string r5, .string r6, .string r7, .string r8, .string r9, .string r10, .string r11, .bool r12, .bool r13, .bool r14]) ∧ Kd.R Kd.string 9 w' w.heap.size (fun k_ => some k_ ≠ (v1_ : Value).ownBlock ∧ some k_ ≠ (v2_ : Value).ownBlock) v0_ r1 ∧ Kd.R Kd.string 9 w' w.heap.size (fun k_ => some k_ ≠ (v0_ : Value).ownBlock ∧ some k_ ≠ (v2_ : Value).ownBlock) v1_ r2 ∧ Kd.R Kd.string 9 w' w.heap.size (fun k_ => some k_ ≠ (v0_ : Value).ownBlock ∧ some k_ ≠ (v1_ : Value).ownBlock) v2_ r3 ∧ Below w.heap.size w w' := by
 have hu32 := Try.underlying32
 have HB := gA (Below.refl w.heap.size w)
 have H : (some ((([(⟨#[43]⟩ : ByteArray), (⟨#[45]⟩ : ByteArray), (⟨#[195, 151]⟩ : ByteArray), (⟨#[124]⟩ : ByteArray), (⟨#[126]⟩ : ByteArray), (⟨#[226, 141, 179]⟩ : ByteArray), (⟨#[226, 141, 180]⟩ : ByteArray), (⟨#[226, 137, 162]⟩ : ByteArray), (⟨#[44]⟩ : ByteArray), (⟨#[226, 138, 150]⟩ : ByteArray), (⟨#[226, 140, 189]⟩ : ByteArray), (⟨#[226, 141, 137]⟩ : ByteArray), (⟨#[226, 141, 139]⟩ : ByteArray), (⟨#[226, 141, 146]⟩ : ByteArray), (⟨#[226, 136, 170]⟩ : ByteArray), (⟨#[226, 138, 130]⟩ : ByteArray), (⟨#[226, 138, 131]⟩ : ByteArray), (⟨#[195, 183]⟩ : ByteArray), (⟨#[226, 140, 138]⟩ : ByteArray), (⟨#[226, 140, 136]⟩ : ByteArray), (⟨#[61]⟩ : ByteArray), (⟨#[226, 137, 160]⟩ : ByteArray), (⟨#[60]⟩ : ByteArray), (⟨#[62]⟩ : ByteArray), (⟨#[226, 137, 164]⟩ : ByteArray), (⟨#[226, 137, 165]⟩ : ByteArray), (⟨#[226, 134, 145]⟩ : ByteArray), (⟨#[226, 134, 147]⟩ : ByteArray), (⟨#[226, 141, 170]⟩ : ByteArray), (⟨#[226, 136, 138]⟩ : ByteArray), (⟨#[226, 140, 183]⟩ : ByteArray)] : List ByteArray)), (([(⟨#[47]⟩ : ByteArray), (⟨#[226, 140, 191]⟩ : ByteArray), (⟨#[92]⟩ : ByteArray), (⟨#[226, 141, 128]⟩ : ByteArray), (⟨#[226, 141, 168]⟩ : ByteArray)] : List ByteArray)), (([(⟨#[47]⟩ : ByteArray), (⟨#[226, 140, 191]⟩ : ByteArray)] : List ByteArray)), (⟨#[226, 136, 152, 46]⟩ : ByteArray), (⟨#[226, 141, 163]⟩ : ByteArray), (⟨#[123]⟩ : ByteArray), (⟨#[125]⟩ : ByteArray), (⟨#[226, 141, 186]⟩ : ByteArray), (⟨#[226, 141, 181]⟩ : ByteArray), (⟨#[194, 175]⟩ : ByteArray), (⟨#[39]⟩ : ByteArray), false, false, true)) = some (r1, r2, r3, r4, r5, r6, r7, r8, r9, r10, r11, r12, r13, r14) := h
 clear h
 obtain ⟨y173, hy173⟩ : ∃ y_ : List ByteArray, y_ = (([(⟨#[43]⟩ : ByteArray), (⟨#[45]⟩ : ByteArray), (⟨#[195, 151]⟩ : ByteArray), (⟨#[124]⟩ : ByteArray), (⟨#[126]⟩ : ByteArray), (⟨#[226, 141, 179]⟩ : ByteArray), (⟨#[226, 141, 180]⟩ : ByteArray), (⟨#[226, 137, 162]⟩ : ByteArray), (⟨#[44]⟩ : ByteArray), (⟨#[226, 138, 150]⟩ : ByteArray), (⟨#[226, 140, 189]⟩ : ByteArray), (⟨#[226, 141, 137]⟩ : ByteArray), (⟨#[226, 141, 139]⟩ : ByteArray), (⟨#[226, 141, 146]⟩ : ByteArray), (⟨#[226, 136, 170]⟩ : ByteArray), (⟨#[226, 138, 130]⟩ : ByteArray), (⟨#[226, 138, 131]⟩ : ByteArray), (⟨#[195, 183]⟩ : ByteArray), (⟨#[226, 140, 138]⟩ : ByteArray), (⟨#[226, 140, 136]⟩ : ByteArray), (⟨#[61]⟩ : ByteArray), (⟨#[226, 137, 160]⟩ : ByteArray), (⟨#[60]⟩ : ByteArray), (⟨#[62]⟩ : ByteArray), (⟨#[226, 137, 164]⟩ : ByteArray), (⟨#[226, 137, 165]⟩ : ByteArray), (⟨#[226, 134, 145]⟩ : ByteArray), (⟨#[226, 134, 147]⟩ : ByteArray), (⟨#[226, 141, 170]⟩ : ByteArray), (⟨#[226, 136, 138]⟩ : ByteArray), (⟨#[226, 140, 183]⟩ : ByteArray)] : List ByteArray)) := ⟨_, rfl⟩
 replace H : (some (y173, (([(⟨#[47]⟩ : ByteArray), (⟨#[226, 140, 191]⟩ : ByteArray), (⟨#[92]⟩ : ByteArray), (⟨#[226, 141, 128]⟩ : ByteArray), (⟨#[226, 141, 168]⟩ : ByteArray)] : List ByteArray)), (([(⟨#[47]⟩ : ByteArray), (⟨#[226, 140, 191]⟩ : ByteArray)] : List ByteArray)), (⟨#[226, 136, 152, 46]⟩ : ByteArray), (⟨#[226, 141, 163]⟩ : ByteArray), (⟨#[123]⟩ : ByteArray), (⟨#[125]⟩ : ByteArray), (⟨#[226, 141, 186]⟩ : ByteArray), (⟨#[226, 141, 181]⟩ : ByteArray), (⟨#[194, 175]⟩ : ByteArray), (⟨#[39]⟩ : ByteArray), false, false, true)) = some (r1, r2, r3, r4, r5, r6, r7, r8, r9, r10, r11, r12, r13, r14) := by first | (rw [hy173]; with_reducible exact H) | (have H2_ := (Option.bind_some _ _).symm.trans H; rw [hy173]; with_reducible exact H2_) | (have H2_ := (Option.bind_some _ _).symm.trans H; with_reducible exact H2_) | with_reducible exact H | (rw [hy173]; exact H) | exact H
 have Ny173 := gA hy173
 clear hy173
 obtain ⟨y176, hy176⟩ : ∃ y_ : List ByteArray, y_ = (([(⟨#[47]⟩ : ByteArray), (⟨#[226, 140, 191]⟩ : ByteArray), (⟨#[92]⟩ : ByteArray), (⟨#[226, 141, 128]⟩ : ByteArray), (⟨#[226, 141, 168]⟩ : ByteArray)] : List ByteArray)) := ⟨_, rfl⟩
 replace H : (some (y173, y176, (([(⟨#[47]⟩ : ByteArray), (⟨#[226, 140, 191]⟩ : ByteArray)] : List ByteArray)), (⟨#[226, 136, 152, 46]⟩ : ByteArray), (⟨#[226, 141, 163]⟩ : ByteArray), (⟨#[123]⟩ : ByteArray), (⟨#[125]⟩ : ByteArray), (⟨#[226, 141, 186]⟩ : ByteArray), (⟨#[226, 141, 181]⟩ : ByteArray), (⟨#[194, 175]⟩ : ByteArray), (⟨#[39]⟩ : ByteArray), false, false, true)) = some (r1, r2, r3, r4, r5, r6, r7, r8, r9, r10, r11, r12, r13, r14) := by first | (rw [hy176]; with_reducible exact H) | (have H2_ := (Option.bind_some _ _).symm.trans H; rw [hy176]; with_reducible exact H2_) | (have H2_ := (Option.bind_some _ _).symm.trans H; with_reducible exact H2_) | with_reducible exact H | (rw [hy176]; exact H) | exact H
 have Ny176 := gA hy176
 clear hy176
 obtain ⟨y179, hy179⟩ : ∃ y_ : List ByteArray, y_ = (([(⟨#[47]⟩ : ByteArray), (⟨#[226, 140, 191]⟩ : ByteArray)] : List ByteArray)) := ⟨_, rfl⟩
 replace H : (some (y173, y176, y179, (⟨#[226, 136, 152, 46]⟩ : ByteArray), (⟨#[226, 141, 163]⟩ : ByteArray), (⟨#[123]⟩ : ByteArray), (⟨#[125]⟩ : ByteArray), (⟨#[226, 141, 186]⟩ : ByteArray), (⟨#[226, 141, 181]⟩ : ByteArray), (⟨#[194, 175]⟩ : ByteArray), (⟨#[39]⟩ : ByteArray), false, false, true)) = some (r1, r2, r3, r4, r5, r6, r7, r8, r9, r10, r11, r12, r13, r14) := by first | (rw [hy179]; with_reducible exact H) | (have H2_ := (Option.bind_some _ _).symm.trans H; rw [hy179]; with_reducible exact H2_) | (have H2_ := (Option.bind_some _ _).symm.trans H; with_reducible exact H2_) | with_reducible exact H | (rw [hy179]; exact H) | exact H
 have Ny179 := gA hy179
 clear hy179
 simp only [Option.some.injEq, Prod.mk.injEq] at H
 obtain ⟨rfl, rfl, rfl, rfl, rfl, rfl, rfl, rfl, rfl, rfl, rfl, rfl, rfl, rfl⟩ := H
 go_enter Try.func14, Try.ntmps14
 go_wp2_with (first | ((with_reducible refine gate_dst (N := 0) rfl ?_); refine box_event ?hg (N := 0) ?hd (cs := #[.slice none 0 0, .slice none 0 0, .slice none 0 0, .string (⟨#[]⟩ : ByteArray), .string (⟨#[]⟩ : ByteArray), .string (⟨#[]⟩ : ByteArray), .string (⟨#[]⟩ : ByteArray), .string (⟨#[]⟩ : ByteArray), .string (⟨#[]⟩ : ByteArray), .string (⟨#[]⟩ : ByteArray), .string (⟨#[]⟩ : ByteArray), .bool false, .bool false, .bool false]) (t := 32) ?hr ?_; (case hd => rfl); (case hg => rfl); (case hr => first | (go_simp; done) | (go_simp; rfl)); intro gb172 hg w1 hbox hb; have BK172 := gA (hbox); have GW172 := gA ((by rw [hg]; exact (below_size (gB HB)) : w.heap.size ≤ gb172)); have GE172 := gA ((by rw [hg]; exact (below_size (gB HB)) : w.heap.size ≤ gb172)); replace HB := gA (below_step (gB HB) hb); clear hb hbox hg) | ((with_reducible refine gate_dst (N := 1) rfl ?_); refine Kd.R_lit Kd.string _ 9 ?hg (N := 1) ?hd (xs := ([(⟨#[43]⟩ : ByteArray), (⟨#[45]⟩ : ByteArray), (⟨#[195, 151]⟩ : ByteArray), (⟨#[124]⟩ : ByteArray), (⟨#[126]⟩ : ByteArray), (⟨#[226, 141, 179]⟩ : ByteArray), (⟨#[226, 141, 180]⟩ : ByteArray), (⟨#[226, 137, 162]⟩ : ByteArray), (⟨#[44]⟩ : ByteArray), (⟨#[226, 138, 150]⟩ : ByteArray), (⟨#[226, 140, 189]⟩ : ByteArray), (⟨#[226, 141, 137]⟩ : ByteArray), (⟨#[226, 141, 139]⟩ : ByteArray), (⟨#[226, 141, 146]⟩ : ByteArray), (⟨#[226, 136, 170]⟩ : ByteArray), (⟨#[226, 138, 130]⟩ : ByteArray), (⟨#[226, 138, 131]⟩ : ByteArray), (⟨#[195, 183]⟩ : ByteArray), (⟨#[226, 140, 138]⟩ : ByteArray), (⟨#[226, 140, 136]⟩ : ByteArray), (⟨#[61]⟩ : ByteArray), (⟨#[226, 137, 160]⟩ : ByteArray), (⟨#[60]⟩ : ByteArray), (⟨#[62]⟩ : ByteArray), (⟨#[226, 137, 164]⟩ : ByteArray), (⟨#[226, 137, 165]⟩ : ByteArray), (⟨#[226, 134, 145]⟩ : ByteArray), (⟨#[226, 134, 147]⟩ : ByteArray), (⟨#[226, 141, 170]⟩ : ByteArray), (⟨#[226, 136, 138]⟩ : ByteArray), (⟨#[226, 140, 183]⟩ : ByteArray)] : List ByteArray)) (inner := [.string (⟨#[43]⟩ : ByteArray), .string (⟨#[45]⟩ : ByteArray), .string (⟨#[195, 151]⟩ : ByteArray), .string (⟨#[124]⟩ : ByteArray), .string (⟨#[126]⟩ : ByteArray), .string (⟨#[226, 141, 179]⟩ : ByteArray), .string (⟨#[226, 141, 180]⟩ : ByteArray), .string (⟨#[226, 137, 162]⟩ : ByteArray), .string (⟨#[44]⟩ : ByteArray), .string (⟨#[226, 138, 150]⟩ : ByteArray), .string (⟨#[226, 140, 189]⟩ : ByteArray), .string (⟨#[226, 141, 137]⟩ : ByteArray), .string (⟨#[226, 141, 139]⟩ : ByteArray), .string (⟨#[226, 141, 146]⟩ : ByteArray), .string (⟨#[226, 136, 170]⟩ : ByteArray), .string (⟨#[226, 138, 130]⟩ : ByteArray), .string (⟨#[226, 138, 131]⟩ : ByteArray), .string (⟨#[195, 183]⟩ : ByteArray), .string (⟨#[226, 140, 138]⟩ : ByteArray), .string (⟨#[226, 140, 136]⟩ : ByteArray), .string (⟨#[61]⟩ : ByteArray), .string (⟨#[226, 137, 160]⟩ : ByteArray), .string (⟨#[60]⟩ : ByteArray), .string (⟨#[62]⟩ : ByteArray), .string (⟨#[226, 137, 164]⟩ : ByteArray), .string (⟨#[226, 137, 165]⟩ : ByteArray), .string (⟨#[226, 134, 145]⟩ : ByteArray), .string (⟨#[226, 134, 147]⟩ : ByteArray), .string (⟨#[226, 141, 170]⟩ : ByteArray), .string (⟨#[226, 136, 138]⟩ : ByteArray), .string (⟨#[226, 140, 183]⟩ : ByteArray)]) (ok := fun _ => True) (okp := fun _ => True) ?hr ?hp (fun _ hk => hk) trivial (Below.refl _ _) (Nat.le_refl _) (by simp) ?_; (case hd => rfl); (case hg => rfl); (case hr => first | (go_simp; done) | (go_simp; rfl)); (case hp => exact (Reps.one (show Kd.M Kd.string _ _ _ (⟨#[43]⟩ : ByteArray) [.string (⟨#[43]⟩ : ByteArray)] from rfl) (Reps.one (show Kd.M Kd.string _ _ _ (⟨#[45]⟩ : ByteArray) [.string (⟨#[45]⟩ : ByteArray)] from rfl) (Reps.one (show Kd.M Kd.string _ _ _ (⟨#[195, 151]⟩ : ByteArray) [.string (⟨#[195, 151]⟩ : ByteArray)] from rfl) (Reps.one (show Kd.M Kd.string _ _ _ (⟨#[124]⟩ : ByteArray) [.string (⟨#[124]⟩ : ByteArray)] from rfl) (Reps.one (show Kd.M Kd.string _ _ _ (⟨#[126]⟩ : ByteArray) [.string (⟨#[126]⟩ : ByteArray)] from rfl) (Reps.one (show Kd.M Kd.string _ _ _ (⟨#[226, 141, 179]⟩ : ByteArray) [.string (⟨#[226, 141, 179]⟩ : ByteArray)] from rfl) (Reps.one (show Kd.M Kd.string _ _ _ (⟨#[226, 141, 180]⟩ : ByteArray) [.string (⟨#[226, 141, 180]⟩ : ByteArray)] from rfl) (Reps.one (show Kd.M Kd.string _ _ _ (⟨#[226, 137, 162]⟩ : ByteArray) [.string (⟨#[226, 137, 162]⟩ : ByteArray)] from rfl) (Reps.one (show Kd.M Kd.string _ _ _ (⟨#[44]⟩ : ByteArray) [.string (⟨#[44]⟩ : ByteArray)] from rfl) (Reps.one (show Kd.M Kd.string _ _ _ (⟨#[226, 138, 150]⟩ : ByteArray) [.string (⟨#[226, 138, 150]⟩ : ByteArray)] from rfl) (Reps.one (show Kd.M Kd.string _ _ _ (⟨#[226, 140, 189]⟩ : ByteArray) [.string (⟨#[226, 140, 189]⟩ : ByteArray)] from rfl) (Reps.one (show Kd.M Kd.string _ _ _ (⟨#[226, 141, 137]⟩ : ByteArray) [.string (⟨#[226, 141, 137]⟩ : ByteArray)] from rfl) (Reps.one (show Kd.M Kd.string _ _ _ (⟨#[226, 141, 139]⟩ : ByteArray) [.string (⟨#[226, 141, 139]⟩ : ByteArray)] from rfl) (Reps.one (show Kd.M Kd.string _ _ _ (⟨#[226, 141, 146]⟩ : ByteArray) [.string (⟨#[226, 141, 146]⟩ : ByteArray)] from rfl) (Reps.one (show Kd.M Kd.string _ _ _ (⟨#[226, 136, 170]⟩ : ByteArray) [.string (⟨#[226, 136, 170]⟩ : ByteArray)] from rfl) (Reps.one (show Kd.M Kd.string _ _ _ (⟨#[226, 138, 130]⟩ : ByteArray) [.string (⟨#[226, 138, 130]⟩ : ByteArray)] from rfl) (Reps.one (show Kd.M Kd.string _ _ _ (⟨#[226, 138, 131]⟩ : ByteArray) [.string (⟨#[226, 138, 131]⟩ : ByteArray)] from rfl) (Reps.one (show Kd.M Kd.string _ _ _ (⟨#[195, 183]⟩ : ByteArray) [.string (⟨#[195, 183]⟩ : ByteArray)] from rfl) (Reps.one (show Kd.M Kd.string _ _ _ (⟨#[226, 140, 138]⟩ : ByteArray) [.string (⟨#[226, 140, 138]⟩ : ByteArray)] from rfl) (Reps.one (show Kd.M Kd.string _ _ _ (⟨#[226, 140, 136]⟩ : ByteArray) [.string (⟨#[226, 140, 136]⟩ : ByteArray)] from rfl) (Reps.one (show Kd.M Kd.string _ _ _ (⟨#[61]⟩ : ByteArray) [.string (⟨#[61]⟩ : ByteArray)] from rfl) (Reps.one (show Kd.M Kd.string _ _ _ (⟨#[226, 137, 160]⟩ : ByteArray) [.string (⟨#[226, 137, 160]⟩ : ByteArray)] from rfl) (Reps.one (show Kd.M Kd.string _ _ _ (⟨#[60]⟩ : ByteArray) [.string (⟨#[60]⟩ : ByteArray)] from rfl) (Reps.one (show Kd.M Kd.string _ _ _ (⟨#[62]⟩ : ByteArray) [.string (⟨#[62]⟩ : ByteArray)] from rfl) (Reps.one (show Kd.M Kd.string _ _ _ (⟨#[226, 137, 164]⟩ : ByteArray) [.string (⟨#[226, 137, 164]⟩ : ByteArray)] from rfl) (Reps.one (show Kd.M Kd.string _ _ _ (⟨#[226, 137, 165]⟩ : ByteArray) [.string (⟨#[226, 137, 165]⟩ : ByteArray)] from rfl) (Reps.one (show Kd.M Kd.string _ _ _ (⟨#[226, 134, 145]⟩ : ByteArray) [.string (⟨#[226, 134, 145]⟩ : ByteArray)] from rfl) (Reps.one (show Kd.M Kd.string _ _ _ (⟨#[226, 134, 147]⟩ : ByteArray) [.string (⟨#[226, 134, 147]⟩ : ByteArray)] from rfl) (Reps.one (show Kd.M Kd.string _ _ _ (⟨#[226, 141, 170]⟩ : ByteArray) [.string (⟨#[226, 141, 170]⟩ : ByteArray)] from rfl) (Reps.one (show Kd.M Kd.string _ _ _ (⟨#[226, 136, 138]⟩ : ByteArray) [.string (⟨#[226, 136, 138]⟩ : ByteArray)] from rfl) (Reps.one (show Kd.M Kd.string _ _ _ (⟨#[226, 140, 183]⟩ : ByteArray) [.string (⟨#[226, 140, 183]⟩ : ByteArray)] from rfl) (Reps.none _ _))))))))))))))))))))))))))))))))); intro v174 w2 ho3 hb hg_ hnew_; clear hg_ hnew_; (first | rw [← Ny173.out] at ho3 | (simp only [Int.reduceToNat] at ho3; rw [← Ny173.out] at ho3)); have HO175 := gA (Kd.R_lower ho3 (below_size (gB HB))); replace BK172 := gA (blk_below (g := gb172) (o := .cells #[.slice none 0 0, .slice none 0 0, .slice none 0 0, .string (⟨#[]⟩ : ByteArray), .string (⟨#[]⟩ : ByteArray), .string (⟨#[]⟩ : ByteArray), .string (⟨#[]⟩ : ByteArray), .string (⟨#[]⟩ : ByteArray), .string (⟨#[]⟩ : ByteArray), .string (⟨#[]⟩ : ByteArray), .string (⟨#[]⟩ : ByteArray), .bool false, .bool false, .bool false] 32 (0, 0)) (gK BK172) hb); replace HB := gA (below_step (gB HB) hb); clear hb ho3) | ((with_reducible refine gate_dst (N := 2) rfl ?_); refine Kd.R_lit Kd.string _ 9 ?hg (N := 2) ?hd (xs := ([(⟨#[47]⟩ : ByteArray), (⟨#[226, 140, 191]⟩ : ByteArray), (⟨#[92]⟩ : ByteArray), (⟨#[226, 141, 128]⟩ : ByteArray), (⟨#[226, 141, 168]⟩ : ByteArray)] : List ByteArray)) (inner := [.string (⟨#[47]⟩ : ByteArray), .string (⟨#[226, 140, 191]⟩ : ByteArray), .string (⟨#[92]⟩ : ByteArray), .string (⟨#[226, 141, 128]⟩ : ByteArray), .string (⟨#[226, 141, 168]⟩ : ByteArray)]) (ok := fun _ => True) (okp := fun _ => True) ?hr ?hp (fun _ hk => hk) trivial (Below.refl _ _) (Nat.le_refl _) (by simp) ?_; (case hd => rfl); (case hg => rfl); (case hr => first | (go_simp; done) | (go_simp; rfl)); (case hp => exact (Reps.one (show Kd.M Kd.string _ _ _ (⟨#[47]⟩ : ByteArray) [.string (⟨#[47]⟩ : ByteArray)] from rfl) (Reps.one (show Kd.M Kd.string _ _ _ (⟨#[226, 140, 191]⟩ : ByteArray) [.string (⟨#[226, 140, 191]⟩ : ByteArray)] from rfl) (Reps.one (show Kd.M Kd.string _ _ _ (⟨#[92]⟩ : ByteArray) [.string (⟨#[92]⟩ : ByteArray)] from rfl) (Reps.one (show Kd.M Kd.string _ _ _ (⟨#[226, 141, 128]⟩ : ByteArray) [.string (⟨#[226, 141, 128]⟩ : ByteArray)] from rfl) (Reps.one (show Kd.M Kd.string _ _ _ (⟨#[226, 141, 168]⟩ : ByteArray) [.string (⟨#[226, 141, 168]⟩ : ByteArray)] from rfl) (Reps.none _ _))))))); intro v177 w4 ho5 hb hg_ hnew_; clear hg_ hnew_; (first | rw [← Ny176.out] at ho5 | (simp only [Int.reduceToNat] at ho5; rw [← Ny176.out] at ho5)); have HO178 := gA (Kd.R_lower (Kd.R_new' ho5 (Kd.R_lt (gR HO175))) (below_size (gB HB))); replace HO175 := gA (Kd.R_elder' (gR HO175) (Kd.R_base ho5) hb); replace BK172 := gA (blk_below (g := gb172) (o := .cells #[.slice none 0 0, .slice none 0 0, .slice none 0 0, .string (⟨#[]⟩ : ByteArray), .string (⟨#[]⟩ : ByteArray), .string (⟨#[]⟩ : ByteArray), .string (⟨#[]⟩ : ByteArray), .string (⟨#[]⟩ : ByteArray), .string (⟨#[]⟩ : ByteArray), .string (⟨#[]⟩ : ByteArray), .string (⟨#[]⟩ : ByteArray), .bool false, .bool false, .bool false] 32 (0, 0)) (gK BK172) hb); replace HB := gA (below_step (gB HB) hb); clear hb ho5) | ((with_reducible refine gate_dst (N := 3) rfl ?_); refine Kd.R_lit Kd.string _ 9 ?hg (N := 3) ?hd (xs := ([(⟨#[47]⟩ : ByteArray), (⟨#[226, 140, 191]⟩ : ByteArray)] : List ByteArray)) (inner := [.string (⟨#[47]⟩ : ByteArray), .string (⟨#[226, 140, 191]⟩ : ByteArray)]) (ok := fun _ => True) (okp := fun _ => True) ?hr ?hp (fun _ hk => hk) trivial (Below.refl _ _) (Nat.le_refl _) (by simp) ?_; (case hd => rfl); (case hg => rfl); (case hr => first | (go_simp; done) | (go_simp; rfl)); (case hp => exact (Reps.one (show Kd.M Kd.string _ _ _ (⟨#[47]⟩ : ByteArray) [.string (⟨#[47]⟩ : ByteArray)] from rfl) (Reps.one (show Kd.M Kd.string _ _ _ (⟨#[226, 140, 191]⟩ : ByteArray) [.string (⟨#[226, 140, 191]⟩ : ByteArray)] from rfl) (Reps.none _ _)))); intro v180 w6 ho7 hb hg_ hnew_; clear hg_ hnew_; (first | rw [← Ny179.out] at ho7 | (simp only [Int.reduceToNat] at ho7; rw [← Ny179.out] at ho7)); have HO181 := gA (Kd.R_lower (Kd.R_new' (Kd.R_new' ho7 (Kd.R_lt (gR HO175))) (Kd.R_lt (gR HO178))) (below_size (gB HB))); replace HO175 := gA (Kd.R_elder' (gR HO175) (Kd.R_base ho7) hb); replace HO178 := gA (Kd.R_elder' (gR HO178) (Kd.R_base ho7) hb); replace BK172 := gA (blk_below (g := gb172) (o := .cells #[.slice none 0 0, .slice none 0 0, .slice none 0 0, .string (⟨#[]⟩ : ByteArray), .string (⟨#[]⟩ : ByteArray), .string (⟨#[]⟩ : ByteArray), .string (⟨#[]⟩ : ByteArray), .string (⟨#[]⟩ : ByteArray), .string (⟨#[]⟩ : ByteArray), .string (⟨#[]⟩ : ByteArray), .string (⟨#[]⟩ : ByteArray), .bool false, .bool false, .bool false] 32 (0, 0)) (gK BK172) hb); replace HB := gA (below_step (gB HB) hb); clear hb ho7; obtain ⟨Ao8, co8, eo8⟩ := Kd.R_slice HO181.out; subst eo8; obtain ⟨Ao9, co9, eo9⟩ := Kd.R_slice HO178.out; subst eo9; obtain ⟨Ao10, co10, eo10⟩ := Kd.R_slice HO175.out; subst eo10; have hcz11_0 := gz BK172 0 rfl; have hcz11_1 := gz BK172 1 rfl; have hcz11_2 := gz BK172 2 rfl; have hcz11_3 := gz BK172 3 rfl; have hcz11_4 := gz BK172 4 rfl; have hcz11_5 := gz BK172 5 rfl; have hcz11_6 := gz BK172 6 rfl; have hcz11_7 := gz BK172 7 rfl; have hcz11_8 := gz BK172 8 rfl; have hcz11_9 := gz BK172 9 rfl; have hcz11_10 := gz BK172 10 rfl; have hcz11_11 := gz BK172 11 rfl; have hcz11_12 := gz BK172 12 rfl; have hcz11_13 := gz BK172 13 rfl; have hfz11_0 := blk_frozen BK172.out 0; have hfz11_1 := blk_frozen BK172.out 1; have hfz11_2 := blk_frozen BK172.out 2; have hfz11_3 := blk_frozen BK172.out 3; have hfz11_4 := blk_frozen BK172.out 4; have hfz11_5 := blk_frozen BK172.out 5; have hfz11_6 := blk_frozen BK172.out 6; have hfz11_7 := blk_frozen BK172.out 7; have hfz11_8 := blk_frozen BK172.out 8; have hfz11_9 := blk_frozen BK172.out 9; have hfz11_10 := blk_frozen BK172.out 10; have hfz11_11 := blk_frozen BK172.out 11; have hfz11_12 := blk_frozen BK172.out 12; have hfz11_13 := blk_frozen BK172.out 13))
 refine bodyPost_ret (results_cell_row rfl _ _ gb172 32 #[.slice Ao10 y173.length co10, .slice Ao9 y176.length co9, .slice Ao8 y179.length co8, .string (⟨#[226, 136, 152, 46]⟩ : ByteArray), .string (⟨#[226, 141, 163]⟩ : ByteArray), .string (⟨#[123]⟩ : ByteArray), .string (⟨#[125]⟩ : ByteArray), .string (⟨#[226, 141, 186]⟩ : ByteArray), .string (⟨#[226, 141, 181]⟩ : ByteArray), .string (⟨#[194, 175]⟩ : ByteArray), .string (⟨#[39]⟩ : ByteArray), .bool false, .bool false, .bool true] (0, 0) _ rfl (by refine blk_put (cs := #[.slice Ao10 y173.length co10, .slice Ao9 y176.length co9, .slice Ao8 y179.length co8, .string (⟨#[226, 136, 152, 46]⟩ : ByteArray), .string (⟨#[226, 141, 163]⟩ : ByteArray), .string (⟨#[123]⟩ : ByteArray), .string (⟨#[125]⟩ : ByteArray), .string (⟨#[226, 141, 186]⟩ : ByteArray), .string (⟨#[226, 141, 181]⟩ : ByteArray), .string (⟨#[194, 175]⟩ : ByteArray), .string (⟨#[39]⟩ : ByteArray), .bool false, .bool false, .bool false]) ?_ 13 _ rfl; refine blk_put (cs := #[.slice Ao10 y173.length co10, .slice Ao9 y176.length co9, .slice Ao8 y179.length co8, .string (⟨#[226, 136, 152, 46]⟩ : ByteArray), .string (⟨#[226, 141, 163]⟩ : ByteArray), .string (⟨#[123]⟩ : ByteArray), .string (⟨#[125]⟩ : ByteArray), .string (⟨#[226, 141, 186]⟩ : ByteArray), .string (⟨#[226, 141, 181]⟩ : ByteArray), .string (⟨#[194, 175]⟩ : ByteArray), .string (⟨#[39]⟩ : ByteArray), .bool false, .bool false, .bool false]) ?_ 12 _ rfl; refine blk_put (cs := #[.slice Ao10 y173.length co10, .slice Ao9 y176.length co9, .slice Ao8 y179.length co8, .string (⟨#[226, 136, 152, 46]⟩ : ByteArray), .string (⟨#[226, 141, 163]⟩ : ByteArray), .string (⟨#[123]⟩ : ByteArray), .string (⟨#[125]⟩ : ByteArray), .string (⟨#[226, 141, 186]⟩ : ByteArray), .string (⟨#[226, 141, 181]⟩ : ByteArray), .string (⟨#[194, 175]⟩ : ByteArray), .string (⟨#[39]⟩ : ByteArray), .bool false, .bool false, .bool false]) ?_ 11 _ rfl; refine blk_put (cs := #[.slice Ao10 y173.length co10, .slice Ao9 y176.length co9, .slice Ao8 y179.length co8, .string (⟨#[226, 136, 152, 46]⟩ : ByteArray), .string (⟨#[226, 141, 163]⟩ : ByteArray), .string (⟨#[123]⟩ : ByteArray), .string (⟨#[125]⟩ : ByteArray), .string (⟨#[226, 141, 186]⟩ : ByteArray), .string (⟨#[226, 141, 181]⟩ : ByteArray), .string (⟨#[194, 175]⟩ : ByteArray), .string (⟨#[]⟩ : ByteArray), .bool false, .bool false, .bool false]) ?_ 10 _ rfl; refine blk_put (cs := #[.slice Ao10 y173.length co10, .slice Ao9 y176.length co9, .slice Ao8 y179.length co8, .string (⟨#[226, 136, 152, 46]⟩ : ByteArray), .string (⟨#[226, 141, 163]⟩ : ByteArray), .string (⟨#[123]⟩ : ByteArray), .string (⟨#[125]⟩ : ByteArray), .string (⟨#[226, 141, 186]⟩ : ByteArray), .string (⟨#[226, 141, 181]⟩ : ByteArray), .string (⟨#[]⟩ : ByteArray), .string (⟨#[]⟩ : ByteArray), .bool false, .bool false, .bool false]) ?_ 9 _ rfl; refine blk_put (cs := #[.slice Ao10 y173.length co10, .slice Ao9 y176.length co9, .slice Ao8 y179.length co8, .string (⟨#[226, 136, 152, 46]⟩ : ByteArray), .string (⟨#[226, 141, 163]⟩ : ByteArray), .string (⟨#[123]⟩ : ByteArray), .string (⟨#[125]⟩ : ByteArray), .string (⟨#[226, 141, 186]⟩ : ByteArray), .string (⟨#[]⟩ : ByteArray), .string (⟨#[]⟩ : ByteArray), .string (⟨#[]⟩ : ByteArray), .bool false, .bool false, .bool false]) ?_ 8 _ rfl; refine blk_put (cs := #[.slice Ao10 y173.length co10, .slice Ao9 y176.length co9, .slice Ao8 y179.length co8, .string (⟨#[226, 136, 152, 46]⟩ : ByteArray), .string (⟨#[226, 141, 163]⟩ : ByteArray), .string (⟨#[123]⟩ : ByteArray), .string (⟨#[125]⟩ : ByteArray), .string (⟨#[]⟩ : ByteArray), .string (⟨#[]⟩ : ByteArray), .string (⟨#[]⟩ : ByteArray), .string (⟨#[]⟩ : ByteArray), .bool false, .bool false, .bool false]) ?_ 7 _ rfl; refine blk_put (cs := #[.slice Ao10 y173.length co10, .slice Ao9 y176.length co9, .slice Ao8 y179.length co8, .string (⟨#[226, 136, 152, 46]⟩ : ByteArray), .string (⟨#[226, 141, 163]⟩ : ByteArray), .string (⟨#[123]⟩ : ByteArray), .string (⟨#[]⟩ : ByteArray), .string (⟨#[]⟩ : ByteArray), .string (⟨#[]⟩ : ByteArray), .string (⟨#[]⟩ : ByteArray), .string (⟨#[]⟩ : ByteArray), .bool false, .bool false, .bool false]) ?_ 6 _ rfl; refine blk_put (cs := #[.slice Ao10 y173.length co10, .slice Ao9 y176.length co9, .slice Ao8 y179.length co8, .string (⟨#[226, 136, 152, 46]⟩ : ByteArray), .string (⟨#[226, 141, 163]⟩ : ByteArray), .string (⟨#[]⟩ : ByteArray), .string (⟨#[]⟩ : ByteArray), .string (⟨#[]⟩ : ByteArray), .string (⟨#[]⟩ : ByteArray), .string (⟨#[]⟩ : ByteArray), .string (⟨#[]⟩ : ByteArray), .bool false, .bool false, .bool false]) ?_ 5 _ rfl; refine blk_put (cs := #[.slice Ao10 y173.length co10, .slice Ao9 y176.length co9, .slice Ao8 y179.length co8, .string (⟨#[226, 136, 152, 46]⟩ : ByteArray), .string (⟨#[]⟩ : ByteArray), .string (⟨#[]⟩ : ByteArray), .string (⟨#[]⟩ : ByteArray), .string (⟨#[]⟩ : ByteArray), .string (⟨#[]⟩ : ByteArray), .string (⟨#[]⟩ : ByteArray), .string (⟨#[]⟩ : ByteArray), .bool false, .bool false, .bool false]) ?_ 4 _ rfl; refine blk_put (cs := #[.slice Ao10 y173.length co10, .slice Ao9 y176.length co9, .slice Ao8 y179.length co8, .string (⟨#[]⟩ : ByteArray), .string (⟨#[]⟩ : ByteArray), .string (⟨#[]⟩ : ByteArray), .string (⟨#[]⟩ : ByteArray), .string (⟨#[]⟩ : ByteArray), .string (⟨#[]⟩ : ByteArray), .string (⟨#[]⟩ : ByteArray), .string (⟨#[]⟩ : ByteArray), .bool false, .bool false, .bool false]) ?_ 3 _ rfl; refine blk_put (cs := #[.slice Ao10 y173.length co10, .slice Ao9 y176.length co9, .slice none 0 0, .string (⟨#[]⟩ : ByteArray), .string (⟨#[]⟩ : ByteArray), .string (⟨#[]⟩ : ByteArray), .string (⟨#[]⟩ : ByteArray), .string (⟨#[]⟩ : ByteArray), .string (⟨#[]⟩ : ByteArray), .string (⟨#[]⟩ : ByteArray), .string (⟨#[]⟩ : ByteArray), .bool false, .bool false, .bool false]) ?_ 2 _ rfl; refine blk_put (cs := #[.slice Ao10 y173.length co10, .slice none 0 0, .slice none 0 0, .string (⟨#[]⟩ : ByteArray), .string (⟨#[]⟩ : ByteArray), .string (⟨#[]⟩ : ByteArray), .string (⟨#[]⟩ : ByteArray), .string (⟨#[]⟩ : ByteArray), .string (⟨#[]⟩ : ByteArray), .string (⟨#[]⟩ : ByteArray), .string (⟨#[]⟩ : ByteArray), .bool false, .bool false, .bool false]) ?_ 1 _ rfl; refine blk_put (cs := #[.slice none 0 0, .slice none 0 0, .slice none 0 0, .string (⟨#[]⟩ : ByteArray), .string (⟨#[]⟩ : ByteArray), .string (⟨#[]⟩ : ByteArray), .string (⟨#[]⟩ : ByteArray), .string (⟨#[]⟩ : ByteArray), .string (⟨#[]⟩ : ByteArray), .string (⟨#[]⟩ : ByteArray), .string (⟨#[]⟩ : ByteArray), .bool false, .bool false, .bool false]) ?_ 0 _ rfl; exact gK BK172) Try.underlying32 rfl (by kernel_rfl)) rfl ?_
 exact ⟨_, _, _, rfl, Kd.R_mono (Kd.R_far (p := ⟨gb172, 13, none⟩) (Kd.R_far (p := ⟨gb172, 12, none⟩) (Kd.R_far (p := ⟨gb172, 11, none⟩) (Kd.R_far (p := ⟨gb172, 10, none⟩) (Kd.R_far (p := ⟨gb172, 9, none⟩) (Kd.R_far (p := ⟨gb172, 8, none⟩) (Kd.R_far (p := ⟨gb172, 7, none⟩) (Kd.R_far (p := ⟨gb172, 6, none⟩) (Kd.R_far (p := ⟨gb172, 5, none⟩) (Kd.R_far (p := ⟨gb172, 4, none⟩) (Kd.R_far (p := ⟨gb172, 3, none⟩) (Kd.R_far (p := ⟨gb172, 2, none⟩) (Kd.R_far (p := ⟨gb172, 1, none⟩) (Kd.R_far (p := ⟨gb172, 0, none⟩) (Kd.R_types HO175.out BK172.out (by decide)) (fun _ hk => hk.2) (.slice Ao10 y173.length co10)) (fun _ hk => hk.2) (.slice Ao9 y176.length co9)) (fun _ hk => hk.2) (.slice Ao8 y179.length co8)) (fun _ hk => hk.2) (.string (⟨#[226, 136, 152, 46]⟩ : ByteArray))) (fun _ hk => hk.2) (.string (⟨#[226, 141, 163]⟩ : ByteArray))) (fun _ hk => hk.2) (.string (⟨#[123]⟩ : ByteArray))) (fun _ hk => hk.2) (.string (⟨#[125]⟩ : ByteArray))) (fun _ hk => hk.2) (.string (⟨#[226, 141, 186]⟩ : ByteArray))) (fun _ hk => hk.2) (.string (⟨#[226, 141, 181]⟩ : ByteArray))) (fun _ hk => hk.2) (.string (⟨#[194, 175]⟩ : ByteArray))) (fun _ hk => hk.2) (.string (⟨#[39]⟩ : ByteArray))) (fun _ hk => hk.2) (.bool false)) (fun _ hk => hk.2) (.bool false)) (fun _ hk => hk.2) (.bool true)) (fun _ hk => ⟨hk.1.1.2, hk.1.2⟩), Kd.R_mono (Kd.R_far (p := ⟨gb172, 13, none⟩) (Kd.R_far (p := ⟨gb172, 12, none⟩) (Kd.R_far (p := ⟨gb172, 11, none⟩) (Kd.R_far (p := ⟨gb172, 10, none⟩) (Kd.R_far (p := ⟨gb172, 9, none⟩) (Kd.R_far (p := ⟨gb172, 8, none⟩) (Kd.R_far (p := ⟨gb172, 7, none⟩) (Kd.R_far (p := ⟨gb172, 6, none⟩) (Kd.R_far (p := ⟨gb172, 5, none⟩) (Kd.R_far (p := ⟨gb172, 4, none⟩) (Kd.R_far (p := ⟨gb172, 3, none⟩) (Kd.R_far (p := ⟨gb172, 2, none⟩) (Kd.R_far (p := ⟨gb172, 1, none⟩) (Kd.R_far (p := ⟨gb172, 0, none⟩) (Kd.R_types HO178.out BK172.out (by decide)) (fun _ hk => hk.2) (.slice Ao10 y173.length co10)) (fun _ hk => hk.2) (.slice Ao9 y176.length co9)) (fun _ hk => hk.2) (.slice Ao8 y179.length co8)) (fun _ hk => hk.2) (.string (⟨#[226, 136, 152, 46]⟩ : ByteArray))) (fun _ hk => hk.2) (.string (⟨#[226, 141, 163]⟩ : ByteArray))) (fun _ hk => hk.2) (.string (⟨#[123]⟩ : ByteArray))) (fun _ hk => hk.2) (.string (⟨#[125]⟩ : ByteArray))) (fun _ hk => hk.2) (.string (⟨#[226, 141, 186]⟩ : ByteArray))) (fun _ hk => hk.2) (.string (⟨#[226, 141, 181]⟩ : ByteArray))) (fun _ hk => hk.2) (.string (⟨#[194, 175]⟩ : ByteArray))) (fun _ hk => hk.2) (.string (⟨#[39]⟩ : ByteArray))) (fun _ hk => hk.2) (.bool false)) (fun _ hk => hk.2) (.bool false)) (fun _ hk => hk.2) (.bool true)) (fun _ hk => ⟨hk.1.1.2, hk.1.2⟩), Kd.R_mono (Kd.R_far (p := ⟨gb172, 13, none⟩) (Kd.R_far (p := ⟨gb172, 12, none⟩) (Kd.R_far (p := ⟨gb172, 11, none⟩) (Kd.R_far (p := ⟨gb172, 10, none⟩) (Kd.R_far (p := ⟨gb172, 9, none⟩) (Kd.R_far (p := ⟨gb172, 8, none⟩) (Kd.R_far (p := ⟨gb172, 7, none⟩) (Kd.R_far (p := ⟨gb172, 6, none⟩) (Kd.R_far (p := ⟨gb172, 5, none⟩) (Kd.R_far (p := ⟨gb172, 4, none⟩) (Kd.R_far (p := ⟨gb172, 3, none⟩) (Kd.R_far (p := ⟨gb172, 2, none⟩) (Kd.R_far (p := ⟨gb172, 1, none⟩) (Kd.R_far (p := ⟨gb172, 0, none⟩) (Kd.R_types HO181.out BK172.out (by decide)) (fun _ hk => hk.2) (.slice Ao10 y173.length co10)) (fun _ hk => hk.2) (.slice Ao9 y176.length co9)) (fun _ hk => hk.2) (.slice Ao8 y179.length co8)) (fun _ hk => hk.2) (.string (⟨#[226, 136, 152, 46]⟩ : ByteArray))) (fun _ hk => hk.2) (.string (⟨#[226, 141, 163]⟩ : ByteArray))) (fun _ hk => hk.2) (.string (⟨#[123]⟩ : ByteArray))) (fun _ hk => hk.2) (.string (⟨#[125]⟩ : ByteArray))) (fun _ hk => hk.2) (.string (⟨#[226, 141, 186]⟩ : ByteArray))) (fun _ hk => hk.2) (.string (⟨#[226, 141, 181]⟩ : ByteArray))) (fun _ hk => hk.2) (.string (⟨#[194, 175]⟩ : ByteArray))) (fun _ hk => hk.2) (.string (⟨#[39]⟩ : ByteArray))) (fun _ hk => hk.2) (.bool false)) (fun _ hk => hk.2) (.bool false)) (fun _ hk => hk.2) (.bool true)) (fun _ hk => ⟨hk.1.1.2, hk.1.2⟩), by repeat first | exact gB HB | refine below_set ?_ GE172.out⟩
end Go.Proofs.Yteamkcgkhcalhaa.P
