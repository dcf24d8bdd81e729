/- Written by a program of this session: the functions that the laws reach, what each comes to, and each law as it is stated, for every input. No condition. -/
import Derived.Test.YteamkcgkhcalhaaPx0
import Derived.Test.YteamkcgkhcalhaaPx6
import Derived.Test.YteamkcgkhcalhaaPx7
import Derived.Test.YteamkcgkhcalhaaPx10
namespace Go.Proofs.Yteamkcgkhcalhaa.P
open Go.RowKit Go.Proofs.YteamkcgkhcalhaaW.PrintWords Go.Proofs.YteamkcgkhcalhaaW.PrintLast Go.Proofs.YteamkcgkhcalhaaW.PrintMore
attribute [local go_sem] max2_int min2_int max_two min_two max_three min_three max_four min_four   -- for this text's walks alone
set_option linter.unusedVariables false
set_option linter.unusedSimpArgs false
mutual
def triglyphref16_Literal.j0 : Nat → ByteArray → Bool → List Int → List (S60) → List ByteArray → List ByteArray → List ByteArray → ByteArray → ByteArray → ByteArray → ByteArray → ByteArray → ByteArray → ByteArray → ByteArray → Bool → Bool → Bool → Option (ByteArray × Int)
 | 0, _, _, _, _, _, _, _, _, _, _, _, _, _, _, _, _, _, _ => none
 | k + 1, x6, x24, x257000, x257001, x258000, x258001, x258002, x258003, x258004, x258005, x258006, x258007, x258008, x258009, x258010, x258011, x258012, x258013 => if x24 = true then (triglyphref16_Literal.l0 k x6 0 x257000 x257001 x258000 x258001 x258002 x258003 x258004 x258005 x258006 x258007 x258008 x258009 x258010 x258011 x258012 x258013) else (triglyphref16_Literal.l1 k x6 0 x257000 x257001 x258000 x258001 x258002 x258003 x258004 x258005 x258006 x258007 x258008 x258009 x258010 x258011 x258012 x258013)
def triglyphref16_Literal.l0 : Nat → ByteArray → Int → List Int → List (S60) → List ByteArray → List ByteArray → List ByteArray → ByteArray → ByteArray → ByteArray → ByteArray → ByteArray → ByteArray → ByteArray → ByteArray → Bool → Bool → Bool → Option (ByteArray × Int)
 | 0, _, _, _, _, _, _, _, _, _, _, _, _, _, _, _, _, _, _ => none
 | k + 1, x6, x7, x257000, x257001, x258000, x258001, x258002, x258003, x258004, x258005, x258006, x258007, x258008, x258009, x258010, x258011, x258012, x258013 => if x7 < (x257001.length : Int) then (if x7 > 0 then (if x6.size + 1 ≤ 9223372036854775807 then (if 0 ≤ x7 then ((triglyphref16_Number.f k ((rd_T60 x257001 x7).f1) x258009).bind fun t261 => (if (x6 ++ (⟨#[32]⟩ : ByteArray)).size + t261.size ≤ 9223372036854775807 then (triglyphref16_Literal.l0 k ((x6 ++ (⟨#[32]⟩ : ByteArray)) ++ t261) (wrap64 (x7 + 1)) x257000 x257001 x258000 x258001 x258002 x258003 x258004 x258005 x258006 x258007 x258008 x258009 x258010 x258011 x258012 x258013) else (none))) else (none)) else (none)) else (if 0 ≤ x7 then ((triglyphref16_Number.f k ((rd_T60 x257001 x7).f1) x258009).bind fun t263 => (if x6.size + t263.size ≤ 9223372036854775807 then (triglyphref16_Literal.l0 k (x6 ++ t263) (wrap64 (x7 + 1)) x257000 x257001 x258000 x258001 x258002 x258003 x258004 x258005 x258006 x258007 x258008 x258009 x258010 x258011 x258012 x258013) else (none))) else (none))) else (some (x6, 0))
def triglyphref16_Literal.l1 : Nat → ByteArray → Int → List Int → List (S60) → List ByteArray → List ByteArray → List ByteArray → ByteArray → ByteArray → ByteArray → ByteArray → ByteArray → ByteArray → ByteArray → ByteArray → Bool → Bool → Bool → Option (ByteArray × Int)
 | 0, _, _, _, _, _, _, _, _, _, _, _, _, _, _, _, _, _, _ => none
 | k + 1, x6, x8, x257000, x257001, x258000, x258001, x258002, x258003, x258004, x258005, x258006, x258007, x258008, x258009, x258010, x258011, x258012, x258013 => if x8 < (x257001.length : Int) then (if 0 ≤ x8 then (if x258010.toList = ([39] : List UInt8) then (triglyphref16_Literal.j3 k x6 x8 ((rd_T60 x257001 x8).f1) (((rd_T60 x257001 x8).f1) == 39) x257000 x257001 x258000 x258001 x258002 x258003 x258004 x258005 x258006 x258007 x258008 x258009 x258010 x258011 x258012 x258013) else (triglyphref16_Literal.j3 k x6 x8 ((rd_T60 x257001 x8).f1) false x257000 x257001 x258000 x258001 x258002 x258003 x258004 x258005 x258006 x258007 x258008 x258009 x258010 x258011 x258012 x258013)) else (none)) else (if x258010.size + x6.size ≤ 9223372036854775807 then (if (x258010 ++ x6).size + x258010.size ≤ 9223372036854775807 then (some ((x258010 ++ x6) ++ x258010, 0)) else (none)) else (none))
def triglyphref16_Literal.j3 : Nat → ByteArray → Int → Int → Bool → List Int → List (S60) → List ByteArray → List ByteArray → List ByteArray → ByteArray → ByteArray → ByteArray → ByteArray → ByteArray → ByteArray → ByteArray → ByteArray → Bool → Bool → Bool → Option (ByteArray × Int)
 | 0, _, _, _, _, _, _, _, _, _, _, _, _, _, _, _, _, _, _, _, _ => none
 | k + 1, x6, x8, x9, x67, x257000, x257001, x258000, x258001, x258002, x258003, x258004, x258005, x258006, x258007, x258008, x258009, x258010, x258011, x258012, x258013 => if x67 = true then (if x6.size + 1 ≤ 9223372036854775807 then (if x258010.toList = ([39] : List UInt8) then ((triglyphref02_Put.f k x9).bind fun t265 => (if (x6 ++ (⟨#[39]⟩ : ByteArray)).size + (strOfNums t265).size ≤ 9223372036854775807 then (triglyphref16_Literal.l1 k ((x6 ++ (⟨#[39]⟩ : ByteArray)) ++ (strOfNums t265)) (wrap64 (x8 + 1)) x257000 x257001 x258000 x258001 x258002 x258003 x258004 x258005 x258006 x258007 x258008 x258009 x258010 x258011 x258012 x258013) else (none))) else (if x9 = 34 then (if (x6 ++ (⟨#[39]⟩ : ByteArray)).size + 1 ≤ 9223372036854775807 then ((triglyphref02_Put.f k x9).bind fun t268 => (if ((x6 ++ (⟨#[39]⟩ : ByteArray)) ++ (⟨#[92]⟩ : ByteArray)).size + (strOfNums t268).size ≤ 9223372036854775807 then (triglyphref16_Literal.l1 k (((x6 ++ (⟨#[39]⟩ : ByteArray)) ++ (⟨#[92]⟩ : ByteArray)) ++ (strOfNums t268)) (wrap64 (x8 + 1)) x257000 x257001 x258000 x258001 x258002 x258003 x258004 x258005 x258006 x258007 x258008 x258009 x258010 x258011 x258012 x258013) else (none))) else (none)) else (if x9 = 92 then (if (x6 ++ (⟨#[39]⟩ : ByteArray)).size + 1 ≤ 9223372036854775807 then ((triglyphref02_Put.f k x9).bind fun t271 => (if ((x6 ++ (⟨#[39]⟩ : ByteArray)) ++ (⟨#[92]⟩ : ByteArray)).size + (strOfNums t271).size ≤ 9223372036854775807 then (triglyphref16_Literal.l1 k (((x6 ++ (⟨#[39]⟩ : ByteArray)) ++ (⟨#[92]⟩ : ByteArray)) ++ (strOfNums t271)) (wrap64 (x8 + 1)) x257000 x257001 x258000 x258001 x258002 x258003 x258004 x258005 x258006 x258007 x258008 x258009 x258010 x258011 x258012 x258013) else (none))) else (none)) else ((triglyphref02_Put.f k x9).bind fun t274 => (if (x6 ++ (⟨#[39]⟩ : ByteArray)).size + (strOfNums t274).size ≤ 9223372036854775807 then (triglyphref16_Literal.l1 k ((x6 ++ (⟨#[39]⟩ : ByteArray)) ++ (strOfNums t274)) (wrap64 (x8 + 1)) x257000 x257001 x258000 x258001 x258002 x258003 x258004 x258005 x258006 x258007 x258008 x258009 x258010 x258011 x258012 x258013) else (none)))))) else (none)) else (if x258010.toList = ([39] : List UInt8) then ((triglyphref02_Put.f k x9).bind fun t277 => (if x6.size + (strOfNums t277).size ≤ 9223372036854775807 then (triglyphref16_Literal.l1 k (x6 ++ (strOfNums t277)) (wrap64 (x8 + 1)) x257000 x257001 x258000 x258001 x258002 x258003 x258004 x258005 x258006 x258007 x258008 x258009 x258010 x258011 x258012 x258013) else (none))) else (if x9 = 34 then (if x6.size + 1 ≤ 9223372036854775807 then ((triglyphref02_Put.f k x9).bind fun t280 => (if (x6 ++ (⟨#[92]⟩ : ByteArray)).size + (strOfNums t280).size ≤ 9223372036854775807 then (triglyphref16_Literal.l1 k ((x6 ++ (⟨#[92]⟩ : ByteArray)) ++ (strOfNums t280)) (wrap64 (x8 + 1)) x257000 x257001 x258000 x258001 x258002 x258003 x258004 x258005 x258006 x258007 x258008 x258009 x258010 x258011 x258012 x258013) else (none))) else (none)) else (if x9 = 92 then (if x6.size + 1 ≤ 9223372036854775807 then ((triglyphref02_Put.f k x9).bind fun t283 => (if (x6 ++ (⟨#[92]⟩ : ByteArray)).size + (strOfNums t283).size ≤ 9223372036854775807 then (triglyphref16_Literal.l1 k ((x6 ++ (⟨#[92]⟩ : ByteArray)) ++ (strOfNums t283)) (wrap64 (x8 + 1)) x257000 x257001 x258000 x258001 x258002 x258003 x258004 x258005 x258006 x258007 x258008 x258009 x258010 x258011 x258012 x258013) else (none))) else (none)) else ((triglyphref02_Put.f k x9).bind fun t286 => (if x6.size + (strOfNums t286).size ≤ 9223372036854775807 then (triglyphref16_Literal.l1 k (x6 ++ (strOfNums t286)) (wrap64 (x8 + 1)) x257000 x257001 x258000 x258001 x258002 x258003 x258004 x258005 x258006 x258007 x258008 x258009 x258010 x258011 x258012 x258013) else (none))))))
end
def triglyphref16_Literal.f (k : Nat) (l0_0 : List Int) (l0_1 : List (S60)) (l1_0 : List ByteArray) (l1_1 : List ByteArray) (l1_2 : List ByteArray) (a1_3 : ByteArray) (a1_4 : ByteArray) (a1_5 : ByteArray) (a1_6 : ByteArray) (a1_7 : ByteArray) (a1_8 : ByteArray) (a1_9 : ByteArray) (a1_10 : ByteArray) (a1_11 : Bool) (a1_12 : Bool) (a1_13 : Bool) : Option (ByteArray × Int) := (triglyphref10_Literal.f k l0_0 l0_1).bind fun t258 => (if t258 = true then (if (l0_1.length : Int) > 0 then (if 0 < (l0_1.length : Int) then (triglyphref16_Literal.j0 k (⟨#[]⟩ : ByteArray) (((rd_T60 l0_1 0).f0) == 0) l0_0 l0_1 l1_0 l1_1 l1_2 a1_3 a1_4 a1_5 a1_6 a1_7 a1_8 a1_9 a1_10 a1_11 a1_12 a1_13) else (none)) else (triglyphref16_Literal.j0 k (⟨#[]⟩ : ByteArray) false l0_0 l0_1 l1_0 l1_1 l1_2 a1_3 a1_4 a1_5 a1_6 a1_7 a1_8 a1_9 a1_10 a1_11 a1_12 a1_13)) else (some ((⟨#[]⟩ : ByteArray), 1)))
theorem triglyphref16_Literal.mono_l : ∀ k, (∀ y0 y1 y2 y3 y4 y5 y6 y7 y8 y9 y10 y11 y12 y13 y14 y15 y16 y17, LeO (triglyphref16_Literal.j0 k y0 y1 y2 y3 y4 y5 y6 y7 y8 y9 y10 y11 y12 y13 y14 y15 y16 y17) (triglyphref16_Literal.j0 (k + 1) y0 y1 y2 y3 y4 y5 y6 y7 y8 y9 y10 y11 y12 y13 y14 y15 y16 y17)) ∧ (∀ y0 y1 y2 y3 y4 y5 y6 y7 y8 y9 y10 y11 y12 y13 y14 y15 y16 y17, LeO (triglyphref16_Literal.l0 k y0 y1 y2 y3 y4 y5 y6 y7 y8 y9 y10 y11 y12 y13 y14 y15 y16 y17) (triglyphref16_Literal.l0 (k + 1) y0 y1 y2 y3 y4 y5 y6 y7 y8 y9 y10 y11 y12 y13 y14 y15 y16 y17)) ∧ (∀ y0 y1 y2 y3 y4 y5 y6 y7 y8 y9 y10 y11 y12 y13 y14 y15 y16 y17, LeO (triglyphref16_Literal.l1 k y0 y1 y2 y3 y4 y5 y6 y7 y8 y9 y10 y11 y12 y13 y14 y15 y16 y17) (triglyphref16_Literal.l1 (k + 1) y0 y1 y2 y3 y4 y5 y6 y7 y8 y9 y10 y11 y12 y13 y14 y15 y16 y17)) ∧ (∀ y0 y1 y2 y3 y4 y5 y6 y7 y8 y9 y10 y11 y12 y13 y14 y15 y16 y17 y18 y19, LeO (triglyphref16_Literal.j3 k y0 y1 y2 y3 y4 y5 y6 y7 y8 y9 y10 y11 y12 y13 y14 y15 y16 y17 y18 y19) (triglyphref16_Literal.j3 (k + 1) y0 y1 y2 y3 y4 y5 y6 y7 y8 y9 y10 y11 y12 y13 y14 y15 y16 y17 y18 y19))
 | 0 => ⟨fun _ _ _ _ _ _ _ _ _ _ _ _ _ _ _ _ _ _ r h => by simp [triglyphref16_Literal.j0] at h, fun _ _ _ _ _ _ _ _ _ _ _ _ _ _ _ _ _ _ r h => by simp [triglyphref16_Literal.l0] at h, fun _ _ _ _ _ _ _ _ _ _ _ _ _ _ _ _ _ _ r h => by simp [triglyphref16_Literal.l1] at h, fun _ _ _ _ _ _ _ _ _ _ _ _ _ _ _ _ _ _ _ _ r h => by simp [triglyphref16_Literal.j3] at h⟩
 | k + 1 => by
  obtain ⟨ih0, ih1, ih2, ih3⟩ := triglyphref16_Literal.mono_l k
  refine ⟨?_, ?_, ?_, ?_⟩
  ·intro y0 y1 y2 y3 y4 y5 y6 y7 y8 y9 y10 y11 y12 y13 y14 y15 y16 y17
   unfold triglyphref16_Literal.j0
   repeat' first
   | (with_reducible exact ih0 _ _ _ _ _ _ _ _ _ _ _ _ _ _ _ _ _ _)
   | (with_reducible exact ih1 _ _ _ _ _ _ _ _ _ _ _ _ _ _ _ _ _ _)
   | (with_reducible exact ih2 _ _ _ _ _ _ _ _ _ _ _ _ _ _ _ _ _ _)
   | (with_reducible exact ih3 _ _ _ _ _ _ _ _ _ _ _ _ _ _ _ _ _ _ _ _)
   | (with_reducible exact triglyphref02_Put.mono _ _)
   | (with_reducible exact triglyphref10_Literal.mono _ _ _)
   | (with_reducible exact triglyphref16_Number.mono _ _ _)
   | (with_reducible exact LeO.refl _)
   | (with_reducible exact LeO.none _)
   | (with_reducible refine LeO.ite ?_ ?_)
   | (with_reducible refine LeO.bind ?_ (fun _ => ?_))




   | exact triglyphref02_Put.mono _ _
   | exact triglyphref10_Literal.mono _ _ _
   | exact triglyphref16_Number.mono _ _ _



  ·intro y0 y1 y2 y3 y4 y5 y6 y7 y8 y9 y10 y11 y12 y13 y14 y15 y16 y17
   unfold triglyphref16_Literal.l0
   repeat' first
   | (with_reducible exact ih0 _ _ _ _ _ _ _ _ _ _ _ _ _ _ _ _ _ _)
   | (with_reducible exact ih1 _ _ _ _ _ _ _ _ _ _ _ _ _ _ _ _ _ _)
   | (with_reducible exact ih2 _ _ _ _ _ _ _ _ _ _ _ _ _ _ _ _ _ _)
   | (with_reducible exact ih3 _ _ _ _ _ _ _ _ _ _ _ _ _ _ _ _ _ _ _ _)
   | (with_reducible exact triglyphref02_Put.mono _ _)
   | (with_reducible exact triglyphref10_Literal.mono _ _ _)
   | (with_reducible exact triglyphref16_Number.mono _ _ _)
   | (with_reducible exact LeO.refl _)
   | (with_reducible exact LeO.none _)
   | (with_reducible refine LeO.ite ?_ ?_)
   | (with_reducible refine LeO.bind ?_ (fun _ => ?_))




   | exact triglyphref02_Put.mono _ _
   | exact triglyphref10_Literal.mono _ _ _
   | exact triglyphref16_Number.mono _ _ _



  ·intro y0 y1 y2 y3 y4 y5 y6 y7 y8 y9 y10 y11 y12 y13 y14 y15 y16 y17
   unfold triglyphref16_Literal.l1
   repeat' first
   | (with_reducible exact ih0 _ _ _ _ _ _ _ _ _ _ _ _ _ _ _ _ _ _)
   | (with_reducible exact ih1 _ _ _ _ _ _ _ _ _ _ _ _ _ _ _ _ _ _)
   | (with_reducible exact ih2 _ _ _ _ _ _ _ _ _ _ _ _ _ _ _ _ _ _)
   | (with_reducible exact ih3 _ _ _ _ _ _ _ _ _ _ _ _ _ _ _ _ _ _ _ _)
   | (with_reducible exact triglyphref02_Put.mono _ _)
   | (with_reducible exact triglyphref10_Literal.mono _ _ _)
   | (with_reducible exact triglyphref16_Number.mono _ _ _)
   | (with_reducible exact LeO.refl _)
   | (with_reducible exact LeO.none _)
   | (with_reducible refine LeO.ite ?_ ?_)
   | (with_reducible refine LeO.bind ?_ (fun _ => ?_))




   | exact triglyphref02_Put.mono _ _
   | exact triglyphref10_Literal.mono _ _ _
   | exact triglyphref16_Number.mono _ _ _



  ·intro y0 y1 y2 y3 y4 y5 y6 y7 y8 y9 y10 y11 y12 y13 y14 y15 y16 y17 y18 y19
   unfold triglyphref16_Literal.j3
   repeat' first
   | (with_reducible exact ih0 _ _ _ _ _ _ _ _ _ _ _ _ _ _ _ _ _ _)
   | (with_reducible exact ih1 _ _ _ _ _ _ _ _ _ _ _ _ _ _ _ _ _ _)
   | (with_reducible exact ih2 _ _ _ _ _ _ _ _ _ _ _ _ _ _ _ _ _ _)
   | (with_reducible exact ih3 _ _ _ _ _ _ _ _ _ _ _ _ _ _ _ _ _ _ _ _)
   | (with_reducible exact triglyphref02_Put.mono _ _)
   | (with_reducible exact triglyphref10_Literal.mono _ _ _)
   | (with_reducible exact triglyphref16_Number.mono _ _ _)
   | (with_reducible exact LeO.refl _)
   | (with_reducible exact LeO.none _)
   | (with_reducible refine LeO.ite ?_ ?_)
   | (with_reducible refine LeO.bind ?_ (fun _ => ?_))




   | exact triglyphref02_Put.mono _ _
   | exact triglyphref10_Literal.mono _ _ _
   | exact triglyphref16_Number.mono _ _ _
theorem triglyphref16_Literal.mono : ∀ a0 a1 a2 a3 a4 a5 a6 a7 a8 a9 a10 a11 a12 a13 a14 a15 k, LeO (triglyphref16_Literal.f k a0 a1 a2 a3 a4 a5 a6 a7 a8 a9 a10 a11 a12 a13 a14 a15) (triglyphref16_Literal.f (k + 1) a0 a1 a2 a3 a4 a5 a6 a7 a8 a9 a10 a11 a12 a13 a14 a15) := by
 intro a0 a1 a2 a3 a4 a5 a6 a7 a8 a9 a10 a11 a12 a13 a14 a15 k
 obtain ⟨ih0, ih1, ih2, ih3⟩ := triglyphref16_Literal.mono_l k
 unfold triglyphref16_Literal.f
 repeat' first
   | (with_reducible exact ih0 _ _ _ _ _ _ _ _ _ _ _ _ _ _ _ _ _ _)
   | (with_reducible exact ih1 _ _ _ _ _ _ _ _ _ _ _ _ _ _ _ _ _ _)
   | (with_reducible exact ih2 _ _ _ _ _ _ _ _ _ _ _ _ _ _ _ _ _ _)
   | (with_reducible exact ih3 _ _ _ _ _ _ _ _ _ _ _ _ _ _ _ _ _ _ _ _)
   | (with_reducible exact triglyphref02_Put.mono _ _)
   | (with_reducible exact triglyphref10_Literal.mono _ _ _)
   | (with_reducible exact triglyphref16_Number.mono _ _ _)
   | (with_reducible exact LeO.refl _)
   | (with_reducible exact LeO.none _)
   | (with_reducible refine LeO.ite ?_ ?_)
   | (with_reducible refine LeO.bind ?_ (fun _ => ?_))




   | exact triglyphref02_Put.mono _ _
   | exact triglyphref10_Literal.mono _ _ _
   | exact triglyphref16_Number.mono _ _ _
def triglyphref16_Literal.T10 : Bool × List (List Nat × List Nat) := (true, [([], []), ([], []), ([1], [1]), ([], []), ([2, 3], [2, 3]), ([4], [4]), ([5], [5]), ([], []), ([7], [7]), ([6, 8], [6, 8]), ([0, 9], [0, 9]), ([10, 9, 0, 1, 2, 3, 4, 5, 6, 7, 8, 9, 10], [0, 10])])
def triglyphref16_Literal.B10 : List Nat := [0, 0, 2, 0, 14, 30, 62, 0, 128, 510, 1023, 2047]
theorem triglyphref16_Literal.tab10 : rtab .any (opsOf Try.f11 10) = triglyphref16_Literal.T10 := by kernel_rfl
theorem triglyphref16_Literal.bits10 : waitsOk triglyphref16_Literal.T10.2 triglyphref16_Literal.B10 = true := by kernel_rfl
set_option maxHeartbeats 8000000 in
set_option maxRecDepth 100000 in
theorem triglyphref16_Literal.calls (k : Nat) (A0_0 : Option Addr) (c0_0 : Nat) (l0_0 : List Int) (A0_1 : Option Addr) (c0_1 : Nat) (l0_1 : List (S60)) (A1_0 : Option Addr) (c1_0 : Nat) (l1_0 : List ByteArray) (A1_1 : Option Addr) (c1_1 : Nat) (l1_1 : List ByteArray) (A1_2 : Option Addr) (c1_2 : Nat) (l1_2 : List ByteArray) (a1_3 : ByteArray) (a1_4 : ByteArray) (a1_5 : ByteArray) (a1_6 : ByteArray) (a1_7 : ByteArray) (a1_8 : ByteArray) (a1_9 : ByteArray) (a1_10 : ByteArray) (a1_11 : Bool) (a1_12 : Bool) (a1_13 : Bool) (r1 : ByteArray) (r2 : Int) (w : World) (hr0_0 : Kd.C (Kd.int .i64) w A0_0 l0_0.length l0_0) (hc0_0 : l0_0.length ≤ c0_0) (hr0_1 : Kd.C k60 w A0_1 l0_1.length l0_1) (hc0_1 : l0_1.length ≤ c0_1) (hr1_0 : Kd.C Kd.string w A1_0 l1_0.length l1_0) (hc1_0 : l1_0.length ≤ c1_0) (hr1_1 : Kd.C Kd.string w A1_1 l1_1.length l1_1) (hc1_1 : l1_1.length ≤ c1_1) (hr1_2 : Kd.C Kd.string w A1_2 l1_2.length l1_2) (hc1_2 : l1_2.length ≤ c1_2) (h : triglyphref16_Literal.f k l0_0 l0_1 l1_0 l1_1 l1_2 a1_3 a1_4 a1_5 a1_6 a1_7 a1_8 a1_9 a1_10 a1_11 a1_12 a1_13 = some (r1, r2)) :
  Calls Try.prog 11 #[.agg #[.slice A0_0 l0_0.length c0_0, .slice A0_1 l0_1.length c0_1], .agg #[.slice A1_0 l1_0.length c1_0, .slice A1_1 l1_1.length c1_1, .slice A1_2 l1_2.length c1_2, .string a1_3, .string a1_4, .string a1_5, .string a1_6, .string a1_7, .string a1_8, .string a1_9, .string a1_10, .bool a1_11, .bool a1_12, .bool a1_13]] w fun e w' => e = .returned (.tuple #[.string r1, .int .i64 r2]) ∧ Below w.heap.size w w' := by
 have hu28 := Try.underlying28
 have hu32 := Try.underlying32
 have HR0_0 := gA hr0_0
 have HC0_0 := gA hc0_0
 clear hr0_0 hc0_0
 have HR0_1 := gA hr0_1
 have HC0_1 := gA hc0_1
 clear hr0_1 hc0_1
 have HR1_0 := gA hr1_0
 have HC1_0 := gA hc1_0
 clear hr1_0 hc1_0
 have HR1_1 := gA hr1_1
 have HC1_1 := gA hc1_1
 clear hr1_1 hc1_1
 have HR1_2 := gA hr1_2
 have HC1_2 := gA hc1_2
 clear hr1_2 hc1_2
 have HB := gA (Below.refl w.heap.size w)
 have H : ((triglyphref10_Literal.f k l0_0 l0_1).bind fun t258 => (if t258 = true then (if (l0_1.length : Int) > 0 then (if 0 < (l0_1.length : Int) then (triglyphref16_Literal.j0 k (⟨#[]⟩ : ByteArray) (((rd_T60 l0_1 0).f0) == 0) l0_0 l0_1 l1_0 l1_1 l1_2 a1_3 a1_4 a1_5 a1_6 a1_7 a1_8 a1_9 a1_10 a1_11 a1_12 a1_13) else (none)) else (triglyphref16_Literal.j0 k (⟨#[]⟩ : ByteArray) false l0_0 l0_1 l1_0 l1_1 l1_2 a1_3 a1_4 a1_5 a1_6 a1_7 a1_8 a1_9 a1_10 a1_11 a1_12 a1_13)) else (some ((⟨#[]⟩ : ByteArray), 1)))) = some (r1, r2) := h
 clear h
 replace H := Option.bind_eq_some_iff.mp H
 obtain ⟨t258, A30, H⟩ := H
 replace H : (if t258 = true then (if (l0_1.length : Int) > 0 then (if 0 < (l0_1.length : Int) then (triglyphref16_Literal.j0 k (⟨#[]⟩ : ByteArray) (((rd_T60 l0_1 0).f0) == 0) l0_0 l0_1 l1_0 l1_1 l1_2 a1_3 a1_4 a1_5 a1_6 a1_7 a1_8 a1_9 a1_10 a1_11 a1_12 a1_13) else (none)) else (triglyphref16_Literal.j0 k (⟨#[]⟩ : ByteArray) false l0_0 l0_1 l1_0 l1_1 l1_2 a1_3 a1_4 a1_5 a1_6 a1_7 a1_8 a1_9 a1_10 a1_11 a1_12 a1_13)) else (some ((⟨#[]⟩ : ByteArray), 1))) = some (r1, r2) := H
 have A3 := gA A30
 clear A30
 by_cases c4 : t258 = true
 ·subst c4
  have H1 : (if (l0_1.length : Int) > 0 then (if 0 < (l0_1.length : Int) then (triglyphref16_Literal.j0 k (⟨#[]⟩ : ByteArray) (((rd_T60 l0_1 0).f0) == 0) l0_0 l0_1 l1_0 l1_1 l1_2 a1_3 a1_4 a1_5 a1_6 a1_7 a1_8 a1_9 a1_10 a1_11 a1_12 a1_13) else (none)) else (triglyphref16_Literal.j0 k (⟨#[]⟩ : ByteArray) false l0_0 l0_1 l1_0 l1_1 l1_2 a1_3 a1_4 a1_5 a1_6 a1_7 a1_8 a1_9 a1_10 a1_11 a1_12 a1_13)) = some (r1, r2) := by rw [if_pos rfl] at H; exact H
  clear H; have H := H1; clear H1
  have HC5 := gA H
  clear H
  go_enter Try.func11, Try.ntmps11
  go_upto_region 4 with (first | ((with_reducible refine gate_dst (N := 2) rfl ?_); refine box_event ?hg (N := 2) ?hd (cs := #[.slice A0_0 l0_0.length c0_0, .slice A0_1 l0_1.length c0_1]) (t := 28) ?hr ?_; (case hd => rfl); (case hg => rfl); (case hr => first | (go_simp; done) | (go_simp; rfl)); intro gb256 hg w6 hbox hb; have BK256 := gA (hbox); have GW256 := gA ((by rw [hg]; exact (below_size (gB HB)) : w.heap.size ≤ gb256)); have GE256 := gA ((by rw [hg]; exact (below_size (gB HB)) : w.heap.size ≤ gb256)); replace HB := gA (below_step (gB HB) hb); clear hb hbox hg) | ((with_reducible refine gate_dst (N := 3) rfl ?_); refine box_event ?hg (N := 3) ?hd (cs := #[.slice A1_0 l1_0.length c1_0, .slice A1_1 l1_1.length c1_1, .slice A1_2 l1_2.length c1_2, .string a1_3, .string a1_4, .string a1_5, .string a1_6, .string a1_7, .string a1_8, .string a1_9, .string a1_10, .bool a1_11, .bool a1_12, .bool a1_13]) (t := 32) ?hr ?_; (case hd => rfl); (case hg => rfl); (case hr => first | (go_simp; done) | (go_simp; rfl)); intro gb257 hg w7 hbox hb; have BK257 := gA (hbox); have GW257 := gA ((by rw [hg]; exact (below_size (gB HB)) : w.heap.size ≤ gb257)); have GE257 := gA ((by rw [hg]; exact (below_size (gB HB)) : w.heap.size ≤ gb257)); replace HB := gA (below_step (gB HB) hb); have NB256_257 := gA ((by rw [hg]; exact Nat.ne_of_lt (blk_lt (gK BK256)) : gb256 ≠ gb257)); have NB257_256 := gA ((by rw [hg]; exact Nat.ne_of_gt (blk_lt (gK BK256)) : gb257 ≠ gb256)); replace BK256 := gA (blk_below (gK BK256) hb); clear hb hbox hg; have hnb8 := NB256_257.out; have hnc8 := NB257_256.out; obtain ⟨hcz9_0, hcz9_1, hfz9_0, hfz9_1⟩ := gz2 BK256) | ((with_reducible refine gate_callee (f := 28) rfl ?_); refine goesL_ (some 11) rfl rfl Try.func28 (by kernel_rfl) rfl #[.agg #[.slice A0_0 l0_0.length c0_0, .slice A0_1 l0_1.length c0_1]] rfl (by (try simp only [List.map_toArray, List.map_cons, List.map_nil]); first | done | rfl | (simp only [List.length_drop, List.length_take]; rfl)) ?_; (with_reducible refine (triglyphref10_Literal.calls k _ _ l0_0 _ _ l0_1 true _ ?side1 ?side2 ?side3 ?side4 A3.out).mono ?_); (case side1 => exact gC HR0_0 HB); (case side2 => exact HC0_0.out); (case side3 => exact gC HR0_1 HB); (case side4 => exact HC0_1.out); rintro e w10 ⟨rfl, hb⟩; refine ⟨_, rfl, ?_⟩; replace BK256 := gA (blk_below (gK BK256) hb); replace BK257 := gA (blk_below (gK BK257) hb); replace HB := gA (below_step (gB HB) hb); (try clear hb)))
  (try simp only [Act.put, List.setIfInBounds_toArray, List.set_cons_zero, List.set_cons_succ])
  go_cut [24] (fun v24 wc => ∃ (kq : Nat) (x24_4 : Bool), v24 = .bool x24_4 ∧ Aside0 (triglyphref16_Literal.j0 kq (⟨#[]⟩ : ByteArray) x24_4 l0_0 l0_1 l1_0 l1_1 l1_2 a1_3 a1_4 a1_5 a1_6 a1_7 a1_8 a1_9 a1_10 a1_11 a1_12 a1_13 = some (r1, r2)) ∧ Aside0 (kq ≤ k) ∧ Aside0 (wc.heap[gb256]? = some (.cells #[(.slice A0_0 l0_0.length c0_0), (.slice A0_1 l0_1.length c0_1)] 28 (0, 0))) ∧ Aside0 (wc.heap[gb257]? = some (.cells #[(.slice A1_0 l1_0.length c1_0), (.slice A1_1 l1_1.length c1_1), (.slice A1_2 l1_2.length c1_2), .string a1_3, .string a1_4, .string a1_5, .string a1_6, .string a1_7, .string a1_8, .string a1_9, .string a1_10, .bool a1_11, .bool a1_12, .bool a1_13] 32 (0, 0))) ∧ Aside0 (Below w.heap.size w wc))
  case first =>
   have H := HC5.out; clear HC5
   by_cases c11 : (l0_1.length : Int) > 0
   ·rw [if_pos c11] at H
    have c11b0 : decide (0 < (l0_1.length : Int)) = true := decide_eq_true c11
    have c11b1 : decide (0 < l0_1.length) = true := decide_eq_true (by omega)
    clear c11
    (first | rw [c11b0] | rw [c11b1] | (simp only [i64_w, i32_w]; rw [c11b0]) | skip)
    obtain ⟨c12, H⟩ := iS H
    have c12b0 := decide_eq_true c12
    have c12b1 : decide (0 < l0_1.length) = true := decide_eq_true (by omega)
    clear c12
    have H' := gA H
    clear H
    have hnb13 := NB256_257.out
    have hnc13 := NB257_256.out
    obtain ⟨hcz14_0, hcz14_1, hfz14_0, hfz14_1⟩ := gz2 BK256
    have p259 : 0 ≤ (0 : Int) := (by omega)
    have q259 : 0 < (l0_1.length : Int) := of_decide_eq_true (by assumption)
    obtain ⟨ad259, A259_2, c259_2, e259, hx259_0, hx259_1, hx259_2, hl259_2, hi259_2⟩ := at_T60 HR0_1.out 0 p259 q259
    cases e259
    have qi259 : (0 < l0_1.length) = True := eq_true (by omega)
    (try rw [show ((0 : Int)).toNat = 0 from rfl] at hx259_0)
    (try rw [show 0 * 3 = 0 from rfl] at hx259_0)
    (try rw [Addr.add_zero'] at hx259_0)
    (try rw [show ((0 : Int)).toNat = 0 from rfl] at hx259_1)
    (try rw [show 0 * 3 = 0 from rfl] at hx259_1)
    (try rw [Addr.add_zero'] at hx259_1)
    (try rw [show ((0 : Int)).toNat = 0 from rfl] at hx259_2)
    (try rw [show 0 * 3 = 0 from rfl] at hx259_2)
    (try rw [Addr.add_zero'] at hx259_2)
    replace hx259_0 := (HB.out.cell (World.block_lt_of_cell? w _ hx259_0)).trans hx259_0
    replace hx259_1 := (HB.out.cell (World.block_lt_of_cell? w _ hx259_1)).trans hx259_1
    replace hx259_2 := (HB.out.cell (World.block_lt_of_cell? w _ hx259_2)).trans hx259_2
    have HR259_2 := gA hi259_2
    have HC259_2 := gA hl259_2
    clear hi259_2 hl259_2
    replace p259 := eq_true p259
    replace q259 := eq_true q259
    go_wp2
    all_goals (go_meet; (case rel => exact ⟨_, ((((rd_T60 l0_1 0).f0) == 0)), (by first | rfl | (simp; done) | (simp [*]; done) | (exfalso; simp_all; done) | (exfalso; simp_all; omega)), H', ⟨by first | omega | exact Nat.le_refl _⟩, ⟨gK BK256⟩, ⟨gK BK257⟩, ⟨gB HB⟩⟩))
   ·rw [if_neg c11] at H
    have c11b0 : decide (0 < (l0_1.length : Int)) = false := decide_eq_false c11
    have c11b1 : decide (0 < l0_1.length) = false := decide_eq_false (by omega)
    clear c11
    (first | rw [c11b0] | rw [c11b1] | (simp only [i64_w, i32_w]; rw [c11b0]) | skip)
    have H' := gA H
    clear H
    have hnb15 := NB256_257.out
    have hnc15 := NB257_256.out
    obtain ⟨hcz16_0, hcz16_1, hfz16_0, hfz16_1⟩ := gz2 BK256
    go_wp2
    all_goals (go_meet; (case rel => exact ⟨_, (false), (by first | rfl | (simp; done) | (simp [*]; done) | (exfalso; simp_all; done) | (exfalso; simp_all; omega)), H', ⟨by first | omega | exact Nat.le_refl _⟩, ⟨gK BK256⟩, ⟨gK BK257⟩, ⟨gB HB⟩⟩))
  case rest =>
   clear HC5
   try clear c1
   try clear c2
   try clear p2
   try clear q2
   try clear hx2
   try clear qi2
   try clear c4
   try clear c8
   try clear c11
   try clear c11b0
   try clear c11b1
   try clear c12
   try clear c12b0
   try clear c12b1
   try clear c13
   try clear c15
   try clear hcz14_0
   try clear hcz14_1
   try clear hcz16_0
   try clear hcz16_1
   try clear hcz9_0
   try clear hcz9_1
   try clear hfz14_0
   try clear hfz14_1
   try clear hfz16_0
   try clear hfz16_1
   try clear hfz9_0
   try clear hfz9_1
   try clear hx259_0
   try clear hx259_1
   try clear hx259_2
   try clear p259
   try clear q259
   obtain ⟨kq, x24_4, rfl, HA, HJ4, BK256, BK257, HB⟩ := hcut
   cases kq with
   | zero => exact absurd HA.out (by simp [triglyphref16_Literal.j0])
   | succ kj4 =>
    have H := HA.out; clear HA
    simp only [triglyphref16_Literal.j0] at H
    by_cases c17 : x24_4 = true
    ·subst c17
     have H1 : (triglyphref16_Literal.l0 kj4 (⟨#[]⟩ : ByteArray) 0 l0_0 l0_1 l1_0 l1_1 l1_2 a1_3 a1_4 a1_5 a1_6 a1_7 a1_8 a1_9 a1_10 a1_11 a1_12 a1_13) = some (r1, r2) := by rw [if_pos rfl] at H; exact H
     clear H; have H := H1; clear H1
     have H' := gA H
     clear H
     go_wp2
     go_loopg [6, 7] kj4 (fun kq v6 v7 w' => ∃ (x6_2 : ByteArray) (x7_2 : Int), v6 = .string x6_2 ∧ v7 = .int .i64 x7_2 ∧ Aside0 (triglyphref16_Literal.l0 kq x6_2 x7_2 l0_0 l0_1 l1_0 l1_1 l1_2 a1_3 a1_4 a1_5 a1_6 a1_7 a1_8 a1_9 a1_10 a1_11 a1_12 a1_13 = some (r1, r2)) ∧ Aside0 (kq ≤ kj4) ∧ Aside0 (w'.heap[gb256]? = some (.cells #[(.slice A0_0 l0_0.length c0_0), (.slice A0_1 l0_1.length c0_1)] 28 (0, 0))) ∧ Aside0 (w'.heap[gb257]? = some (.cells #[(.slice A1_0 l1_0.length c1_0), (.slice A1_1 l1_1.length c1_1), (.slice A1_2 l1_2.length c1_2), .string a1_3, .string a1_4, .string a1_5, .string a1_6, .string a1_7, .string a1_8, .string a1_9, .string a1_10, .bool a1_11, .bool a1_12, .bool a1_13] 32 (0, 0))) ∧ Aside0 (Below w.heap.size w w'))
     case atStart => exact ⟨((⟨#[]⟩ : ByteArray)), (0), (rfl), (rfl), H', ⟨Nat.le_refl _⟩, ⟨gK BK256⟩, ⟨gK BK257⟩, ⟨by repeat first | exact gB HB | refine below_set ?_ GE256.out | refine below_set ?_ GE257.out⟩⟩
     case round =>
      clear H'
      try clear c1
      try clear c2
      try clear p2
      try clear q2
      try clear hx2
      try clear qi2
      try clear c4
      try clear c8
      try clear c11
      try clear c11b0
      try clear c11b1
      try clear c12
      try clear c12b0
      try clear c12b1
      try clear c13
      try clear c15
      try clear c17
      try clear hcz14_0
      try clear hcz14_1
      try clear hcz16_0
      try clear hcz16_1
      try clear hcz9_0
      try clear hcz9_1
      try clear hfz14_0
      try clear hfz14_1
      try clear hfz16_0
      try clear hfz16_1
      try clear hfz9_0
      try clear hfz9_1
      try clear hx259_0
      try clear hx259_1
      try clear hx259_2
      try clear p2
      try clear p259
      try clear q2
      try clear q259
      obtain ⟨x6_2, x7_2, rfl, rfl, HA, HK2, BK256, BK257, HB⟩ := hrel
      cases gk with
      | zero => exact absurd HA.out (by simp [triglyphref16_Literal.l0])
      | succ k2 =>
       have H := HA.out; clear HA
       simp only [triglyphref16_Literal.l0] at H
       by_cases c18 : x7_2 < (l0_1.length : Int)
       ·rw [if_pos c18] at H
        have c18b0 := decide_eq_true c18
        clear c18
        by_cases c19 : x7_2 > 0
        ·rw [if_pos c19] at H
         have c19b0 : decide (0 < x7_2) = true := decide_eq_true c19
         clear c19
         obtain ⟨c20, H⟩ := iS H
         have c20b0 := eq_true c20
         have c20b1 := decide_eq_true c20
         try have c20b2 : (9223372036854775807 < x6_2.size + 1) = False := eq_false (Nat.not_lt.2 c20)
         obtain ⟨c21, H⟩ := iS H
         have c21b0 := decide_eq_true c21
         clear c21
         replace H := Option.bind_eq_some_iff.mp H
         obtain ⟨t261, A220, H⟩ := H
         replace H : (if (x6_2 ++ (⟨#[32]⟩ : ByteArray)).size + t261.size ≤ 9223372036854775807 then (triglyphref16_Literal.l0 k2 ((x6_2 ++ (⟨#[32]⟩ : ByteArray)) ++ t261) (wrap64 (x7_2 + 1)) l0_0 l0_1 l1_0 l1_1 l1_2 a1_3 a1_4 a1_5 a1_6 a1_7 a1_8 a1_9 a1_10 a1_11 a1_12 a1_13) else (none)) = some (r1, r2) := H
         have A22 := gA A220
         clear A220
         obtain ⟨c23, H⟩ := iS H
         have c23b0 := eq_true c23
         have c23b1 := decide_eq_true c23
         try have c23b2 : (9223372036854775807 < (x6_2 ++ (⟨#[32]⟩ : ByteArray)).size + t261.size) = False := eq_false (Nat.not_lt.2 c23)
         try (have c23b2z := c23b2; simp only [ByteArray.size_append, show (⟨#[32]⟩ : ByteArray).size = 1 from rfl] at c23b2z)
         have H' := gA H
         clear H
         have hnb24 := NB256_257.out
         have hnc24 := NB257_256.out
         obtain ⟨hcz25_0, hcz25_1, hfz25_0, hfz25_1⟩ := gz2 BK256
         try go_wp2
         replace BK256 := gA (blk_drew BK256.out); replace BK257 := gA (blk_drew BK257.out); replace HB := gA (below_drew1 HB.out)
         have p260 : 0 ≤ (x7_2 : Int) := of_decide_eq_true (by assumption)
         have q260 : x7_2 < (l0_1.length : Int) := of_decide_eq_true (by assumption)
         obtain ⟨ad260, A260_2, c260_2, e260, hx260_0, hx260_1, hx260_2, hl260_2, hi260_2⟩ := at_T60 HR0_1.out x7_2 p260 q260
         have hw260_2 := hx260_2
         have hw260_1 := hx260_1
         have hw260_0 := hx260_0
         cases e260
         replace hx260_0 := (HB.out.cell (World.block_lt_of_cell? w _ hx260_0)).trans hx260_0
         replace hx260_1 := (HB.out.cell (World.block_lt_of_cell? w _ hx260_1)).trans hx260_1
         replace hx260_2 := (HB.out.cell (World.block_lt_of_cell? w _ hx260_2)).trans hx260_2
         have HR260_2 := gA hi260_2
         have HC260_2 := gA hl260_2
         clear hi260_2 hl260_2
         replace p260 := eq_true p260
         replace q260 := eq_true q260
         refine start_ (n := 12) (S := fun w' => w'.cell? ⟨gb256, 0, none⟩ = some (.slice A0_0 l0_0.length c0_0) ∧ w'.cell? ⟨gb256, 1, none⟩ = some (.slice (some ad260) l0_1.length c0_1) ∧ w'.cell? ⟨gb257, 0, none⟩ = some (.slice A1_0 l1_0.length c1_0) ∧ w'.cell? ⟨gb257, 1, none⟩ = some (.slice A1_1 l1_1.length c1_1) ∧ w'.cell? ⟨gb257, 2, none⟩ = some (.slice A1_2 l1_2.length c1_2) ∧ w'.cell? ⟨gb257, 3, none⟩ = some (.string a1_3) ∧ w'.cell? ⟨gb257, 4, none⟩ = some (.string a1_4) ∧ w'.cell? ⟨gb257, 5, none⟩ = some (.string a1_5) ∧ w'.cell? ⟨gb257, 6, none⟩ = some (.string a1_6) ∧ w'.cell? ⟨gb257, 7, none⟩ = some (.string a1_7) ∧ w'.cell? ⟨gb257, 8, none⟩ = some (.string a1_8) ∧ w'.cell? ⟨gb257, 9, none⟩ = some (.string a1_9) ∧ w'.cell? ⟨gb257, 10, none⟩ = some (.string a1_10) ∧ w'.cell? ⟨gb257, 11, none⟩ = some (.bool a1_11) ∧ w'.cell? ⟨gb257, 12, none⟩ = some (.bool a1_12) ∧ w'.cell? ⟨gb257, 13, none⟩ = some (.bool a1_13) ∧ w'.cell? (ad260.add ((x7_2).toNat * 3)) = some (.int .i64 ((rd_T60 l0_1 x7_2).f0)) ∧ w'.cell? ⟨(ad260.add ((x7_2).toNat * 3)).block, (ad260.add ((x7_2).toNat * 3)).off + 1, none⟩ = some (.int .i64 ((rd_T60 l0_1 x7_2).f1)) ∧ w'.cell? ⟨(ad260.add ((x7_2).toNat * 3)).block, (ad260.add ((x7_2).toNat * 3)).off + 2, none⟩ = some (.slice A260_2 ((rd_T60 l0_1 x7_2).f2).length c260_2)) (ds := []) #[false, false, false, false, false, false, false, false, false, false, false, false] (by kernel_rfl) rfl rfl ⟨(blk_cell BK256.out 0).trans rfl, (blk_cell BK256.out 1).trans rfl, (blk_cell BK257.out 0).trans rfl, (blk_cell BK257.out 1).trans rfl, (blk_cell BK257.out 2).trans rfl, (blk_cell BK257.out 3).trans rfl, (blk_cell BK257.out 4).trans rfl, (blk_cell BK257.out 5).trans rfl, (blk_cell BK257.out 6).trans rfl, (blk_cell BK257.out 7).trans rfl, (blk_cell BK257.out 8).trans rfl, (blk_cell BK257.out 9).trans rfl, (blk_cell BK257.out 10).trans rfl, (blk_cell BK257.out 11).trans rfl, (blk_cell BK257.out 12).trans rfl, (blk_cell BK257.out 13).trans rfl, ((HB.out.cell (World.block_lt_of_cell? w _ hw260_0)).trans hw260_0), ((HB.out.cell (World.block_lt_of_cell? w _ hw260_1)).trans hw260_1), ((HB.out.cell (World.block_lt_of_cell? w _ hw260_2)).trans hw260_2)⟩ (fun hHeld => ?_); refine with_tabW triglyphref16_Literal.tab10 triglyphref16_Literal.bits10 (fun HT_ HW_ => ?_)
         generalize wr.drew = w26 at BK256 BK257 HB HR260_2 hx260_0 hx260_1 hx260_2 hHeld ⊢
         refine pure_ (i := 0) (N := some 36) (v := ?_) (a' := ?_) #[true, false, false, false, false, false, false, false, false, false, false, false] rfl rfl (any_of HT_.out (by kernel_rfl)) (fun _ _ _ h => h) (Or.inl ⟨by rfl, ?_⟩) ?_ ?_; rotate_left
         ·intro w'; go_simp; with_reducible rfl
         rotate_left
         ·simp only [Act.put, List.setIfInBounds_toArray, List.set_cons_zero, List.set_cons_succ, i64_w, i32_w]; rfl
         refine pure_ (i := 1) (N := some 37) (v := ?_) (a' := ?_) #[true, true, false, false, false, false, false, false, false, false, false, false] rfl rfl (any_of HT_.out (by kernel_rfl)) (fun _ _ _ h => h) (Or.inl ⟨by rfl, ?_⟩) ?_ ?_; rotate_left
         ·intro w'; go_simp; with_reducible rfl
         rotate_left
         ·simp only [Act.put, List.setIfInBounds_toArray, List.set_cons_zero, List.set_cons_succ, i64_w, i32_w]; rfl
         refine pure_ (i := 3) (N := some 39) (v := ?_) (a' := ?_) #[true, true, false, true, false, false, false, false, false, false, false, false] rfl rfl (any_of HT_.out (by kernel_rfl)) (fun _ _ _ h => h) (Or.inl ⟨by rfl, ?_⟩) ?_ ?_; rotate_left
         ·intro w'; go_simp; with_reducible rfl
         rotate_left
         ·simp only [Act.put, List.setIfInBounds_toArray, List.set_cons_zero, List.set_cons_succ, i64_w, i32_w]; rfl
         refine pure_ (i := 7) (N := some 43) (v := ?_) (a' := ?_) #[true, true, false, true, false, false, false, true, false, false, false, false] rfl rfl (any_of HT_.out (by kernel_rfl)) (fun _ _ _ h => h) (Or.inl ⟨by rfl, ?_⟩) ?_ ?_; rotate_left
         ·intro w'; go_simp; with_reducible rfl
         rotate_left
         ·simp only [Act.put, List.setIfInBounds_toArray, List.set_cons_zero, List.set_cons_succ, i64_w, i32_w]; rfl
         refine take_ (i := 2) (N := some 38) (v := ?_) (a' := ?_) #[true, true, true, true, false, false, false, true, false, false, false, false] rfl rfl (take_ofW HT_.out HW_.out (by kernel_rfl)) (fun _ _ _ h => h) (Or.inl ⟨by rfl, ?_⟩) hHeld ?_ ?_; rotate_left
         ·rintro w' ⟨s0, s1, s2, s3, s4, s5, s6, s7, s8, s9, s10, s11, s12, s13, s14, s15, s16, s17, s18⟩; go_simp; with_reducible rfl
         rotate_left
         ·simp only [Act.put, List.setIfInBounds_toArray, List.set_cons_zero, List.set_cons_succ, i64_w, i32_w]; rfl
         refine pure_ (i := 4) (N := some 40) (v := ?_) (a' := ?_) #[true, true, true, true, true, false, false, true, false, false, false, false] rfl rfl (any_of HT_.out (by kernel_rfl)) (fun _ _ _ h => h) (Or.inl ⟨by rfl, ?_⟩) ?_ ?_; rotate_left
         ·intro w'; go_simp; with_reducible rfl
         rotate_left
         ·simp only [Act.put, List.setIfInBounds_toArray, List.set_cons_zero, List.set_cons_succ, i64_w, i32_w]; rfl
         refine pure_ (i := 5) (N := some 41) (v := ?_) (a' := ?_) #[true, true, true, true, true, true, false, true, false, false, false, false] rfl rfl (any_of HT_.out (by kernel_rfl)) (fun _ _ _ h => h) (Or.inl ⟨by rfl, ?_⟩) ?_ ?_; rotate_left
         ·intro w'; go_simp; with_reducible rfl
         rotate_left
         ·simp only [Act.put, List.setIfInBounds_toArray, List.set_cons_zero, List.set_cons_succ, i64_w, i32_w]; rfl
         refine take_ (i := 6) (N := some 42) (v := ?_) (a' := ?_) #[true, true, true, true, true, true, true, true, false, false, false, false] rfl rfl (take_ofW HT_.out HW_.out (by kernel_rfl)) (fun _ _ _ h => h) (Or.inl ⟨by rfl, ?_⟩) hHeld ?_ ?_; rotate_left
         ·rintro w' ⟨s0, s1, s2, s3, s4, s5, s6, s7, s8, s9, s10, s11, s12, s13, s14, s15, s16, s17, s18⟩; go_simp; with_reducible rfl
         rotate_left
         ·simp only [Act.put, List.setIfInBounds_toArray, List.set_cons_zero, List.set_cons_succ, i64_w, i32_w]; rfl
         refine take_ (i := 8) (N := some 44) (v := ?_) (a' := ?_) #[true, true, true, true, true, true, true, true, true, false, false, false] rfl rfl (take_ofW HT_.out HW_.out (by kernel_rfl)) (fun _ _ _ h => h) (Or.inl ⟨by rfl, ?_⟩) hHeld ?_ ?_; rotate_left
         ·rintro w' ⟨s0, s1, s2, s3, s4, s5, s6, s7, s8, s9, s10, s11, s12, s13, s14, s15, s16, s17, s18⟩; go_simp; with_reducible rfl
         rotate_left
         ·simp only [Act.put, List.setIfInBounds_toArray, List.set_cons_zero, List.set_cons_succ, i64_w, i32_w]; rfl
         refine one_ (i := 9) (N := some 45) #[true, true, true, true, true, true, true, true, true, true, false, false] rfl rfl (one_of HT_.out (by kernel_rfl)) (by decide) (fun K hK => ?_)
         refine goes_ Try.func6 (by kernel_rfl) rfl #[.int .i64 ((rd_T60 l0_1 x7_2).f1), .string a1_9] (by rfl) rfl rfl (by (try simp only [List.map_toArray, List.map_cons, List.map_nil]); first | done | rfl | (simp only [List.length_drop, List.length_take]; rfl)) ?_
         with_reducible refine (triglyphref16_Number.calls k2 ((rd_T60 l0_1 x7_2).f1) a1_9 t261 _ A22.out).mono ?_
         rintro e w27 ⟨rfl, hb⟩
         refine ⟨_, rfl, ?_⟩
         replace BK256 := gA (blk_below (gK BK256) hb); replace BK257 := gA (blk_below (gK BK257) hb); replace HB := gA (below_step (gB HB) hb); (try clear hb)
         refine hK.out _ _ ⟨(blk_cell BK256.out 0).trans rfl, (blk_cell BK256.out 1).trans rfl, (blk_cell BK257.out 0).trans rfl, (blk_cell BK257.out 1).trans rfl, (blk_cell BK257.out 2).trans rfl, (blk_cell BK257.out 3).trans rfl, (blk_cell BK257.out 4).trans rfl, (blk_cell BK257.out 5).trans rfl, (blk_cell BK257.out 6).trans rfl, (blk_cell BK257.out 7).trans rfl, (blk_cell BK257.out 8).trans rfl, (blk_cell BK257.out 9).trans rfl, (blk_cell BK257.out 10).trans rfl, (blk_cell BK257.out 11).trans rfl, (blk_cell BK257.out 12).trans rfl, (blk_cell BK257.out 13).trans rfl, ((HB.out.cell (World.block_lt_of_cell? w _ hw260_0)).trans hw260_0), ((HB.out.cell (World.block_lt_of_cell? w _ hw260_1)).trans hw260_1), ((HB.out.cell (World.block_lt_of_cell? w _ hw260_2)).trans hw260_2)⟩ (fun hHeld => ?_); clear hK K
         refine norm_ (a' := ?_) ?_ ?_; rotate_left
         ·show Act.put _ (some 45) _ = _
          simp only [Act.put, List.setIfInBounds_toArray, List.set_cons_zero, List.set_cons_succ, i64_w, i32_w]; rfl
         refine pure_ (i := 10) (N := some 46) (v := ?_) (a' := ?_) #[true, true, true, true, true, true, true, true, true, true, true, false] rfl rfl (any_of HT_.out (by kernel_rfl)) (fun _ _ _ h => h) (Or.inl ⟨by rfl, ?_⟩) ?_ ?_; rotate_left
         ·intro w'; go_simp; with_reducible rfl
         rotate_left
         ·simp only [Act.put, List.setIfInBounds_toArray, List.set_cons_zero, List.set_cons_succ, i64_w, i32_w]; rfl
         refine pure_ (i := 11) (N := some 6) (v := ?_) (a' := ?_) #[true, true, true, true, true, true, true, true, true, true, true, true] rfl rfl (any_of HT_.out (by kernel_rfl)) (fun _ _ _ h => h) (Or.inl ⟨by rfl, ?_⟩) ?_ ?_; rotate_left
         ·intro w'; go_simp; with_reducible rfl
         rotate_left
         ·simp only [Act.put, List.setIfInBounds_toArray, List.set_cons_zero, List.set_cons_succ, i64_w, i32_w]; rfl
         refine done_ (done_of HT_.out (by kernel_rfl)) ?_
         try go_wp2
         go_roundg k2
         case measure => have := HJ4.out; have := HK2.out; omega
         case rel => exact ⟨((x6_2 ++ (⟨#[32]⟩ : ByteArray)) ++ t261), (wrap64 (x7_2 + 1)), (rfl), (rfl), H', ⟨by have := HJ4.out; have := HK2.out; omega⟩, ⟨gK BK256⟩, ⟨gK BK257⟩, ⟨gB HB⟩⟩
        ·rw [if_neg c19] at H
         have c19b0 : decide (0 < x7_2) = false := decide_eq_false c19
         clear c19
         obtain ⟨c28, H⟩ := iS H
         have c28b0 := decide_eq_true c28
         clear c28
         replace H := Option.bind_eq_some_iff.mp H
         obtain ⟨t263, A290, H⟩ := H
         replace H : (if x6_2.size + t263.size ≤ 9223372036854775807 then (triglyphref16_Literal.l0 k2 (x6_2 ++ t263) (wrap64 (x7_2 + 1)) l0_0 l0_1 l1_0 l1_1 l1_2 a1_3 a1_4 a1_5 a1_6 a1_7 a1_8 a1_9 a1_10 a1_11 a1_12 a1_13) else (none)) = some (r1, r2) := H
         have A29 := gA A290
         clear A290
         obtain ⟨c30, H⟩ := iS H
         have c30b0 := eq_true c30
         have c30b1 := decide_eq_true c30
         try have c30b2 : (9223372036854775807 < x6_2.size + t263.size) = False := eq_false (Nat.not_lt.2 c30)
         have H' := gA H
         clear H
         have hnb31 := NB256_257.out
         have hnc31 := NB257_256.out
         obtain ⟨hcz32_0, hcz32_1, hfz32_0, hfz32_1⟩ := gz2 BK256
         try go_wp2
         replace BK256 := gA (blk_drew BK256.out); replace BK257 := gA (blk_drew BK257.out); replace HB := gA (below_drew1 HB.out)
         have p262 : 0 ≤ (x7_2 : Int) := of_decide_eq_true (by assumption)
         have q262 : x7_2 < (l0_1.length : Int) := of_decide_eq_true (by assumption)
         obtain ⟨ad262, A262_2, c262_2, e262, hx262_0, hx262_1, hx262_2, hl262_2, hi262_2⟩ := at_T60 HR0_1.out x7_2 p262 q262
         have hw262_2 := hx262_2
         have hw262_1 := hx262_1
         have hw262_0 := hx262_0
         cases e262
         replace hx262_0 := (HB.out.cell (World.block_lt_of_cell? w _ hx262_0)).trans hx262_0
         replace hx262_1 := (HB.out.cell (World.block_lt_of_cell? w _ hx262_1)).trans hx262_1
         replace hx262_2 := (HB.out.cell (World.block_lt_of_cell? w _ hx262_2)).trans hx262_2
         have HR262_2 := gA hi262_2
         have HC262_2 := gA hl262_2
         clear hi262_2 hl262_2
         replace p262 := eq_true p262
         replace q262 := eq_true q262
         refine start_ (n := 12) (S := fun w' => w'.cell? ⟨gb256, 0, none⟩ = some (.slice A0_0 l0_0.length c0_0) ∧ w'.cell? ⟨gb256, 1, none⟩ = some (.slice (some ad262) l0_1.length c0_1) ∧ w'.cell? ⟨gb257, 0, none⟩ = some (.slice A1_0 l1_0.length c1_0) ∧ w'.cell? ⟨gb257, 1, none⟩ = some (.slice A1_1 l1_1.length c1_1) ∧ w'.cell? ⟨gb257, 2, none⟩ = some (.slice A1_2 l1_2.length c1_2) ∧ w'.cell? ⟨gb257, 3, none⟩ = some (.string a1_3) ∧ w'.cell? ⟨gb257, 4, none⟩ = some (.string a1_4) ∧ w'.cell? ⟨gb257, 5, none⟩ = some (.string a1_5) ∧ w'.cell? ⟨gb257, 6, none⟩ = some (.string a1_6) ∧ w'.cell? ⟨gb257, 7, none⟩ = some (.string a1_7) ∧ w'.cell? ⟨gb257, 8, none⟩ = some (.string a1_8) ∧ w'.cell? ⟨gb257, 9, none⟩ = some (.string a1_9) ∧ w'.cell? ⟨gb257, 10, none⟩ = some (.string a1_10) ∧ w'.cell? ⟨gb257, 11, none⟩ = some (.bool a1_11) ∧ w'.cell? ⟨gb257, 12, none⟩ = some (.bool a1_12) ∧ w'.cell? ⟨gb257, 13, none⟩ = some (.bool a1_13) ∧ w'.cell? (ad262.add ((x7_2).toNat * 3)) = some (.int .i64 ((rd_T60 l0_1 x7_2).f0)) ∧ w'.cell? ⟨(ad262.add ((x7_2).toNat * 3)).block, (ad262.add ((x7_2).toNat * 3)).off + 1, none⟩ = some (.int .i64 ((rd_T60 l0_1 x7_2).f1)) ∧ w'.cell? ⟨(ad262.add ((x7_2).toNat * 3)).block, (ad262.add ((x7_2).toNat * 3)).off + 2, none⟩ = some (.slice A262_2 ((rd_T60 l0_1 x7_2).f2).length c262_2)) (ds := []) #[false, false, false, false, false, false, false, false, false, false, false, false] (by kernel_rfl) rfl rfl ⟨(blk_cell BK256.out 0).trans rfl, (blk_cell BK256.out 1).trans rfl, (blk_cell BK257.out 0).trans rfl, (blk_cell BK257.out 1).trans rfl, (blk_cell BK257.out 2).trans rfl, (blk_cell BK257.out 3).trans rfl, (blk_cell BK257.out 4).trans rfl, (blk_cell BK257.out 5).trans rfl, (blk_cell BK257.out 6).trans rfl, (blk_cell BK257.out 7).trans rfl, (blk_cell BK257.out 8).trans rfl, (blk_cell BK257.out 9).trans rfl, (blk_cell BK257.out 10).trans rfl, (blk_cell BK257.out 11).trans rfl, (blk_cell BK257.out 12).trans rfl, (blk_cell BK257.out 13).trans rfl, ((HB.out.cell (World.block_lt_of_cell? w _ hw262_0)).trans hw262_0), ((HB.out.cell (World.block_lt_of_cell? w _ hw262_1)).trans hw262_1), ((HB.out.cell (World.block_lt_of_cell? w _ hw262_2)).trans hw262_2)⟩ (fun hHeld => ?_); refine with_tabW triglyphref16_Literal.tab10 triglyphref16_Literal.bits10 (fun HT_ HW_ => ?_)
         generalize wr.drew = w33 at BK256 BK257 HB HR262_2 hx262_0 hx262_1 hx262_2 hHeld ⊢
         refine pure_ (i := 0) (N := some 36) (v := ?_) (a' := ?_) #[true, false, false, false, false, false, false, false, false, false, false, false] rfl rfl (any_of HT_.out (by kernel_rfl)) (fun _ _ _ h => h) (Or.inl ⟨by rfl, ?_⟩) ?_ ?_; rotate_left
         ·intro w'; go_simp; with_reducible rfl
         rotate_left
         ·simp only [Act.put, List.setIfInBounds_toArray, List.set_cons_zero, List.set_cons_succ, i64_w, i32_w]; rfl
         refine pure_ (i := 1) (N := some 37) (v := ?_) (a' := ?_) #[true, true, false, false, false, false, false, false, false, false, false, false] rfl rfl (any_of HT_.out (by kernel_rfl)) (fun _ _ _ h => h) (Or.inl ⟨by rfl, ?_⟩) ?_ ?_; rotate_left
         ·intro w'; go_simp; with_reducible rfl
         rotate_left
         ·simp only [Act.put, List.setIfInBounds_toArray, List.set_cons_zero, List.set_cons_succ, i64_w, i32_w]; rfl
         refine pure_ (i := 3) (N := some 39) (v := ?_) (a' := ?_) #[true, true, false, true, false, false, false, false, false, false, false, false] rfl rfl (any_of HT_.out (by kernel_rfl)) (fun _ _ _ h => h) (Or.inl ⟨by rfl, ?_⟩) ?_ ?_; rotate_left
         ·intro w'; go_simp; with_reducible rfl
         rotate_left
         ·simp only [Act.put, List.setIfInBounds_toArray, List.set_cons_zero, List.set_cons_succ, i64_w, i32_w]; rfl
         refine pure_ (i := 7) (N := some 43) (v := ?_) (a' := ?_) #[true, true, false, true, false, false, false, true, false, false, false, false] rfl rfl (any_of HT_.out (by kernel_rfl)) (fun _ _ _ h => h) (Or.inl ⟨by rfl, ?_⟩) ?_ ?_; rotate_left
         ·intro w'; go_simp; with_reducible rfl
         rotate_left
         ·simp only [Act.put, List.setIfInBounds_toArray, List.set_cons_zero, List.set_cons_succ, i64_w, i32_w]; rfl
         refine take_ (i := 2) (N := some 38) (v := ?_) (a' := ?_) #[true, true, true, true, false, false, false, true, false, false, false, false] rfl rfl (take_ofW HT_.out HW_.out (by kernel_rfl)) (fun _ _ _ h => h) (Or.inl ⟨by rfl, ?_⟩) hHeld ?_ ?_; rotate_left
         ·rintro w' ⟨s0, s1, s2, s3, s4, s5, s6, s7, s8, s9, s10, s11, s12, s13, s14, s15, s16, s17, s18⟩; go_simp; with_reducible rfl
         rotate_left
         ·simp only [Act.put, List.setIfInBounds_toArray, List.set_cons_zero, List.set_cons_succ, i64_w, i32_w]; rfl
         refine pure_ (i := 4) (N := some 40) (v := ?_) (a' := ?_) #[true, true, true, true, true, false, false, true, false, false, false, false] rfl rfl (any_of HT_.out (by kernel_rfl)) (fun _ _ _ h => h) (Or.inl ⟨by rfl, ?_⟩) ?_ ?_; rotate_left
         ·intro w'; go_simp; with_reducible rfl
         rotate_left
         ·simp only [Act.put, List.setIfInBounds_toArray, List.set_cons_zero, List.set_cons_succ, i64_w, i32_w]; rfl
         refine pure_ (i := 5) (N := some 41) (v := ?_) (a' := ?_) #[true, true, true, true, true, true, false, true, false, false, false, false] rfl rfl (any_of HT_.out (by kernel_rfl)) (fun _ _ _ h => h) (Or.inl ⟨by rfl, ?_⟩) ?_ ?_; rotate_left
         ·intro w'; go_simp; with_reducible rfl
         rotate_left
         ·simp only [Act.put, List.setIfInBounds_toArray, List.set_cons_zero, List.set_cons_succ, i64_w, i32_w]; rfl
         refine take_ (i := 6) (N := some 42) (v := ?_) (a' := ?_) #[true, true, true, true, true, true, true, true, false, false, false, false] rfl rfl (take_ofW HT_.out HW_.out (by kernel_rfl)) (fun _ _ _ h => h) (Or.inl ⟨by rfl, ?_⟩) hHeld ?_ ?_; rotate_left
         ·rintro w' ⟨s0, s1, s2, s3, s4, s5, s6, s7, s8, s9, s10, s11, s12, s13, s14, s15, s16, s17, s18⟩; go_simp; with_reducible rfl
         rotate_left
         ·simp only [Act.put, List.setIfInBounds_toArray, List.set_cons_zero, List.set_cons_succ, i64_w, i32_w]; rfl
         refine take_ (i := 8) (N := some 44) (v := ?_) (a' := ?_) #[true, true, true, true, true, true, true, true, true, false, false, false] rfl rfl (take_ofW HT_.out HW_.out (by kernel_rfl)) (fun _ _ _ h => h) (Or.inl ⟨by rfl, ?_⟩) hHeld ?_ ?_; rotate_left
         ·rintro w' ⟨s0, s1, s2, s3, s4, s5, s6, s7, s8, s9, s10, s11, s12, s13, s14, s15, s16, s17, s18⟩; go_simp; with_reducible rfl
         rotate_left
         ·simp only [Act.put, List.setIfInBounds_toArray, List.set_cons_zero, List.set_cons_succ, i64_w, i32_w]; rfl
         refine one_ (i := 9) (N := some 45) #[true, true, true, true, true, true, true, true, true, true, false, false] rfl rfl (one_of HT_.out (by kernel_rfl)) (by decide) (fun K hK => ?_)
         refine goes_ Try.func6 (by kernel_rfl) rfl #[.int .i64 ((rd_T60 l0_1 x7_2).f1), .string a1_9] (by rfl) rfl rfl (by (try simp only [List.map_toArray, List.map_cons, List.map_nil]); first | done | rfl | (simp only [List.length_drop, List.length_take]; rfl)) ?_
         with_reducible refine (triglyphref16_Number.calls k2 ((rd_T60 l0_1 x7_2).f1) a1_9 t263 _ A29.out).mono ?_
         rintro e w34 ⟨rfl, hb⟩
         refine ⟨_, rfl, ?_⟩
         replace BK256 := gA (blk_below (gK BK256) hb); replace BK257 := gA (blk_below (gK BK257) hb); replace HB := gA (below_step (gB HB) hb); (try clear hb)
         refine hK.out _ _ ⟨(blk_cell BK256.out 0).trans rfl, (blk_cell BK256.out 1).trans rfl, (blk_cell BK257.out 0).trans rfl, (blk_cell BK257.out 1).trans rfl, (blk_cell BK257.out 2).trans rfl, (blk_cell BK257.out 3).trans rfl, (blk_cell BK257.out 4).trans rfl, (blk_cell BK257.out 5).trans rfl, (blk_cell BK257.out 6).trans rfl, (blk_cell BK257.out 7).trans rfl, (blk_cell BK257.out 8).trans rfl, (blk_cell BK257.out 9).trans rfl, (blk_cell BK257.out 10).trans rfl, (blk_cell BK257.out 11).trans rfl, (blk_cell BK257.out 12).trans rfl, (blk_cell BK257.out 13).trans rfl, ((HB.out.cell (World.block_lt_of_cell? w _ hw262_0)).trans hw262_0), ((HB.out.cell (World.block_lt_of_cell? w _ hw262_1)).trans hw262_1), ((HB.out.cell (World.block_lt_of_cell? w _ hw262_2)).trans hw262_2)⟩ (fun hHeld => ?_); clear hK K
         refine norm_ (a' := ?_) ?_ ?_; rotate_left
         ·show Act.put _ (some 45) _ = _
          simp only [Act.put, List.setIfInBounds_toArray, List.set_cons_zero, List.set_cons_succ, i64_w, i32_w]; rfl
         refine pure_ (i := 10) (N := some 46) (v := ?_) (a' := ?_) #[true, true, true, true, true, true, true, true, true, true, true, false] rfl rfl (any_of HT_.out (by kernel_rfl)) (fun _ _ _ h => h) (Or.inl ⟨by rfl, ?_⟩) ?_ ?_; rotate_left
         ·intro w'; go_simp; with_reducible rfl
         rotate_left
         ·simp only [Act.put, List.setIfInBounds_toArray, List.set_cons_zero, List.set_cons_succ, i64_w, i32_w]; rfl
         refine pure_ (i := 11) (N := some 6) (v := ?_) (a' := ?_) #[true, true, true, true, true, true, true, true, true, true, true, true] rfl rfl (any_of HT_.out (by kernel_rfl)) (fun _ _ _ h => h) (Or.inl ⟨by rfl, ?_⟩) ?_ ?_; rotate_left
         ·intro w'; go_simp; with_reducible rfl
         rotate_left
         ·simp only [Act.put, List.setIfInBounds_toArray, List.set_cons_zero, List.set_cons_succ, i64_w, i32_w]; rfl
         refine done_ (done_of HT_.out (by kernel_rfl)) ?_
         try go_wp2
         go_roundg k2
         case measure => have := HJ4.out; have := HK2.out; omega
         case rel => exact ⟨(x6_2 ++ t263), (wrap64 (x7_2 + 1)), (rfl), (rfl), H', ⟨by have := HJ4.out; have := HK2.out; omega⟩, ⟨gK BK256⟩, ⟨gK BK257⟩, ⟨gB HB⟩⟩
       ·rw [if_neg c18] at H
        have c18b0 := decide_eq_false c18
        clear c18
        simp only [Option.some.injEq, Prod.mk.injEq] at H
        obtain ⟨rfl, rfl⟩ := H
        have hnb35 := NB256_257.out
        have hnc35 := NB257_256.out
        obtain ⟨hcz36_0, hcz36_1, hfz36_0, hfz36_1⟩ := gz2 BK256
        go_wp2
        go_ret2
        exact ⟨rfl, by repeat first | exact gB HB | refine below_set ?_ GE256.out | refine below_set ?_ GE257.out⟩
    ·replace c17 := Bool.eq_false_iff.mpr c17
     subst c17
     have H1 : (triglyphref16_Literal.l1 kj4 (⟨#[]⟩ : ByteArray) 0 l0_0 l0_1 l1_0 l1_1 l1_2 a1_3 a1_4 a1_5 a1_6 a1_7 a1_8 a1_9 a1_10 a1_11 a1_12 a1_13) = some (r1, r2) := by rw [if_neg (show ¬ (false = true) by decide)] at H; exact H
     clear H; have H := H1; clear H1
     have H' := gA H
     clear H
     go_wp2
     go_loopg [6, 8] kj4 (fun kq v6 v8 w' => ∃ (x6_2 : ByteArray) (x8_2 : Int), v6 = .string x6_2 ∧ v8 = .int .i64 x8_2 ∧ Aside0 (triglyphref16_Literal.l1 kq x6_2 x8_2 l0_0 l0_1 l1_0 l1_1 l1_2 a1_3 a1_4 a1_5 a1_6 a1_7 a1_8 a1_9 a1_10 a1_11 a1_12 a1_13 = some (r1, r2)) ∧ Aside0 (kq ≤ kj4) ∧ Aside0 (w'.heap[gb256]? = some (.cells #[(.slice A0_0 l0_0.length c0_0), (.slice A0_1 l0_1.length c0_1)] 28 (0, 0))) ∧ Aside0 (w'.heap[gb257]? = some (.cells #[(.slice A1_0 l1_0.length c1_0), (.slice A1_1 l1_1.length c1_1), (.slice A1_2 l1_2.length c1_2), .string a1_3, .string a1_4, .string a1_5, .string a1_6, .string a1_7, .string a1_8, .string a1_9, .string a1_10, .bool a1_11, .bool a1_12, .bool a1_13] 32 (0, 0))) ∧ Aside0 (Below w.heap.size w w'))
     case atStart => exact ⟨((⟨#[]⟩ : ByteArray)), (0), (rfl), (rfl), H', ⟨Nat.le_refl _⟩, ⟨gK BK256⟩, ⟨gK BK257⟩, ⟨by repeat first | exact gB HB | refine below_set ?_ GE256.out | refine below_set ?_ GE257.out⟩⟩
     case round =>
      clear H'
      try clear c1
      try clear c2
      try clear p2
      try clear q2
      try clear hx2
      try clear qi2
      try clear c3
      try clear c4
      try clear c6
      try clear p6
      try clear c8
      try clear c11
      try clear c11b0
      try clear c11b1
      try clear c12
      try clear c12b0
      try clear c12b1
      try clear c13
      try clear c15
      try clear c17
      try clear c18
      try clear c18b0
      try clear c19
      try clear c19b0
      try clear c20
      try clear c20b0
      try clear c20b1
      try clear c20b2
      try clear c21
      try clear c21b0
      try clear c23
      try clear c23b0
      try clear c23b1
      try clear c23b2
      try clear c24
      try clear c25
      try clear p25
      try clear q25
      try clear hx25
      try clear qi25
      try clear c26
      try clear p26
      try clear q26
      try clear hx26
      try clear c28
      try clear c28b0
      try clear c30
      try clear c30b0
      try clear c30b1
      try clear c30b2
      try clear c31
      try clear c35
      try clear hcz14_0
      try clear hcz14_1
      try clear hcz16_0
      try clear hcz16_1
      try clear hcz25_0
      try clear hcz25_1
      try clear hcz32_0
      try clear hcz32_1
      try clear hcz36_0
      try clear hcz36_1
      try clear hcz9_0
      try clear hcz9_1
      try clear hfz14_0
      try clear hfz14_1
      try clear hfz16_0
      try clear hfz16_1
      try clear hfz25_0
      try clear hfz25_1
      try clear hfz32_0
      try clear hfz32_1
      try clear hfz36_0
      try clear hfz36_1
      try clear hfz9_0
      try clear hfz9_1
      try clear hx259_0
      try clear hx259_1
      try clear hx259_2
      try clear hx260_0
      try clear hx260_1
      try clear hx260_2
      try clear hx262_0
      try clear hx262_1
      try clear hx262_2
      try clear p2
      try clear p259
      try clear p260
      try clear p262
      try clear q2
      try clear q259
      try clear q260
      try clear q262
      obtain ⟨x6_2, x8_2, rfl, rfl, HA, HK2, BK256, BK257, HB⟩ := hrel
      cases gk with
      | zero => exact absurd HA.out (by simp [triglyphref16_Literal.l1])
      | succ k2 =>
       have H := HA.out; clear HA
       simp only [triglyphref16_Literal.l1] at H
       by_cases c37 : x8_2 < (l0_1.length : Int)
       ·rw [if_pos c37] at H
        have c37b0 := decide_eq_true c37
        clear c37
        obtain ⟨c38, H⟩ := iS H
        have c38b0 := decide_eq_true c38
        clear c38
        have HC39 := gA H
        clear H
        have hnb40 := NB256_257.out
        have hnc40 := NB257_256.out
        obtain ⟨hcz41_0, hcz41_1, hfz41_0, hfz41_1⟩ := gz2 BK256
        have p264 : 0 ≤ (x8_2 : Int) := of_decide_eq_true (by assumption)
        have q264 : x8_2 < (l0_1.length : Int) := of_decide_eq_true (by assumption)
        obtain ⟨ad264, A264_2, c264_2, e264, hx264_0, hx264_1, hx264_2, hl264_2, hi264_2⟩ := at_T60 HR0_1.out x8_2 p264 q264
        cases e264
        replace hx264_0 := (HB.out.cell (World.block_lt_of_cell? w _ hx264_0)).trans hx264_0
        replace hx264_1 := (HB.out.cell (World.block_lt_of_cell? w _ hx264_1)).trans hx264_1
        replace hx264_2 := (HB.out.cell (World.block_lt_of_cell? w _ hx264_2)).trans hx264_2
        have HR264_2 := gA hi264_2
        have HC264_2 := gA hl264_2
        clear hi264_2 hl264_2
        replace p264 := eq_true p264
        replace q264 := eq_true q264
        go_upto_region 16 with (fail)
        go_cut [67] (fun v67 wc => ∃ (kq : Nat) (x67_38 : Bool), v67 = .bool x67_38 ∧ Aside0 (triglyphref16_Literal.j3 kq x6_2 x8_2 ((rd_T60 l0_1 x8_2).f1) x67_38 l0_0 l0_1 l1_0 l1_1 l1_2 a1_3 a1_4 a1_5 a1_6 a1_7 a1_8 a1_9 a1_10 a1_11 a1_12 a1_13 = some (r1, r2)) ∧ Aside0 (kq ≤ k2) ∧ Aside0 (wc.heap[gb256]? = some (.cells #[(.slice A0_0 l0_0.length c0_0), (.slice (some ad264) l0_1.length c0_1)] 28 (0, 0))) ∧ Aside0 (wc.heap[gb257]? = some (.cells #[(.slice A1_0 l1_0.length c1_0), (.slice A1_1 l1_1.length c1_1), (.slice A1_2 l1_2.length c1_2), .string a1_3, .string a1_4, .string a1_5, .string a1_6, .string a1_7, .string a1_8, .string a1_9, .string a1_10, .bool a1_11, .bool a1_12, .bool a1_13] 32 (0, 0))) ∧ Aside0 (Below w.heap.size w wc))
        case first =>
         have H := HC39.out; clear HC39
         by_cases c42 : a1_10.toList = ([39] : List UInt8)
         ·rw [if_pos c42] at H
          have c42b0 : (a1_10.toList == ([39] : List UInt8)) = true := beq_iff_eq.mpr c42
          have c42b1 : (a1_10.toList != ([39] : List UInt8)) = false := bne_eq_false_iff_eq.mpr c42
          clear c42
          (first | rw [c42b0] | rw [c42b1] | (simp only [i64_w, i32_w]; rw [c42b0]) | skip)
          have H' := gA H
          clear H
          have hnb43 := NB257_256.out
          have hnc43 := NB256_257.out
          have hcz44_0 := gz BK257 0 rfl
          have hcz44_1 := gz BK257 1 rfl
          have hcz44_2 := gz BK257 2 rfl
          have hcz44_3 := gz BK257 3 rfl
          have hcz44_4 := gz BK257 4 rfl
          have hcz44_5 := gz BK257 5 rfl
          have hcz44_6 := gz BK257 6 rfl
          have hcz44_7 := gz BK257 7 rfl
          have hcz44_8 := gz BK257 8 rfl
          have hcz44_9 := gz BK257 9 rfl
          have hcz44_10 := gz BK257 10 rfl
          have hcz44_11 := gz BK257 11 rfl
          have hcz44_12 := gz BK257 12 rfl
          have hcz44_13 := gz BK257 13 rfl
          have hfz44_0 := blk_frozen BK257.out 0
          have hfz44_1 := blk_frozen BK257.out 1
          have hfz44_2 := blk_frozen BK257.out 2
          have hfz44_3 := blk_frozen BK257.out 3
          have hfz44_4 := blk_frozen BK257.out 4
          have hfz44_5 := blk_frozen BK257.out 5
          have hfz44_6 := blk_frozen BK257.out 6
          have hfz44_7 := blk_frozen BK257.out 7
          have hfz44_8 := blk_frozen BK257.out 8
          have hfz44_9 := blk_frozen BK257.out 9
          have hfz44_10 := blk_frozen BK257.out 10
          have hfz44_11 := blk_frozen BK257.out 11
          have hfz44_12 := blk_frozen BK257.out 12
          have hfz44_13 := blk_frozen BK257.out 13
          go_wp2
          all_goals (go_meet; (case rel => exact ⟨_, ((((rd_T60 l0_1 x8_2).f1) == 39)), (by first | rfl | (simp; done) | (simp [*]; done) | (exfalso; simp_all; done) | (exfalso; simp_all; omega)), H', ⟨by have := HJ4.out; have := HK2.out; first | omega | exact Nat.le_refl _⟩, ⟨gK BK256⟩, ⟨gK BK257⟩, ⟨gB HB⟩⟩))
         ·rw [if_neg c42] at H
          have c42b0 : (a1_10.toList == ([39] : List UInt8)) = false := beq_eq_false_iff_ne.mpr c42
          have c42b1 : (a1_10.toList != ([39] : List UInt8)) = true := bne_iff_ne.mpr c42
          (first | rw [c42b0] | rw [c42b1] | (simp only [i64_w, i32_w]; rw [c42b0]) | skip)
          have H' := gA H
          clear H
          have hnb45 := NB257_256.out
          have hnc45 := NB256_257.out
          have hcz46_0 := gz BK257 0 rfl
          have hcz46_1 := gz BK257 1 rfl
          have hcz46_2 := gz BK257 2 rfl
          have hcz46_3 := gz BK257 3 rfl
          have hcz46_4 := gz BK257 4 rfl
          have hcz46_5 := gz BK257 5 rfl
          have hcz46_6 := gz BK257 6 rfl
          have hcz46_7 := gz BK257 7 rfl
          have hcz46_8 := gz BK257 8 rfl
          have hcz46_9 := gz BK257 9 rfl
          have hcz46_10 := gz BK257 10 rfl
          have hcz46_11 := gz BK257 11 rfl
          have hcz46_12 := gz BK257 12 rfl
          have hcz46_13 := gz BK257 13 rfl
          have hfz46_0 := blk_frozen BK257.out 0
          have hfz46_1 := blk_frozen BK257.out 1
          have hfz46_2 := blk_frozen BK257.out 2
          have hfz46_3 := blk_frozen BK257.out 3
          have hfz46_4 := blk_frozen BK257.out 4
          have hfz46_5 := blk_frozen BK257.out 5
          have hfz46_6 := blk_frozen BK257.out 6
          have hfz46_7 := blk_frozen BK257.out 7
          have hfz46_8 := blk_frozen BK257.out 8
          have hfz46_9 := blk_frozen BK257.out 9
          have hfz46_10 := blk_frozen BK257.out 10
          have hfz46_11 := blk_frozen BK257.out 11
          have hfz46_12 := blk_frozen BK257.out 12
          have hfz46_13 := blk_frozen BK257.out 13
          go_wp2
          all_goals (go_meet; (case rel => exact ⟨_, (false), (by first | rfl | (simp; done) | (simp [*]; done) | (exfalso; simp_all; done) | (exfalso; simp_all; omega)), H', ⟨by have := HJ4.out; have := HK2.out; first | omega | exact Nat.le_refl _⟩, ⟨gK BK256⟩, ⟨gK BK257⟩, ⟨gB HB⟩⟩))
        case rest =>
         clear HC39
         try clear c1
         try clear c2
         try clear p2
         try clear q2
         try clear hx2
         try clear qi2
         try clear c3
         try clear c4
         try clear c6
         try clear p6
         try clear c8
         try clear c11
         try clear c11b0
         try clear c11b1
         try clear c12
         try clear c12b0
         try clear c12b1
         try clear c13
         try clear c15
         try clear c17
         try clear c18
         try clear c18b0
         try clear c19
         try clear c19b0
         try clear c20
         try clear c20b0
         try clear c20b1
         try clear c20b2
         try clear c21
         try clear c21b0
         try clear c23
         try clear c23b0
         try clear c23b1
         try clear c23b2
         try clear c24
         try clear c25
         try clear p25
         try clear q25
         try clear hx25
         try clear qi25
         try clear c26
         try clear p26
         try clear q26
         try clear hx26
         try clear c28
         try clear c28b0
         try clear c30
         try clear c30b0
         try clear c30b1
         try clear c30b2
         try clear c31
         try clear c35
         try clear c37
         try clear c37b0
         try clear c38
         try clear c38b0
         try clear c40
         try clear c42
         try clear c42b0
         try clear c42b1
         try clear c43
         try clear c45
         try clear hcz14_0
         try clear hcz14_1
         try clear hcz16_0
         try clear hcz16_1
         try clear hcz25_0
         try clear hcz25_1
         try clear hcz32_0
         try clear hcz32_1
         try clear hcz36_0
         try clear hcz36_1
         try clear hcz41_0
         try clear hcz41_1
         try clear hcz44_0
         try clear hcz44_1
         try clear hcz44_10
         try clear hcz44_11
         try clear hcz44_12
         try clear hcz44_13
         try clear hcz44_2
         try clear hcz44_3
         try clear hcz44_4
         try clear hcz44_5
         try clear hcz44_6
         try clear hcz44_7
         try clear hcz44_8
         try clear hcz44_9
         try clear hcz46_0
         try clear hcz46_1
         try clear hcz46_10
         try clear hcz46_11
         try clear hcz46_12
         try clear hcz46_13
         try clear hcz46_2
         try clear hcz46_3
         try clear hcz46_4
         try clear hcz46_5
         try clear hcz46_6
         try clear hcz46_7
         try clear hcz46_8
         try clear hcz46_9
         try clear hcz9_0
         try clear hcz9_1
         try clear hfz14_0
         try clear hfz14_1
         try clear hfz16_0
         try clear hfz16_1
         try clear hfz25_0
         try clear hfz25_1
         try clear hfz32_0
         try clear hfz32_1
         try clear hfz36_0
         try clear hfz36_1
         try clear hfz41_0
         try clear hfz41_1
         try clear hfz44_0
         try clear hfz44_1
         try clear hfz44_10
         try clear hfz44_11
         try clear hfz44_12
         try clear hfz44_13
         try clear hfz44_2
         try clear hfz44_3
         try clear hfz44_4
         try clear hfz44_5
         try clear hfz44_6
         try clear hfz44_7
         try clear hfz44_8
         try clear hfz44_9
         try clear hfz46_0
         try clear hfz46_1
         try clear hfz46_10
         try clear hfz46_11
         try clear hfz46_12
         try clear hfz46_13
         try clear hfz46_2
         try clear hfz46_3
         try clear hfz46_4
         try clear hfz46_5
         try clear hfz46_6
         try clear hfz46_7
         try clear hfz46_8
         try clear hfz46_9
         try clear hfz9_0
         try clear hfz9_1
         try clear hx259_0
         try clear hx259_1
         try clear hx259_2
         try clear hx260_0
         try clear hx260_1
         try clear hx260_2
         try clear hx262_0
         try clear hx262_1
         try clear hx262_2
         try clear hx264_0
         try clear hx264_1
         try clear hx264_2
         try clear p2
         try clear p25
         try clear p259
         try clear p26
         try clear p260
         try clear p262
         try clear p264
         try clear p6
         try clear q2
         try clear q25
         try clear q259
         try clear q26
         try clear q260
         try clear q262
         try clear q264
         obtain ⟨kq, x67_38, rfl, HA, HJ38, BK256, BK257, HB⟩ := hcut
         cases kq with
         | zero => exact absurd HA.out (by simp [triglyphref16_Literal.j3])
         | succ kj38 =>
          have H := HA.out; clear HA
          simp only [triglyphref16_Literal.j3] at H
          by_cases c47 : x67_38 = true
          ·subst c47
           have H1 : (if x6_2.size + 1 ≤ 9223372036854775807 then (if a1_10.toList = ([39] : List UInt8) then ((triglyphref02_Put.f kj38 ((rd_T60 l0_1 x8_2).f1)).bind fun t265 => (if (x6_2 ++ (⟨#[39]⟩ : ByteArray)).size + (strOfNums t265).size ≤ 9223372036854775807 then (triglyphref16_Literal.l1 kj38 ((x6_2 ++ (⟨#[39]⟩ : ByteArray)) ++ (strOfNums t265)) (wrap64 (x8_2 + 1)) l0_0 l0_1 l1_0 l1_1 l1_2 a1_3 a1_4 a1_5 a1_6 a1_7 a1_8 a1_9 a1_10 a1_11 a1_12 a1_13) else (none))) else (if ((rd_T60 l0_1 x8_2).f1) = 34 then (if (x6_2 ++ (⟨#[39]⟩ : ByteArray)).size + 1 ≤ 9223372036854775807 then ((triglyphref02_Put.f kj38 ((rd_T60 l0_1 x8_2).f1)).bind fun t268 => (if ((x6_2 ++ (⟨#[39]⟩ : ByteArray)) ++ (⟨#[92]⟩ : ByteArray)).size + (strOfNums t268).size ≤ 9223372036854775807 then (triglyphref16_Literal.l1 kj38 (((x6_2 ++ (⟨#[39]⟩ : ByteArray)) ++ (⟨#[92]⟩ : ByteArray)) ++ (strOfNums t268)) (wrap64 (x8_2 + 1)) l0_0 l0_1 l1_0 l1_1 l1_2 a1_3 a1_4 a1_5 a1_6 a1_7 a1_8 a1_9 a1_10 a1_11 a1_12 a1_13) else (none))) else (none)) else (if ((rd_T60 l0_1 x8_2).f1) = 92 then (if (x6_2 ++ (⟨#[39]⟩ : ByteArray)).size + 1 ≤ 9223372036854775807 then ((triglyphref02_Put.f kj38 ((rd_T60 l0_1 x8_2).f1)).bind fun t271 => (if ((x6_2 ++ (⟨#[39]⟩ : ByteArray)) ++ (⟨#[92]⟩ : ByteArray)).size + (strOfNums t271).size ≤ 9223372036854775807 then (triglyphref16_Literal.l1 kj38 (((x6_2 ++ (⟨#[39]⟩ : ByteArray)) ++ (⟨#[92]⟩ : ByteArray)) ++ (strOfNums t271)) (wrap64 (x8_2 + 1)) l0_0 l0_1 l1_0 l1_1 l1_2 a1_3 a1_4 a1_5 a1_6 a1_7 a1_8 a1_9 a1_10 a1_11 a1_12 a1_13) else (none))) else (none)) else ((triglyphref02_Put.f kj38 ((rd_T60 l0_1 x8_2).f1)).bind fun t274 => (if (x6_2 ++ (⟨#[39]⟩ : ByteArray)).size + (strOfNums t274).size ≤ 9223372036854775807 then (triglyphref16_Literal.l1 kj38 ((x6_2 ++ (⟨#[39]⟩ : ByteArray)) ++ (strOfNums t274)) (wrap64 (x8_2 + 1)) l0_0 l0_1 l1_0 l1_1 l1_2 a1_3 a1_4 a1_5 a1_6 a1_7 a1_8 a1_9 a1_10 a1_11 a1_12 a1_13) else (none)))))) else (none)) = some (r1, r2) := by rw [if_pos rfl] at H; exact H
           clear H; have H := H1; clear H1
           obtain ⟨c48, H⟩ := iS H
           have c48b0 := eq_true c48
           have c48b1 := decide_eq_true c48
           try have c48b2 : (9223372036854775807 < x6_2.size + 1) = False := eq_false (Nat.not_lt.2 c48)
           by_cases c49 : a1_10.toList = ([39] : List UInt8)
           ·rw [if_pos c49] at H
            have c49b0 : (a1_10.toList == ([39] : List UInt8)) = true := beq_iff_eq.mpr c49
            have c49b1 : (a1_10.toList != ([39] : List UInt8)) = false := bne_eq_false_iff_eq.mpr c49
            clear c49
            replace H := Option.bind_eq_some_iff.mp H
            obtain ⟨t265, A500, H⟩ := H
            replace H : (if (x6_2 ++ (⟨#[39]⟩ : ByteArray)).size + (strOfNums t265).size ≤ 9223372036854775807 then (triglyphref16_Literal.l1 kj38 ((x6_2 ++ (⟨#[39]⟩ : ByteArray)) ++ (strOfNums t265)) (wrap64 (x8_2 + 1)) l0_0 l0_1 l1_0 l1_1 l1_2 a1_3 a1_4 a1_5 a1_6 a1_7 a1_8 a1_9 a1_10 a1_11 a1_12 a1_13) else (none)) = some (r1, r2) := H
            have A50 := gA A500
            clear A500
            obtain ⟨c51, H⟩ := iS H
            have c51b0 := eq_true c51
            have c51b1 := decide_eq_true c51
            try have c51b2 : (9223372036854775807 < (x6_2 ++ (⟨#[39]⟩ : ByteArray)).size + (strOfNums t265).size) = False := eq_false (Nat.not_lt.2 c51)
            try (have c51b2z := c51b2; simp only [ByteArray.size_append, show (⟨#[39]⟩ : ByteArray).size = 1 from rfl] at c51b2z)
            have H' := gA H
            clear H
            have hnb52 := NB257_256.out
            have hnc52 := NB256_257.out
            have hcz53_0 := gz BK257 0 rfl
            have hcz53_1 := gz BK257 1 rfl
            have hcz53_2 := gz BK257 2 rfl
            have hcz53_3 := gz BK257 3 rfl
            have hcz53_4 := gz BK257 4 rfl
            have hcz53_5 := gz BK257 5 rfl
            have hcz53_6 := gz BK257 6 rfl
            have hcz53_7 := gz BK257 7 rfl
            have hcz53_8 := gz BK257 8 rfl
            have hcz53_9 := gz BK257 9 rfl
            have hcz53_10 := gz BK257 10 rfl
            have hcz53_11 := gz BK257 11 rfl
            have hcz53_12 := gz BK257 12 rfl
            have hcz53_13 := gz BK257 13 rfl
            have hfz53_0 := blk_frozen BK257.out 0
            have hfz53_1 := blk_frozen BK257.out 1
            have hfz53_2 := blk_frozen BK257.out 2
            have hfz53_3 := blk_frozen BK257.out 3
            have hfz53_4 := blk_frozen BK257.out 4
            have hfz53_5 := blk_frozen BK257.out 5
            have hfz53_6 := blk_frozen BK257.out 6
            have hfz53_7 := blk_frozen BK257.out 7
            have hfz53_8 := blk_frozen BK257.out 8
            have hfz53_9 := blk_frozen BK257.out 9
            have hfz53_10 := blk_frozen BK257.out 10
            have hfz53_11 := blk_frozen BK257.out 11
            have hfz53_12 := blk_frozen BK257.out 12
            have hfz53_13 := blk_frozen BK257.out 13
            go_wp2_with (first | ((with_reducible refine gate_callee (f := 29) rfl ?_); refine goesL_ (some 85) rfl rfl Try.func29 (by kernel_rfl) rfl #[.int .i64 ((rd_T60 l0_1 x8_2).f1)] rfl (by (try simp only [List.map_toArray, List.map_cons, List.map_nil]); first | done | rfl | (simp only [List.length_drop, List.length_take]; rfl)) ?_; (with_reducible refine (triglyphref02_Put.calls kj38 ((rd_T60 l0_1 x8_2).f1) t265 _ A50.out).mono ?_); rintro e w54 ⟨v266, rfl, ho0, hb⟩; refine ⟨_, rfl, ?_⟩; have HO267 := gA (Kd.R_lower ho0 (below_size (gB HB))); replace BK256 := gA (blk_below (gK BK256) hb); replace BK257 := gA (blk_below (gK BK257) hb); replace HB := gA (below_step (gB HB) hb); (try clear hb); (try clear ho0); have hcv55 := own_string (P := Try.prog) Try.underlying44 Try.underlying5 Try.underlying9 (Kd.own_of_R HO267.out)))
            go_roundg kj38
            case measure => have := HJ4.out; have := HK2.out; have := HJ38.out; omega
            case rel => exact ⟨((x6_2 ++ (⟨#[39]⟩ : ByteArray)) ++ (strOfNums t265)), (wrap64 (x8_2 + 1)), (rfl), (rfl), H', ⟨by have := HJ4.out; have := HK2.out; have := HJ38.out; omega⟩, ⟨gK BK256⟩, ⟨gK BK257⟩, ⟨gB HB⟩⟩
           ·rw [if_neg c49] at H
            have c49b0 : (a1_10.toList == ([39] : List UInt8)) = false := beq_eq_false_iff_ne.mpr c49
            have c49b1 : (a1_10.toList != ([39] : List UInt8)) = true := bne_iff_ne.mpr c49
            by_cases c56 : ((rd_T60 l0_1 x8_2).f1) = 34
            ·rw [if_pos c56] at H
             have c56b0 : (((rd_T60 l0_1 x8_2).f1) == 34) = true := beq_iff_eq.mpr c56
             have c56b1 : (((rd_T60 l0_1 x8_2).f1) != 34) = false := bne_eq_false_iff_eq.mpr c56
             clear c56
             obtain ⟨c57, H⟩ := iS H
             have c57b0 := eq_true c57
             have c57b1 := decide_eq_true c57
             try have c57b2 : (9223372036854775807 < (x6_2 ++ (⟨#[39]⟩ : ByteArray)).size + 1) = False := eq_false (Nat.not_lt.2 c57)
             try (have c57b2z := c57b2; simp only [ByteArray.size_append, show (⟨#[39]⟩ : ByteArray).size = 1 from rfl] at c57b2z)
             replace H := Option.bind_eq_some_iff.mp H
             obtain ⟨t268, A580, H⟩ := H
             replace H : (if ((x6_2 ++ (⟨#[39]⟩ : ByteArray)) ++ (⟨#[92]⟩ : ByteArray)).size + (strOfNums t268).size ≤ 9223372036854775807 then (triglyphref16_Literal.l1 kj38 (((x6_2 ++ (⟨#[39]⟩ : ByteArray)) ++ (⟨#[92]⟩ : ByteArray)) ++ (strOfNums t268)) (wrap64 (x8_2 + 1)) l0_0 l0_1 l1_0 l1_1 l1_2 a1_3 a1_4 a1_5 a1_6 a1_7 a1_8 a1_9 a1_10 a1_11 a1_12 a1_13) else (none)) = some (r1, r2) := H
             have A58 := gA A580
             clear A580
             obtain ⟨c59, H⟩ := iS H
             have c59b0 := eq_true c59
             have c59b1 := decide_eq_true c59
             try have c59b2 : (9223372036854775807 < ((x6_2 ++ (⟨#[39]⟩ : ByteArray)) ++ (⟨#[92]⟩ : ByteArray)).size + (strOfNums t268).size) = False := eq_false (Nat.not_lt.2 c59)
             try (have c59b2z := c59b2; simp only [ByteArray.size_append, show (⟨#[39]⟩ : ByteArray).size = 1 from rfl, show (⟨#[92]⟩ : ByteArray).size = 1 from rfl] at c59b2z)
             have H' := gA H
             clear H
             have hnb60 := NB257_256.out
             have hnc60 := NB256_257.out
             have hcz61_0 := gz BK257 0 rfl
             have hcz61_1 := gz BK257 1 rfl
             have hcz61_2 := gz BK257 2 rfl
             have hcz61_3 := gz BK257 3 rfl
             have hcz61_4 := gz BK257 4 rfl
             have hcz61_5 := gz BK257 5 rfl
             have hcz61_6 := gz BK257 6 rfl
             have hcz61_7 := gz BK257 7 rfl
             have hcz61_8 := gz BK257 8 rfl
             have hcz61_9 := gz BK257 9 rfl
             have hcz61_10 := gz BK257 10 rfl
             have hcz61_11 := gz BK257 11 rfl
             have hcz61_12 := gz BK257 12 rfl
             have hcz61_13 := gz BK257 13 rfl
             have hfz61_0 := blk_frozen BK257.out 0
             have hfz61_1 := blk_frozen BK257.out 1
             have hfz61_2 := blk_frozen BK257.out 2
             have hfz61_3 := blk_frozen BK257.out 3
             have hfz61_4 := blk_frozen BK257.out 4
             have hfz61_5 := blk_frozen BK257.out 5
             have hfz61_6 := blk_frozen BK257.out 6
             have hfz61_7 := blk_frozen BK257.out 7
             have hfz61_8 := blk_frozen BK257.out 8
             have hfz61_9 := blk_frozen BK257.out 9
             have hfz61_10 := blk_frozen BK257.out 10
             have hfz61_11 := blk_frozen BK257.out 11
             have hfz61_12 := blk_frozen BK257.out 12
             have hfz61_13 := blk_frozen BK257.out 13
             go_wp2_with (first | ((with_reducible refine gate_callee (f := 29) rfl ?_); refine goesL_ (some 85) rfl rfl Try.func29 (by kernel_rfl) rfl #[.int .i64 ((rd_T60 l0_1 x8_2).f1)] rfl (by (try simp only [List.map_toArray, List.map_cons, List.map_nil]); first | done | rfl | (simp only [List.length_drop, List.length_take]; rfl)) ?_; (with_reducible refine (triglyphref02_Put.calls kj38 ((rd_T60 l0_1 x8_2).f1) t268 _ A58.out).mono ?_); rintro e w62 ⟨v269, rfl, ho0, hb⟩; refine ⟨_, rfl, ?_⟩; have HO270 := gA (Kd.R_lower ho0 (below_size (gB HB))); replace BK256 := gA (blk_below (gK BK256) hb); replace BK257 := gA (blk_below (gK BK257) hb); replace HB := gA (below_step (gB HB) hb); (try clear hb); (try clear ho0); have hcv63 := own_string (P := Try.prog) Try.underlying44 Try.underlying5 Try.underlying9 (Kd.own_of_R HO270.out)))
             go_roundg kj38
             case measure => have := HJ4.out; have := HK2.out; have := HJ38.out; omega
             case rel => exact ⟨(((x6_2 ++ (⟨#[39]⟩ : ByteArray)) ++ (⟨#[92]⟩ : ByteArray)) ++ (strOfNums t268)), (wrap64 (x8_2 + 1)), (rfl), (rfl), H', ⟨by have := HJ4.out; have := HK2.out; have := HJ38.out; omega⟩, ⟨gK BK256⟩, ⟨gK BK257⟩, ⟨gB HB⟩⟩
            ·rw [if_neg c56] at H
             have c56b0 : (((rd_T60 l0_1 x8_2).f1) == 34) = false := beq_eq_false_iff_ne.mpr c56
             have c56b1 : (((rd_T60 l0_1 x8_2).f1) != 34) = true := bne_iff_ne.mpr c56
             by_cases c64 : ((rd_T60 l0_1 x8_2).f1) = 92
             ·rw [if_pos c64] at H
              have c64b0 : (((rd_T60 l0_1 x8_2).f1) == 92) = true := beq_iff_eq.mpr c64
              have c64b1 : (((rd_T60 l0_1 x8_2).f1) != 92) = false := bne_eq_false_iff_eq.mpr c64
              clear c64
              obtain ⟨c65, H⟩ := iS H
              have c65b0 := eq_true c65
              have c65b1 := decide_eq_true c65
              try have c65b2 : (9223372036854775807 < (x6_2 ++ (⟨#[39]⟩ : ByteArray)).size + 1) = False := eq_false (Nat.not_lt.2 c65)
              try (have c65b2z := c65b2; simp only [ByteArray.size_append, show (⟨#[39]⟩ : ByteArray).size = 1 from rfl] at c65b2z)
              replace H := Option.bind_eq_some_iff.mp H
              obtain ⟨t271, A660, H⟩ := H
              replace H : (if ((x6_2 ++ (⟨#[39]⟩ : ByteArray)) ++ (⟨#[92]⟩ : ByteArray)).size + (strOfNums t271).size ≤ 9223372036854775807 then (triglyphref16_Literal.l1 kj38 (((x6_2 ++ (⟨#[39]⟩ : ByteArray)) ++ (⟨#[92]⟩ : ByteArray)) ++ (strOfNums t271)) (wrap64 (x8_2 + 1)) l0_0 l0_1 l1_0 l1_1 l1_2 a1_3 a1_4 a1_5 a1_6 a1_7 a1_8 a1_9 a1_10 a1_11 a1_12 a1_13) else (none)) = some (r1, r2) := H
              have A66 := gA A660
              clear A660
              obtain ⟨c67, H⟩ := iS H
              have c67b0 := eq_true c67
              have c67b1 := decide_eq_true c67
              try have c67b2 : (9223372036854775807 < ((x6_2 ++ (⟨#[39]⟩ : ByteArray)) ++ (⟨#[92]⟩ : ByteArray)).size + (strOfNums t271).size) = False := eq_false (Nat.not_lt.2 c67)
              try (have c67b2z := c67b2; simp only [ByteArray.size_append, show (⟨#[39]⟩ : ByteArray).size = 1 from rfl, show (⟨#[92]⟩ : ByteArray).size = 1 from rfl] at c67b2z)
              have H' := gA H
              clear H
              have hnb68 := NB257_256.out
              have hnc68 := NB256_257.out
              have hcz69_0 := gz BK257 0 rfl
              have hcz69_1 := gz BK257 1 rfl
              have hcz69_2 := gz BK257 2 rfl
              have hcz69_3 := gz BK257 3 rfl
              have hcz69_4 := gz BK257 4 rfl
              have hcz69_5 := gz BK257 5 rfl
              have hcz69_6 := gz BK257 6 rfl
              have hcz69_7 := gz BK257 7 rfl
              have hcz69_8 := gz BK257 8 rfl
              have hcz69_9 := gz BK257 9 rfl
              have hcz69_10 := gz BK257 10 rfl
              have hcz69_11 := gz BK257 11 rfl
              have hcz69_12 := gz BK257 12 rfl
              have hcz69_13 := gz BK257 13 rfl
              have hfz69_0 := blk_frozen BK257.out 0
              have hfz69_1 := blk_frozen BK257.out 1
              have hfz69_2 := blk_frozen BK257.out 2
              have hfz69_3 := blk_frozen BK257.out 3
              have hfz69_4 := blk_frozen BK257.out 4
              have hfz69_5 := blk_frozen BK257.out 5
              have hfz69_6 := blk_frozen BK257.out 6
              have hfz69_7 := blk_frozen BK257.out 7
              have hfz69_8 := blk_frozen BK257.out 8
              have hfz69_9 := blk_frozen BK257.out 9
              have hfz69_10 := blk_frozen BK257.out 10
              have hfz69_11 := blk_frozen BK257.out 11
              have hfz69_12 := blk_frozen BK257.out 12
              have hfz69_13 := blk_frozen BK257.out 13
              go_wp2_with (first | ((with_reducible refine gate_callee (f := 29) rfl ?_); refine goesL_ (some 85) rfl rfl Try.func29 (by kernel_rfl) rfl #[.int .i64 ((rd_T60 l0_1 x8_2).f1)] rfl (by (try simp only [List.map_toArray, List.map_cons, List.map_nil]); first | done | rfl | (simp only [List.length_drop, List.length_take]; rfl)) ?_; (with_reducible refine (triglyphref02_Put.calls kj38 ((rd_T60 l0_1 x8_2).f1) t271 _ A66.out).mono ?_); rintro e w70 ⟨v272, rfl, ho0, hb⟩; refine ⟨_, rfl, ?_⟩; have HO273 := gA (Kd.R_lower ho0 (below_size (gB HB))); replace BK256 := gA (blk_below (gK BK256) hb); replace BK257 := gA (blk_below (gK BK257) hb); replace HB := gA (below_step (gB HB) hb); (try clear hb); (try clear ho0); have hcv71 := own_string (P := Try.prog) Try.underlying44 Try.underlying5 Try.underlying9 (Kd.own_of_R HO273.out)))
              go_roundg kj38
              case measure => have := HJ4.out; have := HK2.out; have := HJ38.out; omega
              case rel => exact ⟨(((x6_2 ++ (⟨#[39]⟩ : ByteArray)) ++ (⟨#[92]⟩ : ByteArray)) ++ (strOfNums t271)), (wrap64 (x8_2 + 1)), (rfl), (rfl), H', ⟨by have := HJ4.out; have := HK2.out; have := HJ38.out; omega⟩, ⟨gK BK256⟩, ⟨gK BK257⟩, ⟨gB HB⟩⟩
             ·rw [if_neg c64] at H
              have c64b0 : (((rd_T60 l0_1 x8_2).f1) == 92) = false := beq_eq_false_iff_ne.mpr c64
              have c64b1 : (((rd_T60 l0_1 x8_2).f1) != 92) = true := bne_iff_ne.mpr c64
              replace H := Option.bind_eq_some_iff.mp H
              obtain ⟨t274, A720, H⟩ := H
              replace H : (if (x6_2 ++ (⟨#[39]⟩ : ByteArray)).size + (strOfNums t274).size ≤ 9223372036854775807 then (triglyphref16_Literal.l1 kj38 ((x6_2 ++ (⟨#[39]⟩ : ByteArray)) ++ (strOfNums t274)) (wrap64 (x8_2 + 1)) l0_0 l0_1 l1_0 l1_1 l1_2 a1_3 a1_4 a1_5 a1_6 a1_7 a1_8 a1_9 a1_10 a1_11 a1_12 a1_13) else (none)) = some (r1, r2) := H
              have A72 := gA A720
              clear A720
              obtain ⟨c73, H⟩ := iS H
              have c73b0 := eq_true c73
              have c73b1 := decide_eq_true c73
              try have c73b2 : (9223372036854775807 < (x6_2 ++ (⟨#[39]⟩ : ByteArray)).size + (strOfNums t274).size) = False := eq_false (Nat.not_lt.2 c73)
              try (have c73b2z := c73b2; simp only [ByteArray.size_append, show (⟨#[39]⟩ : ByteArray).size = 1 from rfl] at c73b2z)
              have H' := gA H
              clear H
              have hnb74 := NB257_256.out
              have hnc74 := NB256_257.out
              have hcz75_0 := gz BK257 0 rfl
              have hcz75_1 := gz BK257 1 rfl
              have hcz75_2 := gz BK257 2 rfl
              have hcz75_3 := gz BK257 3 rfl
              have hcz75_4 := gz BK257 4 rfl
              have hcz75_5 := gz BK257 5 rfl
              have hcz75_6 := gz BK257 6 rfl
              have hcz75_7 := gz BK257 7 rfl
              have hcz75_8 := gz BK257 8 rfl
              have hcz75_9 := gz BK257 9 rfl
              have hcz75_10 := gz BK257 10 rfl
              have hcz75_11 := gz BK257 11 rfl
              have hcz75_12 := gz BK257 12 rfl
              have hcz75_13 := gz BK257 13 rfl
              have hfz75_0 := blk_frozen BK257.out 0
              have hfz75_1 := blk_frozen BK257.out 1
              have hfz75_2 := blk_frozen BK257.out 2
              have hfz75_3 := blk_frozen BK257.out 3
              have hfz75_4 := blk_frozen BK257.out 4
              have hfz75_5 := blk_frozen BK257.out 5
              have hfz75_6 := blk_frozen BK257.out 6
              have hfz75_7 := blk_frozen BK257.out 7
              have hfz75_8 := blk_frozen BK257.out 8
              have hfz75_9 := blk_frozen BK257.out 9
              have hfz75_10 := blk_frozen BK257.out 10
              have hfz75_11 := blk_frozen BK257.out 11
              have hfz75_12 := blk_frozen BK257.out 12
              have hfz75_13 := blk_frozen BK257.out 13
              go_wp2_with (first | ((with_reducible refine gate_callee (f := 29) rfl ?_); refine goesL_ (some 85) rfl rfl Try.func29 (by kernel_rfl) rfl #[.int .i64 ((rd_T60 l0_1 x8_2).f1)] rfl (by (try simp only [List.map_toArray, List.map_cons, List.map_nil]); first | done | rfl | (simp only [List.length_drop, List.length_take]; rfl)) ?_; (with_reducible refine (triglyphref02_Put.calls kj38 ((rd_T60 l0_1 x8_2).f1) t274 _ A72.out).mono ?_); rintro e w76 ⟨v275, rfl, ho0, hb⟩; refine ⟨_, rfl, ?_⟩; have HO276 := gA (Kd.R_lower ho0 (below_size (gB HB))); replace BK256 := gA (blk_below (gK BK256) hb); replace BK257 := gA (blk_below (gK BK257) hb); replace HB := gA (below_step (gB HB) hb); (try clear hb); (try clear ho0); have hcv77 := own_string (P := Try.prog) Try.underlying44 Try.underlying5 Try.underlying9 (Kd.own_of_R HO276.out)))
              go_roundg kj38
              case measure => have := HJ4.out; have := HK2.out; have := HJ38.out; omega
              case rel => exact ⟨((x6_2 ++ (⟨#[39]⟩ : ByteArray)) ++ (strOfNums t274)), (wrap64 (x8_2 + 1)), (rfl), (rfl), H', ⟨by have := HJ4.out; have := HK2.out; have := HJ38.out; omega⟩, ⟨gK BK256⟩, ⟨gK BK257⟩, ⟨gB HB⟩⟩
          ·replace c47 := Bool.eq_false_iff.mpr c47
           subst c47
           have H1 : (if a1_10.toList = ([39] : List UInt8) then ((triglyphref02_Put.f kj38 ((rd_T60 l0_1 x8_2).f1)).bind fun t277 => (if x6_2.size + (strOfNums t277).size ≤ 9223372036854775807 then (triglyphref16_Literal.l1 kj38 (x6_2 ++ (strOfNums t277)) (wrap64 (x8_2 + 1)) l0_0 l0_1 l1_0 l1_1 l1_2 a1_3 a1_4 a1_5 a1_6 a1_7 a1_8 a1_9 a1_10 a1_11 a1_12 a1_13) else (none))) else (if ((rd_T60 l0_1 x8_2).f1) = 34 then (if x6_2.size + 1 ≤ 9223372036854775807 then ((triglyphref02_Put.f kj38 ((rd_T60 l0_1 x8_2).f1)).bind fun t280 => (if (x6_2 ++ (⟨#[92]⟩ : ByteArray)).size + (strOfNums t280).size ≤ 9223372036854775807 then (triglyphref16_Literal.l1 kj38 ((x6_2 ++ (⟨#[92]⟩ : ByteArray)) ++ (strOfNums t280)) (wrap64 (x8_2 + 1)) l0_0 l0_1 l1_0 l1_1 l1_2 a1_3 a1_4 a1_5 a1_6 a1_7 a1_8 a1_9 a1_10 a1_11 a1_12 a1_13) else (none))) else (none)) else (if ((rd_T60 l0_1 x8_2).f1) = 92 then (if x6_2.size + 1 ≤ 9223372036854775807 then ((triglyphref02_Put.f kj38 ((rd_T60 l0_1 x8_2).f1)).bind fun t283 => (if (x6_2 ++ (⟨#[92]⟩ : ByteArray)).size + (strOfNums t283).size ≤ 9223372036854775807 then (triglyphref16_Literal.l1 kj38 ((x6_2 ++ (⟨#[92]⟩ : ByteArray)) ++ (strOfNums t283)) (wrap64 (x8_2 + 1)) l0_0 l0_1 l1_0 l1_1 l1_2 a1_3 a1_4 a1_5 a1_6 a1_7 a1_8 a1_9 a1_10 a1_11 a1_12 a1_13) else (none))) else (none)) else ((triglyphref02_Put.f kj38 ((rd_T60 l0_1 x8_2).f1)).bind fun t286 => (if x6_2.size + (strOfNums t286).size ≤ 9223372036854775807 then (triglyphref16_Literal.l1 kj38 (x6_2 ++ (strOfNums t286)) (wrap64 (x8_2 + 1)) l0_0 l0_1 l1_0 l1_1 l1_2 a1_3 a1_4 a1_5 a1_6 a1_7 a1_8 a1_9 a1_10 a1_11 a1_12 a1_13) else (none)))))) = some (r1, r2) := by rw [if_neg (show ¬ (false = true) by decide)] at H; exact H
           clear H; have H := H1; clear H1
           by_cases c78 : a1_10.toList = ([39] : List UInt8)
           ·rw [if_pos c78] at H
            have c78b0 : (a1_10.toList == ([39] : List UInt8)) = true := beq_iff_eq.mpr c78
            have c78b1 : (a1_10.toList != ([39] : List UInt8)) = false := bne_eq_false_iff_eq.mpr c78
            clear c78
            replace H := Option.bind_eq_some_iff.mp H
            obtain ⟨t277, A790, H⟩ := H
            replace H : (if x6_2.size + (strOfNums t277).size ≤ 9223372036854775807 then (triglyphref16_Literal.l1 kj38 (x6_2 ++ (strOfNums t277)) (wrap64 (x8_2 + 1)) l0_0 l0_1 l1_0 l1_1 l1_2 a1_3 a1_4 a1_5 a1_6 a1_7 a1_8 a1_9 a1_10 a1_11 a1_12 a1_13) else (none)) = some (r1, r2) := H
            have A79 := gA A790
            clear A790
            obtain ⟨c80, H⟩ := iS H
            have c80b0 := eq_true c80
            have c80b1 := decide_eq_true c80
            try have c80b2 : (9223372036854775807 < x6_2.size + (strOfNums t277).size) = False := eq_false (Nat.not_lt.2 c80)
            have H' := gA H
            clear H
            have hnb81 := NB257_256.out
            have hnc81 := NB256_257.out
            have hcz82_0 := gz BK257 0 rfl
            have hcz82_1 := gz BK257 1 rfl
            have hcz82_2 := gz BK257 2 rfl
            have hcz82_3 := gz BK257 3 rfl
            have hcz82_4 := gz BK257 4 rfl
            have hcz82_5 := gz BK257 5 rfl
            have hcz82_6 := gz BK257 6 rfl
            have hcz82_7 := gz BK257 7 rfl
            have hcz82_8 := gz BK257 8 rfl
            have hcz82_9 := gz BK257 9 rfl
            have hcz82_10 := gz BK257 10 rfl
            have hcz82_11 := gz BK257 11 rfl
            have hcz82_12 := gz BK257 12 rfl
            have hcz82_13 := gz BK257 13 rfl
            have hfz82_0 := blk_frozen BK257.out 0
            have hfz82_1 := blk_frozen BK257.out 1
            have hfz82_2 := blk_frozen BK257.out 2
            have hfz82_3 := blk_frozen BK257.out 3
            have hfz82_4 := blk_frozen BK257.out 4
            have hfz82_5 := blk_frozen BK257.out 5
            have hfz82_6 := blk_frozen BK257.out 6
            have hfz82_7 := blk_frozen BK257.out 7
            have hfz82_8 := blk_frozen BK257.out 8
            have hfz82_9 := blk_frozen BK257.out 9
            have hfz82_10 := blk_frozen BK257.out 10
            have hfz82_11 := blk_frozen BK257.out 11
            have hfz82_12 := blk_frozen BK257.out 12
            have hfz82_13 := blk_frozen BK257.out 13
            go_wp2_with (first | ((with_reducible refine gate_callee (f := 29) rfl ?_); refine goesL_ (some 85) rfl rfl Try.func29 (by kernel_rfl) rfl #[.int .i64 ((rd_T60 l0_1 x8_2).f1)] rfl (by (try simp only [List.map_toArray, List.map_cons, List.map_nil]); first | done | rfl | (simp only [List.length_drop, List.length_take]; rfl)) ?_; (with_reducible refine (triglyphref02_Put.calls kj38 ((rd_T60 l0_1 x8_2).f1) t277 _ A79.out).mono ?_); rintro e w83 ⟨v278, rfl, ho0, hb⟩; refine ⟨_, rfl, ?_⟩; have HO279 := gA (Kd.R_lower ho0 (below_size (gB HB))); replace BK256 := gA (blk_below (gK BK256) hb); replace BK257 := gA (blk_below (gK BK257) hb); replace HB := gA (below_step (gB HB) hb); (try clear hb); (try clear ho0); have hcv84 := own_string (P := Try.prog) Try.underlying44 Try.underlying5 Try.underlying9 (Kd.own_of_R HO279.out)))
            go_roundg kj38
            case measure => have := HJ4.out; have := HK2.out; have := HJ38.out; omega
            case rel => exact ⟨(x6_2 ++ (strOfNums t277)), (wrap64 (x8_2 + 1)), (rfl), (rfl), H', ⟨by have := HJ4.out; have := HK2.out; have := HJ38.out; omega⟩, ⟨gK BK256⟩, ⟨gK BK257⟩, ⟨gB HB⟩⟩
           ·rw [if_neg c78] at H
            have c78b0 : (a1_10.toList == ([39] : List UInt8)) = false := beq_eq_false_iff_ne.mpr c78
            have c78b1 : (a1_10.toList != ([39] : List UInt8)) = true := bne_iff_ne.mpr c78
            by_cases c85 : ((rd_T60 l0_1 x8_2).f1) = 34
            ·rw [if_pos c85] at H
             have c85b0 : (((rd_T60 l0_1 x8_2).f1) == 34) = true := beq_iff_eq.mpr c85
             have c85b1 : (((rd_T60 l0_1 x8_2).f1) != 34) = false := bne_eq_false_iff_eq.mpr c85
             clear c85
             obtain ⟨c86, H⟩ := iS H
             have c86b0 := eq_true c86
             have c86b1 := decide_eq_true c86
             try have c86b2 : (9223372036854775807 < x6_2.size + 1) = False := eq_false (Nat.not_lt.2 c86)
             replace H := Option.bind_eq_some_iff.mp H
             obtain ⟨t280, A870, H⟩ := H
             replace H : (if (x6_2 ++ (⟨#[92]⟩ : ByteArray)).size + (strOfNums t280).size ≤ 9223372036854775807 then (triglyphref16_Literal.l1 kj38 ((x6_2 ++ (⟨#[92]⟩ : ByteArray)) ++ (strOfNums t280)) (wrap64 (x8_2 + 1)) l0_0 l0_1 l1_0 l1_1 l1_2 a1_3 a1_4 a1_5 a1_6 a1_7 a1_8 a1_9 a1_10 a1_11 a1_12 a1_13) else (none)) = some (r1, r2) := H
             have A87 := gA A870
             clear A870
             obtain ⟨c88, H⟩ := iS H
             have c88b0 := eq_true c88
             have c88b1 := decide_eq_true c88
             try have c88b2 : (9223372036854775807 < (x6_2 ++ (⟨#[92]⟩ : ByteArray)).size + (strOfNums t280).size) = False := eq_false (Nat.not_lt.2 c88)
             try (have c88b2z := c88b2; simp only [ByteArray.size_append, show (⟨#[92]⟩ : ByteArray).size = 1 from rfl] at c88b2z)
             have H' := gA H
             clear H
             have hnb89 := NB257_256.out
             have hnc89 := NB256_257.out
             have hcz90_0 := gz BK257 0 rfl
             have hcz90_1 := gz BK257 1 rfl
             have hcz90_2 := gz BK257 2 rfl
             have hcz90_3 := gz BK257 3 rfl
             have hcz90_4 := gz BK257 4 rfl
             have hcz90_5 := gz BK257 5 rfl
             have hcz90_6 := gz BK257 6 rfl
             have hcz90_7 := gz BK257 7 rfl
             have hcz90_8 := gz BK257 8 rfl
             have hcz90_9 := gz BK257 9 rfl
             have hcz90_10 := gz BK257 10 rfl
             have hcz90_11 := gz BK257 11 rfl
             have hcz90_12 := gz BK257 12 rfl
             have hcz90_13 := gz BK257 13 rfl
             have hfz90_0 := blk_frozen BK257.out 0
             have hfz90_1 := blk_frozen BK257.out 1
             have hfz90_2 := blk_frozen BK257.out 2
             have hfz90_3 := blk_frozen BK257.out 3
             have hfz90_4 := blk_frozen BK257.out 4
             have hfz90_5 := blk_frozen BK257.out 5
             have hfz90_6 := blk_frozen BK257.out 6
             have hfz90_7 := blk_frozen BK257.out 7
             have hfz90_8 := blk_frozen BK257.out 8
             have hfz90_9 := blk_frozen BK257.out 9
             have hfz90_10 := blk_frozen BK257.out 10
             have hfz90_11 := blk_frozen BK257.out 11
             have hfz90_12 := blk_frozen BK257.out 12
             have hfz90_13 := blk_frozen BK257.out 13
             go_wp2_with (first | ((with_reducible refine gate_callee (f := 29) rfl ?_); refine goesL_ (some 85) rfl rfl Try.func29 (by kernel_rfl) rfl #[.int .i64 ((rd_T60 l0_1 x8_2).f1)] rfl (by (try simp only [List.map_toArray, List.map_cons, List.map_nil]); first | done | rfl | (simp only [List.length_drop, List.length_take]; rfl)) ?_; (with_reducible refine (triglyphref02_Put.calls kj38 ((rd_T60 l0_1 x8_2).f1) t280 _ A87.out).mono ?_); rintro e w91 ⟨v281, rfl, ho0, hb⟩; refine ⟨_, rfl, ?_⟩; have HO282 := gA (Kd.R_lower ho0 (below_size (gB HB))); replace BK256 := gA (blk_below (gK BK256) hb); replace BK257 := gA (blk_below (gK BK257) hb); replace HB := gA (below_step (gB HB) hb); (try clear hb); (try clear ho0); have hcv92 := own_string (P := Try.prog) Try.underlying44 Try.underlying5 Try.underlying9 (Kd.own_of_R HO282.out)))
             go_roundg kj38
             case measure => have := HJ4.out; have := HK2.out; have := HJ38.out; omega
             case rel => exact ⟨((x6_2 ++ (⟨#[92]⟩ : ByteArray)) ++ (strOfNums t280)), (wrap64 (x8_2 + 1)), (rfl), (rfl), H', ⟨by have := HJ4.out; have := HK2.out; have := HJ38.out; omega⟩, ⟨gK BK256⟩, ⟨gK BK257⟩, ⟨gB HB⟩⟩
            ·rw [if_neg c85] at H
             have c85b0 : (((rd_T60 l0_1 x8_2).f1) == 34) = false := beq_eq_false_iff_ne.mpr c85
             have c85b1 : (((rd_T60 l0_1 x8_2).f1) != 34) = true := bne_iff_ne.mpr c85
             by_cases c93 : ((rd_T60 l0_1 x8_2).f1) = 92
             ·rw [if_pos c93] at H
              have c93b0 : (((rd_T60 l0_1 x8_2).f1) == 92) = true := beq_iff_eq.mpr c93
              have c93b1 : (((rd_T60 l0_1 x8_2).f1) != 92) = false := bne_eq_false_iff_eq.mpr c93
              clear c93
              obtain ⟨c94, H⟩ := iS H
              have c94b0 := eq_true c94
              have c94b1 := decide_eq_true c94
              try have c94b2 : (9223372036854775807 < x6_2.size + 1) = False := eq_false (Nat.not_lt.2 c94)
              replace H := Option.bind_eq_some_iff.mp H
              obtain ⟨t283, A950, H⟩ := H
              replace H : (if (x6_2 ++ (⟨#[92]⟩ : ByteArray)).size + (strOfNums t283).size ≤ 9223372036854775807 then (triglyphref16_Literal.l1 kj38 ((x6_2 ++ (⟨#[92]⟩ : ByteArray)) ++ (strOfNums t283)) (wrap64 (x8_2 + 1)) l0_0 l0_1 l1_0 l1_1 l1_2 a1_3 a1_4 a1_5 a1_6 a1_7 a1_8 a1_9 a1_10 a1_11 a1_12 a1_13) else (none)) = some (r1, r2) := H
              have A95 := gA A950
              clear A950
              obtain ⟨c96, H⟩ := iS H
              have c96b0 := eq_true c96
              have c96b1 := decide_eq_true c96
              try have c96b2 : (9223372036854775807 < (x6_2 ++ (⟨#[92]⟩ : ByteArray)).size + (strOfNums t283).size) = False := eq_false (Nat.not_lt.2 c96)
              try (have c96b2z := c96b2; simp only [ByteArray.size_append, show (⟨#[92]⟩ : ByteArray).size = 1 from rfl] at c96b2z)
              have H' := gA H
              clear H
              have hnb97 := NB257_256.out
              have hnc97 := NB256_257.out
              have hcz98_0 := gz BK257 0 rfl
              have hcz98_1 := gz BK257 1 rfl
              have hcz98_2 := gz BK257 2 rfl
              have hcz98_3 := gz BK257 3 rfl
              have hcz98_4 := gz BK257 4 rfl
              have hcz98_5 := gz BK257 5 rfl
              have hcz98_6 := gz BK257 6 rfl
              have hcz98_7 := gz BK257 7 rfl
              have hcz98_8 := gz BK257 8 rfl
              have hcz98_9 := gz BK257 9 rfl
              have hcz98_10 := gz BK257 10 rfl
              have hcz98_11 := gz BK257 11 rfl
              have hcz98_12 := gz BK257 12 rfl
              have hcz98_13 := gz BK257 13 rfl
              have hfz98_0 := blk_frozen BK257.out 0
              have hfz98_1 := blk_frozen BK257.out 1
              have hfz98_2 := blk_frozen BK257.out 2
              have hfz98_3 := blk_frozen BK257.out 3
              have hfz98_4 := blk_frozen BK257.out 4
              have hfz98_5 := blk_frozen BK257.out 5
              have hfz98_6 := blk_frozen BK257.out 6
              have hfz98_7 := blk_frozen BK257.out 7
              have hfz98_8 := blk_frozen BK257.out 8
              have hfz98_9 := blk_frozen BK257.out 9
              have hfz98_10 := blk_frozen BK257.out 10
              have hfz98_11 := blk_frozen BK257.out 11
              have hfz98_12 := blk_frozen BK257.out 12
              have hfz98_13 := blk_frozen BK257.out 13
              go_wp2_with (first | ((with_reducible refine gate_callee (f := 29) rfl ?_); refine goesL_ (some 85) rfl rfl Try.func29 (by kernel_rfl) rfl #[.int .i64 ((rd_T60 l0_1 x8_2).f1)] rfl (by (try simp only [List.map_toArray, List.map_cons, List.map_nil]); first | done | rfl | (simp only [List.length_drop, List.length_take]; rfl)) ?_; (with_reducible refine (triglyphref02_Put.calls kj38 ((rd_T60 l0_1 x8_2).f1) t283 _ A95.out).mono ?_); rintro e w99 ⟨v284, rfl, ho0, hb⟩; refine ⟨_, rfl, ?_⟩; have HO285 := gA (Kd.R_lower ho0 (below_size (gB HB))); replace BK256 := gA (blk_below (gK BK256) hb); replace BK257 := gA (blk_below (gK BK257) hb); replace HB := gA (below_step (gB HB) hb); (try clear hb); (try clear ho0); have hcv100 := own_string (P := Try.prog) Try.underlying44 Try.underlying5 Try.underlying9 (Kd.own_of_R HO285.out)))
              go_roundg kj38
              case measure => have := HJ4.out; have := HK2.out; have := HJ38.out; omega
              case rel => exact ⟨((x6_2 ++ (⟨#[92]⟩ : ByteArray)) ++ (strOfNums t283)), (wrap64 (x8_2 + 1)), (rfl), (rfl), H', ⟨by have := HJ4.out; have := HK2.out; have := HJ38.out; omega⟩, ⟨gK BK256⟩, ⟨gK BK257⟩, ⟨gB HB⟩⟩
             ·rw [if_neg c93] at H
              have c93b0 : (((rd_T60 l0_1 x8_2).f1) == 92) = false := beq_eq_false_iff_ne.mpr c93
              have c93b1 : (((rd_T60 l0_1 x8_2).f1) != 92) = true := bne_iff_ne.mpr c93
              replace H := Option.bind_eq_some_iff.mp H
              obtain ⟨t286, A1010, H⟩ := H
              replace H : (if x6_2.size + (strOfNums t286).size ≤ 9223372036854775807 then (triglyphref16_Literal.l1 kj38 (x6_2 ++ (strOfNums t286)) (wrap64 (x8_2 + 1)) l0_0 l0_1 l1_0 l1_1 l1_2 a1_3 a1_4 a1_5 a1_6 a1_7 a1_8 a1_9 a1_10 a1_11 a1_12 a1_13) else (none)) = some (r1, r2) := H
              have A101 := gA A1010
              clear A1010
              obtain ⟨c102, H⟩ := iS H
              have c102b0 := eq_true c102
              have c102b1 := decide_eq_true c102
              try have c102b2 : (9223372036854775807 < x6_2.size + (strOfNums t286).size) = False := eq_false (Nat.not_lt.2 c102)
              have H' := gA H
              clear H
              have hnb103 := NB257_256.out
              have hnc103 := NB256_257.out
              have hcz104_0 := gz BK257 0 rfl
              have hcz104_1 := gz BK257 1 rfl
              have hcz104_2 := gz BK257 2 rfl
              have hcz104_3 := gz BK257 3 rfl
              have hcz104_4 := gz BK257 4 rfl
              have hcz104_5 := gz BK257 5 rfl
              have hcz104_6 := gz BK257 6 rfl
              have hcz104_7 := gz BK257 7 rfl
              have hcz104_8 := gz BK257 8 rfl
              have hcz104_9 := gz BK257 9 rfl
              have hcz104_10 := gz BK257 10 rfl
              have hcz104_11 := gz BK257 11 rfl
              have hcz104_12 := gz BK257 12 rfl
              have hcz104_13 := gz BK257 13 rfl
              have hfz104_0 := blk_frozen BK257.out 0
              have hfz104_1 := blk_frozen BK257.out 1
              have hfz104_2 := blk_frozen BK257.out 2
              have hfz104_3 := blk_frozen BK257.out 3
              have hfz104_4 := blk_frozen BK257.out 4
              have hfz104_5 := blk_frozen BK257.out 5
              have hfz104_6 := blk_frozen BK257.out 6
              have hfz104_7 := blk_frozen BK257.out 7
              have hfz104_8 := blk_frozen BK257.out 8
              have hfz104_9 := blk_frozen BK257.out 9
              have hfz104_10 := blk_frozen BK257.out 10
              have hfz104_11 := blk_frozen BK257.out 11
              have hfz104_12 := blk_frozen BK257.out 12
              have hfz104_13 := blk_frozen BK257.out 13
              go_wp2_with (first | ((with_reducible refine gate_callee (f := 29) rfl ?_); refine goesL_ (some 85) rfl rfl Try.func29 (by kernel_rfl) rfl #[.int .i64 ((rd_T60 l0_1 x8_2).f1)] rfl (by (try simp only [List.map_toArray, List.map_cons, List.map_nil]); first | done | rfl | (simp only [List.length_drop, List.length_take]; rfl)) ?_; (with_reducible refine (triglyphref02_Put.calls kj38 ((rd_T60 l0_1 x8_2).f1) t286 _ A101.out).mono ?_); rintro e w105 ⟨v287, rfl, ho0, hb⟩; refine ⟨_, rfl, ?_⟩; have HO288 := gA (Kd.R_lower ho0 (below_size (gB HB))); replace BK256 := gA (blk_below (gK BK256) hb); replace BK257 := gA (blk_below (gK BK257) hb); replace HB := gA (below_step (gB HB) hb); (try clear hb); (try clear ho0); have hcv106 := own_string (P := Try.prog) Try.underlying44 Try.underlying5 Try.underlying9 (Kd.own_of_R HO288.out)))
              go_roundg kj38
              case measure => have := HJ4.out; have := HK2.out; have := HJ38.out; omega
              case rel => exact ⟨(x6_2 ++ (strOfNums t286)), (wrap64 (x8_2 + 1)), (rfl), (rfl), H', ⟨by have := HJ4.out; have := HK2.out; have := HJ38.out; omega⟩, ⟨gK BK256⟩, ⟨gK BK257⟩, ⟨gB HB⟩⟩
       ·rw [if_neg c37] at H
        have c37b0 := decide_eq_false c37
        clear c37
        obtain ⟨c107, H⟩ := iS H
        have c107b0 := eq_true c107
        have c107b1 := decide_eq_true c107
        try have c107b2 : (9223372036854775807 < a1_10.size + x6_2.size) = False := eq_false (Nat.not_lt.2 c107)
        obtain ⟨c108, H⟩ := iS H
        have c108b0 := eq_true c108
        have c108b1 := decide_eq_true c108
        try have c108b2 : (9223372036854775807 < (a1_10 ++ x6_2).size + a1_10.size) = False := eq_false (Nat.not_lt.2 c108)
        try (have c108b2z := c108b2; simp only [ByteArray.size_append] at c108b2z)
        simp only [Option.some.injEq, Prod.mk.injEq] at H
        obtain ⟨rfl, rfl⟩ := H
        have hnb109 := NB256_257.out
        have hnc109 := NB257_256.out
        obtain ⟨hcz110_0, hcz110_1, hfz110_0, hfz110_1⟩ := gz2 BK256
        have hcz111_0 := gz BK257 0 rfl
        have hcz111_1 := gz BK257 1 rfl
        have hcz111_2 := gz BK257 2 rfl
        have hcz111_3 := gz BK257 3 rfl
        have hcz111_4 := gz BK257 4 rfl
        have hcz111_5 := gz BK257 5 rfl
        have hcz111_6 := gz BK257 6 rfl
        have hcz111_7 := gz BK257 7 rfl
        have hcz111_8 := gz BK257 8 rfl
        have hcz111_9 := gz BK257 9 rfl
        have hcz111_10 := gz BK257 10 rfl
        have hcz111_11 := gz BK257 11 rfl
        have hcz111_12 := gz BK257 12 rfl
        have hcz111_13 := gz BK257 13 rfl
        have hfz111_0 := blk_frozen BK257.out 0
        have hfz111_1 := blk_frozen BK257.out 1
        have hfz111_2 := blk_frozen BK257.out 2
        have hfz111_3 := blk_frozen BK257.out 3
        have hfz111_4 := blk_frozen BK257.out 4
        have hfz111_5 := blk_frozen BK257.out 5
        have hfz111_6 := blk_frozen BK257.out 6
        have hfz111_7 := blk_frozen BK257.out 7
        have hfz111_8 := blk_frozen BK257.out 8
        have hfz111_9 := blk_frozen BK257.out 9
        have hfz111_10 := blk_frozen BK257.out 10
        have hfz111_11 := blk_frozen BK257.out 11
        have hfz111_12 := blk_frozen BK257.out 12
        have hfz111_13 := blk_frozen BK257.out 13
        go_wp2
        go_ret2
        exact ⟨rfl, by repeat first | exact gB HB | refine below_set ?_ GE256.out | refine below_set ?_ GE257.out⟩
 ·replace c4 := Bool.eq_false_iff.mpr c4
  subst c4
  have H1 : (some ((⟨#[]⟩ : ByteArray), 1)) = some (r1, r2) := by rw [if_neg (show ¬ (false = true) by decide)] at H; exact H
  clear H; have H := H1; clear H1
  simp only [Option.some.injEq, Prod.mk.injEq] at H
  obtain ⟨rfl, rfl⟩ := H
  go_enter Try.func11, Try.ntmps11
  go_wp2_with (first | ((with_reducible refine gate_dst (N := 2) rfl ?_); refine box_event ?hg (N := 2) ?hd (cs := #[.slice A0_0 l0_0.length c0_0, .slice A0_1 l0_1.length c0_1]) (t := 28) ?hr ?_; (case hd => rfl); (case hg => rfl); (case hr => first | (go_simp; done) | (go_simp; rfl)); intro gb256 hg w112 hbox hb; have BK256 := gA (hbox); have GW256 := gA ((by rw [hg]; exact (below_size (gB HB)) : w.heap.size ≤ gb256)); have GE256 := gA ((by rw [hg]; exact (below_size (gB HB)) : w.heap.size ≤ gb256)); replace HB := gA (below_step (gB HB) hb); clear hb hbox hg) | ((with_reducible refine gate_dst (N := 3) rfl ?_); refine box_event ?hg (N := 3) ?hd (cs := #[.slice A1_0 l1_0.length c1_0, .slice A1_1 l1_1.length c1_1, .slice A1_2 l1_2.length c1_2, .string a1_3, .string a1_4, .string a1_5, .string a1_6, .string a1_7, .string a1_8, .string a1_9, .string a1_10, .bool a1_11, .bool a1_12, .bool a1_13]) (t := 32) ?hr ?_; (case hd => rfl); (case hg => rfl); (case hr => first | (go_simp; done) | (go_simp; rfl)); intro gb257 hg w113 hbox hb; have BK257 := gA (hbox); have GW257 := gA ((by rw [hg]; exact (below_size (gB HB)) : w.heap.size ≤ gb257)); have GE257 := gA ((by rw [hg]; exact (below_size (gB HB)) : w.heap.size ≤ gb257)); replace HB := gA (below_step (gB HB) hb); have NB256_257 := gA ((by rw [hg]; exact Nat.ne_of_lt (blk_lt (gK BK256)) : gb256 ≠ gb257)); have NB257_256 := gA ((by rw [hg]; exact Nat.ne_of_gt (blk_lt (gK BK256)) : gb257 ≠ gb256)); replace BK256 := gA (blk_below (gK BK256) hb); clear hb hbox hg; have hnb114 := NB256_257.out; have hnc114 := NB257_256.out; obtain ⟨hcz115_0, hcz115_1, hfz115_0, hfz115_1⟩ := gz2 BK256) | ((with_reducible refine gate_callee (f := 28) rfl ?_); refine goesL_ (some 11) rfl rfl Try.func28 (by kernel_rfl) rfl #[.agg #[.slice A0_0 l0_0.length c0_0, .slice A0_1 l0_1.length c0_1]] rfl (by (try simp only [List.map_toArray, List.map_cons, List.map_nil]); first | done | rfl | (simp only [List.length_drop, List.length_take]; rfl)) ?_; (with_reducible refine (triglyphref10_Literal.calls k _ _ l0_0 _ _ l0_1 false _ ?side1 ?side2 ?side3 ?side4 A3.out).mono ?_); (case side1 => exact gC HR0_0 HB); (case side2 => exact HC0_0.out); (case side3 => exact gC HR0_1 HB); (case side4 => exact HC0_1.out); rintro e w116 ⟨rfl, hb⟩; refine ⟨_, rfl, ?_⟩; replace BK256 := gA (blk_below (gK BK256) hb); replace BK257 := gA (blk_below (gK BK257) hb); replace HB := gA (below_step (gB HB) hb); (try clear hb)))
  go_ret2
  exact ⟨rfl, by repeat first | exact gB HB | refine below_set ?_ GE256.out | refine below_set ?_ GE257.out⟩
end Go.Proofs.Yteamkcgkhcalhaa.P
