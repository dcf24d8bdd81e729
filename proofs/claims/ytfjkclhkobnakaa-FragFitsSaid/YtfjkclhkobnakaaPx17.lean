/- Written by a program of this session: the functions that the laws reach, what each comes to, and each law as it is stated, for every input. No condition. -/
import Derived.Test.YtfjkclhkobnakaaPx0
import Derived.Test.YtfjkclhkobnakaaPx16
namespace Go.Proofs.Ytfjkclhkobnakaa.P
open Go.RowKit Go.Proofs.YtfjkclhkobnakaaW.PrintWords Go.Proofs.YtfjkclhkobnakaaW.PrintLast Go.Proofs.YtfjkclhkobnakaaW.PrintMore
attribute [local go_sem] max2_int min2_int max_two min_two max_three min_three max_four min_four   -- for this text's walks alone
set_option linter.unusedVariables false
set_option linter.unusedSimpArgs false
def triglyphref24_Reason.f (k : Nat) (a0 : Int) (a1_0 : Int) (a1_1 : Int) (a1_2 : ByteArray) (l1_3 : List (Int)) (l1_4 : List (S57)) (l1_5 : List (S28)) (a1_6 : Int) : Option (Int) :=
 if a1_0 = 21 then (if a1_1 = 19 then (some 1) else (if a1_1 = 54 then (some 1) else (if a1_1 = 10 then (if a0 = 1 then (some 0) else ((triglyphref24_Word.f k a0 a1_1).bind fun t9 => (if t9.toList = (⟨#[]⟩ : ByteArray).toList then (some 2) else (if a0 = 2 then (some 0) else (some 0))))) else (if a1_1 = 45 then (if a0 = 1 then (some 0) else ((triglyphref24_Word.f k a0 a1_1).bind fun t23 => (if t23.toList = (⟨#[]⟩ : ByteArray).toList then (some 2) else (if a0 = 2 then (some 0) else (some 0))))) else (if a1_1 = 53 then (if a0 = 2 then ((triglyphref24_Word.f k a0 a1_1).bind fun t36 => (if t36.toList = (⟨#[]⟩ : ByteArray).toList then (some 2) else (some 0))) else (some 0)) else ((triglyphref24_Word.f k a0 a1_1).bind fun t47 => (if t47.toList = (⟨#[]⟩ : ByteArray).toList then (some 2) else (if a0 = 2 then (some 0) else (some 0))))))))) else (if a0 = 2 then (if a1_0 = 32 then (some 9) else (if a1_0 = 34 then (some 9) else (if a1_0 = 35 then (some 7) else (if a1_0 = 25 then (some 8) else (if a1_0 = 31 then (if (0 : Int) < (l1_5.length : Int) then (if (rd_T28 l1_5 0).f0 = 21 then (if (rd_T28 l1_5 0).f1 = 21 then (some 0) else (if (rd_T28 l1_5 0).f1 = 23 then (some 0) else (if (rd_T28 l1_5 0).f1 = 24 then (some 0) else (if (rd_T28 l1_5 0).f1 = 25 then (some 0) else (some 3))))) else (some 0)) else (none)) else (if a1_0 = 33 then (if (0 : Int) < (l1_5.length : Int) then (if (rd_T28 l1_5 0).f0 = 21 then (if (rd_T28 l1_5 0).f1 = 21 then (some 0) else (if (rd_T28 l1_5 0).f1 = 23 then (some 0) else (if (rd_T28 l1_5 0).f1 = 24 then (some 0) else (if (rd_T28 l1_5 0).f1 = 25 then (some 0) else (some 3))))) else (some 0)) else (none)) else (some 0))))))) else (some 0))
theorem triglyphref24_Reason.mono : ∀ y0 y1 y2 y3 y4 y5 y6 y7 k, LeO (triglyphref24_Reason.f k y0 y1 y2 y3 y4 y5 y6 y7) (triglyphref24_Reason.f (k + 1) y0 y1 y2 y3 y4 y5 y6 y7) := by
 intro y0 y1 y2 y3 y4 y5 y6 y7 k
 unfold triglyphref24_Reason.f
 repeat (first | exact LeO.refl _ | exact LeO.none _ | refine LeO.ite ?_ ?_ | refine LeO.bind (triglyphref24_Word.mono _ _ _) (fun _ => ?_) | refine LeO.bind (LeO.refl _) (fun _ => ?_))
set_option maxHeartbeats 8000000 in
set_option maxRecDepth 100000 in
theorem triglyphref24_Reason.calls (k : Nat) (a0 : Int) (a1_0 : Int) (a1_1 : Int) (a1_2 : ByteArray) (A1_3 : Option Addr) (c1_3 : Nat) (l1_3 : List (Int)) (A1_4 : Option Addr) (c1_4 : Nat) (l1_4 : List (S57)) (A1_5 : Option Addr) (c1_5 : Nat) (l1_5 : List (S28)) (a1_6 : Int) (r : Int) (w : World) (hr1_3 : Kd.C (Kd.int .i64) w A1_3 l1_3.length l1_3) (hc1_3 : l1_3.length ≤ c1_3) (hr1_4 : Kd.C k57 w A1_4 l1_4.length l1_4) (hc1_4 : l1_4.length ≤ c1_4) (hr1_5 : Kd.C k28 w A1_5 l1_5.length l1_5) (hc1_5 : l1_5.length ≤ c1_5) (h : triglyphref24_Reason.f k a0 a1_0 a1_1 a1_2 l1_3 l1_4 l1_5 a1_6 = some r) :
  Calls Try.prog 32 #[.int .i64 a0, .agg #[.int .i64 a1_0, .int .i64 a1_1, .string a1_2, .slice A1_3 l1_3.length c1_3, .slice A1_4 l1_4.length c1_4, .slice A1_5 l1_5.length c1_5, .int .i64 a1_6]] w fun e w' => e = .returned (.int .i64 r) ∧ Below w.heap.size w w' := by
 have CRa1_3 := Aside0.mk (And.intro hr1_3 hc1_3); clear hr1_3 hc1_3
 have CRa1_4 := Aside0.mk (And.intro hr1_4 hc1_4); clear hr1_4 hc1_4
 have CRa1_5 := Aside0.mk (And.intro hr1_5 hc1_5); clear hr1_5 hc1_5
 have HS := Aside0.mk (BxS.nil w)
 unfold triglyphref24_Reason.f at h
 go_enter Try.func32, Try.ntmps32
 go_upto_region 1 with (fail)
 (try clear z0_0 z0_1 z0_2 z0_3 z0_4 z0_5 z0_6); skip
 have HS := Aside0.mk (HS.out.cons' #[.int .i64 a1_0, .int .i64 a1_1, .string a1_2, .slice A1_3 l1_3.length c1_3, .slice A1_4 l1_4.length c1_4, .slice A1_5 l1_5.length c1_5, .int .i64 a1_6] 28 (rfl))
 have CRa1_3 := Aside0.mk (And.intro (Kd.C_alloc CRa1_3.out.1 (.cells #[.int .i64 a1_0, .int .i64 a1_1, .string a1_2, .slice A1_3 l1_3.length c1_3, .slice A1_4 l1_4.length c1_4, .slice A1_5 l1_5.length c1_5, .int .i64 a1_6] 28)) CRa1_3.out.2)
 have CRa1_4 := Aside0.mk (And.intro (Kd.C_alloc CRa1_4.out.1 (.cells #[.int .i64 a1_0, .int .i64 a1_1, .string a1_2, .slice A1_3 l1_3.length c1_3, .slice A1_4 l1_4.length c1_4, .slice A1_5 l1_5.length c1_5, .int .i64 a1_6] 28)) CRa1_4.out.2)
 have CRa1_5 := Aside0.mk (And.intro (Kd.C_alloc CRa1_5.out.1 (.cells #[.int .i64 a1_0, .int .i64 a1_1, .string a1_2, .slice A1_3 l1_3.length c1_3, .slice A1_4 l1_4.length c1_4, .slice A1_5 l1_5.length c1_5, .int .i64 a1_6] 28)) CRa1_5.out.2)
 generalize w.alloc (.cells #[.int .i64 a1_0, .int .i64 a1_1, .string a1_2, .slice A1_3 l1_3.length c1_3, .slice A1_4 l1_4.length c1_4, .slice A1_5 l1_5.length c1_5, .int .i64 a1_6] 28) = w1 at HS CRa1_3 CRa1_4 CRa1_5 ⊢
 obtain ⟨z0_0, z0_1, z0_2, z0_3, z0_4, z0_5, z0_6⟩ := hf_c7 (HS.out.at_ 0 rfl)
 by_cases q2 : a1_0 = 21
 ·rw [if_pos q2] at h
  have q2b0 := (beq_iff_eq.2 q2 : (a1_0 == 21) = true)
  have Iq2 := Aside0.mk q2
  clear q2
  by_cases q3 : a1_1 = 19
  ·rw [if_pos q3] at h
   have q3b0 := (beq_iff_eq.2 q3 : (a1_1 == 19) = true)
   have Iq3 := Aside0.mk q3
   clear q3
   obtain rfl := Option.some.inj h
   go_wp2_with (fail)
   go_ret
   exact ⟨rfl, HS.out.bel⟩
  ·rw [if_neg q3] at h
   have q3b0 := (beq_eq_false_iff_ne.2 q3 : (a1_1 == 19) = false)
   have Iq3 := Aside0.mk q3
   clear q3
   by_cases q4 : a1_1 = 54
   ·rw [if_pos q4] at h
    have q4b0 := (beq_iff_eq.2 q4 : (a1_1 == 54) = true)
    have Iq4 := Aside0.mk q4
    clear q4
    obtain rfl := Option.some.inj h
    go_wp2_with (fail)
    go_ret
    exact ⟨rfl, HS.out.bel⟩
   ·rw [if_neg q4] at h
    have q4b0 := (beq_eq_false_iff_ne.2 q4 : (a1_1 == 54) = false)
    have Iq4 := Aside0.mk q4
    clear q4
    by_cases q5 : a1_1 = 10
    ·rw [if_pos q5] at h
     have q5b0 := (beq_iff_eq.2 q5 : (a1_1 == 10) = true)
     have Iq5 := Aside0.mk q5
     clear q5
     by_cases q6 : a0 = 1
     ·rw [if_pos q6] at h
      have q6b0 := (beq_iff_eq.2 q6 : (a0 == 1) = true)
      have Iq6 := Aside0.mk q6
      clear q6
      obtain rfl := Option.some.inj h
      go_wp2_with (fail)
      go_ret
      exact ⟨rfl, HS.out.bel⟩
     ·rw [if_neg q6] at h
      have q6b0 := (beq_eq_false_iff_ne.2 q6 : (a0 == 1) = false)
      have Iq6 := Aside0.mk q6
      clear q6
      have q7b0 : (a1_1 == 45) = false := by have Iq3 := Iq3.out; have Iq4 := Iq4.out; have Iq5 := Iq5.out; exact beq_eq_false_iff_ne.2 (by omega)
      have q8b0 : (a1_1 == 53) = false := by have Iq3 := Iq3.out; have Iq4 := Iq4.out; have Iq5 := Iq5.out; exact beq_eq_false_iff_ne.2 (by omega)
      obtain ⟨t9, q_, h⟩ := Option.bind_eq_some_iff.1 h; have E10 := Aside0.mk q_; clear q_
      by_cases q12 : t9.toList = (⟨#[]⟩ : ByteArray).toList
      ·rw [if_pos q12] at h
       have q12b0 := (show (t9.toList == (⟨#[]⟩ : ByteArray).toList) = true from beq_iff_eq.2 q12)
       have q12b1 := (show (t9.toList != (⟨#[]⟩ : ByteArray).toList) = false from bne_eq_false_iff_eq.2 q12)
       have q12b2 := (show t9.toList.isEmpty = true from by rw [q12]; kernel_rfl)
       clear q12
       obtain rfl := Option.some.inj h
       go_wp2_with (first | (go_at_call 10; (with_reducible refine (triglyphref24_Word.calls k a0 a1_1 _ _ E10.out).mono ?_); rintro e w11 ⟨rfl, hb⟩; have CRa1_3 := Aside0.mk (And.intro (Kd.C_below CRa1_3.out.1 hb) CRa1_3.out.2); have CRa1_4 := Aside0.mk (And.intro (Kd.C_below CRa1_4.out.1 hb) CRa1_4.out.2); have CRa1_5 := Aside0.mk (And.intro (Kd.C_below CRa1_5.out.1 hb) CRa1_5.out.2); have HS := Aside0.mk (HS.out.step hb); clear hb; (try clear z0_0 z0_1 z0_2 z0_3 z0_4 z0_5 z0_6); obtain ⟨z0_0, z0_1, z0_2, z0_3, z0_4, z0_5, z0_6⟩ := hf_c7 (HS.out.at_ 0 rfl)))
       go_ret
       exact ⟨rfl, HS.out.bel⟩
      ·rw [if_neg q12] at h
       have q12b0 := (show (t9.toList == (⟨#[]⟩ : ByteArray).toList) = false from beq_eq_false_iff_ne.2 q12)
       have q12b1 := (show (t9.toList != (⟨#[]⟩ : ByteArray).toList) = true from bne_iff_ne.2 q12)
       have q12b2 := (show t9.toList.isEmpty = false from by cases h_ : t9.toList.isEmpty with | false => rfl | true => exact absurd ((List.isEmpty_iff.1 h_).trans (show ([] : List UInt8) = (⟨#[]⟩ : ByteArray).toList from by kernel_rfl)) q12)
       clear q12
       by_cases q13 : a0 = 2
       ·rw [if_pos q13] at h
        have q13b0 := (bne_eq_false_iff_eq.2 q13 : (a0 != 2) = false)
        have Iq13 := Aside0.mk q13
        clear q13
        have q14b0 : (a1_0 == 32) = false := by have Iq2 := Iq2.out; exact beq_eq_false_iff_ne.2 (by omega)
        have q15b0 : (a1_0 == 34) = false := by have Iq2 := Iq2.out; exact beq_eq_false_iff_ne.2 (by omega)
        have q16b0 : (a1_0 == 35) = false := by have Iq2 := Iq2.out; exact beq_eq_false_iff_ne.2 (by omega)
        have q17b0 : (a1_0 == 25) = false := by have Iq2 := Iq2.out; exact beq_eq_false_iff_ne.2 (by omega)
        have q18b0 : (a1_0 == 31) = false := by have Iq2 := Iq2.out; exact beq_eq_false_iff_ne.2 (by omega)
        have q19b0 : (a1_0 == 33) = false := by have Iq2 := Iq2.out; exact beq_eq_false_iff_ne.2 (by omega)
        obtain rfl := Option.some.inj h
        go_wp2_with (first | (go_at_call 10; (with_reducible refine (triglyphref24_Word.calls k a0 a1_1 _ _ E10.out).mono ?_); rintro e w11 ⟨rfl, hb⟩; have CRa1_3 := Aside0.mk (And.intro (Kd.C_below CRa1_3.out.1 hb) CRa1_3.out.2); have CRa1_4 := Aside0.mk (And.intro (Kd.C_below CRa1_4.out.1 hb) CRa1_4.out.2); have CRa1_5 := Aside0.mk (And.intro (Kd.C_below CRa1_5.out.1 hb) CRa1_5.out.2); have HS := Aside0.mk (HS.out.step hb); clear hb; (try clear z0_0 z0_1 z0_2 z0_3 z0_4 z0_5 z0_6); obtain ⟨z0_0, z0_1, z0_2, z0_3, z0_4, z0_5, z0_6⟩ := hf_c7 (HS.out.at_ 0 rfl)))
        go_ret
        exact ⟨rfl, HS.out.bel⟩
       ·rw [if_neg q13] at h
        have q13b0 := (bne_iff_ne.2 q13 : (a0 != 2) = true)
        have Iq13 := Aside0.mk q13
        clear q13
        obtain rfl := Option.some.inj h
        go_wp2_with (first | (go_at_call 10; (with_reducible refine (triglyphref24_Word.calls k a0 a1_1 _ _ E10.out).mono ?_); rintro e w11 ⟨rfl, hb⟩; have CRa1_3 := Aside0.mk (And.intro (Kd.C_below CRa1_3.out.1 hb) CRa1_3.out.2); have CRa1_4 := Aside0.mk (And.intro (Kd.C_below CRa1_4.out.1 hb) CRa1_4.out.2); have CRa1_5 := Aside0.mk (And.intro (Kd.C_below CRa1_5.out.1 hb) CRa1_5.out.2); have HS := Aside0.mk (HS.out.step hb); clear hb; (try clear z0_0 z0_1 z0_2 z0_3 z0_4 z0_5 z0_6); obtain ⟨z0_0, z0_1, z0_2, z0_3, z0_4, z0_5, z0_6⟩ := hf_c7 (HS.out.at_ 0 rfl)))
        go_ret
        exact ⟨rfl, HS.out.bel⟩
    ·rw [if_neg q5] at h
     have q5b0 := (beq_eq_false_iff_ne.2 q5 : (a1_1 == 10) = false)
     have Iq5 := Aside0.mk q5
     clear q5
     by_cases q20 : a1_1 = 45
     ·rw [if_pos q20] at h
      have q20b0 := (beq_iff_eq.2 q20 : (a1_1 == 45) = true)
      have Iq20 := Aside0.mk q20
      clear q20
      by_cases q21 : a0 = 1
      ·rw [if_pos q21] at h
       have q21b0 := (beq_iff_eq.2 q21 : (a0 == 1) = true)
       have Iq21 := Aside0.mk q21
       clear q21
       obtain rfl := Option.some.inj h
       go_wp2_with (fail)
       go_ret
       exact ⟨rfl, HS.out.bel⟩
      ·rw [if_neg q21] at h
       have q21b0 := (beq_eq_false_iff_ne.2 q21 : (a0 == 1) = false)
       have Iq21 := Aside0.mk q21
       clear q21
       have q22b0 : (a1_1 == 53) = false := by have Iq3 := Iq3.out; have Iq4 := Iq4.out; have Iq5 := Iq5.out; have Iq20 := Iq20.out; exact beq_eq_false_iff_ne.2 (by omega)
       obtain ⟨t23, q_, h⟩ := Option.bind_eq_some_iff.1 h; have E24 := Aside0.mk q_; clear q_
       by_cases q26 : t23.toList = (⟨#[]⟩ : ByteArray).toList
       ·rw [if_pos q26] at h
        have q26b0 := (show (t23.toList == (⟨#[]⟩ : ByteArray).toList) = true from beq_iff_eq.2 q26)
        have q26b1 := (show (t23.toList != (⟨#[]⟩ : ByteArray).toList) = false from bne_eq_false_iff_eq.2 q26)
        have q26b2 := (show t23.toList.isEmpty = true from by rw [q26]; kernel_rfl)
        clear q26
        obtain rfl := Option.some.inj h
        go_wp2_with (first | (go_at_call 10; (with_reducible refine (triglyphref24_Word.calls k a0 a1_1 _ _ E24.out).mono ?_); rintro e w25 ⟨rfl, hb⟩; have CRa1_3 := Aside0.mk (And.intro (Kd.C_below CRa1_3.out.1 hb) CRa1_3.out.2); have CRa1_4 := Aside0.mk (And.intro (Kd.C_below CRa1_4.out.1 hb) CRa1_4.out.2); have CRa1_5 := Aside0.mk (And.intro (Kd.C_below CRa1_5.out.1 hb) CRa1_5.out.2); have HS := Aside0.mk (HS.out.step hb); clear hb; (try clear z0_0 z0_1 z0_2 z0_3 z0_4 z0_5 z0_6); obtain ⟨z0_0, z0_1, z0_2, z0_3, z0_4, z0_5, z0_6⟩ := hf_c7 (HS.out.at_ 0 rfl)))
        go_ret
        exact ⟨rfl, HS.out.bel⟩
       ·rw [if_neg q26] at h
        have q26b0 := (show (t23.toList == (⟨#[]⟩ : ByteArray).toList) = false from beq_eq_false_iff_ne.2 q26)
        have q26b1 := (show (t23.toList != (⟨#[]⟩ : ByteArray).toList) = true from bne_iff_ne.2 q26)
        have q26b2 := (show t23.toList.isEmpty = false from by cases h_ : t23.toList.isEmpty with | false => rfl | true => exact absurd ((List.isEmpty_iff.1 h_).trans (show ([] : List UInt8) = (⟨#[]⟩ : ByteArray).toList from by kernel_rfl)) q26)
        clear q26
        by_cases q27 : a0 = 2
        ·rw [if_pos q27] at h
         have q27b0 := (bne_eq_false_iff_eq.2 q27 : (a0 != 2) = false)
         have Iq27 := Aside0.mk q27
         clear q27
         have q28b0 : (a1_0 == 32) = false := by have Iq2 := Iq2.out; exact beq_eq_false_iff_ne.2 (by omega)
         have q29b0 : (a1_0 == 34) = false := by have Iq2 := Iq2.out; exact beq_eq_false_iff_ne.2 (by omega)
         have q30b0 : (a1_0 == 35) = false := by have Iq2 := Iq2.out; exact beq_eq_false_iff_ne.2 (by omega)
         have q31b0 : (a1_0 == 25) = false := by have Iq2 := Iq2.out; exact beq_eq_false_iff_ne.2 (by omega)
         have q32b0 : (a1_0 == 31) = false := by have Iq2 := Iq2.out; exact beq_eq_false_iff_ne.2 (by omega)
         have q33b0 : (a1_0 == 33) = false := by have Iq2 := Iq2.out; exact beq_eq_false_iff_ne.2 (by omega)
         obtain rfl := Option.some.inj h
         go_wp2_with (first | (go_at_call 10; (with_reducible refine (triglyphref24_Word.calls k a0 a1_1 _ _ E24.out).mono ?_); rintro e w25 ⟨rfl, hb⟩; have CRa1_3 := Aside0.mk (And.intro (Kd.C_below CRa1_3.out.1 hb) CRa1_3.out.2); have CRa1_4 := Aside0.mk (And.intro (Kd.C_below CRa1_4.out.1 hb) CRa1_4.out.2); have CRa1_5 := Aside0.mk (And.intro (Kd.C_below CRa1_5.out.1 hb) CRa1_5.out.2); have HS := Aside0.mk (HS.out.step hb); clear hb; (try clear z0_0 z0_1 z0_2 z0_3 z0_4 z0_5 z0_6); obtain ⟨z0_0, z0_1, z0_2, z0_3, z0_4, z0_5, z0_6⟩ := hf_c7 (HS.out.at_ 0 rfl)))
         go_ret
         exact ⟨rfl, HS.out.bel⟩
        ·rw [if_neg q27] at h
         have q27b0 := (bne_iff_ne.2 q27 : (a0 != 2) = true)
         have Iq27 := Aside0.mk q27
         clear q27
         obtain rfl := Option.some.inj h
         go_wp2_with (first | (go_at_call 10; (with_reducible refine (triglyphref24_Word.calls k a0 a1_1 _ _ E24.out).mono ?_); rintro e w25 ⟨rfl, hb⟩; have CRa1_3 := Aside0.mk (And.intro (Kd.C_below CRa1_3.out.1 hb) CRa1_3.out.2); have CRa1_4 := Aside0.mk (And.intro (Kd.C_below CRa1_4.out.1 hb) CRa1_4.out.2); have CRa1_5 := Aside0.mk (And.intro (Kd.C_below CRa1_5.out.1 hb) CRa1_5.out.2); have HS := Aside0.mk (HS.out.step hb); clear hb; (try clear z0_0 z0_1 z0_2 z0_3 z0_4 z0_5 z0_6); obtain ⟨z0_0, z0_1, z0_2, z0_3, z0_4, z0_5, z0_6⟩ := hf_c7 (HS.out.at_ 0 rfl)))
         go_ret
         exact ⟨rfl, HS.out.bel⟩
     ·rw [if_neg q20] at h
      have q20b0 := (beq_eq_false_iff_ne.2 q20 : (a1_1 == 45) = false)
      have Iq20 := Aside0.mk q20
      clear q20
      by_cases q34 : a1_1 = 53
      ·rw [if_pos q34] at h
       have q34b0 := (beq_iff_eq.2 q34 : (a1_1 == 53) = true)
       have Iq34 := Aside0.mk q34
       clear q34
       by_cases q35 : a0 = 2
       ·rw [if_pos q35] at h
        have q35b0 := (bne_eq_false_iff_eq.2 q35 : (a0 != 2) = false)
        have Iq35 := Aside0.mk q35
        clear q35
        obtain ⟨t36, q_, h⟩ := Option.bind_eq_some_iff.1 h; have E37 := Aside0.mk q_; clear q_
        by_cases q39 : t36.toList = (⟨#[]⟩ : ByteArray).toList
        ·rw [if_pos q39] at h
         have q39b0 := (show (t36.toList == (⟨#[]⟩ : ByteArray).toList) = true from beq_iff_eq.2 q39)
         have q39b1 := (show (t36.toList != (⟨#[]⟩ : ByteArray).toList) = false from bne_eq_false_iff_eq.2 q39)
         have q39b2 := (show t36.toList.isEmpty = true from by rw [q39]; kernel_rfl)
         clear q39
         obtain rfl := Option.some.inj h
         go_wp2_with (first | (go_at_call 10; (with_reducible refine (triglyphref24_Word.calls k a0 a1_1 _ _ E37.out).mono ?_); rintro e w38 ⟨rfl, hb⟩; have CRa1_3 := Aside0.mk (And.intro (Kd.C_below CRa1_3.out.1 hb) CRa1_3.out.2); have CRa1_4 := Aside0.mk (And.intro (Kd.C_below CRa1_4.out.1 hb) CRa1_4.out.2); have CRa1_5 := Aside0.mk (And.intro (Kd.C_below CRa1_5.out.1 hb) CRa1_5.out.2); have HS := Aside0.mk (HS.out.step hb); clear hb; (try clear z0_0 z0_1 z0_2 z0_3 z0_4 z0_5 z0_6); obtain ⟨z0_0, z0_1, z0_2, z0_3, z0_4, z0_5, z0_6⟩ := hf_c7 (HS.out.at_ 0 rfl)))
         go_ret
         exact ⟨rfl, HS.out.bel⟩
        ·rw [if_neg q39] at h
         have q39b0 := (show (t36.toList == (⟨#[]⟩ : ByteArray).toList) = false from beq_eq_false_iff_ne.2 q39)
         have q39b1 := (show (t36.toList != (⟨#[]⟩ : ByteArray).toList) = true from bne_iff_ne.2 q39)
         have q39b2 := (show t36.toList.isEmpty = false from by cases h_ : t36.toList.isEmpty with | false => rfl | true => exact absurd ((List.isEmpty_iff.1 h_).trans (show ([] : List UInt8) = (⟨#[]⟩ : ByteArray).toList from by kernel_rfl)) q39)
         clear q39
         have q40b0 : (a0 != 2) = false := by have Iq35 := Iq35.out; exact bne_eq_false_iff_eq.2 (by omega)
         have q41b0 : (a1_0 == 32) = false := by have Iq2 := Iq2.out; exact beq_eq_false_iff_ne.2 (by omega)
         have q42b0 : (a1_0 == 34) = false := by have Iq2 := Iq2.out; exact beq_eq_false_iff_ne.2 (by omega)
         have q43b0 : (a1_0 == 35) = false := by have Iq2 := Iq2.out; exact beq_eq_false_iff_ne.2 (by omega)
         have q44b0 : (a1_0 == 25) = false := by have Iq2 := Iq2.out; exact beq_eq_false_iff_ne.2 (by omega)
         have q45b0 : (a1_0 == 31) = false := by have Iq2 := Iq2.out; exact beq_eq_false_iff_ne.2 (by omega)
         have q46b0 : (a1_0 == 33) = false := by have Iq2 := Iq2.out; exact beq_eq_false_iff_ne.2 (by omega)
         obtain rfl := Option.some.inj h
         go_wp2_with (first | (go_at_call 10; (with_reducible refine (triglyphref24_Word.calls k a0 a1_1 _ _ E37.out).mono ?_); rintro e w38 ⟨rfl, hb⟩; have CRa1_3 := Aside0.mk (And.intro (Kd.C_below CRa1_3.out.1 hb) CRa1_3.out.2); have CRa1_4 := Aside0.mk (And.intro (Kd.C_below CRa1_4.out.1 hb) CRa1_4.out.2); have CRa1_5 := Aside0.mk (And.intro (Kd.C_below CRa1_5.out.1 hb) CRa1_5.out.2); have HS := Aside0.mk (HS.out.step hb); clear hb; (try clear z0_0 z0_1 z0_2 z0_3 z0_4 z0_5 z0_6); obtain ⟨z0_0, z0_1, z0_2, z0_3, z0_4, z0_5, z0_6⟩ := hf_c7 (HS.out.at_ 0 rfl)))
         go_ret
         exact ⟨rfl, HS.out.bel⟩
       ·rw [if_neg q35] at h
        have q35b0 := (bne_iff_ne.2 q35 : (a0 != 2) = true)
        have Iq35 := Aside0.mk q35
        clear q35
        obtain rfl := Option.some.inj h
        go_wp2_with (fail)
        go_ret
        exact ⟨rfl, HS.out.bel⟩
      ·rw [if_neg q34] at h
       have q34b0 := (beq_eq_false_iff_ne.2 q34 : (a1_1 == 53) = false)
       have Iq34 := Aside0.mk q34
       clear q34
       obtain ⟨t47, q_, h⟩ := Option.bind_eq_some_iff.1 h; have E48 := Aside0.mk q_; clear q_
       by_cases q50 : t47.toList = (⟨#[]⟩ : ByteArray).toList
       ·rw [if_pos q50] at h
        have q50b0 := (show (t47.toList == (⟨#[]⟩ : ByteArray).toList) = true from beq_iff_eq.2 q50)
        have q50b1 := (show (t47.toList != (⟨#[]⟩ : ByteArray).toList) = false from bne_eq_false_iff_eq.2 q50)
        have q50b2 := (show t47.toList.isEmpty = true from by rw [q50]; kernel_rfl)
        clear q50
        obtain rfl := Option.some.inj h
        go_wp2_with (first | (go_at_call 10; (with_reducible refine (triglyphref24_Word.calls k a0 a1_1 _ _ E48.out).mono ?_); rintro e w49 ⟨rfl, hb⟩; have CRa1_3 := Aside0.mk (And.intro (Kd.C_below CRa1_3.out.1 hb) CRa1_3.out.2); have CRa1_4 := Aside0.mk (And.intro (Kd.C_below CRa1_4.out.1 hb) CRa1_4.out.2); have CRa1_5 := Aside0.mk (And.intro (Kd.C_below CRa1_5.out.1 hb) CRa1_5.out.2); have HS := Aside0.mk (HS.out.step hb); clear hb; (try clear z0_0 z0_1 z0_2 z0_3 z0_4 z0_5 z0_6); obtain ⟨z0_0, z0_1, z0_2, z0_3, z0_4, z0_5, z0_6⟩ := hf_c7 (HS.out.at_ 0 rfl)))
        go_ret
        exact ⟨rfl, HS.out.bel⟩
       ·rw [if_neg q50] at h
        have q50b0 := (show (t47.toList == (⟨#[]⟩ : ByteArray).toList) = false from beq_eq_false_iff_ne.2 q50)
        have q50b1 := (show (t47.toList != (⟨#[]⟩ : ByteArray).toList) = true from bne_iff_ne.2 q50)
        have q50b2 := (show t47.toList.isEmpty = false from by cases h_ : t47.toList.isEmpty with | false => rfl | true => exact absurd ((List.isEmpty_iff.1 h_).trans (show ([] : List UInt8) = (⟨#[]⟩ : ByteArray).toList from by kernel_rfl)) q50)
        clear q50
        by_cases q51 : a0 = 2
        ·rw [if_pos q51] at h
         have q51b0 := (bne_eq_false_iff_eq.2 q51 : (a0 != 2) = false)
         have Iq51 := Aside0.mk q51
         clear q51
         have q52b0 : (a1_0 == 32) = false := by have Iq2 := Iq2.out; exact beq_eq_false_iff_ne.2 (by omega)
         have q53b0 : (a1_0 == 34) = false := by have Iq2 := Iq2.out; exact beq_eq_false_iff_ne.2 (by omega)
         have q54b0 : (a1_0 == 35) = false := by have Iq2 := Iq2.out; exact beq_eq_false_iff_ne.2 (by omega)
         have q55b0 : (a1_0 == 25) = false := by have Iq2 := Iq2.out; exact beq_eq_false_iff_ne.2 (by omega)
         have q56b0 : (a1_0 == 31) = false := by have Iq2 := Iq2.out; exact beq_eq_false_iff_ne.2 (by omega)
         have q57b0 : (a1_0 == 33) = false := by have Iq2 := Iq2.out; exact beq_eq_false_iff_ne.2 (by omega)
         obtain rfl := Option.some.inj h
         go_wp2_with (first | (go_at_call 10; (with_reducible refine (triglyphref24_Word.calls k a0 a1_1 _ _ E48.out).mono ?_); rintro e w49 ⟨rfl, hb⟩; have CRa1_3 := Aside0.mk (And.intro (Kd.C_below CRa1_3.out.1 hb) CRa1_3.out.2); have CRa1_4 := Aside0.mk (And.intro (Kd.C_below CRa1_4.out.1 hb) CRa1_4.out.2); have CRa1_5 := Aside0.mk (And.intro (Kd.C_below CRa1_5.out.1 hb) CRa1_5.out.2); have HS := Aside0.mk (HS.out.step hb); clear hb; (try clear z0_0 z0_1 z0_2 z0_3 z0_4 z0_5 z0_6); obtain ⟨z0_0, z0_1, z0_2, z0_3, z0_4, z0_5, z0_6⟩ := hf_c7 (HS.out.at_ 0 rfl)))
         go_ret
         exact ⟨rfl, HS.out.bel⟩
        ·rw [if_neg q51] at h
         have q51b0 := (bne_iff_ne.2 q51 : (a0 != 2) = true)
         have Iq51 := Aside0.mk q51
         clear q51
         obtain rfl := Option.some.inj h
         go_wp2_with (first | (go_at_call 10; (with_reducible refine (triglyphref24_Word.calls k a0 a1_1 _ _ E48.out).mono ?_); rintro e w49 ⟨rfl, hb⟩; have CRa1_3 := Aside0.mk (And.intro (Kd.C_below CRa1_3.out.1 hb) CRa1_3.out.2); have CRa1_4 := Aside0.mk (And.intro (Kd.C_below CRa1_4.out.1 hb) CRa1_4.out.2); have CRa1_5 := Aside0.mk (And.intro (Kd.C_below CRa1_5.out.1 hb) CRa1_5.out.2); have HS := Aside0.mk (HS.out.step hb); clear hb; (try clear z0_0 z0_1 z0_2 z0_3 z0_4 z0_5 z0_6); obtain ⟨z0_0, z0_1, z0_2, z0_3, z0_4, z0_5, z0_6⟩ := hf_c7 (HS.out.at_ 0 rfl)))
         go_ret
         exact ⟨rfl, HS.out.bel⟩
 ·rw [if_neg q2] at h
  have q2b0 := (beq_eq_false_iff_ne.2 q2 : (a1_0 == 21) = false)
  have Iq2 := Aside0.mk q2
  clear q2
  by_cases q58 : a0 = 2
  ·rw [if_pos q58] at h
   have q58b0 := (bne_eq_false_iff_eq.2 q58 : (a0 != 2) = false)
   have Iq58 := Aside0.mk q58
   clear q58
   by_cases q59 : a1_0 = 32
   ·rw [if_pos q59] at h
    have q59b0 := (beq_iff_eq.2 q59 : (a1_0 == 32) = true)
    have Iq59 := Aside0.mk q59
    clear q59
    obtain rfl := Option.some.inj h
    go_wp2_with (fail)
    go_ret
    exact ⟨rfl, HS.out.bel⟩
   ·rw [if_neg q59] at h
    have q59b0 := (beq_eq_false_iff_ne.2 q59 : (a1_0 == 32) = false)
    have Iq59 := Aside0.mk q59
    clear q59
    by_cases q60 : a1_0 = 34
    ·rw [if_pos q60] at h
     have q60b0 := (beq_iff_eq.2 q60 : (a1_0 == 34) = true)
     have Iq60 := Aside0.mk q60
     clear q60
     obtain rfl := Option.some.inj h
     go_wp2_with (fail)
     go_ret
     exact ⟨rfl, HS.out.bel⟩
    ·rw [if_neg q60] at h
     have q60b0 := (beq_eq_false_iff_ne.2 q60 : (a1_0 == 34) = false)
     have Iq60 := Aside0.mk q60
     clear q60
     by_cases q61 : a1_0 = 35
     ·rw [if_pos q61] at h
      have q61b0 := (beq_iff_eq.2 q61 : (a1_0 == 35) = true)
      have Iq61 := Aside0.mk q61
      clear q61
      obtain rfl := Option.some.inj h
      go_wp2_with (fail)
      go_ret
      exact ⟨rfl, HS.out.bel⟩
     ·rw [if_neg q61] at h
      have q61b0 := (beq_eq_false_iff_ne.2 q61 : (a1_0 == 35) = false)
      have Iq61 := Aside0.mk q61
      clear q61
      by_cases q62 : a1_0 = 25
      ·rw [if_pos q62] at h
       have q62b0 := (beq_iff_eq.2 q62 : (a1_0 == 25) = true)
       have Iq62 := Aside0.mk q62
       clear q62
       obtain rfl := Option.some.inj h
       go_wp2_with (fail)
       go_ret
       exact ⟨rfl, HS.out.bel⟩
      ·rw [if_neg q62] at h
       have q62b0 := (beq_eq_false_iff_ne.2 q62 : (a1_0 == 25) = false)
       have Iq62 := Aside0.mk q62
       clear q62
       by_cases q63 : a1_0 = 31
       ·rw [if_pos q63] at h
        have q63b0 := (beq_iff_eq.2 q63 : (a1_0 == 31) = true)
        have Iq63 := Aside0.mk q63
        clear q63
        by_cases q64 : (0 : Int) < (l1_5.length : Int)
        ·rw [if_pos q64] at h
         have q64b0 := q64
         clear q64
         obtain ⟨ad65, A66, c67, A68, c69, A70, c71, ea_, ad65_0, ad65_1, ad65_2, ad65_3, ad65_4, ad65_5, ad65_6, ad65l3, ad65c3, ad65l4, ad65c4, ad65l5, ad65c5⟩ := at_T28 CRa1_5.out.1 (0 : Int) (by omega) (by omega)
         subst ea_
         rw [show Int.toNat 0 * 7 = 0 from rfl] at ad65_0 ad65_1 ad65_2 ad65_3 ad65_4 ad65_5 ad65_6
         rw [Addr.add_zero'] at ad65_0 ad65_1 ad65_2 ad65_3 ad65_4 ad65_5 ad65_6
         have CR72 := Aside0.mk (And.intro ad65c3 ad65l3); clear ad65c3 ad65l3
         have CR73 := Aside0.mk (And.intro ad65c4 ad65l4); clear ad65c4 ad65l4
         have CR74 := Aside0.mk (And.intro ad65c5 ad65l5); clear ad65c5 ad65l5
         go_upto_region 21 with (fail)
         (try clear z0_0 z0_1 z0_2 z0_3 z0_4 z0_5 z0_6 z1_0 z1_1 z1_2 z1_3 z1_4 z1_5 z1_6); skip
         have HS := Aside0.mk (HS.out.cons' #[.int .i64 ((rd_T28 l1_5 0).f0), .int .i64 ((rd_T28 l1_5 0).f1), .string ((rd_T28 l1_5 0).f2), .slice A66 ((rd_T28 l1_5 0).f3.f0).length c67, .slice A68 ((rd_T28 l1_5 0).f3.f1).length c69, .slice A70 ((rd_T28 l1_5 0).f4).length c71, .int .i64 ((rd_T28 l1_5 0).f5)] 28 (rfl))
         have CRa1_3 := Aside0.mk (And.intro (Kd.C_alloc CRa1_3.out.1 (.cells #[.int .i64 ((rd_T28 l1_5 0).f0), .int .i64 ((rd_T28 l1_5 0).f1), .string ((rd_T28 l1_5 0).f2), .slice A66 ((rd_T28 l1_5 0).f3.f0).length c67, .slice A68 ((rd_T28 l1_5 0).f3.f1).length c69, .slice A70 ((rd_T28 l1_5 0).f4).length c71, .int .i64 ((rd_T28 l1_5 0).f5)] 28)) CRa1_3.out.2)
         have CRa1_4 := Aside0.mk (And.intro (Kd.C_alloc CRa1_4.out.1 (.cells #[.int .i64 ((rd_T28 l1_5 0).f0), .int .i64 ((rd_T28 l1_5 0).f1), .string ((rd_T28 l1_5 0).f2), .slice A66 ((rd_T28 l1_5 0).f3.f0).length c67, .slice A68 ((rd_T28 l1_5 0).f3.f1).length c69, .slice A70 ((rd_T28 l1_5 0).f4).length c71, .int .i64 ((rd_T28 l1_5 0).f5)] 28)) CRa1_4.out.2)
         have CRa1_5 := Aside0.mk (And.intro (Kd.C_alloc CRa1_5.out.1 (.cells #[.int .i64 ((rd_T28 l1_5 0).f0), .int .i64 ((rd_T28 l1_5 0).f1), .string ((rd_T28 l1_5 0).f2), .slice A66 ((rd_T28 l1_5 0).f3.f0).length c67, .slice A68 ((rd_T28 l1_5 0).f3.f1).length c69, .slice A70 ((rd_T28 l1_5 0).f4).length c71, .int .i64 ((rd_T28 l1_5 0).f5)] 28)) CRa1_5.out.2)
         have CR72 := Aside0.mk (And.intro (Kd.C_alloc CR72.out.1 (.cells #[.int .i64 ((rd_T28 l1_5 0).f0), .int .i64 ((rd_T28 l1_5 0).f1), .string ((rd_T28 l1_5 0).f2), .slice A66 ((rd_T28 l1_5 0).f3.f0).length c67, .slice A68 ((rd_T28 l1_5 0).f3.f1).length c69, .slice A70 ((rd_T28 l1_5 0).f4).length c71, .int .i64 ((rd_T28 l1_5 0).f5)] 28)) CR72.out.2)
         have CR73 := Aside0.mk (And.intro (Kd.C_alloc CR73.out.1 (.cells #[.int .i64 ((rd_T28 l1_5 0).f0), .int .i64 ((rd_T28 l1_5 0).f1), .string ((rd_T28 l1_5 0).f2), .slice A66 ((rd_T28 l1_5 0).f3.f0).length c67, .slice A68 ((rd_T28 l1_5 0).f3.f1).length c69, .slice A70 ((rd_T28 l1_5 0).f4).length c71, .int .i64 ((rd_T28 l1_5 0).f5)] 28)) CR73.out.2)
         have CR74 := Aside0.mk (And.intro (Kd.C_alloc CR74.out.1 (.cells #[.int .i64 ((rd_T28 l1_5 0).f0), .int .i64 ((rd_T28 l1_5 0).f1), .string ((rd_T28 l1_5 0).f2), .slice A66 ((rd_T28 l1_5 0).f3.f0).length c67, .slice A68 ((rd_T28 l1_5 0).f3.f1).length c69, .slice A70 ((rd_T28 l1_5 0).f4).length c71, .int .i64 ((rd_T28 l1_5 0).f5)] 28)) CR74.out.2)
         generalize w1.alloc (.cells #[.int .i64 ((rd_T28 l1_5 0).f0), .int .i64 ((rd_T28 l1_5 0).f1), .string ((rd_T28 l1_5 0).f2), .slice A66 ((rd_T28 l1_5 0).f3.f0).length c67, .slice A68 ((rd_T28 l1_5 0).f3.f1).length c69, .slice A70 ((rd_T28 l1_5 0).f4).length c71, .int .i64 ((rd_T28 l1_5 0).f5)] 28) = w75 at HS CRa1_3 CRa1_4 CRa1_5 CR72 CR73 CR74 ⊢
         generalize w1.heap.size = g76 at HS ⊢
         obtain ⟨z0_0, z0_1, z0_2, z0_3, z0_4, z0_5, z0_6⟩ := hf_c7 (HS.out.at_ 1 rfl); obtain ⟨z1_0, z1_1, z1_2, z1_3, z1_4, z1_5, z1_6⟩ := hf_c7 (HS.out.at_ 0 rfl)
         by_cases q77 : (rd_T28 l1_5 0).f0 = 21
         ·rw [if_pos q77] at h
          have q77b0 := (beq_iff_eq.2 q77 : ((rd_T28 l1_5 0).f0 == 21) = true)
          have Iq77 := Aside0.mk q77
          clear q77
          by_cases q78 : (rd_T28 l1_5 0).f1 = 21
          ·rw [if_pos q78] at h
           have q78b0 := (bne_eq_false_iff_eq.2 q78 : ((rd_T28 l1_5 0).f1 != 21) = false)
           have Iq78 := Aside0.mk q78
           clear q78
           obtain rfl := Option.some.inj h
           go_wp2_with (fail)
           go_ret
           exact ⟨rfl, HS.out.bel⟩
          ·rw [if_neg q78] at h
           have q78b0 := (bne_iff_ne.2 q78 : ((rd_T28 l1_5 0).f1 != 21) = true)
           have Iq78 := Aside0.mk q78
           clear q78
           by_cases q79 : (rd_T28 l1_5 0).f1 = 23
           ·rw [if_pos q79] at h
            have q79b0 := (bne_eq_false_iff_eq.2 q79 : ((rd_T28 l1_5 0).f1 != 23) = false)
            have Iq79 := Aside0.mk q79
            clear q79
            obtain rfl := Option.some.inj h
            go_wp2_with (fail)
            go_ret
            exact ⟨rfl, HS.out.bel⟩
           ·rw [if_neg q79] at h
            have q79b0 := (bne_iff_ne.2 q79 : ((rd_T28 l1_5 0).f1 != 23) = true)
            have Iq79 := Aside0.mk q79
            clear q79
            by_cases q80 : (rd_T28 l1_5 0).f1 = 24
            ·rw [if_pos q80] at h
             have q80b0 := (bne_eq_false_iff_eq.2 q80 : ((rd_T28 l1_5 0).f1 != 24) = false)
             have Iq80 := Aside0.mk q80
             clear q80
             obtain rfl := Option.some.inj h
             go_wp2_with (fail)
             go_ret
             exact ⟨rfl, HS.out.bel⟩
            ·rw [if_neg q80] at h
             have q80b0 := (bne_iff_ne.2 q80 : ((rd_T28 l1_5 0).f1 != 24) = true)
             have Iq80 := Aside0.mk q80
             clear q80
             by_cases q81 : (rd_T28 l1_5 0).f1 = 25
             ·rw [if_pos q81] at h
              have q81b0 := (bne_eq_false_iff_eq.2 q81 : ((rd_T28 l1_5 0).f1 != 25) = false)
              have Iq81 := Aside0.mk q81
              clear q81
              obtain rfl := Option.some.inj h
              go_wp2_with (fail)
              go_ret
              exact ⟨rfl, HS.out.bel⟩
             ·rw [if_neg q81] at h
              have q81b0 := (bne_iff_ne.2 q81 : ((rd_T28 l1_5 0).f1 != 25) = true)
              have Iq81 := Aside0.mk q81
              clear q81
              obtain rfl := Option.some.inj h
              go_wp2_with (fail)
              go_ret
              exact ⟨rfl, HS.out.bel⟩
         ·rw [if_neg q77] at h
          have q77b0 := (beq_eq_false_iff_ne.2 q77 : ((rd_T28 l1_5 0).f0 == 21) = false)
          have Iq77 := Aside0.mk q77
          clear q77
          obtain rfl := Option.some.inj h
          go_wp2_with (fail)
          go_ret
          exact ⟨rfl, HS.out.bel⟩
        ·rw [if_neg q64] at h
         cases h
       ·rw [if_neg q63] at h
        have q63b0 := (beq_eq_false_iff_ne.2 q63 : (a1_0 == 31) = false)
        have Iq63 := Aside0.mk q63
        clear q63
        by_cases q82 : a1_0 = 33
        ·rw [if_pos q82] at h
         have q82b0 := (beq_iff_eq.2 q82 : (a1_0 == 33) = true)
         have Iq82 := Aside0.mk q82
         clear q82
         by_cases q83 : (0 : Int) < (l1_5.length : Int)
         ·rw [if_pos q83] at h
          have q83b0 := q83
          clear q83
          obtain ⟨ad84, A85, c86, A87, c88, A89, c90, ea_, ad84_0, ad84_1, ad84_2, ad84_3, ad84_4, ad84_5, ad84_6, ad84l3, ad84c3, ad84l4, ad84c4, ad84l5, ad84c5⟩ := at_T28 CRa1_5.out.1 (0 : Int) (by omega) (by omega)
          subst ea_
          rw [show Int.toNat 0 * 7 = 0 from rfl] at ad84_0 ad84_1 ad84_2 ad84_3 ad84_4 ad84_5 ad84_6
          rw [Addr.add_zero'] at ad84_0 ad84_1 ad84_2 ad84_3 ad84_4 ad84_5 ad84_6
          have CR91 := Aside0.mk (And.intro ad84c3 ad84l3); clear ad84c3 ad84l3
          have CR92 := Aside0.mk (And.intro ad84c4 ad84l4); clear ad84c4 ad84l4
          have CR93 := Aside0.mk (And.intro ad84c5 ad84l5); clear ad84c5 ad84l5
          go_upto_region 21 with (fail)
          (try clear z0_0 z0_1 z0_2 z0_3 z0_4 z0_5 z0_6 z1_0 z1_1 z1_2 z1_3 z1_4 z1_5 z1_6); skip
          have HS := Aside0.mk (HS.out.cons' #[.int .i64 ((rd_T28 l1_5 0).f0), .int .i64 ((rd_T28 l1_5 0).f1), .string ((rd_T28 l1_5 0).f2), .slice A85 ((rd_T28 l1_5 0).f3.f0).length c86, .slice A87 ((rd_T28 l1_5 0).f3.f1).length c88, .slice A89 ((rd_T28 l1_5 0).f4).length c90, .int .i64 ((rd_T28 l1_5 0).f5)] 28 (rfl))
          have CRa1_3 := Aside0.mk (And.intro (Kd.C_alloc CRa1_3.out.1 (.cells #[.int .i64 ((rd_T28 l1_5 0).f0), .int .i64 ((rd_T28 l1_5 0).f1), .string ((rd_T28 l1_5 0).f2), .slice A85 ((rd_T28 l1_5 0).f3.f0).length c86, .slice A87 ((rd_T28 l1_5 0).f3.f1).length c88, .slice A89 ((rd_T28 l1_5 0).f4).length c90, .int .i64 ((rd_T28 l1_5 0).f5)] 28)) CRa1_3.out.2)
          have CRa1_4 := Aside0.mk (And.intro (Kd.C_alloc CRa1_4.out.1 (.cells #[.int .i64 ((rd_T28 l1_5 0).f0), .int .i64 ((rd_T28 l1_5 0).f1), .string ((rd_T28 l1_5 0).f2), .slice A85 ((rd_T28 l1_5 0).f3.f0).length c86, .slice A87 ((rd_T28 l1_5 0).f3.f1).length c88, .slice A89 ((rd_T28 l1_5 0).f4).length c90, .int .i64 ((rd_T28 l1_5 0).f5)] 28)) CRa1_4.out.2)
          have CRa1_5 := Aside0.mk (And.intro (Kd.C_alloc CRa1_5.out.1 (.cells #[.int .i64 ((rd_T28 l1_5 0).f0), .int .i64 ((rd_T28 l1_5 0).f1), .string ((rd_T28 l1_5 0).f2), .slice A85 ((rd_T28 l1_5 0).f3.f0).length c86, .slice A87 ((rd_T28 l1_5 0).f3.f1).length c88, .slice A89 ((rd_T28 l1_5 0).f4).length c90, .int .i64 ((rd_T28 l1_5 0).f5)] 28)) CRa1_5.out.2)
          have CR91 := Aside0.mk (And.intro (Kd.C_alloc CR91.out.1 (.cells #[.int .i64 ((rd_T28 l1_5 0).f0), .int .i64 ((rd_T28 l1_5 0).f1), .string ((rd_T28 l1_5 0).f2), .slice A85 ((rd_T28 l1_5 0).f3.f0).length c86, .slice A87 ((rd_T28 l1_5 0).f3.f1).length c88, .slice A89 ((rd_T28 l1_5 0).f4).length c90, .int .i64 ((rd_T28 l1_5 0).f5)] 28)) CR91.out.2)
          have CR92 := Aside0.mk (And.intro (Kd.C_alloc CR92.out.1 (.cells #[.int .i64 ((rd_T28 l1_5 0).f0), .int .i64 ((rd_T28 l1_5 0).f1), .string ((rd_T28 l1_5 0).f2), .slice A85 ((rd_T28 l1_5 0).f3.f0).length c86, .slice A87 ((rd_T28 l1_5 0).f3.f1).length c88, .slice A89 ((rd_T28 l1_5 0).f4).length c90, .int .i64 ((rd_T28 l1_5 0).f5)] 28)) CR92.out.2)
          have CR93 := Aside0.mk (And.intro (Kd.C_alloc CR93.out.1 (.cells #[.int .i64 ((rd_T28 l1_5 0).f0), .int .i64 ((rd_T28 l1_5 0).f1), .string ((rd_T28 l1_5 0).f2), .slice A85 ((rd_T28 l1_5 0).f3.f0).length c86, .slice A87 ((rd_T28 l1_5 0).f3.f1).length c88, .slice A89 ((rd_T28 l1_5 0).f4).length c90, .int .i64 ((rd_T28 l1_5 0).f5)] 28)) CR93.out.2)
          generalize w1.alloc (.cells #[.int .i64 ((rd_T28 l1_5 0).f0), .int .i64 ((rd_T28 l1_5 0).f1), .string ((rd_T28 l1_5 0).f2), .slice A85 ((rd_T28 l1_5 0).f3.f0).length c86, .slice A87 ((rd_T28 l1_5 0).f3.f1).length c88, .slice A89 ((rd_T28 l1_5 0).f4).length c90, .int .i64 ((rd_T28 l1_5 0).f5)] 28) = w94 at HS CRa1_3 CRa1_4 CRa1_5 CR91 CR92 CR93 ⊢
          generalize w1.heap.size = g95 at HS ⊢
          obtain ⟨z0_0, z0_1, z0_2, z0_3, z0_4, z0_5, z0_6⟩ := hf_c7 (HS.out.at_ 1 rfl); obtain ⟨z1_0, z1_1, z1_2, z1_3, z1_4, z1_5, z1_6⟩ := hf_c7 (HS.out.at_ 0 rfl)
          by_cases q96 : (rd_T28 l1_5 0).f0 = 21
          ·rw [if_pos q96] at h
           have q96b0 := (beq_iff_eq.2 q96 : ((rd_T28 l1_5 0).f0 == 21) = true)
           have Iq96 := Aside0.mk q96
           clear q96
           by_cases q97 : (rd_T28 l1_5 0).f1 = 21
           ·rw [if_pos q97] at h
            have q97b0 := (bne_eq_false_iff_eq.2 q97 : ((rd_T28 l1_5 0).f1 != 21) = false)
            have Iq97 := Aside0.mk q97
            clear q97
            obtain rfl := Option.some.inj h
            go_wp2_with (fail)
            go_ret
            exact ⟨rfl, HS.out.bel⟩
           ·rw [if_neg q97] at h
            have q97b0 := (bne_iff_ne.2 q97 : ((rd_T28 l1_5 0).f1 != 21) = true)
            have Iq97 := Aside0.mk q97
            clear q97
            by_cases q98 : (rd_T28 l1_5 0).f1 = 23
            ·rw [if_pos q98] at h
             have q98b0 := (bne_eq_false_iff_eq.2 q98 : ((rd_T28 l1_5 0).f1 != 23) = false)
             have Iq98 := Aside0.mk q98
             clear q98
             obtain rfl := Option.some.inj h
             go_wp2_with (fail)
             go_ret
             exact ⟨rfl, HS.out.bel⟩
            ·rw [if_neg q98] at h
             have q98b0 := (bne_iff_ne.2 q98 : ((rd_T28 l1_5 0).f1 != 23) = true)
             have Iq98 := Aside0.mk q98
             clear q98
             by_cases q99 : (rd_T28 l1_5 0).f1 = 24
             ·rw [if_pos q99] at h
              have q99b0 := (bne_eq_false_iff_eq.2 q99 : ((rd_T28 l1_5 0).f1 != 24) = false)
              have Iq99 := Aside0.mk q99
              clear q99
              obtain rfl := Option.some.inj h
              go_wp2_with (fail)
              go_ret
              exact ⟨rfl, HS.out.bel⟩
             ·rw [if_neg q99] at h
              have q99b0 := (bne_iff_ne.2 q99 : ((rd_T28 l1_5 0).f1 != 24) = true)
              have Iq99 := Aside0.mk q99
              clear q99
              by_cases q100 : (rd_T28 l1_5 0).f1 = 25
              ·rw [if_pos q100] at h
               have q100b0 := (bne_eq_false_iff_eq.2 q100 : ((rd_T28 l1_5 0).f1 != 25) = false)
               have Iq100 := Aside0.mk q100
               clear q100
               obtain rfl := Option.some.inj h
               go_wp2_with (fail)
               go_ret
               exact ⟨rfl, HS.out.bel⟩
              ·rw [if_neg q100] at h
               have q100b0 := (bne_iff_ne.2 q100 : ((rd_T28 l1_5 0).f1 != 25) = true)
               have Iq100 := Aside0.mk q100
               clear q100
               obtain rfl := Option.some.inj h
               go_wp2_with (fail)
               go_ret
               exact ⟨rfl, HS.out.bel⟩
          ·rw [if_neg q96] at h
           have q96b0 := (beq_eq_false_iff_ne.2 q96 : ((rd_T28 l1_5 0).f0 == 21) = false)
           have Iq96 := Aside0.mk q96
           clear q96
           obtain rfl := Option.some.inj h
           go_wp2_with (fail)
           go_ret
           exact ⟨rfl, HS.out.bel⟩
         ·rw [if_neg q83] at h
          cases h
        ·rw [if_neg q82] at h
         have q82b0 := (beq_eq_false_iff_ne.2 q82 : (a1_0 == 33) = false)
         have Iq82 := Aside0.mk q82
         clear q82
         obtain rfl := Option.some.inj h
         go_wp2_with (fail)
         go_ret
         exact ⟨rfl, HS.out.bel⟩
  ·rw [if_neg q58] at h
   have q58b0 := (bne_iff_ne.2 q58 : (a0 != 2) = true)
   have Iq58 := Aside0.mk q58
   clear q58
   obtain rfl := Option.some.inj h
   go_wp2_with (fail)
   go_ret
   exact ⟨rfl, HS.out.bel⟩
end Go.Proofs.Ytfjkclhkobnakaa.P
