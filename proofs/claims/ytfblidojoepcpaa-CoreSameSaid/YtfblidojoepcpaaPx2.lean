/- Written by a program of this session: the functions that the laws reach, what each comes to, and each law as it is stated, for every input. No condition. -/
import Derived.Test.YtfblidojoepcpaaPx0
import Derived.Test.YtfblidojoepcpaaPx1
namespace Go.Proofs.Ytfblidojoepcpaa.P
open Go.RowKit Go.Proofs.YtfblidojoepcpaaW.PrintWords Go.Proofs.YtfblidojoepcpaaW.PrintLast Go.Proofs.YtfblidojoepcpaaW.PrintMore
attribute [local go_sem] max2_int min2_int max_two min_two max_three min_three max_four min_four   -- for this text's walks alone
set_option linter.unusedVariables false
set_option linter.unusedSimpArgs false
mutual
def core_Same.v : S34 → S34 → Bool
 | ⟨k, o, n, l, ks, _⟩, b => (k == b.f0) && ((o == b.f1) && (decide (n.toList = b.f2.toList) && ((cmpA l b.f3 == 0) && (((ks.length : Int) == (b.f4.length : Int)) && core_Same.vs ks b.f4))))
def core_Same.vs : List S34 → List S34 → Bool
 | [], _ => true
 | _ :: _, [] => true
 | x :: xs, y :: ys => core_Same.v x y && core_Same.vs xs ys
end
structure SmN (w0 : World) (x : S34) (A3 : Option Addr) (c3 : Nat) (A4 : Option Addr) (c4 : Nat) (A5 : Option Addr) (c5 : Nat) : Prop where
 h3 : (Kd.int .i64).C w0 A3 x.f3.f0.length x.f3.f0
 l3 : x.f3.f0.length ≤ c3
 h4 : k52.C w0 A4 x.f3.f1.length x.f3.f1
 l4 : x.f3.f1.length ≤ c4
 h5 : k34.C w0 A5 x.f4.length x.f4
 l5 : x.f4.length ≤ c5
theorem SmN.to {w0 w : World} {x : S34} {A3 : Option Addr} {c3 : Nat} {A4 : Option Addr} {c4 : Nat} {A5 : Option Addr} {c5 : Nat} (h : SmN w0 x A3 c3 A4 c4 A5 c5) (hb : Below w0.heap.size w0 w) : SmN w x A3 c3 A4 c4 A5 c5 := ⟨Kd.C_below h.h3 hb, h.l3, Kd.C_below h.h4 hb, h.l4, Kd.C_below h.h5 hb, h.l5⟩
abbrev SmC (a b : S34) : Prop := ∀ (A3 : Option Addr) (c3 : Nat) (A4 : Option Addr) (c4 : Nat) (A5 : Option Addr) (c5 : Nat) (B3 : Option Addr) (d3 : Nat) (B4 : Option Addr) (d4 : Nat) (B5 : Option Addr) (d5 : Nat) (w : World), SmN w a A3 c3 A4 c4 A5 c5 → SmN w b B3 d3 B4 d4 B5 d5 →
 Calls Try.prog 16 #[.agg #[.int .i64 a.f0, .int .i64 a.f1, .string a.f2, .slice A3 a.f3.f0.length c3, .slice A4 a.f3.f1.length c4, .slice A5 a.f4.length c5, .int .i64 a.f5], .agg #[.int .i64 b.f0, .int .i64 b.f1, .string b.f2, .slice B3 b.f3.f0.length d3, .slice B4 b.f3.f1.length d4, .slice B5 b.f4.length d5, .int .i64 b.f5]] w fun e w' => e = .returned (.bool (core_Same.v a b)) ∧ Below w.heap.size w w'
theorem sm_box (w : World) (o1 o2 : Obj) : Below w.heap.size w ((w.alloc o1).alloc o2) ∧ ((w.alloc o1).alloc o2).heap[w.heap.size]? = some o1 ∧ ((w.alloc o1).alloc o2).heap[w.heap.size + 1]? = some o2 :=
 ⟨below_alloc (below_alloc (Below.refl _ _) _) _, blk_alloc (blk_new w _) _, by simpa using blk_new (w.alloc o1) o2⟩
theorem sm_drop : ∀ (a b : List S34) (j : Nat), j < a.length → a.length = b.length → core_Same.vs (a.drop j) (b.drop j) = (core_Same.v (a.getD j z34) (b.getD j z34) && core_Same.vs (a.drop (j + 1)) (b.drop (j + 1)))
 | [], _, j, h, _ => by simp at h
 | _ :: _, [], j, _, e => by simp at e
 | x :: a, y :: b, 0, _, _ => by simp [core_Same.vs]
 | x :: a, y :: b, j + 1, h, e => by simpa using sm_drop a b j (by simpa using h) (by simpa using e)
theorem sm_mem {α : Type} {l : List α} {i : Nat} {z : α} (h : i < l.length) : l.getD i z ∈ l := by
 rw [List.getD_eq_getElem?_getD, List.getElem?_eq_getElem h]
 exact List.getElem_mem h
set_option maxHeartbeats 4000000 in
set_option maxRecDepth 100000 in
theorem same_step (a b : S34) (hok : ∀ x ∈ a.f4, ∀ y, SmC x y) : SmC a b := by
 intro A3 c3 A4 c4 A5 c5 B3 d3 B4 d4 B5 d5 w ha hd
 have hun := Try.underlying34
 obtain ⟨a0, a1, a2, ⟨a3, a4⟩, a5, a6⟩ := a
 obtain ⟨b0, b1, b2, ⟨b3, b4⟩, b5, b6⟩ := b
 have HX := Aside0.mk (sm_box w (.cells #[.int .i64 a0, .int .i64 a1, .string a2, .slice A3 a3.length c3, .slice A4 a4.length c4, .slice A5 a5.length c5, .int .i64 a6] 34 (0, 0)) (.cells #[.int .i64 b0, .int .i64 b1, .string b2, .slice B3 b3.length d3, .slice B4 b4.length d4, .slice B5 b5.length d5, .int .i64 b6] 34 (0, 0)))
 have HB := Aside0.mk HX.out.1
 have BA := Aside0.mk HX.out.2.1
 have BB := Aside0.mk HX.out.2.2
 have HA := Aside0.mk ha
 have HD := Aside0.mk hd
 have HOK := Aside0.mk hok
 clear ha hd hok HX
 dsimp only at HOK ⊢
 have HAS : Aside0 (arr_Same.f a3 a4 b3 b4 = some (cmpA ⟨a3, a4⟩ ⟨b3, b4⟩ == 0)) := ⟨by unfold arr_Same.f arr_Cmp.f; rfl⟩
 cases e1 : (a0 == b0)
 ·have e1b : (a0 != b0) = true := by simp [bne, e1]
  go_enter Try.func16, Try.ntmps16
  go_wp2_with (fail)
  go_ret
  exact ⟨by simp only [core_Same.v, e1, Bool.false_and, Bool.and_false, Bool.true_and]; rfl, HB.out⟩
 have e1b : (a0 != b0) = false := by simp [bne, e1]
 cases e2 : (a1 == b1)
 ·have e2b : (a1 != b1) = true := by simp [bne, e2]
  go_enter Try.func16, Try.ntmps16
  go_wp2_with (fail)
  go_ret
  exact ⟨by simp only [core_Same.v, e1, e2, Bool.false_and, Bool.and_false, Bool.true_and]; rfl, HB.out⟩
 have e2b : (a1 != b1) = false := by simp [bne, e2]
 cases e3 : decide (a2.toList = b2.toList)
 ·have e3b : ¬ a2.toList = b2.toList := of_decide_eq_false e3
  go_enter Try.func16, Try.ntmps16
  go_wp2_with (fail)
  go_ret
  exact ⟨by simp only [core_Same.v, e1, e2, e3, Bool.false_and, Bool.and_false, Bool.true_and]; rfl, HB.out⟩
 have e3b : a2.toList = b2.toList := of_decide_eq_true e3
 cases e4 : (cmpA ⟨a3, a4⟩ ⟨b3, b4⟩ == 0)
 ·skip
  go_enter Try.func16, Try.ntmps16
  go_wp2_with ((go_at_call 34; (with_reducible refine (arr_Same.calls _ _ a3 _ _ a4 _ _ b3 _ _ b4 _ _ (Kd.C_below HA.out.h3 HB.out) HA.out.l3 (Kd.C_below HA.out.h4 HB.out) HA.out.l4 (Kd.C_below HD.out.h3 HB.out) HD.out.l3 (Kd.C_below HD.out.h4 HB.out) HD.out.l4 HAS.out).mono ?_); rintro e w1 ⟨rfl, hb1⟩; rw [e4]; have BA := Aside0.mk (blk_below BA.out hb1); have BB := Aside0.mk (blk_below BB.out hb1); have HB := Aside0.mk (HB.out.trans (hb1.mono HB.out.size)); clear hb1; have za := (blk_cell BA.out 5).trans rfl; have zb := (blk_cell BB.out 5).trans rfl))
  go_ret
  exact ⟨by simp only [core_Same.v, e1, e2, e3, e4, Bool.false_and, Bool.and_false, Bool.true_and]; rfl, HB.out⟩
 cases e5 : ((a5.length : Int) == (b5.length : Int))
 ·have e5b : ((a5.length : Int) != (b5.length : Int)) = true := by simp [bne, e5]
  go_enter Try.func16, Try.ntmps16
  go_wp2_with ((go_at_call 34; (with_reducible refine (arr_Same.calls _ _ a3 _ _ a4 _ _ b3 _ _ b4 _ _ (Kd.C_below HA.out.h3 HB.out) HA.out.l3 (Kd.C_below HA.out.h4 HB.out) HA.out.l4 (Kd.C_below HD.out.h3 HB.out) HD.out.l3 (Kd.C_below HD.out.h4 HB.out) HD.out.l4 HAS.out).mono ?_); rintro e w1 ⟨rfl, hb1⟩; rw [e4]; have BA := Aside0.mk (blk_below BA.out hb1); have BB := Aside0.mk (blk_below BB.out hb1); have HB := Aside0.mk (HB.out.trans (hb1.mono HB.out.size)); clear hb1; have za := (blk_cell BA.out 5).trans rfl; have zb := (blk_cell BB.out 5).trans rfl))
  go_ret
  exact ⟨by simp only [core_Same.v, e1, e2, e3, e4, e5, Bool.false_and, Bool.and_false, Bool.true_and]; rfl, HB.out⟩
 have e5b : ((a5.length : Int) != (b5.length : Int)) = false := by simp [bne, e5]
 have hl : a5.length = b5.length := by have := beq_iff_eq.1 e5; omega
 have HL := Aside0.mk hl
 have HLM := Aside0.mk HA.out.h5.2.1
 dsimp only at HLM
 have HV : Aside0 (core_Same.v ⟨a0, a1, a2, ⟨a3, a4⟩, a5, a6⟩ ⟨b0, b1, b2, ⟨b3, b4⟩, b5, b6⟩ = core_Same.vs a5 b5) := ⟨by simp only [core_Same.v, e1, e2, e3, e4, e5, Bool.true_and]⟩
 clear hl
 go_enter Try.func16, Try.ntmps16
 go_wp2_with ((go_at_call 34; (with_reducible refine (arr_Same.calls _ _ a3 _ _ a4 _ _ b3 _ _ b4 _ _ (Kd.C_below HA.out.h3 HB.out) HA.out.l3 (Kd.C_below HA.out.h4 HB.out) HA.out.l4 (Kd.C_below HD.out.h3 HB.out) HD.out.l3 (Kd.C_below HD.out.h4 HB.out) HD.out.l4 HAS.out).mono ?_); rintro e w1 ⟨rfl, hb1⟩; rw [e4]; have BA := Aside0.mk (blk_below BA.out hb1); have BB := Aside0.mk (blk_below BB.out hb1); have HB := Aside0.mk (HB.out.trans (hb1.mono HB.out.size)); clear hb1; have za := (blk_cell BA.out 5).trans rfl; have zb := (blk_cell BB.out 5).trans rfl))
 go_loopg [45] a5.length (fun kq v45 W => ∃ (j : Nat), v45 = .int .i64 (j : Int) ∧ Aside0 (j + kq = a5.length) ∧ Aside0 (core_Same.vs a5 b5 = core_Same.vs (a5.drop j) (b5.drop j)) ∧ Aside0 (W.heap[w.heap.size]? = some (.cells #[.int .i64 a0, .int .i64 a1, .string a2, .slice A3 a3.length c3, .slice A4 a4.length c4, .slice A5 a5.length c5, .int .i64 a6] 34 (0, 0))) ∧ Aside0 (W.heap[w.heap.size + 1]? = some (.cells #[.int .i64 b0, .int .i64 b1, .string b2, .slice B3 b3.length d3, .slice B4 b4.length d4, .slice B5 b5.length d5, .int .i64 b6] 34 (0, 0))) ∧ Aside0 (Below w.heap.size w W))
 case atStart => exact ⟨0, rfl, ⟨by omega⟩, ⟨by simp⟩, ⟨BA.out⟩, ⟨BB.out⟩, ⟨HB.out⟩⟩
 case round =>
  clear za zb BA BB HB
  obtain ⟨j, rfl, HJ, HG, BA, BB, HB⟩ := hrel
  by_cases hlt : j < a5.length
  ·obtain ⟨q, rfl⟩ : ∃ q, gk = q + 1 := ⟨gk - 1, by have := HJ.out; omega⟩
   have hlt2 : j < b5.length := by have := HL.out; omega
   have hlti : (j : Int) < (a5.length : Int) := by omega
   have hltj : (j : Int) < (b5.length : Int) := by omega
   have HWR : Aside0 (wrap64 ((j : Int) + 1) = ((j + 1 : Nat) : Int)) := ⟨by have := HLM.out; unfold wrap64; omega⟩
   obtain ⟨ad, P3, p3, P4, p4, P5, p5, ea, x0, x1, x2, x3, x4, x5, x6, k3, j3, k4, j4, k5, j5⟩ := at_T34 (Kd.C_below HA.out.h5 HB.out) (j : Int) (by omega) hlti
   obtain ⟨bd, Q3, q3, Q4, q4, Q5, q5, eb, y0, y1, y2, y3, y4, y5, y6, m3, n3, m4, n4, m5, n5⟩ := at_T34 (Kd.C_below HD.out.h5 HB.out) (j : Int) (by omega) hltj
   dsimp only at ea eb x0 x1 x2 x3 x4 x5 x6 y0 y1 y2 y3 y4 y5 y6
   have za : wr.cell? ⟨w.heap.size, 5, none⟩ = some (.slice A5 a5.length c5) := (blk_cell BA.out 5).trans rfl
   have zb : wr.cell? ⟨w.heap.size + 1, 5, none⟩ = some (.slice B5 b5.length d5) := (blk_cell BB.out 5).trans rfl
   rw [ea] at za ⊢
   rw [eb] at zb ⊢
   have EA := Aside0.mk ea
   have EB := Aside0.mk eb
   clear ea eb
   rw [Int.toNat_natCast] at x0 x1 x2 x3 x4 x5 x6 y0 y1 y2 y3 y4 y5 y6
   have r1 : rd_T34 a5 (j : Int) = a5.getD j z34 := by simp [rd_T34]
   have r2 : rd_T34 b5 (j : Int) = b5.getD j z34 := by simp [rd_T34]
   have HN := HG.out
   rw [sm_drop a5 b5 j hlt HL.out] at HN
   have HOK := Aside0.mk (HOK.out _ (sm_mem (z := z34) hlt) (b5.getD j z34))
   have HXA : Aside0 (SmN wr (rd_T34 a5 (j : Int)) P3 p3 P4 p4 P5 p5) := ⟨⟨j3, k3, j4, k4, j5, k5⟩⟩
   have HYA : Aside0 (SmN wr (rd_T34 b5 (j : Int)) Q3 q3 Q4 q4 Q5 q5) := ⟨⟨n3, m3, n4, m4, n5, m5⟩⟩
   clear j3 k3 j4 k4 j5 k5 n3 m3 n4 m4 n5 m5
   rw [r1] at x0 x1 x2 x3 x4 x5 x6 HXA
   rw [r2] at y0 y1 y2 y3 y4 y5 y6 HYA
   generalize a5.getD j z34 = x at x0 x1 x2 x3 x4 x5 x6 HXA HOK HN
   generalize b5.getD j z34 = y at y0 y1 y2 y3 y4 y5 y6 HYA HOK HN
   clear r1 r2
   obtain ⟨s0, s1, s2, ⟨s3, s4⟩, s5, s6⟩ := x
   obtain ⟨t0, t1, t2, ⟨t3, t4⟩, t5, t6⟩ := y
   dsimp only at x0 x1 x2 x3 x4 x5 x6 y0 y1 y2 y3 y4 y5 y6
   go_wp2_with (fail)
   go_still_tail 10, (by kernel_rfl)
   change wpList _ _ _ _ _ wr.drew
   have hbw := below_drew (Below.refl wr.heap.size wr)
   have HB := Aside0.mk (HB.out.trans (hbw.mono HB.out.size))
   have BA := Aside0.mk (blk_below BA.out hbw)
   have BB := Aside0.mk (blk_below BB.out hbw)
   have HXA := Aside0.mk (HXA.out.to hbw)
   have HYA := Aside0.mk (HYA.out.to hbw)
   clear za zb x0 x1 x2 x3 x4 x5 x6 y0 y1 y2 y3 y4 y5 y6 hbw
   generalize wr.drew = w5 at HB BA BB HXA HYA ⊢
   cases hv : core_Same.v ⟨s0, s1, s2, ⟨s3, s4⟩, s5, s6⟩ ⟨t0, t1, t2, ⟨t3, t4⟩, t5, t6⟩
   ·rw [hv, Bool.false_and] at HN
    have HN := Aside0.mk (HV.out.trans HN)
    go_wp2_with ((go_at_call 16; (with_reducible refine (HOK.out _ _ _ _ _ _ _ _ _ _ _ _ _ HXA.out HYA.out).mono ?_); rintro e w6 ⟨rfl, hb6⟩; rw [hv]; have BA := Aside0.mk (blk_below BA.out hb6); have BB := Aside0.mk (blk_below BB.out hb6); have HB := Aside0.mk (HB.out.trans (hb6.mono HB.out.size)); clear hb6))
    go_ret
    exact ⟨by rw [HN.out]; rfl, HB.out⟩
   ·rw [hv, Bool.true_and] at HN
    have HN := Aside0.mk HN
    go_wp2_with ((go_at_call 16; (with_reducible refine (HOK.out _ _ _ _ _ _ _ _ _ _ _ _ _ HXA.out HYA.out).mono ?_); rintro e w6 ⟨rfl, hb6⟩; rw [hv]; have BA := Aside0.mk (blk_below BA.out hb6); have BB := Aside0.mk (blk_below BB.out hb6); have HB := Aside0.mk (HB.out.trans (hb6.mono HB.out.size)); clear hb6))
    rw [← EA.out, ← EB.out]
    go_roundg q
    case measure => omega
    case rel => exact ⟨j + 1, congrArg (Value.int .i64) HWR.out, ⟨by have := HJ.out; omega⟩, ⟨HN.out⟩, ⟨BA.out⟩, ⟨BB.out⟩, ⟨HB.out⟩⟩
  ·have hk : gk = 0 := by have := HJ.out; omega
   subst hk
   have hj : j = a5.length := by have := HJ.out; omega
   subst hj
   have HN := Aside0.mk (HV.out.trans HG.out)
   rw [List.drop_length, core_Same.vs] at HN
   go_wp2_with (fail)
   go_ret
   exact ⟨by rw [HN.out]; rfl, HB.out⟩
theorem same_upto : ∀ (N : Nat) (a : S34), SizeOf.sizeOf a ≤ N → ∀ b, SmC a b := by
 intro N
 induction N with
 | zero =>
  intro a h
  obtain ⟨a0, a1, a2, a3, a5, a6⟩ := a
  simp at h
 | succ N ih =>
  intro a h b
  refine same_step a b (fun x hx y => ih x ?_ y)
  obtain ⟨a0, a1, a2, a3, a5, a6⟩ := a
  have h1 := List.sizeOf_lt_of_mem hx
  simp at h h1
  omega
theorem same_all (a b : S34) : SmC a b := same_upto _ a (Nat.le_refl _) b
def core_Same.f (a0_0 : Int) (a0_1 : Int) (a0_2 : ByteArray) (l0_3 : List Int) (l0_4 : List (S52)) (l0_5 : List (S34)) (a0_6 : Int) (a1_0 : Int) (a1_1 : Int) (a1_2 : ByteArray) (l1_3 : List Int) (l1_4 : List (S52)) (l1_5 : List (S34)) (a1_6 : Int) : Option Bool := some (core_Same.v ⟨a0_0, a0_1, a0_2, ⟨l0_3, l0_4⟩, l0_5, a0_6⟩ ⟨a1_0, a1_1, a1_2, ⟨l1_3, l1_4⟩, l1_5, a1_6⟩)
theorem core_Same.calls (a0_0 : Int) (a0_1 : Int) (a0_2 : ByteArray) (A0_3 : Option Addr) (c0_3 : Nat) (l0_3 : List Int) (A0_4 : Option Addr) (c0_4 : Nat) (l0_4 : List (S52)) (A0_5 : Option Addr) (c0_5 : Nat) (l0_5 : List (S34)) (a0_6 : Int) (a1_0 : Int) (a1_1 : Int) (a1_2 : ByteArray) (A1_3 : Option Addr) (c1_3 : Nat) (l1_3 : List Int) (A1_4 : Option Addr) (c1_4 : Nat) (l1_4 : List (S52)) (A1_5 : Option Addr) (c1_5 : Nat) (l1_5 : List (S34)) (a1_6 : Int) (r : Bool) (w : World) (hr0_3 : Kd.C (Kd.int .i64) w A0_3 l0_3.length l0_3) (hc0_3 : l0_3.length ≤ c0_3) (hr0_4 : Kd.C k52 w A0_4 l0_4.length l0_4) (hc0_4 : l0_4.length ≤ c0_4) (hr0_5 : Kd.C k34 w A0_5 l0_5.length l0_5) (hc0_5 : l0_5.length ≤ c0_5) (hr1_3 : Kd.C (Kd.int .i64) w A1_3 l1_3.length l1_3) (hc1_3 : l1_3.length ≤ c1_3) (hr1_4 : Kd.C k52 w A1_4 l1_4.length l1_4) (hc1_4 : l1_4.length ≤ c1_4) (hr1_5 : Kd.C k34 w A1_5 l1_5.length l1_5) (hc1_5 : l1_5.length ≤ c1_5) (h : core_Same.f a0_0 a0_1 a0_2 l0_3 l0_4 l0_5 a0_6 a1_0 a1_1 a1_2 l1_3 l1_4 l1_5 a1_6 = some r) :
  Calls Try.prog 16 #[.agg #[.int .i64 a0_0, .int .i64 a0_1, .string a0_2, .slice A0_3 l0_3.length c0_3, .slice A0_4 l0_4.length c0_4, .slice A0_5 l0_5.length c0_5, .int .i64 a0_6], .agg #[.int .i64 a1_0, .int .i64 a1_1, .string a1_2, .slice A1_3 l1_3.length c1_3, .slice A1_4 l1_4.length c1_4, .slice A1_5 l1_5.length c1_5, .int .i64 a1_6]] w fun e w' => e = .returned (.bool r) ∧ Below w.heap.size w w' := by
 obtain rfl := Option.some.inj h
 exact same_all ⟨a0_0, a0_1, a0_2, ⟨l0_3, l0_4⟩, l0_5, a0_6⟩ ⟨a1_0, a1_1, a1_2, ⟨l1_3, l1_4⟩, l1_5, a1_6⟩ A0_3 c0_3 A0_4 c0_4 A0_5 c0_5 A1_3 c1_3 A1_4 c1_4 A1_5 c1_5 w ⟨hr0_3, hc0_3, hr0_4, hc0_4, hr0_5, hc0_5⟩ ⟨hr1_3, hc1_3, hr1_4, hc1_4, hr1_5, hc1_5⟩
mutual
def arr_Size.l0 : Nat → List Int → Int → Bool → List Int → Int → Int → Option (Int × Int)
 | 0, _, _, _, _, _, _ => none
 | k + 1, x0, x4, x5, x13, x14, x15 => if x15 < x14 then (if 0 ≤ x15 then (if x15 < (x13.length : Int) then (if (rd x13 x15) < 0 then (some (0, 1)) else (if x5 = true then (arr_Size.l0 k x0 x4 true x13 x14 (wrap64 (x15 + 1))) else (arr_Size.l0 k x0 x4 ((rd x13 x15) == 0) x13 x14 (wrap64 (x15 + 1))))) else (none)) else (none)) else (if x5 = true then (some (0, 0)) else (arr_Size.l1 k x4 x0 (x0.length : Int) 0))
def arr_Size.l1 : Nat → Int → List Int → Int → Int → Option (Int × Int)
 | 0, _, _, _, _ => none
 | k + 1, x4, x28, x29, x30 => if x30 < x29 then (if 0 ≤ x30 then (if x30 < (x28.length : Int) then (if x4 = 0 then (none) else (if (rd x28 x30) > (wrap64 (Int.tdiv (16384 : Int) x4)) then (some (0, 12)) else (arr_Size.l1 k (wrap64 (x4 * (rd x28 x30))) x28 x29 (wrap64 (x30 + 1))))) else (none)) else (none)) else (some (x4, 0))
end
def arr_Size.f (k : Nat) (l0 : List Int) : Option (Int × Int) := if (l0.length : Int) > 8 then (some (0, 6)) else (arr_Size.l0 k l0 1 false l0 (l0.length : Int) 0)
theorem arr_Size.mono_l : ∀ k, (∀ y0 y1 y2 y3 y4 y5, LeO (arr_Size.l0 k y0 y1 y2 y3 y4 y5) (arr_Size.l0 (k + 1) y0 y1 y2 y3 y4 y5)) ∧ (∀ y0 y1 y2 y3, LeO (arr_Size.l1 k y0 y1 y2 y3) (arr_Size.l1 (k + 1) y0 y1 y2 y3))
 | 0 => ⟨fun _ _ _ _ _ _ r h => by simp [arr_Size.l0] at h, fun _ _ _ _ r h => by simp [arr_Size.l1] at h⟩
 | k + 1 => by
  obtain ⟨ih0, ih1⟩ := arr_Size.mono_l k
  refine ⟨?_, ?_⟩
  ·intro y0 y1 y2 y3 y4 y5
   unfold arr_Size.l0
   repeat' first
   | (with_reducible exact ih0 _ _ _ _ _ _)
   | (with_reducible exact ih1 _ _ _ _)
   | (with_reducible exact LeO.refl _)
   | (with_reducible exact LeO.none _)
   | (with_reducible refine LeO.ite ?_ ?_)
   | (with_reducible refine LeO.bind ?_ (fun _ => ?_))





  ·intro y0 y1 y2 y3
   unfold arr_Size.l1
   repeat' first
   | (with_reducible exact ih0 _ _ _ _ _ _)
   | (with_reducible exact ih1 _ _ _ _)
   | (with_reducible exact LeO.refl _)
   | (with_reducible exact LeO.none _)
   | (with_reducible refine LeO.ite ?_ ?_)
   | (with_reducible refine LeO.bind ?_ (fun _ => ?_))
theorem arr_Size.mono : ∀ a0 k, LeO (arr_Size.f k a0) (arr_Size.f (k + 1) a0) := by
 intro a0 k
 obtain ⟨ih0, ih1⟩ := arr_Size.mono_l k
 unfold arr_Size.f
 repeat' first
   | (with_reducible exact ih0 _ _ _ _ _ _)
   | (with_reducible exact ih1 _ _ _ _)
   | (with_reducible exact LeO.refl _)
   | (with_reducible exact LeO.none _)
   | (with_reducible refine LeO.ite ?_ ?_)
   | (with_reducible refine LeO.bind ?_ (fun _ => ?_))
set_option maxHeartbeats 8000000 in
set_option maxRecDepth 100000 in
theorem arr_Size.calls (k : Nat) (A0 : Option Addr) (c0 : Nat) (l0 : List Int) (r1 : Int) (r2 : Int) (w : World) (hr0 : Kd.C (Kd.int .i64) w A0 l0.length l0) (hc0 : l0.length ≤ c0) (h : arr_Size.f k l0 = some (r1, r2)) :
  Calls Try.prog 51 #[.slice A0 l0.length c0] w fun e w' => e = .returned (.tuple #[.int .i64 r1, .int .i64 r2]) ∧ Drawn0 w w' := by
 have HR0 := gA hr0
 have HC0 := gA hc0
 clear hr0 hc0
 have H : (if (l0.length : Int) > 8 then (some (0, 6)) else (arr_Size.l0 k l0 1 false l0 (l0.length : Int) 0)) = some (r1, r2) := h
 clear h
 by_cases c2 : (l0.length : Int) > 8
 ·rw [if_pos c2] at H
  have c2b0 : decide (8 < (l0.length : Int)) = true := decide_eq_true c2
  have c2b1 : decide (8 < l0.length) = true := decide_eq_true (by omega)
  clear c2
  simp only [Option.some.injEq, Prod.mk.injEq] at H
  obtain ⟨rfl, rfl⟩ := H
  go_enter Try.func51, Try.ntmps51
  go_wp2
  go_ret2
  exact ⟨rfl, by repeat (first | exact Drawn0.refl _ | apply Drawn0.step)⟩
 ·rw [if_neg c2] at H
  have c2b0 : decide (8 < (l0.length : Int)) = false := decide_eq_false c2
  have c2b1 : decide (8 < l0.length) = false := decide_eq_false (by omega)
  clear c2
  have H' := gA H
  clear H
  go_enter Try.func51, Try.ntmps51
  go_wp2
  go_loopg [5, 15] k (fun kq v5 v15 w' => ∃ (x5_1 : Bool) (x15_1 : Int), v5 = .bool x5_1 ∧ v15 = .int .i64 x15_1 ∧ Aside0 (arr_Size.l0 kq l0 1 x5_1 l0 (l0.length : Int) x15_1 = some (r1, r2)) ∧ Aside0 (kq ≤ k) ∧ Drawn0 w w')
  case atStart => exact ⟨(false), (0), (rfl), (rfl), H', ⟨Nat.le_refl _⟩, by repeat (first | exact Drawn0.refl _ | apply Drawn0.step)⟩
  case round =>
   clear H'
   try clear c2
   try clear c2b0
   try clear c2b1
   try clear p2
   obtain ⟨x5_1, x15_1, rfl, rfl, HA, HK1, ⟨m1, rfl⟩⟩ := hrel
   cases gk with
   | zero => exact absurd HA.out (by simp [arr_Size.l0])
   | succ k1 =>
    have H := HA.out; clear HA
    simp only [arr_Size.l0] at H
    by_cases c3 : x15_1 < (l0.length : Int)
    ·rw [if_pos c3] at H
     have c3b0 := decide_eq_true c3
     clear c3
     obtain ⟨c4, H⟩ := iS H
     have c4b0 := decide_eq_true c4
     clear c4
     obtain ⟨c5, H⟩ := iS H
     have c5b0 := decide_eq_true c5
     clear c5
     by_cases c6 : (rd l0 x15_1) < 0
     ·rw [if_pos c6] at H
      have c6b0 := decide_eq_true c6
      clear c6
      simp only [Option.some.injEq, Prod.mk.injEq] at H
      obtain ⟨rfl, rfl⟩ := H
      have p104 : 0 ≤ (x15_1 : Int) := of_decide_eq_true (by assumption)
      have q104 : x15_1 < (l0.length : Int) := of_decide_eq_true (by assumption)
      obtain ⟨ad104, e104, hx104_0⟩ := Kd.at_int HR0.out x15_1 p104 q104
      cases e104
      replace p104 := eq_true p104
      replace q104 := eq_true q104
      go_wp2
      go_ret2
      exact ⟨rfl, by repeat (first | exact Drawn0.refl _ | apply Drawn0.step)⟩
     ·rw [if_neg c6] at H
      have c6b0 := decide_eq_false c6
      clear c6
      by_cases c7 : x5_1 = true
      ·subst c7
       have H1 : (arr_Size.l0 k1 l0 1 true l0 (l0.length : Int) (wrap64 (x15_1 + 1))) = some (r1, r2) := by rw [if_pos rfl] at H; exact H
       clear H; have H := H1; clear H1
       have H' := gA H
       clear H
       have p104 : 0 ≤ (x15_1 : Int) := of_decide_eq_true (by assumption)
       have q104 : x15_1 < (l0.length : Int) := of_decide_eq_true (by assumption)
       obtain ⟨ad104, e104, hx104_0⟩ := Kd.at_int HR0.out x15_1 p104 q104
       cases e104
       replace p104 := eq_true p104
       replace q104 := eq_true q104
       go_wp2
       go_roundg k1
       case measure => have := HK1.out; omega
       case rel => exact ⟨(true), (wrap64 (x15_1 + 1)), (rfl), (rfl), H', ⟨by have := HK1.out; omega⟩, by repeat (first | exact Drawn0.refl _ | apply Drawn0.step)⟩
      ·replace c7 := Bool.eq_false_iff.mpr c7
       subst c7
       have H1 : (arr_Size.l0 k1 l0 1 ((rd l0 x15_1) == 0) l0 (l0.length : Int) (wrap64 (x15_1 + 1))) = some (r1, r2) := by rw [if_neg (show ¬ (false = true) by decide)] at H; exact H
       clear H; have H := H1; clear H1
       have H' := gA H
       clear H
       have p104 : 0 ≤ (x15_1 : Int) := of_decide_eq_true (by assumption)
       have q104 : x15_1 < (l0.length : Int) := of_decide_eq_true (by assumption)
       obtain ⟨ad104, e104, hx104_0⟩ := Kd.at_int HR0.out x15_1 p104 q104
       cases e104
       replace p104 := eq_true p104
       replace q104 := eq_true q104
       go_wp2
       go_roundg k1
       case measure => have := HK1.out; omega
       case rel => exact ⟨(((rd l0 x15_1) == 0)), (wrap64 (x15_1 + 1)), (rfl), (rfl), H', ⟨by have := HK1.out; omega⟩, by repeat (first | exact Drawn0.refl _ | apply Drawn0.step)⟩
    ·rw [if_neg c3] at H
     have c3b0 := decide_eq_false c3
     clear c3
     by_cases c8 : x5_1 = true
     ·subst c8
      have H1 : (some (0, 0)) = some (r1, r2) := by rw [if_pos rfl] at H; exact H
      clear H; have H := H1; clear H1
      simp only [Option.some.injEq, Prod.mk.injEq] at H
      obtain ⟨rfl, rfl⟩ := H
      go_wp2
      go_ret2
      exact ⟨rfl, by repeat (first | exact Drawn0.refl _ | apply Drawn0.step)⟩
     ·replace c8 := Bool.eq_false_iff.mpr c8
      subst c8
      have H1 : (arr_Size.l1 k1 1 l0 (l0.length : Int) 0) = some (r1, r2) := by rw [if_neg (show ¬ (false = true) by decide)] at H; exact H
      clear H; have H := H1; clear H1
      have H' := gA H
      clear H
      go_wp2
      go_loopg [4, 30] k1 (fun kq v4 v30 w' => ∃ (x4_2 : Int) (x30_2 : Int), v4 = .int .i64 x4_2 ∧ v30 = .int .i64 x30_2 ∧ Aside0 (arr_Size.l1 kq x4_2 l0 (l0.length : Int) x30_2 = some (r1, r2)) ∧ Aside0 (kq ≤ k1) ∧ Drawn0 w w')
      case atStart => exact ⟨(1), (0), (rfl), (rfl), H', ⟨Nat.le_refl _⟩, by repeat (first | exact Drawn0.refl _ | apply Drawn0.step)⟩
      case round =>
       clear H'
       try clear p1
       try clear q1
       try clear hx1
       try clear c2
       try clear c2b0
       try clear c2b1
       try clear p2
       try clear c3
       try clear c3b0
       try clear c4
       try clear c4b0
       try clear c5
       try clear c5b0
       try clear c6
       try clear c6b0
       try clear p6
       try clear c7
       try clear c8
       try clear hx104_0
       try clear p104
       try clear p2
       try clear q104
       obtain ⟨x4_2, x30_2, rfl, rfl, HA, HK2, ⟨m2, rfl⟩⟩ := hrel
       cases gk with
       | zero => exact absurd HA.out (by simp [arr_Size.l1])
       | succ k2 =>
        have H := HA.out; clear HA
        simp only [arr_Size.l1] at H
        by_cases c9 : x30_2 < (l0.length : Int)
        ·rw [if_pos c9] at H
         have c9b0 := decide_eq_true c9
         clear c9
         obtain ⟨c10, H⟩ := iS H
         have c10b0 := decide_eq_true c10
         clear c10
         obtain ⟨c11, H⟩ := iS H
         have c11b0 := decide_eq_true c11
         clear c11
         obtain ⟨c12, H⟩ := iN H
         have c12b0 : (x4_2 == 0) = false := beq_eq_false_iff_ne.mpr c12
         have c12b1 : (x4_2 != 0) = true := bne_iff_ne.mpr c12
         by_cases c13 : (rd l0 x30_2) > (wrap64 (Int.tdiv (16384 : Int) x4_2))
         ·rw [if_pos c13] at H
          have c13b0 : decide ((wrap64 (Int.tdiv (16384 : Int) x4_2)) < (rd l0 x30_2)) = true := decide_eq_true c13
          clear c13
          simp only [Option.some.injEq, Prod.mk.injEq] at H
          obtain ⟨rfl, rfl⟩ := H
          have p105 : 0 ≤ (x30_2 : Int) := of_decide_eq_true (by assumption)
          have q105 : x30_2 < (l0.length : Int) := of_decide_eq_true (by assumption)
          obtain ⟨ad105, e105, hx105_0⟩ := Kd.at_int HR0.out x30_2 p105 q105
          cases e105
          replace p105 := eq_true p105
          replace q105 := eq_true q105
          go_wp2
          go_ret2
          exact ⟨rfl, by repeat (first | exact Drawn0.refl _ | apply Drawn0.step)⟩
         ·rw [if_neg c13] at H
          have c13b0 : decide ((wrap64 (Int.tdiv (16384 : Int) x4_2)) < (rd l0 x30_2)) = false := decide_eq_false c13
          clear c13
          have H' := gA H
          clear H
          have p105 : 0 ≤ (x30_2 : Int) := of_decide_eq_true (by assumption)
          have q105 : x30_2 < (l0.length : Int) := of_decide_eq_true (by assumption)
          obtain ⟨ad105, e105, hx105_0⟩ := Kd.at_int HR0.out x30_2 p105 q105
          cases e105
          replace p105 := eq_true p105
          replace q105 := eq_true q105
          go_wp2
          go_roundg k2
          case measure => have := HK1.out; have := HK2.out; omega
          case rel => exact ⟨(wrap64 (x4_2 * (rd l0 x30_2))), (wrap64 (x30_2 + 1)), (rfl), (rfl), H', ⟨by have := HK1.out; have := HK2.out; omega⟩, by repeat (first | exact Drawn0.refl _ | apply Drawn0.step)⟩
        ·rw [if_neg c9] at H
         have c9b0 := decide_eq_false c9
         clear c9
         simp only [Option.some.injEq, Prod.mk.injEq] at H
         obtain ⟨rfl, rfl⟩ := H
         go_wp2
         go_ret2
         exact ⟨rfl, by repeat (first | exact Drawn0.refl _ | apply Drawn0.step)⟩
def arr_good.f (a0 : Int) : Option (Bool) := if a0 ≥ 0 then (if a0 ≤ 1114111 then (if a0 < 55296 then (some true) else (some (decide (a0 > 57343)))) else (some false)) else (some false)
set_option maxHeartbeats 8000000 in
set_option maxRecDepth 100000 in
theorem arr_good.calls (a0 : Int) (r : Bool) (w : World) (h : arr_good.f a0 = some r) :
  Calls Try.prog 52 #[.int .i64 a0] w fun e w' => e = .returned (.bool r) ∧ Drawn0 w w' := by
 have H : (if a0 ≥ 0 then (if a0 ≤ 1114111 then (if a0 < 55296 then (some true) else (some (decide (a0 > 57343)))) else (some false)) else (some false)) = some r := h
 clear h
 by_cases c2 : a0 ≥ 0
 ·rw [if_pos c2] at H
  have c2b0 : decide (0 ≤ a0) = true := decide_eq_true c2
  clear c2
  by_cases c3 : a0 ≤ 1114111
  ·rw [if_pos c3] at H
   have c3b0 := decide_eq_true c3
   clear c3
   by_cases c4 : a0 < 55296
   ·rw [if_pos c4] at H
    have c4b0 := decide_eq_true c4
    clear c4
    obtain rfl := Option.some.inj H
    go_enter Try.func52, Try.ntmps52
    go_wp2
    go_ret
    exact ⟨rfl, by repeat (first | exact Drawn0.refl _ | apply Drawn0.step)⟩
   ·rw [if_neg c4] at H
    have c4b0 := decide_eq_false c4
    clear c4
    obtain rfl := Option.some.inj H
    go_enter Try.func52, Try.ntmps52
    go_wp2
    go_ret
    exact ⟨rfl, by repeat (first | exact Drawn0.refl _ | apply Drawn0.step)⟩
  ·rw [if_neg c3] at H
   have c3b0 := decide_eq_false c3
   clear c3
   obtain rfl := Option.some.inj H
   go_enter Try.func52, Try.ntmps52
   go_wp2
   go_ret
   exact ⟨rfl, by repeat (first | exact Drawn0.refl _ | apply Drawn0.step)⟩
 ·rw [if_neg c2] at H
  have c2b0 : decide (0 ≤ a0) = false := decide_eq_false c2
  clear c2
  obtain rfl := Option.some.inj H
  go_enter Try.func52, Try.ntmps52
  go_wp2
  go_ret
  exact ⟨rfl, by repeat (first | exact Drawn0.refl _ | apply Drawn0.step)⟩
end Go.Proofs.Ytfblidojoepcpaa.P
