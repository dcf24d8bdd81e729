/- Written by a program of this session: the functions that the laws reach, what each comes to, and each law as it is stated, for every input. No condition. -/
import Derived.Test.YtahgfebdjjfkhaaPx0
namespace Go.Proofs.Ytahgfebdjjfkhaa.P
open Go.RowKit Go.Proofs.YtahgfebdjjfkhaaW.PrintWords Go.Proofs.YtahgfebdjjfkhaaW.PrintLast Go.Proofs.YtahgfebdjjfkhaaW.PrintMore
attribute [local go_sem] max2_int min2_int max_two min_two max_three min_three max_four min_four   -- for this text's walks alone
set_option linter.unusedVariables false
set_option linter.unusedSimpArgs false
mutual
def arr_copied.f : Nat → Int → Int → List (S25) → Option (Int × Int × (List (S25)))
 | 0, _, _, _ => none
 | k + 1, a0_0, a0_1, l0_2 => if (l0_2.length : Int) > 0 then (if 0 < (l0_2.length : Int) then ((arr_Copy.f k ((rd_T25 l0_2 0).f0) ((rd_T25 l0_2 0).f1)).bind fun bt159 => (some (a0_0, a0_1, (([(⟨bt159.1, bt159.2⟩ : S25)] : List (S25)))))) else (none)) else (some (a0_0, a0_1, l0_2))
def arr_Copy.l0 : Nat → List (S43) → Int → Int → List Int → List (S43) → Option (List Int × (List (S43)))
 | 0, _, _, _, _, _ => none
 | k + 1, x11, x12, x13, x174000, x174001 => if x13 < x12 then (if 0 ≤ x13 then (if x13 < (x11.length : Int) then ((arr_copied.f k ((rd_T43 x11 x13).f0) ((rd_T43 x11 x13).f1) ((rd_T43 x11 x13).f2)).bind fun bt176 => (if x174001.length < 3518437208883 then (arr_Copy.l0 k x11 x12 (wrap64 (x13 + 1)) x174000 (x174001 ++ [(⟨bt176.1, bt176.2.1, bt176.2.2⟩ : S43)])) else (none))) else (none)) else (none)) else (some (x174000, x174001))
def arr_Copy.f : Nat → List Int → List (S43) → Option (List Int × (List (S43)))
 | 0, _, _ => none
 | k + 1, l0_0, l0_1 => if ([] : List Int).length + l0_0.length < 17592186044416 then (arr_Copy.l0 k l0_1 (l0_1.length : Int) 0 (([] : List Int) ++ l0_0) ([] : List (S43))) else (none)
end
theorem scc54.mono_l : ∀ k, (∀ y0 y1 y2, LeO (arr_copied.f k y0 y1 y2) (arr_copied.f (k + 1) y0 y1 y2)) ∧ (∀ y0 y1, LeO (arr_Copy.f k y0 y1) (arr_Copy.f (k + 1) y0 y1)) ∧ (∀ y0 y1 y2 y3 y4, LeO (arr_Copy.l0 k y0 y1 y2 y3 y4) (arr_Copy.l0 (k + 1) y0 y1 y2 y3 y4))
 | 0 => ⟨fun _ _ _ r h => by simp [arr_copied.f] at h, fun _ _ r h => by simp [arr_Copy.f] at h, fun _ _ _ _ _ r h => by simp [arr_Copy.l0] at h⟩
 | k + 1 => by
  obtain ⟨ih0, ih1, ih2⟩ := scc54.mono_l k
  refine ⟨?_, ?_, ?_⟩
  ·intro y0 y1 y2
   unfold arr_copied.f
   repeat' first
   | (with_reducible exact ih0 _ _ _)
   | (with_reducible exact ih1 _ _)
   | (with_reducible exact ih2 _ _ _ _ _)
   | (with_reducible exact LeO.refl _)
   | (with_reducible exact LeO.none _)
   | (with_reducible refine LeO.ite ?_ ?_)
   | (with_reducible refine LeO.bind ?_ (fun _ => ?_))






  ·intro y0 y1
   unfold arr_Copy.f
   repeat' first
   | (with_reducible exact ih0 _ _ _)
   | (with_reducible exact ih1 _ _)
   | (with_reducible exact ih2 _ _ _ _ _)
   | (with_reducible exact LeO.refl _)
   | (with_reducible exact LeO.none _)
   | (with_reducible refine LeO.ite ?_ ?_)
   | (with_reducible refine LeO.bind ?_ (fun _ => ?_))






  ·intro y0 y1 y2 y3 y4
   unfold arr_Copy.l0
   repeat' first
   | (with_reducible exact ih0 _ _ _)
   | (with_reducible exact ih1 _ _)
   | (with_reducible exact ih2 _ _ _ _ _)
   | (with_reducible exact LeO.refl _)
   | (with_reducible exact LeO.none _)
   | (with_reducible refine LeO.ite ?_ ?_)
   | (with_reducible refine LeO.bind ?_ (fun _ => ?_))
theorem arr_copied.mono : ∀ a0 a1 a2 k, LeO (arr_copied.f k a0 a1 a2) (arr_copied.f (k + 1) a0 a1 a2) := by
 intro a0 a1 a2 k
 obtain ⟨ih0, ih1, ih2⟩ := scc54.mono_l k
 exact ih0 a0 a1 a2
theorem arr_Copy.mono : ∀ a0 a1 k, LeO (arr_Copy.f k a0 a1) (arr_Copy.f (k + 1) a0 a1) := by
 intro a0 a1 k
 obtain ⟨ih0, ih1, ih2⟩ := scc54.mono_l k
 exact ih1 a0 a1
set_option maxHeartbeats 8000000 in
set_option maxRecDepth 100000 in
theorem arr_copied.step (k : Nat) (ih : ∀ k_, k_ < k → ∀ (a0_0 : Int) (a0_1 : Int) (P0_2_ : Nat → Prop) (A0_2 : Option Addr) (c0_2 : Nat) (l0_2 : List (S25)) (r1 : Int) (r2 : Int) (r3 : List (S25)) (w : World) (hs0_2 : Kd.V k25 25 w w.heap.size (fun k_ => P0_2_ k_) (.slice A0_2 l0_2.length c0_2) l0_2) (h : arr_copied.f k_ a0_0 a0_1 l0_2 = some (r1, r2, r3)),
  Calls Try.prog 54 #[.agg #[.int .i64 a0_0, .int .i64 a0_1, .slice A0_2 l0_2.length c0_2]] w fun e w' => ∃ v2_ : Value, e = .returned (.agg #[.int .i64 r1, .int .i64 r2, v2_]) ∧ Kd.V k25 25 w' w.heap.size (fun k_ => (P0_2_ k_ ∨ w.heap.size ≤ k_)) v2_ r3 ∧ Below w.heap.size w w') (ih_arr_Copy : ∀ k_, k_ < k → ∀ (A0_0 : Option Addr) (c0_0 : Nat) (l0_0 : List Int) (P0_1_ : Nat → Prop) (A0_1 : Option Addr) (c0_1 : Nat) (l0_1 : List (S43)) (r1 : List Int) (r2 : List (S43)) (w : World) (hr0_0 : Kd.C (Kd.int .i64) w A0_0 l0_0.length l0_0) (hc0_0 : l0_0.length ≤ c0_0) (hs0_1 : Kd.V k43 43 w w.heap.size (fun k_ => P0_1_ k_) (.slice A0_1 l0_1.length c0_1) l0_1) (h : arr_Copy.f k_ l0_0 l0_1 = some (r1, r2)),
  Calls Try.prog 26 #[.agg #[.slice A0_0 l0_0.length c0_0, .slice A0_1 l0_1.length c0_1]] w fun e w' => ∃ v0_ v1_ : Value, e = .returned (.agg #[v0_, v1_]) ∧ Kd.R (Kd.int .i64) 3 w' w.heap.size (fun k_ => (w.heap.size ≤ k_)) v0_ r1 ∧ Kd.N k43 43 w' w.heap.size (fun k_ => (P0_1_ k_ ∨ w.heap.size ≤ k_) ∧ some k_ ≠ (v0_ : Value).ownBlock) v1_ r2 ∧ Below w.heap.size w w') : ∀ (a0_0 : Int) (a0_1 : Int) (P0_2_ : Nat → Prop) (A0_2 : Option Addr) (c0_2 : Nat) (l0_2 : List (S25)) (r1 : Int) (r2 : Int) (r3 : List (S25)) (w : World) (hs0_2 : Kd.V k25 25 w w.heap.size (fun k_ => P0_2_ k_) (.slice A0_2 l0_2.length c0_2) l0_2) (h : arr_copied.f k a0_0 a0_1 l0_2 = some (r1, r2, r3)),
  Calls Try.prog 54 #[.agg #[.int .i64 a0_0, .int .i64 a0_1, .slice A0_2 l0_2.length c0_2]] w fun e w' => ∃ v2_ : Value, e = .returned (.agg #[.int .i64 r1, .int .i64 r2, v2_]) ∧ Kd.V k25 25 w' w.heap.size (fun k_ => (P0_2_ k_ ∨ w.heap.size ≤ k_)) v2_ r3 ∧ Below w.heap.size w w' := by
 intro a0_0 a0_1 P0_2_ A0_2 c0_2 l0_2 r1 r2 r3 w hs0_2 h
 cases k with
 | zero => exact absurd h (by simp [arr_copied.f])
 | succ k =>
 simp only [arr_copied.f] at h
 have hu43 := Try.underlying43
 have hu25 := Try.underlying25
 have HO0_2 := gA (show Kd.V k25 25 w w.heap.size (fun k_ => (P0_2_ k_ ∨ w.heap.size ≤ k_)) (.slice A0_2 l0_2.length c0_2) l0_2 from Kd.V_mono hs0_2 (fun k_ hk => .inl hk))
 have HB := gA (Below.refl w.heap.size w)
 have H : (if (l0_2.length : Int) > 0 then (if 0 < (l0_2.length : Int) then ((arr_Copy.f k ((rd_T25 l0_2 0).f0) ((rd_T25 l0_2 0).f1)).bind fun bt159 => (some (a0_0, a0_1, (([(⟨bt159.1, bt159.2⟩ : S25)] : List (S25)))))) else (none)) else (some (a0_0, a0_1, l0_2))) = some (r1, r2, r3) := h
 clear h
 by_cases c2 : (l0_2.length : Int) > 0
 ·rw [if_pos c2] at H
  have c2b0 : decide (0 < (l0_2.length : Int)) = true := decide_eq_true c2
  have c2b1 : decide (0 < l0_2.length) = true := decide_eq_true (by omega)
  clear c2
  obtain ⟨c3, H⟩ := iS H
  have c3b0 := decide_eq_true c3
  have c3b1 : decide (0 < l0_2.length) = true := decide_eq_true (by omega)
  clear c3
  replace H := Option.bind_eq_some_iff.mp H
  obtain ⟨⟨t159, t162⟩, A40, H⟩ := H
  replace H : (some (a0_0, a0_1, (([(⟨t159, t162⟩ : S25)] : List (S25))))) = some (r1, r2, r3) := H
  have A4 := gA A40
  clear A40
  obtain ⟨y165, hy165⟩ : ∃ y_ : List (S25), y_ = (([(⟨t159, t162⟩ : S25)] : List (S25))) := ⟨_, rfl⟩
  replace H : (some (a0_0, a0_1, y165)) = some (r1, r2, r3) := by first | (rw [hy165]; with_reducible exact H) | (have H2_ := (Option.bind_some _ _).symm.trans H; rw [hy165]; with_reducible exact H2_) | (have H2_ := (Option.bind_some _ _).symm.trans H; with_reducible exact H2_) | with_reducible exact H | (rw [hy165]; exact H) | exact H
  have Ny165 := gA hy165
  clear hy165
  simp only [Option.some.injEq, Prod.mk.injEq] at H
  obtain ⟨rfl, rfl, rfl⟩ := H
  go_enter Try.func54, Try.ntmps54
  go_wp2_with (first | ((with_reducible refine gate_dst (N := 1) rfl ?_); refine box_event ?hg (N := 1) ?hd (cs := #[.int .i64 a0_0, .int .i64 a0_1, .slice A0_2 l0_2.length c0_2]) (t := 43) ?hr ?_; (case hd => rfl); (case hg => rfl); (case hr => first | (go_simp; done) | (go_simp; rfl)); intro gb156 hg w5 hbox hb; replace HO0_2 := gA (Kd.V_below (Kd.V_elderB (gV HO0_2) gb156 (Nat.le_of_eq hg.symm)) hb); have BK156 := gA (hbox); have GW156 := gA ((by rw [hg]; exact (below_size (gB HB)) : w.heap.size ≤ gb156)); have GE156 := gA ((by rw [hg]; exact (below_size (gB HB)) : w.heap.size ≤ gb156)); replace HB := gA (below_step (gB HB) hb); clear hb hbox hg) | ((with_reducible refine gate_dst (N := 2) rfl ?_); refine box_event ?hg (N := 2) ?hd (cs := #[.int .i64 0, .int .i64 0, .slice none 0 0]) (t := 43) ?hr ?_; (case hd => rfl); (case hg => rfl); (case hr => first | (go_simp; done) | (go_simp; rfl)); intro gb157 hg w6 hbox hb; replace HO0_2 := gA (Kd.V_below (Kd.V_elderB (gV HO0_2) gb157 (Nat.le_of_eq hg.symm)) hb); have BK157 := gA (hbox); have GW157 := gA ((by rw [hg]; exact (below_size (gB HB)) : w.heap.size ≤ gb157)); have GE157 := gA ((by rw [hg]; exact (below_size (gB HB)) : w.heap.size ≤ gb157)); replace HB := gA (below_step (gB HB) hb); have NB156_157 := gA ((by rw [hg]; exact Nat.ne_of_lt (blk_lt (gK BK156)) : gb156 ≠ gb157)); have NB157_156 := gA ((by rw [hg]; exact Nat.ne_of_gt (blk_lt (gK BK156)) : gb157 ≠ gb156)); replace BK156 := gA (blk_below (gK BK156) hb); clear hb hbox hg; have hnb7 := NB156_157.out; have hnc7 := NB157_156.out; obtain ⟨hcz8_0, hcz8_1, hcz8_2, hfz8_0, hfz8_1, hfz8_2⟩ := gz3 BK156; have p158 : 0 ≤ (0 : Int) := (by omega); have q158 : 0 < (l0_2.length : Int) := of_decide_eq_true (by assumption); obtain ⟨ad158, A158_0, c158_0, A158_1, c158_1, e158, hx158_0, hx158_1, hl158_0, hi158_0, hl158_1, hi158_1⟩ := at_T25 (Kd.V_reads' HO0_2.out).2.2 0 p158 q158; cases e158; obtain ⟨ce158, hce158, hMe158, hcc158⟩ := Kd.V_get HO0_2.out z25 0 p158 (by first | exact q158 | exact of_decide_eq_true (by assumption) | (have e_ := (Kd.V_reads' HO0_2.out).1; omega)); obtain ⟨ua158_0, uc158_0, ua158_1, uc158_1, rfl, ul158_0, ge158_0, ul158_1, ge158_1⟩ := k25_openF hMe158; have hv158_0 := hcc158 0 _ rfl; rw [Nat.add_zero] at hv158_0; replace hv158_0 := Option.some.inj (hv158_0.symm.trans hx158_0); injection hv158_0 with hva_ hvn_ hvc_; rw [hva_] at ge158_0; rw [hvc_] at ul158_0; have HL158_0 := gA (show Kd.V (Kd.int .i64) 3 _ w.heap.size _ _ ((rd_T25 l0_2 0).f0) from Kd.V_mk ul158_0 ge158_0); clear hva_ hvn_ hvc_ ge158_0 ul158_0; have hv158_1 := hcc158 1 _ rfl; rw [add_field _ _ 1 (by omega)] at hv158_1; replace hv158_1 := Option.some.inj (hv158_1.symm.trans hx158_1); injection hv158_1 with hva_ hvn_ hvc_; rw [hva_] at ge158_1; rw [hvc_] at ul158_1; have HL158_1 := gA (show Kd.V k43 43 _ w.heap.size _ _ ((rd_T25 l0_2 0).f1) from Kd.V_mk ul158_1 ge158_1); clear hva_ hvn_ hvc_ ge158_1 ul158_1 hcc158 hce158; have qi158 : (0 < l0_2.length) = True := eq_true (by omega); (try rw [show ((0 : Int)).toNat = 0 from rfl] at hx158_0); (try rw [show 0 * 2 = 0 from rfl] at hx158_0); (try rw [Addr.add_zero'] at hx158_0); (try rw [show ((0 : Int)).toNat = 0 from rfl] at hx158_1); (try rw [show 0 * 2 = 0 from rfl] at hx158_1); (try rw [Addr.add_zero'] at hx158_1); have HR158_0 := gA hi158_0; have HC158_0 := gA hl158_0; clear hi158_0 hl158_0; have HR158_1 := gA hi158_1; have HC158_1 := gA hl158_1; clear hi158_1 hl158_1; replace p158 := eq_true p158; replace q158 := eq_true q158) | ((with_reducible refine gate_callee (f := 26) rfl ?_); refine goesL_ (some 11) rfl rfl Try.func26 (by kernel_rfl) rfl #[.agg #[.slice A158_0 ((rd_T25 l0_2 0).f0).length c158_0, .slice A158_1 ((rd_T25 l0_2 0).f1).length c158_1]] rfl (by (try simp only [List.map_toArray, List.map_cons, List.map_nil]); first | done | rfl | (simp only [List.length_drop, List.length_take]; rfl)) ?_; (with_reducible refine (ih_arr_Copy k (by omega) _ _ ((rd_T25 l0_2 0).f0) (fun k_ => (((P0_2_ k_ ∨ w.heap.size ≤ k_) ∧ k_ ≠ gb156) ∧ k_ ≠ gb157)) _ _ ((rd_T25 l0_2 0).f1) t159 t162 _ ?side1 ?side2 ?side3 A4.out).mono ?_); (case side1 => repeat (first | exact (by repeat (first | (with_reducible exact HR158_0.out) | (with_reducible refine Kd.C_alloc ?_ _) | (with_reducible refine Kd.C_drewN ?_ _) | (with_reducible refine Kd.C_drew ?_) | exact HR158_0.out)) | (with_reducible refine Kd.C_alloc ?_ _) | (with_reducible refine Kd.C_drewN ?_ _) | (with_reducible refine Kd.C_drew ?_))); (case side2 => exact HC158_0.out); (case side3 => exact HL158_1.out); rintro e w9 ⟨v160, v163, rfl, ho0, ho1, hb⟩; refine ⟨_, rfl, ?_⟩; replace HO0_2 := gA (Kd.V_mono (Kd.V_told (Kd.V_told (Kd.V_old (gV HO0_2) hb) (Kd.R_base ho0)) (by first | exact Kd.N_base ho1 | exact Kd.R_base ho1)) (fun _ h_ => h_.1)); replace HL158_0 := gA (Kd.V_mono (Kd.V_told (Kd.V_told (Kd.V_old (gV HL158_0) hb) (Kd.R_base ho0)) (by first | exact Kd.N_base ho1 | exact Kd.R_base ho1)) (fun _ h_ => h_.1)); replace HL158_1 := gA (Kd.V_mono (Kd.V_told (Kd.V_told (Kd.V_old (gV HL158_1) hb) (Kd.R_base ho0)) (by first | exact Kd.N_base ho1 | exact Kd.R_base ho1)) (fun _ h_ => h_.1)); have HO161 := gA (Kd.R_lower (Kd.R_newM (M := fun k_ => (w.heap.size ≤ k_)) (Kd.R_mono (ok' := fun k_ => True) ho0 (fun _ hk_ => trivial)) (below_size (gB HB)) (fun k_ h_ => h_)) (below_size (gB HB))); have HO164 := gA (Kd.N_lower (Kd.N_mono (ok' := fun k_ => (P0_2_ k_ ∨ w.heap.size ≤ k_) ∧ some k_ ≠ (v160 : Value).ownBlock ∧ k_ ≠ gb156 ∧ k_ ≠ gb157) ho1 (fun k_ hk_ => ⟨Or.elim hk_.1 (fun hs_ => hs_.1.1) (fun hn_ => (.inr (Nat.le_trans (below_size (gB HB)) hn_))), hk_.2, Or.elim hk_.1 (fun hs_ => hs_.1.2) (fun hn_ => (Kd.freshB (gK BK156) k_ hn_)), Or.elim hk_.1 (fun hs_ => hs_.2) (fun hn_ => (Kd.freshB (gK BK157) k_ hn_))⟩)) (below_size (gB HB))); replace BK156 := gA (blk_below (gK BK156) hb); replace BK157 := gA (blk_below (gK BK157) hb); replace HR158_0 := gA (Kd.C_below (by repeat (first | (with_reducible exact HR158_0.out) | (with_reducible refine Kd.C_alloc ?_ _) | (with_reducible refine Kd.C_drewN ?_ _) | (with_reducible refine Kd.C_drew ?_) | exact HR158_0.out)) hb); replace HR158_1 := gA (Kd.C_below (by repeat (first | (with_reducible exact HR158_1.out) | (with_reducible refine Kd.C_alloc ?_ _) | (with_reducible refine Kd.C_drewN ?_ _) | (with_reducible refine Kd.C_drew ?_) | exact HR158_1.out)) hb); replace HB := gA (below_step (gB HB) hb); (try clear hb); (try clear ho0); (try clear ho1); obtain ⟨Ao10, co10, eo10⟩ := Kd.R_slice HO161.out; subst eo10; obtain ⟨Ao11, co11, eo11⟩ := Kd.N_slice HO164.out; subst eo11) | ((with_reducible refine gate_dst (N := 12) rfl ?_); refine Kd.N_lit k25 _ 25 ?hg (N' := 12) ?hd (xs := ([(⟨t159, t162⟩ : S25)] : List (S25))) (inner := [.slice Ao10 t159.length co10, .slice Ao11 t162.length co11]) (ok := (fun k_ => (P0_2_ k_ ∨ w.heap.size ≤ k_) ∧ k_ ≠ gb156 ∧ k_ ≠ gb157)) (okp := (fun k_ => (P0_2_ k_ ∨ w.heap.size ≤ k_) ∧ k_ ≠ gb156 ∧ k_ ≠ gb157)) ?hr ?hp (fun _ hk => hk) ((show ∀ k_, w9.heap.size ≤ k_ → (fun k_ => (P0_2_ k_ ∨ w.heap.size ≤ k_) ∧ k_ ≠ gb156 ∧ k_ ≠ gb157) k_ from fun k_ hk => ⟨(.inr (Nat.le_trans (below_size (gB HB)) hk)), Kd.freshB (gK BK156) k_ hk, Kd.freshB (gK BK157) k_ hk⟩) _ (Nat.le_refl _)) (Below.refl _ _) (Nat.le_refl _) (by simp) ?_; (case hd => rfl); (case hg => rfl); (case hr => first | (go_simp; done) | (go_simp; rfl)); (case hp => exact (Reps.c2 (show Kd.FK k25 _ _ (⟨t159, t162⟩ : S25) [.slice Ao10 t159.length co10, .slice Ao11 t162.length co11] from (k25_mkF _ _ (⟨t159, t162⟩ : S25) (Kd.R_reads' (Kd.R_mono (ok' := (fun k_ => (P0_2_ k_ ∨ w.heap.size ≤ k_) ∧ k_ ≠ gb156 ∧ k_ ≠ gb157)) (Kd.R_types (Kd.R_types (HO161.out) BK156.out (by decide)) BK157.out (by decide)) (fun k_ hk => ⟨(.inr (hk.1.1.1)), ⟨hk.1.2, hk.2⟩⟩))).2.1 (Kd.R_F (Kd.R_mono (ok' := (fun k_ => (P0_2_ k_ ∨ w.heap.size ≤ k_) ∧ k_ ≠ gb156 ∧ k_ ≠ gb157)) (Kd.R_types (Kd.R_types (HO161.out) BK156.out (by decide)) BK157.out (by decide)) (fun k_ hk => ⟨(.inr (hk.1.1.1)), ⟨hk.1.2, hk.2⟩⟩))) (Kd.N_reads' (Kd.N_mono (ok' := (fun k_ => (P0_2_ k_ ∨ w.heap.size ≤ k_) ∧ k_ ≠ gb156 ∧ k_ ≠ gb157)) (HO164.out) (fun k_ hk => ⟨hk.1, ⟨hk.2.2.1, hk.2.2.2⟩⟩))).2.1 (Kd.N_F (Kd.N_mono (ok' := (fun k_ => (P0_2_ k_ ∨ w.heap.size ≤ k_) ∧ k_ ≠ gb156 ∧ k_ ≠ gb157)) (HO164.out) (fun k_ hk => ⟨hk.1, ⟨hk.2.2.1, hk.2.2.2⟩⟩))))) (Reps.none _ _))); intro v166 w12 ho13 hb hg_ hnew_; clear hg_ hnew_; (first | rw [← Ny165.out] at ho13 | (simp only [Int.reduceToNat] at ho13; rw [← Ny165.out] at ho13)); replace HO0_2 := gA (Kd.V_elder' (gV HO0_2) (Kd.N_base ho13) hb); replace HL158_0 := gA (Kd.V_elder' (gV HL158_0) (Kd.N_base ho13) hb); replace HL158_1 := gA (Kd.V_elder' (gV HL158_1) (Kd.N_base ho13) hb); have HO167 := gA (Kd.N_lower ho13 (below_size (gB HB))); replace BK156 := gA (blk_below (gK BK156) hb); replace BK157 := gA (blk_below (gK BK157) hb); replace HR158_0 := gA (Kd.C_below (by repeat (first | (with_reducible exact HR158_0.out) | (with_reducible refine Kd.C_alloc ?_ _) | (with_reducible refine Kd.C_drewN ?_ _) | (with_reducible refine Kd.C_drew ?_) | exact HR158_0.out)) hb); replace HR158_1 := gA (Kd.C_below (by repeat (first | (with_reducible exact HR158_1.out) | (with_reducible refine Kd.C_alloc ?_ _) | (with_reducible refine Kd.C_drewN ?_ _) | (with_reducible refine Kd.C_drew ?_) | exact HR158_1.out)) hb); replace HB := gA (below_step (gB HB) hb); clear HO161 HO164 hb ho13; obtain ⟨Ao14, co14, eo14⟩ := Kd.N_slice HO167.out; subst eo14; obtain ⟨hcz15_0, hcz15_1, hcz15_2, hfz15_0, hfz15_1, hfz15_2⟩ := gz3 BK156; obtain ⟨hcz16_0, hcz16_1, hcz16_2, hfz16_0, hfz16_1, hfz16_2⟩ := gz3 BK157))
  refine bodyPost_ret (results_cell_row rfl _ _ gb157 43 #[.int .i64 a0_0, .int .i64 a0_1, .slice Ao14 y165.length co14] (0, 0) _ rfl (by refine blk_put (cs := #[.int .i64 a0_0, .int .i64 a0_1, .slice none 0 0]) ?_ 2 _ rfl; refine blk_put (cs := #[.int .i64 a0_0, .int .i64 0, .slice none 0 0]) ?_ 1 _ rfl; refine blk_put (cs := #[.int .i64 0, .int .i64 0, .slice none 0 0]) ?_ 0 _ rfl; refine blk_far ?_ NB157_156.out _; exact gK BK157) Try.underlying43 rfl (by kernel_rfl)) rfl ?_
  exact ⟨_, rfl, Kd.N_V (Kd.N_mono (Kd.N_far (p := ⟨gb157, 2, none⟩) (Kd.N_far (p := ⟨gb157, 1, none⟩) (Kd.N_far (p := ⟨gb157, 0, none⟩) (Kd.N_far (p := ⟨gb156, 2, none⟩) (Kd.N_mono (Kd.N_mono HO167.out (fun k_ hk => (⟨hk, hk.2.1⟩ : _ ∧ k_ ≠ gb156))) (fun k_ hk => (⟨hk, hk.1.2.2⟩ : _ ∧ k_ ≠ gb157))) (fun _ hk => hk.1.2) (.slice Ao14 y165.length co14)) (fun _ hk => hk.2) (.int .i64 a0_0)) (fun _ hk => hk.2) (.int .i64 a0_1)) (fun _ hk => hk.2) (.slice Ao14 y165.length co14)) (fun _ hk => hk.1.1.1)), by repeat first | exact gB HB | refine below_set ?_ GE156.out | refine below_set ?_ GE157.out⟩
 ·rw [if_neg c2] at H
  have c2b0 : decide (0 < (l0_2.length : Int)) = false := decide_eq_false c2
  have c2b1 : decide (0 < l0_2.length) = false := decide_eq_false (by omega)
  clear c2
  simp only [Option.some.injEq, Prod.mk.injEq] at H
  obtain ⟨rfl, rfl, rfl⟩ := H
  go_enter Try.func54, Try.ntmps54
  go_wp2_with (first | ((with_reducible refine gate_dst (N := 1) rfl ?_); refine box_event ?hg (N := 1) ?hd (cs := #[.int .i64 a0_0, .int .i64 a0_1, .slice A0_2 l0_2.length c0_2]) (t := 43) ?hr ?_; (case hd => rfl); (case hg => rfl); (case hr => first | (go_simp; done) | (go_simp; rfl)); intro gb156 hg w17 hbox hb; replace HO0_2 := gA (Kd.V_below (Kd.V_elderB (gV HO0_2) gb156 (Nat.le_of_eq hg.symm)) hb); have BK156 := gA (hbox); have GW156 := gA ((by rw [hg]; exact (below_size (gB HB)) : w.heap.size ≤ gb156)); have GE156 := gA ((by rw [hg]; exact (below_size (gB HB)) : w.heap.size ≤ gb156)); replace HB := gA (below_step (gB HB) hb); clear hb hbox hg) | ((with_reducible refine gate_dst (N := 2) rfl ?_); refine box_event ?hg (N := 2) ?hd (cs := #[.int .i64 0, .int .i64 0, .slice none 0 0]) (t := 43) ?hr ?_; (case hd => rfl); (case hg => rfl); (case hr => first | (go_simp; done) | (go_simp; rfl)); intro gb157 hg w18 hbox hb; replace HO0_2 := gA (Kd.V_below (Kd.V_elderB (gV HO0_2) gb157 (Nat.le_of_eq hg.symm)) hb); have BK157 := gA (hbox); have GW157 := gA ((by rw [hg]; exact (below_size (gB HB)) : w.heap.size ≤ gb157)); have GE157 := gA ((by rw [hg]; exact (below_size (gB HB)) : w.heap.size ≤ gb157)); replace HB := gA (below_step (gB HB) hb); have NB156_157 := gA ((by rw [hg]; exact Nat.ne_of_lt (blk_lt (gK BK156)) : gb156 ≠ gb157)); have NB157_156 := gA ((by rw [hg]; exact Nat.ne_of_gt (blk_lt (gK BK156)) : gb157 ≠ gb156)); replace BK156 := gA (blk_below (gK BK156) hb); clear hb hbox hg; have hnb19 := NB156_157.out; have hnc19 := NB157_156.out; obtain ⟨hcz20_0, hcz20_1, hcz20_2, hfz20_0, hfz20_1, hfz20_2⟩ := gz3 BK156; obtain ⟨hcz21_0, hcz21_1, hcz21_2, hfz21_0, hfz21_1, hfz21_2⟩ := gz3 BK157))
  refine bodyPost_ret (results_cell_row rfl _ _ gb157 43 #[.int .i64 a0_0, .int .i64 a0_1, .slice A0_2 l0_2.length c0_2] (0, 0) _ rfl (by refine blk_put (cs := #[.int .i64 a0_0, .int .i64 a0_1, .slice none 0 0]) ?_ 2 _ rfl; refine blk_put (cs := #[.int .i64 a0_0, .int .i64 0, .slice none 0 0]) ?_ 1 _ rfl; refine blk_put (cs := #[.int .i64 0, .int .i64 0, .slice none 0 0]) ?_ 0 _ rfl; exact gK BK157) Try.underlying43 rfl (by kernel_rfl)) rfl ?_
  exact ⟨_, rfl, Kd.V_mono (Kd.V_far (p := ⟨gb157, 2, none⟩) (Kd.V_far (p := ⟨gb157, 1, none⟩) (Kd.V_far (p := ⟨gb157, 0, none⟩) (Kd.V_mono HO0_2.out (fun k_ hk => (⟨hk, hk.2⟩ : _ ∧ k_ ≠ gb157))) (fun _ hk => hk.2) (.int .i64 a0_0)) (fun _ hk => hk.2) (.int .i64 a0_1)) (fun _ hk => hk.2) (.slice A0_2 l0_2.length c0_2)) (fun _ hk => hk.1.1.1), by repeat first | exact gB HB | refine below_set ?_ GE156.out | refine below_set ?_ GE157.out⟩
def arr_Copy.T5 : Bool × List (List Nat × List Nat) := (true, [([], []), ([0], [0]), ([], []), ([2], [2]), ([3], [3]), ([1, 4, 3], [1, 4]), ([0, 1, 2, 3, 4, 5], []), ([6, 5, 5, 0, 1, 2, 3, 4, 5], [5, 6])])
def arr_Copy.B5 : List Nat := [0, 1, 0, 4, 12, 31, 63, 127]
theorem arr_Copy.tab5 : rtab .any (opsOf Try.f26 5) = arr_Copy.T5 := by kernel_rfl
theorem arr_Copy.bits5 : waitsOk arr_Copy.T5.2 arr_Copy.B5 = true := by kernel_rfl
set_option maxHeartbeats 8000000 in
set_option maxRecDepth 100000 in
theorem arr_Copy.step (k : Nat) (ih_arr_copied : ∀ k_, k_ < k → ∀ (a0_0 : Int) (a0_1 : Int) (P0_2_ : Nat → Prop) (A0_2 : Option Addr) (c0_2 : Nat) (l0_2 : List (S25)) (r1 : Int) (r2 : Int) (r3 : List (S25)) (w : World) (hs0_2 : Kd.V k25 25 w w.heap.size (fun k_ => P0_2_ k_) (.slice A0_2 l0_2.length c0_2) l0_2) (h : arr_copied.f k_ a0_0 a0_1 l0_2 = some (r1, r2, r3)),
  Calls Try.prog 54 #[.agg #[.int .i64 a0_0, .int .i64 a0_1, .slice A0_2 l0_2.length c0_2]] w fun e w' => ∃ v2_ : Value, e = .returned (.agg #[.int .i64 r1, .int .i64 r2, v2_]) ∧ Kd.V k25 25 w' w.heap.size (fun k_ => (P0_2_ k_ ∨ w.heap.size ≤ k_)) v2_ r3 ∧ Below w.heap.size w w') (ih : ∀ k_, k_ < k → ∀ (A0_0 : Option Addr) (c0_0 : Nat) (l0_0 : List Int) (P0_1_ : Nat → Prop) (A0_1 : Option Addr) (c0_1 : Nat) (l0_1 : List (S43)) (r1 : List Int) (r2 : List (S43)) (w : World) (hr0_0 : Kd.C (Kd.int .i64) w A0_0 l0_0.length l0_0) (hc0_0 : l0_0.length ≤ c0_0) (hs0_1 : Kd.V k43 43 w w.heap.size (fun k_ => P0_1_ k_) (.slice A0_1 l0_1.length c0_1) l0_1) (h : arr_Copy.f k_ l0_0 l0_1 = some (r1, r2)),
  Calls Try.prog 26 #[.agg #[.slice A0_0 l0_0.length c0_0, .slice A0_1 l0_1.length c0_1]] w fun e w' => ∃ v0_ v1_ : Value, e = .returned (.agg #[v0_, v1_]) ∧ Kd.R (Kd.int .i64) 3 w' w.heap.size (fun k_ => (w.heap.size ≤ k_)) v0_ r1 ∧ Kd.N k43 43 w' w.heap.size (fun k_ => (P0_1_ k_ ∨ w.heap.size ≤ k_) ∧ some k_ ≠ (v0_ : Value).ownBlock) v1_ r2 ∧ Below w.heap.size w w') : ∀ (A0_0 : Option Addr) (c0_0 : Nat) (l0_0 : List Int) (P0_1_ : Nat → Prop) (A0_1 : Option Addr) (c0_1 : Nat) (l0_1 : List (S43)) (r1 : List Int) (r2 : List (S43)) (w : World) (hr0_0 : Kd.C (Kd.int .i64) w A0_0 l0_0.length l0_0) (hc0_0 : l0_0.length ≤ c0_0) (hs0_1 : Kd.V k43 43 w w.heap.size (fun k_ => P0_1_ k_) (.slice A0_1 l0_1.length c0_1) l0_1) (h : arr_Copy.f k l0_0 l0_1 = some (r1, r2)),
  Calls Try.prog 26 #[.agg #[.slice A0_0 l0_0.length c0_0, .slice A0_1 l0_1.length c0_1]] w fun e w' => ∃ v0_ v1_ : Value, e = .returned (.agg #[v0_, v1_]) ∧ Kd.R (Kd.int .i64) 3 w' w.heap.size (fun k_ => (w.heap.size ≤ k_)) v0_ r1 ∧ Kd.N k43 43 w' w.heap.size (fun k_ => (P0_1_ k_ ∨ w.heap.size ≤ k_) ∧ some k_ ≠ (v0_ : Value).ownBlock) v1_ r2 ∧ Below w.heap.size w w' := by
 intro A0_0 c0_0 l0_0 P0_1_ A0_1 c0_1 l0_1 r1 r2 w hr0_0 hc0_0 hs0_1 h
 cases k with
 | zero => exact absurd h (by simp [arr_Copy.f])
 | succ k =>
 simp only [arr_Copy.f] at h
 have hu25 := Try.underlying25
 have hu43 := Try.underlying43
 have HR0_0 := gA hr0_0
 have HC0_0 := gA hc0_0
 clear hr0_0 hc0_0
 have HO0_1 := gA (show Kd.V k43 43 w w.heap.size (fun k_ => (P0_1_ k_ ∨ w.heap.size ≤ k_)) (.slice A0_1 l0_1.length c0_1) l0_1 from Kd.V_mono hs0_1 (fun k_ hk => .inl hk))
 have HB := gA (Below.refl w.heap.size w)
 have H : (if ([] : List Int).length + l0_0.length < 17592186044416 then (arr_Copy.l0 k l0_1 (l0_1.length : Int) 0 (([] : List Int) ++ l0_0) ([] : List (S43))) else (none)) = some (r1, r2) := h
 clear h
 obtain ⟨c2, H⟩ := iS H
 have LMc2 := gA c2
 clear c2
 obtain ⟨y170, hy170⟩ : ∃ y_ : List Int, y_ = (([] : List Int) ++ l0_0) := ⟨_, rfl⟩
 replace H : (arr_Copy.l0 k l0_1 (l0_1.length : Int) 0 y170 ([] : List (S43))) = some (r1, r2) := by first | (rw [hy170]; with_reducible exact H) | (have H2_ := (Option.bind_some _ _).symm.trans H; rw [hy170]; with_reducible exact H2_) | (have H2_ := (Option.bind_some _ _).symm.trans H; with_reducible exact H2_) | with_reducible exact H | (rw [hy170]; exact H) | exact H
 have Ny170 := gA hy170
 clear hy170
 have H' := gA H
 clear H
 go_enter Try.func26, Try.ntmps26
 go_wp2_with (first | ((with_reducible refine gate_dst (N := 1) rfl ?_); refine box_event ?hg (N := 1) ?hd (cs := #[.slice A0_0 l0_0.length c0_0, .slice A0_1 l0_1.length c0_1]) (t := 25) ?hr ?_; (case hd => rfl); (case hg => rfl); (case hr => first | (go_simp; done) | (go_simp; rfl)); intro gb168 hg w3 hbox hb; replace HO0_1 := gA (Kd.V_below (Kd.V_elderB (gV HO0_1) gb168 (Nat.le_of_eq hg.symm)) hb); have BK168 := gA (hbox); have GW168 := gA ((by rw [hg]; exact (below_size (gB HB)) : w.heap.size ≤ gb168)); have GE168 := gA ((by rw [hg]; exact (below_size (gB HB)) : w.heap.size ≤ gb168)); replace HB := gA (below_step (gB HB) hb); clear hb hbox hg) | ((with_reducible refine gate_dst (N := 2) rfl ?_); refine box_event ?hg (N := 2) ?hd (cs := #[.slice none 0 0, .slice none 0 0]) (t := 25) ?hr ?_; (case hd => rfl); (case hg => rfl); (case hr => first | (go_simp; done) | (go_simp; rfl)); intro gb169 hg w4 hbox hb; replace HO0_1 := gA (Kd.V_below (Kd.V_elderB (gV HO0_1) gb169 (Nat.le_of_eq hg.symm)) hb); have BK169 := gA (hbox); have GW169 := gA ((by rw [hg]; exact (below_size (gB HB)) : w.heap.size ≤ gb169)); have GE169 := gA ((by rw [hg]; exact (below_size (gB HB)) : w.heap.size ≤ gb169)); replace HB := gA (below_step (gB HB) hb); have NB168_169 := gA ((by rw [hg]; exact Nat.ne_of_lt (blk_lt (gK BK168)) : gb168 ≠ gb169)); have NB169_168 := gA ((by rw [hg]; exact Nat.ne_of_gt (blk_lt (gK BK168)) : gb169 ≠ gb168)); replace BK168 := gA (blk_below (gK BK168) hb); clear hb hbox hg; have hnb5 := NB168_169.out; have hnc5 := NB169_168.out; obtain ⟨hcz6_0, hcz6_1, hfz6_0, hfz6_1⟩ := gz2 BK168) | ((with_reducible refine gate_builtin (b := .append) (xs := #[.const (.slice none 0 0), .tmp 7]) rfl ?_); at_builtin; refine Kd.R_append_rows (Kd.int .i64) (w0 := w) w.heap.size rfl (.const (.slice none 0 0)) (.tmp 7) 22 3 (.int .i64 0) 8 rfl Try.underlying22 info3 rfl (by decide) (by omega) (.slice none 0 0) ([] : List Int) l0_0 _ _ _ (fun k_ => (w.heap.size ≤ k_)) (fun _ => False) rfl rfl ?aO ?aR (fun _ _ h => h) (fun _ h => h.elim) ?aF ?aB ?aS ?aL ?_; (case aR => exact gC HR0_0 HB); (case aB => exact (gB HB)); (case aF => exact (fun k_ hk => (Nat.le_trans (below_size (gB HB)) hk))); (case aO => exact ((Kd.R_nil _ _ _ _ (fun k_ => (w.heap.size ≤ k_))))); (case aS => exact (below_size (gB HB))); (case aL => have := LMc2.out; omega); intro v171 w7 ho hb hg hat; rw [← Ny170.out] at ho; replace HO0_1 := gA (Kd.V_afterv (Kd.V_apart_nil (gV HO0_1)) hg hat); replace BK168 := gA (blk_grown (gK BK168) hg (by simp [Value.ownBlock])); replace BK169 := gA (blk_grown (gK BK169) hg (by simp [Value.ownBlock])); replace HB := gA (hb); have HO172 := gA (ho); clear ho hb hg hat; obtain ⟨Ao8, co8, eo8⟩ := Kd.R_slice HO172.out; subst eo8) | ((with_reducible refine gate_dst (N := 3) rfl ?_); refine box_event ?hg (N := 3) ?hd (cs := #[.slice none 0 0, .slice none 0 0]) (t := 25) ?hr ?_; (case hd => rfl); (case hg => rfl); (case hr => first | (go_simp; done) | (go_simp; rfl)); intro gb173 hg w9 hbox hb; replace HO0_1 := gA (Kd.V_below (Kd.V_elderB (gV HO0_1) gb173 (Nat.le_of_eq hg.symm)) hb); replace HO172 := gA (Kd.R_below (gR HO172) hb); have BK173 := gA (hbox); have GW173 := gA ((by rw [hg]; exact (below_size (gB HB)) : w.heap.size ≤ gb173)); have GE173 := gA ((by rw [hg]; exact (below_size (gB HB)) : w.heap.size ≤ gb173)); replace HB := gA (below_step (gB HB) hb); have NB168_173 := gA ((by rw [hg]; exact Nat.ne_of_lt (blk_lt (gK BK168)) : gb168 ≠ gb173)); have NB173_168 := gA ((by rw [hg]; exact Nat.ne_of_gt (blk_lt (gK BK168)) : gb173 ≠ gb168)); replace BK168 := gA (blk_below (gK BK168) hb); have NB169_173 := gA ((by rw [hg]; exact Nat.ne_of_lt (blk_lt (gK BK169)) : gb169 ≠ gb173)); have NB173_169 := gA ((by rw [hg]; exact Nat.ne_of_gt (blk_lt (gK BK169)) : gb173 ≠ gb169)); replace BK169 := gA (blk_below (gK BK169) hb); clear hb hbox hg; have hnb10 := NB173_168.out; have hnc10 := NB168_173.out; have hnb11 := NB173_169.out; have hnc11 := NB169_173.out; obtain ⟨hcz12_0, hcz12_1, hfz12_0, hfz12_1⟩ := gz2 BK173; obtain ⟨hcz13_0, hcz13_1, hfz13_0, hfz13_1⟩ := gz2 BK168))
 go_loopg [13] k (fun kq v13 w' => ∃ (x13_1 : Int) (x174001_1 : List (S43)) (u174001 : Value), v13 = .int .i64 x13_1 ∧ Aside0 (arr_Copy.l0 kq l0_1 (l0_1.length : Int) x13_1 y170 x174001_1 = some (r1, r2)) ∧ Aside0 (kq ≤ k) ∧ Aside0 (Kd.V k43 43 w' w.heap.size (fun k_ => (P0_1_ k_ ∨ w.heap.size ≤ k_) ∧ some k_ ≠ ((.slice Ao8 y170.length co8) : Value).ownBlock ∧ some k_ ≠ (u174001 : Value).ownBlock ∧ k_ ≠ gb168 ∧ k_ ≠ gb169 ∧ k_ ≠ gb173) (.slice A0_1 l0_1.length c0_1) l0_1) ∧ Aside0 (Kd.V k43 43 w' w.heap.size (fun k_ => (P0_1_ k_ ∨ w.heap.size ≤ k_) ∧ some k_ ≠ ((.slice Ao8 y170.length co8) : Value).ownBlock ∧ some k_ ≠ (u174001 : Value).ownBlock ∧ k_ ≠ gb168 ∧ k_ ≠ gb169 ∧ k_ ≠ gb173) (.slice A0_1 l0_1.length c0_1) l0_1) ∧ Aside0 (Kd.R (Kd.int .i64) 3 w' w.heap.size (fun k_ => (w.heap.size ≤ k_)) (.slice Ao8 y170.length co8) y170) ∧ Aside0 (Kd.N k43 43 w' w.heap.size (fun k_ => (P0_1_ k_ ∨ w.heap.size ≤ k_) ∧ some k_ ≠ ((.slice Ao8 y170.length co8) : Value).ownBlock ∧ k_ ≠ gb168 ∧ k_ ≠ gb169 ∧ k_ ≠ gb173) u174001 x174001_1) ∧ Aside0 (w'.heap[gb168]? = some (.cells #[(.slice A0_0 l0_0.length c0_0), (.slice A0_1 l0_1.length c0_1)] 25 (0, 0))) ∧ Aside0 (w'.heap[gb169]? = some (.cells #[(.slice none 0 0), (.slice none 0 0)] 25 (0, 0))) ∧ Aside0 (w'.heap[gb173]? = some (.cells #[(.slice Ao8 y170.length co8), u174001] 25 (0, 0))) ∧ Aside0 (Below w.heap.size w w'))
 case atStart => exact ⟨(0), (([] : List (S43))), (.slice none 0 0), (rfl), H', ⟨Nat.le_refl _⟩, ⟨Kd.V_mono (Kd.V_far (p := ⟨gb173, 1, none⟩) (Kd.V_far (p := ⟨gb173, 0, none⟩) (Kd.V_mono HO0_1.out (fun k_ hk => (⟨hk, hk.2⟩ : _ ∧ k_ ≠ gb173))) (fun _ hk => hk.2) (.slice Ao8 y170.length co8)) (fun _ hk => hk.2) (.slice none 0 0)) (fun _ hk => ⟨hk.1.1.1.1.1, ⟨hk.1.1.2, ⟨(by simp [Value.ownBlock]), ⟨hk.1.1.1.1.2, ⟨hk.1.1.1.2, hk.1.2⟩⟩⟩⟩⟩)⟩, ⟨Kd.V_mono (Kd.V_far (p := ⟨gb173, 1, none⟩) (Kd.V_far (p := ⟨gb173, 0, none⟩) (Kd.V_mono HO0_1.out (fun k_ hk => (⟨hk, hk.2⟩ : _ ∧ k_ ≠ gb173))) (fun _ hk => hk.2) (.slice Ao8 y170.length co8)) (fun _ hk => hk.2) (.slice none 0 0)) (fun _ hk => ⟨hk.1.1.1.1.1, ⟨hk.1.1.2, ⟨(by simp [Value.ownBlock]), ⟨hk.1.1.1.1.2, ⟨hk.1.1.1.2, hk.1.2⟩⟩⟩⟩⟩)⟩, ⟨Kd.R_mono (Kd.R_far (p := ⟨gb173, 1, none⟩) (Kd.R_far (p := ⟨gb173, 0, none⟩) (Kd.R_types HO172.out BK173.out (by decide)) (fun _ hk => hk.2) (.slice Ao8 y170.length co8)) (fun _ hk => hk.2) (.slice none 0 0)) (fun _ hk => hk.1)⟩, ⟨by first | exact Kd.R_nil _ _ _ _ _ | exact Kd.N_nil _ _ _ _ _ | exact Kd.V_nil _ _ _ _ _ | exact Kd.Q_nil _ _ _ _ _ | exact Kd.S_nil _ _ _ _ _⟩, ⟨by refine blk_far ?_ NB168_173.out _; refine blk_far ?_ NB168_173.out _; exact gK BK168⟩, ⟨by refine blk_far ?_ NB169_173.out _; refine blk_far ?_ NB169_173.out _; exact gK BK169⟩, ⟨by refine blk_put (cs := #[.slice Ao8 y170.length co8, .slice none 0 0]) ?_ 1 _ rfl; refine blk_put (cs := #[.slice none 0 0, .slice none 0 0]) ?_ 0 _ rfl; exact gK BK173⟩, ⟨by repeat first | exact gB HB | refine below_set ?_ GE168.out | refine below_set ?_ GE169.out | refine below_set ?_ GE173.out⟩⟩
 case round =>
  clear H'
  try clear c1
  try clear c2
  try clear p2
  try clear c5
  try clear c10
  try clear c11
  try clear hcz12_0
  try clear hcz12_1
  try clear hcz13_0
  try clear hcz13_1
  try clear hcz6_0
  try clear hcz6_1
  try clear hfz12_0
  try clear hfz12_1
  try clear hfz13_0
  try clear hfz13_1
  try clear hfz6_0
  try clear hfz6_1
  obtain ⟨x13_1, x174001_1, u174001, rfl, HA, HK1, HO_11, HO_169001, HO_174000, HO_174001, BK168, BK169, BK173, HB⟩ := hrel
  cases gk with
  | zero => exact absurd HA.out (by simp [arr_Copy.l0])
  | succ k1 =>
   have H := HA.out; clear HA
   simp only [arr_Copy.l0] at H
   by_cases c14 : x13_1 < (l0_1.length : Int)
   ·rw [if_pos c14] at H
    have c14b0 := decide_eq_true c14
    clear c14
    obtain ⟨c15, H⟩ := iS H
    have c15b0 := decide_eq_true c15
    clear c15
    obtain ⟨c16, H⟩ := iS H
    have c16b0 := decide_eq_true c16
    clear c16
    replace H := Option.bind_eq_some_iff.mp H
    obtain ⟨⟨t176, t177, t178⟩, A170, H⟩ := H
    replace H : (if x174001_1.length < 3518437208883 then (arr_Copy.l0 k1 l0_1 (l0_1.length : Int) (wrap64 (x13_1 + 1)) y170 (x174001_1 ++ [(⟨t176, t177, t178⟩ : S43)])) else (none)) = some (r1, r2) := H
    have A17 := gA A170
    clear A170
    obtain ⟨c18, H⟩ := iS H
    have LMc18 := gA c18
    clear c18
    obtain ⟨y181, hy181⟩ : ∃ y_ : List (S43), y_ = (x174001_1 ++ [(⟨t176, t177, t178⟩ : S43)]) := ⟨_, rfl⟩
    replace H : (arr_Copy.l0 k1 l0_1 (l0_1.length : Int) (wrap64 (x13_1 + 1)) y170 y181) = some (r1, r2) := by first | (rw [hy181]; with_reducible exact H) | (have H2_ := (Option.bind_some _ _).symm.trans H; rw [hy181]; with_reducible exact H2_) | (have H2_ := (Option.bind_some _ _).symm.trans H; with_reducible exact H2_) | with_reducible exact H | (rw [hy181]; exact H) | exact H
    have Ny181 := gA hy181
    clear hy181
    have H' := gA H
    clear H
    have p174 : 0 ≤ (x13_1 : Int) := of_decide_eq_true (by assumption)
    have q174 : x13_1 < (l0_1.length : Int) := of_decide_eq_true (by assumption)
    obtain ⟨ad174, A174_2, c174_2, e174, hx174_0, hx174_1, hx174_2, hl174_2, hi174_2⟩ := at_T43 (Kd.V_reads' HO_11.out).2.2 x13_1 p174 q174
    cases e174
    obtain ⟨ce174, hce174, hMe174, hcc174⟩ := Kd.V_get HO_11.out z43 x13_1 p174 (by first | exact q174 | exact of_decide_eq_true (by assumption) | (have e_ := (Kd.V_reads' HO_11.out).1; omega))
    obtain ⟨ua174_2, uc174_2, rfl, ul174_2, ge174_2⟩ := k43_openF hMe174
    have hv174_2 := hcc174 2 _ rfl
    rw [add_field _ _ 2 (by omega)] at hv174_2
    replace hv174_2 := Option.some.inj (hv174_2.symm.trans hx174_2)
    injection hv174_2 with hva_ hvn_ hvc_
    rw [hva_] at ge174_2
    rw [hvc_] at ul174_2
    have HL174_2 := gA (show Kd.V k25 25 _ w.heap.size _ _ ((rd_T43 l0_1 x13_1).f2) from Kd.V_mk ul174_2 ge174_2)
    clear hva_ hvn_ hvc_ ge174_2 ul174_2 hcc174 hce174
    have HR174_2 := gA hi174_2
    have HC174_2 := gA hl174_2
    clear hi174_2 hl174_2
    replace p174 := eq_true p174
    replace q174 := eq_true q174
    try go_wp2_with (first | ((with_reducible refine gate_dst (N := 5) rfl ?_); refine box_event ?hg (N := 5) ?hd (cs := #[.int .i64 0, .int .i64 0, .slice none 0 0]) (t := 43) ?hr ?_; (case hd => rfl); (case hg => rfl); (case hr => first | (go_simp; done) | (go_simp; rfl)); intro gb175 hg w19 hbox hb; replace HO_11 := gA (Kd.V_below (Kd.V_elderB (gV HO_11) gb175 (Nat.le_of_eq hg.symm)) hb); replace HO_169001 := gA (Kd.V_below (Kd.V_elderB (gV HO_169001) gb175 (Nat.le_of_eq hg.symm)) hb); replace HO_174000 := gA (Kd.R_below (gR HO_174000) hb); replace HO_174001 := gA (Kd.N_below (Kd.N_elderB (gN HO_174001) gb175 (Nat.le_of_eq hg.symm)) hb); replace HL174_2 := gA (Kd.V_below (Kd.V_elderB (gV HL174_2) gb175 (Nat.le_of_eq hg.symm)) hb); replace HR174_2 := gA (Kd.C_below (by repeat (first | (with_reducible exact HR174_2.out) | (with_reducible refine Kd.C_alloc ?_ _) | (with_reducible refine Kd.C_drewN ?_ _) | (with_reducible refine Kd.C_drew ?_) | exact HR174_2.out)) hb); have BK175 := gA (hbox); have GW175 := gA ((by rw [hg]; exact (below_size (gB HB)) : w.heap.size ≤ gb175)); have GE175 := gA ((by rw [hg]; exact (below_size (gB HB)) : w.heap.size ≤ gb175)); replace HB := gA (below_step (gB HB) hb); have NB168_175 := gA ((by rw [hg]; exact Nat.ne_of_lt (blk_lt (gK BK168)) : gb168 ≠ gb175)); have NB175_168 := gA ((by rw [hg]; exact Nat.ne_of_gt (blk_lt (gK BK168)) : gb175 ≠ gb168)); replace BK168 := gA (blk_below (gK BK168) hb); have NB169_175 := gA ((by rw [hg]; exact Nat.ne_of_lt (blk_lt (gK BK169)) : gb169 ≠ gb175)); have NB175_169 := gA ((by rw [hg]; exact Nat.ne_of_gt (blk_lt (gK BK169)) : gb175 ≠ gb169)); replace BK169 := gA (blk_below (gK BK169) hb); have NB173_175 := gA ((by rw [hg]; exact Nat.ne_of_lt (blk_lt (gK BK173)) : gb173 ≠ gb175)); have NB175_173 := gA ((by rw [hg]; exact Nat.ne_of_gt (blk_lt (gK BK173)) : gb175 ≠ gb173)); replace BK173 := gA (blk_below (gK BK173) hb); clear hb hbox hg; have hnb20 := NB175_168.out; have hnc20 := NB168_175.out; have hnb21 := NB175_169.out; have hnc21 := NB169_175.out; have hnb22 := NB175_173.out; have hnc22 := NB173_175.out; obtain ⟨hcz23_0, hcz23_1, hcz23_2, hfz23_0, hfz23_1, hfz23_2⟩ := gz3 BK175))
    have n0_ : Aside0 (Kd.V k43 43 (((w19.setCell ⟨gb175, 0, none⟩ (.int .i64 ((rd_T43 l0_1 x13_1).f0))).setCell ⟨gb175, 1, none⟩ (.int .i64 ((rd_T43 l0_1 x13_1).f1))).setCell ⟨gb175, 2, none⟩ (.slice A174_2 ((rd_T43 l0_1 x13_1).f2).length c174_2)) w.heap.size (fun k_ => (P0_1_ k_ ∨ w.heap.size ≤ k_) ∧ some k_ ≠ (.slice Ao8 y170.length co8 : Value).ownBlock ∧ some k_ ≠ (u174001 : Value).ownBlock ∧ k_ ≠ gb168 ∧ k_ ≠ gb169 ∧ k_ ≠ gb173 ∧ k_ ≠ gb175) (.slice (some ad174) l0_1.length c0_1) l0_1) := ⟨Kd.V_mono (Kd.V_far (p := ⟨gb175, 2, none⟩) (Kd.V_far (p := ⟨gb175, 1, none⟩) (Kd.V_far (p := ⟨gb175, 0, none⟩) (Kd.V_mono HO_11.out (fun k_ hk => (⟨hk, hk.2⟩ : _ ∧ k_ ≠ gb175))) (fun _ hk => hk.2) (.int .i64 ((rd_T43 l0_1 x13_1).f0))) (fun _ hk => hk.2) (.int .i64 ((rd_T43 l0_1 x13_1).f1))) (fun _ hk => hk.2) (.slice A174_2 ((rd_T43 l0_1 x13_1).f2).length c174_2)) (fun _ hk => by first | exact ⟨hk.1.1.1, ⟨hk.1.1.2.1, ⟨hk.1.1.2.2.1, ⟨hk.1.1.2.2.2.1, ⟨hk.1.1.2.2.2.2.1, ⟨hk.1.1.2.2.2.2.2, hk.1.2⟩⟩⟩⟩⟩⟩ | (simp_all; done))⟩
    have n1_ : Aside0 (Kd.V k43 43 (((w19.setCell ⟨gb175, 0, none⟩ (.int .i64 ((rd_T43 l0_1 x13_1).f0))).setCell ⟨gb175, 1, none⟩ (.int .i64 ((rd_T43 l0_1 x13_1).f1))).setCell ⟨gb175, 2, none⟩ (.slice A174_2 ((rd_T43 l0_1 x13_1).f2).length c174_2)) w.heap.size (fun k_ => (P0_1_ k_ ∨ w.heap.size ≤ k_) ∧ some k_ ≠ (.slice Ao8 y170.length co8 : Value).ownBlock ∧ some k_ ≠ (u174001 : Value).ownBlock ∧ k_ ≠ gb168 ∧ k_ ≠ gb169 ∧ k_ ≠ gb173 ∧ k_ ≠ gb175) (.slice (some ad174) l0_1.length c0_1) l0_1) := ⟨Kd.V_mono (Kd.V_far (p := ⟨gb175, 2, none⟩) (Kd.V_far (p := ⟨gb175, 1, none⟩) (Kd.V_far (p := ⟨gb175, 0, none⟩) (Kd.V_mono HO_169001.out (fun k_ hk => (⟨hk, hk.2⟩ : _ ∧ k_ ≠ gb175))) (fun _ hk => hk.2) (.int .i64 ((rd_T43 l0_1 x13_1).f0))) (fun _ hk => hk.2) (.int .i64 ((rd_T43 l0_1 x13_1).f1))) (fun _ hk => hk.2) (.slice A174_2 ((rd_T43 l0_1 x13_1).f2).length c174_2)) (fun _ hk => by first | exact ⟨hk.1.1.1, ⟨hk.1.1.2.1, ⟨hk.1.1.2.2.1, ⟨hk.1.1.2.2.2.1, ⟨hk.1.1.2.2.2.2.1, ⟨hk.1.1.2.2.2.2.2, hk.1.2⟩⟩⟩⟩⟩⟩ | (simp_all; done))⟩
    have n2_ : Aside0 (Kd.R (Kd.int .i64) 3 (((w19.setCell ⟨gb175, 0, none⟩ (.int .i64 ((rd_T43 l0_1 x13_1).f0))).setCell ⟨gb175, 1, none⟩ (.int .i64 ((rd_T43 l0_1 x13_1).f1))).setCell ⟨gb175, 2, none⟩ (.slice A174_2 ((rd_T43 l0_1 x13_1).f2).length c174_2)) w.heap.size (fun k_ => (w.heap.size ≤ k_)) (.slice Ao8 y170.length co8) y170) := ⟨Kd.R_mono (Kd.R_far (p := ⟨gb175, 2, none⟩) (Kd.R_far (p := ⟨gb175, 1, none⟩) (Kd.R_far (p := ⟨gb175, 0, none⟩) (Kd.R_types HO_174000.out BK175.out (by decide)) (fun _ hk => hk.2) (.int .i64 ((rd_T43 l0_1 x13_1).f0))) (fun _ hk => hk.2) (.int .i64 ((rd_T43 l0_1 x13_1).f1))) (fun _ hk => hk.2) (.slice A174_2 ((rd_T43 l0_1 x13_1).f2).length c174_2)) (fun _ hk => hk.1)⟩
    have n3_ : Aside0 (Kd.N k43 43 (((w19.setCell ⟨gb175, 0, none⟩ (.int .i64 ((rd_T43 l0_1 x13_1).f0))).setCell ⟨gb175, 1, none⟩ (.int .i64 ((rd_T43 l0_1 x13_1).f1))).setCell ⟨gb175, 2, none⟩ (.slice A174_2 ((rd_T43 l0_1 x13_1).f2).length c174_2)) w.heap.size (fun k_ => (P0_1_ k_ ∨ w.heap.size ≤ k_) ∧ some k_ ≠ (.slice Ao8 y170.length co8 : Value).ownBlock ∧ k_ ≠ gb168 ∧ k_ ≠ gb169 ∧ k_ ≠ gb173 ∧ k_ ≠ gb175) u174001 x174001_1) := ⟨Kd.N_mono (Kd.N_far (p := ⟨gb175, 2, none⟩) (Kd.N_far (p := ⟨gb175, 1, none⟩) (Kd.N_far (p := ⟨gb175, 0, none⟩) (Kd.N_mono HO_174001.out (fun k_ hk => (⟨hk, hk.2⟩ : _ ∧ k_ ≠ gb175))) (fun _ hk => hk.2) (.int .i64 ((rd_T43 l0_1 x13_1).f0))) (fun _ hk => hk.2) (.int .i64 ((rd_T43 l0_1 x13_1).f1))) (fun _ hk => hk.2) (.slice A174_2 ((rd_T43 l0_1 x13_1).f2).length c174_2)) (fun _ hk => by first | exact ⟨hk.1.1.1, ⟨hk.1.1.2.1, ⟨hk.1.1.2.2.1, ⟨hk.1.1.2.2.2.1, ⟨hk.1.1.2.2.2.2, hk.1.2⟩⟩⟩⟩⟩ | (simp_all; done))⟩
    have n4_ : Aside0 (Kd.V k25 25 (((w19.setCell ⟨gb175, 0, none⟩ (.int .i64 ((rd_T43 l0_1 x13_1).f0))).setCell ⟨gb175, 1, none⟩ (.int .i64 ((rd_T43 l0_1 x13_1).f1))).setCell ⟨gb175, 2, none⟩ (.slice A174_2 ((rd_T43 l0_1 x13_1).f2).length c174_2)) w.heap.size (fun k_ => (P0_1_ k_ ∨ w.heap.size ≤ k_) ∧ some k_ ≠ (.slice Ao8 y170.length co8 : Value).ownBlock ∧ some k_ ≠ (u174001 : Value).ownBlock ∧ k_ ≠ gb168 ∧ k_ ≠ gb169 ∧ k_ ≠ gb173 ∧ k_ ≠ gb175) (.slice A174_2 ((rd_T43 l0_1 x13_1).f2).length c174_2) ((rd_T43 l0_1 x13_1).f2)) := ⟨Kd.V_mono (Kd.V_far (p := ⟨gb175, 2, none⟩) (Kd.V_far (p := ⟨gb175, 1, none⟩) (Kd.V_far (p := ⟨gb175, 0, none⟩) (Kd.V_mono HL174_2.out (fun k_ hk => (⟨hk, hk.2⟩ : _ ∧ k_ ≠ gb175))) (fun _ hk => hk.2) (.int .i64 ((rd_T43 l0_1 x13_1).f0))) (fun _ hk => hk.2) (.int .i64 ((rd_T43 l0_1 x13_1).f1))) (fun _ hk => hk.2) (.slice A174_2 ((rd_T43 l0_1 x13_1).f2).length c174_2)) (fun _ hk => by first | exact ⟨hk.1.1.1, ⟨hk.1.1.2.1, ⟨hk.1.1.2.2.1, ⟨hk.1.1.2.2.2.1, ⟨hk.1.1.2.2.2.2.1, ⟨hk.1.1.2.2.2.2.2, hk.1.2⟩⟩⟩⟩⟩⟩ | (simp_all; done))⟩
    have n5_ : Aside0 ((((w19.setCell ⟨gb175, 0, none⟩ (.int .i64 ((rd_T43 l0_1 x13_1).f0))).setCell ⟨gb175, 1, none⟩ (.int .i64 ((rd_T43 l0_1 x13_1).f1))).setCell ⟨gb175, 2, none⟩ (.slice A174_2 ((rd_T43 l0_1 x13_1).f2).length c174_2)).heap[gb168]? = some (.cells #[.slice A0_0 l0_0.length c0_0, .slice (some ad174) l0_1.length c0_1] 25 (0, 0))) := ⟨by refine blk_far ?_ NB168_175.out _; refine blk_far ?_ NB168_175.out _; refine blk_far ?_ NB168_175.out _; exact gK BK168⟩
    have n6_ : Aside0 ((((w19.setCell ⟨gb175, 0, none⟩ (.int .i64 ((rd_T43 l0_1 x13_1).f0))).setCell ⟨gb175, 1, none⟩ (.int .i64 ((rd_T43 l0_1 x13_1).f1))).setCell ⟨gb175, 2, none⟩ (.slice A174_2 ((rd_T43 l0_1 x13_1).f2).length c174_2)).heap[gb169]? = some (.cells #[.slice none 0 0, .slice none 0 0] 25 (0, 0))) := ⟨by refine blk_far ?_ NB169_175.out _; refine blk_far ?_ NB169_175.out _; refine blk_far ?_ NB169_175.out _; exact gK BK169⟩
    have n7_ : Aside0 ((((w19.setCell ⟨gb175, 0, none⟩ (.int .i64 ((rd_T43 l0_1 x13_1).f0))).setCell ⟨gb175, 1, none⟩ (.int .i64 ((rd_T43 l0_1 x13_1).f1))).setCell ⟨gb175, 2, none⟩ (.slice A174_2 ((rd_T43 l0_1 x13_1).f2).length c174_2)).heap[gb173]? = some (.cells #[.slice Ao8 y170.length co8, u174001] 25 (0, 0))) := ⟨by refine blk_far ?_ NB173_175.out _; refine blk_far ?_ NB173_175.out _; refine blk_far ?_ NB173_175.out _; exact gK BK173⟩
    have n8_ : Aside0 ((((w19.setCell ⟨gb175, 0, none⟩ (.int .i64 ((rd_T43 l0_1 x13_1).f0))).setCell ⟨gb175, 1, none⟩ (.int .i64 ((rd_T43 l0_1 x13_1).f1))).setCell ⟨gb175, 2, none⟩ (.slice A174_2 ((rd_T43 l0_1 x13_1).f2).length c174_2)).heap[gb175]? = some (.cells #[.int .i64 ((rd_T43 l0_1 x13_1).f0), .int .i64 ((rd_T43 l0_1 x13_1).f1), .slice A174_2 ((rd_T43 l0_1 x13_1).f2).length c174_2] 43 (0, 0))) := ⟨by refine blk_put (cs := #[.int .i64 ((rd_T43 l0_1 x13_1).f0), .int .i64 ((rd_T43 l0_1 x13_1).f1), .slice none 0 0]) ?_ 2 _ rfl; refine blk_put (cs := #[.int .i64 ((rd_T43 l0_1 x13_1).f0), .int .i64 0, .slice none 0 0]) ?_ 1 _ rfl; refine blk_put (cs := #[.int .i64 0, .int .i64 0, .slice none 0 0]) ?_ 0 _ rfl; exact gK BK175⟩
    have n9_ : Aside0 (Below w.heap.size w (((w19.setCell ⟨gb175, 0, none⟩ (.int .i64 ((rd_T43 l0_1 x13_1).f0))).setCell ⟨gb175, 1, none⟩ (.int .i64 ((rd_T43 l0_1 x13_1).f1))).setCell ⟨gb175, 2, none⟩ (.slice A174_2 ((rd_T43 l0_1 x13_1).f2).length c174_2))) := ⟨by repeat first | exact gB HB | refine below_set ?_ GE168.out | refine below_set ?_ GE169.out | refine below_set ?_ GE173.out | refine below_set ?_ GE175.out⟩
    (try clear HO_11)
    generalize (((w19.setCell ⟨gb175, 0, none⟩ (.int .i64 ((rd_T43 l0_1 x13_1).f0))).setCell ⟨gb175, 1, none⟩ (.int .i64 ((rd_T43 l0_1 x13_1).f1))).setCell ⟨gb175, 2, none⟩ (.slice A174_2 ((rd_T43 l0_1 x13_1).f2).length c174_2)) = w24 at n0_ n1_ n2_ n3_ n4_ n5_ n6_ n7_ n8_ n9_ ⊢
    have HO_11 := n0_; have HO_169001 := n1_
    have HO_174000 := n2_; have HO_174001 := n3_
    have HL174_2 := n4_; have BK168 := n5_
    have BK169 := n6_; have BK173 := n7_
    have BK175 := n8_; have HB := n9_
    clear n0_ n1_ n2_ n3_ n4_ n5_ n6_ n7_ n8_ n9_
    replace HO_11 := gA (Kd.V_drew HO_11.out); replace HO_169001 := gA (Kd.V_drew HO_169001.out); replace HO_174000 := gA (Kd.R_drew HO_174000.out); replace HO_174001 := gA (Kd.N_drew HO_174001.out); replace HL174_2 := gA (Kd.V_drew HL174_2.out); replace BK168 := gA (blk_drew BK168.out); replace BK169 := gA (blk_drew BK169.out); replace BK173 := gA (blk_drew BK173.out); replace BK175 := gA (blk_drew BK175.out); replace HB := gA (below_drew1 HB.out)
    refine start_ (n := 8) (S := fun w' => w'.cell? ⟨gb173, 0, none⟩ = some (.slice Ao8 y170.length co8) ∧ w'.cell? ⟨gb173, 1, none⟩ = some (u174001) ∧ w'.cell? ⟨gb175, 0, none⟩ = some (.int .i64 ((rd_T43 l0_1 x13_1).f0)) ∧ w'.cell? ⟨gb175, 1, none⟩ = some (.int .i64 ((rd_T43 l0_1 x13_1).f1)) ∧ w'.cell? ⟨gb175, 2, none⟩ = some (.slice A174_2 ((rd_T43 l0_1 x13_1).f2).length c174_2)) (ds := [7]) #[false, false, false, false, false, false, false, false] (by kernel_rfl) rfl rfl ⟨(blk_cell BK173.out 0).trans rfl, (blk_cell BK173.out 1).trans rfl, (blk_cell BK175.out 0).trans rfl, (blk_cell BK175.out 1).trans rfl, (blk_cell BK175.out 2).trans rfl⟩ (fun hHeld => ?_); refine with_tabW arr_Copy.tab5 arr_Copy.bits5 (fun HT_ HW_ => ?_)
    generalize w24.drew = w25 at HO_11 HO_169001 HO_174000 HO_174001 HL174_2 BK168 BK169 BK173 BK175 HB hHeld ⊢
    refine pure_ (i := 0) (N := some 17) (v := ?_) (a' := ?_) #[true, false, false, false, false, false, false, false] rfl rfl (any_of HT_.out (by kernel_rfl)) (fun _ _ _ h => h) (Or.inl ⟨by rfl, ?_⟩) ?_ ?_; rotate_left
    ·intro w'; go_simp; with_reducible rfl
    rotate_left
    ·simp only [Act.put, List.setIfInBounds_toArray, List.set_cons_zero, List.set_cons_succ, i64_w, i32_w]; rfl
    refine take_ (i := 1) (N := some 18) (v := ?_) (a' := ?_) #[true, true, false, false, false, false, false, false] rfl rfl (take_ofW HT_.out HW_.out (by kernel_rfl)) (fun _ _ _ h => h) (Or.inl ⟨by rfl, ?_⟩) hHeld ?_ ?_; rotate_left
    ·rintro w' ⟨s0, s1, s2, s3, s4⟩; go_simp; with_reducible rfl
    rotate_left
    ·simp only [Act.put, List.setIfInBounds_toArray, List.set_cons_zero, List.set_cons_succ, i64_w, i32_w]; rfl
    refine take_ (i := 2) (N := some 19) (v := ?_) (a' := ?_) #[true, true, true, false, false, false, false, false] rfl rfl (take_ofW HT_.out HW_.out (by kernel_rfl)) (fun _ _ _ h => h) (Or.inl ⟨by rfl, ?_⟩) hHeld ?_ ?_; rotate_left
    ·rintro w' ⟨s0, s1, s2, s3, s4⟩; go_simp; with_reducible rfl
    rotate_left
    ·simp only [Act.put, List.setIfInBounds_toArray, List.set_cons_zero, List.set_cons_succ, i64_w, i32_w]; rfl
    refine one_ (i := 3) (N := some 20) #[true, true, true, true, false, false, false, false] rfl rfl (one_of HT_.out (by kernel_rfl)) (by decide) (fun K hK => ?_)
    refine goes_ Try.func54 (by kernel_rfl) rfl #[.agg #[.int .i64 ((rd_T43 l0_1 x13_1).f0), .int .i64 ((rd_T43 l0_1 x13_1).f1), .slice A174_2 ((rd_T43 l0_1 x13_1).f2).length c174_2]] (by rfl) rfl rfl (by (try simp only [List.map_toArray, List.map_cons, List.map_nil]); first | done | rfl | (simp only [List.length_drop, List.length_take]; rfl)) ?_
    with_reducible refine (ih_arr_copied k1 (by have := HK1.out; omega) ((rd_T43 l0_1 x13_1).f0) ((rd_T43 l0_1 x13_1).f1) (fun k_ => ((P0_1_ k_ ∨ w.heap.size ≤ k_) ∧ (some k_ ≠ (.slice Ao8 y170.length co8 : Value).ownBlock ∧ (some k_ ≠ (u174001 : Value).ownBlock ∧ (k_ ≠ gb168 ∧ (k_ ≠ gb169 ∧ (k_ ≠ gb173 ∧ k_ ≠ gb175))))))) _ _ ((rd_T43 l0_1 x13_1).f2) t176 t177 t178 _ ?side1 A17.out).mono ?_
    (case side1 => exact HL174_2.out)
    rintro e w26 ⟨v179, rfl, ho0, hb⟩
    refine ⟨_, rfl, ?_⟩
    replace HO_11 := gA (Kd.V_below (gV HO_11) hb); replace HO_169001 := gA (Kd.V_below (gV HO_169001) hb); replace HL174_2 := gA (Kd.V_below (gV HL174_2) hb); have HO180 := gA (Kd.V_lower (Kd.V_mono (ok' := fun k_ => (P0_1_ k_ ∨ w.heap.size ≤ k_) ∧ some k_ ≠ (.slice Ao8 y170.length co8 : Value).ownBlock ∧ some k_ ≠ (u174001 : Value).ownBlock ∧ k_ ≠ gb168 ∧ k_ ≠ gb169 ∧ k_ ≠ gb173 ∧ k_ ≠ gb175) ho0 (fun k_ hk_ => ⟨Or.elim hk_ (fun hs_ => hs_.1) (fun hn_ => (.inr (Nat.le_trans (below_size (gB HB)) hn_))), Or.elim hk_ (fun hs_ => hs_.2.1) (fun hn_ => (Kd.fresh' (Kd.R_lt (gR HO_174000)) k_ hn_)), Or.elim hk_ (fun hs_ => hs_.2.2.1) (fun hn_ => (Kd.fresh' (Kd.N_lt (gN HO_174001)) k_ hn_)), Or.elim hk_ (fun hs_ => hs_.2.2.2.1) (fun hn_ => (Kd.freshB (gK BK168) k_ hn_)), Or.elim hk_ (fun hs_ => hs_.2.2.2.2.1) (fun hn_ => (Kd.freshB (gK BK169) k_ hn_)), Or.elim hk_ (fun hs_ => hs_.2.2.2.2.2.1) (fun hn_ => (Kd.freshB (gK BK173) k_ hn_)), Or.elim hk_ (fun hs_ => hs_.2.2.2.2.2.2) (fun hn_ => (Kd.freshB (gK BK175) k_ hn_))⟩)) (below_size (gB HB))); replace HO_174000 := gA (Kd.R_below (gR HO_174000) hb); replace HO_174001 := gA (Kd.N_below (gN HO_174001) hb); replace BK168 := gA (blk_below (gK BK168) hb); replace BK169 := gA (blk_below (gK BK169) hb); replace BK173 := gA (blk_below (gK BK173) hb); replace BK175 := gA (blk_below (gK BK175) hb); replace HB := gA (below_step (gB HB) hb); (try clear hb); (try clear ho0)
    obtain ⟨Ao28, co28, eo28⟩ := Kd.V_slice HO180.out
    (first | subst eo28 | (injection eo28 with f1_ f2_ f3_; have f4_ := f1_.symm; have f5_ := f3_.symm; clear f1_ f2_ f3_; subst f4_; subst f5_))
    refine hK.out _ _ ⟨(blk_cell BK173.out 0).trans rfl, (blk_cell BK173.out 1).trans rfl, (blk_cell BK175.out 0).trans rfl, (blk_cell BK175.out 1).trans rfl, (blk_cell BK175.out 2).trans rfl⟩ (fun hHeld => ?_); clear hK K
    refine norm_ (a' := ?_) ?_ ?_; rotate_left
    ·show Act.put _ (some 20) _ = _
     simp only [Act.put, List.setIfInBounds_toArray, List.set_cons_zero, List.set_cons_succ, i64_w, i32_w]; rfl
    refine one_ (i := 4) (N := some 21) #[true, true, true, true, true, false, false, false] rfl rfl (one_of HT_.out (by kernel_rfl)) (by decide) (fun K hK => ?_)
    refine value_ (w1 := ?_) (v := ?_) (by rfl) rfl ?_ ?_
    rotate_left 2
    ·go_simp
     constructor
     ·rfl
     ·rfl
    refine hK.out _ _ ⟨(blk_cell (blk_alloc BK173.out _) 0).trans rfl, (blk_cell (blk_alloc BK173.out _) 1).trans rfl, (blk_cell (blk_alloc BK175.out _) 0).trans rfl, (blk_cell (blk_alloc BK175.out _) 1).trans rfl, (blk_cell (blk_alloc BK175.out _) 2).trans rfl⟩ (fun hHeld => ?_); clear hK K
    refine norm_ (a' := ?_) ?_ ?_; rotate_left
    ·show Act.put _ (some 21) _ = _
     simp only [Act.put, List.setIfInBounds_toArray, List.set_cons_zero, List.set_cons_succ, i64_w, i32_w]; rfl
    refine one_ (i := 5) (N := some 22) #[true, true, true, true, true, true, false, false] rfl rfl (one_of HT_.out (by kernel_rfl)) (by decide) (fun K hK => ?_)
    refine Kd.N_append_step k43 (w0 := w) w.heap.size (by rfl) (.tmp 18) (.tmp 21) 23 43 (.agg #[(.int .i64 0), (.int .i64 0), (.slice none 0 0)]) 40 rfl Try.underlying23 info43 rfl (by decide) (by omega) u174001 x174001_1 (⟨t176, t177, t178⟩ : S43) [.int .i64 t176, .int .i64 t177, .slice Ao28 t178.length co28] (fun k_ => (P0_1_ k_ ∨ w.heap.size ≤ k_) ∧ some k_ ≠ (.slice Ao8 y170.length co8 : Value).ownBlock ∧ k_ ≠ gb168 ∧ k_ ≠ gb169 ∧ k_ ≠ gb173 ∧ k_ ≠ gb175) (fun k_ => ((fun k_ => (P0_1_ k_ ∨ w.heap.size ≤ k_) ∧ some k_ ≠ (.slice Ao8 y170.length co8 : Value).ownBlock ∧ k_ ≠ gb168 ∧ k_ ≠ gb169 ∧ k_ ≠ gb173 ∧ k_ ≠ gb175)) k_ ∧ some k_ ≠ (u174001 : Value).ownBlock) rfl rfl ?aP (fun _ hk => hk) ?aF ?aO ?aB ?aS ?aL ?_
    (case aP => exact (k43_mkF _ _ (⟨t176, t177, t178⟩ : S43) (Kd.V_reads' (Kd.V_mono (ok' := (fun k_ => ((fun k_ => (P0_1_ k_ ∨ w.heap.size ≤ k_) ∧ some k_ ≠ (.slice Ao8 y170.length co8 : Value).ownBlock ∧ k_ ≠ gb168 ∧ k_ ≠ gb169 ∧ k_ ≠ gb173 ∧ k_ ≠ gb175)) k_ ∧ some k_ ≠ (u174001 : Value).ownBlock)) (HO180.out) (fun k_ hk => ⟨⟨hk.1, ⟨hk.2.1, ⟨hk.2.2.2.1, ⟨hk.2.2.2.2.1, ⟨hk.2.2.2.2.2.1, hk.2.2.2.2.2.2⟩⟩⟩⟩⟩, hk.2.2.1⟩))).2.1 (Kd.V_F (Kd.V_mono (ok' := (fun k_ => ((fun k_ => (P0_1_ k_ ∨ w.heap.size ≤ k_) ∧ some k_ ≠ (.slice Ao8 y170.length co8 : Value).ownBlock ∧ k_ ≠ gb168 ∧ k_ ≠ gb169 ∧ k_ ≠ gb173 ∧ k_ ≠ gb175)) k_ ∧ some k_ ≠ (u174001 : Value).ownBlock)) (HO180.out) (fun k_ hk => ⟨⟨hk.1, ⟨hk.2.1, ⟨hk.2.2.2.1, ⟨hk.2.2.2.2.1, ⟨hk.2.2.2.2.2.1, hk.2.2.2.2.2.2⟩⟩⟩⟩⟩, hk.2.2.1⟩)))))
    (case aB => exact (gB HB))
    (case aF => exact (fun k_ hk => ⟨(.inr (Nat.le_trans (below_size (gB HB)) hk)), Kd.fresh' (Kd.R_lt (gR HO_174000)) k_ hk, Kd.freshB (gK BK168) k_ hk, Kd.freshB (gK BK169) k_ hk, Kd.freshB (gK BK173) k_ hk, Kd.freshB (gK BK175) k_ hk⟩))
    (case aO => exact (gN HO_174001))
    (case aS => exact (below_size (gB HB)))
    (case aL => have := LMc18.out; omega)
    intro v182 w27 ho hb hg hat
    rw [← Ny181.out] at ho
    replace HO_11 := gA (Kd.V_afterv (ok := (fun k_ => (P0_1_ k_ ∨ w.heap.size ≤ k_) ∧ some k_ ≠ (.slice Ao8 y170.length co8 : Value).ownBlock ∧ k_ ≠ gb168 ∧ k_ ≠ gb169 ∧ k_ ≠ gb173 ∧ k_ ≠ gb175)) (Kd.V_mono HO_11.out (fun _ hk => ⟨⟨hk.1, ⟨hk.2.1, ⟨hk.2.2.2.1, ⟨hk.2.2.2.2.1, ⟨hk.2.2.2.2.2.1, hk.2.2.2.2.2.2⟩⟩⟩⟩⟩, hk.2.2.1⟩)) hg hat); replace HO_169001 := gA (Kd.V_afterv (ok := (fun k_ => (P0_1_ k_ ∨ w.heap.size ≤ k_) ∧ some k_ ≠ (.slice Ao8 y170.length co8 : Value).ownBlock ∧ k_ ≠ gb168 ∧ k_ ≠ gb169 ∧ k_ ≠ gb173 ∧ k_ ≠ gb175)) (Kd.V_mono HO_169001.out (fun _ hk => ⟨⟨hk.1, ⟨hk.2.1, ⟨hk.2.2.2.1, ⟨hk.2.2.2.2.1, ⟨hk.2.2.2.2.2.1, hk.2.2.2.2.2.2⟩⟩⟩⟩⟩, hk.2.2.1⟩)) hg hat); replace HO_174000 := gA (Kd.R_over' (gR HO_174000) (Kd.N_typed (gN HO_174001)) (by decide) hg); replace BK168 := gA (blk_grown (gK BK168) hg (Kd.N_ne HO_174001.out BK168.out (by decide))); replace BK169 := gA (blk_grown (gK BK169) hg (Kd.N_ne HO_174001.out BK169.out (by decide))); replace BK173 := gA (blk_grown (gK BK173) hg (Kd.N_ne HO_174001.out BK173.out (by decide))); replace HL174_2 := gA (Kd.V_afterv (ok := (fun k_ => (P0_1_ k_ ∨ w.heap.size ≤ k_) ∧ some k_ ≠ (.slice Ao8 y170.length co8 : Value).ownBlock ∧ k_ ≠ gb168 ∧ k_ ≠ gb169 ∧ k_ ≠ gb173 ∧ k_ ≠ gb175)) (Kd.V_mono HL174_2.out (fun _ hk => ⟨⟨hk.1, ⟨hk.2.1, ⟨hk.2.2.2.1, ⟨hk.2.2.2.2.1, ⟨hk.2.2.2.2.2.1, hk.2.2.2.2.2.2⟩⟩⟩⟩⟩, hk.2.2.1⟩)) hg hat); replace BK175 := gA (blk_grown (gK BK175) hg (Kd.N_away HO_174001.out (fun _ hk => hk.2.2.2.2.2))); replace HO180 := gA (Kd.V_afterv (ok := (fun k_ => (P0_1_ k_ ∨ w.heap.size ≤ k_) ∧ some k_ ≠ (.slice Ao8 y170.length co8 : Value).ownBlock ∧ k_ ≠ gb168 ∧ k_ ≠ gb169 ∧ k_ ≠ gb173 ∧ k_ ≠ gb175)) (Kd.V_mono HO180.out (fun _ hk => ⟨⟨hk.1, ⟨hk.2.1, ⟨hk.2.2.2.1, ⟨hk.2.2.2.2.1, ⟨hk.2.2.2.2.2.1, hk.2.2.2.2.2.2⟩⟩⟩⟩⟩, hk.2.2.1⟩)) hg hat); replace HB := gA (hb); have HO183 := gA (ho); clear HO_174001 ho hb hg hat
    obtain ⟨Ao29, co29, eo29⟩ := Kd.N_slice HO183.out
    (first | subst eo29 | (injection eo29 with f1_ f2_ f3_; have f4_ := f1_.symm; have f5_ := f3_.symm; clear f1_ f2_ f3_; subst f4_; subst f5_))
    refine hK.out _ _ ⟨(blk_cell BK173.out 0).trans rfl, (blk_cell BK173.out 1).trans rfl, (blk_cell BK175.out 0).trans rfl, (blk_cell BK175.out 1).trans rfl, (blk_cell BK175.out 2).trans rfl⟩ (fun hHeld => ?_); clear hK K
    refine norm_ (a' := ?_) ?_ ?_; rotate_left
    ·show Act.put _ (some 22) _ = _
     simp only [Act.put, List.setIfInBounds_toArray, List.set_cons_zero, List.set_cons_succ, i64_w, i32_w]; rfl
    refine pure_ (i := 6) (N := some 23) (v := ?_) (a' := ?_) #[true, true, true, true, true, true, true, false] rfl rfl (any_of HT_.out (by kernel_rfl)) (fun _ _ _ h => h) (Or.inl ⟨by rfl, ?_⟩) ?_ ?_; rotate_left
    ·intro w'; go_simp; with_reducible rfl
    rotate_left
    ·simp only [Act.put, List.setIfInBounds_toArray, List.set_cons_zero, List.set_cons_succ, i64_w, i32_w]; rfl
    refine last_ (i := 7) (N := none) #[true, true, true, true, true, true, true, true] rfl rfl (one_of HT_.out (by kernel_rfl)) (by decide) (fun K hK => ?_)
    have hs30 := gz BK173 1 rfl
    have hfs30 := blk_frozen BK173.out 1
    have hns30_0 := NB168_173.out
    have hns30_1 := NB169_173.out
    have hns30_3 := NB175_173.out
    have hms30_0 := NB173_168.out
    have hms30_1 := NB173_169.out
    have hms30_3 := NB173_175.out
    refine skip_ (w1 := ?_) (by rfl) rfl ?_ ?_; rotate_left
    ·go_simp; rfl
    refine hK.out _ _ ?_; clear hK K
    refine done_ (done_of HT_.out (by kernel_rfl)) ?_
    try go_wp2
    go_roundg k1
    case measure => have := HK1.out; omega
    case rel => exact ⟨(wrap64 (x13_1 + 1)), (y181), (.slice Ao29 y181.length co29), (rfl), H', ⟨by have := HK1.out; omega⟩, ⟨Kd.V_mono (Kd.V_far (p := ⟨gb173, 1, none⟩) (Kd.V_mono HO_11.out (fun k_ hk => (⟨hk, hk.1.2.2.2.2.1⟩ : _ ∧ k_ ≠ gb173))) (fun _ hk => hk.2) (.slice Ao29 y181.length co29)) (fun _ hk => by first | exact ⟨hk.1.1.1, ⟨hk.1.1.2.1, ⟨hk.1.2, ⟨hk.1.1.2.2.1, ⟨hk.1.1.2.2.2.1, hk.1.1.2.2.2.2.1⟩⟩⟩⟩⟩ | (simp_all; done))⟩, ⟨Kd.V_mono (Kd.V_far (p := ⟨gb173, 1, none⟩) (Kd.V_mono HO_169001.out (fun k_ hk => (⟨hk, hk.1.2.2.2.2.1⟩ : _ ∧ k_ ≠ gb173))) (fun _ hk => hk.2) (.slice Ao29 y181.length co29)) (fun _ hk => by first | exact ⟨hk.1.1.1, ⟨hk.1.1.2.1, ⟨hk.1.2, ⟨hk.1.1.2.2.1, ⟨hk.1.1.2.2.2.1, hk.1.1.2.2.2.2.1⟩⟩⟩⟩⟩ | (simp_all; done))⟩, ⟨Kd.R_mono (Kd.R_far (p := ⟨gb173, 1, none⟩) (Kd.R_types HO_174000.out BK173.out (by decide)) (fun _ hk => hk.2) (.slice Ao29 y181.length co29)) (fun _ hk => hk.1)⟩, ⟨Kd.N_mono (Kd.N_far (p := ⟨gb173, 1, none⟩) (Kd.N_mono HO183.out (fun k_ hk => (⟨hk, hk.2.2.2.2.1⟩ : _ ∧ k_ ≠ gb173))) (fun _ hk => hk.2) (.slice Ao29 y181.length co29)) (fun _ hk => ⟨hk.1.1, ⟨hk.1.2.1, ⟨hk.1.2.2.1, ⟨hk.1.2.2.2.1, hk.1.2.2.2.2.1⟩⟩⟩⟩)⟩, ⟨by refine blk_far ?_ NB168_173.out _; exact gK BK168⟩, ⟨by refine blk_far ?_ NB169_173.out _; exact gK BK169⟩, ⟨by refine blk_put (cs := #[.slice Ao8 y170.length co8, u174001]) ?_ 1 _ rfl; exact gK BK173⟩, ⟨by repeat first | exact gB HB | refine below_set ?_ GE168.out | refine below_set ?_ GE169.out | refine below_set ?_ GE173.out | refine below_set ?_ GE175.out⟩⟩
   ·rw [if_neg c14] at H
    have c14b0 := decide_eq_false c14
    clear c14
    simp only [Option.some.injEq, Prod.mk.injEq] at H
    obtain ⟨rfl, rfl⟩ := H
    have hnb31 := NB173_168.out
    have hnc31 := NB168_173.out
    have hnb32 := NB173_169.out
    have hnc32 := NB169_173.out
    obtain ⟨hcz33_0, hcz33_1, hfz33_0, hfz33_1⟩ := gz2 BK173
    have hnb34 := NB169_168.out
    have hnc34 := NB168_169.out
    obtain ⟨hcz35_0, hcz35_1, hfz35_0, hfz35_1⟩ := gz2 BK169
    obtain ⟨Ao36, co36, eo36⟩ := Kd.N_slice HO_174001.out
    subst eo36
    go_wp2
    refine bodyPost_ret (results_cell_row rfl _ _ gb169 25 #[.slice Ao8 y170.length co8, .slice Ao36 x174001_1.length co36] (0, 0) _ rfl (by refine blk_put (cs := #[.slice Ao8 y170.length co8, .slice none 0 0]) ?_ 1 _ rfl; refine blk_put (cs := #[.slice none 0 0, .slice none 0 0]) ?_ 0 _ rfl; exact gK BK169) Try.underlying25 rfl (by kernel_rfl)) rfl ?_
    exact ⟨_, _, rfl, Kd.R_mono (Kd.R_far (p := ⟨gb169, 1, none⟩) (Kd.R_far (p := ⟨gb169, 0, none⟩) (Kd.R_types HO_174000.out BK169.out (by decide)) (fun _ hk => hk.2) (.slice Ao8 y170.length co8)) (fun _ hk => hk.2) (.slice Ao36 x174001_1.length co36)) (fun _ hk => hk.1), Kd.N_mono (Kd.N_far (p := ⟨gb169, 1, none⟩) (Kd.N_far (p := ⟨gb169, 0, none⟩) (Kd.N_mono HO_174001.out (fun k_ hk => (⟨hk, hk.2.2.2.1⟩ : _ ∧ k_ ≠ gb169))) (fun _ hk => hk.2) (.slice Ao8 y170.length co8)) (fun _ hk => hk.2) (.slice Ao36 x174001_1.length co36)) (fun _ hk => ⟨hk.1.1, hk.1.2.1⟩), by repeat first | exact gB HB | refine below_set ?_ GE168.out | refine below_set ?_ GE169.out | refine below_set ?_ GE173.out⟩
theorem scc54.calls (k : Nat) : (∀ (a0_0 : Int) (a0_1 : Int) (P0_2_ : Nat → Prop) (A0_2 : Option Addr) (c0_2 : Nat) (l0_2 : List (S25)) (r1 : Int) (r2 : Int) (r3 : List (S25)) (w : World) (hs0_2 : Kd.V k25 25 w w.heap.size (fun k_ => P0_2_ k_) (.slice A0_2 l0_2.length c0_2) l0_2) (h : arr_copied.f k a0_0 a0_1 l0_2 = some (r1, r2, r3)),
  Calls Try.prog 54 #[.agg #[.int .i64 a0_0, .int .i64 a0_1, .slice A0_2 l0_2.length c0_2]] w fun e w' => ∃ v2_ : Value, e = .returned (.agg #[.int .i64 r1, .int .i64 r2, v2_]) ∧ Kd.V k25 25 w' w.heap.size (fun k_ => (P0_2_ k_ ∨ w.heap.size ≤ k_)) v2_ r3 ∧ Below w.heap.size w w') ∧ (∀ (A0_0 : Option Addr) (c0_0 : Nat) (l0_0 : List Int) (P0_1_ : Nat → Prop) (A0_1 : Option Addr) (c0_1 : Nat) (l0_1 : List (S43)) (r1 : List Int) (r2 : List (S43)) (w : World) (hr0_0 : Kd.C (Kd.int .i64) w A0_0 l0_0.length l0_0) (hc0_0 : l0_0.length ≤ c0_0) (hs0_1 : Kd.V k43 43 w w.heap.size (fun k_ => P0_1_ k_) (.slice A0_1 l0_1.length c0_1) l0_1) (h : arr_Copy.f k l0_0 l0_1 = some (r1, r2)),
  Calls Try.prog 26 #[.agg #[.slice A0_0 l0_0.length c0_0, .slice A0_1 l0_1.length c0_1]] w fun e w' => ∃ v0_ v1_ : Value, e = .returned (.agg #[v0_, v1_]) ∧ Kd.R (Kd.int .i64) 3 w' w.heap.size (fun k_ => (w.heap.size ≤ k_)) v0_ r1 ∧ Kd.N k43 43 w' w.heap.size (fun k_ => (P0_1_ k_ ∨ w.heap.size ≤ k_) ∧ some k_ ≠ (v0_ : Value).ownBlock) v1_ r2 ∧ Below w.heap.size w w') := by
 induction k using Nat.strongRecOn with
 | _ k ih =>
 exact ⟨arr_copied.step k (fun k_ h_ => (ih k_ h_).1) (fun k_ h_ => (ih k_ h_).2), arr_Copy.step k (fun k_ h_ => (ih k_ h_).1) (fun k_ h_ => (ih k_ h_).2)⟩
theorem arr_copied.calls (k : Nat) : ∀ (a0_0 : Int) (a0_1 : Int) (P0_2_ : Nat → Prop) (A0_2 : Option Addr) (c0_2 : Nat) (l0_2 : List (S25)) (r1 : Int) (r2 : Int) (r3 : List (S25)) (w : World) (hs0_2 : Kd.V k25 25 w w.heap.size (fun k_ => P0_2_ k_) (.slice A0_2 l0_2.length c0_2) l0_2) (h : arr_copied.f k a0_0 a0_1 l0_2 = some (r1, r2, r3)),
  Calls Try.prog 54 #[.agg #[.int .i64 a0_0, .int .i64 a0_1, .slice A0_2 l0_2.length c0_2]] w fun e w' => ∃ v2_ : Value, e = .returned (.agg #[.int .i64 r1, .int .i64 r2, v2_]) ∧ Kd.V k25 25 w' w.heap.size (fun k_ => (P0_2_ k_ ∨ w.heap.size ≤ k_)) v2_ r3 ∧ Below w.heap.size w w' := (scc54.calls k).1
theorem arr_Copy.calls (k : Nat) : ∀ (A0_0 : Option Addr) (c0_0 : Nat) (l0_0 : List Int) (P0_1_ : Nat → Prop) (A0_1 : Option Addr) (c0_1 : Nat) (l0_1 : List (S43)) (r1 : List Int) (r2 : List (S43)) (w : World) (hr0_0 : Kd.C (Kd.int .i64) w A0_0 l0_0.length l0_0) (hc0_0 : l0_0.length ≤ c0_0) (hs0_1 : Kd.V k43 43 w w.heap.size (fun k_ => P0_1_ k_) (.slice A0_1 l0_1.length c0_1) l0_1) (h : arr_Copy.f k l0_0 l0_1 = some (r1, r2)),
  Calls Try.prog 26 #[.agg #[.slice A0_0 l0_0.length c0_0, .slice A0_1 l0_1.length c0_1]] w fun e w' => ∃ v0_ v1_ : Value, e = .returned (.agg #[v0_, v1_]) ∧ Kd.R (Kd.int .i64) 3 w' w.heap.size (fun k_ => (w.heap.size ≤ k_)) v0_ r1 ∧ Kd.N k43 43 w' w.heap.size (fun k_ => (P0_1_ k_ ∨ w.heap.size ≤ k_) ∧ some k_ ≠ (v0_ : Value).ownBlock) v1_ r2 ∧ Below w.heap.size w w' := (scc54.calls k).2
def fold_axis.f (l0_0 : List Int) (l0_1 : List (S43)) (a1 : Bool) : Option (Int) := if a1 = true then (some (wrap64 ((l0_0.length : Int) - 1))) else (some 0)
set_option maxHeartbeats 8000000 in
set_option maxRecDepth 100000 in
theorem fold_axis.calls (A0_0 : Option Addr) (c0_0 : Nat) (l0_0 : List Int) (A0_1 : Option Addr) (c0_1 : Nat) (l0_1 : List (S43)) (a1 : Bool) (r : Int) (w : World) (hr0_0 : Kd.C (Kd.int .i64) w A0_0 l0_0.length l0_0) (hc0_0 : l0_0.length ≤ c0_0) (hr0_1 : Kd.C k43 w A0_1 l0_1.length l0_1) (hc0_1 : l0_1.length ≤ c0_1) (h : fold_axis.f l0_0 l0_1 a1 = some r) :
  Calls Try.prog 27 #[.agg #[.slice A0_0 l0_0.length c0_0, .slice A0_1 l0_1.length c0_1], .bool a1] w fun e w' => e = .returned (.int .i64 r) ∧ Below w.heap.size w w' := by
 have hu25 := Try.underlying25
 have HR0_0 := gA hr0_0
 have HC0_0 := gA hc0_0
 clear hr0_0 hc0_0
 have HR0_1 := gA hr0_1
 have HC0_1 := gA hc0_1
 clear hr0_1 hc0_1
 have HB := gA (Below.refl w.heap.size w)
 have H : (if a1 = true then (some (wrap64 ((l0_0.length : Int) - 1))) else (some 0)) = some r := h
 clear h
 have HC3 := gA H
 clear H
 go_enter Try.func27, Try.ntmps27
 go_upto_if 5 with (first | ((with_reducible refine gate_dst (N := 2) rfl ?_); refine box_event ?hg (N := 2) ?hd (cs := #[.slice A0_0 l0_0.length c0_0, .slice A0_1 l0_1.length c0_1]) (t := 25) ?hr ?_; (case hd => rfl); (case hg => rfl); (case hr => first | (go_simp; done) | (go_simp; rfl)); intro gb184 hg w4 hbox hb; have BK184 := gA (hbox); have GW184 := gA ((by rw [hg]; exact (below_size (gB HB)) : w.heap.size ≤ gb184)); have GE184 := gA ((by rw [hg]; exact (below_size (gB HB)) : w.heap.size ≤ gb184)); replace HB := gA (below_step (gB HB) hb); clear hb hbox hg))
 have H := HC3.out; clear HC3
 by_cases c5 : a1 = true
 ·subst c5
  have H1 : (some (wrap64 ((l0_0.length : Int) - 1))) = some r := by rw [if_pos rfl] at H; exact H
  clear H; have H := H1; clear H1
  obtain rfl := Option.some.inj H
  obtain ⟨hcz6_0, hcz6_1, hfz6_0, hfz6_1⟩ := gz2 BK184
  go_wp2
  go_ret
  exact ⟨rfl, by repeat first | exact gB HB | refine below_set ?_ GE184.out⟩
 ·replace c5 := Bool.eq_false_iff.mpr c5
  subst c5
  have H1 : (some 0) = some r := by rw [if_neg (show ¬ (false = true) by decide)] at H; exact H
  clear H; have H := H1; clear H1
  obtain rfl := Option.some.inj H
  go_wp2
  go_ret
  exact ⟨rfl, by repeat first | exact gB HB | refine below_set ?_ GE184.out⟩
/-- A row of the call's own, one element taken out of it. -/
theorem sh_typed (g : Nat) (t : TypeId) : ∀ (vs : List Value) (o : Nat) (W : World) (cur : Array Value), W.heap[g]? = some (.cells cur t (0, 0)) → ∃ cur' : Array Value, (W.setCells g o vs).heap[g]? = some (.cells cur' t (0, 0)) ∧ cur'.size = cur.size
 | [], _, W, cur, h => ⟨cur, h, rfl⟩
 | v :: r, o, W, cur, h => by
  obtain ⟨c2, h1, h2⟩ := sh_typed g t r (o + 1) _ _ (blk_set h o v)
  exact ⟨c2, h1, by rw [h2]; simp⟩
theorem sh_belows (g B : Nat) (hg : B ≤ g) {w : World} : ∀ (vs : List Value) (o : Nat) (W : World), Below B w W → Below B w (W.setCells g o vs)
 | [], _, W, h => h
 | v :: r, o, _, h => sh_belows g B hg r (o + 1) _ (Below.setCell h hg v)
theorem sh_keeps (g k : Nat) (hk : k ≠ g) : ∀ (vs : List Value) (o : Nat) (W : World), (W.setCells g o vs).heap[k]? = W.heap[k]?
 | [], _, _ => rfl
 | v :: r, o, W => (sh_keeps g k hk r (o + 1) _).trans (Below.heap_setCell W ⟨g, o, none⟩ v k hk)
theorem slices_Delete_int_int.calls (W : World) (base : Nat) (v : Value) (zs : List Int) (i : Nat) (hR : Kd.R (Kd.int .i64) 3 W base (fun _ => True) v zs) (hi : i < zs.length) :
  Calls Try.prog 28 #[v, .int .i64 (i : Int), .int .i64 ((i : Int) + 1)] W fun e W' => ∃ (g cap : Nat) (cur : Array Value), e = .returned (.slice (some ⟨g, 0, none⟩) (zs.take i ++ zs.drop (i + 1)).length cap) ∧ (zs.take i ++ zs.drop (i + 1)).length ≤ cap ∧ base ≤ g ∧ W'.heap[g]? = some (.cells cur 3 (0, 0)) ∧ (∀ X : World, X.heap[g]? = some (.cells cur 3 (0, 0)) → (Kd.int .i64).C X (some ⟨g, 0, none⟩) (zs.take i ++ zs.drop (i + 1)).length (zs.take i ++ zs.drop (i + 1))) ∧ Below base W W' ∧ (∀ k, k ≠ g → k < W.heap.size → W'.heap[k]? = W.heap[k]?) := by
 obtain ⟨g, cap, rfl, hg, hlt, cells, hb⟩ := Kd.R_form hR (by omega)
 obtain ⟨h1, h2, h3⟩ := Kd.R_reads' hR
 obtain ⟨h0, inner, ho, hr⟩ := hR
 have hcells : ∀ j, j < zs.length → W.cell? ⟨g, 0 + j, none⟩ = some (.int .i64 (zs.getD j 0)) := by
  intro j hj
  obtain ⟨ad, ea, hx⟩ := Kd.at_int h3 (j : Int) (by omega) (by omega)
  injection ea with ea
  subst ea
  rw [Int.toNat_natCast, add_plain] at hx
  rw [Nat.zero_add, hx]
  simp [rd]
 have hcap : cap ≤ 9223372036854775807 := by
  obtain ⟨_, hq⟩ := ho
  rcases hq with ⟨hq, _⟩ | ⟨g', cap', cur, hv, _, _, _, hm, _⟩
  ·cases hq
  ·injection hv with _ _ hc
   subst hc
   unfold maxLen at hm
   omega
 refine (sh_slices_Delete_int_cells g 0 zs.length cap i (i + 1) zs W (Nat.le_refl _) h2 hcap (by omega) (by omega) hcells (fun j _ => blk_frozen hb _)).mono ?_
 rintro e W' ⟨rfl, q, rfl⟩
 have hcs : ∀ j, j < zs.length → (W.drewN q).cell? ⟨g, 0 + j, none⟩ = some (.int .i64 (zs.getD j 0)) := fun j hj => ((pw_below_drewN (Below.refl _ _) q).cell (p := ⟨g, 0 + j, none⟩) hlt).trans (hcells j hj)
 have hbq : (W.drewN q).heap[g]? = some (.cells cells 3 (0, 0)) := blk_below hb (pw_below_drewN (Below.refl _ _) q)
 rw [List.take_length]
 generalize hns : ((zs.take i ++ zs.drop (i + 1) ++ List.replicate (i + 1 - i) 0).map (Value.int .i64)) = ns
 have hnl : ns.length = zs.length := by rw [← hns]; simp; omega
 obtain ⟨cur', hc1, hc2⟩ := sh_typed g 3 ns 0 (W.drewN q) cells hbq
 have hin := World.cell?_setCells_in g ns 0 (W.drewN q) (fun j hj => by rw [hcs j (by omega)]; rfl)
 have hn1 : zs.length - (i + 1 - i) = (zs.take i ++ zs.drop (i + 1)).length := by simp; omega
 refine ⟨g, cap, cur', by rw [← hn1], by omega, hg, hc1, fun X hX => ⟨rfl, by omega, fun _ => ⟨_, rfl, fun j p hp => ⟨[.int .i64 p], rfl, rfl, fun q u hu => ?_⟩⟩⟩, sh_belows g base hg ns 0 _ (pw_below_drewN (Below.refl base W) q), fun k hk hl => (sh_keeps g k hk ns 0 _).trans ((pw_below_drewN (Below.refl _ _) q).block k hl)⟩
 have hq : q = 0 := by have := (List.getElem?_eq_some_iff.1 hu).1; simp at this; omega
 subst hq
 have hj := (List.getElem?_eq_some_iff.1 hp).1
 have hjn : j < ns.length := by omega
 have h5 := hin j hjn
 rw [Nat.zero_add, blk_cell hc1 j] at h5
 have h6 : ns[j]? = some ns[j] := List.getElem?_eq_getElem hjn
 rw [show j * (Kd.int .i64).sz + 0 = j from by show j * 1 + 0 = j; omega, add_plain, blk_cell hX j, h5, ← h6, ← hns, List.map_append, List.getElem?_append_left (by rw [List.length_map]; exact hj), List.getElem?_map, hp]
 simpa using hu
def slices_Clone_int_int.f (l0 : List Int) : Option (List Int) := if l0.length < 17592186044416 then some l0 else none
set_option maxRecDepth 100000 in
theorem slices_Clone_int_int.calls (A0 : Option Addr) (c0 : Nat) (l0 : List Int) (r : List Int) (w : World) (hr0 : Kd.C (Kd.int .i64) w A0 l0.length l0) (hc0 : l0.length ≤ c0) (h : slices_Clone_int_int.f l0 = some r) :
  Calls Try.prog 29 #[.slice A0 l0.length c0] w fun e w' => ∃ v0_ : Value, e = .returned (v0_) ∧ Kd.R (Kd.int .i64) 3 w' w.heap.size (fun _ => True) v0_ r ∧ Below w.heap.size w w' := by
 unfold slices_Clone_int_int.f at h
 by_cases hl : l0.length < 17592186044416
 ·rw [if_pos hl] at h
  obtain rfl := Option.some.inj h
  have HL := Aside0.mk hl
  have HR := Aside0.mk hr0
  have HC := Aside0.mk hc0
  clear hl h hr0 hc0
  cases A0 with
  | none =>
   obtain rfl : l0 = [] := by
    rcases Nat.eq_zero_or_pos l0.length with hz | hz
    ·exact List.eq_nil_of_length_eq_zero hz
    ·obtain ⟨ad, ha, _⟩ := HR.out.2.2 hz
     cases ha
   show Calls Try.prog 29 #[.slice none 0 c0] w _
   have hb : ∀ W : World, Sem.run Try.prog (binOp BinOp.eql 22 (.slice none 0 c0) (.slice none 0 0)) W = Result.ok (Value.bool true) W := fun _ => rfl
   go_enter Try.func29, Try.ntmps29
   go_wp2
   go_ret
   exact ⟨_, rfl, Kd.R_nil _ _ _ _ _, Below.refl _ _⟩
  | some ad =>
   have hb : ∀ W : World, Sem.run Try.prog (binOp BinOp.eql 22 (.slice (some ad) l0.length c0) (.slice none 0 0)) W = Result.ok (Value.bool false) W := fun _ => rfl
   go_enter Try.func29, Try.ntmps29
   go_wp2_with (first | ((with_reducible refine gate_dst (N := 5) rfl ?_); refine Kd.R_lit (Kd.int .i64) (w0 := w) w.heap.size 3 rfl (N := 5) rfl (xs := []) (inner := []) (ok := fun _ => True) (okp := fun _ => False) (by first | (go_simp; done) | (go_simp; rfl)) (Reps.none _ _) (fun _ h => h.elim) trivial (Below.refl _ _) (Nat.le_refl _) (by decide) ?_; intro v1 w1 ho hb1 hg hat; have HO := Aside0.mk ho; have HB := Aside0.mk hb1; clear ho hb1 hg hat) | ((with_reducible refine gate_builtin (b := .append) (xs := #[.tmp 5, .tmp 6]) rfl ?_); at_builtin; refine Kd.R_append_rows (Kd.int .i64) (w0 := w) w.heap.size rfl (.tmp 5) (.tmp 6) 22 3 (.int .i64 0) 8 rfl Try.underlying22 info3 rfl (by decide) (by omega) v1 ([] : List Int) l0 _ _ _ (fun _ => True) (fun _ => False) rfl rfl HO.out (Kd.C_below HR.out HB.out) (fun _ _ h => h) (fun _ h => h.elim) (fun _ _ => trivial) HB.out HB.out.size (by have := HL.out; simp; omega) ?_; intro v2 w2 ho hb2 hg hat; rw [List.nil_append] at ho; have HO2 := Aside0.mk ho; have HB2 := Aside0.mk hb2; clear ho hb2 hg hat))
   go_ret
   exact ⟨_, rfl, HO2.out, HB2.out⟩
 ·rw [if_neg hl] at h
  cases h
def fold_lines.wp : Int → List Int → Int
 | x, [] => x
 | x, d :: r => fold_lines.wp (wrap64 (x * d)) r
def fold_lines.f (l0 : List Int) (a1 : Int) : Option (Int × Int × Int) := if 0 ≤ a1 ∧ a1 < (l0.length : Int) then some (fold_lines.wp 1 (l0.take a1.toNat), fold_lines.wp 1 (l0.drop (a1.toNat + 1)), rd l0 a1) else none
theorem fold_lines.step (x : Int) (l : List Int) (i : Nat) (h : i < l.length) : fold_lines.wp x (l.drop i) = fold_lines.wp (wrap64 (x * rd l (i : Int))) (l.drop (i + 1)) := by
 have e : rd l (i : Int) = l[i] := by simp [rd, List.getElem?_eq_getElem h]
 rw [List.drop_eq_getElem_cons h, fold_lines.wp, e]
set_option maxHeartbeats 8000000 in
set_option maxRecDepth 100000 in
theorem fold_lines.calls (A0 : Option Addr) (c0 : Nat) (l0 : List Int) (a1 : Int) (r1 : Int) (r2 : Int) (r3 : Int) (w : World) (hr0 : Kd.C (Kd.int .i64) w A0 l0.length l0) (hc0 : l0.length ≤ c0) (h : fold_lines.f l0 a1 = some (r1, r2, r3)) :
  Calls Try.prog 31 #[.slice A0 l0.length c0, .int .i64 a1] w fun e w' => e = .returned (.tuple #[.int .i64 r1, .int .i64 r2, .int .i64 r3]) ∧ Drawn0 w w' := by
 unfold fold_lines.f at h
 by_cases c : 0 ≤ a1 ∧ a1 < (l0.length : Int)
 ·rw [if_pos c] at h
  simp only [Option.some.injEq, Prod.mk.injEq] at h
  obtain ⟨rfl, rfl, rfl⟩ := h
  obtain ⟨a, rfl⟩ := Int.eq_ofNat_of_zero_le c.1
  rw [Int.toNat_natCast]
  have hal : a < l0.length := by have := c.2; omega
  obtain ⟨i0, hi0, _, hsz, _⟩ := info_parts info3
  obtain ⟨A2, hcut, hA2, hC2⟩ := print_drop_of (P := Try.prog) (Value.int .i64) 0 22 3 .i64 Try.underlying22 hi0 hsz A0 c0 l0 ((a : Int) + 1) (by omega) (by omega) hc0
  have HR2 := Aside0.mk (Kd.C_of_reads (h1 := fun _ => rfl) (hA2 _ (Kd.reads_of_C hr0)))
  have hlen := hr0.2.1
  rw [show ((a : Int) + 1).toNat = a + 1 by omega] at hcut HR2
  obtain ⟨ad, rfl, hca⟩ := Kd.at_int hr0 (a : Int) (by omega) (by omega)
  rw [Int.toNat_natCast] at hca
  have HCA := Aside0.mk hca
  have HR0 := Aside0.mk hr0
  have HAL := Aside0.mk (And.intro hal (And.intro hc0 hlen))
  have hw1 : wrap64 ((a : Int) + 1) = (a : Int) + 1 := by unfold wrap64; omega
  have hs0 : (0 : Int) ≤ (a : Int) := by omega
  have hs1 : (a : Int) ≤ (c0 : Int) := by omega
  have hs2 : a ≤ c0 := by omega
  have hs3 : a < l0.length := hal
  generalize hx1 : fold_lines.wp 1 (l0.take a) = R1
  generalize hx2 : fold_lines.wp 1 (l0.drop (a + 1)) = R2
  have HX1 := Aside0.mk hx1
  have HX2 := Aside0.mk hx2
  clear hx1 hx2 hca hr0 hc0 hal hC2 hA2 hi0 hsz c hlen
  go_enter Try.func31, Try.ntmps31
  go_wp2
  go_loopg [4, 15] a (fun kq v4 v15 w' => ∃ (i : Nat) (x : Int), v4 = .int .i64 x ∧ v15 = .int .i64 (i : Int) ∧ Aside0 (i + kq = a) ∧ Aside0 (fold_lines.wp x ((l0.take a).drop i) = R1) ∧ Drawn0 w w')
  case atStart => exact ⟨0, 1, rfl, rfl, ⟨by omega⟩, HX1, by repeat (first | exact Drawn0.refl _ | apply Drawn0.step)⟩
  case round =>
   clear HX1
   obtain ⟨i, x, rfl, rfl, HI, HX, m1, rfl⟩ := hrel
   have HTL := Aside0.mk (show (l0.take a).length = a by rw [List.length_take]; have := HAL.out; omega)
   cases gk with
   | zero =>
    have hni : ¬ i < a := by have := HI.out; omega
    obtain rfl : x = R1 := by
     have := HX.out
     rwa [List.drop_eq_nil_of_le (by have := HTL.out; have := HI.out; omega), fold_lines.wp] at this
    go_wp2
    go_loopg [5, 28] (l0.drop (a + 1)).length (fun kq v5 v28 w' => ∃ (j : Nat) (y : Int), v5 = .int .i64 y ∧ v28 = .int .i64 (j : Int) ∧ Aside0 (j + kq = (l0.drop (a + 1)).length) ∧ Aside0 (fold_lines.wp y ((l0.drop (a + 1)).drop j) = R2) ∧ Drawn0 w w')
    case atStart => exact ⟨0, 1, rfl, rfl, ⟨by omega⟩, HX2, by repeat (first | exact Drawn0.refl _ | apply Drawn0.step)⟩
    case round =>
     clear HX2
     obtain ⟨j, y, rfl, rfl, HJ, HY, m2, rfl⟩ := hrel
     have HLD := Aside0.mk (show (l0.drop (a + 1)).length = l0.length - (a + 1) from List.length_drop)
     cases gk with
     | zero =>
      have hnj : ¬ j < l0.length - (a + 1) := by have := HJ.out; have := HLD.out; omega
      obtain rfl : y = R2 := by
       have := HY.out
       rwa [List.drop_eq_nil_of_le (by have := HJ.out; omega), fold_lines.wp] at this
      have hca := HCA.out
      go_wp2
      repeat (go_quiet (fail); try go_wp2)
      go_ret3
      exact ⟨rfl, by repeat (first | exact Drawn0.refl _ | apply Drawn0.step)⟩
     | succ q =>
      have hnj : j < l0.length - (a + 1) := by have := HJ.out; have := HLD.out; omega
      obtain ⟨ad2, e2, hcj⟩ := Kd.at_int HR2.out (j : Int) (by omega) (by have := HJ.out; omega)
      subst e2
      rw [Int.toNat_natCast] at hcj
      have HWJ : Aside0 (wrap64 ((j : Int) + 1) = ((j + 1 : Nat) : Int)) := ⟨by have := HAL.out; unfold wrap64; omega⟩
      have hj0 : (0 : Int) ≤ (j : Int) := by omega
      go_wp2
      go_roundg q
      case measure => omega
      case rel => exact ⟨j + 1, _, rfl, congrArg (Value.int .i64) HWJ.out, ⟨by have := HJ.out; omega⟩, ⟨(fold_lines.step y _ j (by have := HJ.out; omega)).symm.trans HY.out⟩, by repeat (first | exact Drawn0.refl _ | apply Drawn0.step)⟩
   | succ q =>
    have hni : i < a := by have := HI.out; omega
    obtain ⟨ad1, e1, hci⟩ := Kd.at_int HR0.out (i : Int) (by omega) (by have := HAL.out; omega)
    have e1 := (Option.some.inj e1).symm
    subst e1
    rw [Int.toNat_natCast, show rd l0 (i : Int) = rd (l0.take a) (i : Int) by unfold rd; rw [Int.toNat_natCast]; simp [List.getElem?_take, hni]] at hci
    have HWI : Aside0 (wrap64 ((i : Int) + 1) = ((i + 1 : Nat) : Int)) := ⟨by have := HAL.out; unfold wrap64; omega⟩
    have hi0 : (0 : Int) ≤ (i : Int) := by omega
    go_wp2
    go_roundg q
    case measure => omega
    case rel => exact ⟨i + 1, _, rfl, congrArg (Value.int .i64) HWI.out, ⟨by have := HI.out; omega⟩, ⟨(fold_lines.step x _ i (by have := HTL.out; omega)).symm.trans HX.out⟩, by repeat (first | exact Drawn0.refl _ | apply Drawn0.step)⟩
 ·rw [if_neg c] at h
  cases h
def atomic_truth.f (a0 : Bool) : Option (Int) := if a0 = true then (some 1) else (some 0)
set_option maxHeartbeats 8000000 in
set_option maxRecDepth 100000 in
theorem atomic_truth.calls (a0 : Bool) (r : Int) (w : World) (h : atomic_truth.f a0 = some r) :
  Calls Try.prog 71 #[.bool a0] w fun e w' => e = .returned (.int .i64 r) ∧ Drawn0 w w' := by
 have H : (if a0 = true then (some 1) else (some 0)) = some r := h
 clear h
 by_cases c2 : a0 = true
 ·subst c2
  have H1 : (some 1) = some r := by rw [if_pos rfl] at H; exact H
  clear H; have H := H1; clear H1
  obtain rfl := Option.some.inj H
  go_enter Try.func71, Try.ntmps71
  go_wp2
  go_ret
  exact ⟨rfl, by repeat (first | exact Drawn0.refl _ | apply Drawn0.step)⟩
 ·replace c2 := Bool.eq_false_iff.mpr c2
  subst c2
  have H1 : (some 0) = some r := by rw [if_neg (show ¬ (false = true) by decide)] at H; exact H
  clear H; have H := H1; clear H1
  obtain rfl := Option.some.inj H
  go_enter Try.func71, Try.ntmps71
  go_wp2
  go_ret
  exact ⟨rfl, by repeat (first | exact Drawn0.refl _ | apply Drawn0.step)⟩
def atomic_held.v (op a b : Int) : Int := if op = 29 then (if a < b then 1 else 0) else if op = 30 then (if b < a then 1 else 0) else if op = 31 then (if a ≤ b then 1 else 0) else if op = 32 then (if b ≤ a then 1 else 0) else if op = 27 then (if a = b then 1 else 0) else (if a = b then 0 else 1)
def atomic_held.f (a0 a1 a2 : Int) : Option Int := if 27 ≤ a0 ∧ a0 ≤ 32 then some (atomic_held.v a0 a1 a2) else none
theorem held_ret {x y : Int} (h : x = y) : Ending.returned (.int .i64 x) = .returned (.int .i64 y) := by rw [h]
theorem held_truth (c : Prop) [Decidable c] : atomic_truth.f (decide c) = some (if c then 1 else 0) := by
 unfold atomic_truth.f
 by_cases h : c
 ·rw [if_pos (decide_eq_true h), if_pos h]
 ·rw [if_neg (by rw [decide_eq_false h]; decide), if_neg h]
set_option maxHeartbeats 2000000 in
set_option maxRecDepth 100000 in
theorem atomic_held.calls (a0 a1 a2 r : Int) (w : World) (h : atomic_held.f a0 a1 a2 = some r) :
  Calls Try.prog 72 #[.int .i64 a0, .int .i64 a1, .int .i64 a2] w fun e w' => e = .returned (.int .i64 r) ∧ Below w.heap.size w w' := by
 have hu1 := Try.underlying105
 have hu2 := Try.underlying106
 unfold atomic_held.f at h
 by_cases hc : 27 ≤ a0 ∧ a0 ≤ 32
 ·rw [if_pos hc] at h
  obtain rfl := Option.some.inj h
  have HB := Aside0.mk (Below.refl w.heap.size w)
  rcases (by omega : a0 = 27 ∨ a0 = 28 ∨ a0 = 29 ∨ a0 = 30 ∨ a0 = 31 ∨ a0 = 32) with c | c | c | c | c | c <;> subst c
  rotate_left 2
  ·have HT := Aside0.mk (held_truth (a1 < a2))
   cases he : (a1 == a2)
   all_goals
    go_enter Try.func72, Try.ntmps72
    go_wp2_with (go_at_call 71; (with_reducible refine (atomic_truth.calls _ _ _ HT.out).mono ?_); rintro e w1 ⟨rfl, hd⟩; have HD := Aside0.mk hd; clear hd)
    all_goals (go_ret; exact ⟨(held_ret (by unfold atomic_held.v; (repeat' split) <;> omega)), (below_alloc (Below.refl _ _) _).trans (HD.out.below.mono (by simp))⟩)
  ·have HT := Aside0.mk (held_truth (a1 > a2))
   cases he : (a1 == a2)
   all_goals
    go_enter Try.func72, Try.ntmps72
    go_wp2_with (go_at_call 71; (with_reducible refine (atomic_truth.calls _ _ _ HT.out).mono ?_); rintro e w1 ⟨rfl, hd⟩; have HD := Aside0.mk hd; clear hd)
    all_goals (go_ret; exact ⟨(held_ret (by unfold atomic_held.v; (repeat' split) <;> omega)), (below_alloc (Below.refl _ _) _).trans (HD.out.below.mono (by simp))⟩)
  ·have HT := Aside0.mk (held_truth (a1 ≤ a2))
   cases he : (a1 == a2)
   all_goals
    go_enter Try.func72, Try.ntmps72
    go_wp2_with (go_at_call 71; (with_reducible refine (atomic_truth.calls _ _ _ HT.out).mono ?_); rintro e w1 ⟨rfl, hd⟩; have HD := Aside0.mk hd; clear hd)
    all_goals (go_ret; exact ⟨(held_ret (by unfold atomic_held.v; (repeat' split) <;> omega)), (below_alloc (Below.refl _ _) _).trans (HD.out.below.mono (by simp))⟩)
  ·have HT := Aside0.mk (held_truth (a1 ≥ a2))
   cases he : (a1 == a2)
   all_goals
    go_enter Try.func72, Try.ntmps72
    go_wp2_with (go_at_call 71; (with_reducible refine (atomic_truth.calls _ _ _ HT.out).mono ?_); rintro e w1 ⟨rfl, hd⟩; have HD := Aside0.mk hd; clear hd)
    all_goals (go_ret; exact ⟨(held_ret (by unfold atomic_held.v; (repeat' split) <;> omega)), (below_alloc (Below.refl _ _) _).trans (HD.out.below.mono (by simp))⟩)
  ·cases he : (a1 == a2)
   ·have HE := Aside0.mk (show ¬ a1 = a2 by simpa using he)
    go_enter Try.func72, Try.ntmps72
    go_wp2_with (fail)
    go_ret
    exact ⟨held_ret (by have := HE.out; unfold atomic_held.v; (repeat' split) <;> omega), below_alloc (Below.refl _ _) _⟩
   ·have HE := Aside0.mk (show a1 = a2 by simpa using he)
    go_enter Try.func72, Try.ntmps72
    go_wp2_with (fail)
    go_ret
    exact ⟨held_ret (by have := HE.out; unfold atomic_held.v; (repeat' split) <;> omega), below_alloc (Below.refl _ _) _⟩
  ·cases he : (a1 == a2)
   ·have HE := Aside0.mk (show ¬ a1 = a2 by simpa using he)
    go_enter Try.func72, Try.ntmps72
    go_wp2_with (fail)
    go_ret
    exact ⟨held_ret (by have := HE.out; unfold atomic_held.v; (repeat' split) <;> omega), below_alloc (Below.refl _ _) _⟩
   ·have HE := Aside0.mk (show a1 = a2 by simpa using he)
    go_enter Try.func72, Try.ntmps72
    go_wp2_with (fail)
    go_ret
    exact ⟨held_ret (by have := HE.out; unfold atomic_held.v; (repeat' split) <;> omega), below_alloc (Below.refl _ _) _⟩
 ·rw [if_neg hc] at h
  cases h
def num_Add.f (a0 : Int) (a1 : Int) : Option (Int × Int) := if a1 > 0 then (if a0 > (wrap64 (9223372036854775807 - a1)) then (some (0, 9)) else (if a1 < 0 then (if a0 < (wrap64 ((-9223372036854775808) - a1)) then (some (0, 9)) else (some (wrap64 (a0 + a1), 0))) else (some (wrap64 (a0 + a1), 0)))) else (if a1 < 0 then (if a0 < (wrap64 ((-9223372036854775808) - a1)) then (some (0, 9)) else (some (wrap64 (a0 + a1), 0))) else (some (wrap64 (a0 + a1), 0)))
set_option maxHeartbeats 8000000 in
set_option maxRecDepth 100000 in
theorem num_Add.calls (a0 : Int) (a1 : Int) (r1 : Int) (r2 : Int) (w : World) (h : num_Add.f a0 a1 = some (r1, r2)) :
  Calls Try.prog 77 #[.int .i64 a0, .int .i64 a1] w fun e w' => e = .returned (.tuple #[.int .i64 r1, .int .i64 r2]) ∧ Drawn0 w w' := by
 have H : (if a1 > 0 then (if a0 > (wrap64 (9223372036854775807 - a1)) then (some (0, 9)) else (if a1 < 0 then (if a0 < (wrap64 ((-9223372036854775808) - a1)) then (some (0, 9)) else (some (wrap64 (a0 + a1), 0))) else (some (wrap64 (a0 + a1), 0)))) else (if a1 < 0 then (if a0 < (wrap64 ((-9223372036854775808) - a1)) then (some (0, 9)) else (some (wrap64 (a0 + a1), 0))) else (some (wrap64 (a0 + a1), 0)))) = some (r1, r2) := h
 clear h
 by_cases c3 : a1 > 0
 ·rw [if_pos c3] at H
  have c3b0 : decide (0 < a1) = true := decide_eq_true c3
  clear c3
  by_cases c4 : a0 > (wrap64 (9223372036854775807 - a1))
  ·rw [if_pos c4] at H
   have c4b0 : decide ((wrap64 (9223372036854775807 - a1)) < a0) = true := decide_eq_true c4
   clear c4
   simp only [Option.some.injEq, Prod.mk.injEq] at H
   obtain ⟨rfl, rfl⟩ := H
   go_enter Try.func77, Try.ntmps77
   go_wp2
   go_ret2
   exact ⟨rfl, by repeat (first | exact Drawn0.refl _ | apply Drawn0.step)⟩
  ·rw [if_neg c4] at H
   have c4b0 : decide ((wrap64 (9223372036854775807 - a1)) < a0) = false := decide_eq_false c4
   clear c4
   by_cases c5 : a1 < 0
   ·rw [if_pos c5] at H
    have c5b0 := decide_eq_true c5
    clear c5
    by_cases c6 : a0 < (wrap64 ((-9223372036854775808) - a1))
    ·rw [if_pos c6] at H
     have c6b0 := decide_eq_true c6
     clear c6
     simp only [Option.some.injEq, Prod.mk.injEq] at H
     obtain ⟨rfl, rfl⟩ := H
     go_enter Try.func77, Try.ntmps77
     go_wp2
     go_ret2
     exact ⟨rfl, by repeat (first | exact Drawn0.refl _ | apply Drawn0.step)⟩
    ·rw [if_neg c6] at H
     have c6b0 := decide_eq_false c6
     clear c6
     simp only [Option.some.injEq, Prod.mk.injEq] at H
     obtain ⟨rfl, rfl⟩ := H
     go_enter Try.func77, Try.ntmps77
     go_wp2
     go_ret2
     exact ⟨rfl, by repeat (first | exact Drawn0.refl _ | apply Drawn0.step)⟩
   ·rw [if_neg c5] at H
    have c5b0 := decide_eq_false c5
    clear c5
    simp only [Option.some.injEq, Prod.mk.injEq] at H
    obtain ⟨rfl, rfl⟩ := H
    go_enter Try.func77, Try.ntmps77
    go_wp2
    go_ret2
    exact ⟨rfl, by repeat (first | exact Drawn0.refl _ | apply Drawn0.step)⟩
 ·rw [if_neg c3] at H
  have c3b0 : decide (0 < a1) = false := decide_eq_false c3
  clear c3
  by_cases c7 : a1 < 0
  ·rw [if_pos c7] at H
   have c7b0 := decide_eq_true c7
   clear c7
   by_cases c8 : a0 < (wrap64 ((-9223372036854775808) - a1))
   ·rw [if_pos c8] at H
    have c8b0 := decide_eq_true c8
    clear c8
    simp only [Option.some.injEq, Prod.mk.injEq] at H
    obtain ⟨rfl, rfl⟩ := H
    go_enter Try.func77, Try.ntmps77
    go_wp2
    go_ret2
    exact ⟨rfl, by repeat (first | exact Drawn0.refl _ | apply Drawn0.step)⟩
   ·rw [if_neg c8] at H
    have c8b0 := decide_eq_false c8
    clear c8
    simp only [Option.some.injEq, Prod.mk.injEq] at H
    obtain ⟨rfl, rfl⟩ := H
    go_enter Try.func77, Try.ntmps77
    go_wp2
    go_ret2
    exact ⟨rfl, by repeat (first | exact Drawn0.refl _ | apply Drawn0.step)⟩
  ·rw [if_neg c7] at H
   have c7b0 := decide_eq_false c7
   clear c7
   simp only [Option.some.injEq, Prod.mk.injEq] at H
   obtain ⟨rfl, rfl⟩ := H
   go_enter Try.func77, Try.ntmps77
   go_wp2
   go_ret2
   exact ⟨rfl, by repeat (first | exact Drawn0.refl _ | apply Drawn0.step)⟩
def num_Sub.f (a0 : Int) (a1 : Int) : Option (Int × Int) := if a1 < 0 then (if a0 > (wrap64 (9223372036854775807 + a1)) then (some (0, 9)) else (if a1 > 0 then (if a0 < (wrap64 ((-9223372036854775808) + a1)) then (some (0, 9)) else (some (wrap64 (a0 - a1), 0))) else (some (wrap64 (a0 - a1), 0)))) else (if a1 > 0 then (if a0 < (wrap64 ((-9223372036854775808) + a1)) then (some (0, 9)) else (some (wrap64 (a0 - a1), 0))) else (some (wrap64 (a0 - a1), 0)))
set_option maxHeartbeats 8000000 in
set_option maxRecDepth 100000 in
theorem num_Sub.calls (a0 : Int) (a1 : Int) (r1 : Int) (r2 : Int) (w : World) (h : num_Sub.f a0 a1 = some (r1, r2)) :
  Calls Try.prog 78 #[.int .i64 a0, .int .i64 a1] w fun e w' => e = .returned (.tuple #[.int .i64 r1, .int .i64 r2]) ∧ Drawn0 w w' := by
 have H : (if a1 < 0 then (if a0 > (wrap64 (9223372036854775807 + a1)) then (some (0, 9)) else (if a1 > 0 then (if a0 < (wrap64 ((-9223372036854775808) + a1)) then (some (0, 9)) else (some (wrap64 (a0 - a1), 0))) else (some (wrap64 (a0 - a1), 0)))) else (if a1 > 0 then (if a0 < (wrap64 ((-9223372036854775808) + a1)) then (some (0, 9)) else (some (wrap64 (a0 - a1), 0))) else (some (wrap64 (a0 - a1), 0)))) = some (r1, r2) := h
 clear h
 by_cases c3 : a1 < 0
 ·rw [if_pos c3] at H
  have c3b0 := decide_eq_true c3
  clear c3
  by_cases c4 : a0 > (wrap64 (9223372036854775807 + a1))
  ·rw [if_pos c4] at H
   have c4b0 : decide ((wrap64 (9223372036854775807 + a1)) < a0) = true := decide_eq_true c4
   clear c4
   simp only [Option.some.injEq, Prod.mk.injEq] at H
   obtain ⟨rfl, rfl⟩ := H
   go_enter Try.func78, Try.ntmps78
   go_wp2
   go_ret2
   exact ⟨rfl, by repeat (first | exact Drawn0.refl _ | apply Drawn0.step)⟩
  ·rw [if_neg c4] at H
   have c4b0 : decide ((wrap64 (9223372036854775807 + a1)) < a0) = false := decide_eq_false c4
   clear c4
   by_cases c5 : a1 > 0
   ·rw [if_pos c5] at H
    have c5b0 : decide (0 < a1) = true := decide_eq_true c5
    clear c5
    by_cases c6 : a0 < (wrap64 ((-9223372036854775808) + a1))
    ·rw [if_pos c6] at H
     have c6b0 := decide_eq_true c6
     clear c6
     simp only [Option.some.injEq, Prod.mk.injEq] at H
     obtain ⟨rfl, rfl⟩ := H
     go_enter Try.func78, Try.ntmps78
     go_wp2
     go_ret2
     exact ⟨rfl, by repeat (first | exact Drawn0.refl _ | apply Drawn0.step)⟩
    ·rw [if_neg c6] at H
     have c6b0 := decide_eq_false c6
     clear c6
     simp only [Option.some.injEq, Prod.mk.injEq] at H
     obtain ⟨rfl, rfl⟩ := H
     go_enter Try.func78, Try.ntmps78
     go_wp2
     go_ret2
     exact ⟨rfl, by repeat (first | exact Drawn0.refl _ | apply Drawn0.step)⟩
   ·rw [if_neg c5] at H
    have c5b0 : decide (0 < a1) = false := decide_eq_false c5
    clear c5
    simp only [Option.some.injEq, Prod.mk.injEq] at H
    obtain ⟨rfl, rfl⟩ := H
    go_enter Try.func78, Try.ntmps78
    go_wp2
    go_ret2
    exact ⟨rfl, by repeat (first | exact Drawn0.refl _ | apply Drawn0.step)⟩
 ·rw [if_neg c3] at H
  have c3b0 := decide_eq_false c3
  clear c3
  by_cases c7 : a1 > 0
  ·rw [if_pos c7] at H
   have c7b0 : decide (0 < a1) = true := decide_eq_true c7
   clear c7
   by_cases c8 : a0 < (wrap64 ((-9223372036854775808) + a1))
   ·rw [if_pos c8] at H
    have c8b0 := decide_eq_true c8
    clear c8
    simp only [Option.some.injEq, Prod.mk.injEq] at H
    obtain ⟨rfl, rfl⟩ := H
    go_enter Try.func78, Try.ntmps78
    go_wp2
    go_ret2
    exact ⟨rfl, by repeat (first | exact Drawn0.refl _ | apply Drawn0.step)⟩
   ·rw [if_neg c8] at H
    have c8b0 := decide_eq_false c8
    clear c8
    simp only [Option.some.injEq, Prod.mk.injEq] at H
    obtain ⟨rfl, rfl⟩ := H
    go_enter Try.func78, Try.ntmps78
    go_wp2
    go_ret2
    exact ⟨rfl, by repeat (first | exact Drawn0.refl _ | apply Drawn0.step)⟩
  ·rw [if_neg c7] at H
   have c7b0 : decide (0 < a1) = false := decide_eq_false c7
   clear c7
   simp only [Option.some.injEq, Prod.mk.injEq] at H
   obtain ⟨rfl, rfl⟩ := H
   go_enter Try.func78, Try.ntmps78
   go_wp2
   go_ret2
   exact ⟨rfl, by repeat (first | exact Drawn0.refl _ | apply Drawn0.step)⟩
def num_size.f (a0 : Int) : Option (Int × Bool) := if a0 < 0 then (some (IntKind.u64.wrap (-(IntKind.u64.wrap (a0))), true)) else (some (IntKind.u64.wrap (a0), false))
set_option maxHeartbeats 8000000 in
set_option maxRecDepth 100000 in
theorem num_size.calls (a0 : Int) (r1 : Int) (r2 : Bool) (w : World) (h : num_size.f a0 = some (r1, r2)) :
  Calls Try.prog 63 #[.int .i64 a0] w fun e w' => e = .returned (.tuple #[.int .u64 r1, .bool r2]) ∧ Drawn0 w w' := by
 have H : (if a0 < 0 then (some (IntKind.u64.wrap (-(IntKind.u64.wrap (a0))), true)) else (some (IntKind.u64.wrap (a0), false))) = some (r1, r2) := h
 clear h
 by_cases c2 : a0 < 0
 ·rw [if_pos c2] at H
  have c2b0 := decide_eq_true c2
  clear c2
  simp only [Option.some.injEq, Prod.mk.injEq] at H
  obtain ⟨rfl, rfl⟩ := H
  go_enter Try.func63, Try.ntmps63
  go_wp2
  go_ret2
  exact ⟨rfl, by repeat (first | exact Drawn0.refl _ | apply Drawn0.step)⟩
 ·rw [if_neg c2] at H
  have c2b0 := decide_eq_false c2
  clear c2
  simp only [Option.some.injEq, Prod.mk.injEq] at H
  obtain ⟨rfl, rfl⟩ := H
  go_enter Try.func63, Try.ntmps63
  go_wp2
  go_ret2
  exact ⟨rfl, by repeat (first | exact Drawn0.refl _ | apply Drawn0.step)⟩
end Go.Proofs.Ytahgfebdjjfkhaa.P
