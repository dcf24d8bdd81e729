/- Written by a program of this session: the functions that the laws reach, what each comes to, and each law as it is stated, for every input. No condition. -/
import Derived.Test.YtdihmempaonfjaaPx0
namespace Go.Proofs.Ytdihmempaonfjaa.P
open Go.RowKit Go.Proofs.YtdihmempaonfjaaW.PrintWords Go.Proofs.YtdihmempaonfjaaW.PrintLast Go.Proofs.YtdihmempaonfjaaW.PrintMore
attribute [local go_sem] max2_int min2_int max_two min_two max_three min_three max_four min_four   -- for this text's walks alone
set_option linter.unusedVariables false
set_option linter.unusedSimpArgs false
mutual
def arr_copied.f : Nat → Int → Int → List (S25) → Option (Int × Int × (List (S25)))
 | 0, _, _, _ => none
 | k + 1, a0_0, a0_1, l0_2 => if (l0_2.length : Int) > 0 then (if 0 < (l0_2.length : Int) then ((arr_Copy.f k ((rd_T25 l0_2 0).f0) ((rd_T25 l0_2 0).f1)).bind fun bt154 => (some (a0_0, a0_1, (([(⟨bt154.1, bt154.2⟩ : S25)] : List (S25)))))) else (none)) else (some (a0_0, a0_1, l0_2))
def arr_Copy.l0 : Nat → List (S45) → Int → Int → List Int → List (S45) → Option (List Int × (List (S45)))
 | 0, _, _, _, _, _ => none
 | k + 1, x11, x12, x13, x169000, x169001 => if x13 < x12 then (if 0 ≤ x13 then (if x13 < (x11.length : Int) then ((arr_copied.f k ((rd_T45 x11 x13).f0) ((rd_T45 x11 x13).f1) ((rd_T45 x11 x13).f2)).bind fun bt171 => (if x169001.length < 3518437208883 then (arr_Copy.l0 k x11 x12 (wrap64 (x13 + 1)) x169000 (x169001 ++ [(⟨bt171.1, bt171.2.1, bt171.2.2⟩ : S45)])) else (none))) else (none)) else (none)) else (some (x169000, x169001))
def arr_Copy.f : Nat → List Int → List (S45) → Option (List Int × (List (S45)))
 | 0, _, _ => none
 | k + 1, l0_0, l0_1 => if ([] : List Int).length + l0_0.length < 17592186044416 then (arr_Copy.l0 k l0_1 (l0_1.length : Int) 0 (([] : List Int) ++ l0_0) ([] : List (S45))) else (none)
end
theorem scc39.mono_l : ∀ k, (∀ y0 y1 y2, LeO (arr_copied.f k y0 y1 y2) (arr_copied.f (k + 1) y0 y1 y2)) ∧ (∀ y0 y1, LeO (arr_Copy.f k y0 y1) (arr_Copy.f (k + 1) y0 y1)) ∧ (∀ y0 y1 y2 y3 y4, LeO (arr_Copy.l0 k y0 y1 y2 y3 y4) (arr_Copy.l0 (k + 1) y0 y1 y2 y3 y4))
 | 0 => ⟨fun _ _ _ r h => by simp [arr_copied.f] at h, fun _ _ r h => by simp [arr_Copy.f] at h, fun _ _ _ _ _ r h => by simp [arr_Copy.l0] at h⟩
 | k + 1 => by
  obtain ⟨ih0, ih1, ih2⟩ := scc39.mono_l k
  refine ⟨?_, ?_, ?_⟩
  ·intro y0 y1 y2
   unfold arr_copied.f
   repeat' first
   | (with_reducible exact ih0 _ _ _)
   | (with_reducible exact ih1 _ _)
   | (with_reducible exact ih2 _ _ _ _ _)
   | (with_reducible exact LeO.refl _)
   | (with_reducible exact LeO.none _)
   | (with_reducible refine LeO.ite ?_ ?_)
   | (with_reducible refine LeO.bind ?_ (fun _ => ?_))






  ·intro y0 y1
   unfold arr_Copy.f
   repeat' first
   | (with_reducible exact ih0 _ _ _)
   | (with_reducible exact ih1 _ _)
   | (with_reducible exact ih2 _ _ _ _ _)
   | (with_reducible exact LeO.refl _)
   | (with_reducible exact LeO.none _)
   | (with_reducible refine LeO.ite ?_ ?_)
   | (with_reducible refine LeO.bind ?_ (fun _ => ?_))






  ·intro y0 y1 y2 y3 y4
   unfold arr_Copy.l0
   repeat' first
   | (with_reducible exact ih0 _ _ _)
   | (with_reducible exact ih1 _ _)
   | (with_reducible exact ih2 _ _ _ _ _)
   | (with_reducible exact LeO.refl _)
   | (with_reducible exact LeO.none _)
   | (with_reducible refine LeO.ite ?_ ?_)
   | (with_reducible refine LeO.bind ?_ (fun _ => ?_))
theorem arr_copied.mono : ∀ a0 a1 a2 k, LeO (arr_copied.f k a0 a1 a2) (arr_copied.f (k + 1) a0 a1 a2) := by
 intro a0 a1 a2 k
 obtain ⟨ih0, ih1, ih2⟩ := scc39.mono_l k
 exact ih0 a0 a1 a2
theorem arr_Copy.mono : ∀ a0 a1 k, LeO (arr_Copy.f k a0 a1) (arr_Copy.f (k + 1) a0 a1) := by
 intro a0 a1 k
 obtain ⟨ih0, ih1, ih2⟩ := scc39.mono_l k
 exact ih1 a0 a1
set_option maxHeartbeats 8000000 in
set_option maxRecDepth 100000 in
theorem arr_copied.step (k : Nat) (ih : ∀ k_, k_ < k → ∀ (a0_0 : Int) (a0_1 : Int) (P0_2_ : Nat → Prop) (A0_2 : Option Addr) (c0_2 : Nat) (l0_2 : List (S25)) (r1 : Int) (r2 : Int) (r3 : List (S25)) (w : World) (hs0_2 : Kd.V k25 25 w w.heap.size (fun k_ => P0_2_ k_) (.slice A0_2 l0_2.length c0_2) l0_2) (h : arr_copied.f k_ a0_0 a0_1 l0_2 = some (r1, r2, r3)),
  Calls Try.prog 39 #[.agg #[.int .i64 a0_0, .int .i64 a0_1, .slice A0_2 l0_2.length c0_2]] w fun e w' => ∃ v2_ : Value, e = .returned (.agg #[.int .i64 r1, .int .i64 r2, v2_]) ∧ Kd.V k25 25 w' w.heap.size (fun k_ => (P0_2_ k_ ∨ w.heap.size ≤ k_)) v2_ r3 ∧ Below w.heap.size w w') (ih_arr_Copy : ∀ k_, k_ < k → ∀ (A0_0 : Option Addr) (c0_0 : Nat) (l0_0 : List Int) (P0_1_ : Nat → Prop) (A0_1 : Option Addr) (c0_1 : Nat) (l0_1 : List (S45)) (r1 : List Int) (r2 : List (S45)) (w : World) (hr0_0 : Kd.C (Kd.int .i64) w A0_0 l0_0.length l0_0) (hc0_0 : l0_0.length ≤ c0_0) (hs0_1 : Kd.V k45 45 w w.heap.size (fun k_ => P0_1_ k_) (.slice A0_1 l0_1.length c0_1) l0_1) (h : arr_Copy.f k_ l0_0 l0_1 = some (r1, r2)),
  Calls Try.prog 20 #[.agg #[.slice A0_0 l0_0.length c0_0, .slice A0_1 l0_1.length c0_1]] w fun e w' => ∃ v0_ v1_ : Value, e = .returned (.agg #[v0_, v1_]) ∧ Kd.R (Kd.int .i64) 3 w' w.heap.size (fun k_ => (w.heap.size ≤ k_)) v0_ r1 ∧ Kd.N k45 45 w' w.heap.size (fun k_ => (P0_1_ k_ ∨ w.heap.size ≤ k_) ∧ some k_ ≠ (v0_ : Value).ownBlock) v1_ r2 ∧ Below w.heap.size w w') : ∀ (a0_0 : Int) (a0_1 : Int) (P0_2_ : Nat → Prop) (A0_2 : Option Addr) (c0_2 : Nat) (l0_2 : List (S25)) (r1 : Int) (r2 : Int) (r3 : List (S25)) (w : World) (hs0_2 : Kd.V k25 25 w w.heap.size (fun k_ => P0_2_ k_) (.slice A0_2 l0_2.length c0_2) l0_2) (h : arr_copied.f k a0_0 a0_1 l0_2 = some (r1, r2, r3)),
  Calls Try.prog 39 #[.agg #[.int .i64 a0_0, .int .i64 a0_1, .slice A0_2 l0_2.length c0_2]] w fun e w' => ∃ v2_ : Value, e = .returned (.agg #[.int .i64 r1, .int .i64 r2, v2_]) ∧ Kd.V k25 25 w' w.heap.size (fun k_ => (P0_2_ k_ ∨ w.heap.size ≤ k_)) v2_ r3 ∧ Below w.heap.size w w' := by
 intro a0_0 a0_1 P0_2_ A0_2 c0_2 l0_2 r1 r2 r3 w hs0_2 h
 cases k with
 | zero => exact absurd h (by simp [arr_copied.f])
 | succ k =>
 simp only [arr_copied.f] at h
 have hu45 := Try.underlying45
 have hu25 := Try.underlying25
 have HO0_2 := gA (show Kd.V k25 25 w w.heap.size (fun k_ => (P0_2_ k_ ∨ w.heap.size ≤ k_)) (.slice A0_2 l0_2.length c0_2) l0_2 from Kd.V_mono hs0_2 (fun k_ hk => .inl hk))
 have HB := gA (Below.refl w.heap.size w)
 have H : (if (l0_2.length : Int) > 0 then (if 0 < (l0_2.length : Int) then ((arr_Copy.f k ((rd_T25 l0_2 0).f0) ((rd_T25 l0_2 0).f1)).bind fun bt154 => (some (a0_0, a0_1, (([(⟨bt154.1, bt154.2⟩ : S25)] : List (S25)))))) else (none)) else (some (a0_0, a0_1, l0_2))) = some (r1, r2, r3) := h
 clear h
 by_cases c2 : (l0_2.length : Int) > 0
 ·rw [if_pos c2] at H
  have c2b0 : decide (0 < (l0_2.length : Int)) = true := decide_eq_true c2
  have c2b1 : decide (0 < l0_2.length) = true := decide_eq_true (by omega)
  clear c2
  obtain ⟨c3, H⟩ := iS H
  have c3b0 := decide_eq_true c3
  have c3b1 : decide (0 < l0_2.length) = true := decide_eq_true (by omega)
  clear c3
  replace H := Option.bind_eq_some_iff.mp H
  obtain ⟨⟨t154, t157⟩, A40, H⟩ := H
  replace H : (some (a0_0, a0_1, (([(⟨t154, t157⟩ : S25)] : List (S25))))) = some (r1, r2, r3) := H
  have A4 := gA A40
  clear A40
  obtain ⟨y160, hy160⟩ : ∃ y_ : List (S25), y_ = (([(⟨t154, t157⟩ : S25)] : List (S25))) := ⟨_, rfl⟩
  replace H : (some (a0_0, a0_1, y160)) = some (r1, r2, r3) := by first | (rw [hy160]; with_reducible exact H) | (have H2_ := (Option.bind_some _ _).symm.trans H; rw [hy160]; with_reducible exact H2_) | (have H2_ := (Option.bind_some _ _).symm.trans H; with_reducible exact H2_) | with_reducible exact H | (rw [hy160]; exact H) | exact H
  have Ny160 := gA hy160
  clear hy160
  simp only [Option.some.injEq, Prod.mk.injEq] at H
  obtain ⟨rfl, rfl, rfl⟩ := H
  go_enter Try.func39, Try.ntmps39
  go_wp2_with (first | ((with_reducible refine gate_dst (N := 1) rfl ?_); refine box_event ?hg (N := 1) ?hd (cs := #[.int .i64 a0_0, .int .i64 a0_1, .slice A0_2 l0_2.length c0_2]) (t := 45) ?hr ?_; (case hd => rfl); (case hg => rfl); (case hr => first | (go_simp; done) | (go_simp; rfl)); intro gb151 hg w5 hbox hb; replace HO0_2 := gA (Kd.V_below (Kd.V_elderB (gV HO0_2) gb151 (Nat.le_of_eq hg.symm)) hb); have BK151 := gA (hbox); have GW151 := gA ((by rw [hg]; exact (below_size (gB HB)) : w.heap.size ≤ gb151)); have GE151 := gA ((by rw [hg]; exact (below_size (gB HB)) : w.heap.size ≤ gb151)); replace HB := gA (below_step (gB HB) hb); clear hb hbox hg) | ((with_reducible refine gate_dst (N := 2) rfl ?_); refine box_event ?hg (N := 2) ?hd (cs := #[.int .i64 0, .int .i64 0, .slice none 0 0]) (t := 45) ?hr ?_; (case hd => rfl); (case hg => rfl); (case hr => first | (go_simp; done) | (go_simp; rfl)); intro gb152 hg w6 hbox hb; replace HO0_2 := gA (Kd.V_below (Kd.V_elderB (gV HO0_2) gb152 (Nat.le_of_eq hg.symm)) hb); have BK152 := gA (hbox); have GW152 := gA ((by rw [hg]; exact (below_size (gB HB)) : w.heap.size ≤ gb152)); have GE152 := gA ((by rw [hg]; exact (below_size (gB HB)) : w.heap.size ≤ gb152)); replace HB := gA (below_step (gB HB) hb); have NB151_152 := gA ((by rw [hg]; exact Nat.ne_of_lt (blk_lt (gK BK151)) : gb151 ≠ gb152)); have NB152_151 := gA ((by rw [hg]; exact Nat.ne_of_gt (blk_lt (gK BK151)) : gb152 ≠ gb151)); replace BK151 := gA (blk_below (gK BK151) hb); clear hb hbox hg; have hnb7 := NB151_152.out; have hnc7 := NB152_151.out; obtain ⟨hcz8_0, hcz8_1, hcz8_2, hfz8_0, hfz8_1, hfz8_2⟩ := gz3 BK151; have p153 : 0 ≤ (0 : Int) := (by omega); have q153 : 0 < (l0_2.length : Int) := of_decide_eq_true (by assumption); obtain ⟨ad153, A153_0, c153_0, A153_1, c153_1, e153, hx153_0, hx153_1, hl153_0, hi153_0, hl153_1, hi153_1⟩ := at_T25 (Kd.V_reads' HO0_2.out).2.2 0 p153 q153; cases e153; obtain ⟨ce153, hce153, hMe153, hcc153⟩ := Kd.V_get HO0_2.out z25 0 p153 (by first | exact q153 | exact of_decide_eq_true (by assumption) | (have e_ := (Kd.V_reads' HO0_2.out).1; omega)); obtain ⟨ua153_0, uc153_0, ua153_1, uc153_1, rfl, ul153_0, ge153_0, ul153_1, ge153_1⟩ := k25_openF hMe153; have hv153_0 := hcc153 0 _ rfl; rw [Nat.add_zero] at hv153_0; replace hv153_0 := Option.some.inj (hv153_0.symm.trans hx153_0); injection hv153_0 with hva_ hvn_ hvc_; rw [hva_] at ge153_0; rw [hvc_] at ul153_0; have HL153_0 := gA (show Kd.V (Kd.int .i64) 3 _ w.heap.size _ _ ((rd_T25 l0_2 0).f0) from Kd.V_mk ul153_0 ge153_0); clear hva_ hvn_ hvc_ ge153_0 ul153_0; have hv153_1 := hcc153 1 _ rfl; rw [add_field _ _ 1 (by omega)] at hv153_1; replace hv153_1 := Option.some.inj (hv153_1.symm.trans hx153_1); injection hv153_1 with hva_ hvn_ hvc_; rw [hva_] at ge153_1; rw [hvc_] at ul153_1; have HL153_1 := gA (show Kd.V k45 45 _ w.heap.size _ _ ((rd_T25 l0_2 0).f1) from Kd.V_mk ul153_1 ge153_1); clear hva_ hvn_ hvc_ ge153_1 ul153_1 hcc153 hce153; have qi153 : (0 < l0_2.length) = True := eq_true (by omega); (try rw [show ((0 : Int)).toNat = 0 from rfl] at hx153_0); (try rw [show 0 * 2 = 0 from rfl] at hx153_0); (try rw [Addr.add_zero'] at hx153_0); (try rw [show ((0 : Int)).toNat = 0 from rfl] at hx153_1); (try rw [show 0 * 2 = 0 from rfl] at hx153_1); (try rw [Addr.add_zero'] at hx153_1); have HR153_0 := gA hi153_0; have HC153_0 := gA hl153_0; clear hi153_0 hl153_0; have HR153_1 := gA hi153_1; have HC153_1 := gA hl153_1; clear hi153_1 hl153_1; replace p153 := eq_true p153; replace q153 := eq_true q153) | ((with_reducible refine gate_callee (f := 20) rfl ?_); refine goesL_ (some 11) rfl rfl Try.func20 (by kernel_rfl) rfl #[.agg #[.slice A153_0 ((rd_T25 l0_2 0).f0).length c153_0, .slice A153_1 ((rd_T25 l0_2 0).f1).length c153_1]] rfl (by (try simp only [List.map_toArray, List.map_cons, List.map_nil]); first | done | rfl | (simp only [List.length_drop, List.length_take]; rfl)) ?_; (with_reducible refine (ih_arr_Copy k (by omega) _ _ ((rd_T25 l0_2 0).f0) (fun k_ => (((P0_2_ k_ ∨ w.heap.size ≤ k_) ∧ k_ ≠ gb151) ∧ k_ ≠ gb152)) _ _ ((rd_T25 l0_2 0).f1) t154 t157 _ ?side1 ?side2 ?side3 A4.out).mono ?_); (case side1 => repeat (first | exact (by repeat (first | (with_reducible exact HR153_0.out) | (with_reducible refine Kd.C_alloc ?_ _) | (with_reducible refine Kd.C_drewN ?_ _) | (with_reducible refine Kd.C_drew ?_) | exact HR153_0.out)) | (with_reducible refine Kd.C_alloc ?_ _) | (with_reducible refine Kd.C_drewN ?_ _) | (with_reducible refine Kd.C_drew ?_))); (case side2 => exact HC153_0.out); (case side3 => exact HL153_1.out); rintro e w9 ⟨v155, v158, rfl, ho0, ho1, hb⟩; refine ⟨_, rfl, ?_⟩; replace HO0_2 := gA (Kd.V_mono (Kd.V_told (Kd.V_told (Kd.V_old (gV HO0_2) hb) (Kd.R_base ho0)) (by first | exact Kd.N_base ho1 | exact Kd.R_base ho1)) (fun _ h_ => h_.1)); replace HL153_0 := gA (Kd.V_mono (Kd.V_told (Kd.V_told (Kd.V_old (gV HL153_0) hb) (Kd.R_base ho0)) (by first | exact Kd.N_base ho1 | exact Kd.R_base ho1)) (fun _ h_ => h_.1)); replace HL153_1 := gA (Kd.V_mono (Kd.V_told (Kd.V_told (Kd.V_old (gV HL153_1) hb) (Kd.R_base ho0)) (by first | exact Kd.N_base ho1 | exact Kd.R_base ho1)) (fun _ h_ => h_.1)); have HO156 := gA (Kd.R_lower (Kd.R_newM (M := fun k_ => (w.heap.size ≤ k_)) (Kd.R_mono (ok' := fun k_ => True) ho0 (fun _ hk_ => trivial)) (below_size (gB HB)) (fun k_ h_ => h_)) (below_size (gB HB))); have HO159 := gA (Kd.N_lower (Kd.N_mono (ok' := fun k_ => (P0_2_ k_ ∨ w.heap.size ≤ k_) ∧ some k_ ≠ (v155 : Value).ownBlock ∧ k_ ≠ gb151 ∧ k_ ≠ gb152) ho1 (fun k_ hk_ => ⟨Or.elim hk_.1 (fun hs_ => hs_.1.1) (fun hn_ => (.inr (Nat.le_trans (below_size (gB HB)) hn_))), hk_.2, Or.elim hk_.1 (fun hs_ => hs_.1.2) (fun hn_ => (Kd.freshB (gK BK151) k_ hn_)), Or.elim hk_.1 (fun hs_ => hs_.2) (fun hn_ => (Kd.freshB (gK BK152) k_ hn_))⟩)) (below_size (gB HB))); replace BK151 := gA (blk_below (gK BK151) hb); replace BK152 := gA (blk_below (gK BK152) hb); replace HR153_0 := gA (Kd.C_below (by repeat (first | (with_reducible exact HR153_0.out) | (with_reducible refine Kd.C_alloc ?_ _) | (with_reducible refine Kd.C_drewN ?_ _) | (with_reducible refine Kd.C_drew ?_) | exact HR153_0.out)) hb); replace HR153_1 := gA (Kd.C_below (by repeat (first | (with_reducible exact HR153_1.out) | (with_reducible refine Kd.C_alloc ?_ _) | (with_reducible refine Kd.C_drewN ?_ _) | (with_reducible refine Kd.C_drew ?_) | exact HR153_1.out)) hb); replace HB := gA (below_step (gB HB) hb); (try clear hb); (try clear ho0); (try clear ho1); obtain ⟨Ao10, co10, eo10⟩ := Kd.R_slice HO156.out; subst eo10; obtain ⟨Ao11, co11, eo11⟩ := Kd.N_slice HO159.out; subst eo11) | ((with_reducible refine gate_dst (N := 12) rfl ?_); refine Kd.N_lit k25 _ 25 ?hg (N' := 12) ?hd (xs := ([(⟨t154, t157⟩ : S25)] : List (S25))) (inner := [.slice Ao10 t154.length co10, .slice Ao11 t157.length co11]) (ok := (fun k_ => (P0_2_ k_ ∨ w.heap.size ≤ k_) ∧ k_ ≠ gb151 ∧ k_ ≠ gb152)) (okp := (fun k_ => (P0_2_ k_ ∨ w.heap.size ≤ k_) ∧ k_ ≠ gb151 ∧ k_ ≠ gb152)) ?hr ?hp (fun _ hk => hk) ((show ∀ k_, w9.heap.size ≤ k_ → (fun k_ => (P0_2_ k_ ∨ w.heap.size ≤ k_) ∧ k_ ≠ gb151 ∧ k_ ≠ gb152) k_ from fun k_ hk => ⟨(.inr (Nat.le_trans (below_size (gB HB)) hk)), Kd.freshB (gK BK151) k_ hk, Kd.freshB (gK BK152) k_ hk⟩) _ (Nat.le_refl _)) (Below.refl _ _) (Nat.le_refl _) (by simp) ?_; (case hd => rfl); (case hg => rfl); (case hr => first | (go_simp; done) | (go_simp; rfl)); (case hp => exact (Reps.c2 (show Kd.FK k25 _ _ (⟨t154, t157⟩ : S25) [.slice Ao10 t154.length co10, .slice Ao11 t157.length co11] from (k25_mkF _ _ (⟨t154, t157⟩ : S25) (Kd.R_reads' (Kd.R_mono (ok' := (fun k_ => (P0_2_ k_ ∨ w.heap.size ≤ k_) ∧ k_ ≠ gb151 ∧ k_ ≠ gb152)) (Kd.R_types (Kd.R_types (HO156.out) BK151.out (by decide)) BK152.out (by decide)) (fun k_ hk => ⟨(.inr (hk.1.1.1)), ⟨hk.1.2, hk.2⟩⟩))).2.1 (Kd.R_F (Kd.R_mono (ok' := (fun k_ => (P0_2_ k_ ∨ w.heap.size ≤ k_) ∧ k_ ≠ gb151 ∧ k_ ≠ gb152)) (Kd.R_types (Kd.R_types (HO156.out) BK151.out (by decide)) BK152.out (by decide)) (fun k_ hk => ⟨(.inr (hk.1.1.1)), ⟨hk.1.2, hk.2⟩⟩))) (Kd.N_reads' (Kd.N_mono (ok' := (fun k_ => (P0_2_ k_ ∨ w.heap.size ≤ k_) ∧ k_ ≠ gb151 ∧ k_ ≠ gb152)) (HO159.out) (fun k_ hk => ⟨hk.1, ⟨hk.2.2.1, hk.2.2.2⟩⟩))).2.1 (Kd.N_F (Kd.N_mono (ok' := (fun k_ => (P0_2_ k_ ∨ w.heap.size ≤ k_) ∧ k_ ≠ gb151 ∧ k_ ≠ gb152)) (HO159.out) (fun k_ hk => ⟨hk.1, ⟨hk.2.2.1, hk.2.2.2⟩⟩))))) (Reps.none _ _))); intro v161 w12 ho13 hb hg_ hnew_; clear hg_ hnew_; (first | rw [← Ny160.out] at ho13 | (simp only [Int.reduceToNat] at ho13; rw [← Ny160.out] at ho13)); replace HO0_2 := gA (Kd.V_elder' (gV HO0_2) (Kd.N_base ho13) hb); replace HL153_0 := gA (Kd.V_elder' (gV HL153_0) (Kd.N_base ho13) hb); replace HL153_1 := gA (Kd.V_elder' (gV HL153_1) (Kd.N_base ho13) hb); have HO162 := gA (Kd.N_lower ho13 (below_size (gB HB))); replace BK151 := gA (blk_below (gK BK151) hb); replace BK152 := gA (blk_below (gK BK152) hb); replace HR153_0 := gA (Kd.C_below (by repeat (first | (with_reducible exact HR153_0.out) | (with_reducible refine Kd.C_alloc ?_ _) | (with_reducible refine Kd.C_drewN ?_ _) | (with_reducible refine Kd.C_drew ?_) | exact HR153_0.out)) hb); replace HR153_1 := gA (Kd.C_below (by repeat (first | (with_reducible exact HR153_1.out) | (with_reducible refine Kd.C_alloc ?_ _) | (with_reducible refine Kd.C_drewN ?_ _) | (with_reducible refine Kd.C_drew ?_) | exact HR153_1.out)) hb); replace HB := gA (below_step (gB HB) hb); clear HO156 HO159 hb ho13; obtain ⟨Ao14, co14, eo14⟩ := Kd.N_slice HO162.out; subst eo14; obtain ⟨hcz15_0, hcz15_1, hcz15_2, hfz15_0, hfz15_1, hfz15_2⟩ := gz3 BK151; obtain ⟨hcz16_0, hcz16_1, hcz16_2, hfz16_0, hfz16_1, hfz16_2⟩ := gz3 BK152))
  refine bodyPost_ret (results_cell_row rfl _ _ gb152 45 #[.int .i64 a0_0, .int .i64 a0_1, .slice Ao14 y160.length co14] (0, 0) _ rfl (by refine blk_put (cs := #[.int .i64 a0_0, .int .i64 a0_1, .slice none 0 0]) ?_ 2 _ rfl; refine blk_put (cs := #[.int .i64 a0_0, .int .i64 0, .slice none 0 0]) ?_ 1 _ rfl; refine blk_put (cs := #[.int .i64 0, .int .i64 0, .slice none 0 0]) ?_ 0 _ rfl; refine blk_far ?_ NB152_151.out _; exact gK BK152) Try.underlying45 rfl (by kernel_rfl)) rfl ?_
  exact ⟨_, rfl, Kd.N_V (Kd.N_mono (Kd.N_far (p := ⟨gb152, 2, none⟩) (Kd.N_far (p := ⟨gb152, 1, none⟩) (Kd.N_far (p := ⟨gb152, 0, none⟩) (Kd.N_far (p := ⟨gb151, 2, none⟩) (Kd.N_mono (Kd.N_mono HO162.out (fun k_ hk => (⟨hk, hk.2.1⟩ : _ ∧ k_ ≠ gb151))) (fun k_ hk => (⟨hk, hk.1.2.2⟩ : _ ∧ k_ ≠ gb152))) (fun _ hk => hk.1.2) (.slice Ao14 y160.length co14)) (fun _ hk => hk.2) (.int .i64 a0_0)) (fun _ hk => hk.2) (.int .i64 a0_1)) (fun _ hk => hk.2) (.slice Ao14 y160.length co14)) (fun _ hk => hk.1.1.1)), by repeat first | exact gB HB | refine below_set ?_ GE151.out | refine below_set ?_ GE152.out⟩
 ·rw [if_neg c2] at H
  have c2b0 : decide (0 < (l0_2.length : Int)) = false := decide_eq_false c2
  have c2b1 : decide (0 < l0_2.length) = false := decide_eq_false (by omega)
  clear c2
  simp only [Option.some.injEq, Prod.mk.injEq] at H
  obtain ⟨rfl, rfl, rfl⟩ := H
  go_enter Try.func39, Try.ntmps39
  go_wp2_with (first | ((with_reducible refine gate_dst (N := 1) rfl ?_); refine box_event ?hg (N := 1) ?hd (cs := #[.int .i64 a0_0, .int .i64 a0_1, .slice A0_2 l0_2.length c0_2]) (t := 45) ?hr ?_; (case hd => rfl); (case hg => rfl); (case hr => first | (go_simp; done) | (go_simp; rfl)); intro gb151 hg w17 hbox hb; replace HO0_2 := gA (Kd.V_below (Kd.V_elderB (gV HO0_2) gb151 (Nat.le_of_eq hg.symm)) hb); have BK151 := gA (hbox); have GW151 := gA ((by rw [hg]; exact (below_size (gB HB)) : w.heap.size ≤ gb151)); have GE151 := gA ((by rw [hg]; exact (below_size (gB HB)) : w.heap.size ≤ gb151)); replace HB := gA (below_step (gB HB) hb); clear hb hbox hg) | ((with_reducible refine gate_dst (N := 2) rfl ?_); refine box_event ?hg (N := 2) ?hd (cs := #[.int .i64 0, .int .i64 0, .slice none 0 0]) (t := 45) ?hr ?_; (case hd => rfl); (case hg => rfl); (case hr => first | (go_simp; done) | (go_simp; rfl)); intro gb152 hg w18 hbox hb; replace HO0_2 := gA (Kd.V_below (Kd.V_elderB (gV HO0_2) gb152 (Nat.le_of_eq hg.symm)) hb); have BK152 := gA (hbox); have GW152 := gA ((by rw [hg]; exact (below_size (gB HB)) : w.heap.size ≤ gb152)); have GE152 := gA ((by rw [hg]; exact (below_size (gB HB)) : w.heap.size ≤ gb152)); replace HB := gA (below_step (gB HB) hb); have NB151_152 := gA ((by rw [hg]; exact Nat.ne_of_lt (blk_lt (gK BK151)) : gb151 ≠ gb152)); have NB152_151 := gA ((by rw [hg]; exact Nat.ne_of_gt (blk_lt (gK BK151)) : gb152 ≠ gb151)); replace BK151 := gA (blk_below (gK BK151) hb); clear hb hbox hg; have hnb19 := NB151_152.out; have hnc19 := NB152_151.out; obtain ⟨hcz20_0, hcz20_1, hcz20_2, hfz20_0, hfz20_1, hfz20_2⟩ := gz3 BK151; obtain ⟨hcz21_0, hcz21_1, hcz21_2, hfz21_0, hfz21_1, hfz21_2⟩ := gz3 BK152))
  refine bodyPost_ret (results_cell_row rfl _ _ gb152 45 #[.int .i64 a0_0, .int .i64 a0_1, .slice A0_2 l0_2.length c0_2] (0, 0) _ rfl (by refine blk_put (cs := #[.int .i64 a0_0, .int .i64 a0_1, .slice none 0 0]) ?_ 2 _ rfl; refine blk_put (cs := #[.int .i64 a0_0, .int .i64 0, .slice none 0 0]) ?_ 1 _ rfl; refine blk_put (cs := #[.int .i64 0, .int .i64 0, .slice none 0 0]) ?_ 0 _ rfl; exact gK BK152) Try.underlying45 rfl (by kernel_rfl)) rfl ?_
  exact ⟨_, rfl, Kd.V_mono (Kd.V_far (p := ⟨gb152, 2, none⟩) (Kd.V_far (p := ⟨gb152, 1, none⟩) (Kd.V_far (p := ⟨gb152, 0, none⟩) (Kd.V_mono HO0_2.out (fun k_ hk => (⟨hk, hk.2⟩ : _ ∧ k_ ≠ gb152))) (fun _ hk => hk.2) (.int .i64 a0_0)) (fun _ hk => hk.2) (.int .i64 a0_1)) (fun _ hk => hk.2) (.slice A0_2 l0_2.length c0_2)) (fun _ hk => hk.1.1.1), by repeat first | exact gB HB | refine below_set ?_ GE151.out | refine below_set ?_ GE152.out⟩
def arr_Copy.T5 : Bool × List (List Nat × List Nat) := (true, [([], []), ([0], [0]), ([], []), ([2], [2]), ([3], [3]), ([1, 4, 3], [1, 4]), ([0, 1, 2, 3, 4, 5], []), ([6, 5, 5, 0, 1, 2, 3, 4, 5], [5, 6])])
def arr_Copy.B5 : List Nat := [0, 1, 0, 4, 12, 31, 63, 127]
theorem arr_Copy.tab5 : rtab .any (opsOf Try.f20 5) = arr_Copy.T5 := by kernel_rfl
theorem arr_Copy.bits5 : waitsOk arr_Copy.T5.2 arr_Copy.B5 = true := by kernel_rfl
set_option maxHeartbeats 8000000 in
set_option maxRecDepth 100000 in
theorem arr_Copy.step (k : Nat) (ih_arr_copied : ∀ k_, k_ < k → ∀ (a0_0 : Int) (a0_1 : Int) (P0_2_ : Nat → Prop) (A0_2 : Option Addr) (c0_2 : Nat) (l0_2 : List (S25)) (r1 : Int) (r2 : Int) (r3 : List (S25)) (w : World) (hs0_2 : Kd.V k25 25 w w.heap.size (fun k_ => P0_2_ k_) (.slice A0_2 l0_2.length c0_2) l0_2) (h : arr_copied.f k_ a0_0 a0_1 l0_2 = some (r1, r2, r3)),
  Calls Try.prog 39 #[.agg #[.int .i64 a0_0, .int .i64 a0_1, .slice A0_2 l0_2.length c0_2]] w fun e w' => ∃ v2_ : Value, e = .returned (.agg #[.int .i64 r1, .int .i64 r2, v2_]) ∧ Kd.V k25 25 w' w.heap.size (fun k_ => (P0_2_ k_ ∨ w.heap.size ≤ k_)) v2_ r3 ∧ Below w.heap.size w w') (ih : ∀ k_, k_ < k → ∀ (A0_0 : Option Addr) (c0_0 : Nat) (l0_0 : List Int) (P0_1_ : Nat → Prop) (A0_1 : Option Addr) (c0_1 : Nat) (l0_1 : List (S45)) (r1 : List Int) (r2 : List (S45)) (w : World) (hr0_0 : Kd.C (Kd.int .i64) w A0_0 l0_0.length l0_0) (hc0_0 : l0_0.length ≤ c0_0) (hs0_1 : Kd.V k45 45 w w.heap.size (fun k_ => P0_1_ k_) (.slice A0_1 l0_1.length c0_1) l0_1) (h : arr_Copy.f k_ l0_0 l0_1 = some (r1, r2)),
  Calls Try.prog 20 #[.agg #[.slice A0_0 l0_0.length c0_0, .slice A0_1 l0_1.length c0_1]] w fun e w' => ∃ v0_ v1_ : Value, e = .returned (.agg #[v0_, v1_]) ∧ Kd.R (Kd.int .i64) 3 w' w.heap.size (fun k_ => (w.heap.size ≤ k_)) v0_ r1 ∧ Kd.N k45 45 w' w.heap.size (fun k_ => (P0_1_ k_ ∨ w.heap.size ≤ k_) ∧ some k_ ≠ (v0_ : Value).ownBlock) v1_ r2 ∧ Below w.heap.size w w') : ∀ (A0_0 : Option Addr) (c0_0 : Nat) (l0_0 : List Int) (P0_1_ : Nat → Prop) (A0_1 : Option Addr) (c0_1 : Nat) (l0_1 : List (S45)) (r1 : List Int) (r2 : List (S45)) (w : World) (hr0_0 : Kd.C (Kd.int .i64) w A0_0 l0_0.length l0_0) (hc0_0 : l0_0.length ≤ c0_0) (hs0_1 : Kd.V k45 45 w w.heap.size (fun k_ => P0_1_ k_) (.slice A0_1 l0_1.length c0_1) l0_1) (h : arr_Copy.f k l0_0 l0_1 = some (r1, r2)),
  Calls Try.prog 20 #[.agg #[.slice A0_0 l0_0.length c0_0, .slice A0_1 l0_1.length c0_1]] w fun e w' => ∃ v0_ v1_ : Value, e = .returned (.agg #[v0_, v1_]) ∧ Kd.R (Kd.int .i64) 3 w' w.heap.size (fun k_ => (w.heap.size ≤ k_)) v0_ r1 ∧ Kd.N k45 45 w' w.heap.size (fun k_ => (P0_1_ k_ ∨ w.heap.size ≤ k_) ∧ some k_ ≠ (v0_ : Value).ownBlock) v1_ r2 ∧ Below w.heap.size w w' := by
 intro A0_0 c0_0 l0_0 P0_1_ A0_1 c0_1 l0_1 r1 r2 w hr0_0 hc0_0 hs0_1 h
 cases k with
 | zero => exact absurd h (by simp [arr_Copy.f])
 | succ k =>
 simp only [arr_Copy.f] at h
 have hu25 := Try.underlying25
 have hu45 := Try.underlying45
 have HR0_0 := gA hr0_0
 have HC0_0 := gA hc0_0
 clear hr0_0 hc0_0
 have HO0_1 := gA (show Kd.V k45 45 w w.heap.size (fun k_ => (P0_1_ k_ ∨ w.heap.size ≤ k_)) (.slice A0_1 l0_1.length c0_1) l0_1 from Kd.V_mono hs0_1 (fun k_ hk => .inl hk))
 have HB := gA (Below.refl w.heap.size w)
 have H : (if ([] : List Int).length + l0_0.length < 17592186044416 then (arr_Copy.l0 k l0_1 (l0_1.length : Int) 0 (([] : List Int) ++ l0_0) ([] : List (S45))) else (none)) = some (r1, r2) := h
 clear h
 obtain ⟨c2, H⟩ := iS H
 have LMc2 := gA c2
 clear c2
 obtain ⟨y165, hy165⟩ : ∃ y_ : List Int, y_ = (([] : List Int) ++ l0_0) := ⟨_, rfl⟩
 replace H : (arr_Copy.l0 k l0_1 (l0_1.length : Int) 0 y165 ([] : List (S45))) = some (r1, r2) := by first | (rw [hy165]; with_reducible exact H) | (have H2_ := (Option.bind_some _ _).symm.trans H; rw [hy165]; with_reducible exact H2_) | (have H2_ := (Option.bind_some _ _).symm.trans H; with_reducible exact H2_) | with_reducible exact H | (rw [hy165]; exact H) | exact H
 have Ny165 := gA hy165
 clear hy165
 have H' := gA H
 clear H
 go_enter Try.func20, Try.ntmps20
 go_wp2_with (first | ((with_reducible refine gate_dst (N := 1) rfl ?_); refine box_event ?hg (N := 1) ?hd (cs := #[.slice A0_0 l0_0.length c0_0, .slice A0_1 l0_1.length c0_1]) (t := 25) ?hr ?_; (case hd => rfl); (case hg => rfl); (case hr => first | (go_simp; done) | (go_simp; rfl)); intro gb163 hg w3 hbox hb; replace HO0_1 := gA (Kd.V_below (Kd.V_elderB (gV HO0_1) gb163 (Nat.le_of_eq hg.symm)) hb); have BK163 := gA (hbox); have GW163 := gA ((by rw [hg]; exact (below_size (gB HB)) : w.heap.size ≤ gb163)); have GE163 := gA ((by rw [hg]; exact (below_size (gB HB)) : w.heap.size ≤ gb163)); replace HB := gA (below_step (gB HB) hb); clear hb hbox hg) | ((with_reducible refine gate_dst (N := 2) rfl ?_); refine box_event ?hg (N := 2) ?hd (cs := #[.slice none 0 0, .slice none 0 0]) (t := 25) ?hr ?_; (case hd => rfl); (case hg => rfl); (case hr => first | (go_simp; done) | (go_simp; rfl)); intro gb164 hg w4 hbox hb; replace HO0_1 := gA (Kd.V_below (Kd.V_elderB (gV HO0_1) gb164 (Nat.le_of_eq hg.symm)) hb); have BK164 := gA (hbox); have GW164 := gA ((by rw [hg]; exact (below_size (gB HB)) : w.heap.size ≤ gb164)); have GE164 := gA ((by rw [hg]; exact (below_size (gB HB)) : w.heap.size ≤ gb164)); replace HB := gA (below_step (gB HB) hb); have NB163_164 := gA ((by rw [hg]; exact Nat.ne_of_lt (blk_lt (gK BK163)) : gb163 ≠ gb164)); have NB164_163 := gA ((by rw [hg]; exact Nat.ne_of_gt (blk_lt (gK BK163)) : gb164 ≠ gb163)); replace BK163 := gA (blk_below (gK BK163) hb); clear hb hbox hg; have hnb5 := NB163_164.out; have hnc5 := NB164_163.out; obtain ⟨hcz6_0, hcz6_1, hfz6_0, hfz6_1⟩ := gz2 BK163) | ((with_reducible refine gate_builtin (b := .append) (xs := #[.const (.slice none 0 0), .tmp 7]) rfl ?_); at_builtin; refine Kd.R_append_rows (Kd.int .i64) (w0 := w) w.heap.size rfl (.const (.slice none 0 0)) (.tmp 7) 22 3 (.int .i64 0) 8 rfl Try.underlying22 info3 rfl (by decide) (by omega) (.slice none 0 0) ([] : List Int) l0_0 _ _ _ (fun k_ => (w.heap.size ≤ k_)) (fun _ => False) rfl rfl ?aO ?aR (fun _ _ h => h) (fun _ h => h.elim) ?aF ?aB ?aS ?aL ?_; (case aR => exact gC HR0_0 HB); (case aB => exact (gB HB)); (case aF => exact (fun k_ hk => (Nat.le_trans (below_size (gB HB)) hk))); (case aO => exact ((Kd.R_nil _ _ _ _ (fun k_ => (w.heap.size ≤ k_))))); (case aS => exact (below_size (gB HB))); (case aL => have := LMc2.out; omega); intro v166 w7 ho hb hg hat; rw [← Ny165.out] at ho; replace HO0_1 := gA (Kd.V_afterv (Kd.V_apart_nil (gV HO0_1)) hg hat); replace BK163 := gA (blk_grown (gK BK163) hg (by simp [Value.ownBlock])); replace BK164 := gA (blk_grown (gK BK164) hg (by simp [Value.ownBlock])); replace HB := gA (hb); have HO167 := gA (ho); clear ho hb hg hat; obtain ⟨Ao8, co8, eo8⟩ := Kd.R_slice HO167.out; subst eo8) | ((with_reducible refine gate_dst (N := 3) rfl ?_); refine box_event ?hg (N := 3) ?hd (cs := #[.slice none 0 0, .slice none 0 0]) (t := 25) ?hr ?_; (case hd => rfl); (case hg => rfl); (case hr => first | (go_simp; done) | (go_simp; rfl)); intro gb168 hg w9 hbox hb; replace HO0_1 := gA (Kd.V_below (Kd.V_elderB (gV HO0_1) gb168 (Nat.le_of_eq hg.symm)) hb); replace HO167 := gA (Kd.R_below (gR HO167) hb); have BK168 := gA (hbox); have GW168 := gA ((by rw [hg]; exact (below_size (gB HB)) : w.heap.size ≤ gb168)); have GE168 := gA ((by rw [hg]; exact (below_size (gB HB)) : w.heap.size ≤ gb168)); replace HB := gA (below_step (gB HB) hb); have NB163_168 := gA ((by rw [hg]; exact Nat.ne_of_lt (blk_lt (gK BK163)) : gb163 ≠ gb168)); have NB168_163 := gA ((by rw [hg]; exact Nat.ne_of_gt (blk_lt (gK BK163)) : gb168 ≠ gb163)); replace BK163 := gA (blk_below (gK BK163) hb); have NB164_168 := gA ((by rw [hg]; exact Nat.ne_of_lt (blk_lt (gK BK164)) : gb164 ≠ gb168)); have NB168_164 := gA ((by rw [hg]; exact Nat.ne_of_gt (blk_lt (gK BK164)) : gb168 ≠ gb164)); replace BK164 := gA (blk_below (gK BK164) hb); clear hb hbox hg; have hnb10 := NB168_163.out; have hnc10 := NB163_168.out; have hnb11 := NB168_164.out; have hnc11 := NB164_168.out; obtain ⟨hcz12_0, hcz12_1, hfz12_0, hfz12_1⟩ := gz2 BK168; obtain ⟨hcz13_0, hcz13_1, hfz13_0, hfz13_1⟩ := gz2 BK163))
 go_loopg [13] k (fun kq v13 w' => ∃ (x13_1 : Int) (x169001_1 : List (S45)) (u169001 : Value), v13 = .int .i64 x13_1 ∧ Aside0 (arr_Copy.l0 kq l0_1 (l0_1.length : Int) x13_1 y165 x169001_1 = some (r1, r2)) ∧ Aside0 (kq ≤ k) ∧ Aside0 (Kd.V k45 45 w' w.heap.size (fun k_ => (P0_1_ k_ ∨ w.heap.size ≤ k_) ∧ some k_ ≠ ((.slice Ao8 y165.length co8) : Value).ownBlock ∧ some k_ ≠ (u169001 : Value).ownBlock ∧ k_ ≠ gb163 ∧ k_ ≠ gb164 ∧ k_ ≠ gb168) (.slice A0_1 l0_1.length c0_1) l0_1) ∧ Aside0 (Kd.V k45 45 w' w.heap.size (fun k_ => (P0_1_ k_ ∨ w.heap.size ≤ k_) ∧ some k_ ≠ ((.slice Ao8 y165.length co8) : Value).ownBlock ∧ some k_ ≠ (u169001 : Value).ownBlock ∧ k_ ≠ gb163 ∧ k_ ≠ gb164 ∧ k_ ≠ gb168) (.slice A0_1 l0_1.length c0_1) l0_1) ∧ Aside0 (Kd.R (Kd.int .i64) 3 w' w.heap.size (fun k_ => (w.heap.size ≤ k_)) (.slice Ao8 y165.length co8) y165) ∧ Aside0 (Kd.N k45 45 w' w.heap.size (fun k_ => (P0_1_ k_ ∨ w.heap.size ≤ k_) ∧ some k_ ≠ ((.slice Ao8 y165.length co8) : Value).ownBlock ∧ k_ ≠ gb163 ∧ k_ ≠ gb164 ∧ k_ ≠ gb168) u169001 x169001_1) ∧ Aside0 (w'.heap[gb163]? = some (.cells #[(.slice A0_0 l0_0.length c0_0), (.slice A0_1 l0_1.length c0_1)] 25 (0, 0))) ∧ Aside0 (w'.heap[gb164]? = some (.cells #[(.slice none 0 0), (.slice none 0 0)] 25 (0, 0))) ∧ Aside0 (w'.heap[gb168]? = some (.cells #[(.slice Ao8 y165.length co8), u169001] 25 (0, 0))) ∧ Aside0 (Below w.heap.size w w'))
 case atStart => exact ⟨(0), (([] : List (S45))), (.slice none 0 0), (rfl), H', ⟨Nat.le_refl _⟩, ⟨Kd.V_mono (Kd.V_far (p := ⟨gb168, 1, none⟩) (Kd.V_far (p := ⟨gb168, 0, none⟩) (Kd.V_mono HO0_1.out (fun k_ hk => (⟨hk, hk.2⟩ : _ ∧ k_ ≠ gb168))) (fun _ hk => hk.2) (.slice Ao8 y165.length co8)) (fun _ hk => hk.2) (.slice none 0 0)) (fun _ hk => ⟨hk.1.1.1.1.1, ⟨hk.1.1.2, ⟨(by simp [Value.ownBlock]), ⟨hk.1.1.1.1.2, ⟨hk.1.1.1.2, hk.1.2⟩⟩⟩⟩⟩)⟩, ⟨Kd.V_mono (Kd.V_far (p := ⟨gb168, 1, none⟩) (Kd.V_far (p := ⟨gb168, 0, none⟩) (Kd.V_mono HO0_1.out (fun k_ hk => (⟨hk, hk.2⟩ : _ ∧ k_ ≠ gb168))) (fun _ hk => hk.2) (.slice Ao8 y165.length co8)) (fun _ hk => hk.2) (.slice none 0 0)) (fun _ hk => ⟨hk.1.1.1.1.1, ⟨hk.1.1.2, ⟨(by simp [Value.ownBlock]), ⟨hk.1.1.1.1.2, ⟨hk.1.1.1.2, hk.1.2⟩⟩⟩⟩⟩)⟩, ⟨Kd.R_mono (Kd.R_far (p := ⟨gb168, 1, none⟩) (Kd.R_far (p := ⟨gb168, 0, none⟩) (Kd.R_types HO167.out BK168.out (by decide)) (fun _ hk => hk.2) (.slice Ao8 y165.length co8)) (fun _ hk => hk.2) (.slice none 0 0)) (fun _ hk => hk.1)⟩, ⟨by first | exact Kd.R_nil _ _ _ _ _ | exact Kd.N_nil _ _ _ _ _ | exact Kd.V_nil _ _ _ _ _ | exact Kd.Q_nil _ _ _ _ _ | exact Kd.S_nil _ _ _ _ _⟩, ⟨by refine blk_far ?_ NB163_168.out _; refine blk_far ?_ NB163_168.out _; exact gK BK163⟩, ⟨by refine blk_far ?_ NB164_168.out _; refine blk_far ?_ NB164_168.out _; exact gK BK164⟩, ⟨by refine blk_put (cs := #[.slice Ao8 y165.length co8, .slice none 0 0]) ?_ 1 _ rfl; refine blk_put (cs := #[.slice none 0 0, .slice none 0 0]) ?_ 0 _ rfl; exact gK BK168⟩, ⟨by repeat first | exact gB HB | refine below_set ?_ GE163.out | refine below_set ?_ GE164.out | refine below_set ?_ GE168.out⟩⟩
 case round =>
  clear H'
  try clear c1
  try clear c2
  try clear p2
  try clear c5
  try clear c10
  try clear c11
  try clear hcz12_0
  try clear hcz12_1
  try clear hcz13_0
  try clear hcz13_1
  try clear hcz6_0
  try clear hcz6_1
  try clear hfz12_0
  try clear hfz12_1
  try clear hfz13_0
  try clear hfz13_1
  try clear hfz6_0
  try clear hfz6_1
  obtain ⟨x13_1, x169001_1, u169001, rfl, HA, HK1, HO_11, HO_164001, HO_169000, HO_169001, BK163, BK164, BK168, HB⟩ := hrel
  cases gk with
  | zero => exact absurd HA.out (by simp [arr_Copy.l0])
  | succ k1 =>
   have H := HA.out; clear HA
   simp only [arr_Copy.l0] at H
   by_cases c14 : x13_1 < (l0_1.length : Int)
   ·rw [if_pos c14] at H
    have c14b0 := decide_eq_true c14
    clear c14
    obtain ⟨c15, H⟩ := iS H
    have c15b0 := decide_eq_true c15
    clear c15
    obtain ⟨c16, H⟩ := iS H
    have c16b0 := decide_eq_true c16
    clear c16
    replace H := Option.bind_eq_some_iff.mp H
    obtain ⟨⟨t171, t172, t173⟩, A170, H⟩ := H
    replace H : (if x169001_1.length < 3518437208883 then (arr_Copy.l0 k1 l0_1 (l0_1.length : Int) (wrap64 (x13_1 + 1)) y165 (x169001_1 ++ [(⟨t171, t172, t173⟩ : S45)])) else (none)) = some (r1, r2) := H
    have A17 := gA A170
    clear A170
    obtain ⟨c18, H⟩ := iS H
    have LMc18 := gA c18
    clear c18
    obtain ⟨y176, hy176⟩ : ∃ y_ : List (S45), y_ = (x169001_1 ++ [(⟨t171, t172, t173⟩ : S45)]) := ⟨_, rfl⟩
    replace H : (arr_Copy.l0 k1 l0_1 (l0_1.length : Int) (wrap64 (x13_1 + 1)) y165 y176) = some (r1, r2) := by first | (rw [hy176]; with_reducible exact H) | (have H2_ := (Option.bind_some _ _).symm.trans H; rw [hy176]; with_reducible exact H2_) | (have H2_ := (Option.bind_some _ _).symm.trans H; with_reducible exact H2_) | with_reducible exact H | (rw [hy176]; exact H) | exact H
    have Ny176 := gA hy176
    clear hy176
    have H' := gA H
    clear H
    have p169 : 0 ≤ (x13_1 : Int) := of_decide_eq_true (by assumption)
    have q169 : x13_1 < (l0_1.length : Int) := of_decide_eq_true (by assumption)
    obtain ⟨ad169, A169_2, c169_2, e169, hx169_0, hx169_1, hx169_2, hl169_2, hi169_2⟩ := at_T45 (Kd.V_reads' HO_11.out).2.2 x13_1 p169 q169
    cases e169
    obtain ⟨ce169, hce169, hMe169, hcc169⟩ := Kd.V_get HO_11.out z45 x13_1 p169 (by first | exact q169 | exact of_decide_eq_true (by assumption) | (have e_ := (Kd.V_reads' HO_11.out).1; omega))
    obtain ⟨ua169_2, uc169_2, rfl, ul169_2, ge169_2⟩ := k45_openF hMe169
    have hv169_2 := hcc169 2 _ rfl
    rw [add_field _ _ 2 (by omega)] at hv169_2
    replace hv169_2 := Option.some.inj (hv169_2.symm.trans hx169_2)
    injection hv169_2 with hva_ hvn_ hvc_
    rw [hva_] at ge169_2
    rw [hvc_] at ul169_2
    have HL169_2 := gA (show Kd.V k25 25 _ w.heap.size _ _ ((rd_T45 l0_1 x13_1).f2) from Kd.V_mk ul169_2 ge169_2)
    clear hva_ hvn_ hvc_ ge169_2 ul169_2 hcc169 hce169
    have HR169_2 := gA hi169_2
    have HC169_2 := gA hl169_2
    clear hi169_2 hl169_2
    replace p169 := eq_true p169
    replace q169 := eq_true q169
    try go_wp2_with (first | ((with_reducible refine gate_dst (N := 5) rfl ?_); refine box_event ?hg (N := 5) ?hd (cs := #[.int .i64 0, .int .i64 0, .slice none 0 0]) (t := 45) ?hr ?_; (case hd => rfl); (case hg => rfl); (case hr => first | (go_simp; done) | (go_simp; rfl)); intro gb170 hg w19 hbox hb; replace HO_11 := gA (Kd.V_below (Kd.V_elderB (gV HO_11) gb170 (Nat.le_of_eq hg.symm)) hb); replace HO_164001 := gA (Kd.V_below (Kd.V_elderB (gV HO_164001) gb170 (Nat.le_of_eq hg.symm)) hb); replace HO_169000 := gA (Kd.R_below (gR HO_169000) hb); replace HO_169001 := gA (Kd.N_below (Kd.N_elderB (gN HO_169001) gb170 (Nat.le_of_eq hg.symm)) hb); replace HL169_2 := gA (Kd.V_below (Kd.V_elderB (gV HL169_2) gb170 (Nat.le_of_eq hg.symm)) hb); replace HR169_2 := gA (Kd.C_below (by repeat (first | (with_reducible exact HR169_2.out) | (with_reducible refine Kd.C_alloc ?_ _) | (with_reducible refine Kd.C_drewN ?_ _) | (with_reducible refine Kd.C_drew ?_) | exact HR169_2.out)) hb); have BK170 := gA (hbox); have GW170 := gA ((by rw [hg]; exact (below_size (gB HB)) : w.heap.size ≤ gb170)); have GE170 := gA ((by rw [hg]; exact (below_size (gB HB)) : w.heap.size ≤ gb170)); replace HB := gA (below_step (gB HB) hb); have NB163_170 := gA ((by rw [hg]; exact Nat.ne_of_lt (blk_lt (gK BK163)) : gb163 ≠ gb170)); have NB170_163 := gA ((by rw [hg]; exact Nat.ne_of_gt (blk_lt (gK BK163)) : gb170 ≠ gb163)); replace BK163 := gA (blk_below (gK BK163) hb); have NB164_170 := gA ((by rw [hg]; exact Nat.ne_of_lt (blk_lt (gK BK164)) : gb164 ≠ gb170)); have NB170_164 := gA ((by rw [hg]; exact Nat.ne_of_gt (blk_lt (gK BK164)) : gb170 ≠ gb164)); replace BK164 := gA (blk_below (gK BK164) hb); have NB168_170 := gA ((by rw [hg]; exact Nat.ne_of_lt (blk_lt (gK BK168)) : gb168 ≠ gb170)); have NB170_168 := gA ((by rw [hg]; exact Nat.ne_of_gt (blk_lt (gK BK168)) : gb170 ≠ gb168)); replace BK168 := gA (blk_below (gK BK168) hb); clear hb hbox hg; have hnb20 := NB170_163.out; have hnc20 := NB163_170.out; have hnb21 := NB170_164.out; have hnc21 := NB164_170.out; have hnb22 := NB170_168.out; have hnc22 := NB168_170.out; obtain ⟨hcz23_0, hcz23_1, hcz23_2, hfz23_0, hfz23_1, hfz23_2⟩ := gz3 BK170))
    have n0_ : Aside0 (Kd.V k45 45 (((w19.setCell ⟨gb170, 0, none⟩ (.int .i64 ((rd_T45 l0_1 x13_1).f0))).setCell ⟨gb170, 1, none⟩ (.int .i64 ((rd_T45 l0_1 x13_1).f1))).setCell ⟨gb170, 2, none⟩ (.slice A169_2 ((rd_T45 l0_1 x13_1).f2).length c169_2)) w.heap.size (fun k_ => (P0_1_ k_ ∨ w.heap.size ≤ k_) ∧ some k_ ≠ (.slice Ao8 y165.length co8 : Value).ownBlock ∧ some k_ ≠ (u169001 : Value).ownBlock ∧ k_ ≠ gb163 ∧ k_ ≠ gb164 ∧ k_ ≠ gb168 ∧ k_ ≠ gb170) (.slice (some ad169) l0_1.length c0_1) l0_1) := ⟨Kd.V_mono (Kd.V_far (p := ⟨gb170, 2, none⟩) (Kd.V_far (p := ⟨gb170, 1, none⟩) (Kd.V_far (p := ⟨gb170, 0, none⟩) (Kd.V_mono HO_11.out (fun k_ hk => (⟨hk, hk.2⟩ : _ ∧ k_ ≠ gb170))) (fun _ hk => hk.2) (.int .i64 ((rd_T45 l0_1 x13_1).f0))) (fun _ hk => hk.2) (.int .i64 ((rd_T45 l0_1 x13_1).f1))) (fun _ hk => hk.2) (.slice A169_2 ((rd_T45 l0_1 x13_1).f2).length c169_2)) (fun _ hk => by first | exact ⟨hk.1.1.1, ⟨hk.1.1.2.1, ⟨hk.1.1.2.2.1, ⟨hk.1.1.2.2.2.1, ⟨hk.1.1.2.2.2.2.1, ⟨hk.1.1.2.2.2.2.2, hk.1.2⟩⟩⟩⟩⟩⟩ | (simp_all; done))⟩
    have n1_ : Aside0 (Kd.V k45 45 (((w19.setCell ⟨gb170, 0, none⟩ (.int .i64 ((rd_T45 l0_1 x13_1).f0))).setCell ⟨gb170, 1, none⟩ (.int .i64 ((rd_T45 l0_1 x13_1).f1))).setCell ⟨gb170, 2, none⟩ (.slice A169_2 ((rd_T45 l0_1 x13_1).f2).length c169_2)) w.heap.size (fun k_ => (P0_1_ k_ ∨ w.heap.size ≤ k_) ∧ some k_ ≠ (.slice Ao8 y165.length co8 : Value).ownBlock ∧ some k_ ≠ (u169001 : Value).ownBlock ∧ k_ ≠ gb163 ∧ k_ ≠ gb164 ∧ k_ ≠ gb168 ∧ k_ ≠ gb170) (.slice (some ad169) l0_1.length c0_1) l0_1) := ⟨Kd.V_mono (Kd.V_far (p := ⟨gb170, 2, none⟩) (Kd.V_far (p := ⟨gb170, 1, none⟩) (Kd.V_far (p := ⟨gb170, 0, none⟩) (Kd.V_mono HO_164001.out (fun k_ hk => (⟨hk, hk.2⟩ : _ ∧ k_ ≠ gb170))) (fun _ hk => hk.2) (.int .i64 ((rd_T45 l0_1 x13_1).f0))) (fun _ hk => hk.2) (.int .i64 ((rd_T45 l0_1 x13_1).f1))) (fun _ hk => hk.2) (.slice A169_2 ((rd_T45 l0_1 x13_1).f2).length c169_2)) (fun _ hk => by first | exact ⟨hk.1.1.1, ⟨hk.1.1.2.1, ⟨hk.1.1.2.2.1, ⟨hk.1.1.2.2.2.1, ⟨hk.1.1.2.2.2.2.1, ⟨hk.1.1.2.2.2.2.2, hk.1.2⟩⟩⟩⟩⟩⟩ | (simp_all; done))⟩
    have n2_ : Aside0 (Kd.R (Kd.int .i64) 3 (((w19.setCell ⟨gb170, 0, none⟩ (.int .i64 ((rd_T45 l0_1 x13_1).f0))).setCell ⟨gb170, 1, none⟩ (.int .i64 ((rd_T45 l0_1 x13_1).f1))).setCell ⟨gb170, 2, none⟩ (.slice A169_2 ((rd_T45 l0_1 x13_1).f2).length c169_2)) w.heap.size (fun k_ => (w.heap.size ≤ k_)) (.slice Ao8 y165.length co8) y165) := ⟨Kd.R_mono (Kd.R_far (p := ⟨gb170, 2, none⟩) (Kd.R_far (p := ⟨gb170, 1, none⟩) (Kd.R_far (p := ⟨gb170, 0, none⟩) (Kd.R_types HO_169000.out BK170.out (by decide)) (fun _ hk => hk.2) (.int .i64 ((rd_T45 l0_1 x13_1).f0))) (fun _ hk => hk.2) (.int .i64 ((rd_T45 l0_1 x13_1).f1))) (fun _ hk => hk.2) (.slice A169_2 ((rd_T45 l0_1 x13_1).f2).length c169_2)) (fun _ hk => hk.1)⟩
    have n3_ : Aside0 (Kd.N k45 45 (((w19.setCell ⟨gb170, 0, none⟩ (.int .i64 ((rd_T45 l0_1 x13_1).f0))).setCell ⟨gb170, 1, none⟩ (.int .i64 ((rd_T45 l0_1 x13_1).f1))).setCell ⟨gb170, 2, none⟩ (.slice A169_2 ((rd_T45 l0_1 x13_1).f2).length c169_2)) w.heap.size (fun k_ => (P0_1_ k_ ∨ w.heap.size ≤ k_) ∧ some k_ ≠ (.slice Ao8 y165.length co8 : Value).ownBlock ∧ k_ ≠ gb163 ∧ k_ ≠ gb164 ∧ k_ ≠ gb168 ∧ k_ ≠ gb170) u169001 x169001_1) := ⟨Kd.N_mono (Kd.N_far (p := ⟨gb170, 2, none⟩) (Kd.N_far (p := ⟨gb170, 1, none⟩) (Kd.N_far (p := ⟨gb170, 0, none⟩) (Kd.N_mono HO_169001.out (fun k_ hk => (⟨hk, hk.2⟩ : _ ∧ k_ ≠ gb170))) (fun _ hk => hk.2) (.int .i64 ((rd_T45 l0_1 x13_1).f0))) (fun _ hk => hk.2) (.int .i64 ((rd_T45 l0_1 x13_1).f1))) (fun _ hk => hk.2) (.slice A169_2 ((rd_T45 l0_1 x13_1).f2).length c169_2)) (fun _ hk => by first | exact ⟨hk.1.1.1, ⟨hk.1.1.2.1, ⟨hk.1.1.2.2.1, ⟨hk.1.1.2.2.2.1, ⟨hk.1.1.2.2.2.2, hk.1.2⟩⟩⟩⟩⟩ | (simp_all; done))⟩
    have n4_ : Aside0 (Kd.V k25 25 (((w19.setCell ⟨gb170, 0, none⟩ (.int .i64 ((rd_T45 l0_1 x13_1).f0))).setCell ⟨gb170, 1, none⟩ (.int .i64 ((rd_T45 l0_1 x13_1).f1))).setCell ⟨gb170, 2, none⟩ (.slice A169_2 ((rd_T45 l0_1 x13_1).f2).length c169_2)) w.heap.size (fun k_ => (P0_1_ k_ ∨ w.heap.size ≤ k_) ∧ some k_ ≠ (.slice Ao8 y165.length co8 : Value).ownBlock ∧ some k_ ≠ (u169001 : Value).ownBlock ∧ k_ ≠ gb163 ∧ k_ ≠ gb164 ∧ k_ ≠ gb168 ∧ k_ ≠ gb170) (.slice A169_2 ((rd_T45 l0_1 x13_1).f2).length c169_2) ((rd_T45 l0_1 x13_1).f2)) := ⟨Kd.V_mono (Kd.V_far (p := ⟨gb170, 2, none⟩) (Kd.V_far (p := ⟨gb170, 1, none⟩) (Kd.V_far (p := ⟨gb170, 0, none⟩) (Kd.V_mono HL169_2.out (fun k_ hk => (⟨hk, hk.2⟩ : _ ∧ k_ ≠ gb170))) (fun _ hk => hk.2) (.int .i64 ((rd_T45 l0_1 x13_1).f0))) (fun _ hk => hk.2) (.int .i64 ((rd_T45 l0_1 x13_1).f1))) (fun _ hk => hk.2) (.slice A169_2 ((rd_T45 l0_1 x13_1).f2).length c169_2)) (fun _ hk => by first | exact ⟨hk.1.1.1, ⟨hk.1.1.2.1, ⟨hk.1.1.2.2.1, ⟨hk.1.1.2.2.2.1, ⟨hk.1.1.2.2.2.2.1, ⟨hk.1.1.2.2.2.2.2, hk.1.2⟩⟩⟩⟩⟩⟩ | (simp_all; done))⟩
    have n5_ : Aside0 ((((w19.setCell ⟨gb170, 0, none⟩ (.int .i64 ((rd_T45 l0_1 x13_1).f0))).setCell ⟨gb170, 1, none⟩ (.int .i64 ((rd_T45 l0_1 x13_1).f1))).setCell ⟨gb170, 2, none⟩ (.slice A169_2 ((rd_T45 l0_1 x13_1).f2).length c169_2)).heap[gb163]? = some (.cells #[.slice A0_0 l0_0.length c0_0, .slice (some ad169) l0_1.length c0_1] 25 (0, 0))) := ⟨by refine blk_far ?_ NB163_170.out _; refine blk_far ?_ NB163_170.out _; refine blk_far ?_ NB163_170.out _; exact gK BK163⟩
    have n6_ : Aside0 ((((w19.setCell ⟨gb170, 0, none⟩ (.int .i64 ((rd_T45 l0_1 x13_1).f0))).setCell ⟨gb170, 1, none⟩ (.int .i64 ((rd_T45 l0_1 x13_1).f1))).setCell ⟨gb170, 2, none⟩ (.slice A169_2 ((rd_T45 l0_1 x13_1).f2).length c169_2)).heap[gb164]? = some (.cells #[.slice none 0 0, .slice none 0 0] 25 (0, 0))) := ⟨by refine blk_far ?_ NB164_170.out _; refine blk_far ?_ NB164_170.out _; refine blk_far ?_ NB164_170.out _; exact gK BK164⟩
    have n7_ : Aside0 ((((w19.setCell ⟨gb170, 0, none⟩ (.int .i64 ((rd_T45 l0_1 x13_1).f0))).setCell ⟨gb170, 1, none⟩ (.int .i64 ((rd_T45 l0_1 x13_1).f1))).setCell ⟨gb170, 2, none⟩ (.slice A169_2 ((rd_T45 l0_1 x13_1).f2).length c169_2)).heap[gb168]? = some (.cells #[.slice Ao8 y165.length co8, u169001] 25 (0, 0))) := ⟨by refine blk_far ?_ NB168_170.out _; refine blk_far ?_ NB168_170.out _; refine blk_far ?_ NB168_170.out _; exact gK BK168⟩
    have n8_ : Aside0 ((((w19.setCell ⟨gb170, 0, none⟩ (.int .i64 ((rd_T45 l0_1 x13_1).f0))).setCell ⟨gb170, 1, none⟩ (.int .i64 ((rd_T45 l0_1 x13_1).f1))).setCell ⟨gb170, 2, none⟩ (.slice A169_2 ((rd_T45 l0_1 x13_1).f2).length c169_2)).heap[gb170]? = some (.cells #[.int .i64 ((rd_T45 l0_1 x13_1).f0), .int .i64 ((rd_T45 l0_1 x13_1).f1), .slice A169_2 ((rd_T45 l0_1 x13_1).f2).length c169_2] 45 (0, 0))) := ⟨by refine blk_put (cs := #[.int .i64 ((rd_T45 l0_1 x13_1).f0), .int .i64 ((rd_T45 l0_1 x13_1).f1), .slice none 0 0]) ?_ 2 _ rfl; refine blk_put (cs := #[.int .i64 ((rd_T45 l0_1 x13_1).f0), .int .i64 0, .slice none 0 0]) ?_ 1 _ rfl; refine blk_put (cs := #[.int .i64 0, .int .i64 0, .slice none 0 0]) ?_ 0 _ rfl; exact gK BK170⟩
    have n9_ : Aside0 (Below w.heap.size w (((w19.setCell ⟨gb170, 0, none⟩ (.int .i64 ((rd_T45 l0_1 x13_1).f0))).setCell ⟨gb170, 1, none⟩ (.int .i64 ((rd_T45 l0_1 x13_1).f1))).setCell ⟨gb170, 2, none⟩ (.slice A169_2 ((rd_T45 l0_1 x13_1).f2).length c169_2))) := ⟨by repeat first | exact gB HB | refine below_set ?_ GE163.out | refine below_set ?_ GE164.out | refine below_set ?_ GE168.out | refine below_set ?_ GE170.out⟩
    (try clear HO_11)
    generalize (((w19.setCell ⟨gb170, 0, none⟩ (.int .i64 ((rd_T45 l0_1 x13_1).f0))).setCell ⟨gb170, 1, none⟩ (.int .i64 ((rd_T45 l0_1 x13_1).f1))).setCell ⟨gb170, 2, none⟩ (.slice A169_2 ((rd_T45 l0_1 x13_1).f2).length c169_2)) = w24 at n0_ n1_ n2_ n3_ n4_ n5_ n6_ n7_ n8_ n9_ ⊢
    have HO_11 := n0_; have HO_164001 := n1_
    have HO_169000 := n2_; have HO_169001 := n3_
    have HL169_2 := n4_; have BK163 := n5_
    have BK164 := n6_; have BK168 := n7_
    have BK170 := n8_; have HB := n9_
    clear n0_ n1_ n2_ n3_ n4_ n5_ n6_ n7_ n8_ n9_
    replace HO_11 := gA (Kd.V_drew HO_11.out); replace HO_164001 := gA (Kd.V_drew HO_164001.out); replace HO_169000 := gA (Kd.R_drew HO_169000.out); replace HO_169001 := gA (Kd.N_drew HO_169001.out); replace HL169_2 := gA (Kd.V_drew HL169_2.out); replace BK163 := gA (blk_drew BK163.out); replace BK164 := gA (blk_drew BK164.out); replace BK168 := gA (blk_drew BK168.out); replace BK170 := gA (blk_drew BK170.out); replace HB := gA (below_drew1 HB.out)
    refine start_ (n := 8) (S := fun w' => w'.cell? ⟨gb168, 0, none⟩ = some (.slice Ao8 y165.length co8) ∧ w'.cell? ⟨gb168, 1, none⟩ = some (u169001) ∧ w'.cell? ⟨gb170, 0, none⟩ = some (.int .i64 ((rd_T45 l0_1 x13_1).f0)) ∧ w'.cell? ⟨gb170, 1, none⟩ = some (.int .i64 ((rd_T45 l0_1 x13_1).f1)) ∧ w'.cell? ⟨gb170, 2, none⟩ = some (.slice A169_2 ((rd_T45 l0_1 x13_1).f2).length c169_2)) (ds := [7]) #[false, false, false, false, false, false, false, false] (by kernel_rfl) rfl rfl ⟨(blk_cell BK168.out 0).trans rfl, (blk_cell BK168.out 1).trans rfl, (blk_cell BK170.out 0).trans rfl, (blk_cell BK170.out 1).trans rfl, (blk_cell BK170.out 2).trans rfl⟩ (fun hHeld => ?_); refine with_tabW arr_Copy.tab5 arr_Copy.bits5 (fun HT_ HW_ => ?_)
    generalize w24.drew = w25 at HO_11 HO_164001 HO_169000 HO_169001 HL169_2 BK163 BK164 BK168 BK170 HB hHeld ⊢
    refine pure_ (i := 0) (N := some 17) (v := ?_) (a' := ?_) #[true, false, false, false, false, false, false, false] rfl rfl (any_of HT_.out (by kernel_rfl)) (fun _ _ _ h => h) (Or.inl ⟨by rfl, ?_⟩) ?_ ?_; rotate_left
    ·intro w'; go_simp; with_reducible rfl
    rotate_left
    ·simp only [Act.put, List.setIfInBounds_toArray, List.set_cons_zero, List.set_cons_succ, i64_w, i32_w]; rfl
    refine take_ (i := 1) (N := some 18) (v := ?_) (a' := ?_) #[true, true, false, false, false, false, false, false] rfl rfl (take_ofW HT_.out HW_.out (by kernel_rfl)) (fun _ _ _ h => h) (Or.inl ⟨by rfl, ?_⟩) hHeld ?_ ?_; rotate_left
    ·rintro w' ⟨s0, s1, s2, s3, s4⟩; go_simp; with_reducible rfl
    rotate_left
    ·simp only [Act.put, List.setIfInBounds_toArray, List.set_cons_zero, List.set_cons_succ, i64_w, i32_w]; rfl
    refine take_ (i := 2) (N := some 19) (v := ?_) (a' := ?_) #[true, true, true, false, false, false, false, false] rfl rfl (take_ofW HT_.out HW_.out (by kernel_rfl)) (fun _ _ _ h => h) (Or.inl ⟨by rfl, ?_⟩) hHeld ?_ ?_; rotate_left
    ·rintro w' ⟨s0, s1, s2, s3, s4⟩; go_simp; with_reducible rfl
    rotate_left
    ·simp only [Act.put, List.setIfInBounds_toArray, List.set_cons_zero, List.set_cons_succ, i64_w, i32_w]; rfl
    refine one_ (i := 3) (N := some 20) #[true, true, true, true, false, false, false, false] rfl rfl (one_of HT_.out (by kernel_rfl)) (by decide) (fun K hK => ?_)
    refine goes_ Try.func39 (by kernel_rfl) rfl #[.agg #[.int .i64 ((rd_T45 l0_1 x13_1).f0), .int .i64 ((rd_T45 l0_1 x13_1).f1), .slice A169_2 ((rd_T45 l0_1 x13_1).f2).length c169_2]] (by rfl) rfl rfl (by (try simp only [List.map_toArray, List.map_cons, List.map_nil]); first | done | rfl | (simp only [List.length_drop, List.length_take]; rfl)) ?_
    with_reducible refine (ih_arr_copied k1 (by have := HK1.out; omega) ((rd_T45 l0_1 x13_1).f0) ((rd_T45 l0_1 x13_1).f1) (fun k_ => ((P0_1_ k_ ∨ w.heap.size ≤ k_) ∧ (some k_ ≠ (.slice Ao8 y165.length co8 : Value).ownBlock ∧ (some k_ ≠ (u169001 : Value).ownBlock ∧ (k_ ≠ gb163 ∧ (k_ ≠ gb164 ∧ (k_ ≠ gb168 ∧ k_ ≠ gb170))))))) _ _ ((rd_T45 l0_1 x13_1).f2) t171 t172 t173 _ ?side1 A17.out).mono ?_
    (case side1 => exact HL169_2.out)
    rintro e w26 ⟨v174, rfl, ho0, hb⟩
    refine ⟨_, rfl, ?_⟩
    replace HO_11 := gA (Kd.V_below (gV HO_11) hb); replace HO_164001 := gA (Kd.V_below (gV HO_164001) hb); replace HL169_2 := gA (Kd.V_below (gV HL169_2) hb); have HO175 := gA (Kd.V_lower (Kd.V_mono (ok' := fun k_ => (P0_1_ k_ ∨ w.heap.size ≤ k_) ∧ some k_ ≠ (.slice Ao8 y165.length co8 : Value).ownBlock ∧ some k_ ≠ (u169001 : Value).ownBlock ∧ k_ ≠ gb163 ∧ k_ ≠ gb164 ∧ k_ ≠ gb168 ∧ k_ ≠ gb170) ho0 (fun k_ hk_ => ⟨Or.elim hk_ (fun hs_ => hs_.1) (fun hn_ => (.inr (Nat.le_trans (below_size (gB HB)) hn_))), Or.elim hk_ (fun hs_ => hs_.2.1) (fun hn_ => (Kd.fresh' (Kd.R_lt (gR HO_169000)) k_ hn_)), Or.elim hk_ (fun hs_ => hs_.2.2.1) (fun hn_ => (Kd.fresh' (Kd.N_lt (gN HO_169001)) k_ hn_)), Or.elim hk_ (fun hs_ => hs_.2.2.2.1) (fun hn_ => (Kd.freshB (gK BK163) k_ hn_)), Or.elim hk_ (fun hs_ => hs_.2.2.2.2.1) (fun hn_ => (Kd.freshB (gK BK164) k_ hn_)), Or.elim hk_ (fun hs_ => hs_.2.2.2.2.2.1) (fun hn_ => (Kd.freshB (gK BK168) k_ hn_)), Or.elim hk_ (fun hs_ => hs_.2.2.2.2.2.2) (fun hn_ => (Kd.freshB (gK BK170) k_ hn_))⟩)) (below_size (gB HB))); replace HO_169000 := gA (Kd.R_below (gR HO_169000) hb); replace HO_169001 := gA (Kd.N_below (gN HO_169001) hb); replace BK163 := gA (blk_below (gK BK163) hb); replace BK164 := gA (blk_below (gK BK164) hb); replace BK168 := gA (blk_below (gK BK168) hb); replace BK170 := gA (blk_below (gK BK170) hb); replace HB := gA (below_step (gB HB) hb); (try clear hb); (try clear ho0)
    obtain ⟨Ao28, co28, eo28⟩ := Kd.V_slice HO175.out
    (first | subst eo28 | (injection eo28 with f1_ f2_ f3_; have f4_ := f1_.symm; have f5_ := f3_.symm; clear f1_ f2_ f3_; subst f4_; subst f5_))
    refine hK.out _ _ ⟨(blk_cell BK168.out 0).trans rfl, (blk_cell BK168.out 1).trans rfl, (blk_cell BK170.out 0).trans rfl, (blk_cell BK170.out 1).trans rfl, (blk_cell BK170.out 2).trans rfl⟩ (fun hHeld => ?_); clear hK K
    refine norm_ (a' := ?_) ?_ ?_; rotate_left
    ·show Act.put _ (some 20) _ = _
     simp only [Act.put, List.setIfInBounds_toArray, List.set_cons_zero, List.set_cons_succ, i64_w, i32_w]; rfl
    refine one_ (i := 4) (N := some 21) #[true, true, true, true, true, false, false, false] rfl rfl (one_of HT_.out (by kernel_rfl)) (by decide) (fun K hK => ?_)
    refine value_ (w1 := ?_) (v := ?_) (by rfl) rfl ?_ ?_
    rotate_left 2
    ·go_simp
     constructor
     ·rfl
     ·rfl
    refine hK.out _ _ ⟨(blk_cell (blk_alloc BK168.out _) 0).trans rfl, (blk_cell (blk_alloc BK168.out _) 1).trans rfl, (blk_cell (blk_alloc BK170.out _) 0).trans rfl, (blk_cell (blk_alloc BK170.out _) 1).trans rfl, (blk_cell (blk_alloc BK170.out _) 2).trans rfl⟩ (fun hHeld => ?_); clear hK K
    refine norm_ (a' := ?_) ?_ ?_; rotate_left
    ·show Act.put _ (some 21) _ = _
     simp only [Act.put, List.setIfInBounds_toArray, List.set_cons_zero, List.set_cons_succ, i64_w, i32_w]; rfl
    refine one_ (i := 5) (N := some 22) #[true, true, true, true, true, true, false, false] rfl rfl (one_of HT_.out (by kernel_rfl)) (by decide) (fun K hK => ?_)
    refine Kd.N_append_step k45 (w0 := w) w.heap.size (by rfl) (.tmp 18) (.tmp 21) 23 45 (.agg #[(.int .i64 0), (.int .i64 0), (.slice none 0 0)]) 40 rfl Try.underlying23 info45 rfl (by decide) (by omega) u169001 x169001_1 (⟨t171, t172, t173⟩ : S45) [.int .i64 t171, .int .i64 t172, .slice Ao28 t173.length co28] (fun k_ => (P0_1_ k_ ∨ w.heap.size ≤ k_) ∧ some k_ ≠ (.slice Ao8 y165.length co8 : Value).ownBlock ∧ k_ ≠ gb163 ∧ k_ ≠ gb164 ∧ k_ ≠ gb168 ∧ k_ ≠ gb170) (fun k_ => ((fun k_ => (P0_1_ k_ ∨ w.heap.size ≤ k_) ∧ some k_ ≠ (.slice Ao8 y165.length co8 : Value).ownBlock ∧ k_ ≠ gb163 ∧ k_ ≠ gb164 ∧ k_ ≠ gb168 ∧ k_ ≠ gb170)) k_ ∧ some k_ ≠ (u169001 : Value).ownBlock) rfl rfl ?aP (fun _ hk => hk) ?aF ?aO ?aB ?aS ?aL ?_
    (case aP => exact (k45_mkF _ _ (⟨t171, t172, t173⟩ : S45) (Kd.V_reads' (Kd.V_mono (ok' := (fun k_ => ((fun k_ => (P0_1_ k_ ∨ w.heap.size ≤ k_) ∧ some k_ ≠ (.slice Ao8 y165.length co8 : Value).ownBlock ∧ k_ ≠ gb163 ∧ k_ ≠ gb164 ∧ k_ ≠ gb168 ∧ k_ ≠ gb170)) k_ ∧ some k_ ≠ (u169001 : Value).ownBlock)) (HO175.out) (fun k_ hk => ⟨⟨hk.1, ⟨hk.2.1, ⟨hk.2.2.2.1, ⟨hk.2.2.2.2.1, ⟨hk.2.2.2.2.2.1, hk.2.2.2.2.2.2⟩⟩⟩⟩⟩, hk.2.2.1⟩))).2.1 (Kd.V_F (Kd.V_mono (ok' := (fun k_ => ((fun k_ => (P0_1_ k_ ∨ w.heap.size ≤ k_) ∧ some k_ ≠ (.slice Ao8 y165.length co8 : Value).ownBlock ∧ k_ ≠ gb163 ∧ k_ ≠ gb164 ∧ k_ ≠ gb168 ∧ k_ ≠ gb170)) k_ ∧ some k_ ≠ (u169001 : Value).ownBlock)) (HO175.out) (fun k_ hk => ⟨⟨hk.1, ⟨hk.2.1, ⟨hk.2.2.2.1, ⟨hk.2.2.2.2.1, ⟨hk.2.2.2.2.2.1, hk.2.2.2.2.2.2⟩⟩⟩⟩⟩, hk.2.2.1⟩)))))
    (case aB => exact (gB HB))
    (case aF => exact (fun k_ hk => ⟨(.inr (Nat.le_trans (below_size (gB HB)) hk)), Kd.fresh' (Kd.R_lt (gR HO_169000)) k_ hk, Kd.freshB (gK BK163) k_ hk, Kd.freshB (gK BK164) k_ hk, Kd.freshB (gK BK168) k_ hk, Kd.freshB (gK BK170) k_ hk⟩))
    (case aO => exact (gN HO_169001))
    (case aS => exact (below_size (gB HB)))
    (case aL => have := LMc18.out; omega)
    intro v177 w27 ho hb hg hat
    rw [← Ny176.out] at ho
    replace HO_11 := gA (Kd.V_afterv (ok := (fun k_ => (P0_1_ k_ ∨ w.heap.size ≤ k_) ∧ some k_ ≠ (.slice Ao8 y165.length co8 : Value).ownBlock ∧ k_ ≠ gb163 ∧ k_ ≠ gb164 ∧ k_ ≠ gb168 ∧ k_ ≠ gb170)) (Kd.V_mono HO_11.out (fun _ hk => ⟨⟨hk.1, ⟨hk.2.1, ⟨hk.2.2.2.1, ⟨hk.2.2.2.2.1, ⟨hk.2.2.2.2.2.1, hk.2.2.2.2.2.2⟩⟩⟩⟩⟩, hk.2.2.1⟩)) hg hat); replace HO_164001 := gA (Kd.V_afterv (ok := (fun k_ => (P0_1_ k_ ∨ w.heap.size ≤ k_) ∧ some k_ ≠ (.slice Ao8 y165.length co8 : Value).ownBlock ∧ k_ ≠ gb163 ∧ k_ ≠ gb164 ∧ k_ ≠ gb168 ∧ k_ ≠ gb170)) (Kd.V_mono HO_164001.out (fun _ hk => ⟨⟨hk.1, ⟨hk.2.1, ⟨hk.2.2.2.1, ⟨hk.2.2.2.2.1, ⟨hk.2.2.2.2.2.1, hk.2.2.2.2.2.2⟩⟩⟩⟩⟩, hk.2.2.1⟩)) hg hat); replace HO_169000 := gA (Kd.R_over' (gR HO_169000) (Kd.N_typed (gN HO_169001)) (by decide) hg); replace BK163 := gA (blk_grown (gK BK163) hg (Kd.N_ne HO_169001.out BK163.out (by decide))); replace BK164 := gA (blk_grown (gK BK164) hg (Kd.N_ne HO_169001.out BK164.out (by decide))); replace BK168 := gA (blk_grown (gK BK168) hg (Kd.N_ne HO_169001.out BK168.out (by decide))); replace HL169_2 := gA (Kd.V_afterv (ok := (fun k_ => (P0_1_ k_ ∨ w.heap.size ≤ k_) ∧ some k_ ≠ (.slice Ao8 y165.length co8 : Value).ownBlock ∧ k_ ≠ gb163 ∧ k_ ≠ gb164 ∧ k_ ≠ gb168 ∧ k_ ≠ gb170)) (Kd.V_mono HL169_2.out (fun _ hk => ⟨⟨hk.1, ⟨hk.2.1, ⟨hk.2.2.2.1, ⟨hk.2.2.2.2.1, ⟨hk.2.2.2.2.2.1, hk.2.2.2.2.2.2⟩⟩⟩⟩⟩, hk.2.2.1⟩)) hg hat); replace BK170 := gA (blk_grown (gK BK170) hg (Kd.N_away HO_169001.out (fun _ hk => hk.2.2.2.2.2))); replace HO175 := gA (Kd.V_afterv (ok := (fun k_ => (P0_1_ k_ ∨ w.heap.size ≤ k_) ∧ some k_ ≠ (.slice Ao8 y165.length co8 : Value).ownBlock ∧ k_ ≠ gb163 ∧ k_ ≠ gb164 ∧ k_ ≠ gb168 ∧ k_ ≠ gb170)) (Kd.V_mono HO175.out (fun _ hk => ⟨⟨hk.1, ⟨hk.2.1, ⟨hk.2.2.2.1, ⟨hk.2.2.2.2.1, ⟨hk.2.2.2.2.2.1, hk.2.2.2.2.2.2⟩⟩⟩⟩⟩, hk.2.2.1⟩)) hg hat); replace HB := gA (hb); have HO178 := gA (ho); clear HO_169001 ho hb hg hat
    obtain ⟨Ao29, co29, eo29⟩ := Kd.N_slice HO178.out
    (first | subst eo29 | (injection eo29 with f1_ f2_ f3_; have f4_ := f1_.symm; have f5_ := f3_.symm; clear f1_ f2_ f3_; subst f4_; subst f5_))
    refine hK.out _ _ ⟨(blk_cell BK168.out 0).trans rfl, (blk_cell BK168.out 1).trans rfl, (blk_cell BK170.out 0).trans rfl, (blk_cell BK170.out 1).trans rfl, (blk_cell BK170.out 2).trans rfl⟩ (fun hHeld => ?_); clear hK K
    refine norm_ (a' := ?_) ?_ ?_; rotate_left
    ·show Act.put _ (some 22) _ = _
     simp only [Act.put, List.setIfInBounds_toArray, List.set_cons_zero, List.set_cons_succ, i64_w, i32_w]; rfl
    refine pure_ (i := 6) (N := some 23) (v := ?_) (a' := ?_) #[true, true, true, true, true, true, true, false] rfl rfl (any_of HT_.out (by kernel_rfl)) (fun _ _ _ h => h) (Or.inl ⟨by rfl, ?_⟩) ?_ ?_; rotate_left
    ·intro w'; go_simp; with_reducible rfl
    rotate_left
    ·simp only [Act.put, List.setIfInBounds_toArray, List.set_cons_zero, List.set_cons_succ, i64_w, i32_w]; rfl
    refine last_ (i := 7) (N := none) #[true, true, true, true, true, true, true, true] rfl rfl (one_of HT_.out (by kernel_rfl)) (by decide) (fun K hK => ?_)
    have hs30 := gz BK168 1 rfl
    have hfs30 := blk_frozen BK168.out 1
    have hns30_0 := NB163_168.out
    have hns30_1 := NB164_168.out
    have hns30_3 := NB170_168.out
    have hms30_0 := NB168_163.out
    have hms30_1 := NB168_164.out
    have hms30_3 := NB168_170.out
    refine skip_ (w1 := ?_) (by rfl) rfl ?_ ?_; rotate_left
    ·go_simp; rfl
    refine hK.out _ _ ?_; clear hK K
    refine done_ (done_of HT_.out (by kernel_rfl)) ?_
    try go_wp2
    go_roundg k1
    case measure => have := HK1.out; omega
    case rel => exact ⟨(wrap64 (x13_1 + 1)), (y176), (.slice Ao29 y176.length co29), (rfl), H', ⟨by have := HK1.out; omega⟩, ⟨Kd.V_mono (Kd.V_far (p := ⟨gb168, 1, none⟩) (Kd.V_mono HO_11.out (fun k_ hk => (⟨hk, hk.1.2.2.2.2.1⟩ : _ ∧ k_ ≠ gb168))) (fun _ hk => hk.2) (.slice Ao29 y176.length co29)) (fun _ hk => by first | exact ⟨hk.1.1.1, ⟨hk.1.1.2.1, ⟨hk.1.2, ⟨hk.1.1.2.2.1, ⟨hk.1.1.2.2.2.1, hk.1.1.2.2.2.2.1⟩⟩⟩⟩⟩ | (simp_all; done))⟩, ⟨Kd.V_mono (Kd.V_far (p := ⟨gb168, 1, none⟩) (Kd.V_mono HO_164001.out (fun k_ hk => (⟨hk, hk.1.2.2.2.2.1⟩ : _ ∧ k_ ≠ gb168))) (fun _ hk => hk.2) (.slice Ao29 y176.length co29)) (fun _ hk => by first | exact ⟨hk.1.1.1, ⟨hk.1.1.2.1, ⟨hk.1.2, ⟨hk.1.1.2.2.1, ⟨hk.1.1.2.2.2.1, hk.1.1.2.2.2.2.1⟩⟩⟩⟩⟩ | (simp_all; done))⟩, ⟨Kd.R_mono (Kd.R_far (p := ⟨gb168, 1, none⟩) (Kd.R_types HO_169000.out BK168.out (by decide)) (fun _ hk => hk.2) (.slice Ao29 y176.length co29)) (fun _ hk => hk.1)⟩, ⟨Kd.N_mono (Kd.N_far (p := ⟨gb168, 1, none⟩) (Kd.N_mono HO178.out (fun k_ hk => (⟨hk, hk.2.2.2.2.1⟩ : _ ∧ k_ ≠ gb168))) (fun _ hk => hk.2) (.slice Ao29 y176.length co29)) (fun _ hk => ⟨hk.1.1, ⟨hk.1.2.1, ⟨hk.1.2.2.1, ⟨hk.1.2.2.2.1, hk.1.2.2.2.2.1⟩⟩⟩⟩)⟩, ⟨by refine blk_far ?_ NB163_168.out _; exact gK BK163⟩, ⟨by refine blk_far ?_ NB164_168.out _; exact gK BK164⟩, ⟨by refine blk_put (cs := #[.slice Ao8 y165.length co8, u169001]) ?_ 1 _ rfl; exact gK BK168⟩, ⟨by repeat first | exact gB HB | refine below_set ?_ GE163.out | refine below_set ?_ GE164.out | refine below_set ?_ GE168.out | refine below_set ?_ GE170.out⟩⟩
   ·rw [if_neg c14] at H
    have c14b0 := decide_eq_false c14
    clear c14
    simp only [Option.some.injEq, Prod.mk.injEq] at H
    obtain ⟨rfl, rfl⟩ := H
    have hnb31 := NB168_163.out
    have hnc31 := NB163_168.out
    have hnb32 := NB168_164.out
    have hnc32 := NB164_168.out
    obtain ⟨hcz33_0, hcz33_1, hfz33_0, hfz33_1⟩ := gz2 BK168
    have hnb34 := NB164_163.out
    have hnc34 := NB163_164.out
    obtain ⟨hcz35_0, hcz35_1, hfz35_0, hfz35_1⟩ := gz2 BK164
    obtain ⟨Ao36, co36, eo36⟩ := Kd.N_slice HO_169001.out
    subst eo36
    go_wp2
    refine bodyPost_ret (results_cell_row rfl _ _ gb164 25 #[.slice Ao8 y165.length co8, .slice Ao36 x169001_1.length co36] (0, 0) _ rfl (by refine blk_put (cs := #[.slice Ao8 y165.length co8, .slice none 0 0]) ?_ 1 _ rfl; refine blk_put (cs := #[.slice none 0 0, .slice none 0 0]) ?_ 0 _ rfl; exact gK BK164) Try.underlying25 rfl (by kernel_rfl)) rfl ?_
    exact ⟨_, _, rfl, Kd.R_mono (Kd.R_far (p := ⟨gb164, 1, none⟩) (Kd.R_far (p := ⟨gb164, 0, none⟩) (Kd.R_types HO_169000.out BK164.out (by decide)) (fun _ hk => hk.2) (.slice Ao8 y165.length co8)) (fun _ hk => hk.2) (.slice Ao36 x169001_1.length co36)) (fun _ hk => hk.1), Kd.N_mono (Kd.N_far (p := ⟨gb164, 1, none⟩) (Kd.N_far (p := ⟨gb164, 0, none⟩) (Kd.N_mono HO_169001.out (fun k_ hk => (⟨hk, hk.2.2.2.1⟩ : _ ∧ k_ ≠ gb164))) (fun _ hk => hk.2) (.slice Ao8 y165.length co8)) (fun _ hk => hk.2) (.slice Ao36 x169001_1.length co36)) (fun _ hk => ⟨hk.1.1, hk.1.2.1⟩), by repeat first | exact gB HB | refine below_set ?_ GE163.out | refine below_set ?_ GE164.out | refine below_set ?_ GE168.out⟩
theorem scc39.calls (k : Nat) : (∀ (a0_0 : Int) (a0_1 : Int) (P0_2_ : Nat → Prop) (A0_2 : Option Addr) (c0_2 : Nat) (l0_2 : List (S25)) (r1 : Int) (r2 : Int) (r3 : List (S25)) (w : World) (hs0_2 : Kd.V k25 25 w w.heap.size (fun k_ => P0_2_ k_) (.slice A0_2 l0_2.length c0_2) l0_2) (h : arr_copied.f k a0_0 a0_1 l0_2 = some (r1, r2, r3)),
  Calls Try.prog 39 #[.agg #[.int .i64 a0_0, .int .i64 a0_1, .slice A0_2 l0_2.length c0_2]] w fun e w' => ∃ v2_ : Value, e = .returned (.agg #[.int .i64 r1, .int .i64 r2, v2_]) ∧ Kd.V k25 25 w' w.heap.size (fun k_ => (P0_2_ k_ ∨ w.heap.size ≤ k_)) v2_ r3 ∧ Below w.heap.size w w') ∧ (∀ (A0_0 : Option Addr) (c0_0 : Nat) (l0_0 : List Int) (P0_1_ : Nat → Prop) (A0_1 : Option Addr) (c0_1 : Nat) (l0_1 : List (S45)) (r1 : List Int) (r2 : List (S45)) (w : World) (hr0_0 : Kd.C (Kd.int .i64) w A0_0 l0_0.length l0_0) (hc0_0 : l0_0.length ≤ c0_0) (hs0_1 : Kd.V k45 45 w w.heap.size (fun k_ => P0_1_ k_) (.slice A0_1 l0_1.length c0_1) l0_1) (h : arr_Copy.f k l0_0 l0_1 = some (r1, r2)),
  Calls Try.prog 20 #[.agg #[.slice A0_0 l0_0.length c0_0, .slice A0_1 l0_1.length c0_1]] w fun e w' => ∃ v0_ v1_ : Value, e = .returned (.agg #[v0_, v1_]) ∧ Kd.R (Kd.int .i64) 3 w' w.heap.size (fun k_ => (w.heap.size ≤ k_)) v0_ r1 ∧ Kd.N k45 45 w' w.heap.size (fun k_ => (P0_1_ k_ ∨ w.heap.size ≤ k_) ∧ some k_ ≠ (v0_ : Value).ownBlock) v1_ r2 ∧ Below w.heap.size w w') := by
 induction k using Nat.strongRecOn with
 | _ k ih =>
 exact ⟨arr_copied.step k (fun k_ h_ => (ih k_ h_).1) (fun k_ h_ => (ih k_ h_).2), arr_Copy.step k (fun k_ h_ => (ih k_ h_).1) (fun k_ h_ => (ih k_ h_).2)⟩
theorem arr_copied.calls (k : Nat) : ∀ (a0_0 : Int) (a0_1 : Int) (P0_2_ : Nat → Prop) (A0_2 : Option Addr) (c0_2 : Nat) (l0_2 : List (S25)) (r1 : Int) (r2 : Int) (r3 : List (S25)) (w : World) (hs0_2 : Kd.V k25 25 w w.heap.size (fun k_ => P0_2_ k_) (.slice A0_2 l0_2.length c0_2) l0_2) (h : arr_copied.f k a0_0 a0_1 l0_2 = some (r1, r2, r3)),
  Calls Try.prog 39 #[.agg #[.int .i64 a0_0, .int .i64 a0_1, .slice A0_2 l0_2.length c0_2]] w fun e w' => ∃ v2_ : Value, e = .returned (.agg #[.int .i64 r1, .int .i64 r2, v2_]) ∧ Kd.V k25 25 w' w.heap.size (fun k_ => (P0_2_ k_ ∨ w.heap.size ≤ k_)) v2_ r3 ∧ Below w.heap.size w w' := (scc39.calls k).1
theorem arr_Copy.calls (k : Nat) : ∀ (A0_0 : Option Addr) (c0_0 : Nat) (l0_0 : List Int) (P0_1_ : Nat → Prop) (A0_1 : Option Addr) (c0_1 : Nat) (l0_1 : List (S45)) (r1 : List Int) (r2 : List (S45)) (w : World) (hr0_0 : Kd.C (Kd.int .i64) w A0_0 l0_0.length l0_0) (hc0_0 : l0_0.length ≤ c0_0) (hs0_1 : Kd.V k45 45 w w.heap.size (fun k_ => P0_1_ k_) (.slice A0_1 l0_1.length c0_1) l0_1) (h : arr_Copy.f k l0_0 l0_1 = some (r1, r2)),
  Calls Try.prog 20 #[.agg #[.slice A0_0 l0_0.length c0_0, .slice A0_1 l0_1.length c0_1]] w fun e w' => ∃ v0_ v1_ : Value, e = .returned (.agg #[v0_, v1_]) ∧ Kd.R (Kd.int .i64) 3 w' w.heap.size (fun k_ => (w.heap.size ≤ k_)) v0_ r1 ∧ Kd.N k45 45 w' w.heap.size (fun k_ => (P0_1_ k_ ∨ w.heap.size ≤ k_) ∧ some k_ ≠ (v0_ : Value).ownBlock) v1_ r2 ∧ Below w.heap.size w w' := (scc39.calls k).2
def pick_listed.f (l0_0 : List Int) (l0_1 : List (S45)) : Option (List Int × (List (S45))) := if (l0_0.length : Int) = 0 then (none) else (some (l0_0, l0_1))
set_option maxHeartbeats 8000000 in
set_option maxRecDepth 100000 in
theorem pick_listed.calls (P0_0_ : Nat → Prop) (A0_0 : Option Addr) (c0_0 : Nat) (l0_0 : List Int) (P0_1_ : Nat → Prop) (A0_1 : Option Addr) (c0_1 : Nat) (l0_1 : List (S45)) (r1 : List Int) (r2 : List (S45)) (w : World) (hs0_0 : Kd.V (Kd.int .i64) 3 w w.heap.size (fun k_ => P0_0_ k_) (.slice A0_0 l0_0.length c0_0) l0_0) (hs0_1 : Kd.V k45 45 w w.heap.size (fun k_ => P0_1_ k_) (.slice A0_1 l0_1.length c0_1) l0_1) (h : pick_listed.f l0_0 l0_1 = some (r1, r2)) :
  Calls Try.prog 43 #[.agg #[.slice A0_0 l0_0.length c0_0, .slice A0_1 l0_1.length c0_1]] w fun e w' => ∃ v0_ v1_ : Value, e = .returned (.agg #[v0_, v1_]) ∧ Kd.V (Kd.int .i64) 3 w' w.heap.size (fun k_ => ((P0_0_ k_ ∨ P0_1_ k_) ∨ w.heap.size ≤ k_)) v0_ r1 ∧ Kd.V k45 45 w' w.heap.size (fun k_ => ((P0_0_ k_ ∨ P0_1_ k_) ∨ w.heap.size ≤ k_)) v1_ r2 ∧ Below w.heap.size w w' := by
 have hu25 := Try.underlying25
 have HO0_0 := gA (show Kd.V (Kd.int .i64) 3 w w.heap.size (fun k_ => ((P0_0_ k_ ∨ P0_1_ k_) ∨ w.heap.size ≤ k_)) (.slice A0_0 l0_0.length c0_0) l0_0 from Kd.V_mono hs0_0 (fun k_ hk => .inl (.inl hk)))
 have HO0_1 := gA (show Kd.V k45 45 w w.heap.size (fun k_ => ((P0_0_ k_ ∨ P0_1_ k_) ∨ w.heap.size ≤ k_)) (.slice A0_1 l0_1.length c0_1) l0_1 from Kd.V_mono hs0_1 (fun k_ hk => .inl (.inr hk)))
 have HB := gA (Below.refl w.heap.size w)
 have H : (if (l0_0.length : Int) = 0 then (none) else (some (l0_0, l0_1))) = some (r1, r2) := h
 clear h
 obtain ⟨c2, H⟩ := iN H
 have c2b0 : ((l0_0.length : Int) == 0) = false := beq_eq_false_iff_ne.mpr c2
 have c2b1 : ((l0_0.length : Int) != 0) = true := bne_iff_ne.mpr c2
 have c2b2 : ¬ (l0_0 = []) := fun h_ => c2 (by rw [h_]; rfl)
 simp only [Option.some.injEq, Prod.mk.injEq] at H
 obtain ⟨rfl, rfl⟩ := H
 go_enter Try.func43, Try.ntmps43
 go_wp2_with (first | ((with_reducible refine gate_dst (N := 1) rfl ?_); refine box_event ?hg (N := 1) ?hd (cs := #[.slice A0_0 l0_0.length c0_0, .slice A0_1 l0_1.length c0_1]) (t := 25) ?hr ?_; (case hd => rfl); (case hg => rfl); (case hr => first | (go_simp; done) | (go_simp; rfl)); intro gb179 hg w3 hbox hb; replace HO0_0 := gA (Kd.V_below (Kd.V_elderB (gV HO0_0) gb179 (Nat.le_of_eq hg.symm)) hb); replace HO0_1 := gA (Kd.V_below (Kd.V_elderB (gV HO0_1) gb179 (Nat.le_of_eq hg.symm)) hb); have BK179 := gA (hbox); have GW179 := gA ((by rw [hg]; exact (below_size (gB HB)) : w.heap.size ≤ gb179)); have GE179 := gA ((by rw [hg]; exact (below_size (gB HB)) : w.heap.size ≤ gb179)); replace HB := gA (below_step (gB HB) hb); clear hb hbox hg) | ((with_reducible refine gate_dst (N := 2) rfl ?_); refine box_event ?hg (N := 2) ?hd (cs := #[.slice none 0 0, .slice none 0 0]) (t := 25) ?hr ?_; (case hd => rfl); (case hg => rfl); (case hr => first | (go_simp; done) | (go_simp; rfl)); intro gb180 hg w4 hbox hb; replace HO0_0 := gA (Kd.V_below (Kd.V_elderB (gV HO0_0) gb180 (Nat.le_of_eq hg.symm)) hb); replace HO0_1 := gA (Kd.V_below (Kd.V_elderB (gV HO0_1) gb180 (Nat.le_of_eq hg.symm)) hb); have BK180 := gA (hbox); have GW180 := gA ((by rw [hg]; exact (below_size (gB HB)) : w.heap.size ≤ gb180)); have GE180 := gA ((by rw [hg]; exact (below_size (gB HB)) : w.heap.size ≤ gb180)); replace HB := gA (below_step (gB HB) hb); have NB179_180 := gA ((by rw [hg]; exact Nat.ne_of_lt (blk_lt (gK BK179)) : gb179 ≠ gb180)); have NB180_179 := gA ((by rw [hg]; exact Nat.ne_of_gt (blk_lt (gK BK179)) : gb180 ≠ gb179)); replace BK179 := gA (blk_below (gK BK179) hb); clear hb hbox hg; have hnb5 := NB179_180.out; have hnc5 := NB180_179.out; obtain ⟨hcz6_0, hcz6_1, hfz6_0, hfz6_1⟩ := gz2 BK179; obtain ⟨hcz7_0, hcz7_1, hfz7_0, hfz7_1⟩ := gz2 BK180))
 refine bodyPost_ret (results_cell_row rfl _ _ gb180 25 #[.slice A0_0 l0_0.length c0_0, .slice A0_1 l0_1.length c0_1] (0, 0) _ rfl (by refine blk_put (cs := #[.slice A0_0 l0_0.length c0_0, .slice none 0 0]) ?_ 1 _ rfl; refine blk_put (cs := #[.slice none 0 0, .slice none 0 0]) ?_ 0 _ rfl; exact gK BK180) Try.underlying25 rfl (by kernel_rfl)) rfl ?_
 exact ⟨_, _, rfl, Kd.V_mono (Kd.V_far (p := ⟨gb180, 1, none⟩) (Kd.V_far (p := ⟨gb180, 0, none⟩) (Kd.V_mono HO0_0.out (fun k_ hk => (⟨hk, hk.2⟩ : _ ∧ k_ ≠ gb180))) (fun _ hk => hk.2) (.slice A0_0 l0_0.length c0_0)) (fun _ hk => hk.2) (.slice A0_1 l0_1.length c0_1)) (fun _ hk => hk.1.1.1), Kd.V_mono (Kd.V_far (p := ⟨gb180, 1, none⟩) (Kd.V_far (p := ⟨gb180, 0, none⟩) (Kd.V_mono HO0_1.out (fun k_ hk => (⟨hk, hk.2⟩ : _ ∧ k_ ≠ gb180))) (fun _ hk => hk.2) (.slice A0_0 l0_0.length c0_0)) (fun _ hk => hk.2) (.slice A0_1 l0_1.length c0_1)) (fun _ hk => hk.1.1.1), by repeat first | exact gB HB | refine below_set ?_ GE179.out | refine below_set ?_ GE180.out⟩
def pick_inner.l0 : Nat → Int → List Int → Int → Int → Option (Int)
 | 0, _, _, _, _ => none
 | k + 1, x3, x8, x9, x10 => if x10 < x9 then (if 0 ≤ x10 then (if x10 < (x8.length : Int) then (pick_inner.l0 k (wrap64 (x3 * (rd x8 x10))) x8 x9 (wrap64 (x10 + 1))) else (none)) else (none)) else (some x3)
def pick_inner.f (k : Nat) (l0_0 : List Int) (l0_1 : List (S45)) : Option (Int) := if 1 ≤ (l0_0.length : Int) then (pick_inner.l0 k 1 (l0_0.drop 1) ((l0_0.drop 1).length : Int) 0) else (none)
theorem pick_inner.mono_l : ∀ k, (∀ y0 y1 y2 y3, LeO (pick_inner.l0 k y0 y1 y2 y3) (pick_inner.l0 (k + 1) y0 y1 y2 y3))
 | 0 => fun _ _ _ _ r h => by simp [pick_inner.l0] at h
 | k + 1 => by
  have ih0 := pick_inner.mono_l k
  ·intro y0 y1 y2 y3
   unfold pick_inner.l0
   repeat' first
   | (with_reducible exact ih0 _ _ _ _)
   | (with_reducible exact LeO.refl _)
   | (with_reducible exact LeO.none _)
   | (with_reducible refine LeO.ite ?_ ?_)
   | (with_reducible refine LeO.bind ?_ (fun _ => ?_))
theorem pick_inner.mono : ∀ a0 a1 k, LeO (pick_inner.f k a0 a1) (pick_inner.f (k + 1) a0 a1) := by
 intro a0 a1 k
 have ih0 := pick_inner.mono_l k
 unfold pick_inner.f
 repeat' first
   | (with_reducible exact ih0 _ _ _ _)
   | (with_reducible exact LeO.refl _)
   | (with_reducible exact LeO.none _)
   | (with_reducible refine LeO.ite ?_ ?_)
   | (with_reducible refine LeO.bind ?_ (fun _ => ?_))
set_option maxHeartbeats 8000000 in
set_option maxRecDepth 100000 in
theorem pick_inner.calls (k : Nat) (A0_0 : Option Addr) (c0_0 : Nat) (l0_0 : List Int) (A0_1 : Option Addr) (c0_1 : Nat) (l0_1 : List (S45)) (r : Int) (w : World) (hr0_0 : Kd.C (Kd.int .i64) w A0_0 l0_0.length l0_0) (hc0_0 : l0_0.length ≤ c0_0) (hr0_1 : Kd.C k45 w A0_1 l0_1.length l0_1) (hc0_1 : l0_1.length ≤ c0_1) (h : pick_inner.f k l0_0 l0_1 = some r) :
  Calls Try.prog 42 #[.agg #[.slice A0_0 l0_0.length c0_0, .slice A0_1 l0_1.length c0_1]] w fun e w' => e = .returned (.int .i64 r) ∧ Below w.heap.size w w' := by
 have hu25 := Try.underlying25
 have HR0_0 := gA hr0_0
 have HC0_0 := gA hc0_0
 clear hr0_0 hc0_0
 have HR0_1 := gA hr0_1
 have HC0_1 := gA hc0_1
 clear hr0_1 hc0_1
 have HB := gA (Below.refl w.heap.size w)
 have H : (if 1 ≤ (l0_0.length : Int) then (pick_inner.l0 k 1 (l0_0.drop 1) ((l0_0.drop 1).length : Int) 0) else (none)) = some r := h
 clear h
 obtain ⟨c2, H⟩ := iS H
 have c2b0 := eq_true c2
 have c2b1 := decide_eq_true c2
 clear c2
 have H' := gA H
 clear H
 go_enter Try.func42, Try.ntmps42
 go_wp2_with (first | ((with_reducible refine gate_dst (N := 1) rfl ?_); refine box_event ?hg (N := 1) ?hd (cs := #[.slice A0_0 l0_0.length c0_0, .slice A0_1 l0_1.length c0_1]) (t := 25) ?hr ?_; (case hd => rfl); (case hg => rfl); (case hr => first | (go_simp; done) | (go_simp; rfl)); intro gb181 hg w3 hbox hb; have BK181 := gA (hbox); have GW181 := gA ((by rw [hg]; exact (below_size (gB HB)) : w.heap.size ≤ gb181)); have GE181 := gA ((by rw [hg]; exact (below_size (gB HB)) : w.heap.size ≤ gb181)); replace HB := gA (below_step (gB HB) hb); clear hb hbox hg; obtain ⟨hcz4_0, hcz4_1, hfz4_0, hfz4_1⟩ := gz2 BK181; obtain ⟨i05, hi05, _, hsz5, _⟩ := info_parts info3; obtain ⟨A5, hcut5, hA5, hC5⟩ := print_drop_of (P := Try.prog) (Value.int .i64) 0 22 3 .i64 Try.underlying22 hi05 hsz5 A0_0 c0_0 l0_0 1 (by omega) (of_decide_eq_true (by assumption)) HC0_0.out; have HR182 := gA (Kd.C_of_reads (h1 := fun _ => rfl) (hA5 _ (Kd.reads_of_C HR0_0.out))); have HC182 := gA hC5; clear hA5 hC5 hi05 hsz5))
 go_loopg [3, 10] k (fun kq v3 v10 w' => ∃ (x3_1 : Int) (x10_1 : Int), v3 = .int .i64 x3_1 ∧ v10 = .int .i64 x10_1 ∧ Aside0 (pick_inner.l0 kq x3_1 (l0_0.drop 1) ((l0_0.drop 1).length : Int) x10_1 = some r) ∧ Aside0 (kq ≤ k) ∧ Aside0 (w'.heap[gb181]? = some (.cells #[(.slice A0_0 l0_0.length c0_0), (.slice A0_1 l0_1.length c0_1)] 25 (0, 0))) ∧ Aside0 (Below w.heap.size w w'))
 case atStart => exact ⟨(1), (0), (rfl), (rfl), H', ⟨Nat.le_refl _⟩, ⟨gK BK181⟩, ⟨by repeat first | exact gB HB | refine below_set ?_ GE181.out⟩⟩
 case round =>
  clear H'
  try clear c2
  try clear c2b0
  try clear c2b1
  try clear p2
  try clear c4
  try clear hcz4_0
  try clear hcz4_1
  try clear hfz4_0
  try clear hfz4_1
  obtain ⟨x3_1, x10_1, rfl, rfl, HA, HK1, BK181, HB⟩ := hrel
  cases gk with
  | zero => exact absurd HA.out (by simp [pick_inner.l0])
  | succ k1 =>
   have H := HA.out; clear HA
   simp only [pick_inner.l0] at H
   by_cases c6 : x10_1 < ((l0_0.drop 1).length : Int)
   ·rw [if_pos c6] at H
    have c6b0 := decide_eq_true c6; have c6b0z := c6b0; (try rw [List.length_drop] at c6b0z)
    clear c6
    obtain ⟨c7, H⟩ := iS H
    have c7b0 := decide_eq_true c7; have c7b0z := c7b0; (try rw [List.length_drop] at c7b0z)
    clear c7
    obtain ⟨c8, H⟩ := iS H
    have c8b0 := decide_eq_true c8; have c8b0z := c8b0; (try rw [List.length_drop] at c8b0z)
    clear c8
    have H' := gA H
    clear H
    have p183 : 0 ≤ (x10_1 : Int) := of_decide_eq_true (by assumption)
    have q183 : x10_1 < ((l0_0.drop 1).length : Int) := of_decide_eq_true (by assumption)
    obtain ⟨ad183, e183, hx183_0⟩ := Kd.at_int HR182.out x10_1 p183 q183
    cases e183
    replace hx183_0 := (HB.out.cell (World.block_lt_of_cell? w _ hx183_0)).trans hx183_0
    replace p183 := eq_true p183
    replace q183 := eq_true q183; have q183z := q183; (try rw [List.length_drop] at q183z)
    go_wp2
    go_roundg k1
    case measure => have := HK1.out; omega
    case rel => exact ⟨(wrap64 (x3_1 * (rd (l0_0.drop 1) x10_1))), (wrap64 (x10_1 + 1)), (by first | rfl | (simp; done) | (simp [*]; done)), (by first | rfl | (simp; done) | (simp [*]; done)), H', ⟨by have := HK1.out; omega⟩, ⟨by (with_reducible repeat (first | refine blk_drewN ?_ _ | refine blk_drew ?_ | refine blk_alloc ?_ _)); exact BK181.out⟩, ⟨by repeat (first | (with_reducible first | exact HB.out | apply below_alloc | apply pw_below_drewN | apply below_drew1 | refine below_set ?_ GE181.out) | exact HB.out)⟩⟩
   ·rw [if_neg c6] at H
    have c6b0 := decide_eq_false c6; have c6b0z := c6b0; (try rw [List.length_drop] at c6b0z)
    clear c6
    obtain rfl := Option.some.inj H
    go_wp2
    go_ret
    exact ⟨rfl, by repeat first | exact gB HB | refine below_set ?_ GE181.out⟩
end Go.Proofs.Ytdihmempaonfjaa.P
