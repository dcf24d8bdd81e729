/- Written by a program of this session: the functions that the laws reach, what each comes to, and each law as it is stated, for every input. No condition. -/
import Derived.Test.YtahgfebdjjfkhaaPx0
namespace Go.Proofs.Ytahgfebdjjfkhaa.P
open Go.RowKit Go.Proofs.YtahgfebdjjfkhaaW.PrintWords Go.Proofs.YtahgfebdjjfkhaaW.PrintLast Go.Proofs.YtahgfebdjjfkhaaW.PrintMore
attribute [local go_sem] max2_int min2_int max_two min_two max_three min_three max_four min_four   -- for this text's walks alone
set_option linter.unusedVariables false
set_option linter.unusedSimpArgs false
mutual
def arr_copied.f : Nat → Int → Int → List (S25) → Option (Int × Int × (List (S25)))
 | 0, _, _, _ => none
 | k + 1, a0_0, a0_1, l0_2 => if (l0_2.length : Int) > 0 then (if 0 < (l0_2.length : Int) then ((arr_Copy.f k ((rd_T25 l0_2 0).f0) ((rd_T25 l0_2 0).f1)).bind fun bt163 => (some (a0_0, a0_1, (([(⟨bt163.1, bt163.2⟩ : S25)] : List (S25)))))) else (none)) else (some (a0_0, a0_1, l0_2))
def arr_Copy.l0 : Nat → List (S43) → Int → Int → List Int → List (S43) → Option (List Int × (List (S43)))
 | 0, _, _, _, _, _ => none
 | k + 1, x11, x12, x13, x178000, x178001 => if x13 < x12 then (if 0 ≤ x13 then (if x13 < (x11.length : Int) then ((arr_copied.f k ((rd_T43 x11 x13).f0) ((rd_T43 x11 x13).f1) ((rd_T43 x11 x13).f2)).bind fun bt180 => (if x178001.length < 3518437208883 then (arr_Copy.l0 k x11 x12 (wrap64 (x13 + 1)) x178000 (x178001 ++ [(⟨bt180.1, bt180.2.1, bt180.2.2⟩ : S43)])) else (none))) else (none)) else (none)) else (some (x178000, x178001))
def arr_Copy.f : Nat → List Int → List (S43) → Option (List Int × (List (S43)))
 | 0, _, _ => none
 | k + 1, l0_0, l0_1 => if ([] : List Int).length + l0_0.length < 17592186044416 then (arr_Copy.l0 k l0_1 (l0_1.length : Int) 0 (([] : List Int) ++ l0_0) ([] : List (S43))) else (none)
end
theorem scc54.mono_l : ∀ k, (∀ y0 y1 y2, LeO (arr_copied.f k y0 y1 y2) (arr_copied.f (k + 1) y0 y1 y2)) ∧ (∀ y0 y1, LeO (arr_Copy.f k y0 y1) (arr_Copy.f (k + 1) y0 y1)) ∧ (∀ y0 y1 y2 y3 y4, LeO (arr_Copy.l0 k y0 y1 y2 y3 y4) (arr_Copy.l0 (k + 1) y0 y1 y2 y3 y4))
 | 0 => ⟨fun _ _ _ r h => by simp [arr_copied.f] at h, fun _ _ r h => by simp [arr_Copy.f] at h, fun _ _ _ _ _ r h => by simp [arr_Copy.l0] at h⟩
 | k + 1 => by
  obtain ⟨ih0, ih1, ih2⟩ := scc54.mono_l k
  refine ⟨?_, ?_, ?_⟩
  ·intro y0 y1 y2
   unfold arr_copied.f
   repeat' first
   | (with_reducible exact ih0 _ _ _)
   | (with_reducible exact ih1 _ _)
   | (with_reducible exact ih2 _ _ _ _ _)
   | (with_reducible exact LeO.refl _)
   | (with_reducible exact LeO.none _)
   | (with_reducible refine LeO.ite ?_ ?_)
   | (with_reducible refine LeO.bind ?_ (fun _ => ?_))






  ·intro y0 y1
   unfold arr_Copy.f
   repeat' first
   | (with_reducible exact ih0 _ _ _)
   | (with_reducible exact ih1 _ _)
   | (with_reducible exact ih2 _ _ _ _ _)
   | (with_reducible exact LeO.refl _)
   | (with_reducible exact LeO.none _)
   | (with_reducible refine LeO.ite ?_ ?_)
   | (with_reducible refine LeO.bind ?_ (fun _ => ?_))






  ·intro y0 y1 y2 y3 y4
   unfold arr_Copy.l0
   repeat' first
   | (with_reducible exact ih0 _ _ _)
   | (with_reducible exact ih1 _ _)
   | (with_reducible exact ih2 _ _ _ _ _)
   | (with_reducible exact LeO.refl _)
   | (with_reducible exact LeO.none _)
   | (with_reducible refine LeO.ite ?_ ?_)
   | (with_reducible refine LeO.bind ?_ (fun _ => ?_))
theorem arr_copied.mono : ∀ a0 a1 a2 k, LeO (arr_copied.f k a0 a1 a2) (arr_copied.f (k + 1) a0 a1 a2) := by
 intro a0 a1 a2 k
 obtain ⟨ih0, ih1, ih2⟩ := scc54.mono_l k
 exact ih0 a0 a1 a2
theorem arr_Copy.mono : ∀ a0 a1 k, LeO (arr_Copy.f k a0 a1) (arr_Copy.f (k + 1) a0 a1) := by
 intro a0 a1 k
 obtain ⟨ih0, ih1, ih2⟩ := scc54.mono_l k
 exact ih1 a0 a1
set_option maxHeartbeats 8000000 in
set_option maxRecDepth 100000 in
theorem arr_copied.step (k : Nat) (ih : ∀ k_, k_ < k → ∀ (a0_0 : Int) (a0_1 : Int) (P0_2_ : Nat → Prop) (A0_2 : Option Addr) (c0_2 : Nat) (l0_2 : List (S25)) (r1 : Int) (r2 : Int) (r3 : List (S25)) (w : World) (hs0_2 : Kd.V k25 25 w w.heap.size (fun k_ => P0_2_ k_) (.slice A0_2 l0_2.length c0_2) l0_2) (h : arr_copied.f k_ a0_0 a0_1 l0_2 = some (r1, r2, r3)),
  Calls Try.prog 54 #[.agg #[.int .i64 a0_0, .int .i64 a0_1, .slice A0_2 l0_2.length c0_2]] w fun e w' => ∃ v2_ : Value, e = .returned (.agg #[.int .i64 r1, .int .i64 r2, v2_]) ∧ Kd.V k25 25 w' w.heap.size (fun k_ => (P0_2_ k_ ∨ w.heap.size ≤ k_)) v2_ r3 ∧ Below w.heap.size w w') (ih_arr_Copy : ∀ k_, k_ < k → ∀ (A0_0 : Option Addr) (c0_0 : Nat) (l0_0 : List Int) (P0_1_ : Nat → Prop) (A0_1 : Option Addr) (c0_1 : Nat) (l0_1 : List (S43)) (r1 : List Int) (r2 : List (S43)) (w : World) (hr0_0 : Kd.C (Kd.int .i64) w A0_0 l0_0.length l0_0) (hc0_0 : l0_0.length ≤ c0_0) (hs0_1 : Kd.V k43 43 w w.heap.size (fun k_ => P0_1_ k_) (.slice A0_1 l0_1.length c0_1) l0_1) (h : arr_Copy.f k_ l0_0 l0_1 = some (r1, r2)),
  Calls Try.prog 26 #[.agg #[.slice A0_0 l0_0.length c0_0, .slice A0_1 l0_1.length c0_1]] w fun e w' => ∃ v0_ v1_ : Value, e = .returned (.agg #[v0_, v1_]) ∧ Kd.R (Kd.int .i64) 3 w' w.heap.size (fun k_ => (w.heap.size ≤ k_)) v0_ r1 ∧ Kd.N k43 43 w' w.heap.size (fun k_ => (P0_1_ k_ ∨ w.heap.size ≤ k_) ∧ some k_ ≠ (v0_ : Value).ownBlock) v1_ r2 ∧ Below w.heap.size w w') : ∀ (a0_0 : Int) (a0_1 : Int) (P0_2_ : Nat → Prop) (A0_2 : Option Addr) (c0_2 : Nat) (l0_2 : List (S25)) (r1 : Int) (r2 : Int) (r3 : List (S25)) (w : World) (hs0_2 : Kd.V k25 25 w w.heap.size (fun k_ => P0_2_ k_) (.slice A0_2 l0_2.length c0_2) l0_2) (h : arr_copied.f k a0_0 a0_1 l0_2 = some (r1, r2, r3)),
  Calls Try.prog 54 #[.agg #[.int .i64 a0_0, .int .i64 a0_1, .slice A0_2 l0_2.length c0_2]] w fun e w' => ∃ v2_ : Value, e = .returned (.agg #[.int .i64 r1, .int .i64 r2, v2_]) ∧ Kd.V k25 25 w' w.heap.size (fun k_ => (P0_2_ k_ ∨ w.heap.size ≤ k_)) v2_ r3 ∧ Below w.heap.size w w' := by
 intro a0_0 a0_1 P0_2_ A0_2 c0_2 l0_2 r1 r2 r3 w hs0_2 h
 cases k with
 | zero => exact absurd h (by simp [arr_copied.f])
 | succ k =>
 simp only [arr_copied.f] at h
 have hu43 := Try.underlying43
 have hu25 := Try.underlying25
 have HO0_2 := gA (show Kd.V k25 25 w w.heap.size (fun k_ => (P0_2_ k_ ∨ w.heap.size ≤ k_)) (.slice A0_2 l0_2.length c0_2) l0_2 from Kd.V_mono hs0_2 (fun k_ hk => .inl hk))
 have HB := gA (Below.refl w.heap.size w)
 have H : (if (l0_2.length : Int) > 0 then (if 0 < (l0_2.length : Int) then ((arr_Copy.f k ((rd_T25 l0_2 0).f0) ((rd_T25 l0_2 0).f1)).bind fun bt163 => (some (a0_0, a0_1, (([(⟨bt163.1, bt163.2⟩ : S25)] : List (S25)))))) else (none)) else (some (a0_0, a0_1, l0_2))) = some (r1, r2, r3) := h
 clear h
 by_cases c2 : (l0_2.length : Int) > 0
 ·rw [if_pos c2] at H
  have c2b0 : decide (0 < (l0_2.length : Int)) = true := decide_eq_true c2
  have c2b1 : decide (0 < l0_2.length) = true := decide_eq_true (by omega)
  clear c2
  obtain ⟨c3, H⟩ := iS H
  have c3b0 := decide_eq_true c3
  have c3b1 : decide (0 < l0_2.length) = true := decide_eq_true (by omega)
  clear c3
  replace H := Option.bind_eq_some_iff.mp H
  obtain ⟨⟨t163, t166⟩, A40, H⟩ := H
  replace H : (some (a0_0, a0_1, (([(⟨t163, t166⟩ : S25)] : List (S25))))) = some (r1, r2, r3) := H
  have A4 := gA A40
  clear A40
  obtain ⟨y169, hy169⟩ : ∃ y_ : List (S25), y_ = (([(⟨t163, t166⟩ : S25)] : List (S25))) := ⟨_, rfl⟩
  replace H : (some (a0_0, a0_1, y169)) = some (r1, r2, r3) := by first | (rw [hy169]; with_reducible exact H) | (have H2_ := (Option.bind_some _ _).symm.trans H; rw [hy169]; with_reducible exact H2_) | (have H2_ := (Option.bind_some _ _).symm.trans H; with_reducible exact H2_) | with_reducible exact H | (rw [hy169]; exact H) | exact H
  have Ny169 := gA hy169
  clear hy169
  simp only [Option.some.injEq, Prod.mk.injEq] at H
  obtain ⟨rfl, rfl, rfl⟩ := H
  go_enter Try.func54, Try.ntmps54
  go_wp2_with (first | ((with_reducible refine gate_dst (N := 1) rfl ?_); refine box_event ?hg (N := 1) ?hd (cs := #[.int .i64 a0_0, .int .i64 a0_1, .slice A0_2 l0_2.length c0_2]) (t := 43) ?hr ?_; (case hd => rfl); (case hg => rfl); (case hr => first | (go_simp; done) | (go_simp; rfl)); intro gb160 hg w5 hbox hb; replace HO0_2 := gA (Kd.V_below (Kd.V_elderB (gV HO0_2) gb160 (Nat.le_of_eq hg.symm)) hb); have BK160 := gA (hbox); have GW160 := gA ((by rw [hg]; exact (below_size (gB HB)) : w.heap.size ≤ gb160)); have GE160 := gA ((by rw [hg]; exact (below_size (gB HB)) : w.heap.size ≤ gb160)); replace HB := gA (below_step (gB HB) hb); clear hb hbox hg) | ((with_reducible refine gate_dst (N := 2) rfl ?_); refine box_event ?hg (N := 2) ?hd (cs := #[.int .i64 0, .int .i64 0, .slice none 0 0]) (t := 43) ?hr ?_; (case hd => rfl); (case hg => rfl); (case hr => first | (go_simp; done) | (go_simp; rfl)); intro gb161 hg w6 hbox hb; replace HO0_2 := gA (Kd.V_below (Kd.V_elderB (gV HO0_2) gb161 (Nat.le_of_eq hg.symm)) hb); have BK161 := gA (hbox); have GW161 := gA ((by rw [hg]; exact (below_size (gB HB)) : w.heap.size ≤ gb161)); have GE161 := gA ((by rw [hg]; exact (below_size (gB HB)) : w.heap.size ≤ gb161)); replace HB := gA (below_step (gB HB) hb); have NB160_161 := gA ((by rw [hg]; exact Nat.ne_of_lt (blk_lt (gK BK160)) : gb160 ≠ gb161)); have NB161_160 := gA ((by rw [hg]; exact Nat.ne_of_gt (blk_lt (gK BK160)) : gb161 ≠ gb160)); replace BK160 := gA (blk_below (gK BK160) hb); clear hb hbox hg; have hnb7 := NB160_161.out; have hnc7 := NB161_160.out; obtain ⟨hcz8_0, hcz8_1, hcz8_2, hfz8_0, hfz8_1, hfz8_2⟩ := gz3 BK160; have p162 : 0 ≤ (0 : Int) := (by omega); have q162 : 0 < (l0_2.length : Int) := of_decide_eq_true (by assumption); obtain ⟨ad162, A162_0, c162_0, A162_1, c162_1, e162, hx162_0, hx162_1, hl162_0, hi162_0, hl162_1, hi162_1⟩ := at_T25 (Kd.V_reads' HO0_2.out).2.2 0 p162 q162; cases e162; obtain ⟨ce162, hce162, hMe162, hcc162⟩ := Kd.V_get HO0_2.out z25 0 p162 (by first | exact q162 | exact of_decide_eq_true (by assumption) | (have e_ := (Kd.V_reads' HO0_2.out).1; omega)); obtain ⟨ua162_0, uc162_0, ua162_1, uc162_1, rfl, ul162_0, ge162_0, ul162_1, ge162_1⟩ := k25_openF hMe162; have hv162_0 := hcc162 0 _ rfl; rw [Nat.add_zero] at hv162_0; replace hv162_0 := Option.some.inj (hv162_0.symm.trans hx162_0); injection hv162_0 with hva_ hvn_ hvc_; rw [hva_] at ge162_0; rw [hvc_] at ul162_0; have HL162_0 := gA (show Kd.V (Kd.int .i64) 3 _ w.heap.size _ _ ((rd_T25 l0_2 0).f0) from Kd.V_mk ul162_0 ge162_0); clear hva_ hvn_ hvc_ ge162_0 ul162_0; have hv162_1 := hcc162 1 _ rfl; rw [add_field _ _ 1 (by omega)] at hv162_1; replace hv162_1 := Option.some.inj (hv162_1.symm.trans hx162_1); injection hv162_1 with hva_ hvn_ hvc_; rw [hva_] at ge162_1; rw [hvc_] at ul162_1; have HL162_1 := gA (show Kd.V k43 43 _ w.heap.size _ _ ((rd_T25 l0_2 0).f1) from Kd.V_mk ul162_1 ge162_1); clear hva_ hvn_ hvc_ ge162_1 ul162_1 hcc162 hce162; have qi162 : (0 < l0_2.length) = True := eq_true (by omega); (try rw [show ((0 : Int)).toNat = 0 from rfl] at hx162_0); (try rw [show 0 * 2 = 0 from rfl] at hx162_0); (try rw [Addr.add_zero'] at hx162_0); (try rw [show ((0 : Int)).toNat = 0 from rfl] at hx162_1); (try rw [show 0 * 2 = 0 from rfl] at hx162_1); (try rw [Addr.add_zero'] at hx162_1); have HR162_0 := gA hi162_0; have HC162_0 := gA hl162_0; clear hi162_0 hl162_0; have HR162_1 := gA hi162_1; have HC162_1 := gA hl162_1; clear hi162_1 hl162_1; replace p162 := eq_true p162; replace q162 := eq_true q162) | ((with_reducible refine gate_callee (f := 26) rfl ?_); refine goesL_ (some 11) rfl rfl Try.func26 (by kernel_rfl) rfl #[.agg #[.slice A162_0 ((rd_T25 l0_2 0).f0).length c162_0, .slice A162_1 ((rd_T25 l0_2 0).f1).length c162_1]] rfl (by (try simp only [List.map_toArray, List.map_cons, List.map_nil]); first | done | rfl | (simp only [List.length_drop, List.length_take]; rfl)) ?_; (with_reducible refine (ih_arr_Copy k (by omega) _ _ ((rd_T25 l0_2 0).f0) (fun k_ => (((P0_2_ k_ ∨ w.heap.size ≤ k_) ∧ k_ ≠ gb160) ∧ k_ ≠ gb161)) _ _ ((rd_T25 l0_2 0).f1) t163 t166 _ ?side1 ?side2 ?side3 A4.out).mono ?_); (case side1 => repeat (first | exact (by repeat (first | (with_reducible exact HR162_0.out) | (with_reducible refine Kd.C_alloc ?_ _) | (with_reducible refine Kd.C_drewN ?_ _) | (with_reducible refine Kd.C_drew ?_) | exact HR162_0.out)) | (with_reducible refine Kd.C_alloc ?_ _) | (with_reducible refine Kd.C_drewN ?_ _) | (with_reducible refine Kd.C_drew ?_))); (case side2 => exact HC162_0.out); (case side3 => exact HL162_1.out); rintro e w9 ⟨v164, v167, rfl, ho0, ho1, hb⟩; refine ⟨_, rfl, ?_⟩; replace HO0_2 := gA (Kd.V_mono (Kd.V_told (Kd.V_told (Kd.V_old (gV HO0_2) hb) (Kd.R_base ho0)) (by first | exact Kd.N_base ho1 | exact Kd.R_base ho1)) (fun _ h_ => h_.1)); replace HL162_0 := gA (Kd.V_mono (Kd.V_told (Kd.V_told (Kd.V_old (gV HL162_0) hb) (Kd.R_base ho0)) (by first | exact Kd.N_base ho1 | exact Kd.R_base ho1)) (fun _ h_ => h_.1)); replace HL162_1 := gA (Kd.V_mono (Kd.V_told (Kd.V_told (Kd.V_old (gV HL162_1) hb) (Kd.R_base ho0)) (by first | exact Kd.N_base ho1 | exact Kd.R_base ho1)) (fun _ h_ => h_.1)); have HO165 := gA (Kd.R_lower (Kd.R_newM (M := fun k_ => (w.heap.size ≤ k_)) (Kd.R_mono (ok' := fun k_ => True) ho0 (fun _ hk_ => trivial)) (below_size (gB HB)) (fun k_ h_ => h_)) (below_size (gB HB))); have HO168 := gA (Kd.N_lower (Kd.N_mono (ok' := fun k_ => (P0_2_ k_ ∨ w.heap.size ≤ k_) ∧ some k_ ≠ (v164 : Value).ownBlock ∧ k_ ≠ gb160 ∧ k_ ≠ gb161) ho1 (fun k_ hk_ => ⟨Or.elim hk_.1 (fun hs_ => hs_.1.1) (fun hn_ => (.inr (Nat.le_trans (below_size (gB HB)) hn_))), hk_.2, Or.elim hk_.1 (fun hs_ => hs_.1.2) (fun hn_ => (Kd.freshB (gK BK160) k_ hn_)), Or.elim hk_.1 (fun hs_ => hs_.2) (fun hn_ => (Kd.freshB (gK BK161) k_ hn_))⟩)) (below_size (gB HB))); replace BK160 := gA (blk_below (gK BK160) hb); replace BK161 := gA (blk_below (gK BK161) hb); replace HR162_0 := gA (Kd.C_below (by repeat (first | (with_reducible exact HR162_0.out) | (with_reducible refine Kd.C_alloc ?_ _) | (with_reducible refine Kd.C_drewN ?_ _) | (with_reducible refine Kd.C_drew ?_) | exact HR162_0.out)) hb); replace HR162_1 := gA (Kd.C_below (by repeat (first | (with_reducible exact HR162_1.out) | (with_reducible refine Kd.C_alloc ?_ _) | (with_reducible refine Kd.C_drewN ?_ _) | (with_reducible refine Kd.C_drew ?_) | exact HR162_1.out)) hb); replace HB := gA (below_step (gB HB) hb); (try clear hb); (try clear ho0); (try clear ho1); obtain ⟨Ao10, co10, eo10⟩ := Kd.R_slice HO165.out; subst eo10; obtain ⟨Ao11, co11, eo11⟩ := Kd.N_slice HO168.out; subst eo11) | ((with_reducible refine gate_dst (N := 12) rfl ?_); refine Kd.N_lit k25 _ 25 ?hg (N' := 12) ?hd (xs := ([(⟨t163, t166⟩ : S25)] : List (S25))) (inner := [.slice Ao10 t163.length co10, .slice Ao11 t166.length co11]) (ok := (fun k_ => (P0_2_ k_ ∨ w.heap.size ≤ k_) ∧ k_ ≠ gb160 ∧ k_ ≠ gb161)) (okp := (fun k_ => (P0_2_ k_ ∨ w.heap.size ≤ k_) ∧ k_ ≠ gb160 ∧ k_ ≠ gb161)) ?hr ?hp (fun _ hk => hk) ((show ∀ k_, w9.heap.size ≤ k_ → (fun k_ => (P0_2_ k_ ∨ w.heap.size ≤ k_) ∧ k_ ≠ gb160 ∧ k_ ≠ gb161) k_ from fun k_ hk => ⟨(.inr (Nat.le_trans (below_size (gB HB)) hk)), Kd.freshB (gK BK160) k_ hk, Kd.freshB (gK BK161) k_ hk⟩) _ (Nat.le_refl _)) (Below.refl _ _) (Nat.le_refl _) (by simp) ?_; (case hd => rfl); (case hg => rfl); (case hr => first | (go_simp; done) | (go_simp; rfl)); (case hp => exact (Reps.c2 (show Kd.FK k25 _ _ (⟨t163, t166⟩ : S25) [.slice Ao10 t163.length co10, .slice Ao11 t166.length co11] from (k25_mkF _ _ (⟨t163, t166⟩ : S25) (Kd.R_reads' (Kd.R_mono (ok' := (fun k_ => (P0_2_ k_ ∨ w.heap.size ≤ k_) ∧ k_ ≠ gb160 ∧ k_ ≠ gb161)) (Kd.R_types (Kd.R_types (HO165.out) BK160.out (by decide)) BK161.out (by decide)) (fun k_ hk => ⟨(.inr (hk.1.1.1)), ⟨hk.1.2, hk.2⟩⟩))).2.1 (Kd.R_F (Kd.R_mono (ok' := (fun k_ => (P0_2_ k_ ∨ w.heap.size ≤ k_) ∧ k_ ≠ gb160 ∧ k_ ≠ gb161)) (Kd.R_types (Kd.R_types (HO165.out) BK160.out (by decide)) BK161.out (by decide)) (fun k_ hk => ⟨(.inr (hk.1.1.1)), ⟨hk.1.2, hk.2⟩⟩))) (Kd.N_reads' (Kd.N_mono (ok' := (fun k_ => (P0_2_ k_ ∨ w.heap.size ≤ k_) ∧ k_ ≠ gb160 ∧ k_ ≠ gb161)) (HO168.out) (fun k_ hk => ⟨hk.1, ⟨hk.2.2.1, hk.2.2.2⟩⟩))).2.1 (Kd.N_F (Kd.N_mono (ok' := (fun k_ => (P0_2_ k_ ∨ w.heap.size ≤ k_) ∧ k_ ≠ gb160 ∧ k_ ≠ gb161)) (HO168.out) (fun k_ hk => ⟨hk.1, ⟨hk.2.2.1, hk.2.2.2⟩⟩))))) (Reps.none _ _))); intro v170 w12 ho13 hb hg_ hnew_; clear hg_ hnew_; (first | rw [← Ny169.out] at ho13 | (simp only [Int.reduceToNat] at ho13; rw [← Ny169.out] at ho13)); replace HO0_2 := gA (Kd.V_elder' (gV HO0_2) (Kd.N_base ho13) hb); replace HL162_0 := gA (Kd.V_elder' (gV HL162_0) (Kd.N_base ho13) hb); replace HL162_1 := gA (Kd.V_elder' (gV HL162_1) (Kd.N_base ho13) hb); have HO171 := gA (Kd.N_lower ho13 (below_size (gB HB))); replace BK160 := gA (blk_below (gK BK160) hb); replace BK161 := gA (blk_below (gK BK161) hb); replace HR162_0 := gA (Kd.C_below (by repeat (first | (with_reducible exact HR162_0.out) | (with_reducible refine Kd.C_alloc ?_ _) | (with_reducible refine Kd.C_drewN ?_ _) | (with_reducible refine Kd.C_drew ?_) | exact HR162_0.out)) hb); replace HR162_1 := gA (Kd.C_below (by repeat (first | (with_reducible exact HR162_1.out) | (with_reducible refine Kd.C_alloc ?_ _) | (with_reducible refine Kd.C_drewN ?_ _) | (with_reducible refine Kd.C_drew ?_) | exact HR162_1.out)) hb); replace HB := gA (below_step (gB HB) hb); clear HO165 HO168 hb ho13; obtain ⟨Ao14, co14, eo14⟩ := Kd.N_slice HO171.out; subst eo14; obtain ⟨hcz15_0, hcz15_1, hcz15_2, hfz15_0, hfz15_1, hfz15_2⟩ := gz3 BK160; obtain ⟨hcz16_0, hcz16_1, hcz16_2, hfz16_0, hfz16_1, hfz16_2⟩ := gz3 BK161))
  refine bodyPost_ret (results_cell_row rfl _ _ gb161 43 #[.int .i64 a0_0, .int .i64 a0_1, .slice Ao14 y169.length co14] (0, 0) _ rfl (by refine blk_put (cs := #[.int .i64 a0_0, .int .i64 a0_1, .slice none 0 0]) ?_ 2 _ rfl; refine blk_put (cs := #[.int .i64 a0_0, .int .i64 0, .slice none 0 0]) ?_ 1 _ rfl; refine blk_put (cs := #[.int .i64 0, .int .i64 0, .slice none 0 0]) ?_ 0 _ rfl; refine blk_far ?_ NB161_160.out _; exact gK BK161) Try.underlying43 rfl (by kernel_rfl)) rfl ?_
  exact ⟨_, rfl, Kd.N_V (Kd.N_mono (Kd.N_far (p := ⟨gb161, 2, none⟩) (Kd.N_far (p := ⟨gb161, 1, none⟩) (Kd.N_far (p := ⟨gb161, 0, none⟩) (Kd.N_far (p := ⟨gb160, 2, none⟩) (Kd.N_mono (Kd.N_mono HO171.out (fun k_ hk => (⟨hk, hk.2.1⟩ : _ ∧ k_ ≠ gb160))) (fun k_ hk => (⟨hk, hk.1.2.2⟩ : _ ∧ k_ ≠ gb161))) (fun _ hk => hk.1.2) (.slice Ao14 y169.length co14)) (fun _ hk => hk.2) (.int .i64 a0_0)) (fun _ hk => hk.2) (.int .i64 a0_1)) (fun _ hk => hk.2) (.slice Ao14 y169.length co14)) (fun _ hk => hk.1.1.1)), by repeat first | exact gB HB | refine below_set ?_ GE160.out | refine below_set ?_ GE161.out⟩
 ·rw [if_neg c2] at H
  have c2b0 : decide (0 < (l0_2.length : Int)) = false := decide_eq_false c2
  have c2b1 : decide (0 < l0_2.length) = false := decide_eq_false (by omega)
  clear c2
  simp only [Option.some.injEq, Prod.mk.injEq] at H
  obtain ⟨rfl, rfl, rfl⟩ := H
  go_enter Try.func54, Try.ntmps54
  go_wp2_with (first | ((with_reducible refine gate_dst (N := 1) rfl ?_); refine box_event ?hg (N := 1) ?hd (cs := #[.int .i64 a0_0, .int .i64 a0_1, .slice A0_2 l0_2.length c0_2]) (t := 43) ?hr ?_; (case hd => rfl); (case hg => rfl); (case hr => first | (go_simp; done) | (go_simp; rfl)); intro gb160 hg w17 hbox hb; replace HO0_2 := gA (Kd.V_below (Kd.V_elderB (gV HO0_2) gb160 (Nat.le_of_eq hg.symm)) hb); have BK160 := gA (hbox); have GW160 := gA ((by rw [hg]; exact (below_size (gB HB)) : w.heap.size ≤ gb160)); have GE160 := gA ((by rw [hg]; exact (below_size (gB HB)) : w.heap.size ≤ gb160)); replace HB := gA (below_step (gB HB) hb); clear hb hbox hg) | ((with_reducible refine gate_dst (N := 2) rfl ?_); refine box_event ?hg (N := 2) ?hd (cs := #[.int .i64 0, .int .i64 0, .slice none 0 0]) (t := 43) ?hr ?_; (case hd => rfl); (case hg => rfl); (case hr => first | (go_simp; done) | (go_simp; rfl)); intro gb161 hg w18 hbox hb; replace HO0_2 := gA (Kd.V_below (Kd.V_elderB (gV HO0_2) gb161 (Nat.le_of_eq hg.symm)) hb); have BK161 := gA (hbox); have GW161 := gA ((by rw [hg]; exact (below_size (gB HB)) : w.heap.size ≤ gb161)); have GE161 := gA ((by rw [hg]; exact (below_size (gB HB)) : w.heap.size ≤ gb161)); replace HB := gA (below_step (gB HB) hb); have NB160_161 := gA ((by rw [hg]; exact Nat.ne_of_lt (blk_lt (gK BK160)) : gb160 ≠ gb161)); have NB161_160 := gA ((by rw [hg]; exact Nat.ne_of_gt (blk_lt (gK BK160)) : gb161 ≠ gb160)); replace BK160 := gA (blk_below (gK BK160) hb); clear hb hbox hg; have hnb19 := NB160_161.out; have hnc19 := NB161_160.out; obtain ⟨hcz20_0, hcz20_1, hcz20_2, hfz20_0, hfz20_1, hfz20_2⟩ := gz3 BK160; obtain ⟨hcz21_0, hcz21_1, hcz21_2, hfz21_0, hfz21_1, hfz21_2⟩ := gz3 BK161))
  refine bodyPost_ret (results_cell_row rfl _ _ gb161 43 #[.int .i64 a0_0, .int .i64 a0_1, .slice A0_2 l0_2.length c0_2] (0, 0) _ rfl (by refine blk_put (cs := #[.int .i64 a0_0, .int .i64 a0_1, .slice none 0 0]) ?_ 2 _ rfl; refine blk_put (cs := #[.int .i64 a0_0, .int .i64 0, .slice none 0 0]) ?_ 1 _ rfl; refine blk_put (cs := #[.int .i64 0, .int .i64 0, .slice none 0 0]) ?_ 0 _ rfl; exact gK BK161) Try.underlying43 rfl (by kernel_rfl)) rfl ?_
  exact ⟨_, rfl, Kd.V_mono (Kd.V_far (p := ⟨gb161, 2, none⟩) (Kd.V_far (p := ⟨gb161, 1, none⟩) (Kd.V_far (p := ⟨gb161, 0, none⟩) (Kd.V_mono HO0_2.out (fun k_ hk => (⟨hk, hk.2⟩ : _ ∧ k_ ≠ gb161))) (fun _ hk => hk.2) (.int .i64 a0_0)) (fun _ hk => hk.2) (.int .i64 a0_1)) (fun _ hk => hk.2) (.slice A0_2 l0_2.length c0_2)) (fun _ hk => hk.1.1.1), by repeat first | exact gB HB | refine below_set ?_ GE160.out | refine below_set ?_ GE161.out⟩
def arr_Copy.T5 : Bool × List (List Nat × List Nat) := (true, [([], []), ([0], [0]), ([], []), ([2], [2]), ([3], [3]), ([1, 4, 3], [1, 4]), ([0, 1, 2, 3, 4, 5], []), ([6, 5, 5, 0, 1, 2, 3, 4, 5], [5, 6])])
def arr_Copy.B5 : List Nat := [0, 1, 0, 4, 12, 31, 63, 127]
theorem arr_Copy.tab5 : rtab .any (opsOf Try.f26 5) = arr_Copy.T5 := by kernel_rfl
theorem arr_Copy.bits5 : waitsOk arr_Copy.T5.2 arr_Copy.B5 = true := by kernel_rfl
set_option maxHeartbeats 8000000 in
set_option maxRecDepth 100000 in
theorem arr_Copy.step (k : Nat) (ih_arr_copied : ∀ k_, k_ < k → ∀ (a0_0 : Int) (a0_1 : Int) (P0_2_ : Nat → Prop) (A0_2 : Option Addr) (c0_2 : Nat) (l0_2 : List (S25)) (r1 : Int) (r2 : Int) (r3 : List (S25)) (w : World) (hs0_2 : Kd.V k25 25 w w.heap.size (fun k_ => P0_2_ k_) (.slice A0_2 l0_2.length c0_2) l0_2) (h : arr_copied.f k_ a0_0 a0_1 l0_2 = some (r1, r2, r3)),
  Calls Try.prog 54 #[.agg #[.int .i64 a0_0, .int .i64 a0_1, .slice A0_2 l0_2.length c0_2]] w fun e w' => ∃ v2_ : Value, e = .returned (.agg #[.int .i64 r1, .int .i64 r2, v2_]) ∧ Kd.V k25 25 w' w.heap.size (fun k_ => (P0_2_ k_ ∨ w.heap.size ≤ k_)) v2_ r3 ∧ Below w.heap.size w w') (ih : ∀ k_, k_ < k → ∀ (A0_0 : Option Addr) (c0_0 : Nat) (l0_0 : List Int) (P0_1_ : Nat → Prop) (A0_1 : Option Addr) (c0_1 : Nat) (l0_1 : List (S43)) (r1 : List Int) (r2 : List (S43)) (w : World) (hr0_0 : Kd.C (Kd.int .i64) w A0_0 l0_0.length l0_0) (hc0_0 : l0_0.length ≤ c0_0) (hs0_1 : Kd.V k43 43 w w.heap.size (fun k_ => P0_1_ k_) (.slice A0_1 l0_1.length c0_1) l0_1) (h : arr_Copy.f k_ l0_0 l0_1 = some (r1, r2)),
  Calls Try.prog 26 #[.agg #[.slice A0_0 l0_0.length c0_0, .slice A0_1 l0_1.length c0_1]] w fun e w' => ∃ v0_ v1_ : Value, e = .returned (.agg #[v0_, v1_]) ∧ Kd.R (Kd.int .i64) 3 w' w.heap.size (fun k_ => (w.heap.size ≤ k_)) v0_ r1 ∧ Kd.N k43 43 w' w.heap.size (fun k_ => (P0_1_ k_ ∨ w.heap.size ≤ k_) ∧ some k_ ≠ (v0_ : Value).ownBlock) v1_ r2 ∧ Below w.heap.size w w') : ∀ (A0_0 : Option Addr) (c0_0 : Nat) (l0_0 : List Int) (P0_1_ : Nat → Prop) (A0_1 : Option Addr) (c0_1 : Nat) (l0_1 : List (S43)) (r1 : List Int) (r2 : List (S43)) (w : World) (hr0_0 : Kd.C (Kd.int .i64) w A0_0 l0_0.length l0_0) (hc0_0 : l0_0.length ≤ c0_0) (hs0_1 : Kd.V k43 43 w w.heap.size (fun k_ => P0_1_ k_) (.slice A0_1 l0_1.length c0_1) l0_1) (h : arr_Copy.f k l0_0 l0_1 = some (r1, r2)),
  Calls Try.prog 26 #[.agg #[.slice A0_0 l0_0.length c0_0, .slice A0_1 l0_1.length c0_1]] w fun e w' => ∃ v0_ v1_ : Value, e = .returned (.agg #[v0_, v1_]) ∧ Kd.R (Kd.int .i64) 3 w' w.heap.size (fun k_ => (w.heap.size ≤ k_)) v0_ r1 ∧ Kd.N k43 43 w' w.heap.size (fun k_ => (P0_1_ k_ ∨ w.heap.size ≤ k_) ∧ some k_ ≠ (v0_ : Value).ownBlock) v1_ r2 ∧ Below w.heap.size w w' := by
 intro A0_0 c0_0 l0_0 P0_1_ A0_1 c0_1 l0_1 r1 r2 w hr0_0 hc0_0 hs0_1 h
 cases k with
 | zero => exact absurd h (by simp [arr_Copy.f])
 | succ k =>
 simp only [arr_Copy.f] at h
 have hu25 := Try.underlying25
 have hu43 := Try.underlying43
 have HR0_0 := gA hr0_0
 have HC0_0 := gA hc0_0
 clear hr0_0 hc0_0
 have HO0_1 := gA (show Kd.V k43 43 w w.heap.size (fun k_ => (P0_1_ k_ ∨ w.heap.size ≤ k_)) (.slice A0_1 l0_1.length c0_1) l0_1 from Kd.V_mono hs0_1 (fun k_ hk => .inl hk))
 have HB := gA (Below.refl w.heap.size w)
 have H : (if ([] : List Int).length + l0_0.length < 17592186044416 then (arr_Copy.l0 k l0_1 (l0_1.length : Int) 0 (([] : List Int) ++ l0_0) ([] : List (S43))) else (none)) = some (r1, r2) := h
 clear h
 obtain ⟨c2, H⟩ := iS H
 have LMc2 := gA c2
 clear c2
 obtain ⟨y174, hy174⟩ : ∃ y_ : List Int, y_ = (([] : List Int) ++ l0_0) := ⟨_, rfl⟩
 replace H : (arr_Copy.l0 k l0_1 (l0_1.length : Int) 0 y174 ([] : List (S43))) = some (r1, r2) := by first | (rw [hy174]; with_reducible exact H) | (have H2_ := (Option.bind_some _ _).symm.trans H; rw [hy174]; with_reducible exact H2_) | (have H2_ := (Option.bind_some _ _).symm.trans H; with_reducible exact H2_) | with_reducible exact H | (rw [hy174]; exact H) | exact H
 have Ny174 := gA hy174
 clear hy174
 have H' := gA H
 clear H
 go_enter Try.func26, Try.ntmps26
 go_wp2_with (first | ((with_reducible refine gate_dst (N := 1) rfl ?_); refine box_event ?hg (N := 1) ?hd (cs := #[.slice A0_0 l0_0.length c0_0, .slice A0_1 l0_1.length c0_1]) (t := 25) ?hr ?_; (case hd => rfl); (case hg => rfl); (case hr => first | (go_simp; done) | (go_simp; rfl)); intro gb172 hg w3 hbox hb; replace HO0_1 := gA (Kd.V_below (Kd.V_elderB (gV HO0_1) gb172 (Nat.le_of_eq hg.symm)) hb); have BK172 := gA (hbox); have GW172 := gA ((by rw [hg]; exact (below_size (gB HB)) : w.heap.size ≤ gb172)); have GE172 := gA ((by rw [hg]; exact (below_size (gB HB)) : w.heap.size ≤ gb172)); replace HB := gA (below_step (gB HB) hb); clear hb hbox hg) | ((with_reducible refine gate_dst (N := 2) rfl ?_); refine box_event ?hg (N := 2) ?hd (cs := #[.slice none 0 0, .slice none 0 0]) (t := 25) ?hr ?_; (case hd => rfl); (case hg => rfl); (case hr => first | (go_simp; done) | (go_simp; rfl)); intro gb173 hg w4 hbox hb; replace HO0_1 := gA (Kd.V_below (Kd.V_elderB (gV HO0_1) gb173 (Nat.le_of_eq hg.symm)) hb); have BK173 := gA (hbox); have GW173 := gA ((by rw [hg]; exact (below_size (gB HB)) : w.heap.size ≤ gb173)); have GE173 := gA ((by rw [hg]; exact (below_size (gB HB)) : w.heap.size ≤ gb173)); replace HB := gA (below_step (gB HB) hb); have NB172_173 := gA ((by rw [hg]; exact Nat.ne_of_lt (blk_lt (gK BK172)) : gb172 ≠ gb173)); have NB173_172 := gA ((by rw [hg]; exact Nat.ne_of_gt (blk_lt (gK BK172)) : gb173 ≠ gb172)); replace BK172 := gA (blk_below (gK BK172) hb); clear hb hbox hg; have hnb5 := NB172_173.out; have hnc5 := NB173_172.out; obtain ⟨hcz6_0, hcz6_1, hfz6_0, hfz6_1⟩ := gz2 BK172) | ((with_reducible refine gate_builtin (b := .append) (xs := #[.const (.slice none 0 0), .tmp 7]) rfl ?_); at_builtin; refine Kd.R_append_rows (Kd.int .i64) (w0 := w) w.heap.size rfl (.const (.slice none 0 0)) (.tmp 7) 22 3 (.int .i64 0) 8 rfl Try.underlying22 info3 rfl (by decide) (by omega) (.slice none 0 0) ([] : List Int) l0_0 _ _ _ (fun k_ => (w.heap.size ≤ k_)) (fun _ => False) rfl rfl ?aO ?aR (fun _ _ h => h) (fun _ h => h.elim) ?aF ?aB ?aS ?aL ?_; (case aR => exact gC HR0_0 HB); (case aB => exact (gB HB)); (case aF => exact (fun k_ hk => (Nat.le_trans (below_size (gB HB)) hk))); (case aO => exact ((Kd.R_nil _ _ _ _ (fun k_ => (w.heap.size ≤ k_))))); (case aS => exact (below_size (gB HB))); (case aL => have := LMc2.out; omega); intro v175 w7 ho hb hg hat; rw [← Ny174.out] at ho; replace HO0_1 := gA (Kd.V_afterv (Kd.V_apart_nil (gV HO0_1)) hg hat); replace BK172 := gA (blk_grown (gK BK172) hg (by simp [Value.ownBlock])); replace BK173 := gA (blk_grown (gK BK173) hg (by simp [Value.ownBlock])); replace HB := gA (hb); have HO176 := gA (ho); clear ho hb hg hat; obtain ⟨Ao8, co8, eo8⟩ := Kd.R_slice HO176.out; subst eo8) | ((with_reducible refine gate_dst (N := 3) rfl ?_); refine box_event ?hg (N := 3) ?hd (cs := #[.slice none 0 0, .slice none 0 0]) (t := 25) ?hr ?_; (case hd => rfl); (case hg => rfl); (case hr => first | (go_simp; done) | (go_simp; rfl)); intro gb177 hg w9 hbox hb; replace HO0_1 := gA (Kd.V_below (Kd.V_elderB (gV HO0_1) gb177 (Nat.le_of_eq hg.symm)) hb); replace HO176 := gA (Kd.R_below (gR HO176) hb); have BK177 := gA (hbox); have GW177 := gA ((by rw [hg]; exact (below_size (gB HB)) : w.heap.size ≤ gb177)); have GE177 := gA ((by rw [hg]; exact (below_size (gB HB)) : w.heap.size ≤ gb177)); replace HB := gA (below_step (gB HB) hb); have NB172_177 := gA ((by rw [hg]; exact Nat.ne_of_lt (blk_lt (gK BK172)) : gb172 ≠ gb177)); have NB177_172 := gA ((by rw [hg]; exact Nat.ne_of_gt (blk_lt (gK BK172)) : gb177 ≠ gb172)); replace BK172 := gA (blk_below (gK BK172) hb); have NB173_177 := gA ((by rw [hg]; exact Nat.ne_of_lt (blk_lt (gK BK173)) : gb173 ≠ gb177)); have NB177_173 := gA ((by rw [hg]; exact Nat.ne_of_gt (blk_lt (gK BK173)) : gb177 ≠ gb173)); replace BK173 := gA (blk_below (gK BK173) hb); clear hb hbox hg; have hnb10 := NB177_172.out; have hnc10 := NB172_177.out; have hnb11 := NB177_173.out; have hnc11 := NB173_177.out; obtain ⟨hcz12_0, hcz12_1, hfz12_0, hfz12_1⟩ := gz2 BK177; obtain ⟨hcz13_0, hcz13_1, hfz13_0, hfz13_1⟩ := gz2 BK172))
 go_loopg [13] k (fun kq v13 w' => ∃ (x13_1 : Int) (x178001_1 : List (S43)) (u178001 : Value), v13 = .int .i64 x13_1 ∧ Aside0 (arr_Copy.l0 kq l0_1 (l0_1.length : Int) x13_1 y174 x178001_1 = some (r1, r2)) ∧ Aside0 (kq ≤ k) ∧ Aside0 (Kd.V k43 43 w' w.heap.size (fun k_ => (P0_1_ k_ ∨ w.heap.size ≤ k_) ∧ some k_ ≠ ((.slice Ao8 y174.length co8) : Value).ownBlock ∧ some k_ ≠ (u178001 : Value).ownBlock ∧ k_ ≠ gb172 ∧ k_ ≠ gb173 ∧ k_ ≠ gb177) (.slice A0_1 l0_1.length c0_1) l0_1) ∧ Aside0 (Kd.V k43 43 w' w.heap.size (fun k_ => (P0_1_ k_ ∨ w.heap.size ≤ k_) ∧ some k_ ≠ ((.slice Ao8 y174.length co8) : Value).ownBlock ∧ some k_ ≠ (u178001 : Value).ownBlock ∧ k_ ≠ gb172 ∧ k_ ≠ gb173 ∧ k_ ≠ gb177) (.slice A0_1 l0_1.length c0_1) l0_1) ∧ Aside0 (Kd.R (Kd.int .i64) 3 w' w.heap.size (fun k_ => (w.heap.size ≤ k_)) (.slice Ao8 y174.length co8) y174) ∧ Aside0 (Kd.N k43 43 w' w.heap.size (fun k_ => (P0_1_ k_ ∨ w.heap.size ≤ k_) ∧ some k_ ≠ ((.slice Ao8 y174.length co8) : Value).ownBlock ∧ k_ ≠ gb172 ∧ k_ ≠ gb173 ∧ k_ ≠ gb177) u178001 x178001_1) ∧ Aside0 (w'.heap[gb172]? = some (.cells #[(.slice A0_0 l0_0.length c0_0), (.slice A0_1 l0_1.length c0_1)] 25 (0, 0))) ∧ Aside0 (w'.heap[gb173]? = some (.cells #[(.slice none 0 0), (.slice none 0 0)] 25 (0, 0))) ∧ Aside0 (w'.heap[gb177]? = some (.cells #[(.slice Ao8 y174.length co8), u178001] 25 (0, 0))) ∧ Aside0 (Below w.heap.size w w'))
 case atStart => exact ⟨(0), (([] : List (S43))), (.slice none 0 0), (rfl), H', ⟨Nat.le_refl _⟩, ⟨Kd.V_mono (Kd.V_far (p := ⟨gb177, 1, none⟩) (Kd.V_far (p := ⟨gb177, 0, none⟩) (Kd.V_mono HO0_1.out (fun k_ hk => (⟨hk, hk.2⟩ : _ ∧ k_ ≠ gb177))) (fun _ hk => hk.2) (.slice Ao8 y174.length co8)) (fun _ hk => hk.2) (.slice none 0 0)) (fun _ hk => ⟨hk.1.1.1.1.1, ⟨hk.1.1.2, ⟨(by simp [Value.ownBlock]), ⟨hk.1.1.1.1.2, ⟨hk.1.1.1.2, hk.1.2⟩⟩⟩⟩⟩)⟩, ⟨Kd.V_mono (Kd.V_far (p := ⟨gb177, 1, none⟩) (Kd.V_far (p := ⟨gb177, 0, none⟩) (Kd.V_mono HO0_1.out (fun k_ hk => (⟨hk, hk.2⟩ : _ ∧ k_ ≠ gb177))) (fun _ hk => hk.2) (.slice Ao8 y174.length co8)) (fun _ hk => hk.2) (.slice none 0 0)) (fun _ hk => ⟨hk.1.1.1.1.1, ⟨hk.1.1.2, ⟨(by simp [Value.ownBlock]), ⟨hk.1.1.1.1.2, ⟨hk.1.1.1.2, hk.1.2⟩⟩⟩⟩⟩)⟩, ⟨Kd.R_mono (Kd.R_far (p := ⟨gb177, 1, none⟩) (Kd.R_far (p := ⟨gb177, 0, none⟩) (Kd.R_types HO176.out BK177.out (by decide)) (fun _ hk => hk.2) (.slice Ao8 y174.length co8)) (fun _ hk => hk.2) (.slice none 0 0)) (fun _ hk => hk.1)⟩, ⟨by first | exact Kd.R_nil _ _ _ _ _ | exact Kd.N_nil _ _ _ _ _ | exact Kd.V_nil _ _ _ _ _ | exact Kd.Q_nil _ _ _ _ _ | exact Kd.S_nil _ _ _ _ _⟩, ⟨by refine blk_far ?_ NB172_177.out _; refine blk_far ?_ NB172_177.out _; exact gK BK172⟩, ⟨by refine blk_far ?_ NB173_177.out _; refine blk_far ?_ NB173_177.out _; exact gK BK173⟩, ⟨by refine blk_put (cs := #[.slice Ao8 y174.length co8, .slice none 0 0]) ?_ 1 _ rfl; refine blk_put (cs := #[.slice none 0 0, .slice none 0 0]) ?_ 0 _ rfl; exact gK BK177⟩, ⟨by repeat first | exact gB HB | refine below_set ?_ GE172.out | refine below_set ?_ GE173.out | refine below_set ?_ GE177.out⟩⟩
 case round =>
  clear H'
  try clear c1
  try clear c2
  try clear p2
  try clear c5
  try clear c10
  try clear c11
  try clear hcz12_0
  try clear hcz12_1
  try clear hcz13_0
  try clear hcz13_1
  try clear hcz6_0
  try clear hcz6_1
  try clear hfz12_0
  try clear hfz12_1
  try clear hfz13_0
  try clear hfz13_1
  try clear hfz6_0
  try clear hfz6_1
  obtain ⟨x13_1, x178001_1, u178001, rfl, HA, HK1, HO_11, HO_173001, HO_178000, HO_178001, BK172, BK173, BK177, HB⟩ := hrel
  cases gk with
  | zero => exact absurd HA.out (by simp [arr_Copy.l0])
  | succ k1 =>
   have H := HA.out; clear HA
   simp only [arr_Copy.l0] at H
   by_cases c14 : x13_1 < (l0_1.length : Int)
   ·rw [if_pos c14] at H
    have c14b0 := decide_eq_true c14
    clear c14
    obtain ⟨c15, H⟩ := iS H
    have c15b0 := decide_eq_true c15
    clear c15
    obtain ⟨c16, H⟩ := iS H
    have c16b0 := decide_eq_true c16
    clear c16
    replace H := Option.bind_eq_some_iff.mp H
    obtain ⟨⟨t180, t181, t182⟩, A170, H⟩ := H
    replace H : (if x178001_1.length < 3518437208883 then (arr_Copy.l0 k1 l0_1 (l0_1.length : Int) (wrap64 (x13_1 + 1)) y174 (x178001_1 ++ [(⟨t180, t181, t182⟩ : S43)])) else (none)) = some (r1, r2) := H
    have A17 := gA A170
    clear A170
    obtain ⟨c18, H⟩ := iS H
    have LMc18 := gA c18
    clear c18
    obtain ⟨y185, hy185⟩ : ∃ y_ : List (S43), y_ = (x178001_1 ++ [(⟨t180, t181, t182⟩ : S43)]) := ⟨_, rfl⟩
    replace H : (arr_Copy.l0 k1 l0_1 (l0_1.length : Int) (wrap64 (x13_1 + 1)) y174 y185) = some (r1, r2) := by first | (rw [hy185]; with_reducible exact H) | (have H2_ := (Option.bind_some _ _).symm.trans H; rw [hy185]; with_reducible exact H2_) | (have H2_ := (Option.bind_some _ _).symm.trans H; with_reducible exact H2_) | with_reducible exact H | (rw [hy185]; exact H) | exact H
    have Ny185 := gA hy185
    clear hy185
    have H' := gA H
    clear H
    have p178 : 0 ≤ (x13_1 : Int) := of_decide_eq_true (by assumption)
    have q178 : x13_1 < (l0_1.length : Int) := of_decide_eq_true (by assumption)
    obtain ⟨ad178, A178_2, c178_2, e178, hx178_0, hx178_1, hx178_2, hl178_2, hi178_2⟩ := at_T43 (Kd.V_reads' HO_11.out).2.2 x13_1 p178 q178
    cases e178
    obtain ⟨ce178, hce178, hMe178, hcc178⟩ := Kd.V_get HO_11.out z43 x13_1 p178 (by first | exact q178 | exact of_decide_eq_true (by assumption) | (have e_ := (Kd.V_reads' HO_11.out).1; omega))
    obtain ⟨ua178_2, uc178_2, rfl, ul178_2, ge178_2⟩ := k43_openF hMe178
    have hv178_2 := hcc178 2 _ rfl
    rw [add_field _ _ 2 (by omega)] at hv178_2
    replace hv178_2 := Option.some.inj (hv178_2.symm.trans hx178_2)
    injection hv178_2 with hva_ hvn_ hvc_
    rw [hva_] at ge178_2
    rw [hvc_] at ul178_2
    have HL178_2 := gA (show Kd.V k25 25 _ w.heap.size _ _ ((rd_T43 l0_1 x13_1).f2) from Kd.V_mk ul178_2 ge178_2)
    clear hva_ hvn_ hvc_ ge178_2 ul178_2 hcc178 hce178
    have HR178_2 := gA hi178_2
    have HC178_2 := gA hl178_2
    clear hi178_2 hl178_2
    replace p178 := eq_true p178
    replace q178 := eq_true q178
    try go_wp2_with (first | ((with_reducible refine gate_dst (N := 5) rfl ?_); refine box_event ?hg (N := 5) ?hd (cs := #[.int .i64 0, .int .i64 0, .slice none 0 0]) (t := 43) ?hr ?_; (case hd => rfl); (case hg => rfl); (case hr => first | (go_simp; done) | (go_simp; rfl)); intro gb179 hg w19 hbox hb; replace HO_11 := gA (Kd.V_below (Kd.V_elderB (gV HO_11) gb179 (Nat.le_of_eq hg.symm)) hb); replace HO_173001 := gA (Kd.V_below (Kd.V_elderB (gV HO_173001) gb179 (Nat.le_of_eq hg.symm)) hb); replace HO_178000 := gA (Kd.R_below (gR HO_178000) hb); replace HO_178001 := gA (Kd.N_below (Kd.N_elderB (gN HO_178001) gb179 (Nat.le_of_eq hg.symm)) hb); replace HL178_2 := gA (Kd.V_below (Kd.V_elderB (gV HL178_2) gb179 (Nat.le_of_eq hg.symm)) hb); replace HR178_2 := gA (Kd.C_below (by repeat (first | (with_reducible exact HR178_2.out) | (with_reducible refine Kd.C_alloc ?_ _) | (with_reducible refine Kd.C_drewN ?_ _) | (with_reducible refine Kd.C_drew ?_) | exact HR178_2.out)) hb); have BK179 := gA (hbox); have GW179 := gA ((by rw [hg]; exact (below_size (gB HB)) : w.heap.size ≤ gb179)); have GE179 := gA ((by rw [hg]; exact (below_size (gB HB)) : w.heap.size ≤ gb179)); replace HB := gA (below_step (gB HB) hb); have NB172_179 := gA ((by rw [hg]; exact Nat.ne_of_lt (blk_lt (gK BK172)) : gb172 ≠ gb179)); have NB179_172 := gA ((by rw [hg]; exact Nat.ne_of_gt (blk_lt (gK BK172)) : gb179 ≠ gb172)); replace BK172 := gA (blk_below (gK BK172) hb); have NB173_179 := gA ((by rw [hg]; exact Nat.ne_of_lt (blk_lt (gK BK173)) : gb173 ≠ gb179)); have NB179_173 := gA ((by rw [hg]; exact Nat.ne_of_gt (blk_lt (gK BK173)) : gb179 ≠ gb173)); replace BK173 := gA (blk_below (gK BK173) hb); have NB177_179 := gA ((by rw [hg]; exact Nat.ne_of_lt (blk_lt (gK BK177)) : gb177 ≠ gb179)); have NB179_177 := gA ((by rw [hg]; exact Nat.ne_of_gt (blk_lt (gK BK177)) : gb179 ≠ gb177)); replace BK177 := gA (blk_below (gK BK177) hb); clear hb hbox hg; have hnb20 := NB179_172.out; have hnc20 := NB172_179.out; have hnb21 := NB179_173.out; have hnc21 := NB173_179.out; have hnb22 := NB179_177.out; have hnc22 := NB177_179.out; obtain ⟨hcz23_0, hcz23_1, hcz23_2, hfz23_0, hfz23_1, hfz23_2⟩ := gz3 BK179))
    have n0_ : Aside0 (Kd.V k43 43 (((w19.setCell ⟨gb179, 0, none⟩ (.int .i64 ((rd_T43 l0_1 x13_1).f0))).setCell ⟨gb179, 1, none⟩ (.int .i64 ((rd_T43 l0_1 x13_1).f1))).setCell ⟨gb179, 2, none⟩ (.slice A178_2 ((rd_T43 l0_1 x13_1).f2).length c178_2)) w.heap.size (fun k_ => (P0_1_ k_ ∨ w.heap.size ≤ k_) ∧ some k_ ≠ (.slice Ao8 y174.length co8 : Value).ownBlock ∧ some k_ ≠ (u178001 : Value).ownBlock ∧ k_ ≠ gb172 ∧ k_ ≠ gb173 ∧ k_ ≠ gb177 ∧ k_ ≠ gb179) (.slice (some ad178) l0_1.length c0_1) l0_1) := ⟨Kd.V_mono (Kd.V_far (p := ⟨gb179, 2, none⟩) (Kd.V_far (p := ⟨gb179, 1, none⟩) (Kd.V_far (p := ⟨gb179, 0, none⟩) (Kd.V_mono HO_11.out (fun k_ hk => (⟨hk, hk.2⟩ : _ ∧ k_ ≠ gb179))) (fun _ hk => hk.2) (.int .i64 ((rd_T43 l0_1 x13_1).f0))) (fun _ hk => hk.2) (.int .i64 ((rd_T43 l0_1 x13_1).f1))) (fun _ hk => hk.2) (.slice A178_2 ((rd_T43 l0_1 x13_1).f2).length c178_2)) (fun _ hk => by first | exact ⟨hk.1.1.1, ⟨hk.1.1.2.1, ⟨hk.1.1.2.2.1, ⟨hk.1.1.2.2.2.1, ⟨hk.1.1.2.2.2.2.1, ⟨hk.1.1.2.2.2.2.2, hk.1.2⟩⟩⟩⟩⟩⟩ | (simp_all; done))⟩
    have n1_ : Aside0 (Kd.V k43 43 (((w19.setCell ⟨gb179, 0, none⟩ (.int .i64 ((rd_T43 l0_1 x13_1).f0))).setCell ⟨gb179, 1, none⟩ (.int .i64 ((rd_T43 l0_1 x13_1).f1))).setCell ⟨gb179, 2, none⟩ (.slice A178_2 ((rd_T43 l0_1 x13_1).f2).length c178_2)) w.heap.size (fun k_ => (P0_1_ k_ ∨ w.heap.size ≤ k_) ∧ some k_ ≠ (.slice Ao8 y174.length co8 : Value).ownBlock ∧ some k_ ≠ (u178001 : Value).ownBlock ∧ k_ ≠ gb172 ∧ k_ ≠ gb173 ∧ k_ ≠ gb177 ∧ k_ ≠ gb179) (.slice (some ad178) l0_1.length c0_1) l0_1) := ⟨Kd.V_mono (Kd.V_far (p := ⟨gb179, 2, none⟩) (Kd.V_far (p := ⟨gb179, 1, none⟩) (Kd.V_far (p := ⟨gb179, 0, none⟩) (Kd.V_mono HO_173001.out (fun k_ hk => (⟨hk, hk.2⟩ : _ ∧ k_ ≠ gb179))) (fun _ hk => hk.2) (.int .i64 ((rd_T43 l0_1 x13_1).f0))) (fun _ hk => hk.2) (.int .i64 ((rd_T43 l0_1 x13_1).f1))) (fun _ hk => hk.2) (.slice A178_2 ((rd_T43 l0_1 x13_1).f2).length c178_2)) (fun _ hk => by first | exact ⟨hk.1.1.1, ⟨hk.1.1.2.1, ⟨hk.1.1.2.2.1, ⟨hk.1.1.2.2.2.1, ⟨hk.1.1.2.2.2.2.1, ⟨hk.1.1.2.2.2.2.2, hk.1.2⟩⟩⟩⟩⟩⟩ | (simp_all; done))⟩
    have n2_ : Aside0 (Kd.R (Kd.int .i64) 3 (((w19.setCell ⟨gb179, 0, none⟩ (.int .i64 ((rd_T43 l0_1 x13_1).f0))).setCell ⟨gb179, 1, none⟩ (.int .i64 ((rd_T43 l0_1 x13_1).f1))).setCell ⟨gb179, 2, none⟩ (.slice A178_2 ((rd_T43 l0_1 x13_1).f2).length c178_2)) w.heap.size (fun k_ => (w.heap.size ≤ k_)) (.slice Ao8 y174.length co8) y174) := ⟨Kd.R_mono (Kd.R_far (p := ⟨gb179, 2, none⟩) (Kd.R_far (p := ⟨gb179, 1, none⟩) (Kd.R_far (p := ⟨gb179, 0, none⟩) (Kd.R_types HO_178000.out BK179.out (by decide)) (fun _ hk => hk.2) (.int .i64 ((rd_T43 l0_1 x13_1).f0))) (fun _ hk => hk.2) (.int .i64 ((rd_T43 l0_1 x13_1).f1))) (fun _ hk => hk.2) (.slice A178_2 ((rd_T43 l0_1 x13_1).f2).length c178_2)) (fun _ hk => hk.1)⟩
    have n3_ : Aside0 (Kd.N k43 43 (((w19.setCell ⟨gb179, 0, none⟩ (.int .i64 ((rd_T43 l0_1 x13_1).f0))).setCell ⟨gb179, 1, none⟩ (.int .i64 ((rd_T43 l0_1 x13_1).f1))).setCell ⟨gb179, 2, none⟩ (.slice A178_2 ((rd_T43 l0_1 x13_1).f2).length c178_2)) w.heap.size (fun k_ => (P0_1_ k_ ∨ w.heap.size ≤ k_) ∧ some k_ ≠ (.slice Ao8 y174.length co8 : Value).ownBlock ∧ k_ ≠ gb172 ∧ k_ ≠ gb173 ∧ k_ ≠ gb177 ∧ k_ ≠ gb179) u178001 x178001_1) := ⟨Kd.N_mono (Kd.N_far (p := ⟨gb179, 2, none⟩) (Kd.N_far (p := ⟨gb179, 1, none⟩) (Kd.N_far (p := ⟨gb179, 0, none⟩) (Kd.N_mono HO_178001.out (fun k_ hk => (⟨hk, hk.2⟩ : _ ∧ k_ ≠ gb179))) (fun _ hk => hk.2) (.int .i64 ((rd_T43 l0_1 x13_1).f0))) (fun _ hk => hk.2) (.int .i64 ((rd_T43 l0_1 x13_1).f1))) (fun _ hk => hk.2) (.slice A178_2 ((rd_T43 l0_1 x13_1).f2).length c178_2)) (fun _ hk => by first | exact ⟨hk.1.1.1, ⟨hk.1.1.2.1, ⟨hk.1.1.2.2.1, ⟨hk.1.1.2.2.2.1, ⟨hk.1.1.2.2.2.2, hk.1.2⟩⟩⟩⟩⟩ | (simp_all; done))⟩
    have n4_ : Aside0 (Kd.V k25 25 (((w19.setCell ⟨gb179, 0, none⟩ (.int .i64 ((rd_T43 l0_1 x13_1).f0))).setCell ⟨gb179, 1, none⟩ (.int .i64 ((rd_T43 l0_1 x13_1).f1))).setCell ⟨gb179, 2, none⟩ (.slice A178_2 ((rd_T43 l0_1 x13_1).f2).length c178_2)) w.heap.size (fun k_ => (P0_1_ k_ ∨ w.heap.size ≤ k_) ∧ some k_ ≠ (.slice Ao8 y174.length co8 : Value).ownBlock ∧ some k_ ≠ (u178001 : Value).ownBlock ∧ k_ ≠ gb172 ∧ k_ ≠ gb173 ∧ k_ ≠ gb177 ∧ k_ ≠ gb179) (.slice A178_2 ((rd_T43 l0_1 x13_1).f2).length c178_2) ((rd_T43 l0_1 x13_1).f2)) := ⟨Kd.V_mono (Kd.V_far (p := ⟨gb179, 2, none⟩) (Kd.V_far (p := ⟨gb179, 1, none⟩) (Kd.V_far (p := ⟨gb179, 0, none⟩) (Kd.V_mono HL178_2.out (fun k_ hk => (⟨hk, hk.2⟩ : _ ∧ k_ ≠ gb179))) (fun _ hk => hk.2) (.int .i64 ((rd_T43 l0_1 x13_1).f0))) (fun _ hk => hk.2) (.int .i64 ((rd_T43 l0_1 x13_1).f1))) (fun _ hk => hk.2) (.slice A178_2 ((rd_T43 l0_1 x13_1).f2).length c178_2)) (fun _ hk => by first | exact ⟨hk.1.1.1, ⟨hk.1.1.2.1, ⟨hk.1.1.2.2.1, ⟨hk.1.1.2.2.2.1, ⟨hk.1.1.2.2.2.2.1, ⟨hk.1.1.2.2.2.2.2, hk.1.2⟩⟩⟩⟩⟩⟩ | (simp_all; done))⟩
    have n5_ : Aside0 ((((w19.setCell ⟨gb179, 0, none⟩ (.int .i64 ((rd_T43 l0_1 x13_1).f0))).setCell ⟨gb179, 1, none⟩ (.int .i64 ((rd_T43 l0_1 x13_1).f1))).setCell ⟨gb179, 2, none⟩ (.slice A178_2 ((rd_T43 l0_1 x13_1).f2).length c178_2)).heap[gb172]? = some (.cells #[.slice A0_0 l0_0.length c0_0, .slice (some ad178) l0_1.length c0_1] 25 (0, 0))) := ⟨by refine blk_far ?_ NB172_179.out _; refine blk_far ?_ NB172_179.out _; refine blk_far ?_ NB172_179.out _; exact gK BK172⟩
    have n6_ : Aside0 ((((w19.setCell ⟨gb179, 0, none⟩ (.int .i64 ((rd_T43 l0_1 x13_1).f0))).setCell ⟨gb179, 1, none⟩ (.int .i64 ((rd_T43 l0_1 x13_1).f1))).setCell ⟨gb179, 2, none⟩ (.slice A178_2 ((rd_T43 l0_1 x13_1).f2).length c178_2)).heap[gb173]? = some (.cells #[.slice none 0 0, .slice none 0 0] 25 (0, 0))) := ⟨by refine blk_far ?_ NB173_179.out _; refine blk_far ?_ NB173_179.out _; refine blk_far ?_ NB173_179.out _; exact gK BK173⟩
    have n7_ : Aside0 ((((w19.setCell ⟨gb179, 0, none⟩ (.int .i64 ((rd_T43 l0_1 x13_1).f0))).setCell ⟨gb179, 1, none⟩ (.int .i64 ((rd_T43 l0_1 x13_1).f1))).setCell ⟨gb179, 2, none⟩ (.slice A178_2 ((rd_T43 l0_1 x13_1).f2).length c178_2)).heap[gb177]? = some (.cells #[.slice Ao8 y174.length co8, u178001] 25 (0, 0))) := ⟨by refine blk_far ?_ NB177_179.out _; refine blk_far ?_ NB177_179.out _; refine blk_far ?_ NB177_179.out _; exact gK BK177⟩
    have n8_ : Aside0 ((((w19.setCell ⟨gb179, 0, none⟩ (.int .i64 ((rd_T43 l0_1 x13_1).f0))).setCell ⟨gb179, 1, none⟩ (.int .i64 ((rd_T43 l0_1 x13_1).f1))).setCell ⟨gb179, 2, none⟩ (.slice A178_2 ((rd_T43 l0_1 x13_1).f2).length c178_2)).heap[gb179]? = some (.cells #[.int .i64 ((rd_T43 l0_1 x13_1).f0), .int .i64 ((rd_T43 l0_1 x13_1).f1), .slice A178_2 ((rd_T43 l0_1 x13_1).f2).length c178_2] 43 (0, 0))) := ⟨by refine blk_put (cs := #[.int .i64 ((rd_T43 l0_1 x13_1).f0), .int .i64 ((rd_T43 l0_1 x13_1).f1), .slice none 0 0]) ?_ 2 _ rfl; refine blk_put (cs := #[.int .i64 ((rd_T43 l0_1 x13_1).f0), .int .i64 0, .slice none 0 0]) ?_ 1 _ rfl; refine blk_put (cs := #[.int .i64 0, .int .i64 0, .slice none 0 0]) ?_ 0 _ rfl; exact gK BK179⟩
    have n9_ : Aside0 (Below w.heap.size w (((w19.setCell ⟨gb179, 0, none⟩ (.int .i64 ((rd_T43 l0_1 x13_1).f0))).setCell ⟨gb179, 1, none⟩ (.int .i64 ((rd_T43 l0_1 x13_1).f1))).setCell ⟨gb179, 2, none⟩ (.slice A178_2 ((rd_T43 l0_1 x13_1).f2).length c178_2))) := ⟨by repeat first | exact gB HB | refine below_set ?_ GE172.out | refine below_set ?_ GE173.out | refine below_set ?_ GE177.out | refine below_set ?_ GE179.out⟩
    (try clear HO_11)
    generalize (((w19.setCell ⟨gb179, 0, none⟩ (.int .i64 ((rd_T43 l0_1 x13_1).f0))).setCell ⟨gb179, 1, none⟩ (.int .i64 ((rd_T43 l0_1 x13_1).f1))).setCell ⟨gb179, 2, none⟩ (.slice A178_2 ((rd_T43 l0_1 x13_1).f2).length c178_2)) = w24 at n0_ n1_ n2_ n3_ n4_ n5_ n6_ n7_ n8_ n9_ ⊢
    have HO_11 := n0_; have HO_173001 := n1_
    have HO_178000 := n2_; have HO_178001 := n3_
    have HL178_2 := n4_; have BK172 := n5_
    have BK173 := n6_; have BK177 := n7_
    have BK179 := n8_; have HB := n9_
    clear n0_ n1_ n2_ n3_ n4_ n5_ n6_ n7_ n8_ n9_
    replace HO_11 := gA (Kd.V_drew HO_11.out); replace HO_173001 := gA (Kd.V_drew HO_173001.out); replace HO_178000 := gA (Kd.R_drew HO_178000.out); replace HO_178001 := gA (Kd.N_drew HO_178001.out); replace HL178_2 := gA (Kd.V_drew HL178_2.out); replace BK172 := gA (blk_drew BK172.out); replace BK173 := gA (blk_drew BK173.out); replace BK177 := gA (blk_drew BK177.out); replace BK179 := gA (blk_drew BK179.out); replace HB := gA (below_drew1 HB.out)
    refine start_ (n := 8) (S := fun w' => w'.cell? ⟨gb177, 0, none⟩ = some (.slice Ao8 y174.length co8) ∧ w'.cell? ⟨gb177, 1, none⟩ = some (u178001) ∧ w'.cell? ⟨gb179, 0, none⟩ = some (.int .i64 ((rd_T43 l0_1 x13_1).f0)) ∧ w'.cell? ⟨gb179, 1, none⟩ = some (.int .i64 ((rd_T43 l0_1 x13_1).f1)) ∧ w'.cell? ⟨gb179, 2, none⟩ = some (.slice A178_2 ((rd_T43 l0_1 x13_1).f2).length c178_2)) (ds := [7]) #[false, false, false, false, false, false, false, false] (by kernel_rfl) rfl rfl ⟨(blk_cell BK177.out 0).trans rfl, (blk_cell BK177.out 1).trans rfl, (blk_cell BK179.out 0).trans rfl, (blk_cell BK179.out 1).trans rfl, (blk_cell BK179.out 2).trans rfl⟩ (fun hHeld => ?_); refine with_tabW arr_Copy.tab5 arr_Copy.bits5 (fun HT_ HW_ => ?_)
    generalize w24.drew = w25 at HO_11 HO_173001 HO_178000 HO_178001 HL178_2 BK172 BK173 BK177 BK179 HB hHeld ⊢
    refine pure_ (i := 0) (N := some 17) (v := ?_) (a' := ?_) #[true, false, false, false, false, false, false, false] rfl rfl (any_of HT_.out (by kernel_rfl)) (fun _ _ _ h => h) (Or.inl ⟨by rfl, ?_⟩) ?_ ?_; rotate_left
    ·intro w'; go_simp; with_reducible rfl
    rotate_left
    ·simp only [Act.put, List.setIfInBounds_toArray, List.set_cons_zero, List.set_cons_succ, i64_w, i32_w]; rfl
    refine take_ (i := 1) (N := some 18) (v := ?_) (a' := ?_) #[true, true, false, false, false, false, false, false] rfl rfl (take_ofW HT_.out HW_.out (by kernel_rfl)) (fun _ _ _ h => h) (Or.inl ⟨by rfl, ?_⟩) hHeld ?_ ?_; rotate_left
    ·rintro w' ⟨s0, s1, s2, s3, s4⟩; go_simp; with_reducible rfl
    rotate_left
    ·simp only [Act.put, List.setIfInBounds_toArray, List.set_cons_zero, List.set_cons_succ, i64_w, i32_w]; rfl
    refine take_ (i := 2) (N := some 19) (v := ?_) (a' := ?_) #[true, true, true, false, false, false, false, false] rfl rfl (take_ofW HT_.out HW_.out (by kernel_rfl)) (fun _ _ _ h => h) (Or.inl ⟨by rfl, ?_⟩) hHeld ?_ ?_; rotate_left
    ·rintro w' ⟨s0, s1, s2, s3, s4⟩; go_simp; with_reducible rfl
    rotate_left
    ·simp only [Act.put, List.setIfInBounds_toArray, List.set_cons_zero, List.set_cons_succ, i64_w, i32_w]; rfl
    refine one_ (i := 3) (N := some 20) #[true, true, true, true, false, false, false, false] rfl rfl (one_of HT_.out (by kernel_rfl)) (by decide) (fun K hK => ?_)
    refine goes_ Try.func54 (by kernel_rfl) rfl #[.agg #[.int .i64 ((rd_T43 l0_1 x13_1).f0), .int .i64 ((rd_T43 l0_1 x13_1).f1), .slice A178_2 ((rd_T43 l0_1 x13_1).f2).length c178_2]] (by rfl) rfl rfl (by (try simp only [List.map_toArray, List.map_cons, List.map_nil]); first | done | rfl | (simp only [List.length_drop, List.length_take]; rfl)) ?_
    with_reducible refine (ih_arr_copied k1 (by have := HK1.out; omega) ((rd_T43 l0_1 x13_1).f0) ((rd_T43 l0_1 x13_1).f1) (fun k_ => ((P0_1_ k_ ∨ w.heap.size ≤ k_) ∧ (some k_ ≠ (.slice Ao8 y174.length co8 : Value).ownBlock ∧ (some k_ ≠ (u178001 : Value).ownBlock ∧ (k_ ≠ gb172 ∧ (k_ ≠ gb173 ∧ (k_ ≠ gb177 ∧ k_ ≠ gb179))))))) _ _ ((rd_T43 l0_1 x13_1).f2) t180 t181 t182 _ ?side1 A17.out).mono ?_
    (case side1 => exact HL178_2.out)
    rintro e w26 ⟨v183, rfl, ho0, hb⟩
    refine ⟨_, rfl, ?_⟩
    replace HO_11 := gA (Kd.V_below (gV HO_11) hb); replace HO_173001 := gA (Kd.V_below (gV HO_173001) hb); replace HL178_2 := gA (Kd.V_below (gV HL178_2) hb); have HO184 := gA (Kd.V_lower (Kd.V_mono (ok' := fun k_ => (P0_1_ k_ ∨ w.heap.size ≤ k_) ∧ some k_ ≠ (.slice Ao8 y174.length co8 : Value).ownBlock ∧ some k_ ≠ (u178001 : Value).ownBlock ∧ k_ ≠ gb172 ∧ k_ ≠ gb173 ∧ k_ ≠ gb177 ∧ k_ ≠ gb179) ho0 (fun k_ hk_ => ⟨Or.elim hk_ (fun hs_ => hs_.1) (fun hn_ => (.inr (Nat.le_trans (below_size (gB HB)) hn_))), Or.elim hk_ (fun hs_ => hs_.2.1) (fun hn_ => (Kd.fresh' (Kd.R_lt (gR HO_178000)) k_ hn_)), Or.elim hk_ (fun hs_ => hs_.2.2.1) (fun hn_ => (Kd.fresh' (Kd.N_lt (gN HO_178001)) k_ hn_)), Or.elim hk_ (fun hs_ => hs_.2.2.2.1) (fun hn_ => (Kd.freshB (gK BK172) k_ hn_)), Or.elim hk_ (fun hs_ => hs_.2.2.2.2.1) (fun hn_ => (Kd.freshB (gK BK173) k_ hn_)), Or.elim hk_ (fun hs_ => hs_.2.2.2.2.2.1) (fun hn_ => (Kd.freshB (gK BK177) k_ hn_)), Or.elim hk_ (fun hs_ => hs_.2.2.2.2.2.2) (fun hn_ => (Kd.freshB (gK BK179) k_ hn_))⟩)) (below_size (gB HB))); replace HO_178000 := gA (Kd.R_below (gR HO_178000) hb); replace HO_178001 := gA (Kd.N_below (gN HO_178001) hb); replace BK172 := gA (blk_below (gK BK172) hb); replace BK173 := gA (blk_below (gK BK173) hb); replace BK177 := gA (blk_below (gK BK177) hb); replace BK179 := gA (blk_below (gK BK179) hb); replace HB := gA (below_step (gB HB) hb); (try clear hb); (try clear ho0)
    obtain ⟨Ao28, co28, eo28⟩ := Kd.V_slice HO184.out
    (first | subst eo28 | (injection eo28 with f1_ f2_ f3_; have f4_ := f1_.symm; have f5_ := f3_.symm; clear f1_ f2_ f3_; subst f4_; subst f5_))
    refine hK.out _ _ ⟨(blk_cell BK177.out 0).trans rfl, (blk_cell BK177.out 1).trans rfl, (blk_cell BK179.out 0).trans rfl, (blk_cell BK179.out 1).trans rfl, (blk_cell BK179.out 2).trans rfl⟩ (fun hHeld => ?_); clear hK K
    refine norm_ (a' := ?_) ?_ ?_; rotate_left
    ·show Act.put _ (some 20) _ = _
     simp only [Act.put, List.setIfInBounds_toArray, List.set_cons_zero, List.set_cons_succ, i64_w, i32_w]; rfl
    refine one_ (i := 4) (N := some 21) #[true, true, true, true, true, false, false, false] rfl rfl (one_of HT_.out (by kernel_rfl)) (by decide) (fun K hK => ?_)
    refine value_ (w1 := ?_) (v := ?_) (by rfl) rfl ?_ ?_
    rotate_left 2
    ·go_simp
     constructor
     ·rfl
     ·rfl
    refine hK.out _ _ ⟨(blk_cell (blk_alloc BK177.out _) 0).trans rfl, (blk_cell (blk_alloc BK177.out _) 1).trans rfl, (blk_cell (blk_alloc BK179.out _) 0).trans rfl, (blk_cell (blk_alloc BK179.out _) 1).trans rfl, (blk_cell (blk_alloc BK179.out _) 2).trans rfl⟩ (fun hHeld => ?_); clear hK K
    refine norm_ (a' := ?_) ?_ ?_; rotate_left
    ·show Act.put _ (some 21) _ = _
     simp only [Act.put, List.setIfInBounds_toArray, List.set_cons_zero, List.set_cons_succ, i64_w, i32_w]; rfl
    refine one_ (i := 5) (N := some 22) #[true, true, true, true, true, true, false, false] rfl rfl (one_of HT_.out (by kernel_rfl)) (by decide) (fun K hK => ?_)
    refine Kd.N_append_step k43 (w0 := w) w.heap.size (by rfl) (.tmp 18) (.tmp 21) 23 43 (.agg #[(.int .i64 0), (.int .i64 0), (.slice none 0 0)]) 40 rfl Try.underlying23 info43 rfl (by decide) (by omega) u178001 x178001_1 (⟨t180, t181, t182⟩ : S43) [.int .i64 t180, .int .i64 t181, .slice Ao28 t182.length co28] (fun k_ => (P0_1_ k_ ∨ w.heap.size ≤ k_) ∧ some k_ ≠ (.slice Ao8 y174.length co8 : Value).ownBlock ∧ k_ ≠ gb172 ∧ k_ ≠ gb173 ∧ k_ ≠ gb177 ∧ k_ ≠ gb179) (fun k_ => ((fun k_ => (P0_1_ k_ ∨ w.heap.size ≤ k_) ∧ some k_ ≠ (.slice Ao8 y174.length co8 : Value).ownBlock ∧ k_ ≠ gb172 ∧ k_ ≠ gb173 ∧ k_ ≠ gb177 ∧ k_ ≠ gb179)) k_ ∧ some k_ ≠ (u178001 : Value).ownBlock) rfl rfl ?aP (fun _ hk => hk) ?aF ?aO ?aB ?aS ?aL ?_
    (case aP => exact (k43_mkF _ _ (⟨t180, t181, t182⟩ : S43) (Kd.V_reads' (Kd.V_mono (ok' := (fun k_ => ((fun k_ => (P0_1_ k_ ∨ w.heap.size ≤ k_) ∧ some k_ ≠ (.slice Ao8 y174.length co8 : Value).ownBlock ∧ k_ ≠ gb172 ∧ k_ ≠ gb173 ∧ k_ ≠ gb177 ∧ k_ ≠ gb179)) k_ ∧ some k_ ≠ (u178001 : Value).ownBlock)) (HO184.out) (fun k_ hk => ⟨⟨hk.1, ⟨hk.2.1, ⟨hk.2.2.2.1, ⟨hk.2.2.2.2.1, ⟨hk.2.2.2.2.2.1, hk.2.2.2.2.2.2⟩⟩⟩⟩⟩, hk.2.2.1⟩))).2.1 (Kd.V_F (Kd.V_mono (ok' := (fun k_ => ((fun k_ => (P0_1_ k_ ∨ w.heap.size ≤ k_) ∧ some k_ ≠ (.slice Ao8 y174.length co8 : Value).ownBlock ∧ k_ ≠ gb172 ∧ k_ ≠ gb173 ∧ k_ ≠ gb177 ∧ k_ ≠ gb179)) k_ ∧ some k_ ≠ (u178001 : Value).ownBlock)) (HO184.out) (fun k_ hk => ⟨⟨hk.1, ⟨hk.2.1, ⟨hk.2.2.2.1, ⟨hk.2.2.2.2.1, ⟨hk.2.2.2.2.2.1, hk.2.2.2.2.2.2⟩⟩⟩⟩⟩, hk.2.2.1⟩)))))
    (case aB => exact (gB HB))
    (case aF => exact (fun k_ hk => ⟨(.inr (Nat.le_trans (below_size (gB HB)) hk)), Kd.fresh' (Kd.R_lt (gR HO_178000)) k_ hk, Kd.freshB (gK BK172) k_ hk, Kd.freshB (gK BK173) k_ hk, Kd.freshB (gK BK177) k_ hk, Kd.freshB (gK BK179) k_ hk⟩))
    (case aO => exact (gN HO_178001))
    (case aS => exact (below_size (gB HB)))
    (case aL => have := LMc18.out; omega)
    intro v186 w27 ho hb hg hat
    rw [← Ny185.out] at ho
    replace HO_11 := gA (Kd.V_afterv (ok := (fun k_ => (P0_1_ k_ ∨ w.heap.size ≤ k_) ∧ some k_ ≠ (.slice Ao8 y174.length co8 : Value).ownBlock ∧ k_ ≠ gb172 ∧ k_ ≠ gb173 ∧ k_ ≠ gb177 ∧ k_ ≠ gb179)) (Kd.V_mono HO_11.out (fun _ hk => ⟨⟨hk.1, ⟨hk.2.1, ⟨hk.2.2.2.1, ⟨hk.2.2.2.2.1, ⟨hk.2.2.2.2.2.1, hk.2.2.2.2.2.2⟩⟩⟩⟩⟩, hk.2.2.1⟩)) hg hat); replace HO_173001 := gA (Kd.V_afterv (ok := (fun k_ => (P0_1_ k_ ∨ w.heap.size ≤ k_) ∧ some k_ ≠ (.slice Ao8 y174.length co8 : Value).ownBlock ∧ k_ ≠ gb172 ∧ k_ ≠ gb173 ∧ k_ ≠ gb177 ∧ k_ ≠ gb179)) (Kd.V_mono HO_173001.out (fun _ hk => ⟨⟨hk.1, ⟨hk.2.1, ⟨hk.2.2.2.1, ⟨hk.2.2.2.2.1, ⟨hk.2.2.2.2.2.1, hk.2.2.2.2.2.2⟩⟩⟩⟩⟩, hk.2.2.1⟩)) hg hat); replace HO_178000 := gA (Kd.R_over' (gR HO_178000) (Kd.N_typed (gN HO_178001)) (by decide) hg); replace BK172 := gA (blk_grown (gK BK172) hg (Kd.N_ne HO_178001.out BK172.out (by decide))); replace BK173 := gA (blk_grown (gK BK173) hg (Kd.N_ne HO_178001.out BK173.out (by decide))); replace BK177 := gA (blk_grown (gK BK177) hg (Kd.N_ne HO_178001.out BK177.out (by decide))); replace HL178_2 := gA (Kd.V_afterv (ok := (fun k_ => (P0_1_ k_ ∨ w.heap.size ≤ k_) ∧ some k_ ≠ (.slice Ao8 y174.length co8 : Value).ownBlock ∧ k_ ≠ gb172 ∧ k_ ≠ gb173 ∧ k_ ≠ gb177 ∧ k_ ≠ gb179)) (Kd.V_mono HL178_2.out (fun _ hk => ⟨⟨hk.1, ⟨hk.2.1, ⟨hk.2.2.2.1, ⟨hk.2.2.2.2.1, ⟨hk.2.2.2.2.2.1, hk.2.2.2.2.2.2⟩⟩⟩⟩⟩, hk.2.2.1⟩)) hg hat); replace BK179 := gA (blk_grown (gK BK179) hg (Kd.N_away HO_178001.out (fun _ hk => hk.2.2.2.2.2))); replace HO184 := gA (Kd.V_afterv (ok := (fun k_ => (P0_1_ k_ ∨ w.heap.size ≤ k_) ∧ some k_ ≠ (.slice Ao8 y174.length co8 : Value).ownBlock ∧ k_ ≠ gb172 ∧ k_ ≠ gb173 ∧ k_ ≠ gb177 ∧ k_ ≠ gb179)) (Kd.V_mono HO184.out (fun _ hk => ⟨⟨hk.1, ⟨hk.2.1, ⟨hk.2.2.2.1, ⟨hk.2.2.2.2.1, ⟨hk.2.2.2.2.2.1, hk.2.2.2.2.2.2⟩⟩⟩⟩⟩, hk.2.2.1⟩)) hg hat); replace HB := gA (hb); have HO187 := gA (ho); clear HO_178001 ho hb hg hat
    obtain ⟨Ao29, co29, eo29⟩ := Kd.N_slice HO187.out
    (first | subst eo29 | (injection eo29 with f1_ f2_ f3_; have f4_ := f1_.symm; have f5_ := f3_.symm; clear f1_ f2_ f3_; subst f4_; subst f5_))
    refine hK.out _ _ ⟨(blk_cell BK177.out 0).trans rfl, (blk_cell BK177.out 1).trans rfl, (blk_cell BK179.out 0).trans rfl, (blk_cell BK179.out 1).trans rfl, (blk_cell BK179.out 2).trans rfl⟩ (fun hHeld => ?_); clear hK K
    refine norm_ (a' := ?_) ?_ ?_; rotate_left
    ·show Act.put _ (some 22) _ = _
     simp only [Act.put, List.setIfInBounds_toArray, List.set_cons_zero, List.set_cons_succ, i64_w, i32_w]; rfl
    refine pure_ (i := 6) (N := some 23) (v := ?_) (a' := ?_) #[true, true, true, true, true, true, true, false] rfl rfl (any_of HT_.out (by kernel_rfl)) (fun _ _ _ h => h) (Or.inl ⟨by rfl, ?_⟩) ?_ ?_; rotate_left
    ·intro w'; go_simp; with_reducible rfl
    rotate_left
    ·simp only [Act.put, List.setIfInBounds_toArray, List.set_cons_zero, List.set_cons_succ, i64_w, i32_w]; rfl
    refine last_ (i := 7) (N := none) #[true, true, true, true, true, true, true, true] rfl rfl (one_of HT_.out (by kernel_rfl)) (by decide) (fun K hK => ?_)
    have hs30 := gz BK177 1 rfl
    have hfs30 := blk_frozen BK177.out 1
    have hns30_0 := NB172_177.out
    have hns30_1 := NB173_177.out
    have hns30_3 := NB179_177.out
    have hms30_0 := NB177_172.out
    have hms30_1 := NB177_173.out
    have hms30_3 := NB177_179.out
    refine skip_ (w1 := ?_) (by rfl) rfl ?_ ?_; rotate_left
    ·go_simp; rfl
    refine hK.out _ _ ?_; clear hK K
    refine done_ (done_of HT_.out (by kernel_rfl)) ?_
    try go_wp2
    go_roundg k1
    case measure => have := HK1.out; omega
    case rel => exact ⟨(wrap64 (x13_1 + 1)), (y185), (.slice Ao29 y185.length co29), (rfl), H', ⟨by have := HK1.out; omega⟩, ⟨Kd.V_mono (Kd.V_far (p := ⟨gb177, 1, none⟩) (Kd.V_mono HO_11.out (fun k_ hk => (⟨hk, hk.1.2.2.2.2.1⟩ : _ ∧ k_ ≠ gb177))) (fun _ hk => hk.2) (.slice Ao29 y185.length co29)) (fun _ hk => by first | exact ⟨hk.1.1.1, ⟨hk.1.1.2.1, ⟨hk.1.2, ⟨hk.1.1.2.2.1, ⟨hk.1.1.2.2.2.1, hk.1.1.2.2.2.2.1⟩⟩⟩⟩⟩ | (simp_all; done))⟩, ⟨Kd.V_mono (Kd.V_far (p := ⟨gb177, 1, none⟩) (Kd.V_mono HO_173001.out (fun k_ hk => (⟨hk, hk.1.2.2.2.2.1⟩ : _ ∧ k_ ≠ gb177))) (fun _ hk => hk.2) (.slice Ao29 y185.length co29)) (fun _ hk => by first | exact ⟨hk.1.1.1, ⟨hk.1.1.2.1, ⟨hk.1.2, ⟨hk.1.1.2.2.1, ⟨hk.1.1.2.2.2.1, hk.1.1.2.2.2.2.1⟩⟩⟩⟩⟩ | (simp_all; done))⟩, ⟨Kd.R_mono (Kd.R_far (p := ⟨gb177, 1, none⟩) (Kd.R_types HO_178000.out BK177.out (by decide)) (fun _ hk => hk.2) (.slice Ao29 y185.length co29)) (fun _ hk => hk.1)⟩, ⟨Kd.N_mono (Kd.N_far (p := ⟨gb177, 1, none⟩) (Kd.N_mono HO187.out (fun k_ hk => (⟨hk, hk.2.2.2.2.1⟩ : _ ∧ k_ ≠ gb177))) (fun _ hk => hk.2) (.slice Ao29 y185.length co29)) (fun _ hk => ⟨hk.1.1, ⟨hk.1.2.1, ⟨hk.1.2.2.1, ⟨hk.1.2.2.2.1, hk.1.2.2.2.2.1⟩⟩⟩⟩)⟩, ⟨by refine blk_far ?_ NB172_177.out _; exact gK BK172⟩, ⟨by refine blk_far ?_ NB173_177.out _; exact gK BK173⟩, ⟨by refine blk_put (cs := #[.slice Ao8 y174.length co8, u178001]) ?_ 1 _ rfl; exact gK BK177⟩, ⟨by repeat first | exact gB HB | refine below_set ?_ GE172.out | refine below_set ?_ GE173.out | refine below_set ?_ GE177.out | refine below_set ?_ GE179.out⟩⟩
   ·rw [if_neg c14] at H
    have c14b0 := decide_eq_false c14
    clear c14
    simp only [Option.some.injEq, Prod.mk.injEq] at H
    obtain ⟨rfl, rfl⟩ := H
    have hnb31 := NB177_172.out
    have hnc31 := NB172_177.out
    have hnb32 := NB177_173.out
    have hnc32 := NB173_177.out
    obtain ⟨hcz33_0, hcz33_1, hfz33_0, hfz33_1⟩ := gz2 BK177
    have hnb34 := NB173_172.out
    have hnc34 := NB172_173.out
    obtain ⟨hcz35_0, hcz35_1, hfz35_0, hfz35_1⟩ := gz2 BK173
    obtain ⟨Ao36, co36, eo36⟩ := Kd.N_slice HO_178001.out
    subst eo36
    go_wp2
    refine bodyPost_ret (results_cell_row rfl _ _ gb173 25 #[.slice Ao8 y174.length co8, .slice Ao36 x178001_1.length co36] (0, 0) _ rfl (by refine blk_put (cs := #[.slice Ao8 y174.length co8, .slice none 0 0]) ?_ 1 _ rfl; refine blk_put (cs := #[.slice none 0 0, .slice none 0 0]) ?_ 0 _ rfl; exact gK BK173) Try.underlying25 rfl (by kernel_rfl)) rfl ?_
    exact ⟨_, _, rfl, Kd.R_mono (Kd.R_far (p := ⟨gb173, 1, none⟩) (Kd.R_far (p := ⟨gb173, 0, none⟩) (Kd.R_types HO_178000.out BK173.out (by decide)) (fun _ hk => hk.2) (.slice Ao8 y174.length co8)) (fun _ hk => hk.2) (.slice Ao36 x178001_1.length co36)) (fun _ hk => hk.1), Kd.N_mono (Kd.N_far (p := ⟨gb173, 1, none⟩) (Kd.N_far (p := ⟨gb173, 0, none⟩) (Kd.N_mono HO_178001.out (fun k_ hk => (⟨hk, hk.2.2.2.1⟩ : _ ∧ k_ ≠ gb173))) (fun _ hk => hk.2) (.slice Ao8 y174.length co8)) (fun _ hk => hk.2) (.slice Ao36 x178001_1.length co36)) (fun _ hk => ⟨hk.1.1, hk.1.2.1⟩), by repeat first | exact gB HB | refine below_set ?_ GE172.out | refine below_set ?_ GE173.out | refine below_set ?_ GE177.out⟩
theorem scc54.calls (k : Nat) : (∀ (a0_0 : Int) (a0_1 : Int) (P0_2_ : Nat → Prop) (A0_2 : Option Addr) (c0_2 : Nat) (l0_2 : List (S25)) (r1 : Int) (r2 : Int) (r3 : List (S25)) (w : World) (hs0_2 : Kd.V k25 25 w w.heap.size (fun k_ => P0_2_ k_) (.slice A0_2 l0_2.length c0_2) l0_2) (h : arr_copied.f k a0_0 a0_1 l0_2 = some (r1, r2, r3)),
  Calls Try.prog 54 #[.agg #[.int .i64 a0_0, .int .i64 a0_1, .slice A0_2 l0_2.length c0_2]] w fun e w' => ∃ v2_ : Value, e = .returned (.agg #[.int .i64 r1, .int .i64 r2, v2_]) ∧ Kd.V k25 25 w' w.heap.size (fun k_ => (P0_2_ k_ ∨ w.heap.size ≤ k_)) v2_ r3 ∧ Below w.heap.size w w') ∧ (∀ (A0_0 : Option Addr) (c0_0 : Nat) (l0_0 : List Int) (P0_1_ : Nat → Prop) (A0_1 : Option Addr) (c0_1 : Nat) (l0_1 : List (S43)) (r1 : List Int) (r2 : List (S43)) (w : World) (hr0_0 : Kd.C (Kd.int .i64) w A0_0 l0_0.length l0_0) (hc0_0 : l0_0.length ≤ c0_0) (hs0_1 : Kd.V k43 43 w w.heap.size (fun k_ => P0_1_ k_) (.slice A0_1 l0_1.length c0_1) l0_1) (h : arr_Copy.f k l0_0 l0_1 = some (r1, r2)),
  Calls Try.prog 26 #[.agg #[.slice A0_0 l0_0.length c0_0, .slice A0_1 l0_1.length c0_1]] w fun e w' => ∃ v0_ v1_ : Value, e = .returned (.agg #[v0_, v1_]) ∧ Kd.R (Kd.int .i64) 3 w' w.heap.size (fun k_ => (w.heap.size ≤ k_)) v0_ r1 ∧ Kd.N k43 43 w' w.heap.size (fun k_ => (P0_1_ k_ ∨ w.heap.size ≤ k_) ∧ some k_ ≠ (v0_ : Value).ownBlock) v1_ r2 ∧ Below w.heap.size w w') := by
 induction k using Nat.strongRecOn with
 | _ k ih =>
 exact ⟨arr_copied.step k (fun k_ h_ => (ih k_ h_).1) (fun k_ h_ => (ih k_ h_).2), arr_Copy.step k (fun k_ h_ => (ih k_ h_).1) (fun k_ h_ => (ih k_ h_).2)⟩
theorem arr_copied.calls (k : Nat) : ∀ (a0_0 : Int) (a0_1 : Int) (P0_2_ : Nat → Prop) (A0_2 : Option Addr) (c0_2 : Nat) (l0_2 : List (S25)) (r1 : Int) (r2 : Int) (r3 : List (S25)) (w : World) (hs0_2 : Kd.V k25 25 w w.heap.size (fun k_ => P0_2_ k_) (.slice A0_2 l0_2.length c0_2) l0_2) (h : arr_copied.f k a0_0 a0_1 l0_2 = some (r1, r2, r3)),
  Calls Try.prog 54 #[.agg #[.int .i64 a0_0, .int .i64 a0_1, .slice A0_2 l0_2.length c0_2]] w fun e w' => ∃ v2_ : Value, e = .returned (.agg #[.int .i64 r1, .int .i64 r2, v2_]) ∧ Kd.V k25 25 w' w.heap.size (fun k_ => (P0_2_ k_ ∨ w.heap.size ≤ k_)) v2_ r3 ∧ Below w.heap.size w w' := (scc54.calls k).1
theorem arr_Copy.calls (k : Nat) : ∀ (A0_0 : Option Addr) (c0_0 : Nat) (l0_0 : List Int) (P0_1_ : Nat → Prop) (A0_1 : Option Addr) (c0_1 : Nat) (l0_1 : List (S43)) (r1 : List Int) (r2 : List (S43)) (w : World) (hr0_0 : Kd.C (Kd.int .i64) w A0_0 l0_0.length l0_0) (hc0_0 : l0_0.length ≤ c0_0) (hs0_1 : Kd.V k43 43 w w.heap.size (fun k_ => P0_1_ k_) (.slice A0_1 l0_1.length c0_1) l0_1) (h : arr_Copy.f k l0_0 l0_1 = some (r1, r2)),
  Calls Try.prog 26 #[.agg #[.slice A0_0 l0_0.length c0_0, .slice A0_1 l0_1.length c0_1]] w fun e w' => ∃ v0_ v1_ : Value, e = .returned (.agg #[v0_, v1_]) ∧ Kd.R (Kd.int .i64) 3 w' w.heap.size (fun k_ => (w.heap.size ≤ k_)) v0_ r1 ∧ Kd.N k43 43 w' w.heap.size (fun k_ => (P0_1_ k_ ∨ w.heap.size ≤ k_) ∧ some k_ ≠ (v0_ : Value).ownBlock) v1_ r2 ∧ Below w.heap.size w w' := (scc54.calls k).2
def fold_axis.f (l0_0 : List Int) (l0_1 : List (S43)) (a1 : Bool) : Option (Int) := if a1 = true then (some (wrap64 ((l0_0.length : Int) - 1))) else (some 0)
set_option maxHeartbeats 8000000 in
set_option maxRecDepth 100000 in
theorem fold_axis.calls (A0_0 : Option Addr) (c0_0 : Nat) (l0_0 : List Int) (A0_1 : Option Addr) (c0_1 : Nat) (l0_1 : List (S43)) (a1 : Bool) (r : Int) (w : World) (hr0_0 : Kd.C (Kd.int .i64) w A0_0 l0_0.length l0_0) (hc0_0 : l0_0.length ≤ c0_0) (hr0_1 : Kd.C k43 w A0_1 l0_1.length l0_1) (hc0_1 : l0_1.length ≤ c0_1) (h : fold_axis.f l0_0 l0_1 a1 = some r) :
  Calls Try.prog 27 #[.agg #[.slice A0_0 l0_0.length c0_0, .slice A0_1 l0_1.length c0_1], .bool a1] w fun e w' => e = .returned (.int .i64 r) ∧ Below w.heap.size w w' := by
 have hu25 := Try.underlying25
 have HR0_0 := gA hr0_0
 have HC0_0 := gA hc0_0
 clear hr0_0 hc0_0
 have HR0_1 := gA hr0_1
 have HC0_1 := gA hc0_1
 clear hr0_1 hc0_1
 have HB := gA (Below.refl w.heap.size w)
 have H : (if a1 = true then (some (wrap64 ((l0_0.length : Int) - 1))) else (some 0)) = some r := h
 clear h
 have HC3 := gA H
 clear H
 go_enter Try.func27, Try.ntmps27
 go_upto_if 5 with (first | ((with_reducible refine gate_dst (N := 2) rfl ?_); refine box_event ?hg (N := 2) ?hd (cs := #[.slice A0_0 l0_0.length c0_0, .slice A0_1 l0_1.length c0_1]) (t := 25) ?hr ?_; (case hd => rfl); (case hg => rfl); (case hr => first | (go_simp; done) | (go_simp; rfl)); intro gb188 hg w4 hbox hb; have BK188 := gA (hbox); have GW188 := gA ((by rw [hg]; exact (below_size (gB HB)) : w.heap.size ≤ gb188)); have GE188 := gA ((by rw [hg]; exact (below_size (gB HB)) : w.heap.size ≤ gb188)); replace HB := gA (below_step (gB HB) hb); clear hb hbox hg))
 have H := HC3.out; clear HC3
 by_cases c5 : a1 = true
 ·subst c5
  have H1 : (some (wrap64 ((l0_0.length : Int) - 1))) = some r := by rw [if_pos rfl] at H; exact H
  clear H; have H := H1; clear H1
  obtain rfl := Option.some.inj H
  obtain ⟨hcz6_0, hcz6_1, hfz6_0, hfz6_1⟩ := gz2 BK188
  go_wp2
  go_ret
  exact ⟨rfl, by repeat first | exact gB HB | refine below_set ?_ GE188.out⟩
 ·replace c5 := Bool.eq_false_iff.mpr c5
  subst c5
  have H1 : (some 0) = some r := by rw [if_neg (show ¬ (false = true) by decide)] at H; exact H
  clear H; have H := H1; clear H1
  obtain rfl := Option.some.inj H
  go_wp2
  go_ret
  exact ⟨rfl, by repeat first | exact gB HB | refine below_set ?_ GE188.out⟩
/-- A row of the call's own, one element taken out of it. -/
theorem sh_typed (g : Nat) (t : TypeId) : ∀ (vs : List Value) (o : Nat) (W : World) (cur : Array Value), W.heap[g]? = some (.cells cur t (0, 0)) → ∃ cur' : Array Value, (W.setCells g o vs).heap[g]? = some (.cells cur' t (0, 0)) ∧ cur'.size = cur.size
 | [], _, W, cur, h => ⟨cur, h, rfl⟩
 | v :: r, o, W, cur, h => by
  obtain ⟨c2, h1, h2⟩ := sh_typed g t r (o + 1) _ _ (blk_set h o v)
  exact ⟨c2, h1, by rw [h2]; simp⟩
theorem sh_belows (g B : Nat) (hg : B ≤ g) {w : World} : ∀ (vs : List Value) (o : Nat) (W : World), Below B w W → Below B w (W.setCells g o vs)
 | [], _, W, h => h
 | v :: r, o, _, h => sh_belows g B hg r (o + 1) _ (Below.setCell h hg v)
theorem sh_keeps (g k : Nat) (hk : k ≠ g) : ∀ (vs : List Value) (o : Nat) (W : World), (W.setCells g o vs).heap[k]? = W.heap[k]?
 | [], _, _ => rfl
 | v :: r, o, W => (sh_keeps g k hk r (o + 1) _).trans (Below.heap_setCell W ⟨g, o, none⟩ v k hk)
theorem slices_Delete_int_int.calls (W : World) (base : Nat) (v : Value) (zs : List Int) (i : Nat) (hR : Kd.R (Kd.int .i64) 3 W base (fun _ => True) v zs) (hi : i < zs.length) :
  Calls Try.prog 28 #[v, .int .i64 (i : Int), .int .i64 ((i : Int) + 1)] W fun e W' => ∃ (g cap : Nat) (cur : Array Value), e = .returned (.slice (some ⟨g, 0, none⟩) (zs.take i ++ zs.drop (i + 1)).length cap) ∧ (zs.take i ++ zs.drop (i + 1)).length ≤ cap ∧ base ≤ g ∧ W'.heap[g]? = some (.cells cur 3 (0, 0)) ∧ (∀ X : World, X.heap[g]? = some (.cells cur 3 (0, 0)) → (Kd.int .i64).C X (some ⟨g, 0, none⟩) (zs.take i ++ zs.drop (i + 1)).length (zs.take i ++ zs.drop (i + 1))) ∧ Below base W W' ∧ (∀ k, k ≠ g → k < W.heap.size → W'.heap[k]? = W.heap[k]?) := by
 obtain ⟨g, cap, rfl, hg, hlt, cells, hb⟩ := Kd.R_form hR (by omega)
 obtain ⟨h1, h2, h3⟩ := Kd.R_reads' hR
 obtain ⟨h0, inner, ho, hr⟩ := hR
 have hcells : ∀ j, j < zs.length → W.cell? ⟨g, 0 + j, none⟩ = some (.int .i64 (zs.getD j 0)) := by
  intro j hj
  obtain ⟨ad, ea, hx⟩ := Kd.at_int h3 (j : Int) (by omega) (by omega)
  injection ea with ea
  subst ea
  rw [Int.toNat_natCast, add_plain] at hx
  rw [Nat.zero_add, hx]
  simp [rd]
 have hcap : cap ≤ 9223372036854775807 := by
  obtain ⟨_, hq⟩ := ho
  rcases hq with ⟨hq, _⟩ | ⟨g', cap', cur, hv, _, _, _, hm, _⟩
  ·cases hq
  ·injection hv with _ _ hc
   subst hc
   unfold maxLen at hm
   omega
 refine (sh_slices_Delete_int_cells g 0 zs.length cap i (i + 1) zs W (Nat.le_refl _) h2 hcap (by omega) (by omega) hcells (fun j _ => blk_frozen hb _)).mono ?_
 rintro e W' ⟨rfl, q, rfl⟩
 have hcs : ∀ j, j < zs.length → (W.drewN q).cell? ⟨g, 0 + j, none⟩ = some (.int .i64 (zs.getD j 0)) := fun j hj => ((pw_below_drewN (Below.refl _ _) q).cell (p := ⟨g, 0 + j, none⟩) hlt).trans (hcells j hj)
 have hbq : (W.drewN q).heap[g]? = some (.cells cells 3 (0, 0)) := blk_below hb (pw_below_drewN (Below.refl _ _) q)
 rw [List.take_length]
 generalize hns : ((zs.take i ++ zs.drop (i + 1) ++ List.replicate (i + 1 - i) 0).map (Value.int .i64)) = ns
 have hnl : ns.length = zs.length := by rw [← hns]; simp; omega
 obtain ⟨cur', hc1, hc2⟩ := sh_typed g 3 ns 0 (W.drewN q) cells hbq
 have hin := World.cell?_setCells_in g ns 0 (W.drewN q) (fun j hj => by rw [hcs j (by omega)]; rfl)
 have hn1 : zs.length - (i + 1 - i) = (zs.take i ++ zs.drop (i + 1)).length := by simp; omega
 refine ⟨g, cap, cur', by rw [← hn1], by omega, hg, hc1, fun X hX => ⟨rfl, by omega, fun _ => ⟨_, rfl, fun j p hp => ⟨[.int .i64 p], rfl, rfl, fun q u hu => ?_⟩⟩⟩, sh_belows g base hg ns 0 _ (pw_below_drewN (Below.refl base W) q), fun k hk hl => (sh_keeps g k hk ns 0 _).trans ((pw_below_drewN (Below.refl _ _) q).block k hl)⟩
 have hq : q = 0 := by have := (List.getElem?_eq_some_iff.1 hu).1; simp at this; omega
 subst hq
 have hj := (List.getElem?_eq_some_iff.1 hp).1
 have hjn : j < ns.length := by omega
 have h5 := hin j hjn
 rw [Nat.zero_add, blk_cell hc1 j] at h5
 have h6 : ns[j]? = some ns[j] := List.getElem?_eq_getElem hjn
 rw [show j * (Kd.int .i64).sz + 0 = j from by show j * 1 + 0 = j; omega, add_plain, blk_cell hX j, h5, ← h6, ← hns, List.map_append, List.getElem?_append_left (by rw [List.length_map]; exact hj), List.getElem?_map, hp]
 simpa using hu
def slices_Clone_int_int.f (l0 : List Int) : Option (List Int) := if l0.length < 17592186044416 then some l0 else none
set_option maxRecDepth 100000 in
theorem slices_Clone_int_int.calls (A0 : Option Addr) (c0 : Nat) (l0 : List Int) (r : List Int) (w : World) (hr0 : Kd.C (Kd.int .i64) w A0 l0.length l0) (hc0 : l0.length ≤ c0) (h : slices_Clone_int_int.f l0 = some r) :
  Calls Try.prog 29 #[.slice A0 l0.length c0] w fun e w' => ∃ v0_ : Value, e = .returned (v0_) ∧ Kd.R (Kd.int .i64) 3 w' w.heap.size (fun _ => True) v0_ r ∧ Below w.heap.size w w' := by
 unfold slices_Clone_int_int.f at h
 by_cases hl : l0.length < 17592186044416
 ·rw [if_pos hl] at h
  obtain rfl := Option.some.inj h
  have HL := Aside0.mk hl
  have HR := Aside0.mk hr0
  have HC := Aside0.mk hc0
  clear hl h hr0 hc0
  cases A0 with
  | none =>
   obtain rfl : l0 = [] := by
    rcases Nat.eq_zero_or_pos l0.length with hz | hz
    ·exact List.eq_nil_of_length_eq_zero hz
    ·obtain ⟨ad, ha, _⟩ := HR.out.2.2 hz
     cases ha
   show Calls Try.prog 29 #[.slice none 0 c0] w _
   have hb : ∀ W : World, Sem.run Try.prog (binOp BinOp.eql 22 (.slice none 0 c0) (.slice none 0 0)) W = Result.ok (Value.bool true) W := fun _ => rfl
   go_enter Try.func29, Try.ntmps29
   go_wp2
   go_ret
   exact ⟨_, rfl, Kd.R_nil _ _ _ _ _, Below.refl _ _⟩
  | some ad =>
   have hb : ∀ W : World, Sem.run Try.prog (binOp BinOp.eql 22 (.slice (some ad) l0.length c0) (.slice none 0 0)) W = Result.ok (Value.bool false) W := fun _ => rfl
   go_enter Try.func29, Try.ntmps29
   go_wp2_with (first | ((with_reducible refine gate_dst (N := 5) rfl ?_); refine Kd.R_lit (Kd.int .i64) (w0 := w) w.heap.size 3 rfl (N := 5) rfl (xs := []) (inner := []) (ok := fun _ => True) (okp := fun _ => False) (by first | (go_simp; done) | (go_simp; rfl)) (Reps.none _ _) (fun _ h => h.elim) trivial (Below.refl _ _) (Nat.le_refl _) (by decide) ?_; intro v1 w1 ho hb1 hg hat; have HO := Aside0.mk ho; have HB := Aside0.mk hb1; clear ho hb1 hg hat) | ((with_reducible refine gate_builtin (b := .append) (xs := #[.tmp 5, .tmp 6]) rfl ?_); at_builtin; refine Kd.R_append_rows (Kd.int .i64) (w0 := w) w.heap.size rfl (.tmp 5) (.tmp 6) 22 3 (.int .i64 0) 8 rfl Try.underlying22 info3 rfl (by decide) (by omega) v1 ([] : List Int) l0 _ _ _ (fun _ => True) (fun _ => False) rfl rfl HO.out (Kd.C_below HR.out HB.out) (fun _ _ h => h) (fun _ h => h.elim) (fun _ _ => trivial) HB.out HB.out.size (by have := HL.out; simp; omega) ?_; intro v2 w2 ho hb2 hg hat; rw [List.nil_append] at ho; have HO2 := Aside0.mk ho; have HB2 := Aside0.mk hb2; clear ho hb2 hg hat))
   go_ret
   exact ⟨_, rfl, HO2.out, HB2.out⟩
 ·rw [if_neg hl] at h
  cases h
def fold_lines.wp : Int → List Int → Int
 | x, [] => x
 | x, d :: r => fold_lines.wp (wrap64 (x * d)) r
def fold_lines.f (l0 : List Int) (a1 : Int) : Option (Int × Int × Int) := if 0 ≤ a1 ∧ a1 < (l0.length : Int) then some (fold_lines.wp 1 (l0.take a1.toNat), fold_lines.wp 1 (l0.drop (a1.toNat + 1)), rd l0 a1) else none
theorem fold_lines.step (x : Int) (l : List Int) (i : Nat) (h : i < l.length) : fold_lines.wp x (l.drop i) = fold_lines.wp (wrap64 (x * rd l (i : Int))) (l.drop (i + 1)) := by
 have e : rd l (i : Int) = l[i] := by simp [rd, List.getElem?_eq_getElem h]
 rw [List.drop_eq_getElem_cons h, fold_lines.wp, e]
set_option maxHeartbeats 8000000 in
set_option maxRecDepth 100000 in
theorem fold_lines.calls (A0 : Option Addr) (c0 : Nat) (l0 : List Int) (a1 : Int) (r1 : Int) (r2 : Int) (r3 : Int) (w : World) (hr0 : Kd.C (Kd.int .i64) w A0 l0.length l0) (hc0 : l0.length ≤ c0) (h : fold_lines.f l0 a1 = some (r1, r2, r3)) :
  Calls Try.prog 31 #[.slice A0 l0.length c0, .int .i64 a1] w fun e w' => e = .returned (.tuple #[.int .i64 r1, .int .i64 r2, .int .i64 r3]) ∧ Drawn0 w w' := by
 unfold fold_lines.f at h
 by_cases c : 0 ≤ a1 ∧ a1 < (l0.length : Int)
 ·rw [if_pos c] at h
  simp only [Option.some.injEq, Prod.mk.injEq] at h
  obtain ⟨rfl, rfl, rfl⟩ := h
  obtain ⟨a, rfl⟩ := Int.eq_ofNat_of_zero_le c.1
  rw [Int.toNat_natCast]
  have hal : a < l0.length := by have := c.2; omega
  obtain ⟨i0, hi0, _, hsz, _⟩ := info_parts info3
  obtain ⟨A2, hcut, hA2, hC2⟩ := print_drop_of (P := Try.prog) (Value.int .i64) 0 22 3 .i64 Try.underlying22 hi0 hsz A0 c0 l0 ((a : Int) + 1) (by omega) (by omega) hc0
  have HR2 := Aside0.mk (Kd.C_of_reads (h1 := fun _ => rfl) (hA2 _ (Kd.reads_of_C hr0)))
  have hlen := hr0.2.1
  rw [show ((a : Int) + 1).toNat = a + 1 by omega] at hcut HR2
  obtain ⟨ad, rfl, hca⟩ := Kd.at_int hr0 (a : Int) (by omega) (by omega)
  rw [Int.toNat_natCast] at hca
  have HCA := Aside0.mk hca
  have HR0 := Aside0.mk hr0
  have HAL := Aside0.mk (And.intro hal (And.intro hc0 hlen))
  have hw1 : wrap64 ((a : Int) + 1) = (a : Int) + 1 := by unfold wrap64; omega
  have hs0 : (0 : Int) ≤ (a : Int) := by omega
  have hs1 : (a : Int) ≤ (c0 : Int) := by omega
  have hs2 : a ≤ c0 := by omega
  have hs3 : a < l0.length := hal
  generalize hx1 : fold_lines.wp 1 (l0.take a) = R1
  generalize hx2 : fold_lines.wp 1 (l0.drop (a + 1)) = R2
  have HX1 := Aside0.mk hx1
  have HX2 := Aside0.mk hx2
  clear hx1 hx2 hca hr0 hc0 hal hC2 hA2 hi0 hsz c hlen
  go_enter Try.func31, Try.ntmps31
  go_wp2
  go_loopg [4, 15] a (fun kq v4 v15 w' => ∃ (i : Nat) (x : Int), v4 = .int .i64 x ∧ v15 = .int .i64 (i : Int) ∧ Aside0 (i + kq = a) ∧ Aside0 (fold_lines.wp x ((l0.take a).drop i) = R1) ∧ Drawn0 w w')
  case atStart => exact ⟨0, 1, rfl, rfl, ⟨by omega⟩, HX1, by repeat (first | exact Drawn0.refl _ | apply Drawn0.step)⟩
  case round =>
   clear HX1
   obtain ⟨i, x, rfl, rfl, HI, HX, m1, rfl⟩ := hrel
   have HTL := Aside0.mk (show (l0.take a).length = a by rw [List.length_take]; have := HAL.out; omega)
   cases gk with
   | zero =>
    have hni : ¬ i < a := by have := HI.out; omega
    obtain rfl : x = R1 := by
     have := HX.out
     rwa [List.drop_eq_nil_of_le (by have := HTL.out; have := HI.out; omega), fold_lines.wp] at this
    go_wp2
    go_loopg [5, 28] (l0.drop (a + 1)).length (fun kq v5 v28 w' => ∃ (j : Nat) (y : Int), v5 = .int .i64 y ∧ v28 = .int .i64 (j : Int) ∧ Aside0 (j + kq = (l0.drop (a + 1)).length) ∧ Aside0 (fold_lines.wp y ((l0.drop (a + 1)).drop j) = R2) ∧ Drawn0 w w')
    case atStart => exact ⟨0, 1, rfl, rfl, ⟨by omega⟩, HX2, by repeat (first | exact Drawn0.refl _ | apply Drawn0.step)⟩
    case round =>
     clear HX2
     obtain ⟨j, y, rfl, rfl, HJ, HY, m2, rfl⟩ := hrel
     have HLD := Aside0.mk (show (l0.drop (a + 1)).length = l0.length - (a + 1) from List.length_drop)
     cases gk with
     | zero =>
      have hnj : ¬ j < l0.length - (a + 1) := by have := HJ.out; have := HLD.out; omega
      obtain rfl : y = R2 := by
       have := HY.out
       rwa [List.drop_eq_nil_of_le (by have := HJ.out; omega), fold_lines.wp] at this
      have hca := HCA.out
      go_wp2
      repeat (go_quiet (fail); try go_wp2)
      go_ret3
      exact ⟨rfl, by repeat (first | exact Drawn0.refl _ | apply Drawn0.step)⟩
     | succ q =>
      have hnj : j < l0.length - (a + 1) := by have := HJ.out; have := HLD.out; omega
      obtain ⟨ad2, e2, hcj⟩ := Kd.at_int HR2.out (j : Int) (by omega) (by have := HJ.out; omega)
      subst e2
      rw [Int.toNat_natCast] at hcj
      have HWJ : Aside0 (wrap64 ((j : Int) + 1) = ((j + 1 : Nat) : Int)) := ⟨by have := HAL.out; unfold wrap64; omega⟩
      have hj0 : (0 : Int) ≤ (j : Int) := by omega
      go_wp2
      go_roundg q
      case measure => omega
      case rel => exact ⟨j + 1, _, rfl, congrArg (Value.int .i64) HWJ.out, ⟨by have := HJ.out; omega⟩, ⟨(fold_lines.step y _ j (by have := HJ.out; omega)).symm.trans HY.out⟩, by repeat (first | exact Drawn0.refl _ | apply Drawn0.step)⟩
   | succ q =>
    have hni : i < a := by have := HI.out; omega
    obtain ⟨ad1, e1, hci⟩ := Kd.at_int HR0.out (i : Int) (by omega) (by have := HAL.out; omega)
    have e1 := (Option.some.inj e1).symm
    subst e1
    rw [Int.toNat_natCast, show rd l0 (i : Int) = rd (l0.take a) (i : Int) by unfold rd; rw [Int.toNat_natCast]; simp [List.getElem?_take, hni]] at hci
    have HWI : Aside0 (wrap64 ((i : Int) + 1) = ((i + 1 : Nat) : Int)) := ⟨by have := HAL.out; unfold wrap64; omega⟩
    have hi0 : (0 : Int) ≤ (i : Int) := by omega
    go_wp2
    go_roundg q
    case measure => omega
    case rel => exact ⟨i + 1, _, rfl, congrArg (Value.int .i64) HWI.out, ⟨by have := HI.out; omega⟩, ⟨(fold_lines.step x _ i (by have := HTL.out; omega)).symm.trans HX.out⟩, by repeat (first | exact Drawn0.refl _ | apply Drawn0.step)⟩
 ·rw [if_neg c] at h
  cases h
def atomic_truth.f (a0 : Bool) : Option (Int) := if a0 = true then (some 1) else (some 0)
set_option maxHeartbeats 8000000 in
set_option maxRecDepth 100000 in
theorem atomic_truth.calls (a0 : Bool) (r : Int) (w : World) (h : atomic_truth.f a0 = some r) :
  Calls Try.prog 71 #[.bool a0] w fun e w' => e = .returned (.int .i64 r) ∧ Drawn0 w w' := by
 have H : (if a0 = true then (some 1) else (some 0)) = some r := h
 clear h
 by_cases c2 : a0 = true
 ·subst c2
  have H1 : (some 1) = some r := by rw [if_pos rfl] at H; exact H
  clear H; have H := H1; clear H1
  obtain rfl := Option.some.inj H
  go_enter Try.func71, Try.ntmps71
  go_wp2
  go_ret
  exact ⟨rfl, by repeat (first | exact Drawn0.refl _ | apply Drawn0.step)⟩
 ·replace c2 := Bool.eq_false_iff.mpr c2
  subst c2
  have H1 : (some 0) = some r := by rw [if_neg (show ¬ (false = true) by decide)] at H; exact H
  clear H; have H := H1; clear H1
  obtain rfl := Option.some.inj H
  go_enter Try.func71, Try.ntmps71
  go_wp2
  go_ret
  exact ⟨rfl, by repeat (first | exact Drawn0.refl _ | apply Drawn0.step)⟩
def atomic_held.v (op a b : Int) : Int := if op = 29 then (if a < b then 1 else 0) else if op = 30 then (if b < a then 1 else 0) else if op = 31 then (if a ≤ b then 1 else 0) else if op = 32 then (if b ≤ a then 1 else 0) else if op = 27 then (if a = b then 1 else 0) else (if a = b then 0 else 1)
def atomic_held.f (a0 a1 a2 : Int) : Option Int := if 27 ≤ a0 ∧ a0 ≤ 32 then some (atomic_held.v a0 a1 a2) else none
theorem held_ret {x y : Int} (h : x = y) : Ending.returned (.int .i64 x) = .returned (.int .i64 y) := by rw [h]
theorem held_truth (c : Prop) [Decidable c] : atomic_truth.f (decide c) = some (if c then 1 else 0) := by
 unfold atomic_truth.f
 by_cases h : c
 ·rw [if_pos (decide_eq_true h), if_pos h]
 ·rw [if_neg (by rw [decide_eq_false h]; decide), if_neg h]
set_option maxHeartbeats 2000000 in
set_option maxRecDepth 100000 in
theorem atomic_held.calls (a0 a1 a2 r : Int) (w : World) (h : atomic_held.f a0 a1 a2 = some r) :
  Calls Try.prog 72 #[.int .i64 a0, .int .i64 a1, .int .i64 a2] w fun e w' => e = .returned (.int .i64 r) ∧ Below w.heap.size w w' := by
 have hu1 := Try.underlying105
 have hu2 := Try.underlying106
 unfold atomic_held.f at h
 by_cases hc : 27 ≤ a0 ∧ a0 ≤ 32
 ·rw [if_pos hc] at h
  obtain rfl := Option.some.inj h
  have HB := Aside0.mk (Below.refl w.heap.size w)
  rcases (by omega : a0 = 27 ∨ a0 = 28 ∨ a0 = 29 ∨ a0 = 30 ∨ a0 = 31 ∨ a0 = 32) with c | c | c | c | c | c <;> subst c
  rotate_left 2
  ·have HT := Aside0.mk (held_truth (a1 < a2))
   cases he : (a1 == a2)
   all_goals
    go_enter Try.func72, Try.ntmps72
    go_wp2_with (go_at_call 71; (with_reducible refine (atomic_truth.calls _ _ _ HT.out).mono ?_); rintro e w1 ⟨rfl, hd⟩; have HD := Aside0.mk hd; clear hd)
    all_goals (go_ret; exact ⟨(held_ret (by unfold atomic_held.v; (repeat' split) <;> omega)), (below_alloc (Below.refl _ _) _).trans (HD.out.below.mono (by simp))⟩)
  ·have HT := Aside0.mk (held_truth (a1 > a2))
   cases he : (a1 == a2)
   all_goals
    go_enter Try.func72, Try.ntmps72
    go_wp2_with (go_at_call 71; (with_reducible refine (atomic_truth.calls _ _ _ HT.out).mono ?_); rintro e w1 ⟨rfl, hd⟩; have HD := Aside0.mk hd; clear hd)
    all_goals (go_ret; exact ⟨(held_ret (by unfold atomic_held.v; (repeat' split) <;> omega)), (below_alloc (Below.refl _ _) _).trans (HD.out.below.mono (by simp))⟩)
  ·have HT := Aside0.mk (held_truth (a1 ≤ a2))
   cases he : (a1 == a2)
   all_goals
    go_enter Try.func72, Try.ntmps72
    go_wp2_with (go_at_call 71; (with_reducible refine (atomic_truth.calls _ _ _ HT.out).mono ?_); rintro e w1 ⟨rfl, hd⟩; have HD := Aside0.mk hd; clear hd)
    all_goals (go_ret; exact ⟨(held_ret (by unfold atomic_held.v; (repeat' split) <;> omega)), (below_alloc (Below.refl _ _) _).trans (HD.out.below.mono (by simp))⟩)
  ·have HT := Aside0.mk (held_truth (a1 ≥ a2))
   cases he : (a1 == a2)
   all_goals
    go_enter Try.func72, Try.ntmps72
    go_wp2_with (go_at_call 71; (with_reducible refine (atomic_truth.calls _ _ _ HT.out).mono ?_); rintro e w1 ⟨rfl, hd⟩; have HD := Aside0.mk hd; clear hd)
    all_goals (go_ret; exact ⟨(held_ret (by unfold atomic_held.v; (repeat' split) <;> omega)), (below_alloc (Below.refl _ _) _).trans (HD.out.below.mono (by simp))⟩)
  ·cases he : (a1 == a2)
   ·have HE := Aside0.mk (show ¬ a1 = a2 by simpa using he)
    go_enter Try.func72, Try.ntmps72
    go_wp2_with (fail)
    go_ret
    exact ⟨held_ret (by have := HE.out; unfold atomic_held.v; (repeat' split) <;> omega), below_alloc (Below.refl _ _) _⟩
   ·have HE := Aside0.mk (show a1 = a2 by simpa using he)
    go_enter Try.func72, Try.ntmps72
    go_wp2_with (fail)
    go_ret
    exact ⟨held_ret (by have := HE.out; unfold atomic_held.v; (repeat' split) <;> omega), below_alloc (Below.refl _ _) _⟩
  ·cases he : (a1 == a2)
   ·have HE := Aside0.mk (show ¬ a1 = a2 by simpa using he)
    go_enter Try.func72, Try.ntmps72
    go_wp2_with (fail)
    go_ret
    exact ⟨held_ret (by have := HE.out; unfold atomic_held.v; (repeat' split) <;> omega), below_alloc (Below.refl _ _) _⟩
   ·have HE := Aside0.mk (show a1 = a2 by simpa using he)
    go_enter Try.func72, Try.ntmps72
    go_wp2_with (fail)
    go_ret
    exact ⟨held_ret (by have := HE.out; unfold atomic_held.v; (repeat' split) <;> omega), below_alloc (Below.refl _ _) _⟩
 ·rw [if_neg hc] at h
  cases h
def num_Add.f (a0 : Int) (a1 : Int) : Option (Int × Int) := if a1 > 0 then (if a0 > (wrap64 (9223372036854775807 - a1)) then (some (0, 9)) else (if a1 < 0 then (if a0 < (wrap64 ((-9223372036854775808) - a1)) then (some (0, 9)) else (some (wrap64 (a0 + a1), 0))) else (some (wrap64 (a0 + a1), 0)))) else (if a1 < 0 then (if a0 < (wrap64 ((-9223372036854775808) - a1)) then (some (0, 9)) else (some (wrap64 (a0 + a1), 0))) else (some (wrap64 (a0 + a1), 0)))
set_option maxHeartbeats 8000000 in
set_option maxRecDepth 100000 in
theorem num_Add.calls (a0 : Int) (a1 : Int) (r1 : Int) (r2 : Int) (w : World) (h : num_Add.f a0 a1 = some (r1, r2)) :
  Calls Try.prog 77 #[.int .i64 a0, .int .i64 a1] w fun e w' => e = .returned (.tuple #[.int .i64 r1, .int .i64 r2]) ∧ Drawn0 w w' := by
 have H : (if a1 > 0 then (if a0 > (wrap64 (9223372036854775807 - a1)) then (some (0, 9)) else (if a1 < 0 then (if a0 < (wrap64 ((-9223372036854775808) - a1)) then (some (0, 9)) else (some (wrap64 (a0 + a1), 0))) else (some (wrap64 (a0 + a1), 0)))) else (if a1 < 0 then (if a0 < (wrap64 ((-9223372036854775808) - a1)) then (some (0, 9)) else (some (wrap64 (a0 + a1), 0))) else (some (wrap64 (a0 + a1), 0)))) = some (r1, r2) := h
 clear h
 by_cases c3 : a1 > 0
 ·rw [if_pos c3] at H
  have c3b0 : decide (0 < a1) = true := decide_eq_true c3
  clear c3
  by_cases c4 : a0 > (wrap64 (9223372036854775807 - a1))
  ·rw [if_pos c4] at H
   have c4b0 : decide ((wrap64 (9223372036854775807 - a1)) < a0) = true := decide_eq_true c4
   clear c4
   simp only [Option.some.injEq, Prod.mk.injEq] at H
   obtain ⟨rfl, rfl⟩ := H
   go_enter Try.func77, Try.ntmps77
   go_wp2
   go_ret2
   exact ⟨rfl, by repeat (first | exact Drawn0.refl _ | apply Drawn0.step)⟩
  ·rw [if_neg c4] at H
   have c4b0 : decide ((wrap64 (9223372036854775807 - a1)) < a0) = false := decide_eq_false c4
   clear c4
   by_cases c5 : a1 < 0
   ·rw [if_pos c5] at H
    have c5b0 := decide_eq_true c5
    clear c5
    by_cases c6 : a0 < (wrap64 ((-9223372036854775808) - a1))
    ·rw [if_pos c6] at H
     have c6b0 := decide_eq_true c6
     clear c6
     simp only [Option.some.injEq, Prod.mk.injEq] at H
     obtain ⟨rfl, rfl⟩ := H
     go_enter Try.func77, Try.ntmps77
     go_wp2
     go_ret2
     exact ⟨rfl, by repeat (first | exact Drawn0.refl _ | apply Drawn0.step)⟩
    ·rw [if_neg c6] at H
     have c6b0 := decide_eq_false c6
     clear c6
     simp only [Option.some.injEq, Prod.mk.injEq] at H
     obtain ⟨rfl, rfl⟩ := H
     go_enter Try.func77, Try.ntmps77
     go_wp2
     go_ret2
     exact ⟨rfl, by repeat (first | exact Drawn0.refl _ | apply Drawn0.step)⟩
   ·rw [if_neg c5] at H
    have c5b0 := decide_eq_false c5
    clear c5
    simp only [Option.some.injEq, Prod.mk.injEq] at H
    obtain ⟨rfl, rfl⟩ := H
    go_enter Try.func77, Try.ntmps77
    go_wp2
    go_ret2
    exact ⟨rfl, by repeat (first | exact Drawn0.refl _ | apply Drawn0.step)⟩
 ·rw [if_neg c3] at H
  have c3b0 : decide (0 < a1) = false := decide_eq_false c3
  clear c3
  by_cases c7 : a1 < 0
  ·rw [if_pos c7] at H
   have c7b0 := decide_eq_true c7
   clear c7
   by_cases c8 : a0 < (wrap64 ((-9223372036854775808) - a1))
   ·rw [if_pos c8] at H
    have c8b0 := decide_eq_true c8
    clear c8
    simp only [Option.some.injEq, Prod.mk.injEq] at H
    obtain ⟨rfl, rfl⟩ := H
    go_enter Try.func77, Try.ntmps77
    go_wp2
    go_ret2
    exact ⟨rfl, by repeat (first | exact Drawn0.refl _ | apply Drawn0.step)⟩
   ·rw [if_neg c8] at H
    have c8b0 := decide_eq_false c8
    clear c8
    simp only [Option.some.injEq, Prod.mk.injEq] at H
    obtain ⟨rfl, rfl⟩ := H
    go_enter Try.func77, Try.ntmps77
    go_wp2
    go_ret2
    exact ⟨rfl, by repeat (first | exact Drawn0.refl _ | apply Drawn0.step)⟩
  ·rw [if_neg c7] at H
   have c7b0 := decide_eq_false c7
   clear c7
   simp only [Option.some.injEq, Prod.mk.injEq] at H
   obtain ⟨rfl, rfl⟩ := H
   go_enter Try.func77, Try.ntmps77
   go_wp2
   go_ret2
   exact ⟨rfl, by repeat (first | exact Drawn0.refl _ | apply Drawn0.step)⟩
def num_Sub.f (a0 : Int) (a1 : Int) : Option (Int × Int) := if a1 < 0 then (if a0 > (wrap64 (9223372036854775807 + a1)) then (some (0, 9)) else (if a1 > 0 then (if a0 < (wrap64 ((-9223372036854775808) + a1)) then (some (0, 9)) else (some (wrap64 (a0 - a1), 0))) else (some (wrap64 (a0 - a1), 0)))) else (if a1 > 0 then (if a0 < (wrap64 ((-9223372036854775808) + a1)) then (some (0, 9)) else (some (wrap64 (a0 - a1), 0))) else (some (wrap64 (a0 - a1), 0)))
set_option maxHeartbeats 8000000 in
set_option maxRecDepth 100000 in
theorem num_Sub.calls (a0 : Int) (a1 : Int) (r1 : Int) (r2 : Int) (w : World) (h : num_Sub.f a0 a1 = some (r1, r2)) :
  Calls Try.prog 78 #[.int .i64 a0, .int .i64 a1] w fun e w' => e = .returned (.tuple #[.int .i64 r1, .int .i64 r2]) ∧ Drawn0 w w' := by
 have H : (if a1 < 0 then (if a0 > (wrap64 (9223372036854775807 + a1)) then (some (0, 9)) else (if a1 > 0 then (if a0 < (wrap64 ((-9223372036854775808) + a1)) then (some (0, 9)) else (some (wrap64 (a0 - a1), 0))) else (some (wrap64 (a0 - a1), 0)))) else (if a1 > 0 then (if a0 < (wrap64 ((-9223372036854775808) + a1)) then (some (0, 9)) else (some (wrap64 (a0 - a1), 0))) else (some (wrap64 (a0 - a1), 0)))) = some (r1, r2) := h
 clear h
 by_cases c3 : a1 < 0
 ·rw [if_pos c3] at H
  have c3b0 := decide_eq_true c3
  clear c3
  by_cases c4 : a0 > (wrap64 (9223372036854775807 + a1))
  ·rw [if_pos c4] at H
   have c4b0 : decide ((wrap64 (9223372036854775807 + a1)) < a0) = true := decide_eq_true c4
   clear c4
   simp only [Option.some.injEq, Prod.mk.injEq] at H
   obtain ⟨rfl, rfl⟩ := H
   go_enter Try.func78, Try.ntmps78
   go_wp2
   go_ret2
   exact ⟨rfl, by repeat (first | exact Drawn0.refl _ | apply Drawn0.step)⟩
  ·rw [if_neg c4] at H
   have c4b0 : decide ((wrap64 (9223372036854775807 + a1)) < a0) = false := decide_eq_false c4
   clear c4
   by_cases c5 : a1 > 0
   ·rw [if_pos c5] at H
    have c5b0 : decide (0 < a1) = true := decide_eq_true c5
    clear c5
    by_cases c6 : a0 < (wrap64 ((-9223372036854775808) + a1))
    ·rw [if_pos c6] at H
     have c6b0 := decide_eq_true c6
     clear c6
     simp only [Option.some.injEq, Prod.mk.injEq] at H
     obtain ⟨rfl, rfl⟩ := H
     go_enter Try.func78, Try.ntmps78
     go_wp2
     go_ret2
     exact ⟨rfl, by repeat (first | exact Drawn0.refl _ | apply Drawn0.step)⟩
    ·rw [if_neg c6] at H
     have c6b0 := decide_eq_false c6
     clear c6
     simp only [Option.some.injEq, Prod.mk.injEq] at H
     obtain ⟨rfl, rfl⟩ := H
     go_enter Try.func78, Try.ntmps78
     go_wp2
     go_ret2
     exact ⟨rfl, by repeat (first | exact Drawn0.refl _ | apply Drawn0.step)⟩
   ·rw [if_neg c5] at H
    have c5b0 : decide (0 < a1) = false := decide_eq_false c5
    clear c5
    simp only [Option.some.injEq, Prod.mk.injEq] at H
    obtain ⟨rfl, rfl⟩ := H
    go_enter Try.func78, Try.ntmps78
    go_wp2
    go_ret2
    exact ⟨rfl, by repeat (first | exact Drawn0.refl _ | apply Drawn0.step)⟩
 ·rw [if_neg c3] at H
  have c3b0 := decide_eq_false c3
  clear c3
  by_cases c7 : a1 > 0
  ·rw [if_pos c7] at H
   have c7b0 : decide (0 < a1) = true := decide_eq_true c7
   clear c7
   by_cases c8 : a0 < (wrap64 ((-9223372036854775808) + a1))
   ·rw [if_pos c8] at H
    have c8b0 := decide_eq_true c8
    clear c8
    simp only [Option.some.injEq, Prod.mk.injEq] at H
    obtain ⟨rfl, rfl⟩ := H
    go_enter Try.func78, Try.ntmps78
    go_wp2
    go_ret2
    exact ⟨rfl, by repeat (first | exact Drawn0.refl _ | apply Drawn0.step)⟩
   ·rw [if_neg c8] at H
    have c8b0 := decide_eq_false c8
    clear c8
    simp only [Option.some.injEq, Prod.mk.injEq] at H
    obtain ⟨rfl, rfl⟩ := H
    go_enter Try.func78, Try.ntmps78
    go_wp2
    go_ret2
    exact ⟨rfl, by repeat (first | exact Drawn0.refl _ | apply Drawn0.step)⟩
  ·rw [if_neg c7] at H
   have c7b0 : decide (0 < a1) = false := decide_eq_false c7
   clear c7
   simp only [Option.some.injEq, Prod.mk.injEq] at H
   obtain ⟨rfl, rfl⟩ := H
   go_enter Try.func78, Try.ntmps78
   go_wp2
   go_ret2
   exact ⟨rfl, by repeat (first | exact Drawn0.refl _ | apply Drawn0.step)⟩
def num_size.f (a0 : Int) : Option (Int × Bool) := if a0 < 0 then (some (IntKind.u64.wrap (-(IntKind.u64.wrap (a0))), true)) else (some (IntKind.u64.wrap (a0), false))
set_option maxHeartbeats 8000000 in
set_option maxRecDepth 100000 in
theorem num_size.calls (a0 : Int) (r1 : Int) (r2 : Bool) (w : World) (h : num_size.f a0 = some (r1, r2)) :
  Calls Try.prog 63 #[.int .i64 a0] w fun e w' => e = .returned (.tuple #[.int .u64 r1, .bool r2]) ∧ Drawn0 w w' := by
 have H : (if a0 < 0 then (some (IntKind.u64.wrap (-(IntKind.u64.wrap (a0))), true)) else (some (IntKind.u64.wrap (a0), false))) = some (r1, r2) := h
 clear h
 by_cases c2 : a0 < 0
 ·rw [if_pos c2] at H
  have c2b0 := decide_eq_true c2
  clear c2
  simp only [Option.some.injEq, Prod.mk.injEq] at H
  obtain ⟨rfl, rfl⟩ := H
  go_enter Try.func63, Try.ntmps63
  go_wp2
  go_ret2
  exact ⟨rfl, by repeat (first | exact Drawn0.refl _ | apply Drawn0.step)⟩
 ·rw [if_neg c2] at H
  have c2b0 := decide_eq_false c2
  clear c2
  simp only [Option.some.injEq, Prod.mk.injEq] at H
  obtain ⟨rfl, rfl⟩ := H
  go_enter Try.func63, Try.ntmps63
  go_wp2
  go_ret2
  exact ⟨rfl, by repeat (first | exact Drawn0.refl _ | apply Drawn0.step)⟩
end Go.Proofs.Ytahgfebdjjfkhaa.P
