/- Written by a program of this session: the functions that the laws reach, what each comes to, and each law as it is stated, for every input. No condition. -/
import Derived.Test.YteamkcgkhcalhaaPx0
import Derived.Test.YteamkcgkhcalhaaPx2
namespace Go.Proofs.Yteamkcgkhcalhaa.P
open Go.RowKit Go.Proofs.YteamkcgkhcalhaaW.PrintWords Go.Proofs.YteamkcgkhcalhaaW.PrintLast Go.Proofs.YteamkcgkhcalhaaW.PrintMore
attribute [local go_sem] max2_int min2_int max_two min_two max_three min_three max_four min_four   -- for this text's walks alone
set_option linter.unusedVariables false
set_option linter.unusedSimpArgs false
def runes_put.f (l0 : List Int) (a1 : Int) : Option (List Int) := if a1 < 128 then (if l0.length < 140737488355328 then (some (l0 ++ [(a1) % 256])) else (none)) else (if a1 < 2048 then ((some (([(Go.bits .or .i64 192 (a1 / 64)) % 256, (Go.bits .or .i64 128 (Go.bits .and .i64 a1 63)) % 256] : List Int) : List Int)).bind fun y119 => (if l0.length + y119.length < 140737488355328 then (some (l0 ++ y119)) else (none))) else (if a1 < 65536 then ((some (([(Go.bits .or .i64 224 (a1 / 4096)) % 256, (Go.bits .or .i64 128 (Go.bits .and .i64 (a1 / 64) 63)) % 256, (Go.bits .or .i64 128 (Go.bits .and .i64 a1 63)) % 256] : List Int) : List Int)).bind fun y125 => (if l0.length + y125.length < 140737488355328 then (some (l0 ++ y125)) else (none))) else ((some (([(Go.bits .or .i64 240 (a1 / 262144)) % 256, (Go.bits .or .i64 128 (Go.bits .and .i64 (a1 / 4096) 63)) % 256, (Go.bits .or .i64 128 (Go.bits .and .i64 (a1 / 64) 63)) % 256, (Go.bits .or .i64 128 (Go.bits .and .i64 a1 63)) % 256] : List Int) : List Int)).bind fun y131 => (if l0.length + y131.length < 140737488355328 then (some (l0 ++ y131)) else (none)))))
set_option maxHeartbeats 8000000 in
set_option maxRecDepth 100000 in
theorem runes_put.calls (P0_ : Nat → Prop) (u9000_ : Value) (l0 : List Int) (a1 : Int) (r : List Int) (w0 w : World) (hB : Below w0.heap.size w0 w) (ho0 : Kd.R (Kd.int .u8) 5 w w0.heap.size P0_ u9000_ l0) (h : runes_put.f l0 a1 = some r) :
  Calls Try.prog 41 #[u9000_, .int .i64 a1] w fun e w' => ∃ v0_ : Value, e = .returned (v0_) ∧ Kd.R (Kd.int .u8) 5 w' w0.heap.size (fun k_ => (P0_ k_ ∨ w.heap.size ≤ k_)) v0_ r ∧ Below w0.heap.size w0 w' ∧ Kept w w' (fun k_ => P0_ k_) := by
 have HO0 := gA (show Kd.R (Kd.int .u8) 5 w w0.heap.size (fun k_ => (P0_ k_ ∨ w.heap.size ≤ k_)) u9000_ l0 from Kd.R_mono ho0 (fun k_ hk => (.inl hk)))
 have HK := gA (Kept.refl w (fun k_ => P0_ k_))
 have HW0 := gA hB.size
 have HB := gA hB
 clear hB
 have H : (if a1 < 128 then (if l0.length < 140737488355328 then (some (l0 ++ [(a1) % 256])) else (none)) else (if a1 < 2048 then ((some (([(Go.bits .or .i64 192 (a1 / 64)) % 256, (Go.bits .or .i64 128 (Go.bits .and .i64 a1 63)) % 256] : List Int) : List Int)).bind fun y119 => (if l0.length + y119.length < 140737488355328 then (some (l0 ++ y119)) else (none))) else (if a1 < 65536 then ((some (([(Go.bits .or .i64 224 (a1 / 4096)) % 256, (Go.bits .or .i64 128 (Go.bits .and .i64 (a1 / 64) 63)) % 256, (Go.bits .or .i64 128 (Go.bits .and .i64 a1 63)) % 256] : List Int) : List Int)).bind fun y125 => (if l0.length + y125.length < 140737488355328 then (some (l0 ++ y125)) else (none))) else ((some (([(Go.bits .or .i64 240 (a1 / 262144)) % 256, (Go.bits .or .i64 128 (Go.bits .and .i64 (a1 / 4096) 63)) % 256, (Go.bits .or .i64 128 (Go.bits .and .i64 (a1 / 64) 63)) % 256, (Go.bits .or .i64 128 (Go.bits .and .i64 a1 63)) % 256] : List Int) : List Int)).bind fun y131 => (if l0.length + y131.length < 140737488355328 then (some (l0 ++ y131)) else (none)))))) = some r := h
 clear h
 by_cases c3 : a1 < 128
 ·rw [if_pos c3] at H
  have c3b0 := decide_eq_true c3
  clear c3
  obtain ⟨c4, H⟩ := iS H
  have LMc4 := gA c4
  clear c4
  obtain ⟨y116, hy116⟩ : ∃ y_ : List Int, y_ = (l0 ++ [(a1) % 256]) := ⟨_, rfl⟩
  replace H : (some y116) = some r := by first | (rw [hy116]; with_reducible exact H) | (have H2_ := (Option.bind_some _ _).symm.trans H; rw [hy116]; with_reducible exact H2_) | (have H2_ := (Option.bind_some _ _).symm.trans H; with_reducible exact H2_) | with_reducible exact H | (rw [hy116]; exact H) | exact H
  have Ny116 := gA hy116
  clear hy116
  obtain rfl := Option.some.inj H
  go_enter Try.func41, Try.ntmps41
  go_wp2_with (first | ((with_reducible refine gate_builtin (b := .append) (xs := #[.tmp 8, .tmp 11]) rfl ?_); at_builtin; refine Kd.R_append (Kd.int .u8) (w0 := w0) w0.heap.size rfl (.tmp 8) (.tmp 11) 44 5 (.int .u8 0) 1 rfl Try.underlying44 info5 rfl (by decide) (by omega) u9000_ l0 ((a1) % 256) [.int .u8 ((a1) % 256)] (fun k_ => (P0_ k_ ∨ w.heap.size ≤ k_)) (fun _ => False) rfl rfl ?aP (fun _ hk => hk.elim) ?aF ?aO ?aB ?aS ?aL ?_; (case aP => exact rfl); (case aB => exact (gB HB)); (case aF => exact (fun k_ hk => (.inr (Nat.le_trans (by first | exact HK.out.1 | exact (show Kept w _ (fun k_ => P0_ k_) from by repeat (first | (with_reducible first | exact HK.out | apply Kept.alloc | apply Kept.drewN | apply Kept.drew) | exact HK.out)).1) hk)))); (case aO => exact (gR HO0)); (case aS => exact (below_size (gB HB))); (case aL => have := LMc4.out; omega); intro v117 w5 ho hb hg hat; rw [← Ny116.out] at ho; replace HB := gA (hb); replace HK := gA (Kept.of_grown (S := (fun k_ => P0_ k_)) hg (by repeat (first | (with_reducible first | exact HK.out | apply Kept.alloc | apply Kept.drewN | apply Kept.drew) | exact HK.out)) (fun k_ e_ => (HO0.out.1 k_ e_))); have HO118 := gA (ho); clear HO0 ho hb hg hat))
  go_ret
  exact ⟨_, rfl, gR HO118, gB HB, by repeat (first | (with_reducible first | exact HK.out | apply Kept.alloc | apply Kept.drewN | apply Kept.drew) | exact HK.out)⟩
 ·rw [if_neg c3] at H
  have c3b0 := decide_eq_false c3
  clear c3
  by_cases c6 : a1 < 2048
  ·rw [if_pos c6] at H
   have c6b0 := decide_eq_true c6
   clear c6
   obtain ⟨y119, hy119⟩ : ∃ y_ : List Int, y_ = (([(Go.bits .or .i64 192 (a1 / 64)) % 256, (Go.bits .or .i64 128 (Go.bits .and .i64 a1 63)) % 256] : List Int)) := ⟨_, rfl⟩
   replace H : (if l0.length + y119.length < 140737488355328 then (some (l0 ++ y119)) else (none)) = some r := by first | (rw [hy119]; with_reducible exact H) | (have H2_ := (Option.bind_some _ _).symm.trans H; rw [hy119]; with_reducible exact H2_) | (have H2_ := (Option.bind_some _ _).symm.trans H; with_reducible exact H2_) | with_reducible exact H | (rw [hy119]; exact H) | exact H
   have Ny119 := gA hy119
   clear hy119
   obtain ⟨c7, H⟩ := iS H
   have LMc7 := gA c7
   clear c7
   obtain ⟨y122, hy122⟩ : ∃ y_ : List Int, y_ = (l0 ++ y119) := ⟨_, rfl⟩
   replace H : (some y122) = some r := by first | (rw [hy122]; with_reducible exact H) | (have H2_ := (Option.bind_some _ _).symm.trans H; rw [hy122]; with_reducible exact H2_) | (have H2_ := (Option.bind_some _ _).symm.trans H; with_reducible exact H2_) | with_reducible exact H | (rw [hy122]; exact H) | exact H
   have Ny122 := gA hy122
   clear hy122
   obtain rfl := Option.some.inj H
   go_enter Try.func41, Try.ntmps41
   go_wp2_with (first | ((with_reducible refine gate_dst (N := 25) rfl ?_); refine Kd.R_lit (Kd.int .u8) _ 5 ?hg (N := 25) ?hd (xs := ([(Go.bits .or .i64 192 (a1 / 64)) % 256, (Go.bits .or .i64 128 (Go.bits .and .i64 a1 63)) % 256] : List Int)) (inner := [.int .u8 ((Go.bits .or .i64 192 (a1 / 64)) % 256), .int .u8 ((Go.bits .or .i64 128 (Go.bits .and .i64 a1 63)) % 256)]) (ok := fun _ => True) (okp := fun _ => True) ?hr ?hp (fun _ hk => hk) trivial (Below.refl _ _) (Nat.le_refl _) (by simp) ?_; (case hd => rfl); (case hg => rfl); (case hr => first | (go_simp; done) | (go_simp; rfl)); (case hp => exact (Reps.one (show Kd.M (Kd.int .u8) _ _ _ ((Go.bits .or .i64 192 (a1 / 64)) % 256) [.int .u8 ((Go.bits .or .i64 192 (a1 / 64)) % 256)] from rfl) (Reps.one (show Kd.M (Kd.int .u8) _ _ _ ((Go.bits .or .i64 128 (Go.bits .and .i64 a1 63)) % 256) [.int .u8 ((Go.bits .or .i64 128 (Go.bits .and .i64 a1 63)) % 256)] from rfl) (Reps.none _ _)))); intro v120 w8 ho9 hb hg_ hnew_; clear hg_ hnew_; (first | rw [← Ny119.out] at ho9 | (simp only [Int.reduceToNat] at ho9; rw [← Ny119.out] at ho9)); have HO121 := gA (Kd.R_lower (Kd.R_new' (Kd.R_newM (M := fun k_ => (P0_ k_ ∨ w.heap.size ≤ k_)) ho9 (by first | exact HK.out.1 | exact (show Kept w _ (fun k_ => P0_ k_) from by repeat (first | (with_reducible first | exact HK.out | apply Kept.alloc | apply Kept.drewN | apply Kept.drew) | exact HK.out)).1) (fun k_ h_ => .inr h_)) (Kd.R_lt (gR HO0))) (below_size (gB HB))); replace HO0 := gA (Kd.R_elder' (gR HO0) (Kd.R_base ho9) hb); replace HK := gA (Kept.below (S := (fun k_ => P0_ k_)) (by repeat (first | (with_reducible first | exact HK.out | apply Kept.alloc | apply Kept.drewN | apply Kept.drew) | exact HK.out)) hb); replace HB := gA (below_step (gB HB) hb); clear hb ho9; obtain ⟨Ao11, co11, eo11⟩ := Kd.R_slice HO121.out; subst eo11) | ((with_reducible refine gate_builtin (b := .append) (xs := #[.tmp 16, .tmp 25]) rfl ?_); at_builtin; refine Kd.R_append_rows (Kd.int .u8) (w0 := w0) w0.heap.size rfl (.tmp 16) (.tmp 25) 44 5 (.int .u8 0) 1 rfl Try.underlying44 info5 rfl (by decide) (by omega) u9000_ l0 y119 _ _ _ (fun k_ => (P0_ k_ ∨ w.heap.size ≤ k_) ∧ some k_ ≠ (.slice Ao11 y119.length co11 : Value).ownBlock) (fun _ => False) rfl rfl ?aO ?aR (fun _ _ h => h) (fun _ h => h.elim) ?aF ?aB ?aS ?aL ?_; (case aR => repeat (first | exact (Kd.R_reads' HO121.out).2.2 | (with_reducible refine Kd.C_alloc ?_ _) | (with_reducible refine Kd.C_drewN ?_ _) | (with_reducible refine Kd.C_drew ?_))); (case aB => exact (gB HB)); (case aF => exact (fun k_ hk => ⟨(.inr (Nat.le_trans (by first | exact HK.out.1 | exact (show Kept w _ (fun k_ => P0_ k_) from by repeat (first | (with_reducible first | exact HK.out | apply Kept.alloc | apply Kept.drewN | apply Kept.drew) | exact HK.out)).1) hk)), Kd.fresh' (Kd.R_lt (gR HO121)) k_ hk⟩)); (case aO => exact (gR HO0)); (case aS => exact (below_size (gB HB))); (case aL => have := LMc7.out; omega); intro v123 w10 ho hb hg hat; rw [← Ny122.out] at ho; replace HO121 := gA (Kd.R_after (ok := (fun k_ => (P0_ k_ ∨ w.heap.size ≤ k_))) (Kd.R_mono HO121.out (fun _ hk => ⟨hk.1.1, hk.2⟩)) hg hat); replace HB := gA (hb); replace HK := gA (Kept.of_grown (S := (fun k_ => P0_ k_)) hg (by repeat (first | (with_reducible first | exact HK.out | apply Kept.alloc | apply Kept.drewN | apply Kept.drew) | exact HK.out)) (fun k_ e_ => (HO0.out.1 k_ e_).1)); have HO124 := gA (ho); clear HO0 ho hb hg hat))
   go_ret
   exact ⟨_, rfl, Kd.R_mono HO124.out (fun _ hk => hk.1), gB HB, by repeat (first | (with_reducible first | exact HK.out | apply Kept.alloc | apply Kept.drewN | apply Kept.drew) | exact HK.out)⟩
  ·rw [if_neg c6] at H
   have c6b0 := decide_eq_false c6
   clear c6
   by_cases c12 : a1 < 65536
   ·rw [if_pos c12] at H
    have c12b0 := decide_eq_true c12
    clear c12
    obtain ⟨y125, hy125⟩ : ∃ y_ : List Int, y_ = (([(Go.bits .or .i64 224 (a1 / 4096)) % 256, (Go.bits .or .i64 128 (Go.bits .and .i64 (a1 / 64) 63)) % 256, (Go.bits .or .i64 128 (Go.bits .and .i64 a1 63)) % 256] : List Int)) := ⟨_, rfl⟩
    replace H : (if l0.length + y125.length < 140737488355328 then (some (l0 ++ y125)) else (none)) = some r := by first | (rw [hy125]; with_reducible exact H) | (have H2_ := (Option.bind_some _ _).symm.trans H; rw [hy125]; with_reducible exact H2_) | (have H2_ := (Option.bind_some _ _).symm.trans H; with_reducible exact H2_) | with_reducible exact H | (rw [hy125]; exact H) | exact H
    have Ny125 := gA hy125
    clear hy125
    obtain ⟨c13, H⟩ := iS H
    have LMc13 := gA c13
    clear c13
    obtain ⟨y128, hy128⟩ : ∃ y_ : List Int, y_ = (l0 ++ y125) := ⟨_, rfl⟩
    replace H : (some y128) = some r := by first | (rw [hy128]; with_reducible exact H) | (have H2_ := (Option.bind_some _ _).symm.trans H; rw [hy128]; with_reducible exact H2_) | (have H2_ := (Option.bind_some _ _).symm.trans H; with_reducible exact H2_) | with_reducible exact H | (rw [hy128]; exact H) | exact H
    have Ny128 := gA hy128
    clear hy128
    obtain rfl := Option.some.inj H
    go_enter Try.func41, Try.ntmps41
    go_wp2_with (first | ((with_reducible refine gate_dst (N := 44) rfl ?_); refine Kd.R_lit (Kd.int .u8) _ 5 ?hg (N := 44) ?hd (xs := ([(Go.bits .or .i64 224 (a1 / 4096)) % 256, (Go.bits .or .i64 128 (Go.bits .and .i64 (a1 / 64) 63)) % 256, (Go.bits .or .i64 128 (Go.bits .and .i64 a1 63)) % 256] : List Int)) (inner := [.int .u8 ((Go.bits .or .i64 224 (a1 / 4096)) % 256), .int .u8 ((Go.bits .or .i64 128 (Go.bits .and .i64 (a1 / 64) 63)) % 256), .int .u8 ((Go.bits .or .i64 128 (Go.bits .and .i64 a1 63)) % 256)]) (ok := fun _ => True) (okp := fun _ => True) ?hr ?hp (fun _ hk => hk) trivial (Below.refl _ _) (Nat.le_refl _) (by simp) ?_; (case hd => rfl); (case hg => rfl); (case hr => first | (go_simp; done) | (go_simp; rfl)); (case hp => exact (Reps.one (show Kd.M (Kd.int .u8) _ _ _ ((Go.bits .or .i64 224 (a1 / 4096)) % 256) [.int .u8 ((Go.bits .or .i64 224 (a1 / 4096)) % 256)] from rfl) (Reps.one (show Kd.M (Kd.int .u8) _ _ _ ((Go.bits .or .i64 128 (Go.bits .and .i64 (a1 / 64) 63)) % 256) [.int .u8 ((Go.bits .or .i64 128 (Go.bits .and .i64 (a1 / 64) 63)) % 256)] from rfl) (Reps.one (show Kd.M (Kd.int .u8) _ _ _ ((Go.bits .or .i64 128 (Go.bits .and .i64 a1 63)) % 256) [.int .u8 ((Go.bits .or .i64 128 (Go.bits .and .i64 a1 63)) % 256)] from rfl) (Reps.none _ _))))); intro v126 w14 ho15 hb hg_ hnew_; clear hg_ hnew_; (first | rw [← Ny125.out] at ho15 | (simp only [Int.reduceToNat] at ho15; rw [← Ny125.out] at ho15)); have HO127 := gA (Kd.R_lower (Kd.R_new' (Kd.R_newM (M := fun k_ => (P0_ k_ ∨ w.heap.size ≤ k_)) ho15 (by first | exact HK.out.1 | exact (show Kept w _ (fun k_ => P0_ k_) from by repeat (first | (with_reducible first | exact HK.out | apply Kept.alloc | apply Kept.drewN | apply Kept.drew) | exact HK.out)).1) (fun k_ h_ => .inr h_)) (Kd.R_lt (gR HO0))) (below_size (gB HB))); replace HO0 := gA (Kd.R_elder' (gR HO0) (Kd.R_base ho15) hb); replace HK := gA (Kept.below (S := (fun k_ => P0_ k_)) (by repeat (first | (with_reducible first | exact HK.out | apply Kept.alloc | apply Kept.drewN | apply Kept.drew) | exact HK.out)) hb); replace HB := gA (below_step (gB HB) hb); clear hb ho15; obtain ⟨Ao17, co17, eo17⟩ := Kd.R_slice HO127.out; subst eo17) | ((with_reducible refine gate_builtin (b := .append) (xs := #[.tmp 30, .tmp 44]) rfl ?_); at_builtin; refine Kd.R_append_rows (Kd.int .u8) (w0 := w0) w0.heap.size rfl (.tmp 30) (.tmp 44) 44 5 (.int .u8 0) 1 rfl Try.underlying44 info5 rfl (by decide) (by omega) u9000_ l0 y125 _ _ _ (fun k_ => (P0_ k_ ∨ w.heap.size ≤ k_) ∧ some k_ ≠ (.slice Ao17 y125.length co17 : Value).ownBlock) (fun _ => False) rfl rfl ?aO ?aR (fun _ _ h => h) (fun _ h => h.elim) ?aF ?aB ?aS ?aL ?_; (case aR => repeat (first | exact (Kd.R_reads' HO127.out).2.2 | (with_reducible refine Kd.C_alloc ?_ _) | (with_reducible refine Kd.C_drewN ?_ _) | (with_reducible refine Kd.C_drew ?_))); (case aB => exact (gB HB)); (case aF => exact (fun k_ hk => ⟨(.inr (Nat.le_trans (by first | exact HK.out.1 | exact (show Kept w _ (fun k_ => P0_ k_) from by repeat (first | (with_reducible first | exact HK.out | apply Kept.alloc | apply Kept.drewN | apply Kept.drew) | exact HK.out)).1) hk)), Kd.fresh' (Kd.R_lt (gR HO127)) k_ hk⟩)); (case aO => exact (gR HO0)); (case aS => exact (below_size (gB HB))); (case aL => have := LMc13.out; omega); intro v129 w16 ho hb hg hat; rw [← Ny128.out] at ho; replace HO127 := gA (Kd.R_after (ok := (fun k_ => (P0_ k_ ∨ w.heap.size ≤ k_))) (Kd.R_mono HO127.out (fun _ hk => ⟨hk.1.1, hk.2⟩)) hg hat); replace HB := gA (hb); replace HK := gA (Kept.of_grown (S := (fun k_ => P0_ k_)) hg (by repeat (first | (with_reducible first | exact HK.out | apply Kept.alloc | apply Kept.drewN | apply Kept.drew) | exact HK.out)) (fun k_ e_ => (HO0.out.1 k_ e_).1)); have HO130 := gA (ho); clear HO0 ho hb hg hat))
    go_ret
    exact ⟨_, rfl, Kd.R_mono HO130.out (fun _ hk => hk.1), gB HB, by repeat (first | (with_reducible first | exact HK.out | apply Kept.alloc | apply Kept.drewN | apply Kept.drew) | exact HK.out)⟩
   ·rw [if_neg c12] at H
    have c12b0 := decide_eq_false c12
    clear c12
    obtain ⟨y131, hy131⟩ : ∃ y_ : List Int, y_ = (([(Go.bits .or .i64 240 (a1 / 262144)) % 256, (Go.bits .or .i64 128 (Go.bits .and .i64 (a1 / 4096) 63)) % 256, (Go.bits .or .i64 128 (Go.bits .and .i64 (a1 / 64) 63)) % 256, (Go.bits .or .i64 128 (Go.bits .and .i64 a1 63)) % 256] : List Int)) := ⟨_, rfl⟩
    replace H : (if l0.length + y131.length < 140737488355328 then (some (l0 ++ y131)) else (none)) = some r := by first | (rw [hy131]; with_reducible exact H) | (have H2_ := (Option.bind_some _ _).symm.trans H; rw [hy131]; with_reducible exact H2_) | (have H2_ := (Option.bind_some _ _).symm.trans H; with_reducible exact H2_) | with_reducible exact H | (rw [hy131]; exact H) | exact H
    have Ny131 := gA hy131
    clear hy131
    obtain ⟨c18, H⟩ := iS H
    have LMc18 := gA c18
    clear c18
    obtain ⟨y134, hy134⟩ : ∃ y_ : List Int, y_ = (l0 ++ y131) := ⟨_, rfl⟩
    replace H : (some y134) = some r := by first | (rw [hy134]; with_reducible exact H) | (have H2_ := (Option.bind_some _ _).symm.trans H; rw [hy134]; with_reducible exact H2_) | (have H2_ := (Option.bind_some _ _).symm.trans H; with_reducible exact H2_) | with_reducible exact H | (rw [hy134]; exact H) | exact H
    have Ny134 := gA hy134
    clear hy134
    obtain rfl := Option.some.inj H
    go_enter Try.func41, Try.ntmps41
    go_wp2_with (first | ((with_reducible refine gate_dst (N := 65) rfl ?_); refine Kd.R_lit (Kd.int .u8) _ 5 ?hg (N := 65) ?hd (xs := ([(Go.bits .or .i64 240 (a1 / 262144)) % 256, (Go.bits .or .i64 128 (Go.bits .and .i64 (a1 / 4096) 63)) % 256, (Go.bits .or .i64 128 (Go.bits .and .i64 (a1 / 64) 63)) % 256, (Go.bits .or .i64 128 (Go.bits .and .i64 a1 63)) % 256] : List Int)) (inner := [.int .u8 ((Go.bits .or .i64 240 (a1 / 262144)) % 256), .int .u8 ((Go.bits .or .i64 128 (Go.bits .and .i64 (a1 / 4096) 63)) % 256), .int .u8 ((Go.bits .or .i64 128 (Go.bits .and .i64 (a1 / 64) 63)) % 256), .int .u8 ((Go.bits .or .i64 128 (Go.bits .and .i64 a1 63)) % 256)]) (ok := fun _ => True) (okp := fun _ => True) ?hr ?hp (fun _ hk => hk) trivial (Below.refl _ _) (Nat.le_refl _) (by simp) ?_; (case hd => rfl); (case hg => rfl); (case hr => first | (go_simp; done) | (go_simp; rfl)); (case hp => exact (Reps.one (show Kd.M (Kd.int .u8) _ _ _ ((Go.bits .or .i64 240 (a1 / 262144)) % 256) [.int .u8 ((Go.bits .or .i64 240 (a1 / 262144)) % 256)] from rfl) (Reps.one (show Kd.M (Kd.int .u8) _ _ _ ((Go.bits .or .i64 128 (Go.bits .and .i64 (a1 / 4096) 63)) % 256) [.int .u8 ((Go.bits .or .i64 128 (Go.bits .and .i64 (a1 / 4096) 63)) % 256)] from rfl) (Reps.one (show Kd.M (Kd.int .u8) _ _ _ ((Go.bits .or .i64 128 (Go.bits .and .i64 (a1 / 64) 63)) % 256) [.int .u8 ((Go.bits .or .i64 128 (Go.bits .and .i64 (a1 / 64) 63)) % 256)] from rfl) (Reps.one (show Kd.M (Kd.int .u8) _ _ _ ((Go.bits .or .i64 128 (Go.bits .and .i64 a1 63)) % 256) [.int .u8 ((Go.bits .or .i64 128 (Go.bits .and .i64 a1 63)) % 256)] from rfl) (Reps.none _ _)))))); intro v132 w19 ho20 hb hg_ hnew_; clear hg_ hnew_; (first | rw [← Ny131.out] at ho20 | (simp only [Int.reduceToNat] at ho20; rw [← Ny131.out] at ho20)); have HO133 := gA (Kd.R_lower (Kd.R_new' (Kd.R_newM (M := fun k_ => (P0_ k_ ∨ w.heap.size ≤ k_)) ho20 (by first | exact HK.out.1 | exact (show Kept w _ (fun k_ => P0_ k_) from by repeat (first | (with_reducible first | exact HK.out | apply Kept.alloc | apply Kept.drewN | apply Kept.drew) | exact HK.out)).1) (fun k_ h_ => .inr h_)) (Kd.R_lt (gR HO0))) (below_size (gB HB))); replace HO0 := gA (Kd.R_elder' (gR HO0) (Kd.R_base ho20) hb); replace HK := gA (Kept.below (S := (fun k_ => P0_ k_)) (by repeat (first | (with_reducible first | exact HK.out | apply Kept.alloc | apply Kept.drewN | apply Kept.drew) | exact HK.out)) hb); replace HB := gA (below_step (gB HB) hb); clear hb ho20; obtain ⟨Ao22, co22, eo22⟩ := Kd.R_slice HO133.out; subst eo22) | ((with_reducible refine gate_builtin (b := .append) (xs := #[.tmp 46, .tmp 65]) rfl ?_); at_builtin; refine Kd.R_append_rows (Kd.int .u8) (w0 := w0) w0.heap.size rfl (.tmp 46) (.tmp 65) 44 5 (.int .u8 0) 1 rfl Try.underlying44 info5 rfl (by decide) (by omega) u9000_ l0 y131 _ _ _ (fun k_ => (P0_ k_ ∨ w.heap.size ≤ k_) ∧ some k_ ≠ (.slice Ao22 y131.length co22 : Value).ownBlock) (fun _ => False) rfl rfl ?aO ?aR (fun _ _ h => h) (fun _ h => h.elim) ?aF ?aB ?aS ?aL ?_; (case aR => repeat (first | exact (Kd.R_reads' HO133.out).2.2 | (with_reducible refine Kd.C_alloc ?_ _) | (with_reducible refine Kd.C_drewN ?_ _) | (with_reducible refine Kd.C_drew ?_))); (case aB => exact (gB HB)); (case aF => exact (fun k_ hk => ⟨(.inr (Nat.le_trans (by first | exact HK.out.1 | exact (show Kept w _ (fun k_ => P0_ k_) from by repeat (first | (with_reducible first | exact HK.out | apply Kept.alloc | apply Kept.drewN | apply Kept.drew) | exact HK.out)).1) hk)), Kd.fresh' (Kd.R_lt (gR HO133)) k_ hk⟩)); (case aO => exact (gR HO0)); (case aS => exact (below_size (gB HB))); (case aL => have := LMc18.out; omega); intro v135 w21 ho hb hg hat; rw [← Ny134.out] at ho; replace HO133 := gA (Kd.R_after (ok := (fun k_ => (P0_ k_ ∨ w.heap.size ≤ k_))) (Kd.R_mono HO133.out (fun _ hk => ⟨hk.1.1, hk.2⟩)) hg hat); replace HB := gA (hb); replace HK := gA (Kept.of_grown (S := (fun k_ => P0_ k_)) hg (by repeat (first | (with_reducible first | exact HK.out | apply Kept.alloc | apply Kept.drewN | apply Kept.drew) | exact HK.out)) (fun k_ e_ => (HO0.out.1 k_ e_).1)); have HO136 := gA (ho); clear HO0 ho hb hg hat))
    go_ret
    exact ⟨_, rfl, Kd.R_mono HO136.out (fun _ hk => hk.1), gB HB, by repeat (first | (with_reducible first | exact HK.out | apply Kept.alloc | apply Kept.drewN | apply Kept.drew) | exact HK.out)⟩
def runes_Write.f (l0 : List Int) : Option (List Int × Int) := if l0.length = 1 then ((runes_Good.f (rd l0 0)).bind fun g => if g = true then (runes_put.f [] (rd l0 0)).bind fun r => some (r, 0) else some ([], 3)) else none
set_option maxHeartbeats 4000000 in
set_option maxRecDepth 100000 in
theorem runes_Write.calls (A0 : Option Addr) (c0 : Nat) (l0 : List Int) (r1 : List Int) (r2 : Int) (w : World) (hr0 : Kd.C (Kd.int .i64) w A0 l0.length l0) (hc0 : l0.length ≤ c0) (h : runes_Write.f l0 = some (r1, r2)) :
  Calls Try.prog 26 #[.slice A0 l0.length c0] w fun e w' => ∃ v0_ : Value, e = .returned (.tuple #[v0_, .int .i64 r2]) ∧ Kd.R (Kd.int .u8) 5 w' w.heap.size (fun _ => True) v0_ r1 ∧ Below w.heap.size w w' := by
 unfold runes_Write.f at h
 by_cases hl : l0.length = 1
 ·rw [if_pos hl] at h
  obtain ⟨x, rfl⟩ : ∃ x, l0 = [x] := List.length_eq_one_iff.1 hl
  obtain ⟨g, hg, h⟩ := Option.bind_eq_some_iff.1 h
  obtain ⟨ad, e0, hx⟩ := Kd.at_int hr0 0 (by decide) (by simp)
  subst e0
  rw [show (rd [x] 0) = x from rfl] at hg h hx
  rw [show ((0 : Int)).toNat = 0 from rfl, Addr.add_zero'] at hx
  have HG := Aside0.mk hg
  have HX := Aside0.mk hx
  have H := Aside0.mk h
  clear hr0 hc0 hg hx h hl
  go_enter Try.func26, Try.ntmps26
  go_wp2
  go_loopg [4, 9] 2 (fun kq v4 v9 W => (v9 = .int .i64 0 ∧ v4 = .slice none 0 0 ∧ W = w ∧ kq = 2) ∨ (v9 = .int .i64 1 ∧ kq = 1 ∧ ∃ r, Aside0 (r2 = 0 ∧ r1 = r) ∧ Aside0 (Kd.R (Kd.int .u8) 5 W w.heap.size (fun _ => True) v4 r) ∧ Aside0 (Below w.heap.size w W)))
  case atStart => exact .inl ⟨rfl, rfl, rfl, rfl⟩
  case round =>
   have HO0 := Aside0.mk (Kd.R_nil (Kd.int .u8) 5 w w.heap.size (fun _ => False))
   have HB0 := Aside0.mk (Below.refl w.heap.size w)
   rcases hrel with ⟨rfl, rfl, rfl, rfl⟩ | ⟨rfl, rfl, r, HR, HO, HB⟩
   ·have hx1 := HX.out
    cases g with
    | true =>
     obtain ⟨r, hp, h2⟩ := Option.bind_eq_some_iff.1 (by have := H.out; rw [if_pos rfl] at this; exact this)
     have HP := Aside0.mk hp
     have H2 := Aside0.mk h2
     clear hp h2
     go_wp2_with (first | (go_at_call 40; (with_reducible refine (runes_Good.calls _ _ _ HG.out).mono ?_); rintro e w1 ⟨rfl, hd⟩; obtain ⟨n1, rfl⟩ := hd.out; clear hd) | (go_at_call 41; (with_reducible refine (runes_put.calls (fun _ => False) _ [] x r _ _ (pw_below_drewN HB0.out _) (Kd.R_drewN HO0.out _) HP.out).mono ?_); rintro e w1 ⟨v1, rfl, ho, hb, _⟩; have HO := Aside0.mk ho; have HB := Aside0.mk hb; clear ho hb))
     go_roundg 1
     case measure => decide
     case rel => exact .inr ⟨rfl, rfl, r, ⟨by have := Option.some.inj H2.out; injection this with a b; exact ⟨b.symm, a.symm⟩⟩, ⟨Kd.R_mono HO.out (fun _ _ => trivial)⟩, ⟨HB.out⟩⟩
    | false =>
     have H2 : Aside0 (r1 = [] ∧ r2 = 3) := ⟨by have := H.out; rw [if_neg (by decide)] at this; have := Option.some.inj this; injection this with a b; exact ⟨a.symm, b.symm⟩⟩
     go_wp2_with (first | (go_at_call 40; (with_reducible refine (runes_Good.calls _ _ _ HG.out).mono ?_); rintro e w1 ⟨rfl, hd⟩; obtain ⟨n1, rfl⟩ := hd.out; clear hd))
     go_ret2
     obtain ⟨rfl, rfl⟩ := H2.out
     exact ⟨_, rfl, Kd.R_nil _ _ _ _ _, pw_below_drewN HB0.out _⟩
   ·go_wp2
    go_ret2
    obtain ⟨rfl, rfl⟩ := HR.out
    exact ⟨_, rfl, HO.out, HB.out⟩
 ·rw [if_neg hl] at h
  cases h
def spell_sign.j0 : Nat → ByteArray → Bool → List ByteArray → List ByteArray → List ByteArray → ByteArray → ByteArray → ByteArray → ByteArray → ByteArray → ByteArray → ByteArray → ByteArray → Bool → Bool → Bool → Option (ByteArray)
 | 0, _, _, _, _, _, _, _, _, _, _, _, _, _, _, _, _ => none
 | k + 1, x0, x5, x138000, x138001, x138002, x138003, x138004, x138005, x138006, x138007, x138008, x138009, x138010, x138011, x138012, x138013 => if x5 = true then (some (⟨#[39, 39]⟩ : ByteArray)) else (if x138010.toList = ([39] : List UInt8) then (some x0) else (if x0.toList = ([34] : List UInt8) then (if 1 + x0.size ≤ 9223372036854775807 then (some ((⟨#[92]⟩ : ByteArray) ++ x0)) else (none)) else (if x0.toList = ([92] : List UInt8) then (if 1 + x0.size ≤ 9223372036854775807 then (some ((⟨#[92]⟩ : ByteArray) ++ x0)) else (none)) else (some x0))))
def spell_sign.f (k : Nat) (a0 : ByteArray) (l1_0 : List ByteArray) (l1_1 : List ByteArray) (l1_2 : List ByteArray) (a1_3 : ByteArray) (a1_4 : ByteArray) (a1_5 : ByteArray) (a1_6 : ByteArray) (a1_7 : ByteArray) (a1_8 : ByteArray) (a1_9 : ByteArray) (a1_10 : ByteArray) (a1_11 : Bool) (a1_12 : Bool) (a1_13 : Bool) : Option (ByteArray) := if a1_10.toList = ([39] : List UInt8) then (spell_sign.j0 k a0 (a0.toList == ([39] : List UInt8)) l1_0 l1_1 l1_2 a1_3 a1_4 a1_5 a1_6 a1_7 a1_8 a1_9 a1_10 a1_11 a1_12 a1_13) else (spell_sign.j0 k a0 false l1_0 l1_1 l1_2 a1_3 a1_4 a1_5 a1_6 a1_7 a1_8 a1_9 a1_10 a1_11 a1_12 a1_13)
theorem spell_sign.mono_l : ∀ k, (∀ y0 y1 y2 y3 y4 y5 y6 y7 y8 y9 y10 y11 y12 y13 y14 y15, LeO (spell_sign.j0 k y0 y1 y2 y3 y4 y5 y6 y7 y8 y9 y10 y11 y12 y13 y14 y15) (spell_sign.j0 (k + 1) y0 y1 y2 y3 y4 y5 y6 y7 y8 y9 y10 y11 y12 y13 y14 y15))
 | 0 => fun _ _ _ _ _ _ _ _ _ _ _ _ _ _ _ _ r h => by simp [spell_sign.j0] at h
 | k + 1 => by
  have ih0 := spell_sign.mono_l k
  ·intro y0 y1 y2 y3 y4 y5 y6 y7 y8 y9 y10 y11 y12 y13 y14 y15
   unfold spell_sign.j0
   repeat' first
   | (with_reducible exact ih0 _ _ _ _ _ _ _ _ _ _ _ _ _ _ _ _)
   | (with_reducible exact LeO.refl _)
   | (with_reducible exact LeO.none _)
   | (with_reducible refine LeO.ite ?_ ?_)
   | (with_reducible refine LeO.bind ?_ (fun _ => ?_))
theorem spell_sign.mono : ∀ a0 a1 a2 a3 a4 a5 a6 a7 a8 a9 a10 a11 a12 a13 a14 k, LeO (spell_sign.f k a0 a1 a2 a3 a4 a5 a6 a7 a8 a9 a10 a11 a12 a13 a14) (spell_sign.f (k + 1) a0 a1 a2 a3 a4 a5 a6 a7 a8 a9 a10 a11 a12 a13 a14) := by
 intro a0 a1 a2 a3 a4 a5 a6 a7 a8 a9 a10 a11 a12 a13 a14 k
 have ih0 := spell_sign.mono_l k
 unfold spell_sign.f
 repeat' first
   | (with_reducible exact ih0 _ _ _ _ _ _ _ _ _ _ _ _ _ _ _ _)
   | (with_reducible exact LeO.refl _)
   | (with_reducible exact LeO.none _)
   | (with_reducible refine LeO.ite ?_ ?_)
   | (with_reducible refine LeO.bind ?_ (fun _ => ?_))
set_option maxHeartbeats 8000000 in
set_option maxRecDepth 100000 in
theorem spell_sign.calls (k : Nat) (a0 : ByteArray) (A1_0 : Option Addr) (c1_0 : Nat) (l1_0 : List ByteArray) (A1_1 : Option Addr) (c1_1 : Nat) (l1_1 : List ByteArray) (A1_2 : Option Addr) (c1_2 : Nat) (l1_2 : List ByteArray) (a1_3 : ByteArray) (a1_4 : ByteArray) (a1_5 : ByteArray) (a1_6 : ByteArray) (a1_7 : ByteArray) (a1_8 : ByteArray) (a1_9 : ByteArray) (a1_10 : ByteArray) (a1_11 : Bool) (a1_12 : Bool) (a1_13 : Bool) (r : ByteArray) (w : World) (hr1_0 : Kd.C Kd.string w A1_0 l1_0.length l1_0) (hc1_0 : l1_0.length ≤ c1_0) (hr1_1 : Kd.C Kd.string w A1_1 l1_1.length l1_1) (hc1_1 : l1_1.length ≤ c1_1) (hr1_2 : Kd.C Kd.string w A1_2 l1_2.length l1_2) (hc1_2 : l1_2.length ≤ c1_2) (h : spell_sign.f k a0 l1_0 l1_1 l1_2 a1_3 a1_4 a1_5 a1_6 a1_7 a1_8 a1_9 a1_10 a1_11 a1_12 a1_13 = some r) :
  Calls Try.prog 27 #[.string a0, .agg #[.slice A1_0 l1_0.length c1_0, .slice A1_1 l1_1.length c1_1, .slice A1_2 l1_2.length c1_2, .string a1_3, .string a1_4, .string a1_5, .string a1_6, .string a1_7, .string a1_8, .string a1_9, .string a1_10, .bool a1_11, .bool a1_12, .bool a1_13]] w fun e w' => e = .returned (.string r) ∧ Below w.heap.size w w' := by
 have hu32 := Try.underlying32
 have HR1_0 := gA hr1_0
 have HC1_0 := gA hc1_0
 clear hr1_0 hc1_0
 have HR1_1 := gA hr1_1
 have HC1_1 := gA hc1_1
 clear hr1_1 hc1_1
 have HR1_2 := gA hr1_2
 have HC1_2 := gA hc1_2
 clear hr1_2 hc1_2
 have HB := gA (Below.refl w.heap.size w)
 have H : (if a1_10.toList = ([39] : List UInt8) then (spell_sign.j0 k a0 (a0.toList == ([39] : List UInt8)) l1_0 l1_1 l1_2 a1_3 a1_4 a1_5 a1_6 a1_7 a1_8 a1_9 a1_10 a1_11 a1_12 a1_13) else (spell_sign.j0 k a0 false l1_0 l1_1 l1_2 a1_3 a1_4 a1_5 a1_6 a1_7 a1_8 a1_9 a1_10 a1_11 a1_12 a1_13)) = some r := h
 clear h
 have HC3 := gA H
 clear H
 go_enter Try.func27, Try.ntmps27
 go_upto_region 1 with (first | ((with_reducible refine gate_dst (N := 3) rfl ?_); refine box_event ?hg (N := 3) ?hd (cs := #[.slice A1_0 l1_0.length c1_0, .slice A1_1 l1_1.length c1_1, .slice A1_2 l1_2.length c1_2, .string a1_3, .string a1_4, .string a1_5, .string a1_6, .string a1_7, .string a1_8, .string a1_9, .string a1_10, .bool a1_11, .bool a1_12, .bool a1_13]) (t := 32) ?hr ?_; (case hd => rfl); (case hg => rfl); (case hr => first | (go_simp; done) | (go_simp; rfl)); intro gb137 hg w4 hbox hb; have BK137 := gA (hbox); have GW137 := gA ((by rw [hg]; exact (below_size (gB HB)) : w.heap.size ≤ gb137)); have GE137 := gA ((by rw [hg]; exact (below_size (gB HB)) : w.heap.size ≤ gb137)); replace HB := gA (below_step (gB HB) hb); clear hb hbox hg))
 (try simp only [Act.put, List.setIfInBounds_toArray, List.set_cons_zero, List.set_cons_succ])
 go_cut [5] (fun v5 wc => ∃ (kq : Nat) (x5_2 : Bool), v5 = .bool x5_2 ∧ Aside0 (spell_sign.j0 kq a0 x5_2 l1_0 l1_1 l1_2 a1_3 a1_4 a1_5 a1_6 a1_7 a1_8 a1_9 a1_10 a1_11 a1_12 a1_13 = some r) ∧ Aside0 (kq ≤ k) ∧ Aside0 (wc.heap[gb137]? = some (.cells #[(.slice A1_0 l1_0.length c1_0), (.slice A1_1 l1_1.length c1_1), (.slice A1_2 l1_2.length c1_2), .string a1_3, .string a1_4, .string a1_5, .string a1_6, .string a1_7, .string a1_8, .string a1_9, .string a1_10, .bool a1_11, .bool a1_12, .bool a1_13] 32 (0, 0))) ∧ Aside0 (Below w.heap.size w wc))
 case first =>
  have H := HC3.out; clear HC3
  by_cases c5 : a1_10.toList = ([39] : List UInt8)
  ·rw [if_pos c5] at H
   have c5b0 : (a1_10.toList == ([39] : List UInt8)) = true := beq_iff_eq.mpr c5
   have c5b1 : (a1_10.toList != ([39] : List UInt8)) = false := bne_eq_false_iff_eq.mpr c5
   clear c5
   (first | rw [c5b0] | rw [c5b1] | (simp only [i64_w, i32_w]; rw [c5b0]) | skip)
   have H' := gA H
   clear H
   have hcz6_0 := gz BK137 0 rfl
   have hcz6_1 := gz BK137 1 rfl
   have hcz6_2 := gz BK137 2 rfl
   have hcz6_3 := gz BK137 3 rfl
   have hcz6_4 := gz BK137 4 rfl
   have hcz6_5 := gz BK137 5 rfl
   have hcz6_6 := gz BK137 6 rfl
   have hcz6_7 := gz BK137 7 rfl
   have hcz6_8 := gz BK137 8 rfl
   have hcz6_9 := gz BK137 9 rfl
   have hcz6_10 := gz BK137 10 rfl
   have hcz6_11 := gz BK137 11 rfl
   have hcz6_12 := gz BK137 12 rfl
   have hcz6_13 := gz BK137 13 rfl
   have hfz6_0 := blk_frozen BK137.out 0
   have hfz6_1 := blk_frozen BK137.out 1
   have hfz6_2 := blk_frozen BK137.out 2
   have hfz6_3 := blk_frozen BK137.out 3
   have hfz6_4 := blk_frozen BK137.out 4
   have hfz6_5 := blk_frozen BK137.out 5
   have hfz6_6 := blk_frozen BK137.out 6
   have hfz6_7 := blk_frozen BK137.out 7
   have hfz6_8 := blk_frozen BK137.out 8
   have hfz6_9 := blk_frozen BK137.out 9
   have hfz6_10 := blk_frozen BK137.out 10
   have hfz6_11 := blk_frozen BK137.out 11
   have hfz6_12 := blk_frozen BK137.out 12
   have hfz6_13 := blk_frozen BK137.out 13
   go_wp2
   all_goals (go_meet; (case rel => exact ⟨_, ((a0.toList == ([39] : List UInt8))), (by first | rfl | (simp; done) | (simp [*]; done) | (exfalso; simp_all; done) | (exfalso; simp_all; omega)), H', ⟨by first | omega | exact Nat.le_refl _⟩, ⟨gK BK137⟩, ⟨gB HB⟩⟩))
  ·rw [if_neg c5] at H
   have c5b0 : (a1_10.toList == ([39] : List UInt8)) = false := beq_eq_false_iff_ne.mpr c5
   have c5b1 : (a1_10.toList != ([39] : List UInt8)) = true := bne_iff_ne.mpr c5
   (first | rw [c5b0] | rw [c5b1] | (simp only [i64_w, i32_w]; rw [c5b0]) | skip)
   have H' := gA H
   clear H
   have hcz7_0 := gz BK137 0 rfl
   have hcz7_1 := gz BK137 1 rfl
   have hcz7_2 := gz BK137 2 rfl
   have hcz7_3 := gz BK137 3 rfl
   have hcz7_4 := gz BK137 4 rfl
   have hcz7_5 := gz BK137 5 rfl
   have hcz7_6 := gz BK137 6 rfl
   have hcz7_7 := gz BK137 7 rfl
   have hcz7_8 := gz BK137 8 rfl
   have hcz7_9 := gz BK137 9 rfl
   have hcz7_10 := gz BK137 10 rfl
   have hcz7_11 := gz BK137 11 rfl
   have hcz7_12 := gz BK137 12 rfl
   have hcz7_13 := gz BK137 13 rfl
   have hfz7_0 := blk_frozen BK137.out 0
   have hfz7_1 := blk_frozen BK137.out 1
   have hfz7_2 := blk_frozen BK137.out 2
   have hfz7_3 := blk_frozen BK137.out 3
   have hfz7_4 := blk_frozen BK137.out 4
   have hfz7_5 := blk_frozen BK137.out 5
   have hfz7_6 := blk_frozen BK137.out 6
   have hfz7_7 := blk_frozen BK137.out 7
   have hfz7_8 := blk_frozen BK137.out 8
   have hfz7_9 := blk_frozen BK137.out 9
   have hfz7_10 := blk_frozen BK137.out 10
   have hfz7_11 := blk_frozen BK137.out 11
   have hfz7_12 := blk_frozen BK137.out 12
   have hfz7_13 := blk_frozen BK137.out 13
   go_wp2
   all_goals (go_meet; (case rel => exact ⟨_, (false), (by first | rfl | (simp; done) | (simp [*]; done) | (exfalso; simp_all; done) | (exfalso; simp_all; omega)), H', ⟨by first | omega | exact Nat.le_refl _⟩, ⟨gK BK137⟩, ⟨gB HB⟩⟩))
 case rest =>
  clear HC3
  try clear c1
  try clear c2
  try clear p2
  try clear c5
  try clear c5b0
  try clear c5b1
  try clear hcz6_0
  try clear hcz6_1
  try clear hcz6_10
  try clear hcz6_11
  try clear hcz6_12
  try clear hcz6_13
  try clear hcz6_2
  try clear hcz6_3
  try clear hcz6_4
  try clear hcz6_5
  try clear hcz6_6
  try clear hcz6_7
  try clear hcz6_8
  try clear hcz6_9
  try clear hcz7_0
  try clear hcz7_1
  try clear hcz7_10
  try clear hcz7_11
  try clear hcz7_12
  try clear hcz7_13
  try clear hcz7_2
  try clear hcz7_3
  try clear hcz7_4
  try clear hcz7_5
  try clear hcz7_6
  try clear hcz7_7
  try clear hcz7_8
  try clear hcz7_9
  try clear hfz6_0
  try clear hfz6_1
  try clear hfz6_10
  try clear hfz6_11
  try clear hfz6_12
  try clear hfz6_13
  try clear hfz6_2
  try clear hfz6_3
  try clear hfz6_4
  try clear hfz6_5
  try clear hfz6_6
  try clear hfz6_7
  try clear hfz6_8
  try clear hfz6_9
  try clear hfz7_0
  try clear hfz7_1
  try clear hfz7_10
  try clear hfz7_11
  try clear hfz7_12
  try clear hfz7_13
  try clear hfz7_2
  try clear hfz7_3
  try clear hfz7_4
  try clear hfz7_5
  try clear hfz7_6
  try clear hfz7_7
  try clear hfz7_8
  try clear hfz7_9
  obtain ⟨kq, x5_2, rfl, HA, HJ2, BK137, HB⟩ := hcut
  cases kq with
  | zero => exact absurd HA.out (by simp [spell_sign.j0])
  | succ kj2 =>
   have H := HA.out; clear HA
   simp only [spell_sign.j0] at H
   by_cases c8 : x5_2 = true
   ·subst c8
    have H1 : (some (⟨#[39, 39]⟩ : ByteArray)) = some r := by rw [if_pos rfl] at H; exact H
    clear H; have H := H1; clear H1
    obtain rfl := Option.some.inj H
    go_wp2
    go_ret
    exact ⟨rfl, by repeat first | exact gB HB | refine below_set ?_ GE137.out⟩
   ·replace c8 := Bool.eq_false_iff.mpr c8
    subst c8
    have H1 : (if a1_10.toList = ([39] : List UInt8) then (some a0) else (if a0.toList = ([34] : List UInt8) then (if 1 + a0.size ≤ 9223372036854775807 then (some ((⟨#[92]⟩ : ByteArray) ++ a0)) else (none)) else (if a0.toList = ([92] : List UInt8) then (if 1 + a0.size ≤ 9223372036854775807 then (some ((⟨#[92]⟩ : ByteArray) ++ a0)) else (none)) else (some a0)))) = some r := by rw [if_neg (show ¬ (false = true) by decide)] at H; exact H
    clear H; have H := H1; clear H1
    by_cases c9 : a1_10.toList = ([39] : List UInt8)
    ·rw [if_pos c9] at H
     have c9b0 : (a1_10.toList == ([39] : List UInt8)) = true := beq_iff_eq.mpr c9
     have c9b1 : (a1_10.toList != ([39] : List UInt8)) = false := bne_eq_false_iff_eq.mpr c9
     clear c9
     obtain rfl := Option.some.inj H
     have hcz10_0 := gz BK137 0 rfl
     have hcz10_1 := gz BK137 1 rfl
     have hcz10_2 := gz BK137 2 rfl
     have hcz10_3 := gz BK137 3 rfl
     have hcz10_4 := gz BK137 4 rfl
     have hcz10_5 := gz BK137 5 rfl
     have hcz10_6 := gz BK137 6 rfl
     have hcz10_7 := gz BK137 7 rfl
     have hcz10_8 := gz BK137 8 rfl
     have hcz10_9 := gz BK137 9 rfl
     have hcz10_10 := gz BK137 10 rfl
     have hcz10_11 := gz BK137 11 rfl
     have hcz10_12 := gz BK137 12 rfl
     have hcz10_13 := gz BK137 13 rfl
     have hfz10_0 := blk_frozen BK137.out 0
     have hfz10_1 := blk_frozen BK137.out 1
     have hfz10_2 := blk_frozen BK137.out 2
     have hfz10_3 := blk_frozen BK137.out 3
     have hfz10_4 := blk_frozen BK137.out 4
     have hfz10_5 := blk_frozen BK137.out 5
     have hfz10_6 := blk_frozen BK137.out 6
     have hfz10_7 := blk_frozen BK137.out 7
     have hfz10_8 := blk_frozen BK137.out 8
     have hfz10_9 := blk_frozen BK137.out 9
     have hfz10_10 := blk_frozen BK137.out 10
     have hfz10_11 := blk_frozen BK137.out 11
     have hfz10_12 := blk_frozen BK137.out 12
     have hfz10_13 := blk_frozen BK137.out 13
     go_wp2
     go_ret
     exact ⟨rfl, by repeat first | exact gB HB | refine below_set ?_ GE137.out⟩
    ·rw [if_neg c9] at H
     have c9b0 : (a1_10.toList == ([39] : List UInt8)) = false := beq_eq_false_iff_ne.mpr c9
     have c9b1 : (a1_10.toList != ([39] : List UInt8)) = true := bne_iff_ne.mpr c9
     by_cases c11 : a0.toList = ([34] : List UInt8)
     ·rw [if_pos c11] at H
      have c11b0 : (a0.toList == ([34] : List UInt8)) = true := beq_iff_eq.mpr c11
      have c11b1 : (a0.toList != ([34] : List UInt8)) = false := bne_eq_false_iff_eq.mpr c11
      clear c11
      obtain ⟨c12, H⟩ := iS H
      have c12b0 := eq_true c12
      have c12b1 := decide_eq_true c12
      try have c12b2 : (9223372036854775807 < 1 + a0.size) = False := eq_false (Nat.not_lt.2 c12)
      obtain rfl := Option.some.inj H
      have hcz13_0 := gz BK137 0 rfl
      have hcz13_1 := gz BK137 1 rfl
      have hcz13_2 := gz BK137 2 rfl
      have hcz13_3 := gz BK137 3 rfl
      have hcz13_4 := gz BK137 4 rfl
      have hcz13_5 := gz BK137 5 rfl
      have hcz13_6 := gz BK137 6 rfl
      have hcz13_7 := gz BK137 7 rfl
      have hcz13_8 := gz BK137 8 rfl
      have hcz13_9 := gz BK137 9 rfl
      have hcz13_10 := gz BK137 10 rfl
      have hcz13_11 := gz BK137 11 rfl
      have hcz13_12 := gz BK137 12 rfl
      have hcz13_13 := gz BK137 13 rfl
      have hfz13_0 := blk_frozen BK137.out 0
      have hfz13_1 := blk_frozen BK137.out 1
      have hfz13_2 := blk_frozen BK137.out 2
      have hfz13_3 := blk_frozen BK137.out 3
      have hfz13_4 := blk_frozen BK137.out 4
      have hfz13_5 := blk_frozen BK137.out 5
      have hfz13_6 := blk_frozen BK137.out 6
      have hfz13_7 := blk_frozen BK137.out 7
      have hfz13_8 := blk_frozen BK137.out 8
      have hfz13_9 := blk_frozen BK137.out 9
      have hfz13_10 := blk_frozen BK137.out 10
      have hfz13_11 := blk_frozen BK137.out 11
      have hfz13_12 := blk_frozen BK137.out 12
      have hfz13_13 := blk_frozen BK137.out 13
      go_wp2
      go_ret
      exact ⟨rfl, by repeat first | exact gB HB | refine below_set ?_ GE137.out⟩
     ·rw [if_neg c11] at H
      have c11b0 : (a0.toList == ([34] : List UInt8)) = false := beq_eq_false_iff_ne.mpr c11
      have c11b1 : (a0.toList != ([34] : List UInt8)) = true := bne_iff_ne.mpr c11
      by_cases c14 : a0.toList = ([92] : List UInt8)
      ·rw [if_pos c14] at H
       have c14b0 : (a0.toList == ([92] : List UInt8)) = true := beq_iff_eq.mpr c14
       have c14b1 : (a0.toList != ([92] : List UInt8)) = false := bne_eq_false_iff_eq.mpr c14
       clear c14
       obtain ⟨c15, H⟩ := iS H
       have c15b0 := eq_true c15
       have c15b1 := decide_eq_true c15
       try have c15b2 : (9223372036854775807 < 1 + a0.size) = False := eq_false (Nat.not_lt.2 c15)
       obtain rfl := Option.some.inj H
       have hcz16_0 := gz BK137 0 rfl
       have hcz16_1 := gz BK137 1 rfl
       have hcz16_2 := gz BK137 2 rfl
       have hcz16_3 := gz BK137 3 rfl
       have hcz16_4 := gz BK137 4 rfl
       have hcz16_5 := gz BK137 5 rfl
       have hcz16_6 := gz BK137 6 rfl
       have hcz16_7 := gz BK137 7 rfl
       have hcz16_8 := gz BK137 8 rfl
       have hcz16_9 := gz BK137 9 rfl
       have hcz16_10 := gz BK137 10 rfl
       have hcz16_11 := gz BK137 11 rfl
       have hcz16_12 := gz BK137 12 rfl
       have hcz16_13 := gz BK137 13 rfl
       have hfz16_0 := blk_frozen BK137.out 0
       have hfz16_1 := blk_frozen BK137.out 1
       have hfz16_2 := blk_frozen BK137.out 2
       have hfz16_3 := blk_frozen BK137.out 3
       have hfz16_4 := blk_frozen BK137.out 4
       have hfz16_5 := blk_frozen BK137.out 5
       have hfz16_6 := blk_frozen BK137.out 6
       have hfz16_7 := blk_frozen BK137.out 7
       have hfz16_8 := blk_frozen BK137.out 8
       have hfz16_9 := blk_frozen BK137.out 9
       have hfz16_10 := blk_frozen BK137.out 10
       have hfz16_11 := blk_frozen BK137.out 11
       have hfz16_12 := blk_frozen BK137.out 12
       have hfz16_13 := blk_frozen BK137.out 13
       go_wp2
       go_ret
       exact ⟨rfl, by repeat first | exact gB HB | refine below_set ?_ GE137.out⟩
      ·rw [if_neg c14] at H
       have c14b0 : (a0.toList == ([92] : List UInt8)) = false := beq_eq_false_iff_ne.mpr c14
       have c14b1 : (a0.toList != ([92] : List UInt8)) = true := bne_iff_ne.mpr c14
       obtain rfl := Option.some.inj H
       have hcz17_0 := gz BK137 0 rfl
       have hcz17_1 := gz BK137 1 rfl
       have hcz17_2 := gz BK137 2 rfl
       have hcz17_3 := gz BK137 3 rfl
       have hcz17_4 := gz BK137 4 rfl
       have hcz17_5 := gz BK137 5 rfl
       have hcz17_6 := gz BK137 6 rfl
       have hcz17_7 := gz BK137 7 rfl
       have hcz17_8 := gz BK137 8 rfl
       have hcz17_9 := gz BK137 9 rfl
       have hcz17_10 := gz BK137 10 rfl
       have hcz17_11 := gz BK137 11 rfl
       have hcz17_12 := gz BK137 12 rfl
       have hcz17_13 := gz BK137 13 rfl
       have hfz17_0 := blk_frozen BK137.out 0
       have hfz17_1 := blk_frozen BK137.out 1
       have hfz17_2 := blk_frozen BK137.out 2
       have hfz17_3 := blk_frozen BK137.out 3
       have hfz17_4 := blk_frozen BK137.out 4
       have hfz17_5 := blk_frozen BK137.out 5
       have hfz17_6 := blk_frozen BK137.out 6
       have hfz17_7 := blk_frozen BK137.out 7
       have hfz17_8 := blk_frozen BK137.out 8
       have hfz17_9 := blk_frozen BK137.out 9
       have hfz17_10 := blk_frozen BK137.out 10
       have hfz17_11 := blk_frozen BK137.out 11
       have hfz17_12 := blk_frozen BK137.out 12
       have hfz17_13 := blk_frozen BK137.out 13
       go_wp2
       go_ret
       exact ⟨rfl, by repeat first | exact gB HB | refine below_set ?_ GE137.out⟩
end Go.Proofs.Yteamkcgkhcalhaa.P
