/- Written by a program of this session: the functions that the laws reach, what each comes to, and each law as it is stated, for every input. No condition. -/
import Derived.Test.YteamkcgkhcalhaaPx0
import Derived.Test.YteamkcgkhcalhaaPx4
import Derived.Test.YteamkcgkhcalhaaPx5
import Derived.Test.YteamkcgkhcalhaaPx6
namespace Go.Proofs.Yteamkcgkhcalhaa.P
open Go.RowKit Go.Proofs.YteamkcgkhcalhaaW.PrintWords Go.Proofs.YteamkcgkhcalhaaW.PrintLast Go.Proofs.YteamkcgkhcalhaaW.PrintMore
attribute [local go_sem] max2_int min2_int max_two min_two max_three min_three max_four min_four   -- for this text's walks alone
set_option linter.unusedVariables false
set_option linter.unusedSimpArgs false
def triglyphref02_Good.f (a0 : Int) : Option (Bool) := if a0 ≥ 0 then (if a0 < 55296 then (some true) else (if a0 > 57343 then (some (decide (a0 < 1114112))) else (some false))) else (if a0 > 57343 then (some (decide (a0 < 1114112))) else (some false))
set_option maxHeartbeats 8000000 in
set_option maxRecDepth 100000 in
theorem triglyphref02_Good.calls (a0 : Int) (r : Bool) (w : World) (h : triglyphref02_Good.f a0 = some r) :
  Calls Try.prog 86 #[.int .i64 a0] w fun e w' => e = .returned (.bool r) ∧ Drawn0 w w' := by
 have H : (if a0 ≥ 0 then (if a0 < 55296 then (some true) else (if a0 > 57343 then (some (decide (a0 < 1114112))) else (some false))) else (if a0 > 57343 then (some (decide (a0 < 1114112))) else (some false))) = some r := h
 clear h
 by_cases c2 : a0 ≥ 0
 ·rw [if_pos c2] at H
  have c2b0 : decide (0 ≤ a0) = true := decide_eq_true c2
  clear c2
  by_cases c3 : a0 < 55296
  ·rw [if_pos c3] at H
   have c3b0 := decide_eq_true c3
   clear c3
   obtain rfl := Option.some.inj H
   go_enter Try.func86, Try.ntmps86
   go_wp2
   go_ret
   exact ⟨rfl, by repeat (first | exact Drawn0.refl _ | apply Drawn0.step)⟩
  ·rw [if_neg c3] at H
   have c3b0 := decide_eq_false c3
   clear c3
   by_cases c4 : a0 > 57343
   ·rw [if_pos c4] at H
    have c4b0 : decide (57343 < a0) = true := decide_eq_true c4
    clear c4
    obtain rfl := Option.some.inj H
    go_enter Try.func86, Try.ntmps86
    go_wp2
    go_ret
    exact ⟨rfl, by repeat (first | exact Drawn0.refl _ | apply Drawn0.step)⟩
   ·rw [if_neg c4] at H
    have c4b0 : decide (57343 < a0) = false := decide_eq_false c4
    clear c4
    obtain rfl := Option.some.inj H
    go_enter Try.func86, Try.ntmps86
    go_wp2
    go_ret
    exact ⟨rfl, by repeat (first | exact Drawn0.refl _ | apply Drawn0.step)⟩
 ·rw [if_neg c2] at H
  have c2b0 : decide (0 ≤ a0) = false := decide_eq_false c2
  clear c2
  by_cases c5 : a0 > 57343
  ·rw [if_pos c5] at H
   have c5b0 : decide (57343 < a0) = true := decide_eq_true c5
   clear c5
   obtain rfl := Option.some.inj H
   go_enter Try.func86, Try.ntmps86
   go_wp2
   go_ret
   exact ⟨rfl, by repeat (first | exact Drawn0.refl _ | apply Drawn0.step)⟩
  ·rw [if_neg c5] at H
   have c5b0 : decide (57343 < a0) = false := decide_eq_false c5
   clear c5
   obtain rfl := Option.some.inj H
   go_enter Try.func86, Try.ntmps86
   go_wp2
   go_ret
   exact ⟨rfl, by repeat (first | exact Drawn0.refl _ | apply Drawn0.step)⟩
def triglyphref12_Lex.f (k : Nat) (a0 : ByteArray) : Option (List S73 × Int × Int × Int) := if a0.size = 0 then (triglyphref12_Blanks.f k (⟨#[]⟩ : ByteArray) 0).bind fun b => (if b = 0 then some ([], 0, 0, 0) else none) else none
theorem triglyphref12_Lex.mono : ∀ a0 k, LeO (triglyphref12_Lex.f k a0) (triglyphref12_Lex.f (k + 1) a0) := by
 intro a0 k
 unfold triglyphref12_Lex.f
 exact LeO.ite (LeO.bind (triglyphref12_Blanks.mono _ _ _) (fun _ => LeO.refl _)) (LeO.refl _)
set_option maxHeartbeats 4000000 in
set_option maxRecDepth 100000 in
theorem triglyphref12_Lex.calls (k : Nat) (a0 : ByteArray) (r1 : List S73) (r2 : Int) (r3 : Int) (r4 : Int) (w : World) (h : triglyphref12_Lex.f k a0 = some (r1, r2, r3, r4)) :
  Calls Try.prog 21 #[.string a0] w fun e w' => ∃ v0_ : Value, e = .returned (.tuple #[v0_, .agg #[.int .i64 r2, .int .i64 r3, .int .i64 r4]]) ∧ Kd.R k73 73 w' w.heap.size (fun _ => True) v0_ r1 ∧ Below w.heap.size w w' := by
 have hu_f := Try.underlying36
 unfold triglyphref12_Lex.f at h
 by_cases c0 : a0.size = 0
 ·rw [if_pos c0] at h
  obtain rfl : a0 = (⟨#[]⟩ : ByteArray) := by
   cases a0
   have : _ = #[] := Array.eq_empty_of_size_eq_zero c0
   rw [this]
  clear c0
  obtain ⟨b0, q0, h⟩ := Option.bind_eq_some_iff.1 h
  split at h
  ·rename_i hb0; subst hb0
   simp only [Option.some.injEq, Prod.mk.injEq] at h; obtain ⟨rfl, rfl, rfl, rfl⟩ := h
   have Q0 := Aside0.mk q0; clear q0
   have HS := Aside0.mk ((BxS.nil w).cons #[.int .i64 0, .int .i64 0, .int .i64 0] 36)
   go_enter Try.func21, Try.ntmps21
   go_upto_region 1 with (fail)
   generalize w.alloc (.cells #[.int .i64 0, .int .i64 0, .int .i64 0] 36) = W at HS ⊢
   go_wp2_with (first | (go_at_call 31; (with_reducible refine (triglyphref12_Blanks.calls k (⟨#[]⟩ : ByteArray) 0 0 _ Q0.out).mono ?_); rintro e w1 ⟨rfl, hb⟩; have HS := Aside0.mk (HS.out.step hb.below); clear hb))
   go_loopg [4, 5] 1 (fun kq v4 v5 W' => v4 = .slice none 0 0 ∧ v5 = .int .i64 0 ∧ kq = 1 ∧ Aside0 (BxS w W' [(w.heap.size, #[.int .i64 0, .int .i64 0, .int .i64 0], 36)]))
   case atStart => exact ⟨rfl, rfl, rfl, HS⟩
   case round =>
    clear HS
    obtain ⟨rfl, rfl, rfl, HS⟩ := hrel
    have z0 : wr.cell? ⟨w.heap.size, 0, none⟩ = some (.int .i64 0) := (blk_cell (HS.out.at_ 0 rfl) 0).trans rfl; have z1 : wr.cell? ⟨w.heap.size, 1, none⟩ = some (.int .i64 0) := (blk_cell (HS.out.at_ 0 rfl) 1).trans rfl; have z2 : wr.cell? ⟨w.heap.size, 2, none⟩ = some (.int .i64 0) := (blk_cell (HS.out.at_ 0 rfl) 2).trans rfl; have f0 := blk_frozen (HS.out.at_ 0 rfl) 0; have f1 := blk_frozen (HS.out.at_ 0 rfl) 1; have f2 := blk_frozen (HS.out.at_ 0 rfl) 2
    go_wp2_with (fail)
    all_goals (refine bodyPost_ret (results_tc rfl _ _ (w.heap.size) 36 #[.int .i64 0, .int .i64 0, .int .i64 0] (0, 0) _ rfl (hf_z3 (HS.out.at_ 0 rfl) _ _ _) Try.underlying36 rfl (by kernel_rfl)) rfl ?_; exact ⟨_, rfl, Kd.R_nil _ _ _ _ _, below_set (below_set (below_set HS.out.bel (Nat.le_refl _)) (Nat.le_refl _)) (Nat.le_refl _)⟩)
  ·cases h
 ·rw [if_neg c0] at h
  cases h
def triglyphref13_Lex.f (k : Nat) (a0 : ByteArray) : Option (List S73 × Int × Int × Int) := if a0.size = 0 then (triglyphref12_Blanks.f k (⟨#[]⟩ : ByteArray) 0).bind fun b => (if b = 0 then some ([], 0, 0, 0) else none) else none
theorem triglyphref13_Lex.mono : ∀ a0 k, LeO (triglyphref13_Lex.f k a0) (triglyphref13_Lex.f (k + 1) a0) := by
 intro a0 k
 unfold triglyphref13_Lex.f
 exact LeO.ite (LeO.bind (triglyphref12_Blanks.mono _ _ _) (fun _ => LeO.refl _)) (LeO.refl _)
set_option maxHeartbeats 4000000 in
set_option maxRecDepth 100000 in
theorem triglyphref13_Lex.calls (k : Nat) (a0 : ByteArray) (r1 : List S73) (r2 : Int) (r3 : Int) (r4 : Int) (w : World) (h : triglyphref13_Lex.f k a0 = some (r1, r2, r3, r4)) :
  Calls Try.prog 22 #[.string a0] w fun e w' => ∃ v0_ : Value, e = .returned (.tuple #[v0_, .agg #[.int .i64 r2, .int .i64 r3, .int .i64 r4]]) ∧ Kd.R k73 73 w' w.heap.size (fun _ => True) v0_ r1 ∧ Below w.heap.size w w' := by
 have hu_f := Try.underlying36
 unfold triglyphref13_Lex.f at h
 by_cases c0 : a0.size = 0
 ·rw [if_pos c0] at h
  obtain rfl : a0 = (⟨#[]⟩ : ByteArray) := by
   cases a0
   have : _ = #[] := Array.eq_empty_of_size_eq_zero c0
   rw [this]
  clear c0
  obtain ⟨b0, q0, h⟩ := Option.bind_eq_some_iff.1 h
  split at h
  ·rename_i hb0; subst hb0
   simp only [Option.some.injEq, Prod.mk.injEq] at h; obtain ⟨rfl, rfl, rfl, rfl⟩ := h
   have Q0 := Aside0.mk q0; clear q0
   have HS := Aside0.mk ((BxS.nil w).cons #[.int .i64 0, .int .i64 0, .int .i64 0] 36)
   go_enter Try.func22, Try.ntmps22
   go_upto_region 1 with (fail)
   generalize w.alloc (.cells #[.int .i64 0, .int .i64 0, .int .i64 0] 36) = W at HS ⊢
   go_wp2_with (first | (go_at_call 31; (with_reducible refine (triglyphref12_Blanks.calls k (⟨#[]⟩ : ByteArray) 0 0 _ Q0.out).mono ?_); rintro e w1 ⟨rfl, hb⟩; have HS := Aside0.mk (HS.out.step hb.below); clear hb))
   go_loopg [4, 5] 1 (fun kq v4 v5 W' => v4 = .slice none 0 0 ∧ v5 = .int .i64 0 ∧ kq = 1 ∧ Aside0 (BxS w W' [(w.heap.size, #[.int .i64 0, .int .i64 0, .int .i64 0], 36)]))
   case atStart => exact ⟨rfl, rfl, rfl, HS⟩
   case round =>
    clear HS
    obtain ⟨rfl, rfl, rfl, HS⟩ := hrel
    have z0 : wr.cell? ⟨w.heap.size, 0, none⟩ = some (.int .i64 0) := (blk_cell (HS.out.at_ 0 rfl) 0).trans rfl; have z1 : wr.cell? ⟨w.heap.size, 1, none⟩ = some (.int .i64 0) := (blk_cell (HS.out.at_ 0 rfl) 1).trans rfl; have z2 : wr.cell? ⟨w.heap.size, 2, none⟩ = some (.int .i64 0) := (blk_cell (HS.out.at_ 0 rfl) 2).trans rfl; have f0 := blk_frozen (HS.out.at_ 0 rfl) 0; have f1 := blk_frozen (HS.out.at_ 0 rfl) 1; have f2 := blk_frozen (HS.out.at_ 0 rfl) 2
    go_wp2_with (fail)
    all_goals (refine bodyPost_ret (results_tc rfl _ _ (w.heap.size) 36 #[.int .i64 0, .int .i64 0, .int .i64 0] (0, 0) _ rfl (hf_z3 (HS.out.at_ 0 rfl) _ _ _) Try.underlying36 rfl (by kernel_rfl)) rfl ?_; exact ⟨_, rfl, Kd.R_nil _ _ _ _ _, below_set (below_set (below_set HS.out.bel (Nat.le_refl _)) (Nat.le_refl _)) (Nat.le_refl _)⟩)
  ·cases h
 ·rw [if_neg c0] at h
  cases h
def triglyphref14_Lex.f (k : Nat) (a0 : ByteArray) : Option (List S73 × Int × Int × Int) := if a0.size = 0 then (triglyphref12_Blanks.f k (⟨#[]⟩ : ByteArray) 0).bind fun b => (if b = 0 then some ([], 0, 0, 0) else none) else none
theorem triglyphref14_Lex.mono : ∀ a0 k, LeO (triglyphref14_Lex.f k a0) (triglyphref14_Lex.f (k + 1) a0) := by
 intro a0 k
 unfold triglyphref14_Lex.f
 exact LeO.ite (LeO.bind (triglyphref12_Blanks.mono _ _ _) (fun _ => LeO.refl _)) (LeO.refl _)
set_option maxHeartbeats 4000000 in
set_option maxRecDepth 100000 in
theorem triglyphref14_Lex.calls (k : Nat) (a0 : ByteArray) (r1 : List S73) (r2 : Int) (r3 : Int) (r4 : Int) (w : World) (h : triglyphref14_Lex.f k a0 = some (r1, r2, r3, r4)) :
  Calls Try.prog 23 #[.string a0] w fun e w' => ∃ v0_ : Value, e = .returned (.tuple #[v0_, .agg #[.int .i64 r2, .int .i64 r3, .int .i64 r4]]) ∧ Kd.R k73 73 w' w.heap.size (fun _ => True) v0_ r1 ∧ Below w.heap.size w w' := by
 have hu_f := Try.underlying36
 unfold triglyphref14_Lex.f at h
 by_cases c0 : a0.size = 0
 ·rw [if_pos c0] at h
  obtain rfl : a0 = (⟨#[]⟩ : ByteArray) := by
   cases a0
   have : _ = #[] := Array.eq_empty_of_size_eq_zero c0
   rw [this]
  clear c0
  obtain ⟨b0, q0, h⟩ := Option.bind_eq_some_iff.1 h
  split at h
  ·rename_i hb0; subst hb0
   simp only [Option.some.injEq, Prod.mk.injEq] at h; obtain ⟨rfl, rfl, rfl, rfl⟩ := h
   have Q0 := Aside0.mk q0; clear q0
   have HS := Aside0.mk ((BxS.nil w).cons #[.int .i64 0, .int .i64 0, .int .i64 0] 36)
   go_enter Try.func23, Try.ntmps23
   go_upto_region 1 with (fail)
   generalize w.alloc (.cells #[.int .i64 0, .int .i64 0, .int .i64 0] 36) = W at HS ⊢
   go_wp2_with (first | (go_at_call 31; (with_reducible refine (triglyphref12_Blanks.calls k (⟨#[]⟩ : ByteArray) 0 0 _ Q0.out).mono ?_); rintro e w1 ⟨rfl, hb⟩; have HS := Aside0.mk (HS.out.step hb.below); clear hb))
   go_loopg [4, 5] 1 (fun kq v4 v5 W' => v4 = .slice none 0 0 ∧ v5 = .int .i64 0 ∧ kq = 1 ∧ Aside0 (BxS w W' [(w.heap.size, #[.int .i64 0, .int .i64 0, .int .i64 0], 36)]))
   case atStart => exact ⟨rfl, rfl, rfl, HS⟩
   case round =>
    clear HS
    obtain ⟨rfl, rfl, rfl, HS⟩ := hrel
    have z0 : wr.cell? ⟨w.heap.size, 0, none⟩ = some (.int .i64 0) := (blk_cell (HS.out.at_ 0 rfl) 0).trans rfl; have z1 : wr.cell? ⟨w.heap.size, 1, none⟩ = some (.int .i64 0) := (blk_cell (HS.out.at_ 0 rfl) 1).trans rfl; have z2 : wr.cell? ⟨w.heap.size, 2, none⟩ = some (.int .i64 0) := (blk_cell (HS.out.at_ 0 rfl) 2).trans rfl; have f0 := blk_frozen (HS.out.at_ 0 rfl) 0; have f1 := blk_frozen (HS.out.at_ 0 rfl) 1; have f2 := blk_frozen (HS.out.at_ 0 rfl) 2
    go_wp2_with (fail)
    all_goals (refine bodyPost_ret (results_tc rfl _ _ (w.heap.size) 36 #[.int .i64 0, .int .i64 0, .int .i64 0] (0, 0) _ rfl (hf_z3 (HS.out.at_ 0 rfl) _ _ _) Try.underlying36 rfl (by kernel_rfl)) rfl ?_; exact ⟨_, rfl, Kd.R_nil _ _ _ _ _, below_set (below_set (below_set HS.out.bel (Nat.le_refl _)) (Nat.le_refl _)) (Nat.le_refl _)⟩)
  ·cases h
 ·rw [if_neg c0] at h
  cases h
theorem results_ctc {P : Program} {fn : Func} {p u p' : Tmp} {ty ty' : TypeId} (h : fn.results = #[.cell p ty, .tmp u, .cell p' ty']) (tmps : Array Value) (w : World) (g g' : Nat) (t t' : TypeId) (cs cs' : Array Value) (fr fr' : Nat × Nat) (d d' : TypeDesc)
  (hp : tmps.getD p undef = .pointer (some ⟨g, 0, none⟩)) (hg : w.heap[g]? = some (.cells cs t fr))
  (hu : P.underlying ty = some d) (hd : (match d with | .struct _ | .array _ _ => true | _ => false) = true) (hi : (P.info? ty).map (·.size) = some cs.size)
  (hp' : tmps.getD p' undef = .pointer (some ⟨g', 0, none⟩)) (hg' : w.heap[g']? = some (.cells cs' t' fr'))
  (hu' : P.underlying ty' = some d') (hd' : (match d' with | .struct _ | .array _ _ => true | _ => false) = true) (hi' : (P.info? ty').map (·.size) = some cs'.size) :
  (results fn tmps).run P w = .ok (.tuple #[.agg cs, tmps.getD u undef, .agg cs']) w := by
 have h1 : tmps[p]?.getD undef = .pointer (some ⟨g, 0, none⟩) := by simpa using hp
 have h2 : tmps[p']?.getD undef = .pointer (some ⟨g', 0, none⟩) := by simpa using hp'
 simp [results, h, h1, h2, asAddr, run_loadVar_row w g t ty cs fr d hg hu hd hi, run_loadVar_row w g' t' ty' cs' fr' d' hg' hu' hd' hi']
theorem lx_R {α : Type} {d : Kd α} {e : Nat} {W W' : World} {base g : Nat} {ok : Nat → Prop} {v : Value} {xs : List α} (h : Kd.R d e W base ok v xs) (hk : KeepBut W W' g none) (hg : g < base) : Kd.R d e W' base ok v xs :=
 Kd.R_mono (Kd.R_keep (Kd.R_bound h) hk (fun k hk => Nat.ne_of_gt (Nat.lt_of_lt_of_le hg hk.2.1))) (fun _ hk => hk.1)
def triglyphlaw15_Lex.f (k : Nat) (a0 : Int) (a1 : ByteArray) : Option (List ByteArray × List ByteArray × List ByteArray × ByteArray × ByteArray × ByteArray × ByteArray × ByteArray × ByteArray × ByteArray × ByteArray × Bool × Bool × Bool × (List (S73)) × Int × Int × Int) := if Int.tmod (wrap64 ((Int.tmod a0 3) + 3)) 3 = 0 then ((triglyphref12_Lex.f k a1).bind fun t => ((triglyphref15_APL.f).bind fun g => (some (g.1, g.2.1, g.2.2.1, g.2.2.2.1, g.2.2.2.2.1, g.2.2.2.2.2.1, g.2.2.2.2.2.2.1, g.2.2.2.2.2.2.2.1, g.2.2.2.2.2.2.2.2.1, g.2.2.2.2.2.2.2.2.2.1, g.2.2.2.2.2.2.2.2.2.2.1, g.2.2.2.2.2.2.2.2.2.2.2.1, g.2.2.2.2.2.2.2.2.2.2.2.2.1, g.2.2.2.2.2.2.2.2.2.2.2.2.2, t.1, t.2.1, t.2.2.1, t.2.2.2)))) else (if Int.tmod (wrap64 ((Int.tmod a0 3) + 3)) 3 = 1 then ((triglyphref13_Lex.f k a1).bind fun t => ((triglyphref15_J.f).bind fun g => (some (g.1, g.2.1, g.2.2.1, g.2.2.2.1, g.2.2.2.2.1, g.2.2.2.2.2.1, g.2.2.2.2.2.2.1, g.2.2.2.2.2.2.2.1, g.2.2.2.2.2.2.2.2.1, g.2.2.2.2.2.2.2.2.2.1, g.2.2.2.2.2.2.2.2.2.2.1, g.2.2.2.2.2.2.2.2.2.2.2.1, g.2.2.2.2.2.2.2.2.2.2.2.2.1, g.2.2.2.2.2.2.2.2.2.2.2.2.2, t.1, t.2.1, t.2.2.1, t.2.2.2)))) else ((triglyphref14_Lex.f k a1).bind fun t => ((triglyphref15_K.f).bind fun g => (some (g.1, g.2.1, g.2.2.1, g.2.2.2.1, g.2.2.2.2.1, g.2.2.2.2.2.1, g.2.2.2.2.2.2.1, g.2.2.2.2.2.2.2.1, g.2.2.2.2.2.2.2.2.1, g.2.2.2.2.2.2.2.2.2.1, g.2.2.2.2.2.2.2.2.2.2.1, g.2.2.2.2.2.2.2.2.2.2.2.1, g.2.2.2.2.2.2.2.2.2.2.2.2.1, g.2.2.2.2.2.2.2.2.2.2.2.2.2, t.1, t.2.1, t.2.2.1, t.2.2.2)))))
theorem triglyphlaw15_Lex.mono : ∀ a0 a1 k, LeO (triglyphlaw15_Lex.f k a0 a1) (triglyphlaw15_Lex.f (k + 1) a0 a1) := by
 intro a0 a1 k
 unfold triglyphlaw15_Lex.f
 exact LeO.ite (LeO.bind (triglyphref12_Lex.mono _ _) (fun _ => LeO.refl _)) (LeO.ite (LeO.bind (triglyphref13_Lex.mono _ _) (fun _ => LeO.refl _)) (LeO.bind (triglyphref14_Lex.mono _ _) (fun _ => LeO.refl _)))
set_option maxHeartbeats 8000000 in
set_option maxRecDepth 100000 in
theorem triglyphlaw15_Lex.calls (k : Nat) (a0 : Int) (a1 : ByteArray) (r1 : List ByteArray) (r2 : List ByteArray) (r3 : List ByteArray) (r4 : ByteArray) (r5 : ByteArray) (r6 : ByteArray) (r7 : ByteArray) (r8 : ByteArray) (r9 : ByteArray) (r10 : ByteArray) (r11 : ByteArray) (r12 : Bool) (r13 : Bool) (r14 : Bool) (r15 : List (S73)) (r16 : Int) (r17 : Int) (r18 : Int) (w : World) (h : triglyphlaw15_Lex.f k a0 a1 = some (r1, r2, r3, r4, r5, r6, r7, r8, r9, r10, r11, r12, r13, r14, r15, r16, r17, r18)) :
  Calls Try.prog 9 #[.int .i64 a0, .string a1] w fun e w' => ∃ v0_ v1_ v2_ v14_ : Value, e = .returned (.tuple #[.agg #[v0_, v1_, v2_, .string r4, .string r5, .string r6, .string r7, .string r8, .string r9, .string r10, .string r11, .bool r12, .bool r13, .bool r14], v14_, .agg #[.int .i64 r16, .int .i64 r17, .int .i64 r18]]) ∧ Kd.R Kd.string 9 w' w.heap.size (fun k_ => some k_ ≠ (v1_ : Value).ownBlock ∧ some k_ ≠ (v2_ : Value).ownBlock) v0_ r1 ∧ Kd.R Kd.string 9 w' w.heap.size (fun k_ => some k_ ≠ (v0_ : Value).ownBlock ∧ some k_ ≠ (v2_ : Value).ownBlock) v1_ r2 ∧ Kd.R Kd.string 9 w' w.heap.size (fun k_ => some k_ ≠ (v0_ : Value).ownBlock ∧ some k_ ≠ (v1_ : Value).ownBlock) v2_ r3 ∧ Kd.R k73 73 w' w.heap.size (fun _ => True) v14_ r15 ∧ Below w.heap.size w w' := by
 have hu_f := Try.underlying36; have hu_g := Try.underlying32
 have HS := Aside0.mk (((BxS.nil w).cons #[.slice none 0 0, .slice none 0 0, .slice none 0 0, .string ⟨#[]⟩, .string ⟨#[]⟩, .string ⟨#[]⟩, .string ⟨#[]⟩, .string ⟨#[]⟩, .string ⟨#[]⟩, .string ⟨#[]⟩, .string ⟨#[]⟩, .bool false, .bool false, .bool false] 32).cons' #[.int .i64 0, .int .i64 0, .int .i64 0] 36 (hf_sz _ _))
 unfold triglyphlaw15_Lex.f at h
 by_cases c0 : Int.tmod (wrap64 ((Int.tmod a0 3) + 3)) 3 = 0
 ·rw [if_pos c0] at h
  have c0b : (Int.tmod (wrap64 ((Int.tmod a0 3) + 3)) 3 == 0) = true := beq_iff_eq.2 c0; clear c0
  obtain ⟨⟨x15, x16, x17, x18⟩, q0, h⟩ := Option.bind_eq_some_iff.1 h; obtain ⟨⟨x1, x2, x3, x4, x5, x6, x7, x8, x9, x10, x11, x12, x13, x14⟩, q1, h⟩ := Option.bind_eq_some_iff.1 h
  simp only [Option.some.injEq, Prod.mk.injEq] at h; obtain ⟨rfl, rfl, rfl, rfl, rfl, rfl, rfl, rfl, rfl, rfl, rfl, rfl, rfl, rfl, rfl, rfl, rfl, rfl⟩ := h
  have Q0 := Aside0.mk q0; have Q1 := Aside0.mk q1; clear q0 q1
  go_enter Try.func9, Try.ntmps9
  go_upto_region 1 with (fail)
  generalize (w.alloc (.cells #[.slice none 0 0, .slice none 0 0, .slice none 0 0, .string ⟨#[]⟩, .string ⟨#[]⟩, .string ⟨#[]⟩, .string ⟨#[]⟩, .string ⟨#[]⟩, .string ⟨#[]⟩, .string ⟨#[]⟩, .string ⟨#[]⟩, .bool false, .bool false, .bool false] 32)).alloc (.cells #[.int .i64 0, .int .i64 0, .int .i64 0] 36) = W at HS ⊢
  have HLT := Aside0.mk (show w.heap.size + 1 < W.heap.size from blk_lt (HS.out.at_ 0 rfl))
  go_upto_region 4 with (first | (go_at_call 21; (with_reducible refine (triglyphref12_Lex.calls k a1 x15 x16 x17 x18 _ Q0.out).mono ?_); rintro e w1 ⟨v14, rfl, h14, hb⟩; have HW1 := Aside0.mk hb.size; have HS := Aside0.mk (HS.out.step hb); have HQ := Aside0.mk (Kd.R_alloc h14 (.cells #[.int .i64 x16, .int .i64 x17, .int .i64 x18] 36)); obtain ⟨A14, c14, hv⟩ := Kd.R_slice h14; subst hv; clear h14 hb))
  have HS := Aside0.mk (HS.out.cons #[.int .i64 x16, .int .i64 x17, .int .i64 x18] 36)
  have HG8L := Aside0.mk (Nat.lt_of_lt_of_le HLT.out HW1.out); generalize w1.alloc (.cells #[.int .i64 x16, .int .i64 x17, .int .i64 x18] 36) = W1 at HS HQ ⊢; generalize w1.heap.size = g8 at HS HG8L ⊢
  have HN8 := Aside0.mk (show g8 ≠ w.heap.size ∧ g8 ≠ w.heap.size + 1 from ⟨fun e => absurd HG8L.out (by omega), fun e => absurd HG8L.out (by omega)⟩)
  refine start_ (n := 6) (S := fun W' => W'.heap[g8]? = some (.cells #[.int .i64 x16, .int .i64 x17, .int .i64 x18] 36 (0, 0))) (ds := []) #[false, false, false, false, false, false] (by kernel_rfl) rfl rfl ((HS.out.step (below_drew (Below.refl _ _))).at_ 0 rfl) (fun hHeld => ?_)
  have HQ := Aside0.mk (Kd.R_below HQ.out (below_drew (Below.refl _ _))); have HS := Aside0.mk (HS.out.step (below_drew (Below.refl _ _))); generalize W1.drew = Wr at HS HQ hHeld ⊢
  refine pure_ (i := 1) (N := some 25) (v := ?_) (a' := ?_) #[false, true, false, false, false, false] rfl rfl (by kernel_rfl) (fun _ _ _ h => h) (Or.inl ⟨by rfl, ?_⟩) ?_ ?_; rotate_left
  ·intro w'; go_simp; with_reducible rfl
  rotate_left
  ·simp only [Act.put, List.setIfInBounds_toArray, List.set_cons_zero, List.set_cons_succ, i64_w, i32_w]; rfl
  refine take_ (i := 2) (N := some 26) (v := ?_) (a' := ?_) #[false, true, true, false, false, false] rfl rfl (by kernel_rfl) (fun _ _ _ h => h) (Or.inl ⟨by rfl, ?_⟩) hHeld ?_ ?_; rotate_left
  ·intro w' s0; have nf0 : w'.cell? ⟨g8, 0, none⟩ = some (.int .i64 x16) := (blk_cell s0 0).trans rfl; have nf1 : w'.cell? ⟨g8, 1, none⟩ = some (.int .i64 x17) := (blk_cell s0 1).trans rfl; have nf2 : w'.cell? ⟨g8, 2, none⟩ = some (.int .i64 x18) := (blk_cell s0 2).trans rfl; first | (go_simp; done) | (go_simp; with_reducible rfl)
  rotate_left
  ·simp only [Act.put, List.setIfInBounds_toArray, List.set_cons_zero, List.set_cons_succ, i64_w, i32_w]; rfl
  refine one_ (i := 0) (N := some 24) #[true, true, true, false, false, false] rfl rfl (by kernel_rfl) (by decide) (fun K hK => ?_)
  refine goes_ Try.func14 (by kernel_rfl) rfl #[] (by rfl) rfl rfl (by first | rfl | (simp only [List.map_toArray, List.map_cons, List.map_nil]; done) | (simp only [List.map_toArray, List.map_cons, List.map_nil]; rfl)) ?_
  refine (triglyphref15_APL.calls x1 x2 x3 x4 x5 x6 x7 x8 x9 x10 x11 x12 x13 x14 _ Q1.out).mono ?_; rintro e w4 ⟨v0, v1, v2, rfl, h0, h1, h2, hb⟩; refine ⟨_, rfl, ?_⟩
  obtain ⟨B0, d0, hv0⟩ := Kd.R_slice h0; obtain ⟨B1, d1, hv1⟩ := Kd.R_slice h1; obtain ⟨B2, d2, hv2⟩ := Kd.R_slice h2; subst hv0 hv1 hv2
  have HLR := Aside0.mk (show w.heap.size < Wr.heap.size ∧ w.heap.size + 1 < Wr.heap.size from ⟨blk_lt (HS.out.at_ 2 rfl), blk_lt (HS.out.at_ 1 rfl)⟩)
  have HA := Aside0.mk (And.intro h0 (And.intro h1 h2)); have HQ := Aside0.mk (Kd.R_below HQ.out hb); have HWL := Aside0.mk HS.out.bel.size; have HS := Aside0.mk (HS.out.step hb); clear h0 h1 h2 hb
  refine hK.out _ _ (HS.out.at_ 0 rfl) (fun hHeld => ?_); clear hK K
  refine norm_ (a' := ?_) ?_ ?_; rotate_left
  ·show Act.put _ (some 24) _ = _
   simp only [Act.put, List.setIfInBounds_toArray, List.set_cons_zero, List.set_cons_succ, i64_w, i32_w]; rfl
  refine one_ (i := 3) (N := none) #[true, true, true, true, false, false] rfl rfl (by kernel_rfl) (by decide) (fun K hK => ?_)
  have z0 : w4.cell? ⟨w.heap.size, 0, none⟩ = some (.slice none 0 0) := (blk_cell (HS.out.at_ 2 rfl) 0).trans rfl; have fz0 := blk_frozen (HS.out.at_ 2 rfl) 0; have z1 : w4.cell? ⟨w.heap.size, 1, none⟩ = some (.slice none 0 0) := (blk_cell (HS.out.at_ 2 rfl) 1).trans rfl; have fz1 := blk_frozen (HS.out.at_ 2 rfl) 1; have z2 : w4.cell? ⟨w.heap.size, 2, none⟩ = some (.slice none 0 0) := (blk_cell (HS.out.at_ 2 rfl) 2).trans rfl; have fz2 := blk_frozen (HS.out.at_ 2 rfl) 2; have z3 : w4.cell? ⟨w.heap.size, 3, none⟩ = some (.string ⟨#[]⟩) := (blk_cell (HS.out.at_ 2 rfl) 3).trans rfl; have fz3 := blk_frozen (HS.out.at_ 2 rfl) 3; have z4 : w4.cell? ⟨w.heap.size, 4, none⟩ = some (.string ⟨#[]⟩) := (blk_cell (HS.out.at_ 2 rfl) 4).trans rfl; have fz4 := blk_frozen (HS.out.at_ 2 rfl) 4; have z5 : w4.cell? ⟨w.heap.size, 5, none⟩ = some (.string ⟨#[]⟩) := (blk_cell (HS.out.at_ 2 rfl) 5).trans rfl; have fz5 := blk_frozen (HS.out.at_ 2 rfl) 5; have z6 : w4.cell? ⟨w.heap.size, 6, none⟩ = some (.string ⟨#[]⟩) := (blk_cell (HS.out.at_ 2 rfl) 6).trans rfl; have fz6 := blk_frozen (HS.out.at_ 2 rfl) 6; have z7 : w4.cell? ⟨w.heap.size, 7, none⟩ = some (.string ⟨#[]⟩) := (blk_cell (HS.out.at_ 2 rfl) 7).trans rfl; have fz7 := blk_frozen (HS.out.at_ 2 rfl) 7; have z8 : w4.cell? ⟨w.heap.size, 8, none⟩ = some (.string ⟨#[]⟩) := (blk_cell (HS.out.at_ 2 rfl) 8).trans rfl; have fz8 := blk_frozen (HS.out.at_ 2 rfl) 8; have z9 : w4.cell? ⟨w.heap.size, 9, none⟩ = some (.string ⟨#[]⟩) := (blk_cell (HS.out.at_ 2 rfl) 9).trans rfl; have fz9 := blk_frozen (HS.out.at_ 2 rfl) 9; have z10 : w4.cell? ⟨w.heap.size, 10, none⟩ = some (.string ⟨#[]⟩) := (blk_cell (HS.out.at_ 2 rfl) 10).trans rfl; have fz10 := blk_frozen (HS.out.at_ 2 rfl) 10; have z11 : w4.cell? ⟨w.heap.size, 11, none⟩ = some (.bool false) := (blk_cell (HS.out.at_ 2 rfl) 11).trans rfl; have fz11 := blk_frozen (HS.out.at_ 2 rfl) 11; have z12 : w4.cell? ⟨w.heap.size, 12, none⟩ = some (.bool false) := (blk_cell (HS.out.at_ 2 rfl) 12).trans rfl; have fz12 := blk_frozen (HS.out.at_ 2 rfl) 12; have z13 : w4.cell? ⟨w.heap.size, 13, none⟩ = some (.bool false) := (blk_cell (HS.out.at_ 2 rfl) 13).trans rfl; have fz13 := blk_frozen (HS.out.at_ 2 rfl) 13
  refine skip_ (w1 := ?_) (by rfl) rfl ?_ ?_; rotate_left
  ·go_simp; rfl
  clear z0 fz0 z1 fz1 z2 fz2 z3 fz3 z4 fz4 z5 fz5 z6 fz6 z7 fz7 z8 fz8 z9 fz9 z10 fz10 z11 fz11 z12 fz12 z13 fz13
  have HK : KeepBut w4 ((((((((((((((w4.setCell ⟨w.heap.size, 0, none⟩ (.slice B0 x1.length d0)).setCell ⟨w.heap.size, 1, none⟩ (.slice B1 x2.length d1)).setCell ⟨w.heap.size, 2, none⟩ (.slice B2 x3.length d2)).setCell ⟨w.heap.size, 3, none⟩ (.string x4)).setCell ⟨w.heap.size, 4, none⟩ (.string x5)).setCell ⟨w.heap.size, 5, none⟩ (.string x6)).setCell ⟨w.heap.size, 6, none⟩ (.string x7)).setCell ⟨w.heap.size, 7, none⟩ (.string x8)).setCell ⟨w.heap.size, 8, none⟩ (.string x9)).setCell ⟨w.heap.size, 9, none⟩ (.string x10)).setCell ⟨w.heap.size, 10, none⟩ (.string x11)).setCell ⟨w.heap.size, 11, none⟩ (.bool x12)).setCell ⟨w.heap.size, 12, none⟩ (.bool x13)).setCell ⟨w.heap.size, 13, none⟩ (.bool x14)) w.heap.size none := KeepBut.set_ (KeepBut.set_ (KeepBut.set_ (KeepBut.set_ (KeepBut.set_ (KeepBut.set_ (KeepBut.set_ (KeepBut.set_ (KeepBut.set_ (KeepBut.set_ (KeepBut.set_ (KeepBut.set_ (KeepBut.set_ (KeepBut.set_ (KeepBut.refl w4 w.heap.size none) _ _) _ _) _ _) _ _) _ _) _ _) _ _) _ _) _ _) _ _) _ _) _ _) _ _) _ _
  have HB : Below w.heap.size w ((((((((((((((w4.setCell ⟨w.heap.size, 0, none⟩ (.slice B0 x1.length d0)).setCell ⟨w.heap.size, 1, none⟩ (.slice B1 x2.length d1)).setCell ⟨w.heap.size, 2, none⟩ (.slice B2 x3.length d2)).setCell ⟨w.heap.size, 3, none⟩ (.string x4)).setCell ⟨w.heap.size, 4, none⟩ (.string x5)).setCell ⟨w.heap.size, 5, none⟩ (.string x6)).setCell ⟨w.heap.size, 6, none⟩ (.string x7)).setCell ⟨w.heap.size, 7, none⟩ (.string x8)).setCell ⟨w.heap.size, 8, none⟩ (.string x9)).setCell ⟨w.heap.size, 9, none⟩ (.string x10)).setCell ⟨w.heap.size, 10, none⟩ (.string x11)).setCell ⟨w.heap.size, 11, none⟩ (.bool x12)).setCell ⟨w.heap.size, 12, none⟩ (.bool x13)).setCell ⟨w.heap.size, 13, none⟩ (.bool x14)) := below_set (below_set (below_set (below_set (below_set (below_set (below_set (below_set (below_set (below_set (below_set (below_set (below_set (below_set (HS.out.bel) (Nat.le_refl _)) (Nat.le_refl _)) (Nat.le_refl _)) (Nat.le_refl _)) (Nat.le_refl _)) (Nat.le_refl _)) (Nat.le_refl _)) (Nat.le_refl _)) (Nat.le_refl _)) (Nat.le_refl _)) (Nat.le_refl _)) (Nat.le_refl _)) (Nat.le_refl _)) (Nat.le_refl _)
  have HG4 := (blk_put (cs := #[.slice B0 x1.length d0, .slice B1 x2.length d1, .slice B2 x3.length d2, .string x4, .string x5, .string x6, .string x7, .string x8, .string x9, .string x10, .string x11, .bool x12, .bool x13, .bool false]) (blk_put (cs := #[.slice B0 x1.length d0, .slice B1 x2.length d1, .slice B2 x3.length d2, .string x4, .string x5, .string x6, .string x7, .string x8, .string x9, .string x10, .string x11, .bool x12, .bool false, .bool false]) (blk_put (cs := #[.slice B0 x1.length d0, .slice B1 x2.length d1, .slice B2 x3.length d2, .string x4, .string x5, .string x6, .string x7, .string x8, .string x9, .string x10, .string x11, .bool false, .bool false, .bool false]) (blk_put (cs := #[.slice B0 x1.length d0, .slice B1 x2.length d1, .slice B2 x3.length d2, .string x4, .string x5, .string x6, .string x7, .string x8, .string x9, .string x10, .string ⟨#[]⟩, .bool false, .bool false, .bool false]) (blk_put (cs := #[.slice B0 x1.length d0, .slice B1 x2.length d1, .slice B2 x3.length d2, .string x4, .string x5, .string x6, .string x7, .string x8, .string x9, .string ⟨#[]⟩, .string ⟨#[]⟩, .bool false, .bool false, .bool false]) (blk_put (cs := #[.slice B0 x1.length d0, .slice B1 x2.length d1, .slice B2 x3.length d2, .string x4, .string x5, .string x6, .string x7, .string x8, .string ⟨#[]⟩, .string ⟨#[]⟩, .string ⟨#[]⟩, .bool false, .bool false, .bool false]) (blk_put (cs := #[.slice B0 x1.length d0, .slice B1 x2.length d1, .slice B2 x3.length d2, .string x4, .string x5, .string x6, .string x7, .string ⟨#[]⟩, .string ⟨#[]⟩, .string ⟨#[]⟩, .string ⟨#[]⟩, .bool false, .bool false, .bool false]) (blk_put (cs := #[.slice B0 x1.length d0, .slice B1 x2.length d1, .slice B2 x3.length d2, .string x4, .string x5, .string x6, .string ⟨#[]⟩, .string ⟨#[]⟩, .string ⟨#[]⟩, .string ⟨#[]⟩, .string ⟨#[]⟩, .bool false, .bool false, .bool false]) (blk_put (cs := #[.slice B0 x1.length d0, .slice B1 x2.length d1, .slice B2 x3.length d2, .string x4, .string x5, .string ⟨#[]⟩, .string ⟨#[]⟩, .string ⟨#[]⟩, .string ⟨#[]⟩, .string ⟨#[]⟩, .string ⟨#[]⟩, .bool false, .bool false, .bool false]) (blk_put (cs := #[.slice B0 x1.length d0, .slice B1 x2.length d1, .slice B2 x3.length d2, .string x4, .string ⟨#[]⟩, .string ⟨#[]⟩, .string ⟨#[]⟩, .string ⟨#[]⟩, .string ⟨#[]⟩, .string ⟨#[]⟩, .string ⟨#[]⟩, .bool false, .bool false, .bool false]) (blk_put (cs := #[.slice B0 x1.length d0, .slice B1 x2.length d1, .slice B2 x3.length d2, .string ⟨#[]⟩, .string ⟨#[]⟩, .string ⟨#[]⟩, .string ⟨#[]⟩, .string ⟨#[]⟩, .string ⟨#[]⟩, .string ⟨#[]⟩, .string ⟨#[]⟩, .bool false, .bool false, .bool false]) (blk_put (cs := #[.slice B0 x1.length d0, .slice B1 x2.length d1, .slice none 0 0, .string ⟨#[]⟩, .string ⟨#[]⟩, .string ⟨#[]⟩, .string ⟨#[]⟩, .string ⟨#[]⟩, .string ⟨#[]⟩, .string ⟨#[]⟩, .string ⟨#[]⟩, .bool false, .bool false, .bool false]) (blk_put (cs := #[.slice B0 x1.length d0, .slice none 0 0, .slice none 0 0, .string ⟨#[]⟩, .string ⟨#[]⟩, .string ⟨#[]⟩, .string ⟨#[]⟩, .string ⟨#[]⟩, .string ⟨#[]⟩, .string ⟨#[]⟩, .string ⟨#[]⟩, .bool false, .bool false, .bool false]) (blk_put (cs := #[.slice none 0 0, .slice none 0 0, .slice none 0 0, .string ⟨#[]⟩, .string ⟨#[]⟩, .string ⟨#[]⟩, .string ⟨#[]⟩, .string ⟨#[]⟩, .string ⟨#[]⟩, .string ⟨#[]⟩, .string ⟨#[]⟩, .bool false, .bool false, .bool false]) (HS.out.at_ 2 rfl) 0 (.slice B0 x1.length d0) rfl) 1 (.slice B1 x2.length d1) rfl) 2 (.slice B2 x3.length d2) rfl) 3 (.string x4) rfl) 4 (.string x5) rfl) 5 (.string x6) rfl) 6 (.string x7) rfl) 7 (.string x8) rfl) 8 (.string x9) rfl) 9 (.string x10) rfl) 10 (.string x11) rfl) 11 (.bool x12) rfl) 12 (.bool x13) rfl) 13 (.bool x14) rfl)
  have HG6 := HK.2 (w.heap.size + 1) (blk_lt (HS.out.at_ 1 rfl)) (by omega) (by simp); have HG6 := HG6.trans (HS.out.at_ 1 rfl); have HG8 := HK.2 g8 (blk_lt (HS.out.at_ 0 rfl)) HN8.out.1 (by simp); have HG8 := HG8.trans (HS.out.at_ 0 rfl)
  have HA := Aside0.mk (And.intro (lx_R HA.out.1 HK HLR.out.1) (And.intro (lx_R HA.out.2.1 HK HLR.out.1) (lx_R HA.out.2.2 HK HLR.out.1))); have HQ := Aside0.mk (lx_R HQ.out HK (by have := HLT.out; omega))
  have HG := Aside0.mk (And.intro HB (And.intro HG4 (And.intro HG6 HG8))); clear HK HB HG4 HG6 HG8 HS hHeld
  generalize ((((((((((((((w4.setCell ⟨w.heap.size, 0, none⟩ (.slice B0 x1.length d0)).setCell ⟨w.heap.size, 1, none⟩ (.slice B1 x2.length d1)).setCell ⟨w.heap.size, 2, none⟩ (.slice B2 x3.length d2)).setCell ⟨w.heap.size, 3, none⟩ (.string x4)).setCell ⟨w.heap.size, 4, none⟩ (.string x5)).setCell ⟨w.heap.size, 5, none⟩ (.string x6)).setCell ⟨w.heap.size, 6, none⟩ (.string x7)).setCell ⟨w.heap.size, 7, none⟩ (.string x8)).setCell ⟨w.heap.size, 8, none⟩ (.string x9)).setCell ⟨w.heap.size, 9, none⟩ (.string x10)).setCell ⟨w.heap.size, 10, none⟩ (.string x11)).setCell ⟨w.heap.size, 11, none⟩ (.bool x12)).setCell ⟨w.heap.size, 12, none⟩ (.bool x13)).setCell ⟨w.heap.size, 13, none⟩ (.bool x14)) = X at HA HQ HG ⊢
  refine hK.out _ _ HG.out.2.2.2 (fun hHeld => ?_); clear hK K
  refine pure_ (i := 4) (N := some 5) (v := ?_) (a' := ?_) #[true, true, true, true, true, false] rfl rfl (by kernel_rfl) (fun _ _ _ h => h) (Or.inl ⟨by rfl, ?_⟩) ?_ ?_; rotate_left
  ·intro w'; go_simp; with_reducible rfl
  rotate_left
  ·simp only [Act.put, List.setIfInBounds_toArray, List.set_cons_zero, List.set_cons_succ, i64_w, i32_w]; rfl
  refine one_ (i := 5) (N := none) #[true, true, true, true, true, true] rfl rfl (by kernel_rfl) (by decide) (fun K hK => ?_)
  have z0 : X.cell? ⟨w.heap.size + 1, 0, none⟩ = some (.int .i64 0) := (blk_cell HG.out.2.2.1 0).trans rfl; have fz0 := blk_frozen HG.out.2.2.1 0; have z1 : X.cell? ⟨w.heap.size + 1, 1, none⟩ = some (.int .i64 0) := (blk_cell HG.out.2.2.1 1).trans rfl; have fz1 := blk_frozen HG.out.2.2.1 1; have z2 : X.cell? ⟨w.heap.size + 1, 2, none⟩ = some (.int .i64 0) := (blk_cell HG.out.2.2.1 2).trans rfl; have fz2 := blk_frozen HG.out.2.2.1 2
  refine skip_ (w1 := ?_) (by rfl) rfl ?_ ?_; rotate_left
  ·go_simp; rfl
  clear z0 z1 z2 fz0 fz1 fz2
  have HK : KeepBut X (((X.setCell ⟨w.heap.size + 1, 0, none⟩ (.int .i64 x16)).setCell ⟨w.heap.size + 1, 1, none⟩ (.int .i64 x17)).setCell ⟨w.heap.size + 1, 2, none⟩ (.int .i64 x18)) (w.heap.size + 1) none := KeepBut.set_ (KeepBut.set_ (KeepBut.set_ (KeepBut.refl X (w.heap.size + 1) none) _ _) _ _) _ _
  have HB : Below w.heap.size w (((X.setCell ⟨w.heap.size + 1, 0, none⟩ (.int .i64 x16)).setCell ⟨w.heap.size + 1, 1, none⟩ (.int .i64 x17)).setCell ⟨w.heap.size + 1, 2, none⟩ (.int .i64 x18)) := below_set (below_set (below_set (HG.out.1) (Nat.le_succ _)) (Nat.le_succ _)) (Nat.le_succ _)
  have HG6 := (blk_put (cs := #[.int .i64 x16, .int .i64 x17, .int .i64 0]) (blk_put (cs := #[.int .i64 x16, .int .i64 0, .int .i64 0]) (blk_put (cs := #[.int .i64 0, .int .i64 0, .int .i64 0]) HG.out.2.2.1 0 (.int .i64 x16) rfl) 1 (.int .i64 x17) rfl) 2 (.int .i64 x18) rfl)
  have HG4 := (HK.2 w.heap.size (blk_lt HG.out.2.1) (by omega) (by simp)).trans HG.out.2.1; have HG8 := (HK.2 g8 (blk_lt HG.out.2.2.2) HN8.out.2 (by simp)).trans HG.out.2.2.2
  have HA := Aside0.mk (And.intro (lx_R HA.out.1 HK HLR.out.2) (And.intro (lx_R HA.out.2.1 HK HLR.out.2) (lx_R HA.out.2.2 HK HLR.out.2))); have HQ := Aside0.mk (lx_R HQ.out HK (by have := HLT.out; omega))
  have HG := Aside0.mk (And.intro HB (And.intro HG4 HG6)); clear HK HB HG4 HG6 hHeld
  generalize (((X.setCell ⟨w.heap.size + 1, 0, none⟩ (.int .i64 x16)).setCell ⟨w.heap.size + 1, 1, none⟩ (.int .i64 x17)).setCell ⟨w.heap.size + 1, 2, none⟩ (.int .i64 x18)) = Y at HA HQ HG HG8 ⊢
  refine hK.out _ _ HG8 (fun hHeld => ?_); clear hK K
  clear HG8 hHeld
  refine done_ (by kernel_rfl) ?_
  go_wp2_with (fail)
  refine bodyPost_ret (results_ctc rfl _ _ (w.heap.size) (w.heap.size + 1) 32 36 #[.slice B0 x1.length d0, .slice B1 x2.length d1, .slice B2 x3.length d2, .string x4, .string x5, .string x6, .string x7, .string x8, .string x9, .string x10, .string x11, .bool x12, .bool x13, .bool x14] #[.int .i64 x16, .int .i64 x17, .int .i64 x18] (0, 0) (0, 0) _ _ rfl HG.out.2.1 Try.underlying32 rfl (by kernel_rfl) rfl HG.out.2.2 Try.underlying36 rfl (by kernel_rfl)) rfl ?_
  exact ⟨_, _, _, _, rfl, Kd.R_lower HA.out.1 HWL.out, Kd.R_lower HA.out.2.1 HWL.out, Kd.R_lower HA.out.2.2 HWL.out, Kd.R_lower HQ.out (Nat.le_of_lt (Nat.lt_of_succ_lt HLT.out)), HG.out.1⟩
 rw [if_neg c0] at h; have c0b : (Int.tmod (wrap64 ((Int.tmod a0 3) + 3)) 3 == 0) = false := beq_eq_false_iff_ne.2 c0; clear c0
 by_cases c1 : Int.tmod (wrap64 ((Int.tmod a0 3) + 3)) 3 = 1
 ·rw [if_pos c1] at h
  have c1b : (Int.tmod (wrap64 ((Int.tmod a0 3) + 3)) 3 == 1) = true := beq_iff_eq.2 c1; clear c1
  obtain ⟨⟨x15, x16, x17, x18⟩, q0, h⟩ := Option.bind_eq_some_iff.1 h; obtain ⟨⟨x1, x2, x3, x4, x5, x6, x7, x8, x9, x10, x11, x12, x13, x14⟩, q1, h⟩ := Option.bind_eq_some_iff.1 h
  simp only [Option.some.injEq, Prod.mk.injEq] at h; obtain ⟨rfl, rfl, rfl, rfl, rfl, rfl, rfl, rfl, rfl, rfl, rfl, rfl, rfl, rfl, rfl, rfl, rfl, rfl⟩ := h
  have Q0 := Aside0.mk q0; have Q1 := Aside0.mk q1; clear q0 q1
  go_enter Try.func9, Try.ntmps9
  go_upto_region 1 with (fail)
  generalize (w.alloc (.cells #[.slice none 0 0, .slice none 0 0, .slice none 0 0, .string ⟨#[]⟩, .string ⟨#[]⟩, .string ⟨#[]⟩, .string ⟨#[]⟩, .string ⟨#[]⟩, .string ⟨#[]⟩, .string ⟨#[]⟩, .string ⟨#[]⟩, .bool false, .bool false, .bool false] 32)).alloc (.cells #[.int .i64 0, .int .i64 0, .int .i64 0] 36) = W at HS ⊢
  have HLT := Aside0.mk (show w.heap.size + 1 < W.heap.size from blk_lt (HS.out.at_ 0 rfl))
  go_upto_region 7 with (first | (go_at_call 22; (with_reducible refine (triglyphref13_Lex.calls k a1 x15 x16 x17 x18 _ Q0.out).mono ?_); rintro e w1 ⟨v14, rfl, h14, hb⟩; have HW1 := Aside0.mk hb.size; have HS := Aside0.mk (HS.out.step hb); have HQ := Aside0.mk (Kd.R_alloc h14 (.cells #[.int .i64 x16, .int .i64 x17, .int .i64 x18] 36)); obtain ⟨A14, c14, hv⟩ := Kd.R_slice h14; subst hv; clear h14 hb))
  have HS := Aside0.mk (HS.out.cons #[.int .i64 x16, .int .i64 x17, .int .i64 x18] 36)
  have HG8L := Aside0.mk (Nat.lt_of_lt_of_le HLT.out HW1.out); generalize w1.alloc (.cells #[.int .i64 x16, .int .i64 x17, .int .i64 x18] 36) = W1 at HS HQ ⊢; generalize w1.heap.size = g8 at HS HG8L ⊢
  have HN8 := Aside0.mk (show g8 ≠ w.heap.size ∧ g8 ≠ w.heap.size + 1 from ⟨fun e => absurd HG8L.out (by omega), fun e => absurd HG8L.out (by omega)⟩)
  refine start_ (n := 6) (S := fun W' => W'.heap[g8]? = some (.cells #[.int .i64 x16, .int .i64 x17, .int .i64 x18] 36 (0, 0))) (ds := []) #[false, false, false, false, false, false] (by kernel_rfl) rfl rfl ((HS.out.step (below_drew (Below.refl _ _))).at_ 0 rfl) (fun hHeld => ?_)
  have HQ := Aside0.mk (Kd.R_below HQ.out (below_drew (Below.refl _ _))); have HS := Aside0.mk (HS.out.step (below_drew (Below.refl _ _))); generalize W1.drew = Wr at HS HQ hHeld ⊢
  refine pure_ (i := 1) (N := some 35) (v := ?_) (a' := ?_) #[false, true, false, false, false, false] rfl rfl (by kernel_rfl) (fun _ _ _ h => h) (Or.inl ⟨by rfl, ?_⟩) ?_ ?_; rotate_left
  ·intro w'; go_simp; with_reducible rfl
  rotate_left
  ·simp only [Act.put, List.setIfInBounds_toArray, List.set_cons_zero, List.set_cons_succ, i64_w, i32_w]; rfl
  refine take_ (i := 2) (N := some 36) (v := ?_) (a' := ?_) #[false, true, true, false, false, false] rfl rfl (by kernel_rfl) (fun _ _ _ h => h) (Or.inl ⟨by rfl, ?_⟩) hHeld ?_ ?_; rotate_left
  ·intro w' s0; have nf0 : w'.cell? ⟨g8, 0, none⟩ = some (.int .i64 x16) := (blk_cell s0 0).trans rfl; have nf1 : w'.cell? ⟨g8, 1, none⟩ = some (.int .i64 x17) := (blk_cell s0 1).trans rfl; have nf2 : w'.cell? ⟨g8, 2, none⟩ = some (.int .i64 x18) := (blk_cell s0 2).trans rfl; first | (go_simp; done) | (go_simp; with_reducible rfl)
  rotate_left
  ·simp only [Act.put, List.setIfInBounds_toArray, List.set_cons_zero, List.set_cons_succ, i64_w, i32_w]; rfl
  refine one_ (i := 0) (N := some 34) #[true, true, true, false, false, false] rfl rfl (by kernel_rfl) (by decide) (fun K hK => ?_)
  refine goes_ Try.func16 (by kernel_rfl) rfl #[] (by rfl) rfl rfl (by first | rfl | (simp only [List.map_toArray, List.map_cons, List.map_nil]; done) | (simp only [List.map_toArray, List.map_cons, List.map_nil]; rfl)) ?_
  refine (triglyphref15_J.calls x1 x2 x3 x4 x5 x6 x7 x8 x9 x10 x11 x12 x13 x14 _ Q1.out).mono ?_; rintro e w4 ⟨v0, v1, v2, rfl, h0, h1, h2, hb⟩; refine ⟨_, rfl, ?_⟩
  obtain ⟨B0, d0, hv0⟩ := Kd.R_slice h0; obtain ⟨B1, d1, hv1⟩ := Kd.R_slice h1; obtain ⟨B2, d2, hv2⟩ := Kd.R_slice h2; subst hv0 hv1 hv2
  have HLR := Aside0.mk (show w.heap.size < Wr.heap.size ∧ w.heap.size + 1 < Wr.heap.size from ⟨blk_lt (HS.out.at_ 2 rfl), blk_lt (HS.out.at_ 1 rfl)⟩)
  have HA := Aside0.mk (And.intro h0 (And.intro h1 h2)); have HQ := Aside0.mk (Kd.R_below HQ.out hb); have HWL := Aside0.mk HS.out.bel.size; have HS := Aside0.mk (HS.out.step hb); clear h0 h1 h2 hb
  refine hK.out _ _ (HS.out.at_ 0 rfl) (fun hHeld => ?_); clear hK K
  refine norm_ (a' := ?_) ?_ ?_; rotate_left
  ·show Act.put _ (some 34) _ = _
   simp only [Act.put, List.setIfInBounds_toArray, List.set_cons_zero, List.set_cons_succ, i64_w, i32_w]; rfl
  refine one_ (i := 3) (N := none) #[true, true, true, true, false, false] rfl rfl (by kernel_rfl) (by decide) (fun K hK => ?_)
  have z0 : w4.cell? ⟨w.heap.size, 0, none⟩ = some (.slice none 0 0) := (blk_cell (HS.out.at_ 2 rfl) 0).trans rfl; have fz0 := blk_frozen (HS.out.at_ 2 rfl) 0; have z1 : w4.cell? ⟨w.heap.size, 1, none⟩ = some (.slice none 0 0) := (blk_cell (HS.out.at_ 2 rfl) 1).trans rfl; have fz1 := blk_frozen (HS.out.at_ 2 rfl) 1; have z2 : w4.cell? ⟨w.heap.size, 2, none⟩ = some (.slice none 0 0) := (blk_cell (HS.out.at_ 2 rfl) 2).trans rfl; have fz2 := blk_frozen (HS.out.at_ 2 rfl) 2; have z3 : w4.cell? ⟨w.heap.size, 3, none⟩ = some (.string ⟨#[]⟩) := (blk_cell (HS.out.at_ 2 rfl) 3).trans rfl; have fz3 := blk_frozen (HS.out.at_ 2 rfl) 3; have z4 : w4.cell? ⟨w.heap.size, 4, none⟩ = some (.string ⟨#[]⟩) := (blk_cell (HS.out.at_ 2 rfl) 4).trans rfl; have fz4 := blk_frozen (HS.out.at_ 2 rfl) 4; have z5 : w4.cell? ⟨w.heap.size, 5, none⟩ = some (.string ⟨#[]⟩) := (blk_cell (HS.out.at_ 2 rfl) 5).trans rfl; have fz5 := blk_frozen (HS.out.at_ 2 rfl) 5; have z6 : w4.cell? ⟨w.heap.size, 6, none⟩ = some (.string ⟨#[]⟩) := (blk_cell (HS.out.at_ 2 rfl) 6).trans rfl; have fz6 := blk_frozen (HS.out.at_ 2 rfl) 6; have z7 : w4.cell? ⟨w.heap.size, 7, none⟩ = some (.string ⟨#[]⟩) := (blk_cell (HS.out.at_ 2 rfl) 7).trans rfl; have fz7 := blk_frozen (HS.out.at_ 2 rfl) 7; have z8 : w4.cell? ⟨w.heap.size, 8, none⟩ = some (.string ⟨#[]⟩) := (blk_cell (HS.out.at_ 2 rfl) 8).trans rfl; have fz8 := blk_frozen (HS.out.at_ 2 rfl) 8; have z9 : w4.cell? ⟨w.heap.size, 9, none⟩ = some (.string ⟨#[]⟩) := (blk_cell (HS.out.at_ 2 rfl) 9).trans rfl; have fz9 := blk_frozen (HS.out.at_ 2 rfl) 9; have z10 : w4.cell? ⟨w.heap.size, 10, none⟩ = some (.string ⟨#[]⟩) := (blk_cell (HS.out.at_ 2 rfl) 10).trans rfl; have fz10 := blk_frozen (HS.out.at_ 2 rfl) 10; have z11 : w4.cell? ⟨w.heap.size, 11, none⟩ = some (.bool false) := (blk_cell (HS.out.at_ 2 rfl) 11).trans rfl; have fz11 := blk_frozen (HS.out.at_ 2 rfl) 11; have z12 : w4.cell? ⟨w.heap.size, 12, none⟩ = some (.bool false) := (blk_cell (HS.out.at_ 2 rfl) 12).trans rfl; have fz12 := blk_frozen (HS.out.at_ 2 rfl) 12; have z13 : w4.cell? ⟨w.heap.size, 13, none⟩ = some (.bool false) := (blk_cell (HS.out.at_ 2 rfl) 13).trans rfl; have fz13 := blk_frozen (HS.out.at_ 2 rfl) 13
  refine skip_ (w1 := ?_) (by rfl) rfl ?_ ?_; rotate_left
  ·go_simp; rfl
  clear z0 fz0 z1 fz1 z2 fz2 z3 fz3 z4 fz4 z5 fz5 z6 fz6 z7 fz7 z8 fz8 z9 fz9 z10 fz10 z11 fz11 z12 fz12 z13 fz13
  have HK : KeepBut w4 ((((((((((((((w4.setCell ⟨w.heap.size, 0, none⟩ (.slice B0 x1.length d0)).setCell ⟨w.heap.size, 1, none⟩ (.slice B1 x2.length d1)).setCell ⟨w.heap.size, 2, none⟩ (.slice B2 x3.length d2)).setCell ⟨w.heap.size, 3, none⟩ (.string x4)).setCell ⟨w.heap.size, 4, none⟩ (.string x5)).setCell ⟨w.heap.size, 5, none⟩ (.string x6)).setCell ⟨w.heap.size, 6, none⟩ (.string x7)).setCell ⟨w.heap.size, 7, none⟩ (.string x8)).setCell ⟨w.heap.size, 8, none⟩ (.string x9)).setCell ⟨w.heap.size, 9, none⟩ (.string x10)).setCell ⟨w.heap.size, 10, none⟩ (.string x11)).setCell ⟨w.heap.size, 11, none⟩ (.bool x12)).setCell ⟨w.heap.size, 12, none⟩ (.bool x13)).setCell ⟨w.heap.size, 13, none⟩ (.bool x14)) w.heap.size none := KeepBut.set_ (KeepBut.set_ (KeepBut.set_ (KeepBut.set_ (KeepBut.set_ (KeepBut.set_ (KeepBut.set_ (KeepBut.set_ (KeepBut.set_ (KeepBut.set_ (KeepBut.set_ (KeepBut.set_ (KeepBut.set_ (KeepBut.set_ (KeepBut.refl w4 w.heap.size none) _ _) _ _) _ _) _ _) _ _) _ _) _ _) _ _) _ _) _ _) _ _) _ _) _ _) _ _
  have HB : Below w.heap.size w ((((((((((((((w4.setCell ⟨w.heap.size, 0, none⟩ (.slice B0 x1.length d0)).setCell ⟨w.heap.size, 1, none⟩ (.slice B1 x2.length d1)).setCell ⟨w.heap.size, 2, none⟩ (.slice B2 x3.length d2)).setCell ⟨w.heap.size, 3, none⟩ (.string x4)).setCell ⟨w.heap.size, 4, none⟩ (.string x5)).setCell ⟨w.heap.size, 5, none⟩ (.string x6)).setCell ⟨w.heap.size, 6, none⟩ (.string x7)).setCell ⟨w.heap.size, 7, none⟩ (.string x8)).setCell ⟨w.heap.size, 8, none⟩ (.string x9)).setCell ⟨w.heap.size, 9, none⟩ (.string x10)).setCell ⟨w.heap.size, 10, none⟩ (.string x11)).setCell ⟨w.heap.size, 11, none⟩ (.bool x12)).setCell ⟨w.heap.size, 12, none⟩ (.bool x13)).setCell ⟨w.heap.size, 13, none⟩ (.bool x14)) := below_set (below_set (below_set (below_set (below_set (below_set (below_set (below_set (below_set (below_set (below_set (below_set (below_set (below_set (HS.out.bel) (Nat.le_refl _)) (Nat.le_refl _)) (Nat.le_refl _)) (Nat.le_refl _)) (Nat.le_refl _)) (Nat.le_refl _)) (Nat.le_refl _)) (Nat.le_refl _)) (Nat.le_refl _)) (Nat.le_refl _)) (Nat.le_refl _)) (Nat.le_refl _)) (Nat.le_refl _)) (Nat.le_refl _)
  have HG4 := (blk_put (cs := #[.slice B0 x1.length d0, .slice B1 x2.length d1, .slice B2 x3.length d2, .string x4, .string x5, .string x6, .string x7, .string x8, .string x9, .string x10, .string x11, .bool x12, .bool x13, .bool false]) (blk_put (cs := #[.slice B0 x1.length d0, .slice B1 x2.length d1, .slice B2 x3.length d2, .string x4, .string x5, .string x6, .string x7, .string x8, .string x9, .string x10, .string x11, .bool x12, .bool false, .bool false]) (blk_put (cs := #[.slice B0 x1.length d0, .slice B1 x2.length d1, .slice B2 x3.length d2, .string x4, .string x5, .string x6, .string x7, .string x8, .string x9, .string x10, .string x11, .bool false, .bool false, .bool false]) (blk_put (cs := #[.slice B0 x1.length d0, .slice B1 x2.length d1, .slice B2 x3.length d2, .string x4, .string x5, .string x6, .string x7, .string x8, .string x9, .string x10, .string ⟨#[]⟩, .bool false, .bool false, .bool false]) (blk_put (cs := #[.slice B0 x1.length d0, .slice B1 x2.length d1, .slice B2 x3.length d2, .string x4, .string x5, .string x6, .string x7, .string x8, .string x9, .string ⟨#[]⟩, .string ⟨#[]⟩, .bool false, .bool false, .bool false]) (blk_put (cs := #[.slice B0 x1.length d0, .slice B1 x2.length d1, .slice B2 x3.length d2, .string x4, .string x5, .string x6, .string x7, .string x8, .string ⟨#[]⟩, .string ⟨#[]⟩, .string ⟨#[]⟩, .bool false, .bool false, .bool false]) (blk_put (cs := #[.slice B0 x1.length d0, .slice B1 x2.length d1, .slice B2 x3.length d2, .string x4, .string x5, .string x6, .string x7, .string ⟨#[]⟩, .string ⟨#[]⟩, .string ⟨#[]⟩, .string ⟨#[]⟩, .bool false, .bool false, .bool false]) (blk_put (cs := #[.slice B0 x1.length d0, .slice B1 x2.length d1, .slice B2 x3.length d2, .string x4, .string x5, .string x6, .string ⟨#[]⟩, .string ⟨#[]⟩, .string ⟨#[]⟩, .string ⟨#[]⟩, .string ⟨#[]⟩, .bool false, .bool false, .bool false]) (blk_put (cs := #[.slice B0 x1.length d0, .slice B1 x2.length d1, .slice B2 x3.length d2, .string x4, .string x5, .string ⟨#[]⟩, .string ⟨#[]⟩, .string ⟨#[]⟩, .string ⟨#[]⟩, .string ⟨#[]⟩, .string ⟨#[]⟩, .bool false, .bool false, .bool false]) (blk_put (cs := #[.slice B0 x1.length d0, .slice B1 x2.length d1, .slice B2 x3.length d2, .string x4, .string ⟨#[]⟩, .string ⟨#[]⟩, .string ⟨#[]⟩, .string ⟨#[]⟩, .string ⟨#[]⟩, .string ⟨#[]⟩, .string ⟨#[]⟩, .bool false, .bool false, .bool false]) (blk_put (cs := #[.slice B0 x1.length d0, .slice B1 x2.length d1, .slice B2 x3.length d2, .string ⟨#[]⟩, .string ⟨#[]⟩, .string ⟨#[]⟩, .string ⟨#[]⟩, .string ⟨#[]⟩, .string ⟨#[]⟩, .string ⟨#[]⟩, .string ⟨#[]⟩, .bool false, .bool false, .bool false]) (blk_put (cs := #[.slice B0 x1.length d0, .slice B1 x2.length d1, .slice none 0 0, .string ⟨#[]⟩, .string ⟨#[]⟩, .string ⟨#[]⟩, .string ⟨#[]⟩, .string ⟨#[]⟩, .string ⟨#[]⟩, .string ⟨#[]⟩, .string ⟨#[]⟩, .bool false, .bool false, .bool false]) (blk_put (cs := #[.slice B0 x1.length d0, .slice none 0 0, .slice none 0 0, .string ⟨#[]⟩, .string ⟨#[]⟩, .string ⟨#[]⟩, .string ⟨#[]⟩, .string ⟨#[]⟩, .string ⟨#[]⟩, .string ⟨#[]⟩, .string ⟨#[]⟩, .bool false, .bool false, .bool false]) (blk_put (cs := #[.slice none 0 0, .slice none 0 0, .slice none 0 0, .string ⟨#[]⟩, .string ⟨#[]⟩, .string ⟨#[]⟩, .string ⟨#[]⟩, .string ⟨#[]⟩, .string ⟨#[]⟩, .string ⟨#[]⟩, .string ⟨#[]⟩, .bool false, .bool false, .bool false]) (HS.out.at_ 2 rfl) 0 (.slice B0 x1.length d0) rfl) 1 (.slice B1 x2.length d1) rfl) 2 (.slice B2 x3.length d2) rfl) 3 (.string x4) rfl) 4 (.string x5) rfl) 5 (.string x6) rfl) 6 (.string x7) rfl) 7 (.string x8) rfl) 8 (.string x9) rfl) 9 (.string x10) rfl) 10 (.string x11) rfl) 11 (.bool x12) rfl) 12 (.bool x13) rfl) 13 (.bool x14) rfl)
  have HG6 := HK.2 (w.heap.size + 1) (blk_lt (HS.out.at_ 1 rfl)) (by omega) (by simp); have HG6 := HG6.trans (HS.out.at_ 1 rfl); have HG8 := HK.2 g8 (blk_lt (HS.out.at_ 0 rfl)) HN8.out.1 (by simp); have HG8 := HG8.trans (HS.out.at_ 0 rfl)
  have HA := Aside0.mk (And.intro (lx_R HA.out.1 HK HLR.out.1) (And.intro (lx_R HA.out.2.1 HK HLR.out.1) (lx_R HA.out.2.2 HK HLR.out.1))); have HQ := Aside0.mk (lx_R HQ.out HK (by have := HLT.out; omega))
  have HG := Aside0.mk (And.intro HB (And.intro HG4 (And.intro HG6 HG8))); clear HK HB HG4 HG6 HG8 HS hHeld
  generalize ((((((((((((((w4.setCell ⟨w.heap.size, 0, none⟩ (.slice B0 x1.length d0)).setCell ⟨w.heap.size, 1, none⟩ (.slice B1 x2.length d1)).setCell ⟨w.heap.size, 2, none⟩ (.slice B2 x3.length d2)).setCell ⟨w.heap.size, 3, none⟩ (.string x4)).setCell ⟨w.heap.size, 4, none⟩ (.string x5)).setCell ⟨w.heap.size, 5, none⟩ (.string x6)).setCell ⟨w.heap.size, 6, none⟩ (.string x7)).setCell ⟨w.heap.size, 7, none⟩ (.string x8)).setCell ⟨w.heap.size, 8, none⟩ (.string x9)).setCell ⟨w.heap.size, 9, none⟩ (.string x10)).setCell ⟨w.heap.size, 10, none⟩ (.string x11)).setCell ⟨w.heap.size, 11, none⟩ (.bool x12)).setCell ⟨w.heap.size, 12, none⟩ (.bool x13)).setCell ⟨w.heap.size, 13, none⟩ (.bool x14)) = X at HA HQ HG ⊢
  refine hK.out _ _ HG.out.2.2.2 (fun hHeld => ?_); clear hK K
  refine pure_ (i := 4) (N := some 5) (v := ?_) (a' := ?_) #[true, true, true, true, true, false] rfl rfl (by kernel_rfl) (fun _ _ _ h => h) (Or.inl ⟨by rfl, ?_⟩) ?_ ?_; rotate_left
  ·intro w'; go_simp; with_reducible rfl
  rotate_left
  ·simp only [Act.put, List.setIfInBounds_toArray, List.set_cons_zero, List.set_cons_succ, i64_w, i32_w]; rfl
  refine one_ (i := 5) (N := none) #[true, true, true, true, true, true] rfl rfl (by kernel_rfl) (by decide) (fun K hK => ?_)
  have z0 : X.cell? ⟨w.heap.size + 1, 0, none⟩ = some (.int .i64 0) := (blk_cell HG.out.2.2.1 0).trans rfl; have fz0 := blk_frozen HG.out.2.2.1 0; have z1 : X.cell? ⟨w.heap.size + 1, 1, none⟩ = some (.int .i64 0) := (blk_cell HG.out.2.2.1 1).trans rfl; have fz1 := blk_frozen HG.out.2.2.1 1; have z2 : X.cell? ⟨w.heap.size + 1, 2, none⟩ = some (.int .i64 0) := (blk_cell HG.out.2.2.1 2).trans rfl; have fz2 := blk_frozen HG.out.2.2.1 2
  refine skip_ (w1 := ?_) (by rfl) rfl ?_ ?_; rotate_left
  ·go_simp; rfl
  clear z0 z1 z2 fz0 fz1 fz2
  have HK : KeepBut X (((X.setCell ⟨w.heap.size + 1, 0, none⟩ (.int .i64 x16)).setCell ⟨w.heap.size + 1, 1, none⟩ (.int .i64 x17)).setCell ⟨w.heap.size + 1, 2, none⟩ (.int .i64 x18)) (w.heap.size + 1) none := KeepBut.set_ (KeepBut.set_ (KeepBut.set_ (KeepBut.refl X (w.heap.size + 1) none) _ _) _ _) _ _
  have HB : Below w.heap.size w (((X.setCell ⟨w.heap.size + 1, 0, none⟩ (.int .i64 x16)).setCell ⟨w.heap.size + 1, 1, none⟩ (.int .i64 x17)).setCell ⟨w.heap.size + 1, 2, none⟩ (.int .i64 x18)) := below_set (below_set (below_set (HG.out.1) (Nat.le_succ _)) (Nat.le_succ _)) (Nat.le_succ _)
  have HG6 := (blk_put (cs := #[.int .i64 x16, .int .i64 x17, .int .i64 0]) (blk_put (cs := #[.int .i64 x16, .int .i64 0, .int .i64 0]) (blk_put (cs := #[.int .i64 0, .int .i64 0, .int .i64 0]) HG.out.2.2.1 0 (.int .i64 x16) rfl) 1 (.int .i64 x17) rfl) 2 (.int .i64 x18) rfl)
  have HG4 := (HK.2 w.heap.size (blk_lt HG.out.2.1) (by omega) (by simp)).trans HG.out.2.1; have HG8 := (HK.2 g8 (blk_lt HG.out.2.2.2) HN8.out.2 (by simp)).trans HG.out.2.2.2
  have HA := Aside0.mk (And.intro (lx_R HA.out.1 HK HLR.out.2) (And.intro (lx_R HA.out.2.1 HK HLR.out.2) (lx_R HA.out.2.2 HK HLR.out.2))); have HQ := Aside0.mk (lx_R HQ.out HK (by have := HLT.out; omega))
  have HG := Aside0.mk (And.intro HB (And.intro HG4 HG6)); clear HK HB HG4 HG6 hHeld
  generalize (((X.setCell ⟨w.heap.size + 1, 0, none⟩ (.int .i64 x16)).setCell ⟨w.heap.size + 1, 1, none⟩ (.int .i64 x17)).setCell ⟨w.heap.size + 1, 2, none⟩ (.int .i64 x18)) = Y at HA HQ HG HG8 ⊢
  refine hK.out _ _ HG8 (fun hHeld => ?_); clear hK K
  clear HG8 hHeld
  refine done_ (by kernel_rfl) ?_
  go_wp2_with (fail)
  refine bodyPost_ret (results_ctc rfl _ _ (w.heap.size) (w.heap.size + 1) 32 36 #[.slice B0 x1.length d0, .slice B1 x2.length d1, .slice B2 x3.length d2, .string x4, .string x5, .string x6, .string x7, .string x8, .string x9, .string x10, .string x11, .bool x12, .bool x13, .bool x14] #[.int .i64 x16, .int .i64 x17, .int .i64 x18] (0, 0) (0, 0) _ _ rfl HG.out.2.1 Try.underlying32 rfl (by kernel_rfl) rfl HG.out.2.2 Try.underlying36 rfl (by kernel_rfl)) rfl ?_
  exact ⟨_, _, _, _, rfl, Kd.R_lower HA.out.1 HWL.out, Kd.R_lower HA.out.2.1 HWL.out, Kd.R_lower HA.out.2.2 HWL.out, Kd.R_lower HQ.out (Nat.le_of_lt (Nat.lt_of_succ_lt HLT.out)), HG.out.1⟩
 ·rw [if_neg c1] at h
  have c1b : (Int.tmod (wrap64 ((Int.tmod a0 3) + 3)) 3 == 1) = false := beq_eq_false_iff_ne.2 c1; clear c1
  obtain ⟨⟨x15, x16, x17, x18⟩, q0, h⟩ := Option.bind_eq_some_iff.1 h; obtain ⟨⟨x1, x2, x3, x4, x5, x6, x7, x8, x9, x10, x11, x12, x13, x14⟩, q1, h⟩ := Option.bind_eq_some_iff.1 h
  simp only [Option.some.injEq, Prod.mk.injEq] at h; obtain ⟨rfl, rfl, rfl, rfl, rfl, rfl, rfl, rfl, rfl, rfl, rfl, rfl, rfl, rfl, rfl, rfl, rfl, rfl⟩ := h
  have Q0 := Aside0.mk q0; have Q1 := Aside0.mk q1; clear q0 q1
  go_enter Try.func9, Try.ntmps9
  go_upto_region 1 with (fail)
  generalize (w.alloc (.cells #[.slice none 0 0, .slice none 0 0, .slice none 0 0, .string ⟨#[]⟩, .string ⟨#[]⟩, .string ⟨#[]⟩, .string ⟨#[]⟩, .string ⟨#[]⟩, .string ⟨#[]⟩, .string ⟨#[]⟩, .string ⟨#[]⟩, .bool false, .bool false, .bool false] 32)).alloc (.cells #[.int .i64 0, .int .i64 0, .int .i64 0] 36) = W at HS ⊢
  have HLT := Aside0.mk (show w.heap.size + 1 < W.heap.size from blk_lt (HS.out.at_ 0 rfl))
  go_upto_region 9 with (first | (go_at_call 23; (with_reducible refine (triglyphref14_Lex.calls k a1 x15 x16 x17 x18 _ Q0.out).mono ?_); rintro e w1 ⟨v14, rfl, h14, hb⟩; have HW1 := Aside0.mk hb.size; have HS := Aside0.mk (HS.out.step hb); have HQ := Aside0.mk (Kd.R_alloc h14 (.cells #[.int .i64 x16, .int .i64 x17, .int .i64 x18] 36)); obtain ⟨A14, c14, hv⟩ := Kd.R_slice h14; subst hv; clear h14 hb))
  have HS := Aside0.mk (HS.out.cons #[.int .i64 x16, .int .i64 x17, .int .i64 x18] 36)
  have HG8L := Aside0.mk (Nat.lt_of_lt_of_le HLT.out HW1.out); generalize w1.alloc (.cells #[.int .i64 x16, .int .i64 x17, .int .i64 x18] 36) = W1 at HS HQ ⊢; generalize w1.heap.size = g8 at HS HG8L ⊢
  have HN8 := Aside0.mk (show g8 ≠ w.heap.size ∧ g8 ≠ w.heap.size + 1 from ⟨fun e => absurd HG8L.out (by omega), fun e => absurd HG8L.out (by omega)⟩)
  refine start_ (n := 6) (S := fun W' => W'.heap[g8]? = some (.cells #[.int .i64 x16, .int .i64 x17, .int .i64 x18] 36 (0, 0))) (ds := []) #[false, false, false, false, false, false] (by kernel_rfl) rfl rfl ((HS.out.step (below_drew (Below.refl _ _))).at_ 0 rfl) (fun hHeld => ?_)
  have HQ := Aside0.mk (Kd.R_below HQ.out (below_drew (Below.refl _ _))); have HS := Aside0.mk (HS.out.step (below_drew (Below.refl _ _))); generalize W1.drew = Wr at HS HQ hHeld ⊢
  refine pure_ (i := 1) (N := some 43) (v := ?_) (a' := ?_) #[false, true, false, false, false, false] rfl rfl (by kernel_rfl) (fun _ _ _ h => h) (Or.inl ⟨by rfl, ?_⟩) ?_ ?_; rotate_left
  ·intro w'; go_simp; with_reducible rfl
  rotate_left
  ·simp only [Act.put, List.setIfInBounds_toArray, List.set_cons_zero, List.set_cons_succ, i64_w, i32_w]; rfl
  refine take_ (i := 2) (N := some 44) (v := ?_) (a' := ?_) #[false, true, true, false, false, false] rfl rfl (by kernel_rfl) (fun _ _ _ h => h) (Or.inl ⟨by rfl, ?_⟩) hHeld ?_ ?_; rotate_left
  ·intro w' s0; have nf0 : w'.cell? ⟨g8, 0, none⟩ = some (.int .i64 x16) := (blk_cell s0 0).trans rfl; have nf1 : w'.cell? ⟨g8, 1, none⟩ = some (.int .i64 x17) := (blk_cell s0 1).trans rfl; have nf2 : w'.cell? ⟨g8, 2, none⟩ = some (.int .i64 x18) := (blk_cell s0 2).trans rfl; first | (go_simp; done) | (go_simp; with_reducible rfl)
  rotate_left
  ·simp only [Act.put, List.setIfInBounds_toArray, List.set_cons_zero, List.set_cons_succ, i64_w, i32_w]; rfl
  refine one_ (i := 0) (N := some 42) #[true, true, true, false, false, false] rfl rfl (by kernel_rfl) (by decide) (fun K hK => ?_)
  refine goes_ Try.func19 (by kernel_rfl) rfl #[] (by rfl) rfl rfl (by first | rfl | (simp only [List.map_toArray, List.map_cons, List.map_nil]; done) | (simp only [List.map_toArray, List.map_cons, List.map_nil]; rfl)) ?_
  refine (triglyphref15_K.calls x1 x2 x3 x4 x5 x6 x7 x8 x9 x10 x11 x12 x13 x14 _ Q1.out).mono ?_; rintro e w4 ⟨v0, v1, v2, rfl, h0, h1, h2, hb⟩; refine ⟨_, rfl, ?_⟩
  obtain ⟨B0, d0, hv0⟩ := Kd.R_slice h0; obtain ⟨B1, d1, hv1⟩ := Kd.R_slice h1; obtain ⟨B2, d2, hv2⟩ := Kd.R_slice h2; subst hv0 hv1 hv2
  have HLR := Aside0.mk (show w.heap.size < Wr.heap.size ∧ w.heap.size + 1 < Wr.heap.size from ⟨blk_lt (HS.out.at_ 2 rfl), blk_lt (HS.out.at_ 1 rfl)⟩)
  have HA := Aside0.mk (And.intro h0 (And.intro h1 h2)); have HQ := Aside0.mk (Kd.R_below HQ.out hb); have HWL := Aside0.mk HS.out.bel.size; have HS := Aside0.mk (HS.out.step hb); clear h0 h1 h2 hb
  refine hK.out _ _ (HS.out.at_ 0 rfl) (fun hHeld => ?_); clear hK K
  refine norm_ (a' := ?_) ?_ ?_; rotate_left
  ·show Act.put _ (some 42) _ = _
   simp only [Act.put, List.setIfInBounds_toArray, List.set_cons_zero, List.set_cons_succ, i64_w, i32_w]; rfl
  refine one_ (i := 3) (N := none) #[true, true, true, true, false, false] rfl rfl (by kernel_rfl) (by decide) (fun K hK => ?_)
  have z0 : w4.cell? ⟨w.heap.size, 0, none⟩ = some (.slice none 0 0) := (blk_cell (HS.out.at_ 2 rfl) 0).trans rfl; have fz0 := blk_frozen (HS.out.at_ 2 rfl) 0; have z1 : w4.cell? ⟨w.heap.size, 1, none⟩ = some (.slice none 0 0) := (blk_cell (HS.out.at_ 2 rfl) 1).trans rfl; have fz1 := blk_frozen (HS.out.at_ 2 rfl) 1; have z2 : w4.cell? ⟨w.heap.size, 2, none⟩ = some (.slice none 0 0) := (blk_cell (HS.out.at_ 2 rfl) 2).trans rfl; have fz2 := blk_frozen (HS.out.at_ 2 rfl) 2; have z3 : w4.cell? ⟨w.heap.size, 3, none⟩ = some (.string ⟨#[]⟩) := (blk_cell (HS.out.at_ 2 rfl) 3).trans rfl; have fz3 := blk_frozen (HS.out.at_ 2 rfl) 3; have z4 : w4.cell? ⟨w.heap.size, 4, none⟩ = some (.string ⟨#[]⟩) := (blk_cell (HS.out.at_ 2 rfl) 4).trans rfl; have fz4 := blk_frozen (HS.out.at_ 2 rfl) 4; have z5 : w4.cell? ⟨w.heap.size, 5, none⟩ = some (.string ⟨#[]⟩) := (blk_cell (HS.out.at_ 2 rfl) 5).trans rfl; have fz5 := blk_frozen (HS.out.at_ 2 rfl) 5; have z6 : w4.cell? ⟨w.heap.size, 6, none⟩ = some (.string ⟨#[]⟩) := (blk_cell (HS.out.at_ 2 rfl) 6).trans rfl; have fz6 := blk_frozen (HS.out.at_ 2 rfl) 6; have z7 : w4.cell? ⟨w.heap.size, 7, none⟩ = some (.string ⟨#[]⟩) := (blk_cell (HS.out.at_ 2 rfl) 7).trans rfl; have fz7 := blk_frozen (HS.out.at_ 2 rfl) 7; have z8 : w4.cell? ⟨w.heap.size, 8, none⟩ = some (.string ⟨#[]⟩) := (blk_cell (HS.out.at_ 2 rfl) 8).trans rfl; have fz8 := blk_frozen (HS.out.at_ 2 rfl) 8; have z9 : w4.cell? ⟨w.heap.size, 9, none⟩ = some (.string ⟨#[]⟩) := (blk_cell (HS.out.at_ 2 rfl) 9).trans rfl; have fz9 := blk_frozen (HS.out.at_ 2 rfl) 9; have z10 : w4.cell? ⟨w.heap.size, 10, none⟩ = some (.string ⟨#[]⟩) := (blk_cell (HS.out.at_ 2 rfl) 10).trans rfl; have fz10 := blk_frozen (HS.out.at_ 2 rfl) 10; have z11 : w4.cell? ⟨w.heap.size, 11, none⟩ = some (.bool false) := (blk_cell (HS.out.at_ 2 rfl) 11).trans rfl; have fz11 := blk_frozen (HS.out.at_ 2 rfl) 11; have z12 : w4.cell? ⟨w.heap.size, 12, none⟩ = some (.bool false) := (blk_cell (HS.out.at_ 2 rfl) 12).trans rfl; have fz12 := blk_frozen (HS.out.at_ 2 rfl) 12; have z13 : w4.cell? ⟨w.heap.size, 13, none⟩ = some (.bool false) := (blk_cell (HS.out.at_ 2 rfl) 13).trans rfl; have fz13 := blk_frozen (HS.out.at_ 2 rfl) 13
  refine skip_ (w1 := ?_) (by rfl) rfl ?_ ?_; rotate_left
  ·go_simp; rfl
  clear z0 fz0 z1 fz1 z2 fz2 z3 fz3 z4 fz4 z5 fz5 z6 fz6 z7 fz7 z8 fz8 z9 fz9 z10 fz10 z11 fz11 z12 fz12 z13 fz13
  have HK : KeepBut w4 ((((((((((((((w4.setCell ⟨w.heap.size, 0, none⟩ (.slice B0 x1.length d0)).setCell ⟨w.heap.size, 1, none⟩ (.slice B1 x2.length d1)).setCell ⟨w.heap.size, 2, none⟩ (.slice B2 x3.length d2)).setCell ⟨w.heap.size, 3, none⟩ (.string x4)).setCell ⟨w.heap.size, 4, none⟩ (.string x5)).setCell ⟨w.heap.size, 5, none⟩ (.string x6)).setCell ⟨w.heap.size, 6, none⟩ (.string x7)).setCell ⟨w.heap.size, 7, none⟩ (.string x8)).setCell ⟨w.heap.size, 8, none⟩ (.string x9)).setCell ⟨w.heap.size, 9, none⟩ (.string x10)).setCell ⟨w.heap.size, 10, none⟩ (.string x11)).setCell ⟨w.heap.size, 11, none⟩ (.bool x12)).setCell ⟨w.heap.size, 12, none⟩ (.bool x13)).setCell ⟨w.heap.size, 13, none⟩ (.bool x14)) w.heap.size none := KeepBut.set_ (KeepBut.set_ (KeepBut.set_ (KeepBut.set_ (KeepBut.set_ (KeepBut.set_ (KeepBut.set_ (KeepBut.set_ (KeepBut.set_ (KeepBut.set_ (KeepBut.set_ (KeepBut.set_ (KeepBut.set_ (KeepBut.set_ (KeepBut.refl w4 w.heap.size none) _ _) _ _) _ _) _ _) _ _) _ _) _ _) _ _) _ _) _ _) _ _) _ _) _ _) _ _
  have HB : Below w.heap.size w ((((((((((((((w4.setCell ⟨w.heap.size, 0, none⟩ (.slice B0 x1.length d0)).setCell ⟨w.heap.size, 1, none⟩ (.slice B1 x2.length d1)).setCell ⟨w.heap.size, 2, none⟩ (.slice B2 x3.length d2)).setCell ⟨w.heap.size, 3, none⟩ (.string x4)).setCell ⟨w.heap.size, 4, none⟩ (.string x5)).setCell ⟨w.heap.size, 5, none⟩ (.string x6)).setCell ⟨w.heap.size, 6, none⟩ (.string x7)).setCell ⟨w.heap.size, 7, none⟩ (.string x8)).setCell ⟨w.heap.size, 8, none⟩ (.string x9)).setCell ⟨w.heap.size, 9, none⟩ (.string x10)).setCell ⟨w.heap.size, 10, none⟩ (.string x11)).setCell ⟨w.heap.size, 11, none⟩ (.bool x12)).setCell ⟨w.heap.size, 12, none⟩ (.bool x13)).setCell ⟨w.heap.size, 13, none⟩ (.bool x14)) := below_set (below_set (below_set (below_set (below_set (below_set (below_set (below_set (below_set (below_set (below_set (below_set (below_set (below_set (HS.out.bel) (Nat.le_refl _)) (Nat.le_refl _)) (Nat.le_refl _)) (Nat.le_refl _)) (Nat.le_refl _)) (Nat.le_refl _)) (Nat.le_refl _)) (Nat.le_refl _)) (Nat.le_refl _)) (Nat.le_refl _)) (Nat.le_refl _)) (Nat.le_refl _)) (Nat.le_refl _)) (Nat.le_refl _)
  have HG4 := (blk_put (cs := #[.slice B0 x1.length d0, .slice B1 x2.length d1, .slice B2 x3.length d2, .string x4, .string x5, .string x6, .string x7, .string x8, .string x9, .string x10, .string x11, .bool x12, .bool x13, .bool false]) (blk_put (cs := #[.slice B0 x1.length d0, .slice B1 x2.length d1, .slice B2 x3.length d2, .string x4, .string x5, .string x6, .string x7, .string x8, .string x9, .string x10, .string x11, .bool x12, .bool false, .bool false]) (blk_put (cs := #[.slice B0 x1.length d0, .slice B1 x2.length d1, .slice B2 x3.length d2, .string x4, .string x5, .string x6, .string x7, .string x8, .string x9, .string x10, .string x11, .bool false, .bool false, .bool false]) (blk_put (cs := #[.slice B0 x1.length d0, .slice B1 x2.length d1, .slice B2 x3.length d2, .string x4, .string x5, .string x6, .string x7, .string x8, .string x9, .string x10, .string ⟨#[]⟩, .bool false, .bool false, .bool false]) (blk_put (cs := #[.slice B0 x1.length d0, .slice B1 x2.length d1, .slice B2 x3.length d2, .string x4, .string x5, .string x6, .string x7, .string x8, .string x9, .string ⟨#[]⟩, .string ⟨#[]⟩, .bool false, .bool false, .bool false]) (blk_put (cs := #[.slice B0 x1.length d0, .slice B1 x2.length d1, .slice B2 x3.length d2, .string x4, .string x5, .string x6, .string x7, .string x8, .string ⟨#[]⟩, .string ⟨#[]⟩, .string ⟨#[]⟩, .bool false, .bool false, .bool false]) (blk_put (cs := #[.slice B0 x1.length d0, .slice B1 x2.length d1, .slice B2 x3.length d2, .string x4, .string x5, .string x6, .string x7, .string ⟨#[]⟩, .string ⟨#[]⟩, .string ⟨#[]⟩, .string ⟨#[]⟩, .bool false, .bool false, .bool false]) (blk_put (cs := #[.slice B0 x1.length d0, .slice B1 x2.length d1, .slice B2 x3.length d2, .string x4, .string x5, .string x6, .string ⟨#[]⟩, .string ⟨#[]⟩, .string ⟨#[]⟩, .string ⟨#[]⟩, .string ⟨#[]⟩, .bool false, .bool false, .bool false]) (blk_put (cs := #[.slice B0 x1.length d0, .slice B1 x2.length d1, .slice B2 x3.length d2, .string x4, .string x5, .string ⟨#[]⟩, .string ⟨#[]⟩, .string ⟨#[]⟩, .string ⟨#[]⟩, .string ⟨#[]⟩, .string ⟨#[]⟩, .bool false, .bool false, .bool false]) (blk_put (cs := #[.slice B0 x1.length d0, .slice B1 x2.length d1, .slice B2 x3.length d2, .string x4, .string ⟨#[]⟩, .string ⟨#[]⟩, .string ⟨#[]⟩, .string ⟨#[]⟩, .string ⟨#[]⟩, .string ⟨#[]⟩, .string ⟨#[]⟩, .bool false, .bool false, .bool false]) (blk_put (cs := #[.slice B0 x1.length d0, .slice B1 x2.length d1, .slice B2 x3.length d2, .string ⟨#[]⟩, .string ⟨#[]⟩, .string ⟨#[]⟩, .string ⟨#[]⟩, .string ⟨#[]⟩, .string ⟨#[]⟩, .string ⟨#[]⟩, .string ⟨#[]⟩, .bool false, .bool false, .bool false]) (blk_put (cs := #[.slice B0 x1.length d0, .slice B1 x2.length d1, .slice none 0 0, .string ⟨#[]⟩, .string ⟨#[]⟩, .string ⟨#[]⟩, .string ⟨#[]⟩, .string ⟨#[]⟩, .string ⟨#[]⟩, .string ⟨#[]⟩, .string ⟨#[]⟩, .bool false, .bool false, .bool false]) (blk_put (cs := #[.slice B0 x1.length d0, .slice none 0 0, .slice none 0 0, .string ⟨#[]⟩, .string ⟨#[]⟩, .string ⟨#[]⟩, .string ⟨#[]⟩, .string ⟨#[]⟩, .string ⟨#[]⟩, .string ⟨#[]⟩, .string ⟨#[]⟩, .bool false, .bool false, .bool false]) (blk_put (cs := #[.slice none 0 0, .slice none 0 0, .slice none 0 0, .string ⟨#[]⟩, .string ⟨#[]⟩, .string ⟨#[]⟩, .string ⟨#[]⟩, .string ⟨#[]⟩, .string ⟨#[]⟩, .string ⟨#[]⟩, .string ⟨#[]⟩, .bool false, .bool false, .bool false]) (HS.out.at_ 2 rfl) 0 (.slice B0 x1.length d0) rfl) 1 (.slice B1 x2.length d1) rfl) 2 (.slice B2 x3.length d2) rfl) 3 (.string x4) rfl) 4 (.string x5) rfl) 5 (.string x6) rfl) 6 (.string x7) rfl) 7 (.string x8) rfl) 8 (.string x9) rfl) 9 (.string x10) rfl) 10 (.string x11) rfl) 11 (.bool x12) rfl) 12 (.bool x13) rfl) 13 (.bool x14) rfl)
  have HG6 := HK.2 (w.heap.size + 1) (blk_lt (HS.out.at_ 1 rfl)) (by omega) (by simp); have HG6 := HG6.trans (HS.out.at_ 1 rfl); have HG8 := HK.2 g8 (blk_lt (HS.out.at_ 0 rfl)) HN8.out.1 (by simp); have HG8 := HG8.trans (HS.out.at_ 0 rfl)
  have HA := Aside0.mk (And.intro (lx_R HA.out.1 HK HLR.out.1) (And.intro (lx_R HA.out.2.1 HK HLR.out.1) (lx_R HA.out.2.2 HK HLR.out.1))); have HQ := Aside0.mk (lx_R HQ.out HK (by have := HLT.out; omega))
  have HG := Aside0.mk (And.intro HB (And.intro HG4 (And.intro HG6 HG8))); clear HK HB HG4 HG6 HG8 HS hHeld
  generalize ((((((((((((((w4.setCell ⟨w.heap.size, 0, none⟩ (.slice B0 x1.length d0)).setCell ⟨w.heap.size, 1, none⟩ (.slice B1 x2.length d1)).setCell ⟨w.heap.size, 2, none⟩ (.slice B2 x3.length d2)).setCell ⟨w.heap.size, 3, none⟩ (.string x4)).setCell ⟨w.heap.size, 4, none⟩ (.string x5)).setCell ⟨w.heap.size, 5, none⟩ (.string x6)).setCell ⟨w.heap.size, 6, none⟩ (.string x7)).setCell ⟨w.heap.size, 7, none⟩ (.string x8)).setCell ⟨w.heap.size, 8, none⟩ (.string x9)).setCell ⟨w.heap.size, 9, none⟩ (.string x10)).setCell ⟨w.heap.size, 10, none⟩ (.string x11)).setCell ⟨w.heap.size, 11, none⟩ (.bool x12)).setCell ⟨w.heap.size, 12, none⟩ (.bool x13)).setCell ⟨w.heap.size, 13, none⟩ (.bool x14)) = X at HA HQ HG ⊢
  refine hK.out _ _ HG.out.2.2.2 (fun hHeld => ?_); clear hK K
  refine pure_ (i := 4) (N := some 5) (v := ?_) (a' := ?_) #[true, true, true, true, true, false] rfl rfl (by kernel_rfl) (fun _ _ _ h => h) (Or.inl ⟨by rfl, ?_⟩) ?_ ?_; rotate_left
  ·intro w'; go_simp; with_reducible rfl
  rotate_left
  ·simp only [Act.put, List.setIfInBounds_toArray, List.set_cons_zero, List.set_cons_succ, i64_w, i32_w]; rfl
  refine one_ (i := 5) (N := none) #[true, true, true, true, true, true] rfl rfl (by kernel_rfl) (by decide) (fun K hK => ?_)
  have z0 : X.cell? ⟨w.heap.size + 1, 0, none⟩ = some (.int .i64 0) := (blk_cell HG.out.2.2.1 0).trans rfl; have fz0 := blk_frozen HG.out.2.2.1 0; have z1 : X.cell? ⟨w.heap.size + 1, 1, none⟩ = some (.int .i64 0) := (blk_cell HG.out.2.2.1 1).trans rfl; have fz1 := blk_frozen HG.out.2.2.1 1; have z2 : X.cell? ⟨w.heap.size + 1, 2, none⟩ = some (.int .i64 0) := (blk_cell HG.out.2.2.1 2).trans rfl; have fz2 := blk_frozen HG.out.2.2.1 2
  refine skip_ (w1 := ?_) (by rfl) rfl ?_ ?_; rotate_left
  ·go_simp; rfl
  clear z0 z1 z2 fz0 fz1 fz2
  have HK : KeepBut X (((X.setCell ⟨w.heap.size + 1, 0, none⟩ (.int .i64 x16)).setCell ⟨w.heap.size + 1, 1, none⟩ (.int .i64 x17)).setCell ⟨w.heap.size + 1, 2, none⟩ (.int .i64 x18)) (w.heap.size + 1) none := KeepBut.set_ (KeepBut.set_ (KeepBut.set_ (KeepBut.refl X (w.heap.size + 1) none) _ _) _ _) _ _
  have HB : Below w.heap.size w (((X.setCell ⟨w.heap.size + 1, 0, none⟩ (.int .i64 x16)).setCell ⟨w.heap.size + 1, 1, none⟩ (.int .i64 x17)).setCell ⟨w.heap.size + 1, 2, none⟩ (.int .i64 x18)) := below_set (below_set (below_set (HG.out.1) (Nat.le_succ _)) (Nat.le_succ _)) (Nat.le_succ _)
  have HG6 := (blk_put (cs := #[.int .i64 x16, .int .i64 x17, .int .i64 0]) (blk_put (cs := #[.int .i64 x16, .int .i64 0, .int .i64 0]) (blk_put (cs := #[.int .i64 0, .int .i64 0, .int .i64 0]) HG.out.2.2.1 0 (.int .i64 x16) rfl) 1 (.int .i64 x17) rfl) 2 (.int .i64 x18) rfl)
  have HG4 := (HK.2 w.heap.size (blk_lt HG.out.2.1) (by omega) (by simp)).trans HG.out.2.1; have HG8 := (HK.2 g8 (blk_lt HG.out.2.2.2) HN8.out.2 (by simp)).trans HG.out.2.2.2
  have HA := Aside0.mk (And.intro (lx_R HA.out.1 HK HLR.out.2) (And.intro (lx_R HA.out.2.1 HK HLR.out.2) (lx_R HA.out.2.2 HK HLR.out.2))); have HQ := Aside0.mk (lx_R HQ.out HK (by have := HLT.out; omega))
  have HG := Aside0.mk (And.intro HB (And.intro HG4 HG6)); clear HK HB HG4 HG6 hHeld
  generalize (((X.setCell ⟨w.heap.size + 1, 0, none⟩ (.int .i64 x16)).setCell ⟨w.heap.size + 1, 1, none⟩ (.int .i64 x17)).setCell ⟨w.heap.size + 1, 2, none⟩ (.int .i64 x18)) = Y at HA HQ HG HG8 ⊢
  refine hK.out _ _ HG8 (fun hHeld => ?_); clear hK K
  clear HG8 hHeld
  refine done_ (by kernel_rfl) ?_
  go_wp2_with (fail)
  refine bodyPost_ret (results_ctc rfl _ _ (w.heap.size) (w.heap.size + 1) 32 36 #[.slice B0 x1.length d0, .slice B1 x2.length d1, .slice B2 x3.length d2, .string x4, .string x5, .string x6, .string x7, .string x8, .string x9, .string x10, .string x11, .bool x12, .bool x13, .bool x14] #[.int .i64 x16, .int .i64 x17, .int .i64 x18] (0, 0) (0, 0) _ _ rfl HG.out.2.1 Try.underlying32 rfl (by kernel_rfl) rfl HG.out.2.2 Try.underlying36 rfl (by kernel_rfl)) rfl ?_
  exact ⟨_, _, _, _, rfl, Kd.R_lower HA.out.1 HWL.out, Kd.R_lower HA.out.2.1 HWL.out, Kd.R_lower HA.out.2.2 HWL.out, Kd.R_lower HQ.out (Nat.le_of_lt (Nat.lt_of_succ_lt HLT.out)), HG.out.1⟩
mutual
def triglyphref16_Number.l0 : Nat → Int → ByteArray → ByteArray → Int → Option (ByteArray)
 | 0, _, _, _, _ => none
 | k + 1, x0, x1, x5, x6 => if x6 = 0 then (triglyphref16_Number.j1 k x0 x1 x5 x6 (x5.toList == ([] : List UInt8))) else (triglyphref16_Number.j1 k x0 x1 x5 x6 true)
def triglyphref16_Number.j1 : Nat → Int → ByteArray → ByteArray → Int → Bool → Option (ByteArray)
 | 0, _, _, _, _, _ => none
 | k + 1, x0, x1, x5, x6, x14 => if x14 = true then (if (Int.tmod x6 10) < 0 then ((some (([(wrap64 (48 + (wrap64 (-(Int.tmod x6 10))))) % 256] : List Int) : List Int)).bind fun y218 => (if (strOfNums y218).size + x5.size ≤ 9223372036854775807 then (triglyphref16_Number.l0 k x0 x1 ((strOfNums y218) ++ x5) (wrap64 (Int.tdiv x6 10))) else (none))) else ((some (([(wrap64 (48 + (Int.tmod x6 10))) % 256] : List Int) : List Int)).bind fun y221 => (if (strOfNums y221).size + x5.size ≤ 9223372036854775807 then (triglyphref16_Number.l0 k x0 x1 ((strOfNums y221) ++ x5) (wrap64 (Int.tdiv x6 10))) else (none)))) else (if x0 < 0 then (if x1.size + x5.size ≤ 9223372036854775807 then (some (x1 ++ x5)) else (none)) else (some x5))
end
def triglyphref16_Number.f (k : Nat) (a0 : Int) (a1 : ByteArray) : Option (ByteArray) := triglyphref16_Number.l0 k a0 a1 (⟨#[]⟩ : ByteArray) a0
theorem triglyphref16_Number.mono_l : ∀ k, (∀ y0 y1 y2 y3, LeO (triglyphref16_Number.l0 k y0 y1 y2 y3) (triglyphref16_Number.l0 (k + 1) y0 y1 y2 y3)) ∧ (∀ y0 y1 y2 y3 y4, LeO (triglyphref16_Number.j1 k y0 y1 y2 y3 y4) (triglyphref16_Number.j1 (k + 1) y0 y1 y2 y3 y4))
 | 0 => ⟨fun _ _ _ _ r h => by simp [triglyphref16_Number.l0] at h, fun _ _ _ _ _ r h => by simp [triglyphref16_Number.j1] at h⟩
 | k + 1 => by
  obtain ⟨ih0, ih1⟩ := triglyphref16_Number.mono_l k
  refine ⟨?_, ?_⟩
  ·intro y0 y1 y2 y3
   unfold triglyphref16_Number.l0
   repeat' first
   | (with_reducible exact ih0 _ _ _ _)
   | (with_reducible exact ih1 _ _ _ _ _)
   | (with_reducible exact LeO.refl _)
   | (with_reducible exact LeO.none _)
   | (with_reducible refine LeO.ite ?_ ?_)
   | (with_reducible refine LeO.bind ?_ (fun _ => ?_))





  ·intro y0 y1 y2 y3 y4
   unfold triglyphref16_Number.j1
   repeat' first
   | (with_reducible exact ih0 _ _ _ _)
   | (with_reducible exact ih1 _ _ _ _ _)
   | (with_reducible exact LeO.refl _)
   | (with_reducible exact LeO.none _)
   | (with_reducible refine LeO.ite ?_ ?_)
   | (with_reducible refine LeO.bind ?_ (fun _ => ?_))
theorem triglyphref16_Number.mono : ∀ a0 a1 k, LeO (triglyphref16_Number.f k a0 a1) (triglyphref16_Number.f (k + 1) a0 a1) := by
 intro a0 a1 k
 obtain ⟨ih0, ih1⟩ := triglyphref16_Number.mono_l k
 unfold triglyphref16_Number.f
 repeat' first
   | (with_reducible exact ih0 _ _ _ _)
   | (with_reducible exact ih1 _ _ _ _ _)
   | (with_reducible exact LeO.refl _)
   | (with_reducible exact LeO.none _)
   | (with_reducible refine LeO.ite ?_ ?_)
   | (with_reducible refine LeO.bind ?_ (fun _ => ?_))
set_option maxHeartbeats 8000000 in
set_option maxRecDepth 100000 in
theorem triglyphref16_Number.calls (k : Nat) (a0 : Int) (a1 : ByteArray) (r : ByteArray) (w : World) (h : triglyphref16_Number.f k a0 a1 = some r) :
  Calls Try.prog 6 #[.int .i64 a0, .string a1] w fun e w' => e = .returned (.string r) ∧ Below w.heap.size w w' := by
 have HB := gA (Below.refl w.heap.size w)
 have H : (triglyphref16_Number.l0 k a0 a1 (⟨#[]⟩ : ByteArray) a0) = some r := h
 clear h
 have H' := gA H
 clear H
 go_enter Try.func6, Try.ntmps6
 go_wp2
 go_loopg [5, 6] k (fun kq v5 v6 w' => ∃ (x5_1 : ByteArray) (x6_1 : Int), v5 = .string x5_1 ∧ v6 = .int .i64 x6_1 ∧ Aside0 (triglyphref16_Number.l0 kq a0 a1 x5_1 x6_1 = some r) ∧ Aside0 (kq ≤ k) ∧ Aside0 (Below w.heap.size w w'))
 case atStart => exact ⟨((⟨#[]⟩ : ByteArray)), (a0), (rfl), (rfl), H', ⟨Nat.le_refl _⟩, ⟨gB HB⟩⟩
 case round =>
  clear H'
  try clear p2
  obtain ⟨x5_1, x6_1, rfl, rfl, HA, HK1, HB⟩ := hrel
  cases gk with
  | zero => exact absurd HA.out (by simp [triglyphref16_Number.l0])
  | succ k1 =>
   have H := HA.out; clear HA
   simp only [triglyphref16_Number.l0] at H
   have HC3 := gA H
   clear H
   go_upto_region 3 with (fail)
   go_cut [14] (fun v14 wc => ∃ (kq : Nat) (x14_2 : Bool), v14 = .bool x14_2 ∧ Aside0 (triglyphref16_Number.j1 kq a0 a1 x5_1 x6_1 x14_2 = some r) ∧ Aside0 (kq ≤ k1) ∧ Aside0 (Below w.heap.size w wc))
   case first =>
    have H := HC3.out; clear HC3
    by_cases c4 : x6_1 = 0
    ·rw [if_pos c4] at H
     have c4b0 : (x6_1 == 0) = true := beq_iff_eq.mpr c4
     have c4b1 : (x6_1 != 0) = false := bne_eq_false_iff_eq.mpr c4
     clear c4
     (first | rw [c4b0] | rw [c4b1] | (simp only [i64_w, i32_w]; rw [c4b0]) | skip)
     have H' := gA H
     clear H
     go_wp2
     all_goals (go_meet; (case rel => exact ⟨_, ((x5_1.toList == ([] : List UInt8))), (by first | rfl | (simp; done) | (simp [*]; done) | (exfalso; simp_all; done) | (exfalso; simp_all; omega)), H', ⟨by have := HK1.out; first | omega | exact Nat.le_refl _⟩, ⟨gB HB⟩⟩))
    ·rw [if_neg c4] at H
     have c4b0 : (x6_1 == 0) = false := beq_eq_false_iff_ne.mpr c4
     have c4b1 : (x6_1 != 0) = true := bne_iff_ne.mpr c4
     (first | rw [c4b0] | rw [c4b1] | (simp only [i64_w, i32_w]; rw [c4b0]) | skip)
     have H' := gA H
     clear H
     go_wp2
     all_goals (go_meet; (case rel => exact ⟨_, (true), (by first | rfl | (simp; done) | (simp [*]; done) | (exfalso; simp_all; done) | (exfalso; simp_all; omega)), H', ⟨by have := HK1.out; first | omega | exact Nat.le_refl _⟩, ⟨gB HB⟩⟩))
   case rest =>
    clear HC3
    try clear p2
    try clear c4
    try clear c4b0
    try clear c4b1
    try clear p2
    obtain ⟨kq, x14_2, rfl, HA, HJ2, HB⟩ := hcut
    cases kq with
    | zero => exact absurd HA.out (by simp [triglyphref16_Number.j1])
    | succ kj2 =>
     have H := HA.out; clear HA
     simp only [triglyphref16_Number.j1] at H
     by_cases c5 : x14_2 = true
     ·subst c5
      have H1 : (if (Int.tmod x6_1 10) < 0 then ((some (([(wrap64 (48 + (wrap64 (-(Int.tmod x6_1 10))))) % 256] : List Int) : List Int)).bind fun y218 => (if (strOfNums y218).size + x5_1.size ≤ 9223372036854775807 then (triglyphref16_Number.l0 kj2 a0 a1 ((strOfNums y218) ++ x5_1) (wrap64 (Int.tdiv x6_1 10))) else (none))) else ((some (([(wrap64 (48 + (Int.tmod x6_1 10))) % 256] : List Int) : List Int)).bind fun y221 => (if (strOfNums y221).size + x5_1.size ≤ 9223372036854775807 then (triglyphref16_Number.l0 kj2 a0 a1 ((strOfNums y221) ++ x5_1) (wrap64 (Int.tdiv x6_1 10))) else (none)))) = some r := by rw [if_pos rfl] at H; exact H
      clear H; have H := H1; clear H1
      by_cases c6 : (Int.tmod x6_1 10) < 0
      ·rw [if_pos c6] at H
       have c6b0 := decide_eq_true c6
       clear c6
       obtain ⟨y218, hy218⟩ : ∃ y_ : List Int, y_ = (([(wrap64 (48 + (wrap64 (-(Int.tmod x6_1 10))))) % 256] : List Int)) := ⟨_, rfl⟩
       replace H : (if (strOfNums y218).size + x5_1.size ≤ 9223372036854775807 then (triglyphref16_Number.l0 kj2 a0 a1 ((strOfNums y218) ++ x5_1) (wrap64 (Int.tdiv x6_1 10))) else (none)) = some r := by first | (rw [hy218]; with_reducible exact H) | (have H2_ := (Option.bind_some _ _).symm.trans H; rw [hy218]; with_reducible exact H2_) | (have H2_ := (Option.bind_some _ _).symm.trans H; with_reducible exact H2_) | with_reducible exact H | (rw [hy218]; exact H) | exact H
       have Ny218 := gA hy218
       clear hy218
       obtain ⟨c7, H⟩ := iS H
       have c7b0 := eq_true c7
       have c7b1 := decide_eq_true c7
       try have c7b2 : (9223372036854775807 < (strOfNums y218).size + x5_1.size) = False := eq_false (Nat.not_lt.2 c7)
       have H' := gA H
       clear H
       go_wp2_with (first | ((with_reducible refine gate_dst (N := 24) rfl ?_); refine Kd.R_lit (Kd.int .u8) _ 5 ?hg (N := 24) ?hd (xs := ([(wrap64 (48 + (wrap64 (-(Int.tmod x6_1 10))))) % 256] : List Int)) (inner := [.int .u8 ((wrap64 (48 + (wrap64 (-(Int.tmod x6_1 10))))) % 256)]) (ok := fun _ => True) (okp := fun _ => True) ?hr ?hp (fun _ hk => hk) trivial (Below.refl _ _) (Nat.le_refl _) (by simp) ?_; (case hd => rfl); (case hg => rfl); (case hr => first | (go_simp; done) | (go_simp; rfl)); (case hp => exact (Reps.one (show Kd.M (Kd.int .u8) _ _ _ ((wrap64 (48 + (wrap64 (-(Int.tmod x6_1 10))))) % 256) [.int .u8 ((wrap64 (48 + (wrap64 (-(Int.tmod x6_1 10))))) % 256)] from rfl) (Reps.none _ _))); intro v219 w8 ho9 hb hg_ hnew_; clear hg_ hnew_; (first | rw [← Ny218.out] at ho9 | (simp only [Int.reduceToNat] at ho9; rw [← Ny218.out] at ho9)); have HO220 := gA (Kd.R_lower ho9 (below_size (gB HB))); replace HB := gA (below_step (gB HB) hb); clear hb ho9; have hcv10 := own_string (P := Try.prog) Try.underlying44 Try.underlying5 Try.underlying9 (Kd.own_of_R HO220.out)))
       go_roundg kj2
       case measure => have := HK1.out; have := HJ2.out; omega
       case rel => exact ⟨((strOfNums y218) ++ x5_1), (wrap64 (Int.tdiv x6_1 10)), (rfl), (rfl), H', ⟨by have := HK1.out; have := HJ2.out; omega⟩, ⟨gB HB⟩⟩
      ·rw [if_neg c6] at H
       have c6b0 := decide_eq_false c6
       clear c6
       obtain ⟨y221, hy221⟩ : ∃ y_ : List Int, y_ = (([(wrap64 (48 + (Int.tmod x6_1 10))) % 256] : List Int)) := ⟨_, rfl⟩
       replace H : (if (strOfNums y221).size + x5_1.size ≤ 9223372036854775807 then (triglyphref16_Number.l0 kj2 a0 a1 ((strOfNums y221) ++ x5_1) (wrap64 (Int.tdiv x6_1 10))) else (none)) = some r := by first | (rw [hy221]; with_reducible exact H) | (have H2_ := (Option.bind_some _ _).symm.trans H; rw [hy221]; with_reducible exact H2_) | (have H2_ := (Option.bind_some _ _).symm.trans H; with_reducible exact H2_) | with_reducible exact H | (rw [hy221]; exact H) | exact H
       have Ny221 := gA hy221
       clear hy221
       obtain ⟨c11, H⟩ := iS H
       have c11b0 := eq_true c11
       have c11b1 := decide_eq_true c11
       try have c11b2 : (9223372036854775807 < (strOfNums y221).size + x5_1.size) = False := eq_false (Nat.not_lt.2 c11)
       have H' := gA H
       clear H
       go_wp2_with (first | ((with_reducible refine gate_dst (N := 24) rfl ?_); refine Kd.R_lit (Kd.int .u8) _ 5 ?hg (N := 24) ?hd (xs := ([(wrap64 (48 + (Int.tmod x6_1 10))) % 256] : List Int)) (inner := [.int .u8 ((wrap64 (48 + (Int.tmod x6_1 10))) % 256)]) (ok := fun _ => True) (okp := fun _ => True) ?hr ?hp (fun _ hk => hk) trivial (Below.refl _ _) (Nat.le_refl _) (by simp) ?_; (case hd => rfl); (case hg => rfl); (case hr => first | (go_simp; done) | (go_simp; rfl)); (case hp => exact (Reps.one (show Kd.M (Kd.int .u8) _ _ _ ((wrap64 (48 + (Int.tmod x6_1 10))) % 256) [.int .u8 ((wrap64 (48 + (Int.tmod x6_1 10))) % 256)] from rfl) (Reps.none _ _))); intro v222 w12 ho13 hb hg_ hnew_; clear hg_ hnew_; (first | rw [← Ny221.out] at ho13 | (simp only [Int.reduceToNat] at ho13; rw [← Ny221.out] at ho13)); have HO223 := gA (Kd.R_lower ho13 (below_size (gB HB))); replace HB := gA (below_step (gB HB) hb); clear hb ho13; have hcv14 := own_string (P := Try.prog) Try.underlying44 Try.underlying5 Try.underlying9 (Kd.own_of_R HO223.out)))
       go_roundg kj2
       case measure => have := HK1.out; have := HJ2.out; omega
       case rel => exact ⟨((strOfNums y221) ++ x5_1), (wrap64 (Int.tdiv x6_1 10)), (rfl), (rfl), H', ⟨by have := HK1.out; have := HJ2.out; omega⟩, ⟨gB HB⟩⟩
     ·replace c5 := Bool.eq_false_iff.mpr c5
      subst c5
      have H1 : (if a0 < 0 then (if a1.size + x5_1.size ≤ 9223372036854775807 then (some (a1 ++ x5_1)) else (none)) else (some x5_1)) = some r := by rw [if_neg (show ¬ (false = true) by decide)] at H; exact H
      clear H; have H := H1; clear H1
      by_cases c15 : a0 < 0
      ·rw [if_pos c15] at H
       have c15b0 := decide_eq_true c15
       clear c15
       obtain ⟨c16, H⟩ := iS H
       have c16b0 := eq_true c16
       have c16b1 := decide_eq_true c16
       try have c16b2 : (9223372036854775807 < a1.size + x5_1.size) = False := eq_false (Nat.not_lt.2 c16)
       obtain rfl := Option.some.inj H
       go_wp2
       go_ret
       exact ⟨by first | rfl | (simp [errW_none, errW_some] <;> rfl) | (simp [*, errW_none, errW_some] <;> rfl), by repeat (first | (with_reducible first | exact HB.out | apply below_alloc | apply pw_below_drewN | apply below_drew1) | exact HB.out)⟩
      ·rw [if_neg c15] at H
       have c15b0 := decide_eq_false c15
       clear c15
       obtain rfl := Option.some.inj H
       go_wp2
       go_ret
       exact ⟨by first | rfl | (simp [errW_none, errW_some] <;> rfl) | (simp [*, errW_none, errW_some] <;> rfl), by repeat (first | (with_reducible first | exact HB.out | apply below_alloc | apply pw_below_drewN | apply below_drew1) | exact HB.out)⟩
end Go.Proofs.Yteamkcgkhcalhaa.P
