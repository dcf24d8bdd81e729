/- Written by a program of this session: the functions that the laws reach, what each comes to, and each law as it is stated, for every input. No condition. -/
import Derived.Test.YtfjkclhkobnakaaPx0
import Derived.Test.YtfjkclhkobnakaaPx4
import Derived.Test.YtfjkclhkobnakaaPx5
namespace Go.Proofs.Ytfjkclhkobnakaa.P
open Go.RowKit Go.Proofs.YtfjkclhkobnakaaW.PrintWords Go.Proofs.YtfjkclhkobnakaaW.PrintLast Go.Proofs.YtfjkclhkobnakaaW.PrintMore
attribute [local go_sem] max2_int min2_int max_two min_two max_three min_three max_four min_four   -- for this text's walks alone
set_option linter.unusedVariables false
set_option linter.unusedSimpArgs false

/-! ### frag_Fits: function 8 -/
abbrev FgT := Int × Int × Int
def fgRej (fs : FgT) (p why : Int) : FgT := if fs.1 = 0 then (13, p, why) else fs
structure FgI (w0 w : World) (g : Nat) (d : Int) (fs : FgT) : Prop where
  blk : w.heap[g]? = some (.cells #[.int .i64 d, .int .i64 fs.1, .int .i64 fs.2.1, .int .i64 fs.2.2] 48 (0, 0))
  ge : w0.heap.size ≤ g
theorem FgI.below {w0 W W1 : World} {g : Nat} {d : Int} {fs : FgT} (h : FgI w0 W g d fs) (hw : Below W.heap.size W W1) : FgI w0 W1 g d fs := ⟨blk_below h.blk hw, h.ge⟩
structure FgS (w0 w1 w : World) (g gb : Nat) (bx : Array Value) (d : Int) (fs : FgT) : Prop where
  isf : FgI w0 w g d fs
  bel : Below w0.heap.size w0 w
  keep : KeepBut w1 w g none
  box : w.heap[gb]? = some (.cells bx 28 (0, 0))
  ne : gb ≠ g
  ge : w0.heap.size ≤ gb
theorem FgS.start {w0 w : World} {g : Nat} {d : Int} {fs : FgT} (bx : Array Value) (hi : FgI w0 w g d fs) (hb : Below w0.heap.size w0 w) : FgS w0 w (w.alloc (.cells bx 28)) g w.heap.size bx d fs := by
  have h1 : Below w.heap.size w (w.alloc (.cells bx 28)) := below_alloc (Below.refl _ _) _
  refine ⟨hi.below h1, hb.trans (h1.mono hb.size), KeepBut.of_below h1 _ _, blk_new w _, ?_, hb.size⟩
  have := (Array.getElem?_eq_some_iff.1 hi.blk).1
  omega
theorem FgS.quiet {w0 w1 w w' : World} {g gb : Nat} {bx : Array Value} {d : Int} {fs : FgT} (h : FgS w0 w1 w g gb bx d fs) (hb : Below w.heap.size w w') : FgS w0 w1 w' g gb bx d fs :=
  ⟨h.isf.below hb, h.bel.trans (hb.mono h.bel.size), h.keep.trans (KeepBut.of_below hb g none) (.inl rfl), blk_below h.box hb, h.ne, h.ge⟩
theorem FgS.call {w0 w1 w w' : World} {g gb : Nat} {bx : Array Value} {d : Int} {fs fs' : FgT} (h : FgS w0 w1 w g gb bx d fs) (q : FgI w0 w' g d fs' ∧ Below w0.heap.size w0 w' ∧ KeepBut w w' g none) : FgS w0 w1 w' g gb bx d fs' :=
  ⟨q.1, q.2.1, h.keep.trans q.2.2 (.inl rfl), q.2.2.blk h.box h.ne (by simp), h.ne, h.ge⟩
theorem FgS.cells {w0 w1 w : World} {g gb : Nat} {a0 a1 a2 a3 a4 a5 a6 : Value} {d : Int} {fs : FgT} (h : FgS w0 w1 w g gb #[a0, a1, a2, a3, a4, a5, a6] d fs) :
    w.cell? ⟨gb, 0, none⟩ = some a0 ∧ w.cell? ⟨gb, 1, none⟩ = some a1 ∧ w.cell? ⟨gb, 2, none⟩ = some a2 ∧ w.cell? ⟨gb, 3, none⟩ = some a3 ∧ w.cell? ⟨gb, 4, none⟩ = some a4 ∧ w.cell? ⟨gb, 5, none⟩ = some a5 ∧ w.cell? ⟨gb, 6, none⟩ = some a6 :=
  ⟨(blk_cell h.box 0).trans rfl, (blk_cell h.box 1).trans rfl, (blk_cell h.box 2).trans rfl, (blk_cell h.box 3).trans rfl, (blk_cell h.box 4).trans rfl, (blk_cell h.box 5).trans rfl, (blk_cell h.box 6).trans rfl⟩
theorem FgS.state {w0 w1 w : World} {g gb : Nat} {bx : Array Value} {d : Int} {fs : FgT} (h : FgS w0 w1 w g gb bx d fs) : w.cell? ⟨g, 0, none⟩ = some (.int .i64 d) ∧ w.cell? ⟨g, 1, none⟩ = some (.int .i64 fs.1) :=
  ⟨(blk_cell h.isf.blk 0).trans rfl, (blk_cell h.isf.blk 1).trans rfl⟩
theorem FgS.done {w0 w1 w : World} {g gb : Nat} {bx : Array Value} {d : Int} {fs : FgT} (h : FgS w0 w1 w g gb bx d fs) {e : Ending} (he : e = .returned (.tuple #[])) : e = .returned (.tuple #[]) ∧ FgI w0 w g d fs ∧ Below w0.heap.size w0 w ∧ KeepBut w1 w g none := ⟨he, h.isf, h.bel, h.keep⟩
abbrev FgC (F : Nat) (x : S28) (d : Int) (fs fs' : FgT) : Prop :=
  ∀ (A3 : Option Addr) (c3 : Nat) (A4 : Option Addr) (c4 : Nat) (A5 : Option Addr) (c5 : Nat) (w0 w : World) (g : Nat), CkN w0 x A3 c3 A4 c4 A5 c5 → Below w0.heap.size w0 w → FgI w0 w g d fs →
    Calls Try.prog F #[.pointer (some ⟨g, 0, none⟩), .agg #[.int .i64 x.f0, .int .i64 x.f1, .string x.f2, .slice A3 x.f3.f0.length c3, .slice A4 x.f3.f1.length c4, .slice A5 x.f4.length c5, .int .i64 x.f5]] w fun e w' => e = .returned (.tuple #[]) ∧ FgI w0 w' g d fs' ∧ Below w0.heap.size w0 w' ∧ KeepBut w w' g none
theorem FgS.rej {w0 w1 w : World} {g gb : Nat} {bx : Array Value} {d : Int} {fs : FgT} (h : FgS w0 w1 w g gb bx d fs) (a b c : Int) : FgI w0 (((w.setCell ⟨g, 1, none⟩ (.int .i64 a)).setCell ⟨g, 2, none⟩ (.int .i64 b)).setCell ⟨g, 3, none⟩ (.int .i64 c)) g d (a, b, c) ∧ Below w0.heap.size w0 (((w.setCell ⟨g, 1, none⟩ (.int .i64 a)).setCell ⟨g, 2, none⟩ (.int .i64 b)).setCell ⟨g, 3, none⟩ (.int .i64 c)) ∧ KeepBut w1 (((w.setCell ⟨g, 1, none⟩ (.int .i64 a)).setCell ⟨g, 2, none⟩ (.int .i64 b)).setCell ⟨g, 3, none⟩ (.int .i64 c)) g none := by
  obtain ⟨s0, s1, s2⟩ := fs
  have e1 := blk_set h.isf.blk 1 (.int .i64 a)
  have e1 : (w.setCell ⟨g, 1, none⟩ (.int .i64 a)).heap[g]? = some (.cells #[.int .i64 d, .int .i64 a, .int .i64 s1, .int .i64 s2] 48 (0, 0)) := by simpa using e1
  have e2 := blk_set e1 2 (.int .i64 b)
  have e2 : ((w.setCell ⟨g, 1, none⟩ (.int .i64 a)).setCell ⟨g, 2, none⟩ (.int .i64 b)).heap[g]? = some (.cells #[.int .i64 d, .int .i64 a, .int .i64 b, .int .i64 s2] 48 (0, 0)) := by simpa using e2
  have e3 := blk_set e2 3 (.int .i64 c)
  exact ⟨⟨by simpa using e3, h.isf.ge⟩, below_set (below_set (below_set h.bel h.isf.ge) h.isf.ge) h.isf.ge, KeepBut.set_ (KeepBut.set_ (KeepBut.set_ h.keep _ _) _ _) _ _⟩
set_option maxHeartbeats 4000000 in
set_option maxRecDepth 100000 in
theorem fg_reject (why : Int) (x : S28) (d : Int) (fs : FgT) (A3 : Option Addr) (c3 : Nat) (A4 : Option Addr) (c4 : Nat) (A5 : Option Addr) (c5 : Nat) (n3 n4 n5 : Nat) (w0 w : World) (g : Nat) (hb : Below w0.heap.size w0 w) (hi : FgI w0 w g d fs) :
    Calls Try.prog 47 #[.pointer (some ⟨g, 0, none⟩), .agg #[.int .i64 x.f0, .int .i64 x.f1, .string x.f2, .slice A3 n3 c3, .slice A4 n4 c4, .slice A5 n5 c5, .int .i64 x.f5], .int .i64 why] w fun e w' => e = .returned (.tuple #[]) ∧ FgI w0 w' g d (fgRej fs x.f5 why) ∧ Below w0.heap.size w0 w' ∧ KeepBut w w' g none := by
  have hun := Try.underlying28
  have huf := Try.underlying48
  have hut := Try.underlying33
  obtain ⟨x0, x1, x2, x3, x5, x6⟩ := x
  obtain ⟨s0, s1, s2⟩ := fs
  have HS := Aside0.mk (FgS.start #[.int .i64 x0, .int .i64 x1, .string x2, .slice A3 n3 c3, .slice A4 n4 c4, .slice A5 n5 c5, .int .i64 x6] hi hb)
  clear hi hb
  dsimp only
  obtain ⟨g0, g1⟩ := HS.out.state
  obtain ⟨z0, z1, z2, z3, z4, z5, z6⟩ := HS.out.cells
  have q1 := blk_frozen HS.out.isf.blk 1
  have q2 := blk_frozen HS.out.isf.blk 2
  have q3 := blk_frozen HS.out.isf.blk 3
  have g2 := (blk_cell HS.out.isf.blk 2).trans rfl
  have g3 := (blk_cell HS.out.isf.blk 3).trans rfl
  dsimp only at g1
  by_cases c : s0 = 0
  · subst c
    go_enter Try.func47, Try.ntmps47
    go_wp2_with (fail)
    first | go_end0 | ((try simp only [Exit.inBlock, Exit.then]); refine bodyPost_ret (results_none rfl _ _ _) rfl ?_)
    exact ⟨rfl, HS.out.rej 13 x6 why⟩
  · have cb : (s0 == 0) = false := by simpa using c
    rw [show fgRej (s0, s1, s2) x6 why = (s0, s1, s2) from if_neg c]
    go_enter Try.func47, Try.ntmps47
    go_wp2_with (fail)
    first | go_end0 | ((try simp only [Exit.inBlock, Exit.then]); refine bodyPost_ret (results_none rfl _ _ _) rfl ?_)
    exact HS.out.done rfl
def primF (k : Nat) (d : Int) (x : S28) (fs : FgT) : Option FgT :=
  if x.f1 = 19 ∨ x.f1 = 54 then some (fgRej fs x.f5 1) else if x.f1 = 53 ∧ d ≠ 2 then some fs else (frag_Says.f k d x.f1).bind fun b => some (if b = true then fs else fgRej fs x.f5 2)
set_option maxHeartbeats 4000000 in
set_option maxRecDepth 100000 in
theorem fg_prim (k : Nat) (x : S28) (d : Int) (fs fs' : FgT) (h : primF k d x fs = some fs') : FgC 29 x d fs fs' := by
  intro A3 c3 A4 c4 A5 c5 w0 w g hd hb hi
  have hun := Try.underlying28
  have huf := Try.underlying48
  have hut := Try.underlying33
  obtain ⟨x0, x1, x2, ⟨x3, x4⟩, x5, x6⟩ := x
  obtain ⟨s0, s1, s2⟩ := fs
  have HS := Aside0.mk (FgS.start #[.int .i64 x0, .int .i64 x1, .string x2, .slice A3 x3.length c3, .slice A4 x4.length c4, .slice A5 x5.length c5, .int .i64 x6] hi hb)
  have HD := Aside0.mk hd
  have H5 := Aside0.mk hd.h5
  clear hd hi hb
  dsimp only at H5 ⊢
  obtain ⟨g0, g1⟩ := HS.out.state; obtain ⟨z0, z1, z2, z3, z4, z5, z6⟩ := HS.out.cells; dsimp only at g1
  unfold primF at h
  dsimp only at h
  by_cases c1 : x1 = 19 ∨ x1 = 54
  · rw [if_pos c1] at h
    obtain rfl := Option.some.inj h
    clear h
    rcases c1 with rfl | rfl
    all_goals
      go_enter Try.func29, Try.ntmps29
      go_wp2_with (first | (go_at_call 47; (with_reducible refine (fg_reject _ ⟨x0, _, x2, ⟨x3, x4⟩, x5, x6⟩ _ _ _ _ _ _ _ _ _ _ _ w0 _ g HS.out.bel HS.out.isf).mono ?_); rintro e w2 ⟨rfl, q⟩; have HS := Aside0.mk (HS.out.call q); clear q))
      first | go_end0 | ((try simp only [Exit.inBlock, Exit.then]); refine bodyPost_ret (results_none rfl _ _ _) rfl ?_)
      exact HS.out.done rfl
  rw [if_neg c1] at h
  have c1a : (x1 == 19) = false := by simpa using fun e : x1 = 19 => c1 (.inl e)
  have c1b : (x1 == 54) = false := by simpa using fun e : x1 = 54 => c1 (.inr e)
  clear c1
  by_cases c2 : x1 = 53 ∧ d ≠ 2
  · rw [if_pos c2] at h
    obtain rfl := Option.some.inj h
    clear h
    obtain ⟨rfl, c3⟩ := c2
    have c3b : (d != 2) = true := by simpa using c3
    go_enter Try.func29, Try.ntmps29
    go_wp2_with (fail)
    first | go_end0 | ((try simp only [Exit.inBlock, Exit.then]); refine bodyPost_ret (results_none rfl _ _ _) rfl ?_)
    exact HS.out.done rfl
  rw [if_neg c2] at h
  obtain ⟨b, hy, h⟩ := Option.bind_eq_some_iff.1 h
  have HY := Aside0.mk hy
  clear hy
  obtain rfl := Option.some.inj h
  clear h
  have c9 : (x1 == 53) = false ∨ ((x1 == 53) = true ∧ (d != 2) = false) := by
    by_cases e : x1 = 53
    · exact .inr ⟨by simpa using e, by simpa using fun q => c2 ⟨e, q⟩⟩
    · exact .inl (by simpa using e)
  clear c2
  rcases c9 with c9 | ⟨c9, c8⟩
  all_goals
    cases b
    all_goals
      go_enter Try.func29, Try.ntmps29
      go_wp2_with (fail)
      generalize w.alloc (.cells #[.int .i64 x0, .int .i64 x1, .string x2, .slice A3 x3.length c3, .slice A4 x4.length c4, .slice A5 x5.length c5, .int .i64 x6] 28) = W at HS z0 z1 z2 z3 z4 z5 z6 g0 g1 ⊢
      go_still_tail 6, (by kernel_rfl)
      change wpList _ _ _ _ _ W.drew
      have HS := Aside0.mk (HS.out.quiet (below_drew (Below.refl _ _)))
      clear z0 z1 z2 z3 z4 z5 z6 g0 g1
      obtain ⟨z0, z1, z2, z3, z4, z5, z6⟩ := HS.out.cells
      obtain ⟨g0, g1⟩ := HS.out.state
      go_wp2_with (first | (go_at_call 11; (with_reducible refine (frag_Says.calls k d x1 _ _ HY.out).mono ?_); rintro e w3 ⟨rfl, q⟩; have HS := Aside0.mk (HS.out.quiet q.below); clear q z0 z1 z2 z3 z4 z5 z6 g0 g1; obtain ⟨z0, z1, z2, z3, z4, z5, z6⟩ := HS.out.cells) | (go_at_call 47; (with_reducible refine (fg_reject _ ⟨x0, x1, x2, ⟨x3, x4⟩, x5, x6⟩ _ _ _ _ _ _ _ _ _ _ _ w0 _ g HS.out.bel HS.out.isf).mono ?_); rintro e w2 ⟨rfl, q⟩; have HS := Aside0.mk (HS.out.call q); clear q))
      first | go_end0 | ((try simp only [Exit.inBlock, Exit.then]); refine bodyPost_ret (results_none rfl _ _ _) rfl ?_)
      exact HS.out.done rfl
def behindV (x : S28) (fs : FgT) : Option FgT :=
  if x.f0 = 5 then (if 0 < x.f4.length then (if (rd_T28 x.f4 0).f0 = 35 then (if 0 < (rd_T28 x.f4 0).f4.length then some (if (rd_T28 (rd_T28 x.f4 0).f4 0).f0 = 21 ∧ ((rd_T28 (rd_T28 x.f4 0).f4 0).f1 = 50 ∨ (rd_T28 (rd_T28 x.f4 0).f4 0).f1 = 51) then fgRej fs (rd_T28 x.f4 0).f5 7 else fs) else none) else some fs) else none) else some fs
set_option maxHeartbeats 4000000 in
set_option maxRecDepth 100000 in
theorem fg_behind (x : S28) (d : Int) (fs fs' : FgT) (h : behindV x fs = some fs') : FgC 48 x d fs fs' := by
  intro A3 c3 A4 c4 A5 c5 w0 w g hd hb hi
  have hun := Try.underlying28
  have huf := Try.underlying48
  have hut := Try.underlying33
  obtain ⟨x0, x1, x2, ⟨x3, x4⟩, x5, x6⟩ := x
  obtain ⟨s0, s1, s2⟩ := fs
  have HS := Aside0.mk (FgS.start #[.int .i64 x0, .int .i64 x1, .string x2, .slice A3 x3.length c3, .slice A4 x4.length c4, .slice A5 x5.length c5, .int .i64 x6] hi hb)
  have HD := Aside0.mk hd
  have H5 := Aside0.mk hd.h5
  clear hd hi hb
  dsimp only at H5 ⊢
  obtain ⟨g0, g1⟩ := HS.out.state; obtain ⟨z0, z1, z2, z3, z4, z5, z6⟩ := HS.out.cells; dsimp only at g1
  unfold behindV at h
  dsimp only at h
  by_cases k1 : x0 = 5
  rotate_left 1
  · rw [if_neg k1] at h
    obtain rfl := Option.some.inj h
    clear h
    have k1b : (x0 != 5) = true := by simpa using k1
    go_enter Try.func48, Try.ntmps48
    go_wp2_with (fail)
    first | go_end0 | ((try simp only [Exit.inBlock, Exit.then]); refine bodyPost_ret (results_none rfl _ _ _) rfl ?_)
    exact HS.out.done rfl
  rw [if_pos k1] at h
  subst k1
  by_cases k2 : 0 < x5.length
  rotate_left 1
  · rw [if_neg k2] at h; cases h
  rw [if_pos k2] at h
  obtain ⟨ad, B3, e3, B4, e4, B5, e5, eaad, Y, D⟩ := at_kid0 H5.out k2
  subst eaad
  have hlad : (0 : Int) < x5.length := by omega
  generalize hy : rd_T28 x5 0 = y at h Y D
  clear hy
  obtain ⟨y0, y1, y2, ⟨y3, y4⟩, y5, y6⟩ := y
  (try dsimp only at h)
  have Y1 := Y.to HS.out.bel
  obtain ⟨v0, v1, v2, v3, v4, v5, v6⟩ := Y1.cells
  dsimp only at v0 v1 v2 v3 v4 v5 v6
  by_cases k3 : y0 = 35
  rotate_left 1
  · rw [if_neg k3] at h
    obtain rfl := Option.some.inj h
    clear h
    have k3b : (y0 != 35) = true := by simpa using k3
    go_enter Try.func48, Try.ntmps48
    go_wp2_with (fail)
    first | go_end0 | ((try simp only [Exit.inBlock, Exit.then]); refine bodyPost_ret (results_none rfl _ _ _) rfl ?_)
    exact HS.out.done rfl
  rw [if_pos k3] at h
  have k3b : (y0 != 35) = false := by simpa using k3
  clear k3
  by_cases k4 : 0 < y5.length
  rotate_left 1
  · rw [if_neg k4] at h; cases h
  rw [if_pos k4] at h
  have HY5 := Aside0.mk D.h5
  dsimp only at HY5
  obtain ⟨bd, C3, i3, C4, i4, C5, i5, eabd, P, DP⟩ := at_kid0 HY5.out k4
  subst eabd
  have hlbd : (0 : Int) < y5.length := by omega
  generalize hy : rd_T28 y5 0 = p at h P DP
  clear hy
  obtain ⟨p0, p1, p2, ⟨p3, p4⟩, p5, p6⟩ := p
  (try dsimp only at h)
  (try dsimp only at v5)
  obtain rfl := Option.some.inj h
  clear h
  obtain ⟨r0, r1, r2, r3, r4, r5, r6⟩ := (P.to HS.out.bel).cells
  dsimp only at r0 r1 r2 r3 r4 r5 r6
  have hba := below_alloc (Below.refl (w.alloc (.cells #[.int .i64 5, .int .i64 x1, .string x2, .slice A3 x3.length c3, .slice A4 x4.length c4, .slice (some ad) x5.length c5, .int .i64 x6] 28)).heap.size (w.alloc (.cells #[.int .i64 5, .int .i64 x1, .string x2, .slice A3 x3.length c3, .slice A4 x4.length c4, .slice (some ad) x5.length c5, .int .i64 x6] 28))) (.cells #[.int .i64 p0, .int .i64 p1, .string p2, .slice C3 p3.length i3, .slice C4 p4.length i4, .slice C5 p5.length i5, .int .i64 p6] 28 (0, 0))
  have za0 := pw_cell_below hba z0
  have va0 := pw_cell_below hba v0
  have za1 := pw_cell_below hba z1
  have va1 := pw_cell_below hba v1
  have za2 := pw_cell_below hba z2
  have va2 := pw_cell_below hba v2
  have za3 := pw_cell_below hba z3
  have va3 := pw_cell_below hba v3
  have za4 := pw_cell_below hba z4
  have va4 := pw_cell_below hba v4
  have za5 := pw_cell_below hba z5
  have va5 := pw_cell_below hba v5
  have za6 := pw_cell_below hba z6
  have va6 := pw_cell_below hba v6
  have HS2 := Aside0.mk (HS.out.quiet hba)
  clear hba Y Y1 D P DP
  cases d1 : (p0 == 21)
  · rw [if_neg (fun q => by rw [q.1] at d1; cases d1)]
    go_enter Try.func48, Try.ntmps48
    go_wp2_with (fail)
    first | go_end0 | ((try simp only [Exit.inBlock, Exit.then]); refine bodyPost_ret (results_none rfl _ _ _) rfl ?_)
    exact HS2.out.done rfl
  have d1' : Aside0 (p0 = 21) := ⟨by simpa using d1⟩
  cases d2 : (p1 == 50)
  rotate_left 1
  · rw [if_pos ⟨d1'.out, .inl (by simpa using d2)⟩]
    go_enter Try.func48, Try.ntmps48
    go_wp2_with (first | (go_at_call 47; (with_reducible refine (fg_reject _ ⟨y0, y1, y2, ⟨y3, y4⟩, y5, y6⟩ d _ _ _ _ _ _ _ _ _ _ w0 _ g HS2.out.bel HS2.out.isf).mono ?_); rintro e w2 ⟨rfl, q⟩; have HS := Aside0.mk (HS2.out.call q); clear q))
    first | go_end0 | ((try simp only [Exit.inBlock, Exit.then]); refine bodyPost_ret (results_none rfl _ _ _) rfl ?_)
    exact HS.out.done rfl
  cases d3 : (p1 == 51)
  · rw [if_neg (fun q => by rcases q.2 with q | q <;> simp [q] at d2 d3)]
    go_enter Try.func48, Try.ntmps48
    go_wp2_with (fail)
    first | go_end0 | ((try simp only [Exit.inBlock, Exit.then]); refine bodyPost_ret (results_none rfl _ _ _) rfl ?_)
    exact HS2.out.done rfl
  · rw [if_pos ⟨d1'.out, .inr (by simpa using d3)⟩]
    go_enter Try.func48, Try.ntmps48
    go_wp2_with (first | (go_at_call 47; (with_reducible refine (fg_reject _ ⟨y0, y1, y2, ⟨y3, y4⟩, y5, y6⟩ d _ _ _ _ _ _ _ _ _ _ w0 _ g HS2.out.bel HS2.out.isf).mono ?_); rintro e w2 ⟨rfl, q⟩; have HS := Aside0.mk (HS2.out.call q); clear q))
    first | go_end0 | ((try simp only [Exit.inBlock, Exit.then]); refine bodyPost_ret (results_none rfl _ _ _) rfl ?_)
    exact HS.out.done rfl
def plainV (d : Int) (x : S28) (fs : FgT) : Option FgT :=
  if d = 0 then behindV x fs else if d = 2 then (
    if x.f0 = 32 ∨ x.f0 = 34 then some (fgRej fs x.f5 9) else
    if x.f0 = 35 then some (fgRej fs x.f5 7) else
    if x.f0 = 25 then some (fgRej fs x.f5 8) else
    if x.f0 = 31 ∨ x.f0 = 33 then (if 0 < x.f4.length then some (if ((rd_T28 x.f4 0).f0 == 21) && (((rd_T28 x.f4 0).f1 != 21) && (((rd_T28 x.f4 0).f1 != 23) && (((rd_T28 x.f4 0).f1 != 24) && ((rd_T28 x.f4 0).f1 != 25)))) then fgRej fs x.f5 3 else fs) else none) else
    if x.f0 = 6 then none else
    some fs) else some fs
set_option maxHeartbeats 4000000 in
set_option maxRecDepth 100000 in
theorem fg_plain (x : S28) (d : Int) (fs fs' : FgT) (h : plainV d x fs = some fs') : FgC 30 x d fs fs' := by
  intro A3 c3 A4 c4 A5 c5 w0 w g hd hb hi
  have hun := Try.underlying28
  have huf := Try.underlying48
  have hut := Try.underlying33
  obtain ⟨x0, x1, x2, ⟨x3, x4⟩, x5, x6⟩ := x
  obtain ⟨s0, s1, s2⟩ := fs
  have HS := Aside0.mk (FgS.start #[.int .i64 x0, .int .i64 x1, .string x2, .slice A3 x3.length c3, .slice A4 x4.length c4, .slice A5 x5.length c5, .int .i64 x6] hi hb)
  have HD := Aside0.mk hd
  have H5 := Aside0.mk hd.h5
  clear hd hi hb
  dsimp only at H5 ⊢
  obtain ⟨g0, g1⟩ := HS.out.state; obtain ⟨z0, z1, z2, z3, z4, z5, z6⟩ := HS.out.cells; dsimp only at g1
  unfold plainV at h
  dsimp only at h
  by_cases k0 : d = 0
  · rw [if_pos k0] at h
    subst k0
    have HY := Aside0.mk h
    clear h
    go_enter Try.func30, Try.ntmps30
    go_wp2_with (first | (go_at_call 48; (with_reducible refine (fg_behind ⟨x0, x1, x2, ⟨x3, x4⟩, x5, x6⟩ _ _ _ HY.out _ _ _ _ _ _ w0 _ g HD.out HS.out.bel HS.out.isf).mono ?_); rintro e w2 ⟨rfl, q⟩; have HS := Aside0.mk (HS.out.call q); clear q z0 z1 z2 z3 z4 z5 z6 g0 g1; obtain ⟨g0, g1⟩ := HS.out.state))
    first | go_end0 | ((try simp only [Exit.inBlock, Exit.then]); refine bodyPost_ret (results_none rfl _ _ _) rfl ?_)
    exact HS.out.done rfl
  rw [if_neg k0] at h
  have k0b : (d == 0) = false := by simpa using k0
  clear k0
  by_cases k9 : d = 2
  rotate_left 1
  · rw [if_neg k9] at h
    obtain rfl := Option.some.inj h
    clear h
    have k9b : (d != 2) = true := by simpa using k9
    go_enter Try.func30, Try.ntmps30
    go_wp2_with (fail)
    first | go_end0 | ((try simp only [Exit.inBlock, Exit.then]); refine bodyPost_ret (results_none rfl _ _ _) rfl ?_)
    exact HS.out.done rfl
  rw [if_pos k9] at h
  subst k9
  clear k0b
  by_cases k1 : x0 = 32 ∨ x0 = 34
  · rw [if_pos k1] at h
    obtain rfl := Option.some.inj h
    clear h
    rcases k1 with rfl | rfl
    all_goals
      go_enter Try.func30, Try.ntmps30
      go_wp2_with (first | (go_at_call 47; (with_reducible refine (fg_reject 9 ⟨_, x1, x2, ⟨x3, x4⟩, x5, x6⟩ _ _ _ _ _ _ _ _ _ _ _ w0 _ g HS.out.bel HS.out.isf).mono ?_); rintro e w2 ⟨rfl, q⟩; have HS := Aside0.mk (HS.out.call q); clear q))
      first | go_end0 | ((try simp only [Exit.inBlock, Exit.then]); refine bodyPost_ret (results_none rfl _ _ _) rfl ?_)
      exact HS.out.done rfl
  rw [if_neg k1] at h
  have k1a : (x0 == 32) = false := by simpa using fun e : x0 = 32 => k1 (.inl e)
  have k1b : (x0 == 34) = false := by simpa using fun e : x0 = 34 => k1 (.inr e)
  clear k1
  by_cases k2 : x0 = 35
  · rw [if_pos k2] at h
    obtain rfl := Option.some.inj h
    clear h
    subst k2
    clear k1a k1b
    go_enter Try.func30, Try.ntmps30
    go_wp2_with (first | (go_at_call 47; (with_reducible refine (fg_reject 7 ⟨_, x1, x2, ⟨x3, x4⟩, x5, x6⟩ _ _ _ _ _ _ _ _ _ _ _ w0 _ g HS.out.bel HS.out.isf).mono ?_); rintro e w2 ⟨rfl, q⟩; have HS := Aside0.mk (HS.out.call q); clear q))
    first | go_end0 | ((try simp only [Exit.inBlock, Exit.then]); refine bodyPost_ret (results_none rfl _ _ _) rfl ?_)
    exact HS.out.done rfl
  rw [if_neg k2] at h
  have k2b : (x0 == 35) = false := by simpa using k2
  clear k2
  by_cases k3 : x0 = 25
  · rw [if_pos k3] at h
    obtain rfl := Option.some.inj h
    clear h
    subst k3
    clear k1a k1b k2b
    go_enter Try.func30, Try.ntmps30
    go_wp2_with (first | (go_at_call 47; (with_reducible refine (fg_reject 8 ⟨_, x1, x2, ⟨x3, x4⟩, x5, x6⟩ _ _ _ _ _ _ _ _ _ _ _ w0 _ g HS.out.bel HS.out.isf).mono ?_); rintro e w2 ⟨rfl, q⟩; have HS := Aside0.mk (HS.out.call q); clear q))
    first | go_end0 | ((try simp only [Exit.inBlock, Exit.then]); refine bodyPost_ret (results_none rfl _ _ _) rfl ?_)
    exact HS.out.done rfl
  rw [if_neg k3] at h
  have k3b : (x0 == 25) = false := by simpa using k3
  clear k3
  by_cases k4 : x0 = 31 ∨ x0 = 33
  · rw [if_pos k4] at h
    by_cases k5 : 0 < x5.length
    rotate_left 1
    · rw [if_neg k5] at h; cases h
    rw [if_pos k5] at h
    obtain ⟨ad, B3, e3, B4, e4, B5, e5, eaad, Y, D⟩ := at_kid0 H5.out k5
    subst eaad
    have hlad : (0 : Int) < x5.length := by omega
    generalize hy : rd_T28 x5 0 = y at h Y D
    clear hy
    obtain ⟨y0, y1, y2, ⟨y3, y4⟩, y5, y6⟩ := y
    (try dsimp only at h)
    obtain rfl := Option.some.inj h
    clear h
    have Y1 := Y.to HS.out.bel
    obtain ⟨v0, v1, v2, v3, v4, v5, v6⟩ := Y1.cells
    dsimp only at v0 v1 v2 v3 v4 v5 v6
    clear k1a k1b k2b k3b Y Y1 D
    rcases k4 with rfl | rfl
    all_goals
      cases e0 : (y0 == 21)
      · simp only [e0, Bool.false_and, Bool.true_and, Bool.and_true, Bool.and_false, Bool.false_eq_true, if_true, if_false]
        go_enter Try.func30, Try.ntmps30
        go_wp2_with (fail)
        first | go_end0 | ((try simp only [Exit.inBlock, Exit.then]); refine bodyPost_ret (results_none rfl _ _ _) rfl ?_)
        exact HS.out.done rfl
      cases e1 : (y1 != 21)
      · simp only [e0, e1, Bool.false_and, Bool.true_and, Bool.and_true, Bool.and_false, Bool.false_eq_true, if_true, if_false]
        go_enter Try.func30, Try.ntmps30
        go_wp2_with (fail)
        first | go_end0 | ((try simp only [Exit.inBlock, Exit.then]); refine bodyPost_ret (results_none rfl _ _ _) rfl ?_)
        exact HS.out.done rfl
      cases e2 : (y1 != 23)
      · simp only [e0, e1, e2, Bool.false_and, Bool.true_and, Bool.and_true, Bool.and_false, Bool.false_eq_true, if_true, if_false]
        go_enter Try.func30, Try.ntmps30
        go_wp2_with (fail)
        first | go_end0 | ((try simp only [Exit.inBlock, Exit.then]); refine bodyPost_ret (results_none rfl _ _ _) rfl ?_)
        exact HS.out.done rfl
      cases e3 : (y1 != 24)
      · simp only [e0, e1, e2, e3, Bool.false_and, Bool.true_and, Bool.and_true, Bool.and_false, Bool.false_eq_true, if_true, if_false]
        go_enter Try.func30, Try.ntmps30
        go_wp2_with (fail)
        first | go_end0 | ((try simp only [Exit.inBlock, Exit.then]); refine bodyPost_ret (results_none rfl _ _ _) rfl ?_)
        exact HS.out.done rfl
      cases e4 : (y1 != 25)
      · simp only [e0, e1, e2, e3, e4, Bool.false_and, Bool.true_and, Bool.and_true, Bool.and_false, Bool.false_eq_true, if_true, if_false]
        go_enter Try.func30, Try.ntmps30
        go_wp2_with (fail)
        first | go_end0 | ((try simp only [Exit.inBlock, Exit.then]); refine bodyPost_ret (results_none rfl _ _ _) rfl ?_)
        exact HS.out.done rfl
      simp only [e0, e1, e2, e3, e4, Bool.false_and, Bool.true_and, Bool.and_true, Bool.and_false, Bool.false_eq_true, if_true, if_false]
      go_enter Try.func30, Try.ntmps30
      go_wp2_with (first | (go_at_call 47; (with_reducible refine (fg_reject 3 ⟨_, x1, x2, ⟨x3, x4⟩, x5, x6⟩ _ _ _ _ _ _ _ _ _ _ _ w0 _ g HS.out.bel HS.out.isf).mono ?_); rintro e w2 ⟨rfl, q⟩; have HS := Aside0.mk (HS.out.call q); clear q))
      first | go_end0 | ((try simp only [Exit.inBlock, Exit.then]); refine bodyPost_ret (results_none rfl _ _ _) rfl ?_)
      exact HS.out.done rfl
  rw [if_neg k4] at h
  have k4a : (x0 == 31) = false := by simpa using fun e : x0 = 31 => k4 (.inl e)
  have k4b : (x0 == 33) = false := by simpa using fun e : x0 = 33 => k4 (.inr e)
  clear k4
  by_cases k6 : x0 = 6
  rotate_left 1
  · rw [if_neg k6] at h
    obtain rfl := Option.some.inj h
    clear h
    have k6b : (x0 == 6) = false := by simpa using k6
    go_enter Try.func30, Try.ntmps30
    go_wp2_with (fail)
    first | go_end0 | ((try simp only [Exit.inBlock, Exit.then]); refine bodyPost_ret (results_none rfl _ _ _) rfl ?_)
    exact HS.out.done rfl
  rw [if_pos k6] at h
  cases h
mutual
def nodeV (k : Nat) (d : Int) : S28 → FgT → Option FgT
  | ⟨x0, x1, x2, x3, ks, x6⟩, fs => (if x0 = 21 then primF k d ⟨x0, x1, x2, x3, ks, x6⟩ fs else some fs).bind fun f1 => (plainV d ⟨x0, x1, x2, x3, ks, x6⟩ f1).bind fun f2 => nodesV k d ks f2
def nodesV (k : Nat) (d : Int) : List S28 → FgT → Option FgT
  | [], fs => some fs
  | x :: xs, fs => (nodeV k d x fs).bind fun f1 => nodesV k d xs f1
end
set_option maxHeartbeats 4000000 in
set_option maxRecDepth 100000 in
theorem fg_node (k : Nat) (x : S28) (d : Int) (fs fs' : FgT) (hok : ∀ y ∈ x.f4, ∀ f1 f2, nodeV k d y f1 = some f2 → FgC 19 y d f1 f2) (h : nodeV k d x fs = some fs') : FgC 19 x d fs fs' := by
  intro A3 c3 A4 c4 A5 c5 w0 w g hd hb hi
  have hun := Try.underlying28
  have huf := Try.underlying48
  have hut := Try.underlying33
  obtain ⟨x0, x1, x2, ⟨x3, x4⟩, x5, x6⟩ := x
  obtain ⟨s0, s1, s2⟩ := fs
  have HS := Aside0.mk (FgS.start #[.int .i64 x0, .int .i64 x1, .string x2, .slice A3 x3.length c3, .slice A4 x4.length c4, .slice A5 x5.length c5, .int .i64 x6] hi hb)
  have HD := Aside0.mk hd
  have H5 := Aside0.mk hd.h5
  clear hd hi hb
  dsimp only at H5 ⊢
  obtain ⟨g0, g1⟩ := HS.out.state; obtain ⟨z0, z1, z2, z3, z4, z5, z6⟩ := HS.out.cells; dsimp only at g1
  dsimp only at hok
  have HOK := Aside0.mk hok
  clear hok
  have HLM := Aside0.mk H5.out.2.1
  rw [nodeV] at h
  obtain ⟨⟨p0, p1, p2⟩, hp, h⟩ := Option.bind_eq_some_iff.1 h
  obtain ⟨⟨q0, q1, q2⟩, hq, h⟩ := Option.bind_eq_some_iff.1 h
  have HQ := Aside0.mk hq
  have HN := Aside0.mk h
  clear hq h
  have c21 : (x0 = 21 ∧ primF k d ⟨x0, x1, x2, ⟨x3, x4⟩, x5, x6⟩ (s0, s1, s2) = some (p0, p1, p2)) ∨ ((x0 == 21) = false ∧ (s0, s1, s2) = (p0, p1, p2)) := by
    by_cases c : x0 = 21
    · rw [if_pos c] at hp; exact .inl ⟨c, hp⟩
    · rw [if_neg c] at hp; exact .inr ⟨by simpa using c, Option.some.inj hp⟩
  clear hp
  rcases c21 with ⟨c21, hp⟩ | ⟨c21, hp⟩
  · have HP := Aside0.mk hp
    have c21b : (x0 == 21) = true := by simpa using c21
    clear hp c21
    skip
    go_enter Try.func19, Try.ntmps19
    go_wp2_with (first | (go_at_call 29; (with_reducible refine (fg_prim k ⟨x0, x1, x2, ⟨x3, x4⟩, x5, x6⟩ _ _ _ HP.out _ _ _ _ _ _ w0 _ g HD.out HS.out.bel HS.out.isf).mono ?_); rintro e w2 ⟨rfl, q⟩; have HS := Aside0.mk (HS.out.call q); clear q z0 z1 z2 z3 z4 z5 z6 g0 g1; obtain ⟨z0, z1, z2, z3, z4, z5, z6⟩ := HS.out.cells) | (go_at_call 30; (with_reducible refine (fg_plain ⟨x0, x1, x2, ⟨x3, x4⟩, x5, x6⟩ _ _ _ HQ.out _ _ _ _ _ _ w0 _ g HD.out HS.out.bel HS.out.isf).mono ?_); rintro e w3 ⟨rfl, q⟩; have HS := Aside0.mk (HS.out.call q); clear q; (try clear z0 z1 z2 z3 z4 z5 z6); obtain ⟨z0, z1, z2, z3, z4, z5, z6⟩ := HS.out.cells))
    clear z0 z1 z2 z3 z4 z5 z6
    go_loopg [21] x5.length (fun kq v21 W => ∃ (j : Nat) (f0 f1 f2 : Int), v21 = .int .i64 (j : Int) ∧ Aside0 (j + kq = x5.length) ∧ Aside0 (nodesV k d (x5.drop j) (f0, f1, f2) = some fs') ∧ Aside0 (FgS w0 w W g w.heap.size #[.int .i64 x0, .int .i64 x1, .string x2, .slice A3 x3.length c3, .slice A4 x4.length c4, .slice A5 x5.length c5, .int .i64 x6] d (f0, f1, f2)))
    case atStart => exact ⟨0, q0, q1, q2, rfl, ⟨by omega⟩, ⟨by rw [List.drop_zero]; exact HN.out⟩, ⟨HS.out⟩⟩
    case round =>
      clear HS HN HQ
      obtain ⟨j, f0, f1, f2, rfl, HJ, HG, HS⟩ := hrel
      by_cases hlt : j < x5.length
      · obtain ⟨q, rfl⟩ : ∃ q, gk = q + 1 := ⟨gk - 1, by have := HJ.out; omega⟩
        have hlti : (j : Int) < (x5.length : Int) := by omega
        have HWR : Aside0 (wrap64 ((j : Int) + 1) = ((j + 1 : Nat) : Int)) := ⟨by have := HLM.out; unfold wrap64; omega⟩
        obtain ⟨ad, B3, e3, B4, e4, B5, e5, ea, Y, D⟩ := at_kid H5.out j hlt
        have hx : rd_T28 x5 (j : Int) = x5[j] := by simp [rd_T28, hlt]
        have HG2 := HG.out
        rw [List.drop_eq_getElem_cons hlt, nodesV] at HG2
        obtain ⟨⟨t0, t1, t2⟩, ht, hn⟩ := Option.bind_eq_some_iff.1 HG2
        have HK := Aside0.mk (HOK.out x5[j] (List.getElem_mem hlt) _ _ ht)
        have HN := Aside0.mk hn
        clear ht hn HG2
        rw [hx] at Y D
        clear hx
        generalize x5[j] = y at Y D HK
        obtain ⟨y0, y1, y2, ⟨y3, y4⟩, y5, y6⟩ := y
        obtain ⟨v0, v1, v2, v3, v4, v5, v6⟩ := (Y.to HS.out.bel).cells
        dsimp only at v0 v1 v2 v3 v4 v5 v6
        have D := Aside0.mk D
        clear Y
        have EA := Aside0.mk ea
        rw [ea]
        clear ea
        go_wp2_with (first | (go_at_call 19; (with_reducible refine (HK.out _ _ _ _ _ _ w0 _ g D.out (HS.out.quiet (below_alloc (Below.refl _ _) _)).bel (HS.out.quiet (below_alloc (Below.refl _ _) _)).isf).mono ?_); rintro e w5 ⟨rfl, q⟩; have HS := Aside0.mk ((HS.out.quiet (below_alloc (Below.refl _ _) _)).call q); clear q))
        rw [← EA.out]
        go_roundg q
        case measure => omega
        case rel => exact ⟨j + 1, t0, t1, t2, congrArg (Value.int .i64) HWR.out, ⟨by have := HJ.out; omega⟩, ⟨HN.out⟩, ⟨HS.out⟩⟩
      · have hk : gk = 0 := by have := HJ.out; omega
        subst hk
        have hj : j = x5.length := by have := HJ.out; omega
        subst hj
        have HN := HG.out
        rw [List.drop_length, nodesV] at HN
        obtain rfl := Option.some.inj HN
        clear HN
        go_wp2_with (fail)
        first | go_end0 | ((try simp only [Exit.inBlock, Exit.then]); refine bodyPost_ret (results_none rfl _ _ _) rfl ?_)
        exact HS.out.done rfl
  · obtain ⟨rfl, rfl, rfl⟩ : s0 = p0 ∧ s1 = p1 ∧ s2 = p2 := by simpa using hp
    clear hp
    go_enter Try.func19, Try.ntmps19
    go_wp2_with (first | (go_at_call 29; (with_reducible refine (fg_prim k ⟨x0, x1, x2, ⟨x3, x4⟩, x5, x6⟩ _ _ _ HP.out _ _ _ _ _ _ w0 _ g HD.out HS.out.bel HS.out.isf).mono ?_); rintro e w2 ⟨rfl, q⟩; have HS := Aside0.mk (HS.out.call q); clear q z0 z1 z2 z3 z4 z5 z6 g0 g1; obtain ⟨z0, z1, z2, z3, z4, z5, z6⟩ := HS.out.cells) | (go_at_call 30; (with_reducible refine (fg_plain ⟨x0, x1, x2, ⟨x3, x4⟩, x5, x6⟩ _ _ _ HQ.out _ _ _ _ _ _ w0 _ g HD.out HS.out.bel HS.out.isf).mono ?_); rintro e w3 ⟨rfl, q⟩; have HS := Aside0.mk (HS.out.call q); clear q; (try clear z0 z1 z2 z3 z4 z5 z6); obtain ⟨z0, z1, z2, z3, z4, z5, z6⟩ := HS.out.cells))
    clear z0 z1 z2 z3 z4 z5 z6
    go_loopg [21] x5.length (fun kq v21 W => ∃ (j : Nat) (f0 f1 f2 : Int), v21 = .int .i64 (j : Int) ∧ Aside0 (j + kq = x5.length) ∧ Aside0 (nodesV k d (x5.drop j) (f0, f1, f2) = some fs') ∧ Aside0 (FgS w0 w W g w.heap.size #[.int .i64 x0, .int .i64 x1, .string x2, .slice A3 x3.length c3, .slice A4 x4.length c4, .slice A5 x5.length c5, .int .i64 x6] d (f0, f1, f2)))
    case atStart => exact ⟨0, q0, q1, q2, rfl, ⟨by omega⟩, ⟨by rw [List.drop_zero]; exact HN.out⟩, ⟨HS.out⟩⟩
    case round =>
      clear HS HN HQ
      obtain ⟨j, f0, f1, f2, rfl, HJ, HG, HS⟩ := hrel
      by_cases hlt : j < x5.length
      · obtain ⟨q, rfl⟩ : ∃ q, gk = q + 1 := ⟨gk - 1, by have := HJ.out; omega⟩
        have hlti : (j : Int) < (x5.length : Int) := by omega
        have HWR : Aside0 (wrap64 ((j : Int) + 1) = ((j + 1 : Nat) : Int)) := ⟨by have := HLM.out; unfold wrap64; omega⟩
        obtain ⟨ad, B3, e3, B4, e4, B5, e5, ea, Y, D⟩ := at_kid H5.out j hlt
        have hx : rd_T28 x5 (j : Int) = x5[j] := by simp [rd_T28, hlt]
        have HG2 := HG.out
        rw [List.drop_eq_getElem_cons hlt, nodesV] at HG2
        obtain ⟨⟨t0, t1, t2⟩, ht, hn⟩ := Option.bind_eq_some_iff.1 HG2
        have HK := Aside0.mk (HOK.out x5[j] (List.getElem_mem hlt) _ _ ht)
        have HN := Aside0.mk hn
        clear ht hn HG2
        rw [hx] at Y D
        clear hx
        generalize x5[j] = y at Y D HK
        obtain ⟨y0, y1, y2, ⟨y3, y4⟩, y5, y6⟩ := y
        obtain ⟨v0, v1, v2, v3, v4, v5, v6⟩ := (Y.to HS.out.bel).cells
        dsimp only at v0 v1 v2 v3 v4 v5 v6
        have D := Aside0.mk D
        clear Y
        have EA := Aside0.mk ea
        rw [ea]
        clear ea
        go_wp2_with (first | (go_at_call 19; (with_reducible refine (HK.out _ _ _ _ _ _ w0 _ g D.out (HS.out.quiet (below_alloc (Below.refl _ _) _)).bel (HS.out.quiet (below_alloc (Below.refl _ _) _)).isf).mono ?_); rintro e w5 ⟨rfl, q⟩; have HS := Aside0.mk ((HS.out.quiet (below_alloc (Below.refl _ _) _)).call q); clear q))
        rw [← EA.out]
        go_roundg q
        case measure => omega
        case rel => exact ⟨j + 1, t0, t1, t2, congrArg (Value.int .i64) HWR.out, ⟨by have := HJ.out; omega⟩, ⟨HN.out⟩, ⟨HS.out⟩⟩
      · have hk : gk = 0 := by have := HJ.out; omega
        subst hk
        have hj : j = x5.length := by have := HJ.out; omega
        subst hj
        have HN := HG.out
        rw [List.drop_length, nodesV] at HN
        obtain rfl := Option.some.inj HN
        clear HN
        go_wp2_with (fail)
        first | go_end0 | ((try simp only [Exit.inBlock, Exit.then]); refine bodyPost_ret (results_none rfl _ _ _) rfl ?_)
        exact HS.out.done rfl
theorem fg_upto (k : Nat) : ∀ (N : Nat) (x : S28), SizeOf.sizeOf x ≤ N → ∀ d fs fs', nodeV k d x fs = some fs' → FgC 19 x d fs fs' := by
  intro N
  induction N with
  | zero =>
    intro x h
    obtain ⟨x0, x1, x2, x3, x5, x6⟩ := x
    simp at h
  | succ N ih =>
    intro x h d fs fs' hv
    refine fg_node k x d fs fs' (fun y hy f1 f2 h2 => ih y ?_ d f1 f2 h2) hv
    obtain ⟨x0, x1, x2, x3, x5, x6⟩ := x
    have h1 := List.sizeOf_lt_of_mem hy
    simp at h h1
    omega
theorem fg_load {w : World} {b : Nat} {e a y : Int} (hb : w.heap[b]? = some (.cells #[.int .i64 e, .int .i64 a, .int .i64 y] 33 (0, 0))) : (loadVar 33 ⟨b, 0, none⟩).run Try.prog w = .ok (.agg #[.int .i64 e, .int .i64 a, .int .i64 y]) w := by
  have c0 : w.cell? ⟨b, 0, none⟩ = some (.int .i64 e) := (blk_cell hb 0).trans rfl
  have c1 : w.cell? ⟨b, 1, none⟩ = some (.int .i64 a) := (blk_cell hb 1).trans rfl
  have c2 : w.cell? ⟨b, 2, none⟩ = some (.int .i64 y) := (blk_cell hb 2).trans rfl
  have hut := Try.underlying33
  simp [loadVar, go_sem, hut, c0, c1, c2]
theorem fg_results {fn : Func} {t : Tmp} {ty : TypeId} (h : fn.results = #[.cell t ty]) (tmps : Array Value) (P : Program) (w : World) {a : Addr} {v : Value} (ha : tmps.getD t undef = .pointer (some a)) (hl : (loadVar ty a).run P w = .ok v w) :
    (results fn tmps).run P w = .ok v w := by
  have ha2 : tmps[t]?.getD undef = .pointer (some a) := by simpa using ha
  simp only [loadVar, go_sem] at hl
  simp [results, h, go_sem, ha2]
  simpa using hl
theorem fg_set3 {w : World} {b : Nat} {e a y : Value} (hb : w.heap[b]? = some (.cells #[e, a, y] 33 (0, 0))) (e' a' y' : Value) : (((w.setCell ⟨b, 0, none⟩ e').setCell ⟨b, 1, none⟩ a').setCell ⟨b, 2, none⟩ y').heap[b]? = some (.cells #[e', a', y'] 33 (0, 0)) := by
  have e1 := blk_set hb 0 e'
  have e1 : (w.setCell ⟨b, 0, none⟩ e').heap[b]? = some (.cells #[e', a, y] 33 (0, 0)) := by simpa using e1
  have e2 := blk_set e1 1 a'
  have e2 : ((w.setCell ⟨b, 0, none⟩ e').setCell ⟨b, 1, none⟩ a').heap[b]? = some (.cells #[e', a', y] 33 (0, 0)) := by simpa using e2
  simpa using blk_set e2 2 y'
theorem prim_mono (k : Nat) (d : Int) (x : S28) (fs : FgT) : LeO (primF k d x fs) (primF (k + 1) d x fs) := by
  unfold primF
  exact LeO.ite (LeO.refl _) (LeO.ite (LeO.refl _) (LeO.bind (frag_Says.mono _ _ _) (fun _ => LeO.refl _)))
mutual
theorem node_mono (k : Nat) (d : Int) : ∀ (x : S28) (fs : FgT), LeO (nodeV k d x fs) (nodeV (k + 1) d x fs)
  | ⟨x0, x1, x2, x3, ks, x6⟩, fs => by
    rw [nodeV, nodeV]
    exact LeO.bind (LeO.ite (prim_mono _ _ _ _) (LeO.refl _)) (fun _ => LeO.bind (LeO.refl _) (fun _ => nodes_mono k d ks _))
theorem nodes_mono (k : Nat) (d : Int) : ∀ (l : List S28) (fs : FgT), LeO (nodesV k d l fs) (nodesV (k + 1) d l fs)
  | [], fs => by rw [nodesV, nodesV]; exact LeO.refl _
  | x :: xs, fs => by
    rw [nodesV, nodesV]
    exact LeO.bind (node_mono k d x fs) (fun _ => nodes_mono k d xs _)
end
def frag_Fits.f (k : Nat) (a0 : Int) (a1_0 : Int) (a1_1 : Int) (a1_2 : ByteArray) (l1_3 : List Int) (l1_4 : List (S57)) (l1_5 : List (S28)) (a1_6 : Int) : Option (Int × Int × Int) :=
  if a0 < 0 then some (1, 0, 0) else if a0 > 2 then some (1, 0, 0) else (core_Check.f k a1_0 a1_1 a1_2 l1_3 l1_4 l1_5 a1_6).bind fun c => if c = 0 then nodeV k a0 ⟨a1_0, a1_1, a1_2, ⟨l1_3, l1_4⟩, l1_5, a1_6⟩ (0, 0, 0) else some (1, 0, 0)
theorem frag_Fits.mono : ∀ a0 a1 a2 a3 a4 a5 a6 a7 k, LeO (frag_Fits.f k a0 a1 a2 a3 a4 a5 a6 a7) (frag_Fits.f (k + 1) a0 a1 a2 a3 a4 a5 a6 a7) := by
  intro a0 a1 a2 a3 a4 a5 a6 a7 k
  unfold frag_Fits.f
  exact LeO.ite (LeO.refl _) (LeO.ite (LeO.refl _) (LeO.bind (core_Check.mono _ _ _ _ _ _ _ _) (fun _ => LeO.ite (node_mono _ _ _ _) (LeO.refl _))))
set_option maxHeartbeats 4000000 in
set_option maxRecDepth 100000 in
theorem frag_Fits.calls (k : Nat) (a0 : Int) (a1_0 : Int) (a1_1 : Int) (a1_2 : ByteArray) (A1_3 : Option Addr) (c1_3 : Nat) (l1_3 : List Int) (A1_4 : Option Addr) (c1_4 : Nat) (l1_4 : List (S57)) (A1_5 : Option Addr) (c1_5 : Nat) (l1_5 : List (S28)) (a1_6 : Int) (r1 : Int) (r2 : Int) (r3 : Int) (w : World) (hr1_3 : Kd.C (Kd.int .i64) w A1_3 l1_3.length l1_3) (hc1_3 : l1_3.length ≤ c1_3) (hr1_4 : Kd.C k57 w A1_4 l1_4.length l1_4) (hc1_4 : l1_4.length ≤ c1_4) (hr1_5 : Kd.C k28 w A1_5 l1_5.length l1_5) (hc1_5 : l1_5.length ≤ c1_5) (h : frag_Fits.f k a0 a1_0 a1_1 a1_2 l1_3 l1_4 l1_5 a1_6 = some (r1, r2, r3)) :
    Calls Try.prog 8 #[.int .i64 a0, .agg #[.int .i64 a1_0, .int .i64 a1_1, .string a1_2, .slice A1_3 l1_3.length c1_3, .slice A1_4 l1_4.length c1_4, .slice A1_5 l1_5.length c1_5, .int .i64 a1_6]] w fun e w' => e = .returned (.agg #[.int .i64 r1, .int .i64 r2, .int .i64 r3]) ∧ Below w.heap.size w w' := by
  have hun := Try.underlying28
  have huf := Try.underlying48
  have hut := Try.underlying33
  unfold frag_Fits.f at h
  have HB := Aside0.mk (below_alloc (below_alloc (Below.refl w.heap.size w) (.cells #[.int .i64 a1_0, .int .i64 a1_1, .string a1_2, .slice A1_3 l1_3.length c1_3, .slice A1_4 l1_4.length c1_4, .slice A1_5 l1_5.length c1_5, .int .i64 a1_6] 28 (0, 0))) (.cells #[.int .i64 0, .int .i64 0, .int .i64 0] 33 (0, 0)))
  by_cases c1 : a0 < 0
  · rw [if_pos c1] at h
    obtain ⟨rfl, rfl, rfl⟩ : 1 = r1 ∧ 0 = r2 ∧ 0 = r3 := by simpa using h
    clear h
    have c1b : decide (a0 < 0) = true := decide_eq_true c1
    go_enter Try.func8, Try.ntmps8
    go_wp2_with (fail)
    (try simp only [Exit.inBlock, Exit.then]); refine bodyPost_ret (fg_results rfl _ _ _ rfl (fg_load (by simpa using blk_new (w.alloc (.cells #[.int .i64 a1_0, .int .i64 a1_1, .string a1_2, .slice A1_3 l1_3.length c1_3, .slice A1_4 l1_4.length c1_4, .slice A1_5 l1_5.length c1_5, .int .i64 a1_6] 28 (0, 0))) (.cells #[.int .i64 1, .int .i64 0, .int .i64 0] 33 (0, 0))))) rfl ?_
    exact ⟨rfl, below_alloc (below_alloc (Below.refl _ _) _) _⟩
  rw [if_neg c1] at h
  have c1b : decide (a0 < 0) = false := decide_eq_false c1
  clear c1
  by_cases c2 : a0 > 2
  · rw [if_pos c2] at h
    obtain ⟨rfl, rfl, rfl⟩ : 1 = r1 ∧ 0 = r2 ∧ 0 = r3 := by simpa using h
    clear h
    have c2b : decide (a0 > 2) = true := decide_eq_true c2
    go_enter Try.func8, Try.ntmps8
    go_wp2_with (fail)
    (try simp only [Exit.inBlock, Exit.then]); refine bodyPost_ret (fg_results rfl _ _ _ rfl (fg_load (by simpa using blk_new (w.alloc (.cells #[.int .i64 a1_0, .int .i64 a1_1, .string a1_2, .slice A1_3 l1_3.length c1_3, .slice A1_4 l1_4.length c1_4, .slice A1_5 l1_5.length c1_5, .int .i64 a1_6] 28 (0, 0))) (.cells #[.int .i64 1, .int .i64 0, .int .i64 0] 33 (0, 0))))) rfl ?_
    exact ⟨rfl, below_alloc (below_alloc (Below.refl _ _) _) _⟩
  rw [if_neg c2] at h
  have c2b : decide (a0 > 2) = false := decide_eq_false c2
  clear c2
  obtain ⟨c, hc, h⟩ := Option.bind_eq_some_iff.1 h
  have HC := Aside0.mk hc
  have HR3 := Aside0.mk hr1_3
  have HC3 := Aside0.mk hc1_3
  have HR4 := Aside0.mk hr1_4
  have HC4 := Aside0.mk hc1_4
  have HR5 := Aside0.mk hr1_5
  have HC5 := Aside0.mk hc1_5
  have HD : Aside0 (CkN w ⟨a1_0, a1_1, a1_2, ⟨l1_3, l1_4⟩, l1_5, a1_6⟩ A1_3 c1_3 A1_4 c1_4 A1_5 c1_5) := ⟨⟨hr1_3, hc1_3, hr1_4, hc1_4, hr1_5, hc1_5⟩⟩
  have BX := Aside0.mk (blk_alloc (blk_new w (.cells #[.int .i64 a1_0, .int .i64 a1_1, .string a1_2, .slice A1_3 l1_3.length c1_3, .slice A1_4 l1_4.length c1_4, .slice A1_5 l1_5.length c1_5, .int .i64 a1_6] 28 (0, 0))) (.cells #[.int .i64 0, .int .i64 0, .int .i64 0] 33 (0, 0)))
  have BR : Aside0 (((w.alloc (.cells #[.int .i64 a1_0, .int .i64 a1_1, .string a1_2, .slice A1_3 l1_3.length c1_3, .slice A1_4 l1_4.length c1_4, .slice A1_5 l1_5.length c1_5, .int .i64 a1_6] 28 (0, 0))).alloc (.cells #[.int .i64 0, .int .i64 0, .int .i64 0] 33 (0, 0))).heap[w.heap.size + 1]? = some (.cells #[.int .i64 0, .int .i64 0, .int .i64 0] 33 (0, 0))) := ⟨by simpa using blk_new (w.alloc (.cells #[.int .i64 a1_0, .int .i64 a1_1, .string a1_2, .slice A1_3 l1_3.length c1_3, .slice A1_4 l1_4.length c1_4, .slice A1_5 l1_5.length c1_5, .int .i64 a1_6] 28 (0, 0))) (.cells #[.int .i64 0, .int .i64 0, .int .i64 0] 33 (0, 0))⟩
  have GE : Aside0 (w.heap.size ≤ w.heap.size + 1) := ⟨by omega⟩
  clear hc hr1_3 hc1_3 hr1_4 hc1_4 hr1_5 hc1_5
  by_cases c3 : c = 0
  rotate_left 1
  · rw [if_neg c3] at h
    obtain ⟨rfl, rfl, rfl⟩ : 1 = r1 ∧ 0 = r2 ∧ 0 = r3 := by simpa using h
    clear h
    have c3b : (c != 0) = true := by simpa using c3
    clear c3
    go_enter Try.func8, Try.ntmps8
    go_wp2_with (first | (go_at_call 18; (with_reducible refine (core_Check.calls k _ _ _ _ _ l1_3 _ _ l1_4 _ _ l1_5 _ c _ (Kd.C_below HR3.out HB.out) HC3.out (Kd.C_below HR4.out HB.out) HC4.out (Kd.C_below HR5.out HB.out) HC5.out HC.out).mono ?_); rintro e w2 ⟨rfl, q⟩; have HB2 := Aside0.mk (HB.out.trans (q.mono HB.out.size)); have BX := Aside0.mk (blk_below BX.out q); have BR := Aside0.mk (blk_below BR.out q); clear q; have r0 := (blk_cell BR.out 0).trans rfl; have r1_ := (blk_cell BR.out 1).trans rfl; have r2_ := (blk_cell BR.out 2).trans rfl; have f0 := blk_frozen BR.out 0; have f1 := blk_frozen BR.out 1; have f2 := blk_frozen BR.out 2))
    (try simp only [Exit.inBlock, Exit.then]); refine bodyPost_ret (fg_results rfl _ _ _ rfl (fg_load (fg_set3 BR.out _ _ _))) rfl ?_
    exact ⟨rfl, below_set (below_set (below_set HB2.out GE.out) GE.out) GE.out⟩
  · rw [if_pos c3] at h
    have HN := Aside0.mk h
    have c3b : (c != 0) = false := by simpa using c3
    clear c3 h
    go_enter Try.func8, Try.ntmps8
    go_wp2_with (first | (go_at_call 18; (with_reducible refine (core_Check.calls k _ _ _ _ _ l1_3 _ _ l1_4 _ _ l1_5 _ c _ (Kd.C_below HR3.out HB.out) HC3.out (Kd.C_below HR4.out HB.out) HC4.out (Kd.C_below HR5.out HB.out) HC5.out HC.out).mono ?_); rintro e w2 ⟨rfl, q⟩; have HB2 := Aside0.mk (HB.out.trans (q.mono HB.out.size)); have BX := Aside0.mk (blk_below BX.out q); have BR := Aside0.mk (blk_below BR.out q); have BR0 := BR; clear q; have hba := below_alloc (Below.refl w2.heap.size w2) (.cells #[.int .i64 a0, .int .i64 0, .int .i64 0, .int .i64 0] 48 (0, 0)); have BX := Aside0.mk (blk_below BX.out hba); have BR := Aside0.mk (blk_below BR.out hba); have HB3 := Aside0.mk (HB2.out.trans (hba.mono HB2.out.size)); have FI : Aside0 (FgI w (w2.alloc (.cells #[.int .i64 a0, .int .i64 0, .int .i64 0, .int .i64 0] 48 (0, 0))) w2.heap.size a0 (0, 0, 0)) := ⟨⟨blk_new w2 _, HB2.out.size⟩⟩; have GN : Aside0 (w.heap.size + 1 ≠ w2.heap.size) := ⟨by have := (Array.getElem?_eq_some_iff.1 BR0.out).1; omega⟩; clear hba; have z0 := (blk_cell BX.out 0).trans rfl; have z1 := (blk_cell BX.out 1).trans rfl; have z2 := (blk_cell BX.out 2).trans rfl; have z3 := (blk_cell BX.out 3).trans rfl; have z4 := (blk_cell BX.out 4).trans rfl; have z5 := (blk_cell BX.out 5).trans rfl; have z6 := (blk_cell BX.out 6).trans rfl) | (go_at_call 19; (with_reducible refine (fg_upto k _ ⟨a1_0, a1_1, a1_2, ⟨l1_3, l1_4⟩, l1_5, a1_6⟩ (Nat.le_refl _) a0 (0, 0, 0) (r1, r2, r3) HN.out _ _ _ _ _ _ w _ w2.heap.size HD.out HB3.out FI.out).mono ?_); rintro e w5 ⟨rfl, q1, q2, q3⟩; have HB4 := Aside0.mk q2; have BR := Aside0.mk (q3.blk BR.out GN.out (by simp)); have FI := Aside0.mk q1; clear q1 q2 q3 z0 z1 z2 z3 z4 z5 z6; have g0 := (blk_cell FI.out.blk 0).trans rfl; have g1 := (blk_cell FI.out.blk 1).trans rfl; have g2 := (blk_cell FI.out.blk 2).trans rfl; have g3 := (blk_cell FI.out.blk 3).trans rfl; dsimp only at g1 g2 g3; have r0 := (blk_cell BR.out 0).trans rfl; have r1_ := (blk_cell BR.out 1).trans rfl; have r2_ := (blk_cell BR.out 2).trans rfl; have f0 := blk_frozen BR.out 0; have f1 := blk_frozen BR.out 1; have f2 := blk_frozen BR.out 2))
    (try simp only [Exit.inBlock, Exit.then]); refine bodyPost_ret (fg_results rfl _ _ _ rfl (fg_load (fg_set3 BR.out _ _ _))) rfl ?_
    exact ⟨rfl, below_set (below_set (below_set HB4.out GE.out) GE.out) GE.out⟩


/-! ### triglyphref10_One: function 14 -/
def triglyphref10_One.f (a0_0 : Int) (a0_1 : Int) (a0_2 : ByteArray) (l0_3 : List Int) (l0_4 : List (S57)) (l0_5 : List (S28)) (a0_6 : Int) (a1_0 : Int) (a1_1 : Int) (a1_2 : ByteArray) (l1_3 : List Int) (l1_4 : List (S57)) (l1_5 : List (S28)) (a1_6 : Int) : Option (Int × Int × ByteArray × List Int × (List (S57)) × (List (S28)) × Int) := some (5, 0, (⟨#[]⟩ : ByteArray), ([] : List Int), ([] : List (S57)), (([(⟨a0_0, a0_1, a0_2, (⟨l0_3, l0_4⟩ : S25), l0_5, a0_6⟩ : S28), (⟨a1_0, a1_1, a1_2, (⟨l1_3, l1_4⟩ : S25), l1_5, a1_6⟩ : S28)] : List (S28))), 0)
set_option maxHeartbeats 8000000 in
set_option maxRecDepth 100000 in
theorem triglyphref10_One.calls (a0_0 : Int) (a0_1 : Int) (a0_2 : ByteArray) (P0_3_ : Nat → Prop) (A0_3 : Option Addr) (c0_3 : Nat) (l0_3 : List Int) (P0_4_ : Nat → Prop) (A0_4 : Option Addr) (c0_4 : Nat) (l0_4 : List (S57)) (P0_5_ : Nat → Prop) (A0_5 : Option Addr) (c0_5 : Nat) (l0_5 : List (S28)) (a0_6 : Int) (a1_0 : Int) (a1_1 : Int) (a1_2 : ByteArray) (P1_3_ : Nat → Prop) (A1_3 : Option Addr) (c1_3 : Nat) (l1_3 : List Int) (P1_4_ : Nat → Prop) (A1_4 : Option Addr) (c1_4 : Nat) (l1_4 : List (S57)) (P1_5_ : Nat → Prop) (A1_5 : Option Addr) (c1_5 : Nat) (l1_5 : List (S28)) (a1_6 : Int) (r1 : Int) (r2 : Int) (r3 : ByteArray) (r4 : List Int) (r5 : List (S57)) (r6 : List (S28)) (r7 : Int) (w : World) (hs0_3 : Kd.V (Kd.int .i64) 3 w w.heap.size (fun k_ => P0_3_ k_) (.slice A0_3 l0_3.length c0_3) l0_3) (hs0_4 : Kd.V k57 57 w w.heap.size (fun k_ => P0_4_ k_) (.slice A0_4 l0_4.length c0_4) l0_4) (hs0_5 : Kd.V k28 28 w w.heap.size (fun k_ => P0_5_ k_) (.slice A0_5 l0_5.length c0_5) l0_5) (hs1_3 : Kd.V (Kd.int .i64) 3 w w.heap.size (fun k_ => P1_3_ k_) (.slice A1_3 l1_3.length c1_3) l1_3) (hs1_4 : Kd.V k57 57 w w.heap.size (fun k_ => P1_4_ k_) (.slice A1_4 l1_4.length c1_4) l1_4) (hs1_5 : Kd.V k28 28 w w.heap.size (fun k_ => P1_5_ k_) (.slice A1_5 l1_5.length c1_5) l1_5) (h : triglyphref10_One.f a0_0 a0_1 a0_2 l0_3 l0_4 l0_5 a0_6 a1_0 a1_1 a1_2 l1_3 l1_4 l1_5 a1_6 = some (r1, r2, r3, r4, r5, r6, r7)) :
    Calls Try.prog 14 #[.agg #[.int .i64 a0_0, .int .i64 a0_1, .string a0_2, .slice A0_3 l0_3.length c0_3, .slice A0_4 l0_4.length c0_4, .slice A0_5 l0_5.length c0_5, .int .i64 a0_6], .agg #[.int .i64 a1_0, .int .i64 a1_1, .string a1_2, .slice A1_3 l1_3.length c1_3, .slice A1_4 l1_4.length c1_4, .slice A1_5 l1_5.length c1_5, .int .i64 a1_6]] w fun e w' => ∃ v3_ v4_ v5_ : Value, e = .returned (.agg #[.int .i64 r1, .int .i64 r2, .string r3, v3_, v4_, v5_, .int .i64 r7]) ∧ Kd.R (Kd.int .i64) 3 w' w.heap.size (fun k_ => (w.heap.size ≤ k_)) v3_ r4 ∧ Kd.N k57 57 w' w.heap.size (fun k_ => ((P0_3_ k_ ∨ P0_4_ k_ ∨ P0_5_ k_ ∨ P1_3_ k_ ∨ P1_4_ k_ ∨ P1_5_ k_) ∨ w.heap.size ≤ k_) ∧ some k_ ≠ (v3_ : Value).ownBlock ∧ some k_ ≠ (v5_ : Value).ownBlock) v4_ r5 ∧ Kd.N k28 28 w' w.heap.size (fun k_ => ((P0_3_ k_ ∨ P0_4_ k_ ∨ P0_5_ k_ ∨ P1_3_ k_ ∨ P1_4_ k_ ∨ P1_5_ k_) ∨ w.heap.size ≤ k_) ∧ some k_ ≠ (v3_ : Value).ownBlock ∧ some k_ ≠ (v4_ : Value).ownBlock) v5_ r6 ∧ Below w.heap.size w w' := by
  have hu28 := Try.underlying28
  have HO0_3 := Aside0.mk (show Kd.V (Kd.int .i64) 3 w w.heap.size (fun k_ => ((P0_3_ k_ ∨ P0_4_ k_ ∨ P0_5_ k_ ∨ P1_3_ k_ ∨ P1_4_ k_ ∨ P1_5_ k_) ∨ w.heap.size ≤ k_)) (.slice A0_3 l0_3.length c0_3) l0_3 from Kd.V_mono hs0_3 (fun k_ hk => .inl (.inl hk)))
  have HO0_4 := Aside0.mk (show Kd.V k57 57 w w.heap.size (fun k_ => ((P0_3_ k_ ∨ P0_4_ k_ ∨ P0_5_ k_ ∨ P1_3_ k_ ∨ P1_4_ k_ ∨ P1_5_ k_) ∨ w.heap.size ≤ k_)) (.slice A0_4 l0_4.length c0_4) l0_4 from Kd.V_mono hs0_4 (fun k_ hk => .inl (.inr (.inl hk))))
  have HO0_5 := Aside0.mk (show Kd.V k28 28 w w.heap.size (fun k_ => ((P0_3_ k_ ∨ P0_4_ k_ ∨ P0_5_ k_ ∨ P1_3_ k_ ∨ P1_4_ k_ ∨ P1_5_ k_) ∨ w.heap.size ≤ k_)) (.slice A0_5 l0_5.length c0_5) l0_5 from Kd.V_mono hs0_5 (fun k_ hk => .inl (.inr (.inr (.inl hk)))))
  have HO1_3 := Aside0.mk (show Kd.V (Kd.int .i64) 3 w w.heap.size (fun k_ => ((P0_3_ k_ ∨ P0_4_ k_ ∨ P0_5_ k_ ∨ P1_3_ k_ ∨ P1_4_ k_ ∨ P1_5_ k_) ∨ w.heap.size ≤ k_)) (.slice A1_3 l1_3.length c1_3) l1_3 from Kd.V_mono hs1_3 (fun k_ hk => .inl (.inr (.inr (.inr (.inl hk))))))
  have HO1_4 := Aside0.mk (show Kd.V k57 57 w w.heap.size (fun k_ => ((P0_3_ k_ ∨ P0_4_ k_ ∨ P0_5_ k_ ∨ P1_3_ k_ ∨ P1_4_ k_ ∨ P1_5_ k_) ∨ w.heap.size ≤ k_)) (.slice A1_4 l1_4.length c1_4) l1_4 from Kd.V_mono hs1_4 (fun k_ hk => .inl (.inr (.inr (.inr (.inr (.inl hk)))))))
  have HO1_5 := Aside0.mk (show Kd.V k28 28 w w.heap.size (fun k_ => ((P0_3_ k_ ∨ P0_4_ k_ ∨ P0_5_ k_ ∨ P1_3_ k_ ∨ P1_4_ k_ ∨ P1_5_ k_) ∨ w.heap.size ≤ k_)) (.slice A1_5 l1_5.length c1_5) l1_5 from Kd.V_mono hs1_5 (fun k_ hk => .inl (.inr (.inr (.inr (.inr (.inr hk)))))))
  have HB := Aside0.mk (Below.refl w.heap.size w)
  have H : (some (5, 0, (⟨#[]⟩ : ByteArray), ([] : List Int), ([] : List (S57)), (([(⟨a0_0, a0_1, a0_2, (⟨l0_3, l0_4⟩ : S25), l0_5, a0_6⟩ : S28), (⟨a1_0, a1_1, a1_2, (⟨l1_3, l1_4⟩ : S25), l1_5, a1_6⟩ : S28)] : List (S28))), 0)) = some (r1, r2, r3, r4, r5, r6, r7) := h
  clear h
  obtain ⟨y149, hy149⟩ : ∃ y_ : List (S28), y_ = (([(⟨a0_0, a0_1, a0_2, (⟨l0_3, l0_4⟩ : S25), l0_5, a0_6⟩ : S28), (⟨a1_0, a1_1, a1_2, (⟨l1_3, l1_4⟩ : S25), l1_5, a1_6⟩ : S28)] : List (S28))) := ⟨_, rfl⟩
  replace H : (some (5, 0, (⟨#[]⟩ : ByteArray), ([] : List Int), ([] : List (S57)), y149, 0)) = some (r1, r2, r3, r4, r5, r6, r7) := by first | (rw [hy149]; with_reducible exact H) | (have H2_ := (Option.bind_some _ _).symm.trans H; rw [hy149]; with_reducible exact H2_) | (have H2_ := (Option.bind_some _ _).symm.trans H; with_reducible exact H2_) | with_reducible exact H | (rw [hy149]; exact H) | exact H
  have Ny149 := Aside0.mk hy149
  clear hy149
  simp only [Option.some.injEq, Prod.mk.injEq] at H
  obtain ⟨rfl, rfl, rfl, rfl, rfl, rfl, rfl⟩ := H
  go_enter Try.func14, Try.ntmps14
  go_wp2_with (first | ((with_reducible refine gate_dst (N := 2) rfl ?_); refine box_event ?hg (N := 2) ?hd (cs := #[.int .i64 a0_0, .int .i64 a0_1, .string a0_2, .slice A0_3 l0_3.length c0_3, .slice A0_4 l0_4.length c0_4, .slice A0_5 l0_5.length c0_5, .int .i64 a0_6]) (t := 28) ?hr ?_; (case hd => rfl); (case hg => rfl); (case hr => first | (go_simp; done) | (go_simp; rfl)); intro gb146 hg w3 hbox hb; have n0_ := Aside0.mk (Kd.V_below (Kd.V_elderB (by (with_reducible repeat (first | apply Kd.V_alloc | apply Kd.V_drewN | apply Kd.V_drew)); exact HO0_3.out) gb146 (Nat.le_of_eq hg.symm)) hb); have n1_ := Aside0.mk (Kd.V_below (Kd.V_elderB (by (with_reducible repeat (first | apply Kd.V_alloc | apply Kd.V_drewN | apply Kd.V_drew)); exact HO0_4.out) gb146 (Nat.le_of_eq hg.symm)) hb); have n2_ := Aside0.mk (Kd.V_below (Kd.V_elderB (by (with_reducible repeat (first | apply Kd.V_alloc | apply Kd.V_drewN | apply Kd.V_drew)); exact HO0_5.out) gb146 (Nat.le_of_eq hg.symm)) hb); have n3_ := Aside0.mk (Kd.V_below (Kd.V_elderB (by (with_reducible repeat (first | apply Kd.V_alloc | apply Kd.V_drewN | apply Kd.V_drew)); exact HO1_3.out) gb146 (Nat.le_of_eq hg.symm)) hb); have n4_ := Aside0.mk (Kd.V_below (Kd.V_elderB (by (with_reducible repeat (first | apply Kd.V_alloc | apply Kd.V_drewN | apply Kd.V_drew)); exact HO1_4.out) gb146 (Nat.le_of_eq hg.symm)) hb); have n5_ := Aside0.mk (Kd.V_below (Kd.V_elderB (by (with_reducible repeat (first | apply Kd.V_alloc | apply Kd.V_drewN | apply Kd.V_drew)); exact HO1_5.out) gb146 (Nat.le_of_eq hg.symm)) hb); have n6_ := Aside0.mk (below_step (by repeat (first | (with_reducible first | exact HB.out | apply below_alloc | apply pw_below_drewN | apply below_drew1) | exact HB.out)) hb); have n7_ := Aside0.mk (hbox); have n8_ := Aside0.mk ((by rw [hg]; exact (below_size (by repeat (first | (with_reducible first | exact HB.out | apply below_alloc | apply pw_below_drewN | apply below_drew1) | exact HB.out))) : w.heap.size ≤ gb146)); have n9_ := Aside0.mk ((by rw [hg]; exact (below_size (by repeat (first | (with_reducible first | exact HB.out | apply below_alloc | apply pw_below_drewN | apply below_drew1) | exact HB.out))) : w.heap.size ≤ gb146)); clear HO0_3; clear HO0_4; clear HO0_5; clear HO1_3; clear HO1_4; clear HO1_5; clear HB; have HO0_3 := n0_; have HO0_4 := n1_; have HO0_5 := n2_; have HO1_3 := n3_; have HO1_4 := n4_; have HO1_5 := n5_; have HB := n6_; have BK146 := n7_; have GW146 := n8_; have GE146 := n9_; clear n0_ n1_ n2_ n3_ n4_ n5_ n6_ n7_ n8_ n9_; clear hb hbox hg) | ((with_reducible refine gate_dst (N := 3) rfl ?_); refine box_event ?hg (N := 3) ?hd (cs := #[.int .i64 a1_0, .int .i64 a1_1, .string a1_2, .slice A1_3 l1_3.length c1_3, .slice A1_4 l1_4.length c1_4, .slice A1_5 l1_5.length c1_5, .int .i64 a1_6]) (t := 28) ?hr ?_; (case hd => rfl); (case hg => rfl); (case hr => first | (go_simp; done) | (go_simp; rfl)); intro gb147 hg w4 hbox hb; have n0_ := Aside0.mk (Kd.V_below (Kd.V_elderB (by (with_reducible repeat (first | apply Kd.V_alloc | apply Kd.V_drewN | apply Kd.V_drew)); exact HO0_3.out) gb147 (Nat.le_of_eq hg.symm)) hb); have n1_ := Aside0.mk (Kd.V_below (Kd.V_elderB (by (with_reducible repeat (first | apply Kd.V_alloc | apply Kd.V_drewN | apply Kd.V_drew)); exact HO0_4.out) gb147 (Nat.le_of_eq hg.symm)) hb); have n2_ := Aside0.mk (Kd.V_below (Kd.V_elderB (by (with_reducible repeat (first | apply Kd.V_alloc | apply Kd.V_drewN | apply Kd.V_drew)); exact HO0_5.out) gb147 (Nat.le_of_eq hg.symm)) hb); have n3_ := Aside0.mk (Kd.V_below (Kd.V_elderB (by (with_reducible repeat (first | apply Kd.V_alloc | apply Kd.V_drewN | apply Kd.V_drew)); exact HO1_3.out) gb147 (Nat.le_of_eq hg.symm)) hb); have n4_ := Aside0.mk (Kd.V_below (Kd.V_elderB (by (with_reducible repeat (first | apply Kd.V_alloc | apply Kd.V_drewN | apply Kd.V_drew)); exact HO1_4.out) gb147 (Nat.le_of_eq hg.symm)) hb); have n5_ := Aside0.mk (Kd.V_below (Kd.V_elderB (by (with_reducible repeat (first | apply Kd.V_alloc | apply Kd.V_drewN | apply Kd.V_drew)); exact HO1_5.out) gb147 (Nat.le_of_eq hg.symm)) hb); have n6_ := Aside0.mk (blk_below (g := gb146) (o := .cells #[.int .i64 a0_0, .int .i64 a0_1, .string a0_2, .slice A0_3 l0_3.length c0_3, .slice A0_4 l0_4.length c0_4, .slice A0_5 l0_5.length c0_5, .int .i64 a0_6] 28 (0, 0)) (by (with_reducible repeat (first | refine blk_drewN ?_ _ | refine blk_drew ?_ | refine blk_alloc ?_ _)); exact BK146.out) hb); have n7_ := Aside0.mk (below_step (by repeat (first | (with_reducible first | exact HB.out | apply below_alloc | apply pw_below_drewN | apply below_drew1 | refine below_set ?_ GE146.out) | exact HB.out)) hb); have n8_ := Aside0.mk (hbox); have n9_ := Aside0.mk ((by rw [hg]; exact (below_size (by repeat (first | (with_reducible first | exact HB.out | apply below_alloc | apply pw_below_drewN | apply below_drew1 | refine below_set ?_ GE146.out) | exact HB.out))) : w.heap.size ≤ gb147)); have n10_ := Aside0.mk ((by rw [hg]; exact (below_size (by repeat (first | (with_reducible first | exact HB.out | apply below_alloc | apply pw_below_drewN | apply below_drew1 | refine below_set ?_ GE146.out) | exact HB.out))) : w.heap.size ≤ gb147)); have n11_ := Aside0.mk ((by rw [hg]; exact Nat.ne_of_lt (blk_lt (g := gb146) (o := .cells #[.int .i64 a0_0, .int .i64 a0_1, .string a0_2, .slice A0_3 l0_3.length c0_3, .slice A0_4 l0_4.length c0_4, .slice A0_5 l0_5.length c0_5, .int .i64 a0_6] 28 (0, 0)) (by (with_reducible repeat (first | refine blk_drewN ?_ _ | refine blk_drew ?_ | refine blk_alloc ?_ _)); exact BK146.out)) : gb146 ≠ gb147)); have n12_ := Aside0.mk ((by rw [hg]; exact Nat.ne_of_gt (blk_lt (g := gb146) (o := .cells #[.int .i64 a0_0, .int .i64 a0_1, .string a0_2, .slice A0_3 l0_3.length c0_3, .slice A0_4 l0_4.length c0_4, .slice A0_5 l0_5.length c0_5, .int .i64 a0_6] 28 (0, 0)) (by (with_reducible repeat (first | refine blk_drewN ?_ _ | refine blk_drew ?_ | refine blk_alloc ?_ _)); exact BK146.out)) : gb147 ≠ gb146)); clear HO0_3; clear HO0_4; clear HO0_5; clear HO1_3; clear HO1_4; clear HO1_5; clear BK146; clear HB; have HO0_3 := n0_; have HO0_4 := n1_; have HO0_5 := n2_; have HO1_3 := n3_; have HO1_4 := n4_; have HO1_5 := n5_; have BK146 := n6_; have HB := n7_; have BK147 := n8_; have GW147 := n9_; have GE147 := n10_; have NB146_147 := n11_; have NB147_146 := n12_; clear n0_ n1_ n2_ n3_ n4_ n5_ n6_ n7_ n8_ n9_ n10_ n11_ n12_; clear hb hbox hg) | ((with_reducible refine gate_dst (N := 4) rfl ?_); refine box_event ?hg (N := 4) ?hd (cs := #[.int .i64 0, .int .i64 0, .string (⟨#[]⟩ : ByteArray), .slice none 0 0, .slice none 0 0, .slice none 0 0, .int .i64 0]) (t := 28) ?hr ?_; (case hd => rfl); (case hg => rfl); (case hr => first | (go_simp; done) | (go_simp; rfl)); intro gb148 hg w5 hbox hb; have n0_ := Aside0.mk (Kd.V_below (Kd.V_elderB (by (with_reducible repeat (first | apply Kd.V_alloc | apply Kd.V_drewN | apply Kd.V_drew)); exact HO0_3.out) gb148 (Nat.le_of_eq hg.symm)) hb); have n1_ := Aside0.mk (Kd.V_below (Kd.V_elderB (by (with_reducible repeat (first | apply Kd.V_alloc | apply Kd.V_drewN | apply Kd.V_drew)); exact HO0_4.out) gb148 (Nat.le_of_eq hg.symm)) hb); have n2_ := Aside0.mk (Kd.V_below (Kd.V_elderB (by (with_reducible repeat (first | apply Kd.V_alloc | apply Kd.V_drewN | apply Kd.V_drew)); exact HO0_5.out) gb148 (Nat.le_of_eq hg.symm)) hb); have n3_ := Aside0.mk (Kd.V_below (Kd.V_elderB (by (with_reducible repeat (first | apply Kd.V_alloc | apply Kd.V_drewN | apply Kd.V_drew)); exact HO1_3.out) gb148 (Nat.le_of_eq hg.symm)) hb); have n4_ := Aside0.mk (Kd.V_below (Kd.V_elderB (by (with_reducible repeat (first | apply Kd.V_alloc | apply Kd.V_drewN | apply Kd.V_drew)); exact HO1_4.out) gb148 (Nat.le_of_eq hg.symm)) hb); have n5_ := Aside0.mk (Kd.V_below (Kd.V_elderB (by (with_reducible repeat (first | apply Kd.V_alloc | apply Kd.V_drewN | apply Kd.V_drew)); exact HO1_5.out) gb148 (Nat.le_of_eq hg.symm)) hb); have n6_ := Aside0.mk (blk_below (g := gb146) (o := .cells #[.int .i64 a0_0, .int .i64 a0_1, .string a0_2, .slice A0_3 l0_3.length c0_3, .slice A0_4 l0_4.length c0_4, .slice A0_5 l0_5.length c0_5, .int .i64 a0_6] 28 (0, 0)) (by (with_reducible repeat (first | refine blk_drewN ?_ _ | refine blk_drew ?_ | refine blk_alloc ?_ _)); exact BK146.out) hb); have n7_ := Aside0.mk (blk_below (g := gb147) (o := .cells #[.int .i64 a1_0, .int .i64 a1_1, .string a1_2, .slice A1_3 l1_3.length c1_3, .slice A1_4 l1_4.length c1_4, .slice A1_5 l1_5.length c1_5, .int .i64 a1_6] 28 (0, 0)) (by (with_reducible repeat (first | refine blk_drewN ?_ _ | refine blk_drew ?_ | refine blk_alloc ?_ _)); exact BK147.out) hb); have n8_ := Aside0.mk (below_step (by repeat (first | (with_reducible first | exact HB.out | apply below_alloc | apply pw_below_drewN | apply below_drew1 | refine below_set ?_ GE146.out | refine below_set ?_ GE147.out) | exact HB.out)) hb); have n9_ := Aside0.mk (hbox); have n10_ := Aside0.mk ((by rw [hg]; exact (below_size (by repeat (first | (with_reducible first | exact HB.out | apply below_alloc | apply pw_below_drewN | apply below_drew1 | refine below_set ?_ GE146.out | refine below_set ?_ GE147.out) | exact HB.out))) : w.heap.size ≤ gb148)); have n11_ := Aside0.mk ((by rw [hg]; exact (below_size (by repeat (first | (with_reducible first | exact HB.out | apply below_alloc | apply pw_below_drewN | apply below_drew1 | refine below_set ?_ GE146.out | refine below_set ?_ GE147.out) | exact HB.out))) : w.heap.size ≤ gb148)); have n12_ := Aside0.mk ((by rw [hg]; exact Nat.ne_of_lt (blk_lt (g := gb146) (o := .cells #[.int .i64 a0_0, .int .i64 a0_1, .string a0_2, .slice A0_3 l0_3.length c0_3, .slice A0_4 l0_4.length c0_4, .slice A0_5 l0_5.length c0_5, .int .i64 a0_6] 28 (0, 0)) (by (with_reducible repeat (first | refine blk_drewN ?_ _ | refine blk_drew ?_ | refine blk_alloc ?_ _)); exact BK146.out)) : gb146 ≠ gb148)); have n13_ := Aside0.mk ((by rw [hg]; exact Nat.ne_of_gt (blk_lt (g := gb146) (o := .cells #[.int .i64 a0_0, .int .i64 a0_1, .string a0_2, .slice A0_3 l0_3.length c0_3, .slice A0_4 l0_4.length c0_4, .slice A0_5 l0_5.length c0_5, .int .i64 a0_6] 28 (0, 0)) (by (with_reducible repeat (first | refine blk_drewN ?_ _ | refine blk_drew ?_ | refine blk_alloc ?_ _)); exact BK146.out)) : gb148 ≠ gb146)); have n14_ := Aside0.mk ((by rw [hg]; exact Nat.ne_of_lt (blk_lt (g := gb147) (o := .cells #[.int .i64 a1_0, .int .i64 a1_1, .string a1_2, .slice A1_3 l1_3.length c1_3, .slice A1_4 l1_4.length c1_4, .slice A1_5 l1_5.length c1_5, .int .i64 a1_6] 28 (0, 0)) (by (with_reducible repeat (first | refine blk_drewN ?_ _ | refine blk_drew ?_ | refine blk_alloc ?_ _)); exact BK147.out)) : gb147 ≠ gb148)); have n15_ := Aside0.mk ((by rw [hg]; exact Nat.ne_of_gt (blk_lt (g := gb147) (o := .cells #[.int .i64 a1_0, .int .i64 a1_1, .string a1_2, .slice A1_3 l1_3.length c1_3, .slice A1_4 l1_4.length c1_4, .slice A1_5 l1_5.length c1_5, .int .i64 a1_6] 28 (0, 0)) (by (with_reducible repeat (first | refine blk_drewN ?_ _ | refine blk_drew ?_ | refine blk_alloc ?_ _)); exact BK147.out)) : gb148 ≠ gb147)); clear HO0_3; clear HO0_4; clear HO0_5; clear HO1_3; clear HO1_4; clear HO1_5; clear BK146; clear BK147; clear HB; have HO0_3 := n0_; have HO0_4 := n1_; have HO0_5 := n2_; have HO1_3 := n3_; have HO1_4 := n4_; have HO1_5 := n5_; have BK146 := n6_; have BK147 := n7_; have HB := n8_; have BK148 := n9_; have GW148 := n10_; have GE148 := n11_; have NB146_148 := n12_; have NB148_146 := n13_; have NB147_148 := n14_; have NB148_147 := n15_; clear n0_ n1_ n2_ n3_ n4_ n5_ n6_ n7_ n8_ n9_ n10_ n11_ n12_ n13_ n14_ n15_; clear hb hbox hg; have hnb6 := NB146_147.out; have hnc6 := NB147_146.out; have hnb7 := NB146_148.out; have hnc7 := NB148_146.out; have hcz8_0 : w5.cell? ⟨gb146, 0, none⟩ = some (.int .i64 a0_0) := (blk_cell BK146.out 0).trans rfl; have hcz8_1 : w5.cell? ⟨gb146, 1, none⟩ = some (.int .i64 a0_1) := (blk_cell BK146.out 1).trans rfl; have hcz8_2 : w5.cell? ⟨gb146, 2, none⟩ = some (.string a0_2) := (blk_cell BK146.out 2).trans rfl; have hcz8_3 : w5.cell? ⟨gb146, 3, none⟩ = some (.slice A0_3 l0_3.length c0_3) := (blk_cell BK146.out 3).trans rfl; have hcz8_4 : w5.cell? ⟨gb146, 4, none⟩ = some (.slice A0_4 l0_4.length c0_4) := (blk_cell BK146.out 4).trans rfl; have hcz8_5 : w5.cell? ⟨gb146, 5, none⟩ = some (.slice A0_5 l0_5.length c0_5) := (blk_cell BK146.out 5).trans rfl; have hcz8_6 : w5.cell? ⟨gb146, 6, none⟩ = some (.int .i64 a0_6) := (blk_cell BK146.out 6).trans rfl; have hfz8_0 := blk_frozen BK146.out 0; have hfz8_1 := blk_frozen BK146.out 1; have hfz8_2 := blk_frozen BK146.out 2; have hfz8_3 := blk_frozen BK146.out 3; have hfz8_4 := blk_frozen BK146.out 4; have hfz8_5 := blk_frozen BK146.out 5; have hfz8_6 := blk_frozen BK146.out 6; have hnb9 := NB147_148.out; have hnc9 := NB148_147.out; have hcz10_0 : w5.cell? ⟨gb147, 0, none⟩ = some (.int .i64 a1_0) := (blk_cell BK147.out 0).trans rfl; have hcz10_1 : w5.cell? ⟨gb147, 1, none⟩ = some (.int .i64 a1_1) := (blk_cell BK147.out 1).trans rfl; have hcz10_2 : w5.cell? ⟨gb147, 2, none⟩ = some (.string a1_2) := (blk_cell BK147.out 2).trans rfl; have hcz10_3 : w5.cell? ⟨gb147, 3, none⟩ = some (.slice A1_3 l1_3.length c1_3) := (blk_cell BK147.out 3).trans rfl; have hcz10_4 : w5.cell? ⟨gb147, 4, none⟩ = some (.slice A1_4 l1_4.length c1_4) := (blk_cell BK147.out 4).trans rfl; have hcz10_5 : w5.cell? ⟨gb147, 5, none⟩ = some (.slice A1_5 l1_5.length c1_5) := (blk_cell BK147.out 5).trans rfl; have hcz10_6 : w5.cell? ⟨gb147, 6, none⟩ = some (.int .i64 a1_6) := (blk_cell BK147.out 6).trans rfl; have hfz10_0 := blk_frozen BK147.out 0; have hfz10_1 := blk_frozen BK147.out 1; have hfz10_2 := blk_frozen BK147.out 2; have hfz10_3 := blk_frozen BK147.out 3; have hfz10_4 := blk_frozen BK147.out 4; have hfz10_5 := blk_frozen BK147.out 5; have hfz10_6 := blk_frozen BK147.out 6) | ((with_reducible refine gate_dst (N := 7) rfl ?_); refine Kd.N_lit k28 _ 28 ?hg (N' := 7) ?hd (xs := ([(⟨a0_0, a0_1, a0_2, (⟨l0_3, l0_4⟩ : S25), l0_5, a0_6⟩ : S28), (⟨a1_0, a1_1, a1_2, (⟨l1_3, l1_4⟩ : S25), l1_5, a1_6⟩ : S28)] : List (S28))) (inner := [.int .i64 a0_0, .int .i64 a0_1, .string a0_2, .slice A0_3 l0_3.length c0_3, .slice A0_4 l0_4.length c0_4, .slice A0_5 l0_5.length c0_5, .int .i64 a0_6, .int .i64 a1_0, .int .i64 a1_1, .string a1_2, .slice A1_3 l1_3.length c1_3, .slice A1_4 l1_4.length c1_4, .slice A1_5 l1_5.length c1_5, .int .i64 a1_6]) (ok := (fun k_ => ((P0_3_ k_ ∨ P0_4_ k_ ∨ P0_5_ k_ ∨ P1_3_ k_ ∨ P1_4_ k_ ∨ P1_5_ k_) ∨ w.heap.size ≤ k_) ∧ k_ ≠ gb146 ∧ k_ ≠ gb147 ∧ k_ ≠ gb148)) (okp := (fun k_ => ((P0_3_ k_ ∨ P0_4_ k_ ∨ P0_5_ k_ ∨ P1_3_ k_ ∨ P1_4_ k_ ∨ P1_5_ k_) ∨ w.heap.size ≤ k_) ∧ k_ ≠ gb146 ∧ k_ ≠ gb147 ∧ k_ ≠ gb148)) ?hr ?hp (fun _ hk => hk) ((show ∀ k_, w5.heap.size ≤ k_ → (fun k_ => ((P0_3_ k_ ∨ P0_4_ k_ ∨ P0_5_ k_ ∨ P1_3_ k_ ∨ P1_4_ k_ ∨ P1_5_ k_) ∨ w.heap.size ≤ k_) ∧ k_ ≠ gb146 ∧ k_ ≠ gb147 ∧ k_ ≠ gb148) k_ from fun k_ hk => ⟨(.inr (Nat.le_trans (below_size (by repeat (first | (with_reducible first | exact HB.out | apply below_alloc | apply pw_below_drewN | apply below_drew1 | refine below_set ?_ GE146.out | refine below_set ?_ GE147.out | refine below_set ?_ GE148.out) | exact HB.out))) hk)), Kd.freshB (g := gb146) (o := .cells #[.int .i64 a0_0, .int .i64 a0_1, .string a0_2, .slice A0_3 l0_3.length c0_3, .slice A0_4 l0_4.length c0_4, .slice A0_5 l0_5.length c0_5, .int .i64 a0_6] 28 (0, 0)) (by (with_reducible repeat (first | refine blk_drewN ?_ _ | refine blk_drew ?_ | refine blk_alloc ?_ _)); exact BK146.out) k_ hk, Kd.freshB (g := gb147) (o := .cells #[.int .i64 a1_0, .int .i64 a1_1, .string a1_2, .slice A1_3 l1_3.length c1_3, .slice A1_4 l1_4.length c1_4, .slice A1_5 l1_5.length c1_5, .int .i64 a1_6] 28 (0, 0)) (by (with_reducible repeat (first | refine blk_drewN ?_ _ | refine blk_drew ?_ | refine blk_alloc ?_ _)); exact BK147.out) k_ hk, Kd.freshB (g := gb148) (o := .cells #[.int .i64 0, .int .i64 0, .string (⟨#[]⟩ : ByteArray), .slice none 0 0, .slice none 0 0, .slice none 0 0, .int .i64 0] 28 (0, 0)) (by (with_reducible repeat (first | refine blk_drewN ?_ _ | refine blk_drew ?_ | refine blk_alloc ?_ _)); exact BK148.out) k_ hk⟩) _ (Nat.le_refl _)) (Below.refl _ _) (Nat.le_refl _) (by simp) ?_; (case hd => rfl); (case hg => rfl); (case hr => first | (go_simp; done) | (go_simp; rfl)); (case hp => exact (Reps.c7 (show Kd.FK k28 _ _ (⟨a0_0, a0_1, a0_2, (⟨l0_3, l0_4⟩ : S25), l0_5, a0_6⟩ : S28) [.int .i64 a0_0, .int .i64 a0_1, .string a0_2, .slice A0_3 l0_3.length c0_3, .slice A0_4 l0_4.length c0_4, .slice A0_5 l0_5.length c0_5, .int .i64 a0_6] from (k28_mkF _ _ (⟨a0_0, a0_1, a0_2, (⟨l0_3, l0_4⟩ : S25), l0_5, a0_6⟩ : S28) (Kd.V_reads' (Kd.V_mono (ok' := (fun k_ => ((P0_3_ k_ ∨ P0_4_ k_ ∨ P0_5_ k_ ∨ P1_3_ k_ ∨ P1_4_ k_ ∨ P1_5_ k_) ∨ w.heap.size ≤ k_) ∧ k_ ≠ gb146 ∧ k_ ≠ gb147 ∧ k_ ≠ gb148)) (HO0_3.out) (fun k_ hk => ⟨hk.1.1.1, ⟨hk.1.1.2, ⟨hk.1.2, hk.2⟩⟩⟩))).2.1 (Kd.V_F (Kd.V_mono (ok' := (fun k_ => ((P0_3_ k_ ∨ P0_4_ k_ ∨ P0_5_ k_ ∨ P1_3_ k_ ∨ P1_4_ k_ ∨ P1_5_ k_) ∨ w.heap.size ≤ k_) ∧ k_ ≠ gb146 ∧ k_ ≠ gb147 ∧ k_ ≠ gb148)) (HO0_3.out) (fun k_ hk => ⟨hk.1.1.1, ⟨hk.1.1.2, ⟨hk.1.2, hk.2⟩⟩⟩))) (Kd.V_reads' (Kd.V_mono (ok' := (fun k_ => ((P0_3_ k_ ∨ P0_4_ k_ ∨ P0_5_ k_ ∨ P1_3_ k_ ∨ P1_4_ k_ ∨ P1_5_ k_) ∨ w.heap.size ≤ k_) ∧ k_ ≠ gb146 ∧ k_ ≠ gb147 ∧ k_ ≠ gb148)) (HO0_4.out) (fun k_ hk => ⟨hk.1.1.1, ⟨hk.1.1.2, ⟨hk.1.2, hk.2⟩⟩⟩))).2.1 (Kd.V_F (Kd.V_mono (ok' := (fun k_ => ((P0_3_ k_ ∨ P0_4_ k_ ∨ P0_5_ k_ ∨ P1_3_ k_ ∨ P1_4_ k_ ∨ P1_5_ k_) ∨ w.heap.size ≤ k_) ∧ k_ ≠ gb146 ∧ k_ ≠ gb147 ∧ k_ ≠ gb148)) (HO0_4.out) (fun k_ hk => ⟨hk.1.1.1, ⟨hk.1.1.2, ⟨hk.1.2, hk.2⟩⟩⟩))) (Kd.V_reads' (Kd.V_mono (ok' := (fun k_ => ((P0_3_ k_ ∨ P0_4_ k_ ∨ P0_5_ k_ ∨ P1_3_ k_ ∨ P1_4_ k_ ∨ P1_5_ k_) ∨ w.heap.size ≤ k_) ∧ k_ ≠ gb146 ∧ k_ ≠ gb147 ∧ k_ ≠ gb148)) (HO0_5.out) (fun k_ hk => ⟨hk.1.1.1, ⟨hk.1.1.2, ⟨hk.1.2, hk.2⟩⟩⟩))).2.1 (Kd.V_F (Kd.V_mono (ok' := (fun k_ => ((P0_3_ k_ ∨ P0_4_ k_ ∨ P0_5_ k_ ∨ P1_3_ k_ ∨ P1_4_ k_ ∨ P1_5_ k_) ∨ w.heap.size ≤ k_) ∧ k_ ≠ gb146 ∧ k_ ≠ gb147 ∧ k_ ≠ gb148)) (HO0_5.out) (fun k_ hk => ⟨hk.1.1.1, ⟨hk.1.1.2, ⟨hk.1.2, hk.2⟩⟩⟩))))) (Reps.c7 (show Kd.FK k28 _ _ (⟨a1_0, a1_1, a1_2, (⟨l1_3, l1_4⟩ : S25), l1_5, a1_6⟩ : S28) [.int .i64 a1_0, .int .i64 a1_1, .string a1_2, .slice A1_3 l1_3.length c1_3, .slice A1_4 l1_4.length c1_4, .slice A1_5 l1_5.length c1_5, .int .i64 a1_6] from (k28_mkF _ _ (⟨a1_0, a1_1, a1_2, (⟨l1_3, l1_4⟩ : S25), l1_5, a1_6⟩ : S28) (Kd.V_reads' (Kd.V_mono (ok' := (fun k_ => ((P0_3_ k_ ∨ P0_4_ k_ ∨ P0_5_ k_ ∨ P1_3_ k_ ∨ P1_4_ k_ ∨ P1_5_ k_) ∨ w.heap.size ≤ k_) ∧ k_ ≠ gb146 ∧ k_ ≠ gb147 ∧ k_ ≠ gb148)) (HO1_3.out) (fun k_ hk => ⟨hk.1.1.1, ⟨hk.1.1.2, ⟨hk.1.2, hk.2⟩⟩⟩))).2.1 (Kd.V_F (Kd.V_mono (ok' := (fun k_ => ((P0_3_ k_ ∨ P0_4_ k_ ∨ P0_5_ k_ ∨ P1_3_ k_ ∨ P1_4_ k_ ∨ P1_5_ k_) ∨ w.heap.size ≤ k_) ∧ k_ ≠ gb146 ∧ k_ ≠ gb147 ∧ k_ ≠ gb148)) (HO1_3.out) (fun k_ hk => ⟨hk.1.1.1, ⟨hk.1.1.2, ⟨hk.1.2, hk.2⟩⟩⟩))) (Kd.V_reads' (Kd.V_mono (ok' := (fun k_ => ((P0_3_ k_ ∨ P0_4_ k_ ∨ P0_5_ k_ ∨ P1_3_ k_ ∨ P1_4_ k_ ∨ P1_5_ k_) ∨ w.heap.size ≤ k_) ∧ k_ ≠ gb146 ∧ k_ ≠ gb147 ∧ k_ ≠ gb148)) (HO1_4.out) (fun k_ hk => ⟨hk.1.1.1, ⟨hk.1.1.2, ⟨hk.1.2, hk.2⟩⟩⟩))).2.1 (Kd.V_F (Kd.V_mono (ok' := (fun k_ => ((P0_3_ k_ ∨ P0_4_ k_ ∨ P0_5_ k_ ∨ P1_3_ k_ ∨ P1_4_ k_ ∨ P1_5_ k_) ∨ w.heap.size ≤ k_) ∧ k_ ≠ gb146 ∧ k_ ≠ gb147 ∧ k_ ≠ gb148)) (HO1_4.out) (fun k_ hk => ⟨hk.1.1.1, ⟨hk.1.1.2, ⟨hk.1.2, hk.2⟩⟩⟩))) (Kd.V_reads' (Kd.V_mono (ok' := (fun k_ => ((P0_3_ k_ ∨ P0_4_ k_ ∨ P0_5_ k_ ∨ P1_3_ k_ ∨ P1_4_ k_ ∨ P1_5_ k_) ∨ w.heap.size ≤ k_) ∧ k_ ≠ gb146 ∧ k_ ≠ gb147 ∧ k_ ≠ gb148)) (HO1_5.out) (fun k_ hk => ⟨hk.1.1.1, ⟨hk.1.1.2, ⟨hk.1.2, hk.2⟩⟩⟩))).2.1 (Kd.V_F (Kd.V_mono (ok' := (fun k_ => ((P0_3_ k_ ∨ P0_4_ k_ ∨ P0_5_ k_ ∨ P1_3_ k_ ∨ P1_4_ k_ ∨ P1_5_ k_) ∨ w.heap.size ≤ k_) ∧ k_ ≠ gb146 ∧ k_ ≠ gb147 ∧ k_ ≠ gb148)) (HO1_5.out) (fun k_ hk => ⟨hk.1.1.1, ⟨hk.1.1.2, ⟨hk.1.2, hk.2⟩⟩⟩))))) (Reps.none _ _)))); intro v150 w11 ho12 hb hg_ hnew_; clear hg_ hnew_; (first | rw [← Ny149.out] at ho12 | (simp only [Int.reduceToNat] at ho12; rw [← Ny149.out] at ho12)); have n0_ := Aside0.mk (Kd.V_elder' (by (with_reducible repeat (first | apply Kd.V_alloc | apply Kd.V_drewN | apply Kd.V_drew)); exact HO0_3.out) (Kd.N_base ho12) hb); have n1_ := Aside0.mk (Kd.V_elder' (by (with_reducible repeat (first | apply Kd.V_alloc | apply Kd.V_drewN | apply Kd.V_drew)); exact HO0_4.out) (Kd.N_base ho12) hb); have n2_ := Aside0.mk (Kd.V_elder' (by (with_reducible repeat (first | apply Kd.V_alloc | apply Kd.V_drewN | apply Kd.V_drew)); exact HO0_5.out) (Kd.N_base ho12) hb); have n3_ := Aside0.mk (Kd.V_elder' (by (with_reducible repeat (first | apply Kd.V_alloc | apply Kd.V_drewN | apply Kd.V_drew)); exact HO1_3.out) (Kd.N_base ho12) hb); have n4_ := Aside0.mk (Kd.V_elder' (by (with_reducible repeat (first | apply Kd.V_alloc | apply Kd.V_drewN | apply Kd.V_drew)); exact HO1_4.out) (Kd.N_base ho12) hb); have n5_ := Aside0.mk (Kd.V_elder' (by (with_reducible repeat (first | apply Kd.V_alloc | apply Kd.V_drewN | apply Kd.V_drew)); exact HO1_5.out) (Kd.N_base ho12) hb); have n6_ := Aside0.mk (Kd.N_lower ho12 (below_size (by repeat (first | (with_reducible first | exact HB.out | apply below_alloc | apply pw_below_drewN | apply below_drew1 | refine below_set ?_ GE146.out | refine below_set ?_ GE147.out | refine below_set ?_ GE148.out) | exact HB.out)))); have n7_ := Aside0.mk (blk_below (g := gb146) (o := .cells #[.int .i64 a0_0, .int .i64 a0_1, .string a0_2, .slice A0_3 l0_3.length c0_3, .slice A0_4 l0_4.length c0_4, .slice A0_5 l0_5.length c0_5, .int .i64 a0_6] 28 (0, 0)) (by (with_reducible repeat (first | refine blk_drewN ?_ _ | refine blk_drew ?_ | refine blk_alloc ?_ _)); exact BK146.out) hb); have n8_ := Aside0.mk (blk_below (g := gb147) (o := .cells #[.int .i64 a1_0, .int .i64 a1_1, .string a1_2, .slice A1_3 l1_3.length c1_3, .slice A1_4 l1_4.length c1_4, .slice A1_5 l1_5.length c1_5, .int .i64 a1_6] 28 (0, 0)) (by (with_reducible repeat (first | refine blk_drewN ?_ _ | refine blk_drew ?_ | refine blk_alloc ?_ _)); exact BK147.out) hb); have n9_ := Aside0.mk (blk_below (g := gb148) (o := .cells #[.int .i64 0, .int .i64 0, .string (⟨#[]⟩ : ByteArray), .slice none 0 0, .slice none 0 0, .slice none 0 0, .int .i64 0] 28 (0, 0)) (by (with_reducible repeat (first | refine blk_drewN ?_ _ | refine blk_drew ?_ | refine blk_alloc ?_ _)); exact BK148.out) hb); have n10_ := Aside0.mk (below_step (by repeat (first | (with_reducible first | exact HB.out | apply below_alloc | apply pw_below_drewN | apply below_drew1 | refine below_set ?_ GE146.out | refine below_set ?_ GE147.out | refine below_set ?_ GE148.out) | exact HB.out)) hb); clear HO0_3; clear HO0_4; clear HO0_5; clear HO1_3; clear HO1_4; clear HO1_5; clear BK146; clear BK147; clear BK148; clear HB; have HO0_3 := n0_; have HO0_4 := n1_; have HO0_5 := n2_; have HO1_3 := n3_; have HO1_4 := n4_; have HO1_5 := n5_; have HO151 := n6_; have BK146 := n7_; have BK147 := n8_; have BK148 := n9_; have HB := n10_; clear n0_ n1_ n2_ n3_ n4_ n5_ n6_ n7_ n8_ n9_ n10_; clear hb ho12; obtain ⟨Ao13, co13, eo13⟩ := Kd.N_slice HO151.out; subst eo13; have hcz14_0 : w11.cell? ⟨gb148, 0, none⟩ = some (.int .i64 0) := (blk_cell BK148.out 0).trans rfl; have hcz14_1 : w11.cell? ⟨gb148, 1, none⟩ = some (.int .i64 0) := (blk_cell BK148.out 1).trans rfl; have hcz14_2 : w11.cell? ⟨gb148, 2, none⟩ = some (.string (⟨#[]⟩ : ByteArray)) := (blk_cell BK148.out 2).trans rfl; have hcz14_3 : w11.cell? ⟨gb148, 3, none⟩ = some (.slice none 0 0) := (blk_cell BK148.out 3).trans rfl; have hcz14_4 : w11.cell? ⟨gb148, 4, none⟩ = some (.slice none 0 0) := (blk_cell BK148.out 4).trans rfl; have hcz14_5 : w11.cell? ⟨gb148, 5, none⟩ = some (.slice none 0 0) := (blk_cell BK148.out 5).trans rfl; have hcz14_6 : w11.cell? ⟨gb148, 6, none⟩ = some (.int .i64 0) := (blk_cell BK148.out 6).trans rfl; have hfz14_0 := blk_frozen BK148.out 0; have hfz14_1 := blk_frozen BK148.out 1; have hfz14_2 := blk_frozen BK148.out 2; have hfz14_3 := blk_frozen BK148.out 3; have hfz14_4 := blk_frozen BK148.out 4; have hfz14_5 := blk_frozen BK148.out 5; have hfz14_6 := blk_frozen BK148.out 6))
  refine bodyPost_ret (results_cell_row rfl _ _ gb148 28 #[.int .i64 5, .int .i64 0, .string (⟨#[]⟩ : ByteArray), .slice none 0 0, .slice none 0 0, .slice Ao13 y149.length co13, .int .i64 0] (0, 0) _ rfl (by (with_reducible repeat (first | refine blk_drewN ?_ _ | refine blk_drew ?_ | refine blk_alloc ?_ _)); refine blk_put (cs := #[.int .i64 5, .int .i64 0, .string (⟨#[]⟩ : ByteArray), .slice none 0 0, .slice none 0 0, .slice Ao13 y149.length co13, .int .i64 0]) ?_ 6 _ rfl; (with_reducible repeat (first | refine blk_drewN ?_ _ | refine blk_drew ?_ | refine blk_alloc ?_ _)); refine blk_put (cs := #[.int .i64 5, .int .i64 0, .string (⟨#[]⟩ : ByteArray), .slice none 0 0, .slice none 0 0, .slice none 0 0, .int .i64 0]) ?_ 5 _ rfl; (with_reducible repeat (first | refine blk_drewN ?_ _ | refine blk_drew ?_ | refine blk_alloc ?_ _)); refine blk_put (cs := #[.int .i64 5, .int .i64 0, .string (⟨#[]⟩ : ByteArray), .slice none 0 0, .slice none 0 0, .slice none 0 0, .int .i64 0]) ?_ 4 _ rfl; (with_reducible repeat (first | refine blk_drewN ?_ _ | refine blk_drew ?_ | refine blk_alloc ?_ _)); refine blk_put (cs := #[.int .i64 5, .int .i64 0, .string (⟨#[]⟩ : ByteArray), .slice none 0 0, .slice none 0 0, .slice none 0 0, .int .i64 0]) ?_ 3 _ rfl; (with_reducible repeat (first | refine blk_drewN ?_ _ | refine blk_drew ?_ | refine blk_alloc ?_ _)); refine blk_put (cs := #[.int .i64 5, .int .i64 0, .string (⟨#[]⟩ : ByteArray), .slice none 0 0, .slice none 0 0, .slice none 0 0, .int .i64 0]) ?_ 2 _ rfl; (with_reducible repeat (first | refine blk_drewN ?_ _ | refine blk_drew ?_ | refine blk_alloc ?_ _)); refine blk_put (cs := #[.int .i64 5, .int .i64 0, .string (⟨#[]⟩ : ByteArray), .slice none 0 0, .slice none 0 0, .slice none 0 0, .int .i64 0]) ?_ 1 _ rfl; (with_reducible repeat (first | refine blk_drewN ?_ _ | refine blk_drew ?_ | refine blk_alloc ?_ _)); refine blk_put (cs := #[.int .i64 0, .int .i64 0, .string (⟨#[]⟩ : ByteArray), .slice none 0 0, .slice none 0 0, .slice none 0 0, .int .i64 0]) ?_ 0 _ rfl; (with_reducible repeat (first | refine blk_drewN ?_ _ | refine blk_drew ?_ | refine blk_alloc ?_ _)); exact BK148.out) Try.underlying28 rfl (by kernel_rfl)) rfl ?_
  exact ⟨_, _, _, by first | rfl | (simp [errW_none, errW_some] <;> rfl) | (simp [*, errW_none, errW_some] <;> rfl), by first | exact Kd.R_nil _ _ _ _ _ | exact Kd.N_nil _ _ _ _ _ | exact Kd.V_nil _ _ _ _ _ | exact Kd.Q_nil _ _ _ _ _ | exact Kd.S_nil _ _ _ _ _, by first | exact Kd.R_nil _ _ _ _ _ | exact Kd.N_nil _ _ _ _ _ | exact Kd.V_nil _ _ _ _ _ | exact Kd.Q_nil _ _ _ _ _ | exact Kd.S_nil _ _ _ _ _, by (with_reducible repeat (first | apply Kd.N_alloc | apply Kd.N_drewN | apply Kd.N_drew)); exact Kd.N_mono (Kd.N_far (p := ⟨gb148, 6, none⟩) (Kd.N_far (p := ⟨gb148, 5, none⟩) (Kd.N_far (p := ⟨gb148, 4, none⟩) (Kd.N_far (p := ⟨gb148, 3, none⟩) (Kd.N_far (p := ⟨gb148, 2, none⟩) (Kd.N_far (p := ⟨gb148, 1, none⟩) (Kd.N_far (p := ⟨gb148, 0, none⟩) (Kd.N_mono HO151.out (fun k_ hk => (⟨hk, hk.2.2.2⟩ : _ ∧ k_ ≠ gb148))) (fun _ hk => hk.2) (.int .i64 5)) (fun _ hk => hk.2) (.int .i64 0)) (fun _ hk => hk.2) (.string (⟨#[]⟩ : ByteArray))) (fun _ hk => hk.2) (.slice none 0 0)) (fun _ hk => hk.2) (.slice none 0 0)) (fun _ hk => hk.2) (.slice Ao13 y149.length co13)) (fun _ hk => hk.2) (.int .i64 0)) (fun _ hk => ⟨hk.1.1, ⟨(by simp [Value.ownBlock]), (by simp [Value.ownBlock])⟩⟩), by repeat (first | (with_reducible first | exact HB.out | apply below_alloc | apply pw_below_drewN | apply below_drew1 | refine below_set ?_ GE146.out | refine below_set ?_ GE147.out | refine below_set ?_ GE148.out) | exact HB.out)⟩

/-! ### triglyphref10_Prim: function 15 -/
def triglyphref10_Prim.f (a0 : Int) : Option (Int × Int × ByteArray × List Int × (List (S57)) × (List (S28)) × Int) := some (21, a0, (⟨#[]⟩ : ByteArray), ([] : List Int), ([] : List (S57)), ([] : List (S28)), 0)
set_option maxHeartbeats 8000000 in
set_option maxRecDepth 100000 in
theorem triglyphref10_Prim.calls (a0 : Int) (r1 : Int) (r2 : Int) (r3 : ByteArray) (r4 : List Int) (r5 : List (S57)) (r6 : List (S28)) (r7 : Int) (w : World) (h : triglyphref10_Prim.f a0 = some (r1, r2, r3, r4, r5, r6, r7)) :
    Calls Try.prog 15 #[.int .i64 a0] w fun e w' => ∃ v3_ v4_ v5_ : Value, e = .returned (.agg #[.int .i64 r1, .int .i64 r2, .string r3, v3_, v4_, v5_, .int .i64 r7]) ∧ Kd.R (Kd.int .i64) 3 w' w.heap.size (fun _ => True) v3_ r4 ∧ Kd.R k57 57 w' w.heap.size (fun k_ => some k_ ≠ (v3_ : Value).ownBlock) v4_ r5 ∧ Kd.R k28 28 w' w.heap.size (fun k_ => some k_ ≠ (v3_ : Value).ownBlock ∧ some k_ ≠ (v4_ : Value).ownBlock) v5_ r6 ∧ Below w.heap.size w w' := by
  have hu28 := Try.underlying28
  have HB := Aside0.mk (Below.refl w.heap.size w)
  have H : (some (21, a0, (⟨#[]⟩ : ByteArray), ([] : List Int), ([] : List (S57)), ([] : List (S28)), 0)) = some (r1, r2, r3, r4, r5, r6, r7) := h
  clear h
  simp only [Option.some.injEq, Prod.mk.injEq] at H
  obtain ⟨rfl, rfl, rfl, rfl, rfl, rfl, rfl⟩ := H
  go_enter Try.func15, Try.ntmps15
  go_wp2_with (first | ((with_reducible refine gate_dst (N := 2) rfl ?_); refine box_event ?hg (N := 2) ?hd (cs := #[.int .i64 0, .int .i64 0, .string (⟨#[]⟩ : ByteArray), .slice none 0 0, .slice none 0 0, .slice none 0 0, .int .i64 0]) (t := 28) ?hr ?_; (case hd => rfl); (case hg => rfl); (case hr => first | (go_simp; done) | (go_simp; rfl)); intro gb152 hg w2 hbox hb; have n0_ := Aside0.mk (below_step (by repeat (first | (with_reducible first | exact HB.out | apply below_alloc | apply pw_below_drewN | apply below_drew1) | exact HB.out)) hb); have n1_ := Aside0.mk (hbox); have n2_ := Aside0.mk ((by rw [hg]; exact (below_size (by repeat (first | (with_reducible first | exact HB.out | apply below_alloc | apply pw_below_drewN | apply below_drew1) | exact HB.out))) : w.heap.size ≤ gb152)); have n3_ := Aside0.mk ((by rw [hg]; exact (below_size (by repeat (first | (with_reducible first | exact HB.out | apply below_alloc | apply pw_below_drewN | apply below_drew1) | exact HB.out))) : w.heap.size ≤ gb152)); clear HB; have HB := n0_; have BK152 := n1_; have GW152 := n2_; have GE152 := n3_; clear n0_ n1_ n2_ n3_; clear hb hbox hg; have hcz3_0 : w2.cell? ⟨gb152, 0, none⟩ = some (.int .i64 0) := (blk_cell BK152.out 0).trans rfl; have hcz3_1 : w2.cell? ⟨gb152, 1, none⟩ = some (.int .i64 0) := (blk_cell BK152.out 1).trans rfl; have hcz3_2 : w2.cell? ⟨gb152, 2, none⟩ = some (.string (⟨#[]⟩ : ByteArray)) := (blk_cell BK152.out 2).trans rfl; have hcz3_3 : w2.cell? ⟨gb152, 3, none⟩ = some (.slice none 0 0) := (blk_cell BK152.out 3).trans rfl; have hcz3_4 : w2.cell? ⟨gb152, 4, none⟩ = some (.slice none 0 0) := (blk_cell BK152.out 4).trans rfl; have hcz3_5 : w2.cell? ⟨gb152, 5, none⟩ = some (.slice none 0 0) := (blk_cell BK152.out 5).trans rfl; have hcz3_6 : w2.cell? ⟨gb152, 6, none⟩ = some (.int .i64 0) := (blk_cell BK152.out 6).trans rfl; have hfz3_0 := blk_frozen BK152.out 0; have hfz3_1 := blk_frozen BK152.out 1; have hfz3_2 := blk_frozen BK152.out 2; have hfz3_3 := blk_frozen BK152.out 3; have hfz3_4 := blk_frozen BK152.out 4; have hfz3_5 := blk_frozen BK152.out 5; have hfz3_6 := blk_frozen BK152.out 6))
  refine bodyPost_ret (results_cell_row rfl _ _ gb152 28 #[.int .i64 21, .int .i64 a0, .string (⟨#[]⟩ : ByteArray), .slice none 0 0, .slice none 0 0, .slice none 0 0, .int .i64 0] (0, 0) _ rfl (by (with_reducible repeat (first | refine blk_drewN ?_ _ | refine blk_drew ?_ | refine blk_alloc ?_ _)); refine blk_put (cs := #[.int .i64 21, .int .i64 a0, .string (⟨#[]⟩ : ByteArray), .slice none 0 0, .slice none 0 0, .slice none 0 0, .int .i64 0]) ?_ 6 _ rfl; (with_reducible repeat (first | refine blk_drewN ?_ _ | refine blk_drew ?_ | refine blk_alloc ?_ _)); refine blk_put (cs := #[.int .i64 21, .int .i64 a0, .string (⟨#[]⟩ : ByteArray), .slice none 0 0, .slice none 0 0, .slice none 0 0, .int .i64 0]) ?_ 5 _ rfl; (with_reducible repeat (first | refine blk_drewN ?_ _ | refine blk_drew ?_ | refine blk_alloc ?_ _)); refine blk_put (cs := #[.int .i64 21, .int .i64 a0, .string (⟨#[]⟩ : ByteArray), .slice none 0 0, .slice none 0 0, .slice none 0 0, .int .i64 0]) ?_ 4 _ rfl; (with_reducible repeat (first | refine blk_drewN ?_ _ | refine blk_drew ?_ | refine blk_alloc ?_ _)); refine blk_put (cs := #[.int .i64 21, .int .i64 a0, .string (⟨#[]⟩ : ByteArray), .slice none 0 0, .slice none 0 0, .slice none 0 0, .int .i64 0]) ?_ 3 _ rfl; (with_reducible repeat (first | refine blk_drewN ?_ _ | refine blk_drew ?_ | refine blk_alloc ?_ _)); refine blk_put (cs := #[.int .i64 21, .int .i64 a0, .string (⟨#[]⟩ : ByteArray), .slice none 0 0, .slice none 0 0, .slice none 0 0, .int .i64 0]) ?_ 2 _ rfl; (with_reducible repeat (first | refine blk_drewN ?_ _ | refine blk_drew ?_ | refine blk_alloc ?_ _)); refine blk_put (cs := #[.int .i64 21, .int .i64 0, .string (⟨#[]⟩ : ByteArray), .slice none 0 0, .slice none 0 0, .slice none 0 0, .int .i64 0]) ?_ 1 _ rfl; (with_reducible repeat (first | refine blk_drewN ?_ _ | refine blk_drew ?_ | refine blk_alloc ?_ _)); refine blk_put (cs := #[.int .i64 0, .int .i64 0, .string (⟨#[]⟩ : ByteArray), .slice none 0 0, .slice none 0 0, .slice none 0 0, .int .i64 0]) ?_ 0 _ rfl; (with_reducible repeat (first | refine blk_drewN ?_ _ | refine blk_drew ?_ | refine blk_alloc ?_ _)); exact BK152.out) Try.underlying28 rfl (by kernel_rfl)) rfl ?_
  exact ⟨_, _, _, by first | rfl | (simp [errW_none, errW_some] <;> rfl) | (simp [*, errW_none, errW_some] <;> rfl), by first | exact Kd.R_nil _ _ _ _ _ | exact Kd.N_nil _ _ _ _ _ | exact Kd.V_nil _ _ _ _ _ | exact Kd.Q_nil _ _ _ _ _ | exact Kd.S_nil _ _ _ _ _, by first | exact Kd.R_nil _ _ _ _ _ | exact Kd.N_nil _ _ _ _ _ | exact Kd.V_nil _ _ _ _ _ | exact Kd.Q_nil _ _ _ _ _ | exact Kd.S_nil _ _ _ _ _, by first | exact Kd.R_nil _ _ _ _ _ | exact Kd.N_nil _ _ _ _ _ | exact Kd.V_nil _ _ _ _ _ | exact Kd.Q_nil _ _ _ _ _ | exact Kd.S_nil _ _ _ _ _, by repeat (first | (with_reducible first | exact HB.out | apply below_alloc | apply pw_below_drewN | apply below_drew1 | refine below_set ?_ GE152.out) | exact HB.out)⟩

/-! ### triglyphref10_Lit: function 16 -/
def triglyphref10_Lit.f (l0_0 : List Int) (l0_1 : List (S57)) : Option (Int × Int × ByteArray × List Int × (List (S57)) × (List (S28)) × Int) := some (1, 0, (⟨#[]⟩ : ByteArray), l0_0, l0_1, ([] : List (S28)), 0)
set_option maxHeartbeats 8000000 in
set_option maxRecDepth 100000 in
theorem triglyphref10_Lit.calls (P0_0_ : Nat → Prop) (u9000_ : Value) (l0_0 : List Int) (P0_1_ : Nat → Prop) (A0_1 : Option Addr) (c0_1 : Nat) (l0_1 : List (S57)) (r1 : Int) (r2 : Int) (r3 : ByteArray) (r4 : List Int) (r5 : List (S57)) (r6 : List (S28)) (r7 : Int) (w0 w : World) (hB : Below w0.heap.size w0 w) (ho0_0 : Kd.R (Kd.int .i64) 3 w w0.heap.size P0_0_ u9000_ l0_0) (hs0_1 : Kd.V k57 57 w w0.heap.size (fun k_ => P0_1_ k_ ∧ some k_ ≠ (u9000_ : Value).ownBlock) (.slice A0_1 l0_1.length c0_1) l0_1) (h : triglyphref10_Lit.f l0_0 l0_1 = some (r1, r2, r3, r4, r5, r6, r7)) :
    Calls Try.prog 16 #[.agg #[u9000_, .slice A0_1 l0_1.length c0_1]] w fun e w' => ∃ v3_ v4_ v5_ : Value, e = .returned (.agg #[.int .i64 r1, .int .i64 r2, .string r3, v3_, v4_, v5_, .int .i64 r7]) ∧ Kd.R (Kd.int .i64) 3 w' w0.heap.size (fun k_ => (P0_0_ k_ ∨ w.heap.size ≤ k_)) v3_ r4 ∧ Kd.V k57 57 w' w0.heap.size (fun k_ => ((P0_0_ k_ ∨ P0_1_ k_) ∨ w.heap.size ≤ k_) ∧ some k_ ≠ (v3_ : Value).ownBlock ∧ some k_ ≠ (v5_ : Value).ownBlock) v4_ r5 ∧ Kd.N k28 28 w' w.heap.size (fun k_ => ((P0_0_ k_ ∨ P0_1_ k_) ∨ w.heap.size ≤ k_) ∧ some k_ ≠ (v3_ : Value).ownBlock) v5_ r6 ∧ Below w0.heap.size w0 w' ∧ Kept w w' (fun k_ => P0_0_ k_) := by
  have hu25 := Try.underlying25
  have hu28 := Try.underlying28
  have HO0_0 := Aside0.mk (show Kd.R (Kd.int .i64) 3 w w0.heap.size (fun k_ => (P0_0_ k_ ∨ w.heap.size ≤ k_)) u9000_ l0_0 from Kd.R_mono ho0_0 (fun k_ hk => (.inl hk)))
  have HO0_1 := Aside0.mk (show Kd.V k57 57 w w0.heap.size (fun k_ => ((P0_0_ k_ ∨ P0_1_ k_) ∨ w.heap.size ≤ k_) ∧ some k_ ≠ (u9000_ : Value).ownBlock) (.slice A0_1 l0_1.length c0_1) l0_1 from Kd.V_mono hs0_1 (fun k_ hk => ⟨.inl (.inr hk.1), hk.2⟩))
  have HK := Aside0.mk (Kept.refl w (fun k_ => P0_0_ k_))
  have HW0 := Aside0.mk hB.size
  have HB := Aside0.mk hB
  clear hB
  have H : (some (1, 0, (⟨#[]⟩ : ByteArray), l0_0, l0_1, ([] : List (S28)), 0)) = some (r1, r2, r3, r4, r5, r6, r7) := h
  clear h
  simp only [Option.some.injEq, Prod.mk.injEq] at H
  obtain ⟨rfl, rfl, rfl, rfl, rfl, rfl, rfl⟩ := H
  obtain ⟨Ao2, co2, eo2⟩ := Kd.R_slice HO0_0.out
  subst eo2
  go_enter Try.func16, Try.ntmps16
  go_wp2_with (first | ((with_reducible refine gate_dst (N := 1) rfl ?_); refine box_event ?hg (N := 1) ?hd (cs := #[.slice Ao2 l0_0.length co2, .slice A0_1 l0_1.length c0_1]) (t := 25) ?hr ?_; (case hd => rfl); (case hg => rfl); (case hr => first | (go_simp; done) | (go_simp; rfl)); intro gb153 hg w3 hbox hb; have n0_ := Aside0.mk (Kd.R_below (by (with_reducible repeat (first | apply Kd.R_alloc | apply Kd.R_drewN | apply Kd.R_drew)); exact HO0_0.out) hb); have n1_ := Aside0.mk (Kd.V_below (Kd.V_elderB (by (with_reducible repeat (first | apply Kd.V_alloc | apply Kd.V_drewN | apply Kd.V_drew)); exact HO0_1.out) gb153 (Nat.le_of_eq hg.symm)) hb); have n2_ := Aside0.mk (Kept.below (S := (fun k_ => P0_0_ k_)) (by repeat (first | (with_reducible first | exact HK.out | apply Kept.alloc | apply Kept.drewN | apply Kept.drew) | exact HK.out)) hb); have n3_ := Aside0.mk (below_step (by repeat (first | (with_reducible first | exact HB.out | apply below_alloc | apply pw_below_drewN | apply below_drew1) | exact HB.out)) hb); have n4_ := Aside0.mk (hbox); have n5_ := Aside0.mk ((by rw [hg]; exact (by first | exact HK.out.1 | exact (show Kept w _ (fun k_ => P0_0_ k_) from by repeat (first | (with_reducible first | exact HK.out | apply Kept.alloc | apply Kept.drewN | apply Kept.drew) | exact HK.out)).1) : w.heap.size ≤ gb153)); have n6_ := Aside0.mk ((by rw [hg]; exact (below_size (by repeat (first | (with_reducible first | exact HB.out | apply below_alloc | apply pw_below_drewN | apply below_drew1) | exact HB.out))) : w0.heap.size ≤ gb153)); clear HO0_0; clear HO0_1; clear HK; clear HB; have HO0_0 := n0_; have HO0_1 := n1_; have HK := n2_; have HB := n3_; have BK153 := n4_; have GW153 := n5_; have GE153 := n6_; clear n0_ n1_ n2_ n3_ n4_ n5_ n6_; clear hb hbox hg) | ((with_reducible refine gate_dst (N := 2) rfl ?_); refine box_event ?hg (N := 2) ?hd (cs := #[.int .i64 0, .int .i64 0, .string (⟨#[]⟩ : ByteArray), .slice none 0 0, .slice none 0 0, .slice none 0 0, .int .i64 0]) (t := 28) ?hr ?_; (case hd => rfl); (case hg => rfl); (case hr => first | (go_simp; done) | (go_simp; rfl)); intro gb154 hg w4 hbox hb; have n0_ := Aside0.mk (Kd.R_below (by (with_reducible repeat (first | apply Kd.R_alloc | apply Kd.R_drewN | apply Kd.R_drew)); exact HO0_0.out) hb); have n1_ := Aside0.mk (Kd.V_below (Kd.V_elderB (by (with_reducible repeat (first | apply Kd.V_alloc | apply Kd.V_drewN | apply Kd.V_drew)); exact HO0_1.out) gb154 (Nat.le_of_eq hg.symm)) hb); have n2_ := Aside0.mk (blk_below (g := gb153) (o := .cells #[.slice Ao2 l0_0.length co2, .slice A0_1 l0_1.length c0_1] 25 (0, 0)) (by (with_reducible repeat (first | refine blk_drewN ?_ _ | refine blk_drew ?_ | refine blk_alloc ?_ _)); exact BK153.out) hb); have n3_ := Aside0.mk (Kept.below (S := (fun k_ => P0_0_ k_)) (by repeat (first | (with_reducible first | exact HK.out | apply Kept.alloc | apply Kept.drewN | apply Kept.drew | refine Kept.setCell ?_ (.inr GW153.out) _) | exact HK.out)) hb); have n4_ := Aside0.mk (below_step (by repeat (first | (with_reducible first | exact HB.out | apply below_alloc | apply pw_below_drewN | apply below_drew1 | refine below_set ?_ GE153.out) | exact HB.out)) hb); have n5_ := Aside0.mk (hbox); have n6_ := Aside0.mk ((by rw [hg]; exact (by first | exact HK.out.1 | exact (show Kept w _ (fun k_ => P0_0_ k_) from by repeat (first | (with_reducible first | exact HK.out | apply Kept.alloc | apply Kept.drewN | apply Kept.drew | refine Kept.setCell ?_ (.inr GW153.out) _) | exact HK.out)).1) : w.heap.size ≤ gb154)); have n7_ := Aside0.mk ((by rw [hg]; exact (below_size (by repeat (first | (with_reducible first | exact HB.out | apply below_alloc | apply pw_below_drewN | apply below_drew1 | refine below_set ?_ GE153.out) | exact HB.out))) : w0.heap.size ≤ gb154)); have n8_ := Aside0.mk ((by rw [hg]; exact Nat.ne_of_lt (blk_lt (g := gb153) (o := .cells #[.slice Ao2 l0_0.length co2, .slice A0_1 l0_1.length c0_1] 25 (0, 0)) (by (with_reducible repeat (first | refine blk_drewN ?_ _ | refine blk_drew ?_ | refine blk_alloc ?_ _)); exact BK153.out)) : gb153 ≠ gb154)); have n9_ := Aside0.mk ((by rw [hg]; exact Nat.ne_of_gt (blk_lt (g := gb153) (o := .cells #[.slice Ao2 l0_0.length co2, .slice A0_1 l0_1.length c0_1] 25 (0, 0)) (by (with_reducible repeat (first | refine blk_drewN ?_ _ | refine blk_drew ?_ | refine blk_alloc ?_ _)); exact BK153.out)) : gb154 ≠ gb153)); clear HO0_0; clear HO0_1; clear BK153; clear HK; clear HB; have HO0_0 := n0_; have HO0_1 := n1_; have BK153 := n2_; have HK := n3_; have HB := n4_; have BK154 := n5_; have GW154 := n6_; have GE154 := n7_; have NB153_154 := n8_; have NB154_153 := n9_; clear n0_ n1_ n2_ n3_ n4_ n5_ n6_ n7_ n8_ n9_; clear hb hbox hg; have hnb5 := NB153_154.out; have hnc5 := NB154_153.out; have hcz6_0 : w4.cell? ⟨gb153, 0, none⟩ = some (.slice Ao2 l0_0.length co2) := (blk_cell BK153.out 0).trans rfl; have hcz6_1 : w4.cell? ⟨gb153, 1, none⟩ = some (.slice A0_1 l0_1.length c0_1) := (blk_cell BK153.out 1).trans rfl; have hfz6_0 := blk_frozen BK153.out 0; have hfz6_1 := blk_frozen BK153.out 1; have hcz7_0 : w4.cell? ⟨gb154, 0, none⟩ = some (.int .i64 0) := (blk_cell BK154.out 0).trans rfl; have hcz7_1 : w4.cell? ⟨gb154, 1, none⟩ = some (.int .i64 0) := (blk_cell BK154.out 1).trans rfl; have hcz7_2 : w4.cell? ⟨gb154, 2, none⟩ = some (.string (⟨#[]⟩ : ByteArray)) := (blk_cell BK154.out 2).trans rfl; have hcz7_3 : w4.cell? ⟨gb154, 3, none⟩ = some (.slice none 0 0) := (blk_cell BK154.out 3).trans rfl; have hcz7_4 : w4.cell? ⟨gb154, 4, none⟩ = some (.slice none 0 0) := (blk_cell BK154.out 4).trans rfl; have hcz7_5 : w4.cell? ⟨gb154, 5, none⟩ = some (.slice none 0 0) := (blk_cell BK154.out 5).trans rfl; have hcz7_6 : w4.cell? ⟨gb154, 6, none⟩ = some (.int .i64 0) := (blk_cell BK154.out 6).trans rfl; have hfz7_0 := blk_frozen BK154.out 0; have hfz7_1 := blk_frozen BK154.out 1; have hfz7_2 := blk_frozen BK154.out 2; have hfz7_3 := blk_frozen BK154.out 3; have hfz7_4 := blk_frozen BK154.out 4; have hfz7_5 := blk_frozen BK154.out 5; have hfz7_6 := blk_frozen BK154.out 6))
  refine bodyPost_ret (results_cell_row rfl _ _ gb154 28 #[.int .i64 1, .int .i64 0, .string (⟨#[]⟩ : ByteArray), .slice Ao2 l0_0.length co2, .slice A0_1 l0_1.length c0_1, .slice none 0 0, .int .i64 0] (0, 0) _ rfl (by (with_reducible repeat (first | refine blk_drewN ?_ _ | refine blk_drew ?_ | refine blk_alloc ?_ _)); refine blk_put (cs := #[.int .i64 1, .int .i64 0, .string (⟨#[]⟩ : ByteArray), .slice Ao2 l0_0.length co2, .slice A0_1 l0_1.length c0_1, .slice none 0 0, .int .i64 0]) ?_ 6 _ rfl; (with_reducible repeat (first | refine blk_drewN ?_ _ | refine blk_drew ?_ | refine blk_alloc ?_ _)); refine blk_put (cs := #[.int .i64 1, .int .i64 0, .string (⟨#[]⟩ : ByteArray), .slice Ao2 l0_0.length co2, .slice A0_1 l0_1.length c0_1, .slice none 0 0, .int .i64 0]) ?_ 5 _ rfl; (with_reducible repeat (first | refine blk_drewN ?_ _ | refine blk_drew ?_ | refine blk_alloc ?_ _)); refine blk_put (cs := #[.int .i64 1, .int .i64 0, .string (⟨#[]⟩ : ByteArray), .slice Ao2 l0_0.length co2, .slice none 0 0, .slice none 0 0, .int .i64 0]) ?_ 4 _ rfl; (with_reducible repeat (first | refine blk_drewN ?_ _ | refine blk_drew ?_ | refine blk_alloc ?_ _)); refine blk_put (cs := #[.int .i64 1, .int .i64 0, .string (⟨#[]⟩ : ByteArray), .slice none 0 0, .slice none 0 0, .slice none 0 0, .int .i64 0]) ?_ 3 _ rfl; (with_reducible repeat (first | refine blk_drewN ?_ _ | refine blk_drew ?_ | refine blk_alloc ?_ _)); refine blk_put (cs := #[.int .i64 1, .int .i64 0, .string (⟨#[]⟩ : ByteArray), .slice none 0 0, .slice none 0 0, .slice none 0 0, .int .i64 0]) ?_ 2 _ rfl; (with_reducible repeat (first | refine blk_drewN ?_ _ | refine blk_drew ?_ | refine blk_alloc ?_ _)); refine blk_put (cs := #[.int .i64 1, .int .i64 0, .string (⟨#[]⟩ : ByteArray), .slice none 0 0, .slice none 0 0, .slice none 0 0, .int .i64 0]) ?_ 1 _ rfl; (with_reducible repeat (first | refine blk_drewN ?_ _ | refine blk_drew ?_ | refine blk_alloc ?_ _)); refine blk_put (cs := #[.int .i64 0, .int .i64 0, .string (⟨#[]⟩ : ByteArray), .slice none 0 0, .slice none 0 0, .slice none 0 0, .int .i64 0]) ?_ 0 _ rfl; (with_reducible repeat (first | refine blk_drewN ?_ _ | refine blk_drew ?_ | refine blk_alloc ?_ _)); exact BK154.out) Try.underlying28 rfl (by kernel_rfl)) rfl ?_
  exact ⟨_, _, _, by first | rfl | (simp [errW_none, errW_some] <;> rfl) | (simp [*, errW_none, errW_some] <;> rfl), by (with_reducible repeat (first | apply Kd.R_alloc | apply Kd.R_drewN | apply Kd.R_drew)); exact Kd.R_mono (Kd.R_far (p := ⟨gb154, 6, none⟩) (Kd.R_far (p := ⟨gb154, 5, none⟩) (Kd.R_far (p := ⟨gb154, 4, none⟩) (Kd.R_far (p := ⟨gb154, 3, none⟩) (Kd.R_far (p := ⟨gb154, 2, none⟩) (Kd.R_far (p := ⟨gb154, 1, none⟩) (Kd.R_far (p := ⟨gb154, 0, none⟩) (Kd.R_types HO0_0.out BK154.out (by decide)) (fun _ hk => hk.2) (.int .i64 1)) (fun _ hk => hk.2) (.int .i64 0)) (fun _ hk => hk.2) (.string (⟨#[]⟩ : ByteArray))) (fun _ hk => hk.2) (.slice Ao2 l0_0.length co2)) (fun _ hk => hk.2) (.slice A0_1 l0_1.length c0_1)) (fun _ hk => hk.2) (.slice none 0 0)) (fun _ hk => hk.2) (.int .i64 0)) (fun _ hk => hk.1), by (with_reducible repeat (first | apply Kd.V_alloc | apply Kd.V_drewN | apply Kd.V_drew)); exact Kd.V_mono (Kd.V_far (p := ⟨gb154, 6, none⟩) (Kd.V_far (p := ⟨gb154, 5, none⟩) (Kd.V_far (p := ⟨gb154, 4, none⟩) (Kd.V_far (p := ⟨gb154, 3, none⟩) (Kd.V_far (p := ⟨gb154, 2, none⟩) (Kd.V_far (p := ⟨gb154, 1, none⟩) (Kd.V_far (p := ⟨gb154, 0, none⟩) (Kd.V_mono HO0_1.out (fun k_ hk => (⟨hk, hk.2⟩ : _ ∧ k_ ≠ gb154))) (fun _ hk => hk.2) (.int .i64 1)) (fun _ hk => hk.2) (.int .i64 0)) (fun _ hk => hk.2) (.string (⟨#[]⟩ : ByteArray))) (fun _ hk => hk.2) (.slice Ao2 l0_0.length co2)) (fun _ hk => hk.2) (.slice A0_1 l0_1.length c0_1)) (fun _ hk => hk.2) (.slice none 0 0)) (fun _ hk => hk.2) (.int .i64 0)) (fun _ hk => ⟨hk.1.1.1.1, ⟨hk.1.1.1.2, (by simp [Value.ownBlock])⟩⟩), by first | exact Kd.R_nil _ _ _ _ _ | exact Kd.N_nil _ _ _ _ _ | exact Kd.V_nil _ _ _ _ _ | exact Kd.Q_nil _ _ _ _ _ | exact Kd.S_nil _ _ _ _ _, by repeat (first | (with_reducible first | exact HB.out | apply below_alloc | apply pw_below_drewN | apply below_drew1 | refine below_set ?_ GE153.out | refine below_set ?_ GE154.out) | exact HB.out), by repeat (first | (with_reducible first | exact HK.out | apply Kept.alloc | apply Kept.drewN | apply Kept.drew | refine Kept.setCell ?_ (.inr GW153.out) _ | refine Kept.setCell ?_ (.inr GW154.out) _) | exact HK.out)⟩

/-! ### triglyphref03_Atom: function 17 -/
def triglyphref03_Atom.f (a0 : Int) : Option (List Int × (List (S57))) := some (([] : List Int), (([(⟨0, a0, ([] : List (S25))⟩ : S57)] : List (S57))))
set_option maxHeartbeats 8000000 in
set_option maxRecDepth 100000 in
theorem triglyphref03_Atom.calls (a0 : Int) (r1 : List Int) (r2 : List (S57)) (w : World) (h : triglyphref03_Atom.f a0 = some (r1, r2)) :
    Calls Try.prog 17 #[.int .i64 a0] w fun e w' => ∃ v0_ v1_ : Value, e = .returned (.agg #[v0_, v1_]) ∧ Kd.R (Kd.int .i64) 3 w' w.heap.size (fun _ => True) v0_ r1 ∧ Kd.R k57 57 w' w.heap.size (fun k_ => some k_ ≠ (v0_ : Value).ownBlock) v1_ r2 ∧ Below w.heap.size w w' := by
  have hu25 := Try.underlying25
  have hu57 := Try.underlying57
  have HB := Aside0.mk (Below.refl w.heap.size w)
  have H : (some (([] : List Int), (([(⟨0, a0, ([] : List (S25))⟩ : S57)] : List (S57))))) = some (r1, r2) := h
  clear h
  obtain ⟨y156, hy156⟩ : ∃ y_ : List (S57), y_ = (([(⟨0, a0, ([] : List (S25))⟩ : S57)] : List (S57))) := ⟨_, rfl⟩
  replace H : (some (([] : List Int), y156)) = some (r1, r2) := by first | (rw [hy156]; with_reducible exact H) | (have H2_ := (Option.bind_some _ _).symm.trans H; rw [hy156]; with_reducible exact H2_) | (have H2_ := (Option.bind_some _ _).symm.trans H; with_reducible exact H2_) | with_reducible exact H | (rw [hy156]; exact H) | exact H
  have Ny156 := Aside0.mk hy156
  clear hy156
  simp only [Option.some.injEq, Prod.mk.injEq] at H
  obtain ⟨rfl, rfl⟩ := H
  go_enter Try.func17, Try.ntmps17
  go_wp2_with (first | ((with_reducible refine gate_dst (N := 2) rfl ?_); refine box_event ?hg (N := 2) ?hd (cs := #[.slice none 0 0, .slice none 0 0]) (t := 25) ?hr ?_; (case hd => rfl); (case hg => rfl); (case hr => first | (go_simp; done) | (go_simp; rfl)); intro gb155 hg w2 hbox hb; have n0_ := Aside0.mk (below_step (by repeat (first | (with_reducible first | exact HB.out | apply below_alloc | apply pw_below_drewN | apply below_drew1) | exact HB.out)) hb); have n1_ := Aside0.mk (hbox); have n2_ := Aside0.mk ((by rw [hg]; exact (below_size (by repeat (first | (with_reducible first | exact HB.out | apply below_alloc | apply pw_below_drewN | apply below_drew1) | exact HB.out))) : w.heap.size ≤ gb155)); have n3_ := Aside0.mk ((by rw [hg]; exact (below_size (by repeat (first | (with_reducible first | exact HB.out | apply below_alloc | apply pw_below_drewN | apply below_drew1) | exact HB.out))) : w.heap.size ≤ gb155)); clear HB; have HB := n0_; have BK155 := n1_; have GW155 := n2_; have GE155 := n3_; clear n0_ n1_ n2_ n3_; clear hb hbox hg) | ((with_reducible refine gate_dst (N := 5) rfl ?_); refine Kd.R_lit k57 _ 57 ?hg (N := 5) ?hd (xs := ([(⟨0, a0, ([] : List (S25))⟩ : S57)] : List (S57))) (inner := [.int .i64 0, .int .i64 a0, .slice none 0 0]) (ok := fun _ => True) (okp := fun _ => True) ?hr ?hp (fun _ hk => hk) trivial (Below.refl _ _) (Nat.le_refl _) (by simp) ?_; (case hd => rfl); (case hg => rfl); (case hr => first | (go_simp; done) | (go_simp; rfl)); (case hp => exact (Reps.c3 (show Kd.M k57 _ _ _ (⟨0, a0, ([] : List (S25))⟩ : S57) [.int .i64 0, .int .i64 a0, .slice none 0 0] from (k57_mkM _ _ _ (⟨0, a0, ([] : List (S25))⟩ : S57) (Kd.R_nil _ _ _ _ _))) (Reps.none _ _))); intro v157 w3 ho4 hb hg_ hnew_; clear hg_ hnew_; (first | rw [← Ny156.out] at ho4 | (simp only [Int.reduceToNat] at ho4; rw [← Ny156.out] at ho4)); have n0_ := Aside0.mk (Kd.R_lower (Kd.R_newB ho4 (g := gb155) (o := .cells #[.slice none 0 0, .slice none 0 0] 25 (0, 0)) (by (with_reducible repeat (first | refine blk_drewN ?_ _ | refine blk_drew ?_ | refine blk_alloc ?_ _)); exact BK155.out)) (below_size (by repeat (first | (with_reducible first | exact HB.out | apply below_alloc | apply pw_below_drewN | apply below_drew1 | refine below_set ?_ GE155.out) | exact HB.out)))); have n1_ := Aside0.mk (blk_below (g := gb155) (o := .cells #[.slice none 0 0, .slice none 0 0] 25 (0, 0)) (by (with_reducible repeat (first | refine blk_drewN ?_ _ | refine blk_drew ?_ | refine blk_alloc ?_ _)); exact BK155.out) hb); have n2_ := Aside0.mk (below_step (by repeat (first | (with_reducible first | exact HB.out | apply below_alloc | apply pw_below_drewN | apply below_drew1 | refine below_set ?_ GE155.out) | exact HB.out)) hb); clear BK155; clear HB; have HO158 := n0_; have BK155 := n1_; have HB := n2_; clear n0_ n1_ n2_; clear hb ho4; obtain ⟨Ao5, co5, eo5⟩ := Kd.R_slice HO158.out; subst eo5; have hcz6_0 : w3.cell? ⟨gb155, 0, none⟩ = some (.slice none 0 0) := (blk_cell BK155.out 0).trans rfl; have hcz6_1 : w3.cell? ⟨gb155, 1, none⟩ = some (.slice none 0 0) := (blk_cell BK155.out 1).trans rfl; have hfz6_0 := blk_frozen BK155.out 0; have hfz6_1 := blk_frozen BK155.out 1))
  refine bodyPost_ret (results_cell_row rfl _ _ gb155 25 #[.slice none 0 0, .slice Ao5 y156.length co5] (0, 0) _ rfl (by (with_reducible repeat (first | refine blk_drewN ?_ _ | refine blk_drew ?_ | refine blk_alloc ?_ _)); refine blk_put (cs := #[.slice none 0 0, .slice none 0 0]) ?_ 1 _ rfl; (with_reducible repeat (first | refine blk_drewN ?_ _ | refine blk_drew ?_ | refine blk_alloc ?_ _)); refine blk_put (cs := #[.slice none 0 0, .slice none 0 0]) ?_ 0 _ rfl; (with_reducible repeat (first | refine blk_drewN ?_ _ | refine blk_drew ?_ | refine blk_alloc ?_ _)); exact BK155.out) Try.underlying25 rfl (by kernel_rfl)) rfl ?_
  exact ⟨_, _, by first | rfl | (simp [errW_none, errW_some] <;> rfl) | (simp [*, errW_none, errW_some] <;> rfl), by first | exact Kd.R_nil _ _ _ _ _ | exact Kd.N_nil _ _ _ _ _ | exact Kd.V_nil _ _ _ _ _ | exact Kd.Q_nil _ _ _ _ _ | exact Kd.S_nil _ _ _ _ _, by (with_reducible repeat (first | apply Kd.R_alloc | apply Kd.R_drewN | apply Kd.R_drew)); exact Kd.R_mono (Kd.R_far (p := ⟨gb155, 1, none⟩) (Kd.R_far (p := ⟨gb155, 0, none⟩) (Kd.R_mono HO158.out (fun k_ hk => (⟨hk, hk.2⟩ : _ ∧ k_ ≠ gb155))) (fun _ hk => hk.2) (.slice none 0 0)) (fun _ hk => hk.2) (.slice Ao5 y156.length co5)) (fun _ hk => (by simp [Value.ownBlock])), by repeat (first | (with_reducible first | exact HB.out | apply below_alloc | apply pw_below_drewN | apply below_drew1 | refine below_set ?_ GE155.out) | exact HB.out)⟩

/-! ### triglyphlaw24_works: function 7 -/
def triglyphlaw24_works.f (k : Nat)  : Option (Bool) := (triglyphref10_Prim.f 15).bind fun bt159 => ((triglyphref03_Atom.f 1).bind fun bt172 => ((triglyphref10_Lit.f bt172.1 bt172.2).bind fun bt178 => ((triglyphref10_One.f bt159.1 bt159.2.1 bt159.2.2.1 bt159.2.2.2.1 bt159.2.2.2.2.1 bt159.2.2.2.2.2.1 bt159.2.2.2.2.2.2 bt178.1 bt178.2.1 bt178.2.2.1 bt178.2.2.2.1 bt178.2.2.2.2.1 bt178.2.2.2.2.2.1 bt178.2.2.2.2.2.2).bind fun bt191 => ((frag_Fits.f k 2 bt191.1 bt191.2.1 bt191.2.2.1 bt191.2.2.2.1 bt191.2.2.2.2.1 bt191.2.2.2.2.2.1 bt191.2.2.2.2.2.2).bind fun bt205 => ((frag_Fits.f k 0 bt191.1 bt191.2.1 bt191.2.2.1 bt191.2.2.2.1 bt191.2.2.2.2.1 bt191.2.2.2.2.2.1 bt191.2.2.2.2.2.2).bind fun bt209 => (if bt209.1 = 0 then (if bt205.1 = 13 then (if bt205.2.2 = 2 then ((frag_Fits.f k 3 bt191.1 bt191.2.1 bt191.2.2.1 bt191.2.2.2.1 bt191.2.2.2.2.1 bt191.2.2.2.2.2.1 bt191.2.2.2.2.2.2).bind fun bt212 => (if bt212.1 = 1 then ((frag_Says.f k 2 21).bind fun t215 => (if t215 = true then ((frag_Says.f k 2 2).bind fun t216 => (some (!t216))) else (none))) else (none))) else (none)) else (none)) else (none)))))))
theorem triglyphlaw24_works.mono : ∀ k, LeO (triglyphlaw24_works.f k ) (triglyphlaw24_works.f (k + 1) ) := by
  intro  k
  unfold triglyphlaw24_works.f
  repeat' first
      | (with_reducible exact frag_Fits.mono _ _ _ _ _ _ _ _ _)
      | (with_reducible exact frag_Says.mono _ _ _)
      | (with_reducible exact LeO.refl _)
      | (with_reducible exact LeO.none _)
      | (with_reducible refine LeO.ite ?_ ?_)
      | (with_reducible refine LeO.bind ?_ (fun _ => ?_))
      | exact frag_Fits.mono _ _ _ _ _ _ _ _ _
      | exact frag_Says.mono _ _ _
      | exact LeO.none _
      | refine LeO.ite ?_ ?_
      | refine LeO.bind ?_ (fun _ => ?_)
set_option maxHeartbeats 8000000 in
set_option maxRecDepth 100000 in
theorem triglyphlaw24_works.calls (k : Nat)  (r : Bool) (w : World) (h : triglyphlaw24_works.f k  = some r) :
    Calls Try.prog 7 #[] w fun e w' => e = .returned (.bool r) ∧ Below w.heap.size w w' := by
  have hu28 := Try.underlying28
  have hu33 := Try.underlying33
  have hfd33_0 := fun (x0 x1 x2 : Int) (w : World) => (show (Instr.field 33 (.agg #[.int .i64 x0, .int .i64 x1, .int .i64 x2]) 0).run Try.prog w = Result.ok (.int .i64 x0) w from rfl)
  have HB := Aside0.mk (Below.refl w.heap.size w)
  have H : ((triglyphref10_Prim.f 15).bind fun bt159 => ((triglyphref03_Atom.f 1).bind fun bt172 => ((triglyphref10_Lit.f bt172.1 bt172.2).bind fun bt178 => ((triglyphref10_One.f bt159.1 bt159.2.1 bt159.2.2.1 bt159.2.2.2.1 bt159.2.2.2.2.1 bt159.2.2.2.2.2.1 bt159.2.2.2.2.2.2 bt178.1 bt178.2.1 bt178.2.2.1 bt178.2.2.2.1 bt178.2.2.2.2.1 bt178.2.2.2.2.2.1 bt178.2.2.2.2.2.2).bind fun bt191 => ((frag_Fits.f k 2 bt191.1 bt191.2.1 bt191.2.2.1 bt191.2.2.2.1 bt191.2.2.2.2.1 bt191.2.2.2.2.2.1 bt191.2.2.2.2.2.2).bind fun bt205 => ((frag_Fits.f k 0 bt191.1 bt191.2.1 bt191.2.2.1 bt191.2.2.2.1 bt191.2.2.2.2.1 bt191.2.2.2.2.2.1 bt191.2.2.2.2.2.2).bind fun bt209 => (if bt209.1 = 0 then (if bt205.1 = 13 then (if bt205.2.2 = 2 then ((frag_Fits.f k 3 bt191.1 bt191.2.1 bt191.2.2.1 bt191.2.2.2.1 bt191.2.2.2.2.1 bt191.2.2.2.2.2.1 bt191.2.2.2.2.2.2).bind fun bt212 => (if bt212.1 = 1 then ((frag_Says.f k 2 21).bind fun t215 => (if t215 = true then ((frag_Says.f k 2 2).bind fun t216 => (some (!t216))) else (none))) else (none))) else (none)) else (none)) else (none)))))))) = some r := h
  clear h
  replace H := Option.bind_eq_some_iff.mp H
  obtain ⟨⟨t159, t160, t161, t162, t165, t168, t171⟩, A10, H⟩ := H
  replace H : ((triglyphref03_Atom.f 1).bind fun bt172 => ((triglyphref10_Lit.f bt172.1 bt172.2).bind fun bt178 => ((triglyphref10_One.f t159 t160 t161 t162 t165 t168 t171 bt178.1 bt178.2.1 bt178.2.2.1 bt178.2.2.2.1 bt178.2.2.2.2.1 bt178.2.2.2.2.2.1 bt178.2.2.2.2.2.2).bind fun bt191 => ((frag_Fits.f k 2 bt191.1 bt191.2.1 bt191.2.2.1 bt191.2.2.2.1 bt191.2.2.2.2.1 bt191.2.2.2.2.2.1 bt191.2.2.2.2.2.2).bind fun bt205 => ((frag_Fits.f k 0 bt191.1 bt191.2.1 bt191.2.2.1 bt191.2.2.2.1 bt191.2.2.2.2.1 bt191.2.2.2.2.2.1 bt191.2.2.2.2.2.2).bind fun bt209 => (if bt209.1 = 0 then (if bt205.1 = 13 then (if bt205.2.2 = 2 then ((frag_Fits.f k 3 bt191.1 bt191.2.1 bt191.2.2.1 bt191.2.2.2.1 bt191.2.2.2.2.1 bt191.2.2.2.2.2.1 bt191.2.2.2.2.2.2).bind fun bt212 => (if bt212.1 = 1 then ((frag_Says.f k 2 21).bind fun t215 => (if t215 = true then ((frag_Says.f k 2 2).bind fun t216 => (some (!t216))) else (none))) else (none))) else (none)) else (none)) else (none))))))) = some r := H
  have A1 := Aside0.mk A10
  clear A10
  replace H := Option.bind_eq_some_iff.mp H
  obtain ⟨⟨t172, t175⟩, A20, H⟩ := H
  replace H : ((triglyphref10_Lit.f t172 t175).bind fun bt178 => ((triglyphref10_One.f t159 t160 t161 t162 t165 t168 t171 bt178.1 bt178.2.1 bt178.2.2.1 bt178.2.2.2.1 bt178.2.2.2.2.1 bt178.2.2.2.2.2.1 bt178.2.2.2.2.2.2).bind fun bt191 => ((frag_Fits.f k 2 bt191.1 bt191.2.1 bt191.2.2.1 bt191.2.2.2.1 bt191.2.2.2.2.1 bt191.2.2.2.2.2.1 bt191.2.2.2.2.2.2).bind fun bt205 => ((frag_Fits.f k 0 bt191.1 bt191.2.1 bt191.2.2.1 bt191.2.2.2.1 bt191.2.2.2.2.1 bt191.2.2.2.2.2.1 bt191.2.2.2.2.2.2).bind fun bt209 => (if bt209.1 = 0 then (if bt205.1 = 13 then (if bt205.2.2 = 2 then ((frag_Fits.f k 3 bt191.1 bt191.2.1 bt191.2.2.1 bt191.2.2.2.1 bt191.2.2.2.2.1 bt191.2.2.2.2.2.1 bt191.2.2.2.2.2.2).bind fun bt212 => (if bt212.1 = 1 then ((frag_Says.f k 2 21).bind fun t215 => (if t215 = true then ((frag_Says.f k 2 2).bind fun t216 => (some (!t216))) else (none))) else (none))) else (none)) else (none)) else (none)))))) = some r := H
  have A2 := Aside0.mk A20
  clear A20
  replace H := Option.bind_eq_some_iff.mp H
  obtain ⟨⟨t178, t179, t180, t181, t184, t187, t190⟩, A30, H⟩ := H
  replace H : ((triglyphref10_One.f t159 t160 t161 t162 t165 t168 t171 t178 t179 t180 t181 t184 t187 t190).bind fun bt191 => ((frag_Fits.f k 2 bt191.1 bt191.2.1 bt191.2.2.1 bt191.2.2.2.1 bt191.2.2.2.2.1 bt191.2.2.2.2.2.1 bt191.2.2.2.2.2.2).bind fun bt205 => ((frag_Fits.f k 0 bt191.1 bt191.2.1 bt191.2.2.1 bt191.2.2.2.1 bt191.2.2.2.2.1 bt191.2.2.2.2.2.1 bt191.2.2.2.2.2.2).bind fun bt209 => (if bt209.1 = 0 then (if bt205.1 = 13 then (if bt205.2.2 = 2 then ((frag_Fits.f k 3 bt191.1 bt191.2.1 bt191.2.2.1 bt191.2.2.2.1 bt191.2.2.2.2.1 bt191.2.2.2.2.2.1 bt191.2.2.2.2.2.2).bind fun bt212 => (if bt212.1 = 1 then ((frag_Says.f k 2 21).bind fun t215 => (if t215 = true then ((frag_Says.f k 2 2).bind fun t216 => (some (!t216))) else (none))) else (none))) else (none)) else (none)) else (none))))) = some r := H
  have A3 := Aside0.mk A30
  clear A30
  replace H := Option.bind_eq_some_iff.mp H
  obtain ⟨⟨t191, t192, t193, t194, t197, t200, t203⟩, A40, H⟩ := H
  replace H : ((frag_Fits.f k 2 t191 t192 t193 t194 t197 t200 t203).bind fun bt205 => ((frag_Fits.f k 0 t191 t192 t193 t194 t197 t200 t203).bind fun bt209 => (if bt209.1 = 0 then (if bt205.1 = 13 then (if bt205.2.2 = 2 then ((frag_Fits.f k 3 t191 t192 t193 t194 t197 t200 t203).bind fun bt212 => (if bt212.1 = 1 then ((frag_Says.f k 2 21).bind fun t215 => (if t215 = true then ((frag_Says.f k 2 2).bind fun t216 => (some (!t216))) else (none))) else (none))) else (none)) else (none)) else (none)))) = some r := H
  have A4 := Aside0.mk A40
  clear A40
  replace H := Option.bind_eq_some_iff.mp H
  obtain ⟨⟨t205, t206, t207⟩, A50, H⟩ := H
  replace H : ((frag_Fits.f k 0 t191 t192 t193 t194 t197 t200 t203).bind fun bt209 => (if bt209.1 = 0 then (if t205 = 13 then (if t207 = 2 then ((frag_Fits.f k 3 t191 t192 t193 t194 t197 t200 t203).bind fun bt212 => (if bt212.1 = 1 then ((frag_Says.f k 2 21).bind fun t215 => (if t215 = true then ((frag_Says.f k 2 2).bind fun t216 => (some (!t216))) else (none))) else (none))) else (none)) else (none)) else (none))) = some r := H
  have A5 := Aside0.mk A50
  clear A50
  replace H := Option.bind_eq_some_iff.mp H
  obtain ⟨⟨t209, t210, t211⟩, A60, H⟩ := H
  replace H : (if t209 = 0 then (if t205 = 13 then (if t207 = 2 then ((frag_Fits.f k 3 t191 t192 t193 t194 t197 t200 t203).bind fun bt212 => (if bt212.1 = 1 then ((frag_Says.f k 2 21).bind fun t215 => (if t215 = true then ((frag_Says.f k 2 2).bind fun t216 => (some (!t216))) else (none))) else (none))) else (none)) else (none)) else (none)) = some r := H
  have A6 := Aside0.mk A60
  clear A60
  by_cases c7 : t209 = 0
  · rw [if_pos c7] at H
    have c7b0 : (t209 == 0) = true := beq_iff_eq.mpr c7
    have c7b1 : (t209 != 0) = false := bne_eq_false_iff_eq.mpr c7
    clear c7
    by_cases c8 : t205 = 13
    · rw [if_pos c8] at H
      have c8b0 : (t205 == 13) = true := beq_iff_eq.mpr c8
      have c8b1 : (t205 != 13) = false := bne_eq_false_iff_eq.mpr c8
      clear c8
      by_cases c9 : t207 = 2
      · rw [if_pos c9] at H
        have c9b0 : (t207 == 2) = true := beq_iff_eq.mpr c9
        have c9b1 : (t207 != 2) = false := bne_eq_false_iff_eq.mpr c9
        clear c9
        replace H := Option.bind_eq_some_iff.mp H
        obtain ⟨⟨t212, t213, t214⟩, A100, H⟩ := H
        replace H : (if t212 = 1 then ((frag_Says.f k 2 21).bind fun t215 => (if t215 = true then ((frag_Says.f k 2 2).bind fun t216 => (some (!t216))) else (none))) else (none)) = some r := H
        have A10 := Aside0.mk A100
        clear A100
        by_cases c11 : t212 = 1
        · rw [if_pos c11] at H
          have c11b0 : (t212 == 1) = true := beq_iff_eq.mpr c11
          have c11b1 : (t212 != 1) = false := bne_eq_false_iff_eq.mpr c11
          clear c11
          replace H := Option.bind_eq_some_iff.mp H
          obtain ⟨t215, A120, H⟩ := H
          replace H : (if t215 = true then ((frag_Says.f k 2 2).bind fun t216 => (some (!t216))) else (none)) = some r := H
          have A12 := Aside0.mk A120
          clear A120
          by_cases c13 : t215 = true
          · subst c13
            have H1 : ((frag_Says.f k 2 2).bind fun t216 => (some (!t216))) = some r := by rw [if_pos rfl] at H; exact H
            clear H; have H := H1; clear H1
            replace H := Option.bind_eq_some_iff.mp H
            obtain ⟨t216, A140, H⟩ := H
            replace H : (some (!t216)) = some r := H
            have A14 := Aside0.mk A140
            clear A140
            obtain rfl := Option.some.inj H
            go_enter Try.func7, Try.ntmps7
            go_wp2_with (first | ((with_reducible refine gate_callee (f := 15) rfl ?_); refine goesL_ (some 3) rfl rfl Try.func15 (by kernel_rfl) rfl #[.int .i64 15] rfl (by (try simp only [List.map_toArray, List.map_cons, List.map_nil]); first | done | rfl | (simp only [List.length_drop, List.length_take]; rfl)) ?_; (with_reducible refine (triglyphref10_Prim.calls 15 t159 t160 t161 t162 t165 t168 t171 _ A1.out).mono ?_); rintro e w15 ⟨v163, v166, v169, rfl, ho0, ho1, ho2, hb⟩; refine ⟨_, rfl, ?_⟩; have n0_ := Aside0.mk (Kd.R_lower ho0 (below_size (by repeat (first | (with_reducible first | exact HB.out | apply below_alloc | apply pw_below_drewN | apply below_drew1) | exact HB.out)))); have n1_ := Aside0.mk (Kd.N_lower (Kd.N_mono (ok' := fun k_ => some k_ ≠ (v163 : Value).ownBlock ∧ some k_ ≠ (v169 : Value).ownBlock) (Kd.R_N (Kd.R_bound (Kd.R_apart' ho1 (Kd.R_typed ho2) (by decide)))) (fun k_ hk_ => ⟨hk_.1.1, hk_.1.2⟩)) (below_size (by repeat (first | (with_reducible first | exact HB.out | apply below_alloc | apply pw_below_drewN | apply below_drew1) | exact HB.out)))); have n2_ := Aside0.mk (Kd.N_lower (Kd.N_mono (ok' := fun k_ => some k_ ≠ (v163 : Value).ownBlock ∧ some k_ ≠ (v166 : Value).ownBlock) (Kd.R_N (Kd.R_bound ho2)) (fun k_ hk_ => ⟨hk_.1.1, hk_.1.2⟩)) (below_size (by repeat (first | (with_reducible first | exact HB.out | apply below_alloc | apply pw_below_drewN | apply below_drew1) | exact HB.out)))); have n3_ := Aside0.mk (below_step (by repeat (first | (with_reducible first | exact HB.out | apply below_alloc | apply pw_below_drewN | apply below_drew1) | exact HB.out)) hb); clear HB; have HO164 := n0_; have HO167 := n1_; have HO170 := n2_; have HB := n3_; clear n0_ n1_ n2_ n3_; (try clear hb); (try clear hb2); (try clear hk); (try clear hi); (try clear ho0); (try clear ho1); (try clear ho2)) | ((with_reducible refine gate_callee (f := 17) rfl ?_); refine goesL_ (some 4) rfl rfl Try.func17 (by kernel_rfl) rfl #[.int .i64 1] rfl (by (try simp only [List.map_toArray, List.map_cons, List.map_nil]); first | done | rfl | (simp only [List.length_drop, List.length_take]; rfl)) ?_; (with_reducible refine (triglyphref03_Atom.calls 1 t172 t175 _ A2.out).mono ?_); rintro e w16 ⟨v173, v176, rfl, ho0, ho1, hb⟩; refine ⟨_, rfl, ?_⟩; have n0_ := Aside0.mk (Kd.R_elder' (by (with_reducible repeat (first | apply Kd.R_alloc | apply Kd.R_drewN | apply Kd.R_drew)); exact HO164.out) (Kd.R_base ho0) hb); have n1_ := Aside0.mk (Kd.N_mono (Kd.N_told (Kd.N_told (Kd.N_old (by (with_reducible repeat (first | apply Kd.N_alloc | apply Kd.N_drewN | apply Kd.N_drew)); exact HO167.out) hb) (Kd.R_base ho0)) (by first | exact Kd.N_base ho1 | exact Kd.R_base ho1)) (fun _ h_ => h_.1)); have n2_ := Aside0.mk (Kd.N_mono (Kd.N_told (Kd.N_told (Kd.N_old (by (with_reducible repeat (first | apply Kd.N_alloc | apply Kd.N_drewN | apply Kd.N_drew)); exact HO170.out) hb) (Kd.R_base ho0)) (by first | exact Kd.N_base ho1 | exact Kd.R_base ho1)) (fun _ h_ => h_.1)); have n3_ := Aside0.mk (Kd.R_lower (Kd.R_new' ho0 (Kd.R_lt (by (with_reducible repeat (first | apply Kd.R_alloc | apply Kd.R_drewN | apply Kd.R_drew)); exact HO164.out))) (below_size (by repeat (first | (with_reducible first | exact HB.out | apply below_alloc | apply pw_below_drewN | apply below_drew1) | exact HB.out)))); have n4_ := Aside0.mk (Kd.N_lower (Kd.N_mono (ok' := fun k_ => some k_ ≠ (v173 : Value).ownBlock ∧ some k_ ≠ (v163 : Value).ownBlock ∧ some k_ ≠ (v166 : Value).ownBlock ∧ some k_ ≠ (v169 : Value).ownBlock) (Kd.R_N (Kd.R_bound ho1)) (fun k_ hk_ => ⟨hk_.1, (Kd.fresh' (Kd.R_lt (by (with_reducible repeat (first | apply Kd.R_alloc | apply Kd.R_drewN | apply Kd.R_drew)); exact HO164.out)) k_ hk_.2.1), (Kd.fresh' (Kd.N_lt (by (with_reducible repeat (first | apply Kd.N_alloc | apply Kd.N_drewN | apply Kd.N_drew)); exact HO167.out)) k_ hk_.2.1), (Kd.fresh' (Kd.N_lt (by (with_reducible repeat (first | apply Kd.N_alloc | apply Kd.N_drewN | apply Kd.N_drew)); exact HO170.out)) k_ hk_.2.1)⟩)) (below_size (by repeat (first | (with_reducible first | exact HB.out | apply below_alloc | apply pw_below_drewN | apply below_drew1) | exact HB.out)))); have n5_ := Aside0.mk (below_step (by repeat (first | (with_reducible first | exact HB.out | apply below_alloc | apply pw_below_drewN | apply below_drew1) | exact HB.out)) hb); clear HO164; clear HO167; clear HO170; clear HB; have HO164 := n0_; have HO167 := n1_; have HO170 := n2_; have HO174 := n3_; have HO177 := n4_; have HB := n5_; clear n0_ n1_ n2_ n3_ n4_ n5_; (try clear hb); (try clear hb2); (try clear hk); (try clear hi); (try clear ho0); (try clear ho1); obtain ⟨Ao17, co17, eo17⟩ := Kd.R_slice HO174.out; subst eo17; obtain ⟨Ao18, co18, eo18⟩ := Kd.N_slice HO177.out; subst eo18) | ((with_reducible refine gate_callee (f := 16) rfl ?_); refine goesL_ (some 5) rfl rfl Try.func16 (by kernel_rfl) rfl #[.agg #[.slice Ao17 t172.length co17, .slice Ao18 t175.length co18]] rfl (by (try simp only [List.map_toArray, List.map_cons, List.map_nil]); first | done | rfl | (simp only [List.length_drop, List.length_take]; rfl)) ?_; (with_reducible refine (triglyphref10_Lit.calls (fun k_ => some k_ = (.slice Ao17 t172.length co17 : Value).ownBlock) (.slice Ao17 t172.length co17) t172 (fun k_ => (some k_ ≠ (.slice Ao17 t172.length co17 : Value).ownBlock ∧ (some k_ ≠ (v163 : Value).ownBlock ∧ (some k_ ≠ (v166 : Value).ownBlock ∧ some k_ ≠ (v169 : Value).ownBlock)))) _ _ t175 t178 t179 t180 t181 t184 t187 t190 w _ ?side1 ?side2 ?side3 A3.out).mono ?_); (case side1 => repeat (first | (with_reducible first | exact HB.out | apply below_alloc | apply pw_below_drewN | apply below_drew1) | exact HB.out)); (case side2 => exact Kd.R_tight rfl HO174.out); (case side3 => exact Kd.V_mono (Kd.N_V (HO177.out)) (fun k_ hk_ => ⟨hk_, hk_.1⟩)); rintro e w19 ⟨v182, v185, v188, rfl, ho0, ho1, ho2, hb, hkp⟩; refine ⟨_, rfl, ?_⟩; have n0_ := Aside0.mk (Kd.R_mono (ok' := fun k_ => some k_ ≠ (v182 : Value).ownBlock) (Kd.R_keptB (HO164.out) hkp (fun k_ hk_ hs_ => (hk_.2) hs_)) (fun k_ hk_ => fun e_ => Or.elim (ho0.1 k_ e_.symm) (fun hs_ => hk_.2.1 hs_) (fun hn_ => Nat.not_le.2 hk_.2.2 hn_))); have n1_ := Aside0.mk (Kd.N_mono (ok' := fun k_ => some k_ ≠ (v163 : Value).ownBlock ∧ some k_ ≠ (v169 : Value).ownBlock ∧ some k_ ≠ (.slice Ao18 t175.length co18 : Value).ownBlock ∧ some k_ ≠ (v182 : Value).ownBlock ∧ some k_ ≠ (v188 : Value).ownBlock) (Kd.N_keptB (HO167.out) hkp (fun k_ hk_ hs_ => (hk_.1.2) hs_)) (fun k_ hk_ => ⟨hk_.1.1.1.1, hk_.1.1.1.2, hk_.1.2, fun e_ => Or.elim (ho0.1 k_ e_.symm) (fun hs_ => hk_.2.1 hs_) (fun hn_ => Nat.not_le.2 hk_.2.2 hn_), fun e_ => Nat.not_le.2 hk_.2.2 (Kd.N_base ho2 k_ e_.symm)⟩)); have n2_ := Aside0.mk (Kd.N_mono (ok' := fun k_ => some k_ ≠ (v163 : Value).ownBlock ∧ some k_ ≠ (v166 : Value).ownBlock ∧ some k_ ≠ (.slice Ao18 t175.length co18 : Value).ownBlock ∧ some k_ ≠ (v182 : Value).ownBlock ∧ some k_ ≠ (v188 : Value).ownBlock) (Kd.N_keptB (HO170.out) hkp (fun k_ hk_ hs_ => (hk_.1.2) hs_)) (fun k_ hk_ => ⟨hk_.1.1.1.1, hk_.1.1.1.2, hk_.1.2, fun e_ => Or.elim (ho0.1 k_ e_.symm) (fun hs_ => hk_.2.1 hs_) (fun hn_ => Nat.not_le.2 hk_.2.2 hn_), fun e_ => Nat.not_le.2 hk_.2.2 (Kd.N_base ho2 k_ e_.symm)⟩)); have n3_ := Aside0.mk (Kd.N_mono (ok' := fun k_ => some k_ ≠ (v163 : Value).ownBlock ∧ some k_ ≠ (v166 : Value).ownBlock ∧ some k_ ≠ (v169 : Value).ownBlock ∧ some k_ ≠ (v182 : Value).ownBlock ∧ some k_ ≠ (v188 : Value).ownBlock) (Kd.N_keptB (HO177.out) hkp (fun k_ hk_ hs_ => (hk_.1) hs_)) (fun k_ hk_ => ⟨hk_.1.2.1, hk_.1.2.2.1, hk_.1.2.2.2, fun e_ => Or.elim (ho0.1 k_ e_.symm) (fun hs_ => hk_.2.1 hs_) (fun hn_ => Nat.not_le.2 hk_.2.2 hn_), fun e_ => Nat.not_le.2 hk_.2.2 (Kd.N_base ho2 k_ e_.symm)⟩)); have n4_ := Aside0.mk (Kd.R_mono (ok' := fun k_ => some k_ ≠ (v163 : Value).ownBlock) ho0 (fun k_ hk_ => Or.elim hk_ (fun hs_ => fun e_ => (((HO164.out).1 k_ e_.symm).2) hs_) (fun hn_ => (Kd.fresh' (Kd.R_lt (by (with_reducible repeat (first | apply Kd.R_alloc | apply Kd.R_drewN | apply Kd.R_drew)); exact HO164.out)) k_ hn_)))); have n5_ := Aside0.mk (Kd.V_mono (ok' := fun k_ => some k_ ≠ (v182 : Value).ownBlock ∧ some k_ ≠ (v188 : Value).ownBlock ∧ some k_ ≠ (v163 : Value).ownBlock ∧ some k_ ≠ (v166 : Value).ownBlock ∧ some k_ ≠ (v169 : Value).ownBlock) ho1 (fun k_ hk_ => ⟨hk_.2.1, hk_.2.2, Or.elim hk_.1 (fun hs_ => Or.elim hs_ (fun hs_ => fun e_ => (((HO164.out).1 k_ e_.symm).2) hs_) (fun hs_ => hs_.2.1)) (fun hn_ => (Kd.fresh' (Kd.R_lt (by (with_reducible repeat (first | apply Kd.R_alloc | apply Kd.R_drewN | apply Kd.R_drew)); exact HO164.out)) k_ hn_)), Or.elim hk_.1 (fun hs_ => Or.elim hs_ (fun hs_ => fun e_ => (((HO167.out).1 k_ e_.symm).1.2) hs_) (fun hs_ => hs_.2.2.1)) (fun hn_ => (Kd.fresh' (Kd.N_lt (by (with_reducible repeat (first | apply Kd.N_alloc | apply Kd.N_drewN | apply Kd.N_drew)); exact HO167.out)) k_ hn_)), Or.elim hk_.1 (fun hs_ => Or.elim hs_ (fun hs_ => fun e_ => (((HO170.out).1 k_ e_.symm).1.2) hs_) (fun hs_ => hs_.2.2.2)) (fun hn_ => (Kd.fresh' (Kd.N_lt (by (with_reducible repeat (first | apply Kd.N_alloc | apply Kd.N_drewN | apply Kd.N_drew)); exact HO170.out)) k_ hn_))⟩)); have n6_ := Aside0.mk (Kd.N_lower (Kd.N_mono (ok' := fun k_ => some k_ ≠ (v182 : Value).ownBlock ∧ some k_ ≠ (v163 : Value).ownBlock ∧ some k_ ≠ (v166 : Value).ownBlock ∧ some k_ ≠ (v169 : Value).ownBlock) ho2 (fun k_ hk_ => ⟨hk_.2, Or.elim hk_.1 (fun hs_ => Or.elim hs_ (fun hs_ => fun e_ => (((HO164.out).1 k_ e_.symm).2) hs_) (fun hs_ => hs_.2.1)) (fun hn_ => (Kd.fresh' (Kd.R_lt (by (with_reducible repeat (first | apply Kd.R_alloc | apply Kd.R_drewN | apply Kd.R_drew)); exact HO164.out)) k_ hn_)), Or.elim hk_.1 (fun hs_ => Or.elim hs_ (fun hs_ => fun e_ => (((HO167.out).1 k_ e_.symm).1.2) hs_) (fun hs_ => hs_.2.2.1)) (fun hn_ => (Kd.fresh' (Kd.N_lt (by (with_reducible repeat (first | apply Kd.N_alloc | apply Kd.N_drewN | apply Kd.N_drew)); exact HO167.out)) k_ hn_)), Or.elim hk_.1 (fun hs_ => Or.elim hs_ (fun hs_ => fun e_ => (((HO170.out).1 k_ e_.symm).1.2) hs_) (fun hs_ => hs_.2.2.2)) (fun hn_ => (Kd.fresh' (Kd.N_lt (by (with_reducible repeat (first | apply Kd.N_alloc | apply Kd.N_drewN | apply Kd.N_drew)); exact HO170.out)) k_ hn_))⟩)) (below_size (by repeat (first | (with_reducible first | exact HB.out | apply below_alloc | apply pw_below_drewN | apply below_drew1) | exact HB.out)))); have n7_ := Aside0.mk (hb); clear HO164; clear HO167; clear HO170; clear HO177; clear HB; clear HO174; have HO164 := n0_; have HO167 := n1_; have HO170 := n2_; have HO177 := n3_; have HO183 := n4_; have HO186 := n5_; have HO189 := n6_; have HB := n7_; clear n0_ n1_ n2_ n3_ n4_ n5_ n6_ n7_; (try clear hb); (try clear hkp); (try clear ho0); (try clear ho1); (try clear ho2); obtain ⟨Ao20, co20, eo20⟩ := Kd.R_slice HO164.out; subst eo20; obtain ⟨Ao21, co21, eo21⟩ := Kd.N_slice HO167.out; subst eo21; obtain ⟨Ao22, co22, eo22⟩ := Kd.N_slice HO170.out; subst eo22; obtain ⟨Ao23, co23, eo23⟩ := Kd.R_slice HO183.out; subst eo23; obtain ⟨Ao24, co24, eo24⟩ := Kd.V_slice HO186.out; subst eo24; obtain ⟨Ao25, co25, eo25⟩ := Kd.N_slice HO189.out; subst eo25) | ((with_reducible refine gate_callee (f := 14) rfl ?_); refine goesL_ (some 6) rfl rfl Try.func14 (by kernel_rfl) rfl #[.agg #[.int .i64 t159, .int .i64 t160, .string t161, .slice Ao20 t162.length co20, .slice Ao21 t165.length co21, .slice Ao22 t168.length co22, .int .i64 t171], .agg #[.int .i64 t178, .int .i64 t179, .string t180, .slice Ao23 t181.length co23, .slice Ao24 t184.length co24, .slice Ao25 t187.length co25, .int .i64 t190]] rfl (by (try simp only [List.map_toArray, List.map_cons, List.map_nil]); first | done | rfl | (simp only [List.length_drop, List.length_take]; rfl)) ?_; (with_reducible refine (triglyphref10_One.calls t159 t160 t161 (fun k_ => some k_ = (.slice Ao20 t162.length co20 : Value).ownBlock) _ _ t162 (fun k_ => (some k_ ≠ (.slice Ao20 t162.length co20 : Value).ownBlock ∧ (some k_ ≠ (.slice Ao22 t168.length co22 : Value).ownBlock ∧ (some k_ ≠ (.slice Ao18 t175.length co18 : Value).ownBlock ∧ (some k_ ≠ (.slice Ao23 t181.length co23 : Value).ownBlock ∧ some k_ ≠ (.slice Ao25 t187.length co25 : Value).ownBlock))))) _ _ t165 (fun k_ => (some k_ ≠ (.slice Ao20 t162.length co20 : Value).ownBlock ∧ (some k_ ≠ (.slice Ao21 t165.length co21 : Value).ownBlock ∧ (some k_ ≠ (.slice Ao18 t175.length co18 : Value).ownBlock ∧ (some k_ ≠ (.slice Ao23 t181.length co23 : Value).ownBlock ∧ some k_ ≠ (.slice Ao25 t187.length co25 : Value).ownBlock))))) _ _ t168 t171 t178 t179 t180 (fun k_ => some k_ = (.slice Ao23 t181.length co23 : Value).ownBlock) _ _ t181 (fun k_ => (some k_ ≠ (.slice Ao23 t181.length co23 : Value).ownBlock ∧ (some k_ ≠ (.slice Ao25 t187.length co25 : Value).ownBlock ∧ (some k_ ≠ (.slice Ao20 t162.length co20 : Value).ownBlock ∧ (some k_ ≠ (.slice Ao21 t165.length co21 : Value).ownBlock ∧ some k_ ≠ (.slice Ao22 t168.length co22 : Value).ownBlock))))) _ _ t184 (fun k_ => (some k_ ≠ (.slice Ao23 t181.length co23 : Value).ownBlock ∧ (some k_ ≠ (.slice Ao20 t162.length co20 : Value).ownBlock ∧ (some k_ ≠ (.slice Ao21 t165.length co21 : Value).ownBlock ∧ some k_ ≠ (.slice Ao22 t168.length co22 : Value).ownBlock)))) _ _ t187 t190 t191 t192 t193 t194 t197 t200 t203 _ ?side1 ?side2 ?side3 ?side4 ?side5 ?side6 A4.out).mono ?_); (case side1 => exact Kd.R_V (Kd.R_tight rfl (Kd.R_apart' (Kd.R_apart' (Kd.R_apart' (Kd.R_apart' (HO164.out) (Kd.N_typed HO167.out) (by decide)) (Kd.N_typed HO170.out) (by decide)) (Kd.N_typed HO177.out) (by decide)) (Kd.N_typed HO189.out) (by decide)))); (case side2 => exact Kd.N_V (HO167.out)); (case side3 => exact Kd.N_V (HO170.out)); (case side4 => exact Kd.R_V (Kd.R_tight rfl (Kd.R_apart' (Kd.R_apart' (Kd.R_apart' (Kd.R_apart' (HO183.out) (Kd.N_typed HO167.out) (by decide)) (Kd.N_typed HO170.out) (by decide)) (Kd.N_typed HO177.out) (by decide)) (Kd.N_typed HO189.out) (by decide)))); (case side5 => exact HO186.out); (case side6 => exact Kd.N_V (HO189.out)); rintro e w26 ⟨v195, v198, v201, rfl, ho0, ho1, ho2, hb⟩; refine ⟨_, rfl, ?_⟩; have n0_ := Aside0.mk (Kd.R_elder' (by (with_reducible repeat (first | apply Kd.R_alloc | apply Kd.R_drewN | apply Kd.R_drew)); exact HO164.out) (Kd.R_base ho0) hb); have n1_ := Aside0.mk (Kd.N_mono (Kd.N_told (Kd.N_told (Kd.N_told (Kd.N_old (by (with_reducible repeat (first | apply Kd.N_alloc | apply Kd.N_drewN | apply Kd.N_drew)); exact HO167.out) hb) (Kd.R_base ho0)) (by first | exact Kd.N_base ho1 | exact Kd.R_base ho1)) (by first | exact Kd.N_base ho2 | exact Kd.R_base ho2)) (fun _ h_ => h_.1)); have n2_ := Aside0.mk (Kd.N_mono (Kd.N_told (Kd.N_told (Kd.N_told (Kd.N_old (by (with_reducible repeat (first | apply Kd.N_alloc | apply Kd.N_drewN | apply Kd.N_drew)); exact HO170.out) hb) (Kd.R_base ho0)) (by first | exact Kd.N_base ho1 | exact Kd.R_base ho1)) (by first | exact Kd.N_base ho2 | exact Kd.R_base ho2)) (fun _ h_ => h_.1)); have n3_ := Aside0.mk (Kd.N_mono (Kd.N_told (Kd.N_told (Kd.N_told (Kd.N_old (by (with_reducible repeat (first | apply Kd.N_alloc | apply Kd.N_drewN | apply Kd.N_drew)); exact HO177.out) hb) (Kd.R_base ho0)) (by first | exact Kd.N_base ho1 | exact Kd.R_base ho1)) (by first | exact Kd.N_base ho2 | exact Kd.R_base ho2)) (fun _ h_ => h_.1)); have n4_ := Aside0.mk (Kd.R_elder' (by (with_reducible repeat (first | apply Kd.R_alloc | apply Kd.R_drewN | apply Kd.R_drew)); exact HO183.out) (Kd.R_base ho0) hb); have n5_ := Aside0.mk (Kd.V_mono (Kd.V_told (Kd.V_told (Kd.V_told (Kd.V_old (by (with_reducible repeat (first | apply Kd.V_alloc | apply Kd.V_drewN | apply Kd.V_drew)); exact HO186.out) hb) (Kd.R_base ho0)) (by first | exact Kd.N_base ho1 | exact Kd.R_base ho1)) (by first | exact Kd.N_base ho2 | exact Kd.R_base ho2)) (fun _ h_ => h_.1)); have n6_ := Aside0.mk (Kd.N_mono (Kd.N_told (Kd.N_told (Kd.N_told (Kd.N_old (by (with_reducible repeat (first | apply Kd.N_alloc | apply Kd.N_drewN | apply Kd.N_drew)); exact HO189.out) hb) (Kd.R_base ho0)) (by first | exact Kd.N_base ho1 | exact Kd.R_base ho1)) (by first | exact Kd.N_base ho2 | exact Kd.R_base ho2)) (fun _ h_ => h_.1)); have n7_ := Aside0.mk (Kd.R_lower (Kd.R_new' (Kd.R_new' (Kd.R_mono (ok' := fun k_ => True) ho0 (fun _ hk_ => trivial)) (Kd.R_lt (by (with_reducible repeat (first | apply Kd.R_alloc | apply Kd.R_drewN | apply Kd.R_drew)); exact HO164.out))) (Kd.R_lt (by (with_reducible repeat (first | apply Kd.R_alloc | apply Kd.R_drewN | apply Kd.R_drew)); exact HO183.out))) (below_size (by repeat (first | (with_reducible first | exact HB.out | apply below_alloc | apply pw_below_drewN | apply below_drew1) | exact HB.out)))); have n8_ := Aside0.mk (Kd.N_lower (Kd.N_mono (ok' := fun k_ => some k_ ≠ (v195 : Value).ownBlock ∧ some k_ ≠ (v201 : Value).ownBlock) ho1 (fun k_ hk_ => ⟨hk_.2.1, hk_.2.2⟩)) (below_size (by repeat (first | (with_reducible first | exact HB.out | apply below_alloc | apply pw_below_drewN | apply below_drew1) | exact HB.out)))); have n9_ := Aside0.mk (Kd.N_lower (Kd.N_mono (ok' := fun k_ => some k_ ≠ (v195 : Value).ownBlock ∧ some k_ ≠ (v198 : Value).ownBlock) ho2 (fun k_ hk_ => ⟨hk_.2.1, hk_.2.2⟩)) (below_size (by repeat (first | (with_reducible first | exact HB.out | apply below_alloc | apply pw_below_drewN | apply below_drew1) | exact HB.out)))); have n10_ := Aside0.mk (below_step (by repeat (first | (with_reducible first | exact HB.out | apply below_alloc | apply pw_below_drewN | apply below_drew1) | exact HB.out)) hb); clear HO164; clear HO167; clear HO170; clear HO177; clear HO183; clear HO186; clear HO189; clear HB; have HO164 := n0_; have HO167 := n1_; have HO170 := n2_; have HO177 := n3_; have HO183 := n4_; have HO186 := n5_; have HO189 := n6_; have HO196 := n7_; have HO199 := n8_; have HO202 := n9_; have HB := n10_; clear n0_ n1_ n2_ n3_ n4_ n5_ n6_ n7_ n8_ n9_ n10_; (try clear hb); (try clear hb2); (try clear hk); (try clear hi); (try clear ho0); (try clear ho1); (try clear ho2)) | ((with_reducible refine gate_dst (N := 1) rfl ?_); refine box_event ?hg (N := 1) ?hd (cs := #[.int .i64 0, .int .i64 0, .string (⟨#[]⟩ : ByteArray), .slice none 0 0, .slice none 0 0, .slice none 0 0, .int .i64 0]) (t := 28) ?hr ?_; (case hd => rfl); (case hg => rfl); (case hr => first | (go_simp; done) | (go_simp; rfl)); intro gb204 hg w27 hbox hb; have n0_ := Aside0.mk (Kd.R_below (by (with_reducible repeat (first | apply Kd.R_alloc | apply Kd.R_drewN | apply Kd.R_drew)); exact HO164.out) hb); have n1_ := Aside0.mk (Kd.N_below (Kd.N_elderB (by (with_reducible repeat (first | apply Kd.N_alloc | apply Kd.N_drewN | apply Kd.N_drew)); exact HO167.out) gb204 (Nat.le_of_eq hg.symm)) hb); have n2_ := Aside0.mk (Kd.N_below (Kd.N_elderB (by (with_reducible repeat (first | apply Kd.N_alloc | apply Kd.N_drewN | apply Kd.N_drew)); exact HO170.out) gb204 (Nat.le_of_eq hg.symm)) hb); have n3_ := Aside0.mk (Kd.N_below (Kd.N_elderB (by (with_reducible repeat (first | apply Kd.N_alloc | apply Kd.N_drewN | apply Kd.N_drew)); exact HO177.out) gb204 (Nat.le_of_eq hg.symm)) hb); have n4_ := Aside0.mk (Kd.R_below (by (with_reducible repeat (first | apply Kd.R_alloc | apply Kd.R_drewN | apply Kd.R_drew)); exact HO183.out) hb); have n5_ := Aside0.mk (Kd.V_below (Kd.V_elderB (by (with_reducible repeat (first | apply Kd.V_alloc | apply Kd.V_drewN | apply Kd.V_drew)); exact HO186.out) gb204 (Nat.le_of_eq hg.symm)) hb); have n6_ := Aside0.mk (Kd.N_below (Kd.N_elderB (by (with_reducible repeat (first | apply Kd.N_alloc | apply Kd.N_drewN | apply Kd.N_drew)); exact HO189.out) gb204 (Nat.le_of_eq hg.symm)) hb); have n7_ := Aside0.mk (Kd.R_below (by (with_reducible repeat (first | apply Kd.R_alloc | apply Kd.R_drewN | apply Kd.R_drew)); exact HO196.out) hb); have n8_ := Aside0.mk (Kd.N_below (Kd.N_elderB (by (with_reducible repeat (first | apply Kd.N_alloc | apply Kd.N_drewN | apply Kd.N_drew)); exact HO199.out) gb204 (Nat.le_of_eq hg.symm)) hb); have n9_ := Aside0.mk (Kd.N_below (Kd.N_elderB (by (with_reducible repeat (first | apply Kd.N_alloc | apply Kd.N_drewN | apply Kd.N_drew)); exact HO202.out) gb204 (Nat.le_of_eq hg.symm)) hb); have n10_ := Aside0.mk (below_step (by repeat (first | (with_reducible first | exact HB.out | apply below_alloc | apply pw_below_drewN | apply below_drew1) | exact HB.out)) hb); have n11_ := Aside0.mk (hbox); have n12_ := Aside0.mk ((by rw [hg]; exact (below_size (by repeat (first | (with_reducible first | exact HB.out | apply below_alloc | apply pw_below_drewN | apply below_drew1) | exact HB.out))) : w.heap.size ≤ gb204)); have n13_ := Aside0.mk ((by rw [hg]; exact (below_size (by repeat (first | (with_reducible first | exact HB.out | apply below_alloc | apply pw_below_drewN | apply below_drew1) | exact HB.out))) : w.heap.size ≤ gb204)); clear HO164; clear HO167; clear HO170; clear HO177; clear HO183; clear HO186; clear HO189; clear HO196; clear HO199; clear HO202; clear HB; have HO164 := n0_; have HO167 := n1_; have HO170 := n2_; have HO177 := n3_; have HO183 := n4_; have HO186 := n5_; have HO189 := n6_; have HO196 := n7_; have HO199 := n8_; have HO202 := n9_; have HB := n10_; have BK204 := n11_; have GW204 := n12_; have GE204 := n13_; clear n0_ n1_ n2_ n3_ n4_ n5_ n6_ n7_ n8_ n9_ n10_ n11_ n12_ n13_; clear hb hbox hg; have hcz28_0 : w27.cell? ⟨gb204, 0, none⟩ = some (.int .i64 0) := (blk_cell BK204.out 0).trans rfl; have hcz28_1 : w27.cell? ⟨gb204, 1, none⟩ = some (.int .i64 0) := (blk_cell BK204.out 1).trans rfl; have hcz28_2 : w27.cell? ⟨gb204, 2, none⟩ = some (.string (⟨#[]⟩ : ByteArray)) := (blk_cell BK204.out 2).trans rfl; have hcz28_3 : w27.cell? ⟨gb204, 3, none⟩ = some (.slice none 0 0) := (blk_cell BK204.out 3).trans rfl; have hcz28_4 : w27.cell? ⟨gb204, 4, none⟩ = some (.slice none 0 0) := (blk_cell BK204.out 4).trans rfl; have hcz28_5 : w27.cell? ⟨gb204, 5, none⟩ = some (.slice none 0 0) := (blk_cell BK204.out 5).trans rfl; have hcz28_6 : w27.cell? ⟨gb204, 6, none⟩ = some (.int .i64 0) := (blk_cell BK204.out 6).trans rfl; have hfz28_0 := blk_frozen BK204.out 0; have hfz28_1 := blk_frozen BK204.out 1; have hfz28_2 := blk_frozen BK204.out 2; have hfz28_3 := blk_frozen BK204.out 3; have hfz28_4 := blk_frozen BK204.out 4; have hfz28_5 := blk_frozen BK204.out 5; have hfz28_6 := blk_frozen BK204.out 6; obtain ⟨Ao29, co29, eo29⟩ := Kd.R_slice HO196.out; subst eo29; obtain ⟨Ao30, co30, eo30⟩ := Kd.N_slice HO199.out; subst eo30; obtain ⟨Ao31, co31, eo31⟩ := Kd.N_slice HO202.out; subst eo31) | ((with_reducible refine gate_callee (f := 8) rfl ?_); refine goesL_ (some 8) rfl rfl Try.func8 (by kernel_rfl) rfl #[.int .i64 2, .agg #[.int .i64 t191, .int .i64 t192, .string t193, .slice Ao29 t194.length co29, .slice Ao30 t197.length co30, .slice Ao31 t200.length co31, .int .i64 t203]] rfl (by (try simp only [List.map_toArray, List.map_cons, List.map_nil]); first | done | rfl | (simp only [List.length_drop, List.length_take]; rfl)) ?_; (with_reducible refine (frag_Fits.calls k 2 t191 t192 t193 _ _ t194 _ _ t197 _ _ t200 t203 t205 t206 t207 _ ?side1 ?side2 ?side3 ?side4 ?side5 ?side6 A5.out).mono ?_); (case side1 => refine (Kd.R_reads' (e := 3) (base := w.heap.size) (ok := fun k_ => ((True ∧ some k_ ≠ (.slice Ao20 t162.length co20 : Value).ownBlock) ∧ some k_ ≠ (.slice Ao23 t181.length co23 : Value).ownBlock)) (n := t194.length) (c := co29) ?_).2.2; exact (by (with_reducible repeat (first | apply Kd.R_alloc | apply Kd.R_drewN | apply Kd.R_drew)); exact (Kd.R_mono (Kd.R_far (p := ⟨gb204, 6, none⟩) (Kd.R_far (p := ⟨gb204, 5, none⟩) (Kd.R_far (p := ⟨gb204, 4, none⟩) (Kd.R_far (p := ⟨gb204, 3, none⟩) (Kd.R_far (p := ⟨gb204, 2, none⟩) (Kd.R_far (p := ⟨gb204, 1, none⟩) (Kd.R_far (p := ⟨gb204, 0, none⟩) (Kd.R_types HO196.out BK204.out (by decide)) (fun _ hk => hk.2) (.int .i64 t191)) (fun _ hk => hk.2) (.int .i64 t192)) (fun _ hk => hk.2) (.string t193)) (fun _ hk => hk.2) (.slice Ao29 t194.length co29)) (fun _ hk => hk.2) (.slice Ao30 t197.length co30)) (fun _ hk => hk.2) (.slice Ao31 t200.length co31)) (fun _ hk => hk.2) (.int .i64 t203)) (fun _ h_ => h_.1)))); (case side2 => exact (Kd.R_reads' HO196.out).2.1); (case side3 => refine (Kd.N_reads' (e := 57) (base := w.heap.size) (ok := fun k_ => ((some k_ ≠ (.slice Ao29 t194.length co29 : Value).ownBlock ∧ some k_ ≠ (.slice Ao31 t200.length co31 : Value).ownBlock) ∧ k_ ≠ gb204)) (n := t197.length) (c := co30) ?_).2.2; exact (by (with_reducible repeat (first | apply Kd.N_alloc | apply Kd.N_drewN | apply Kd.N_drew)); exact (Kd.N_mono (Kd.N_far (p := ⟨gb204, 6, none⟩) (Kd.N_far (p := ⟨gb204, 5, none⟩) (Kd.N_far (p := ⟨gb204, 4, none⟩) (Kd.N_far (p := ⟨gb204, 3, none⟩) (Kd.N_far (p := ⟨gb204, 2, none⟩) (Kd.N_far (p := ⟨gb204, 1, none⟩) (Kd.N_far (p := ⟨gb204, 0, none⟩) (Kd.N_mono HO199.out (fun k_ hk => (⟨hk, hk.2⟩ : _ ∧ k_ ≠ gb204))) (fun _ hk => hk.2) (.int .i64 t191)) (fun _ hk => hk.2) (.int .i64 t192)) (fun _ hk => hk.2) (.string t193)) (fun _ hk => hk.2) (.slice Ao29 t194.length co29)) (fun _ hk => hk.2) (.slice Ao30 t197.length co30)) (fun _ hk => hk.2) (.slice Ao31 t200.length co31)) (fun _ hk => hk.2) (.int .i64 t203)) (fun _ h_ => h_.1)))); (case side4 => exact (Kd.N_reads' HO199.out).2.1); (case side5 => refine (Kd.N_reads' (e := 28) (base := w.heap.size) (ok := fun k_ => ((some k_ ≠ (.slice Ao29 t194.length co29 : Value).ownBlock ∧ some k_ ≠ (.slice Ao30 t197.length co30 : Value).ownBlock) ∧ k_ ≠ gb204)) (n := t200.length) (c := co31) ?_).2.2; exact (by (with_reducible repeat (first | apply Kd.N_alloc | apply Kd.N_drewN | apply Kd.N_drew)); exact (Kd.N_mono (Kd.N_far (p := ⟨gb204, 6, none⟩) (Kd.N_far (p := ⟨gb204, 5, none⟩) (Kd.N_far (p := ⟨gb204, 4, none⟩) (Kd.N_far (p := ⟨gb204, 3, none⟩) (Kd.N_far (p := ⟨gb204, 2, none⟩) (Kd.N_far (p := ⟨gb204, 1, none⟩) (Kd.N_far (p := ⟨gb204, 0, none⟩) (Kd.N_mono HO202.out (fun k_ hk => (⟨hk, hk.2⟩ : _ ∧ k_ ≠ gb204))) (fun _ hk => hk.2) (.int .i64 t191)) (fun _ hk => hk.2) (.int .i64 t192)) (fun _ hk => hk.2) (.string t193)) (fun _ hk => hk.2) (.slice Ao29 t194.length co29)) (fun _ hk => hk.2) (.slice Ao30 t197.length co30)) (fun _ hk => hk.2) (.slice Ao31 t200.length co31)) (fun _ hk => hk.2) (.int .i64 t203)) (fun _ h_ => h_.1)))); (case side6 => exact (Kd.N_reads' HO202.out).2.1); rintro e w32 ⟨rfl, hb⟩; refine ⟨_, rfl, ?_⟩; have n0_ := Aside0.mk (Kd.R_below (by (with_reducible repeat (first | apply Kd.R_alloc | apply Kd.R_drewN | apply Kd.R_drew)); exact (Kd.R_mono (Kd.R_far (p := ⟨gb204, 6, none⟩) (Kd.R_far (p := ⟨gb204, 5, none⟩) (Kd.R_far (p := ⟨gb204, 4, none⟩) (Kd.R_far (p := ⟨gb204, 3, none⟩) (Kd.R_far (p := ⟨gb204, 2, none⟩) (Kd.R_far (p := ⟨gb204, 1, none⟩) (Kd.R_far (p := ⟨gb204, 0, none⟩) (Kd.R_types HO164.out BK204.out (by decide)) (fun _ hk => hk.2) (.int .i64 t191)) (fun _ hk => hk.2) (.int .i64 t192)) (fun _ hk => hk.2) (.string t193)) (fun _ hk => hk.2) (.slice Ao29 t194.length co29)) (fun _ hk => hk.2) (.slice Ao30 t197.length co30)) (fun _ hk => hk.2) (.slice Ao31 t200.length co31)) (fun _ hk => hk.2) (.int .i64 t203)) (fun _ h_ => h_.1))) hb); have n1_ := Aside0.mk (Kd.N_below (by (with_reducible repeat (first | apply Kd.N_alloc | apply Kd.N_drewN | apply Kd.N_drew)); exact (Kd.N_mono (Kd.N_far (p := ⟨gb204, 6, none⟩) (Kd.N_far (p := ⟨gb204, 5, none⟩) (Kd.N_far (p := ⟨gb204, 4, none⟩) (Kd.N_far (p := ⟨gb204, 3, none⟩) (Kd.N_far (p := ⟨gb204, 2, none⟩) (Kd.N_far (p := ⟨gb204, 1, none⟩) (Kd.N_far (p := ⟨gb204, 0, none⟩) (Kd.N_mono HO167.out (fun k_ hk => (⟨hk, hk.2⟩ : _ ∧ k_ ≠ gb204))) (fun _ hk => hk.2) (.int .i64 t191)) (fun _ hk => hk.2) (.int .i64 t192)) (fun _ hk => hk.2) (.string t193)) (fun _ hk => hk.2) (.slice Ao29 t194.length co29)) (fun _ hk => hk.2) (.slice Ao30 t197.length co30)) (fun _ hk => hk.2) (.slice Ao31 t200.length co31)) (fun _ hk => hk.2) (.int .i64 t203)) (fun _ h_ => h_.1))) hb); have n2_ := Aside0.mk (Kd.N_below (by (with_reducible repeat (first | apply Kd.N_alloc | apply Kd.N_drewN | apply Kd.N_drew)); exact (Kd.N_mono (Kd.N_far (p := ⟨gb204, 6, none⟩) (Kd.N_far (p := ⟨gb204, 5, none⟩) (Kd.N_far (p := ⟨gb204, 4, none⟩) (Kd.N_far (p := ⟨gb204, 3, none⟩) (Kd.N_far (p := ⟨gb204, 2, none⟩) (Kd.N_far (p := ⟨gb204, 1, none⟩) (Kd.N_far (p := ⟨gb204, 0, none⟩) (Kd.N_mono HO170.out (fun k_ hk => (⟨hk, hk.2⟩ : _ ∧ k_ ≠ gb204))) (fun _ hk => hk.2) (.int .i64 t191)) (fun _ hk => hk.2) (.int .i64 t192)) (fun _ hk => hk.2) (.string t193)) (fun _ hk => hk.2) (.slice Ao29 t194.length co29)) (fun _ hk => hk.2) (.slice Ao30 t197.length co30)) (fun _ hk => hk.2) (.slice Ao31 t200.length co31)) (fun _ hk => hk.2) (.int .i64 t203)) (fun _ h_ => h_.1))) hb); have n3_ := Aside0.mk (Kd.N_below (by (with_reducible repeat (first | apply Kd.N_alloc | apply Kd.N_drewN | apply Kd.N_drew)); exact (Kd.N_mono (Kd.N_far (p := ⟨gb204, 6, none⟩) (Kd.N_far (p := ⟨gb204, 5, none⟩) (Kd.N_far (p := ⟨gb204, 4, none⟩) (Kd.N_far (p := ⟨gb204, 3, none⟩) (Kd.N_far (p := ⟨gb204, 2, none⟩) (Kd.N_far (p := ⟨gb204, 1, none⟩) (Kd.N_far (p := ⟨gb204, 0, none⟩) (Kd.N_mono HO177.out (fun k_ hk => (⟨hk, hk.2⟩ : _ ∧ k_ ≠ gb204))) (fun _ hk => hk.2) (.int .i64 t191)) (fun _ hk => hk.2) (.int .i64 t192)) (fun _ hk => hk.2) (.string t193)) (fun _ hk => hk.2) (.slice Ao29 t194.length co29)) (fun _ hk => hk.2) (.slice Ao30 t197.length co30)) (fun _ hk => hk.2) (.slice Ao31 t200.length co31)) (fun _ hk => hk.2) (.int .i64 t203)) (fun _ h_ => h_.1))) hb); have n4_ := Aside0.mk (Kd.R_below (by (with_reducible repeat (first | apply Kd.R_alloc | apply Kd.R_drewN | apply Kd.R_drew)); exact (Kd.R_mono (Kd.R_far (p := ⟨gb204, 6, none⟩) (Kd.R_far (p := ⟨gb204, 5, none⟩) (Kd.R_far (p := ⟨gb204, 4, none⟩) (Kd.R_far (p := ⟨gb204, 3, none⟩) (Kd.R_far (p := ⟨gb204, 2, none⟩) (Kd.R_far (p := ⟨gb204, 1, none⟩) (Kd.R_far (p := ⟨gb204, 0, none⟩) (Kd.R_types HO183.out BK204.out (by decide)) (fun _ hk => hk.2) (.int .i64 t191)) (fun _ hk => hk.2) (.int .i64 t192)) (fun _ hk => hk.2) (.string t193)) (fun _ hk => hk.2) (.slice Ao29 t194.length co29)) (fun _ hk => hk.2) (.slice Ao30 t197.length co30)) (fun _ hk => hk.2) (.slice Ao31 t200.length co31)) (fun _ hk => hk.2) (.int .i64 t203)) (fun _ h_ => h_.1))) hb); have n5_ := Aside0.mk (Kd.V_below (by (with_reducible repeat (first | apply Kd.V_alloc | apply Kd.V_drewN | apply Kd.V_drew)); exact (Kd.V_mono (Kd.V_far (p := ⟨gb204, 6, none⟩) (Kd.V_far (p := ⟨gb204, 5, none⟩) (Kd.V_far (p := ⟨gb204, 4, none⟩) (Kd.V_far (p := ⟨gb204, 3, none⟩) (Kd.V_far (p := ⟨gb204, 2, none⟩) (Kd.V_far (p := ⟨gb204, 1, none⟩) (Kd.V_far (p := ⟨gb204, 0, none⟩) (Kd.V_mono HO186.out (fun k_ hk => (⟨hk, hk.2⟩ : _ ∧ k_ ≠ gb204))) (fun _ hk => hk.2) (.int .i64 t191)) (fun _ hk => hk.2) (.int .i64 t192)) (fun _ hk => hk.2) (.string t193)) (fun _ hk => hk.2) (.slice Ao29 t194.length co29)) (fun _ hk => hk.2) (.slice Ao30 t197.length co30)) (fun _ hk => hk.2) (.slice Ao31 t200.length co31)) (fun _ hk => hk.2) (.int .i64 t203)) (fun _ h_ => h_.1))) hb); have n6_ := Aside0.mk (Kd.N_below (by (with_reducible repeat (first | apply Kd.N_alloc | apply Kd.N_drewN | apply Kd.N_drew)); exact (Kd.N_mono (Kd.N_far (p := ⟨gb204, 6, none⟩) (Kd.N_far (p := ⟨gb204, 5, none⟩) (Kd.N_far (p := ⟨gb204, 4, none⟩) (Kd.N_far (p := ⟨gb204, 3, none⟩) (Kd.N_far (p := ⟨gb204, 2, none⟩) (Kd.N_far (p := ⟨gb204, 1, none⟩) (Kd.N_far (p := ⟨gb204, 0, none⟩) (Kd.N_mono HO189.out (fun k_ hk => (⟨hk, hk.2⟩ : _ ∧ k_ ≠ gb204))) (fun _ hk => hk.2) (.int .i64 t191)) (fun _ hk => hk.2) (.int .i64 t192)) (fun _ hk => hk.2) (.string t193)) (fun _ hk => hk.2) (.slice Ao29 t194.length co29)) (fun _ hk => hk.2) (.slice Ao30 t197.length co30)) (fun _ hk => hk.2) (.slice Ao31 t200.length co31)) (fun _ hk => hk.2) (.int .i64 t203)) (fun _ h_ => h_.1))) hb); have n7_ := Aside0.mk (Kd.R_below (by (with_reducible repeat (first | apply Kd.R_alloc | apply Kd.R_drewN | apply Kd.R_drew)); exact (Kd.R_mono (Kd.R_far (p := ⟨gb204, 6, none⟩) (Kd.R_far (p := ⟨gb204, 5, none⟩) (Kd.R_far (p := ⟨gb204, 4, none⟩) (Kd.R_far (p := ⟨gb204, 3, none⟩) (Kd.R_far (p := ⟨gb204, 2, none⟩) (Kd.R_far (p := ⟨gb204, 1, none⟩) (Kd.R_far (p := ⟨gb204, 0, none⟩) (Kd.R_types HO196.out BK204.out (by decide)) (fun _ hk => hk.2) (.int .i64 t191)) (fun _ hk => hk.2) (.int .i64 t192)) (fun _ hk => hk.2) (.string t193)) (fun _ hk => hk.2) (.slice Ao29 t194.length co29)) (fun _ hk => hk.2) (.slice Ao30 t197.length co30)) (fun _ hk => hk.2) (.slice Ao31 t200.length co31)) (fun _ hk => hk.2) (.int .i64 t203)) (fun _ h_ => h_.1))) hb); have n8_ := Aside0.mk (Kd.N_below (by (with_reducible repeat (first | apply Kd.N_alloc | apply Kd.N_drewN | apply Kd.N_drew)); exact (Kd.N_mono (Kd.N_far (p := ⟨gb204, 6, none⟩) (Kd.N_far (p := ⟨gb204, 5, none⟩) (Kd.N_far (p := ⟨gb204, 4, none⟩) (Kd.N_far (p := ⟨gb204, 3, none⟩) (Kd.N_far (p := ⟨gb204, 2, none⟩) (Kd.N_far (p := ⟨gb204, 1, none⟩) (Kd.N_far (p := ⟨gb204, 0, none⟩) (Kd.N_mono HO199.out (fun k_ hk => (⟨hk, hk.2⟩ : _ ∧ k_ ≠ gb204))) (fun _ hk => hk.2) (.int .i64 t191)) (fun _ hk => hk.2) (.int .i64 t192)) (fun _ hk => hk.2) (.string t193)) (fun _ hk => hk.2) (.slice Ao29 t194.length co29)) (fun _ hk => hk.2) (.slice Ao30 t197.length co30)) (fun _ hk => hk.2) (.slice Ao31 t200.length co31)) (fun _ hk => hk.2) (.int .i64 t203)) (fun _ h_ => h_.1))) hb); have n9_ := Aside0.mk (Kd.N_below (by (with_reducible repeat (first | apply Kd.N_alloc | apply Kd.N_drewN | apply Kd.N_drew)); exact (Kd.N_mono (Kd.N_far (p := ⟨gb204, 6, none⟩) (Kd.N_far (p := ⟨gb204, 5, none⟩) (Kd.N_far (p := ⟨gb204, 4, none⟩) (Kd.N_far (p := ⟨gb204, 3, none⟩) (Kd.N_far (p := ⟨gb204, 2, none⟩) (Kd.N_far (p := ⟨gb204, 1, none⟩) (Kd.N_far (p := ⟨gb204, 0, none⟩) (Kd.N_mono HO202.out (fun k_ hk => (⟨hk, hk.2⟩ : _ ∧ k_ ≠ gb204))) (fun _ hk => hk.2) (.int .i64 t191)) (fun _ hk => hk.2) (.int .i64 t192)) (fun _ hk => hk.2) (.string t193)) (fun _ hk => hk.2) (.slice Ao29 t194.length co29)) (fun _ hk => hk.2) (.slice Ao30 t197.length co30)) (fun _ hk => hk.2) (.slice Ao31 t200.length co31)) (fun _ hk => hk.2) (.int .i64 t203)) (fun _ h_ => h_.1))) hb); have n10_ := Aside0.mk (blk_below (g := gb204) (o := .cells #[.int .i64 t191, .int .i64 t192, .string t193, .slice Ao29 t194.length co29, .slice Ao30 t197.length co30, .slice Ao31 t200.length co31, .int .i64 t203] 28 (0, 0)) (by (with_reducible repeat (first | refine blk_drewN ?_ _ | refine blk_drew ?_ | refine blk_alloc ?_ _)); refine blk_put (cs := #[.int .i64 t191, .int .i64 t192, .string t193, .slice Ao29 t194.length co29, .slice Ao30 t197.length co30, .slice Ao31 t200.length co31, .int .i64 0]) ?_ 6 _ rfl; (with_reducible repeat (first | refine blk_drewN ?_ _ | refine blk_drew ?_ | refine blk_alloc ?_ _)); refine blk_put (cs := #[.int .i64 t191, .int .i64 t192, .string t193, .slice Ao29 t194.length co29, .slice Ao30 t197.length co30, .slice none 0 0, .int .i64 0]) ?_ 5 _ rfl; (with_reducible repeat (first | refine blk_drewN ?_ _ | refine blk_drew ?_ | refine blk_alloc ?_ _)); refine blk_put (cs := #[.int .i64 t191, .int .i64 t192, .string t193, .slice Ao29 t194.length co29, .slice none 0 0, .slice none 0 0, .int .i64 0]) ?_ 4 _ rfl; (with_reducible repeat (first | refine blk_drewN ?_ _ | refine blk_drew ?_ | refine blk_alloc ?_ _)); refine blk_put (cs := #[.int .i64 t191, .int .i64 t192, .string t193, .slice none 0 0, .slice none 0 0, .slice none 0 0, .int .i64 0]) ?_ 3 _ rfl; (with_reducible repeat (first | refine blk_drewN ?_ _ | refine blk_drew ?_ | refine blk_alloc ?_ _)); refine blk_put (cs := #[.int .i64 t191, .int .i64 t192, .string (⟨#[]⟩ : ByteArray), .slice none 0 0, .slice none 0 0, .slice none 0 0, .int .i64 0]) ?_ 2 _ rfl; (with_reducible repeat (first | refine blk_drewN ?_ _ | refine blk_drew ?_ | refine blk_alloc ?_ _)); refine blk_put (cs := #[.int .i64 t191, .int .i64 0, .string (⟨#[]⟩ : ByteArray), .slice none 0 0, .slice none 0 0, .slice none 0 0, .int .i64 0]) ?_ 1 _ rfl; (with_reducible repeat (first | refine blk_drewN ?_ _ | refine blk_drew ?_ | refine blk_alloc ?_ _)); refine blk_put (cs := #[.int .i64 0, .int .i64 0, .string (⟨#[]⟩ : ByteArray), .slice none 0 0, .slice none 0 0, .slice none 0 0, .int .i64 0]) ?_ 0 _ rfl; (with_reducible repeat (first | refine blk_drewN ?_ _ | refine blk_drew ?_ | refine blk_alloc ?_ _)); exact BK204.out) hb); have n11_ := Aside0.mk (below_step (by repeat (first | (with_reducible first | exact HB.out | apply below_alloc | apply pw_below_drewN | apply below_drew1 | refine below_set ?_ GE204.out) | exact HB.out)) hb); clear HO164; clear HO167; clear HO170; clear HO177; clear HO183; clear HO186; clear HO189; clear HO196; clear HO199; clear HO202; clear BK204; clear HB; have HO164 := n0_; have HO167 := n1_; have HO170 := n2_; have HO177 := n3_; have HO183 := n4_; have HO186 := n5_; have HO189 := n6_; have HO196 := n7_; have HO199 := n8_; have HO202 := n9_; have BK204 := n10_; have HB := n11_; clear n0_ n1_ n2_ n3_ n4_ n5_ n6_ n7_ n8_ n9_ n10_ n11_; (try clear hb); (try clear hb2); (try clear hk); (try clear hi)) | ((with_reducible refine gate_dst (N := 2) rfl ?_); refine box_event ?hg (N := 2) ?hd (cs := #[.int .i64 0, .int .i64 0, .int .i64 0]) (t := 33) ?hr ?_; (case hd => rfl); (case hg => rfl); (case hr => first | (go_simp; done) | (go_simp; rfl)); intro gb208 hg w33 hbox hb; have n0_ := Aside0.mk (Kd.R_below (by (with_reducible repeat (first | apply Kd.R_alloc | apply Kd.R_drewN | apply Kd.R_drew)); exact HO164.out) hb); have n1_ := Aside0.mk (Kd.N_below (Kd.N_elderB (by (with_reducible repeat (first | apply Kd.N_alloc | apply Kd.N_drewN | apply Kd.N_drew)); exact HO167.out) gb208 (Nat.le_of_eq hg.symm)) hb); have n2_ := Aside0.mk (Kd.N_below (Kd.N_elderB (by (with_reducible repeat (first | apply Kd.N_alloc | apply Kd.N_drewN | apply Kd.N_drew)); exact HO170.out) gb208 (Nat.le_of_eq hg.symm)) hb); have n3_ := Aside0.mk (Kd.N_below (Kd.N_elderB (by (with_reducible repeat (first | apply Kd.N_alloc | apply Kd.N_drewN | apply Kd.N_drew)); exact HO177.out) gb208 (Nat.le_of_eq hg.symm)) hb); have n4_ := Aside0.mk (Kd.R_below (by (with_reducible repeat (first | apply Kd.R_alloc | apply Kd.R_drewN | apply Kd.R_drew)); exact HO183.out) hb); have n5_ := Aside0.mk (Kd.V_below (Kd.V_elderB (by (with_reducible repeat (first | apply Kd.V_alloc | apply Kd.V_drewN | apply Kd.V_drew)); exact HO186.out) gb208 (Nat.le_of_eq hg.symm)) hb); have n6_ := Aside0.mk (Kd.N_below (Kd.N_elderB (by (with_reducible repeat (first | apply Kd.N_alloc | apply Kd.N_drewN | apply Kd.N_drew)); exact HO189.out) gb208 (Nat.le_of_eq hg.symm)) hb); have n7_ := Aside0.mk (Kd.R_below (by (with_reducible repeat (first | apply Kd.R_alloc | apply Kd.R_drewN | apply Kd.R_drew)); exact HO196.out) hb); have n8_ := Aside0.mk (Kd.N_below (Kd.N_elderB (by (with_reducible repeat (first | apply Kd.N_alloc | apply Kd.N_drewN | apply Kd.N_drew)); exact HO199.out) gb208 (Nat.le_of_eq hg.symm)) hb); have n9_ := Aside0.mk (Kd.N_below (Kd.N_elderB (by (with_reducible repeat (first | apply Kd.N_alloc | apply Kd.N_drewN | apply Kd.N_drew)); exact HO202.out) gb208 (Nat.le_of_eq hg.symm)) hb); have n10_ := Aside0.mk (blk_below (g := gb204) (o := .cells #[.int .i64 t191, .int .i64 t192, .string t193, .slice Ao29 t194.length co29, .slice Ao30 t197.length co30, .slice Ao31 t200.length co31, .int .i64 t203] 28 (0, 0)) (by (with_reducible repeat (first | refine blk_drewN ?_ _ | refine blk_drew ?_ | refine blk_alloc ?_ _)); exact BK204.out) hb); have n11_ := Aside0.mk (below_step (by repeat (first | (with_reducible first | exact HB.out | apply below_alloc | apply pw_below_drewN | apply below_drew1 | refine below_set ?_ GE204.out) | exact HB.out)) hb); have n12_ := Aside0.mk (hbox); have n13_ := Aside0.mk ((by rw [hg]; exact (below_size (by repeat (first | (with_reducible first | exact HB.out | apply below_alloc | apply pw_below_drewN | apply below_drew1 | refine below_set ?_ GE204.out) | exact HB.out))) : w.heap.size ≤ gb208)); have n14_ := Aside0.mk ((by rw [hg]; exact (below_size (by repeat (first | (with_reducible first | exact HB.out | apply below_alloc | apply pw_below_drewN | apply below_drew1 | refine below_set ?_ GE204.out) | exact HB.out))) : w.heap.size ≤ gb208)); have n15_ := Aside0.mk ((by rw [hg]; exact Nat.ne_of_lt (blk_lt (g := gb204) (o := .cells #[.int .i64 t191, .int .i64 t192, .string t193, .slice Ao29 t194.length co29, .slice Ao30 t197.length co30, .slice Ao31 t200.length co31, .int .i64 t203] 28 (0, 0)) (by (with_reducible repeat (first | refine blk_drewN ?_ _ | refine blk_drew ?_ | refine blk_alloc ?_ _)); exact BK204.out)) : gb204 ≠ gb208)); have n16_ := Aside0.mk ((by rw [hg]; exact Nat.ne_of_gt (blk_lt (g := gb204) (o := .cells #[.int .i64 t191, .int .i64 t192, .string t193, .slice Ao29 t194.length co29, .slice Ao30 t197.length co30, .slice Ao31 t200.length co31, .int .i64 t203] 28 (0, 0)) (by (with_reducible repeat (first | refine blk_drewN ?_ _ | refine blk_drew ?_ | refine blk_alloc ?_ _)); exact BK204.out)) : gb208 ≠ gb204)); clear HO164; clear HO167; clear HO170; clear HO177; clear HO183; clear HO186; clear HO189; clear HO196; clear HO199; clear HO202; clear BK204; clear HB; have HO164 := n0_; have HO167 := n1_; have HO170 := n2_; have HO177 := n3_; have HO183 := n4_; have HO186 := n5_; have HO189 := n6_; have HO196 := n7_; have HO199 := n8_; have HO202 := n9_; have BK204 := n10_; have HB := n11_; have BK208 := n12_; have GW208 := n13_; have GE208 := n14_; have NB204_208 := n15_; have NB208_204 := n16_; clear n0_ n1_ n2_ n3_ n4_ n5_ n6_ n7_ n8_ n9_ n10_ n11_ n12_ n13_ n14_ n15_ n16_; clear hb hbox hg; have hnb34 := NB208_204.out; have hnc34 := NB204_208.out; have hcz35_0 : w33.cell? ⟨gb208, 0, none⟩ = some (.int .i64 0) := (blk_cell BK208.out 0).trans rfl; have hcz35_1 : w33.cell? ⟨gb208, 1, none⟩ = some (.int .i64 0) := (blk_cell BK208.out 1).trans rfl; have hcz35_2 : w33.cell? ⟨gb208, 2, none⟩ = some (.int .i64 0) := (blk_cell BK208.out 2).trans rfl; have hfz35_0 := blk_frozen BK208.out 0; have hfz35_1 := blk_frozen BK208.out 1; have hfz35_2 := blk_frozen BK208.out 2; have hcz36_0 : w33.cell? ⟨gb204, 0, none⟩ = some (.int .i64 t191) := (blk_cell BK204.out 0).trans rfl; have hcz36_1 : w33.cell? ⟨gb204, 1, none⟩ = some (.int .i64 t192) := (blk_cell BK204.out 1).trans rfl; have hcz36_2 : w33.cell? ⟨gb204, 2, none⟩ = some (.string t193) := (blk_cell BK204.out 2).trans rfl; have hcz36_3 : w33.cell? ⟨gb204, 3, none⟩ = some (.slice Ao29 t194.length co29) := (blk_cell BK204.out 3).trans rfl; have hcz36_4 : w33.cell? ⟨gb204, 4, none⟩ = some (.slice Ao30 t197.length co30) := (blk_cell BK204.out 4).trans rfl; have hcz36_5 : w33.cell? ⟨gb204, 5, none⟩ = some (.slice Ao31 t200.length co31) := (blk_cell BK204.out 5).trans rfl; have hcz36_6 : w33.cell? ⟨gb204, 6, none⟩ = some (.int .i64 t203) := (blk_cell BK204.out 6).trans rfl; have hfz36_0 := blk_frozen BK204.out 0; have hfz36_1 := blk_frozen BK204.out 1; have hfz36_2 := blk_frozen BK204.out 2; have hfz36_3 := blk_frozen BK204.out 3; have hfz36_4 := blk_frozen BK204.out 4; have hfz36_5 := blk_frozen BK204.out 5; have hfz36_6 := blk_frozen BK204.out 6) | ((with_reducible refine gate_callee (f := 8) rfl ?_); refine goesL_ (some 10) rfl rfl Try.func8 (by kernel_rfl) rfl #[.int .i64 0, .agg #[.int .i64 t191, .int .i64 t192, .string t193, .slice Ao29 t194.length co29, .slice Ao30 t197.length co30, .slice Ao31 t200.length co31, .int .i64 t203]] rfl (by (try simp only [List.map_toArray, List.map_cons, List.map_nil]); first | done | rfl | (simp only [List.length_drop, List.length_take]; rfl)) ?_; (with_reducible refine (frag_Fits.calls k 0 t191 t192 t193 _ _ t194 _ _ t197 _ _ t200 t203 t209 t210 t211 _ ?side1 ?side2 ?side3 ?side4 ?side5 ?side6 A6.out).mono ?_); (case side1 => refine (Kd.R_reads' (e := 3) (base := w.heap.size) (ok := fun k_ => ((True ∧ some k_ ≠ (.slice Ao20 t162.length co20 : Value).ownBlock) ∧ some k_ ≠ (.slice Ao23 t181.length co23 : Value).ownBlock)) (n := t194.length) (c := co29) ?_).2.2; exact (by (with_reducible repeat (first | apply Kd.R_alloc | apply Kd.R_drewN | apply Kd.R_drew)); exact (Kd.R_mono (Kd.R_far (p := ⟨gb208, 2, none⟩) (Kd.R_far (p := ⟨gb208, 1, none⟩) (Kd.R_far (p := ⟨gb208, 0, none⟩) (Kd.R_types HO196.out BK208.out (by decide)) (fun _ hk => hk.2) (.int .i64 t205)) (fun _ hk => hk.2) (.int .i64 t206)) (fun _ hk => hk.2) (.int .i64 t207)) (fun _ h_ => h_.1)))); (case side2 => exact (Kd.R_reads' HO196.out).2.1); (case side3 => refine (Kd.N_reads' (e := 57) (base := w.heap.size) (ok := fun k_ => (((some k_ ≠ (.slice Ao29 t194.length co29 : Value).ownBlock ∧ some k_ ≠ (.slice Ao31 t200.length co31 : Value).ownBlock) ∧ k_ ≠ gb204) ∧ k_ ≠ gb208)) (n := t197.length) (c := co30) ?_).2.2; exact (by (with_reducible repeat (first | apply Kd.N_alloc | apply Kd.N_drewN | apply Kd.N_drew)); exact (Kd.N_mono (Kd.N_far (p := ⟨gb208, 2, none⟩) (Kd.N_far (p := ⟨gb208, 1, none⟩) (Kd.N_far (p := ⟨gb208, 0, none⟩) (Kd.N_mono HO199.out (fun k_ hk => (⟨hk, hk.2⟩ : _ ∧ k_ ≠ gb208))) (fun _ hk => hk.2) (.int .i64 t205)) (fun _ hk => hk.2) (.int .i64 t206)) (fun _ hk => hk.2) (.int .i64 t207)) (fun _ h_ => h_.1)))); (case side4 => exact (Kd.N_reads' HO199.out).2.1); (case side5 => refine (Kd.N_reads' (e := 28) (base := w.heap.size) (ok := fun k_ => (((some k_ ≠ (.slice Ao29 t194.length co29 : Value).ownBlock ∧ some k_ ≠ (.slice Ao30 t197.length co30 : Value).ownBlock) ∧ k_ ≠ gb204) ∧ k_ ≠ gb208)) (n := t200.length) (c := co31) ?_).2.2; exact (by (with_reducible repeat (first | apply Kd.N_alloc | apply Kd.N_drewN | apply Kd.N_drew)); exact (Kd.N_mono (Kd.N_far (p := ⟨gb208, 2, none⟩) (Kd.N_far (p := ⟨gb208, 1, none⟩) (Kd.N_far (p := ⟨gb208, 0, none⟩) (Kd.N_mono HO202.out (fun k_ hk => (⟨hk, hk.2⟩ : _ ∧ k_ ≠ gb208))) (fun _ hk => hk.2) (.int .i64 t205)) (fun _ hk => hk.2) (.int .i64 t206)) (fun _ hk => hk.2) (.int .i64 t207)) (fun _ h_ => h_.1)))); (case side6 => exact (Kd.N_reads' HO202.out).2.1); rintro e w37 ⟨rfl, hb⟩; refine ⟨_, rfl, ?_⟩; have n0_ := Aside0.mk (Kd.R_below (by (with_reducible repeat (first | apply Kd.R_alloc | apply Kd.R_drewN | apply Kd.R_drew)); exact (Kd.R_mono (Kd.R_far (p := ⟨gb208, 2, none⟩) (Kd.R_far (p := ⟨gb208, 1, none⟩) (Kd.R_far (p := ⟨gb208, 0, none⟩) (Kd.R_types HO164.out BK208.out (by decide)) (fun _ hk => hk.2) (.int .i64 t205)) (fun _ hk => hk.2) (.int .i64 t206)) (fun _ hk => hk.2) (.int .i64 t207)) (fun _ h_ => h_.1))) hb); have n1_ := Aside0.mk (Kd.N_below (by (with_reducible repeat (first | apply Kd.N_alloc | apply Kd.N_drewN | apply Kd.N_drew)); exact (Kd.N_mono (Kd.N_far (p := ⟨gb208, 2, none⟩) (Kd.N_far (p := ⟨gb208, 1, none⟩) (Kd.N_far (p := ⟨gb208, 0, none⟩) (Kd.N_mono HO167.out (fun k_ hk => (⟨hk, hk.2⟩ : _ ∧ k_ ≠ gb208))) (fun _ hk => hk.2) (.int .i64 t205)) (fun _ hk => hk.2) (.int .i64 t206)) (fun _ hk => hk.2) (.int .i64 t207)) (fun _ h_ => h_.1))) hb); have n2_ := Aside0.mk (Kd.N_below (by (with_reducible repeat (first | apply Kd.N_alloc | apply Kd.N_drewN | apply Kd.N_drew)); exact (Kd.N_mono (Kd.N_far (p := ⟨gb208, 2, none⟩) (Kd.N_far (p := ⟨gb208, 1, none⟩) (Kd.N_far (p := ⟨gb208, 0, none⟩) (Kd.N_mono HO170.out (fun k_ hk => (⟨hk, hk.2⟩ : _ ∧ k_ ≠ gb208))) (fun _ hk => hk.2) (.int .i64 t205)) (fun _ hk => hk.2) (.int .i64 t206)) (fun _ hk => hk.2) (.int .i64 t207)) (fun _ h_ => h_.1))) hb); have n3_ := Aside0.mk (Kd.N_below (by (with_reducible repeat (first | apply Kd.N_alloc | apply Kd.N_drewN | apply Kd.N_drew)); exact (Kd.N_mono (Kd.N_far (p := ⟨gb208, 2, none⟩) (Kd.N_far (p := ⟨gb208, 1, none⟩) (Kd.N_far (p := ⟨gb208, 0, none⟩) (Kd.N_mono HO177.out (fun k_ hk => (⟨hk, hk.2⟩ : _ ∧ k_ ≠ gb208))) (fun _ hk => hk.2) (.int .i64 t205)) (fun _ hk => hk.2) (.int .i64 t206)) (fun _ hk => hk.2) (.int .i64 t207)) (fun _ h_ => h_.1))) hb); have n4_ := Aside0.mk (Kd.R_below (by (with_reducible repeat (first | apply Kd.R_alloc | apply Kd.R_drewN | apply Kd.R_drew)); exact (Kd.R_mono (Kd.R_far (p := ⟨gb208, 2, none⟩) (Kd.R_far (p := ⟨gb208, 1, none⟩) (Kd.R_far (p := ⟨gb208, 0, none⟩) (Kd.R_types HO183.out BK208.out (by decide)) (fun _ hk => hk.2) (.int .i64 t205)) (fun _ hk => hk.2) (.int .i64 t206)) (fun _ hk => hk.2) (.int .i64 t207)) (fun _ h_ => h_.1))) hb); have n5_ := Aside0.mk (Kd.V_below (by (with_reducible repeat (first | apply Kd.V_alloc | apply Kd.V_drewN | apply Kd.V_drew)); exact (Kd.V_mono (Kd.V_far (p := ⟨gb208, 2, none⟩) (Kd.V_far (p := ⟨gb208, 1, none⟩) (Kd.V_far (p := ⟨gb208, 0, none⟩) (Kd.V_mono HO186.out (fun k_ hk => (⟨hk, hk.2⟩ : _ ∧ k_ ≠ gb208))) (fun _ hk => hk.2) (.int .i64 t205)) (fun _ hk => hk.2) (.int .i64 t206)) (fun _ hk => hk.2) (.int .i64 t207)) (fun _ h_ => h_.1))) hb); have n6_ := Aside0.mk (Kd.N_below (by (with_reducible repeat (first | apply Kd.N_alloc | apply Kd.N_drewN | apply Kd.N_drew)); exact (Kd.N_mono (Kd.N_far (p := ⟨gb208, 2, none⟩) (Kd.N_far (p := ⟨gb208, 1, none⟩) (Kd.N_far (p := ⟨gb208, 0, none⟩) (Kd.N_mono HO189.out (fun k_ hk => (⟨hk, hk.2⟩ : _ ∧ k_ ≠ gb208))) (fun _ hk => hk.2) (.int .i64 t205)) (fun _ hk => hk.2) (.int .i64 t206)) (fun _ hk => hk.2) (.int .i64 t207)) (fun _ h_ => h_.1))) hb); have n7_ := Aside0.mk (Kd.R_below (by (with_reducible repeat (first | apply Kd.R_alloc | apply Kd.R_drewN | apply Kd.R_drew)); exact (Kd.R_mono (Kd.R_far (p := ⟨gb208, 2, none⟩) (Kd.R_far (p := ⟨gb208, 1, none⟩) (Kd.R_far (p := ⟨gb208, 0, none⟩) (Kd.R_types HO196.out BK208.out (by decide)) (fun _ hk => hk.2) (.int .i64 t205)) (fun _ hk => hk.2) (.int .i64 t206)) (fun _ hk => hk.2) (.int .i64 t207)) (fun _ h_ => h_.1))) hb); have n8_ := Aside0.mk (Kd.N_below (by (with_reducible repeat (first | apply Kd.N_alloc | apply Kd.N_drewN | apply Kd.N_drew)); exact (Kd.N_mono (Kd.N_far (p := ⟨gb208, 2, none⟩) (Kd.N_far (p := ⟨gb208, 1, none⟩) (Kd.N_far (p := ⟨gb208, 0, none⟩) (Kd.N_mono HO199.out (fun k_ hk => (⟨hk, hk.2⟩ : _ ∧ k_ ≠ gb208))) (fun _ hk => hk.2) (.int .i64 t205)) (fun _ hk => hk.2) (.int .i64 t206)) (fun _ hk => hk.2) (.int .i64 t207)) (fun _ h_ => h_.1))) hb); have n9_ := Aside0.mk (Kd.N_below (by (with_reducible repeat (first | apply Kd.N_alloc | apply Kd.N_drewN | apply Kd.N_drew)); exact (Kd.N_mono (Kd.N_far (p := ⟨gb208, 2, none⟩) (Kd.N_far (p := ⟨gb208, 1, none⟩) (Kd.N_far (p := ⟨gb208, 0, none⟩) (Kd.N_mono HO202.out (fun k_ hk => (⟨hk, hk.2⟩ : _ ∧ k_ ≠ gb208))) (fun _ hk => hk.2) (.int .i64 t205)) (fun _ hk => hk.2) (.int .i64 t206)) (fun _ hk => hk.2) (.int .i64 t207)) (fun _ h_ => h_.1))) hb); have n10_ := Aside0.mk (blk_below (g := gb204) (o := .cells #[.int .i64 t191, .int .i64 t192, .string t193, .slice Ao29 t194.length co29, .slice Ao30 t197.length co30, .slice Ao31 t200.length co31, .int .i64 t203] 28 (0, 0)) (by (with_reducible repeat (first | refine blk_drewN ?_ _ | refine blk_drew ?_ | refine blk_alloc ?_ _)); refine blk_far ?_ NB204_208.out _; (with_reducible repeat (first | refine blk_drewN ?_ _ | refine blk_drew ?_ | refine blk_alloc ?_ _)); refine blk_far ?_ NB204_208.out _; (with_reducible repeat (first | refine blk_drewN ?_ _ | refine blk_drew ?_ | refine blk_alloc ?_ _)); refine blk_far ?_ NB204_208.out _; (with_reducible repeat (first | refine blk_drewN ?_ _ | refine blk_drew ?_ | refine blk_alloc ?_ _)); exact BK204.out) hb); have n11_ := Aside0.mk (blk_below (g := gb208) (o := .cells #[.int .i64 t205, .int .i64 t206, .int .i64 t207] 33 (0, 0)) (by (with_reducible repeat (first | refine blk_drewN ?_ _ | refine blk_drew ?_ | refine blk_alloc ?_ _)); refine blk_put (cs := #[.int .i64 t205, .int .i64 t206, .int .i64 0]) ?_ 2 _ rfl; (with_reducible repeat (first | refine blk_drewN ?_ _ | refine blk_drew ?_ | refine blk_alloc ?_ _)); refine blk_put (cs := #[.int .i64 t205, .int .i64 0, .int .i64 0]) ?_ 1 _ rfl; (with_reducible repeat (first | refine blk_drewN ?_ _ | refine blk_drew ?_ | refine blk_alloc ?_ _)); refine blk_put (cs := #[.int .i64 0, .int .i64 0, .int .i64 0]) ?_ 0 _ rfl; (with_reducible repeat (first | refine blk_drewN ?_ _ | refine blk_drew ?_ | refine blk_alloc ?_ _)); exact BK208.out) hb); have n12_ := Aside0.mk (below_step (by repeat (first | (with_reducible first | exact HB.out | apply below_alloc | apply pw_below_drewN | apply below_drew1 | refine below_set ?_ GE204.out | refine below_set ?_ GE208.out) | exact HB.out)) hb); clear HO164; clear HO167; clear HO170; clear HO177; clear HO183; clear HO186; clear HO189; clear HO196; clear HO199; clear HO202; clear BK204; clear BK208; clear HB; have HO164 := n0_; have HO167 := n1_; have HO170 := n2_; have HO177 := n3_; have HO183 := n4_; have HO186 := n5_; have HO189 := n6_; have HO196 := n7_; have HO199 := n8_; have HO202 := n9_; have BK204 := n10_; have BK208 := n11_; have HB := n12_; clear n0_ n1_ n2_ n3_ n4_ n5_ n6_ n7_ n8_ n9_ n10_ n11_ n12_; (try clear hb); (try clear hb2); (try clear hk); (try clear hi); have hcz38_0 : w37.cell? ⟨gb208, 0, none⟩ = some (.int .i64 t205) := (blk_cell BK208.out 0).trans rfl; have hcz38_1 : w37.cell? ⟨gb208, 1, none⟩ = some (.int .i64 t206) := (blk_cell BK208.out 1).trans rfl; have hcz38_2 : w37.cell? ⟨gb208, 2, none⟩ = some (.int .i64 t207) := (blk_cell BK208.out 2).trans rfl; have hfz38_0 := blk_frozen BK208.out 0; have hfz38_1 := blk_frozen BK208.out 1; have hfz38_2 := blk_frozen BK208.out 2; have hcz39_0 : w37.cell? ⟨gb204, 0, none⟩ = some (.int .i64 t191) := (blk_cell BK204.out 0).trans rfl; have hcz39_1 : w37.cell? ⟨gb204, 1, none⟩ = some (.int .i64 t192) := (blk_cell BK204.out 1).trans rfl; have hcz39_2 : w37.cell? ⟨gb204, 2, none⟩ = some (.string t193) := (blk_cell BK204.out 2).trans rfl; have hcz39_3 : w37.cell? ⟨gb204, 3, none⟩ = some (.slice Ao29 t194.length co29) := (blk_cell BK204.out 3).trans rfl; have hcz39_4 : w37.cell? ⟨gb204, 4, none⟩ = some (.slice Ao30 t197.length co30) := (blk_cell BK204.out 4).trans rfl; have hcz39_5 : w37.cell? ⟨gb204, 5, none⟩ = some (.slice Ao31 t200.length co31) := (blk_cell BK204.out 5).trans rfl; have hcz39_6 : w37.cell? ⟨gb204, 6, none⟩ = some (.int .i64 t203) := (blk_cell BK204.out 6).trans rfl; have hfz39_0 := blk_frozen BK204.out 0; have hfz39_1 := blk_frozen BK204.out 1; have hfz39_2 := blk_frozen BK204.out 2; have hfz39_3 := blk_frozen BK204.out 3; have hfz39_4 := blk_frozen BK204.out 4; have hfz39_5 := blk_frozen BK204.out 5; have hfz39_6 := blk_frozen BK204.out 6) | (go_at_call 8; (with_reducible refine (frag_Fits.calls k 3 t191 t192 t193 _ _ t194 _ _ t197 _ _ t200 t203 t212 t213 t214 _ ?side1 ?side2 ?side3 ?side4 ?side5 ?side6 A10.out).mono ?_); (case side1 => repeat (first | exact (Kd.R_reads' HO196.out).2.2 | (with_reducible refine Kd.C_alloc ?_ _) | (with_reducible refine Kd.C_drewN ?_ _) | (with_reducible refine Kd.C_drew ?_))); (case side2 => exact (Kd.R_reads' HO196.out).2.1); (case side3 => repeat (first | exact (Kd.N_reads' HO199.out).2.2 | (with_reducible refine Kd.C_alloc ?_ _) | (with_reducible refine Kd.C_drewN ?_ _) | (with_reducible refine Kd.C_drew ?_))); (case side4 => exact (Kd.N_reads' HO199.out).2.1); (case side5 => repeat (first | exact (Kd.N_reads' HO202.out).2.2 | (with_reducible refine Kd.C_alloc ?_ _) | (with_reducible refine Kd.C_drewN ?_ _) | (with_reducible refine Kd.C_drew ?_))); (case side6 => exact (Kd.N_reads' HO202.out).2.1); rintro e w40 ⟨rfl, hb⟩; have n0_ := Aside0.mk (Kd.R_below (by (with_reducible repeat (first | apply Kd.R_alloc | apply Kd.R_drewN | apply Kd.R_drew)); exact HO164.out) hb); have n1_ := Aside0.mk (Kd.N_below (by (with_reducible repeat (first | apply Kd.N_alloc | apply Kd.N_drewN | apply Kd.N_drew)); exact HO167.out) hb); have n2_ := Aside0.mk (Kd.N_below (by (with_reducible repeat (first | apply Kd.N_alloc | apply Kd.N_drewN | apply Kd.N_drew)); exact HO170.out) hb); have n3_ := Aside0.mk (Kd.N_below (by (with_reducible repeat (first | apply Kd.N_alloc | apply Kd.N_drewN | apply Kd.N_drew)); exact HO177.out) hb); have n4_ := Aside0.mk (Kd.R_below (by (with_reducible repeat (first | apply Kd.R_alloc | apply Kd.R_drewN | apply Kd.R_drew)); exact HO183.out) hb); have n5_ := Aside0.mk (Kd.V_below (by (with_reducible repeat (first | apply Kd.V_alloc | apply Kd.V_drewN | apply Kd.V_drew)); exact HO186.out) hb); have n6_ := Aside0.mk (Kd.N_below (by (with_reducible repeat (first | apply Kd.N_alloc | apply Kd.N_drewN | apply Kd.N_drew)); exact HO189.out) hb); have n7_ := Aside0.mk (Kd.R_below (by (with_reducible repeat (first | apply Kd.R_alloc | apply Kd.R_drewN | apply Kd.R_drew)); exact HO196.out) hb); have n8_ := Aside0.mk (Kd.N_below (by (with_reducible repeat (first | apply Kd.N_alloc | apply Kd.N_drewN | apply Kd.N_drew)); exact HO199.out) hb); have n9_ := Aside0.mk (Kd.N_below (by (with_reducible repeat (first | apply Kd.N_alloc | apply Kd.N_drewN | apply Kd.N_drew)); exact HO202.out) hb); have n10_ := Aside0.mk (blk_below (g := gb204) (o := .cells #[.int .i64 t191, .int .i64 t192, .string t193, .slice Ao29 t194.length co29, .slice Ao30 t197.length co30, .slice Ao31 t200.length co31, .int .i64 t203] 28 (0, 0)) (by (with_reducible repeat (first | refine blk_drewN ?_ _ | refine blk_drew ?_ | refine blk_alloc ?_ _)); exact BK204.out) hb); have n11_ := Aside0.mk (blk_below (g := gb208) (o := .cells #[.int .i64 t205, .int .i64 t206, .int .i64 t207] 33 (0, 0)) (by (with_reducible repeat (first | refine blk_drewN ?_ _ | refine blk_drew ?_ | refine blk_alloc ?_ _)); exact BK208.out) hb); have n12_ := Aside0.mk (below_step (by repeat (first | (with_reducible first | exact HB.out | apply below_alloc | apply pw_below_drewN | apply below_drew1 | refine below_set ?_ GE204.out | refine below_set ?_ GE208.out) | exact HB.out)) hb); clear HO164; clear HO167; clear HO170; clear HO177; clear HO183; clear HO186; clear HO189; clear HO196; clear HO199; clear HO202; clear BK204; clear BK208; clear HB; have HO164 := n0_; have HO167 := n1_; have HO170 := n2_; have HO177 := n3_; have HO183 := n4_; have HO186 := n5_; have HO189 := n6_; have HO196 := n7_; have HO199 := n8_; have HO202 := n9_; have BK204 := n10_; have BK208 := n11_; have HB := n12_; clear n0_ n1_ n2_ n3_ n4_ n5_ n6_ n7_ n8_ n9_ n10_ n11_ n12_; (try clear hb); (try clear hb2); (try clear hk); (try clear hi)) | (go_at_call 11; (with_reducible refine (frag_Says.calls k 2 21 true _ A12.out).mono ?_); rintro e w' ⟨rfl, ⟨nd, rfl⟩⟩) | (go_at_call 11; (with_reducible refine (frag_Says.calls k 2 2 t216 _ A14.out).mono ?_); rintro e w' ⟨rfl, ⟨nd, rfl⟩⟩))
            go_ret
            exact ⟨by first | rfl | (simp [errW_none, errW_some] <;> rfl) | (simp [*, errW_none, errW_some] <;> rfl), by repeat (first | (with_reducible first | exact HB.out | apply below_alloc | apply pw_below_drewN | apply below_drew1 | refine below_set ?_ GE204.out | refine below_set ?_ GE208.out) | exact HB.out)⟩
          · replace c13 := Bool.eq_false_iff.mpr c13
            subst c13
            have H1 : (none) = some r := by rw [if_neg (show ¬ (false = true) by decide)] at H; exact H
            clear H; have H := H1; clear H1
            exact absurd H (by simp)
        · rw [if_neg c11] at H
          exact absurd H (by simp)
      · rw [if_neg c9] at H
        exact absurd H (by simp)
    · rw [if_neg c8] at H
      exact absurd H (by simp)
  · rw [if_neg c7] at H
    exact absurd H (by simp)

end Go.Proofs.Ytfjkclhkobnakaa.P
