/- Written by a program of this session: the functions that the laws reach, what each comes to, and each law as it is stated, for every input. No condition. -/
import Derived.Test.YtfjkclhkobnakaaPx0
import Derived.Test.YtfjkclhkobnakaaPx6
import Derived.Test.YtfjkclhkobnakaaPx7
namespace Go.Proofs.Ytfjkclhkobnakaa.P
open Go.RowKit Go.Proofs.YtfjkclhkobnakaaW.PrintWords Go.Proofs.YtfjkclhkobnakaaW.PrintLast Go.Proofs.YtfjkclhkobnakaaW.PrintMore
attribute [local go_sem] max2_int min2_int max_two min_two max_three min_three max_four min_four   -- for this text's walks alone
set_option linter.unusedVariables false
set_option linter.unusedSimpArgs false
abbrev FgT := Int × Int × Int
def fgRej (fs : FgT) (p why : Int) : FgT := if fs.1 = 0 then (13, p, why) else fs
structure FgI (w0 w : World) (g : Nat) (d : Int) (fs : FgT) : Prop where
 blk : w.heap[g]? = some (.cells #[.int .i64 d, .int .i64 fs.1, .int .i64 fs.2.1, .int .i64 fs.2.2] 48 (0, 0))
 ge : w0.heap.size ≤ g
theorem FgI.below {w0 W W1 : World} {g : Nat} {d : Int} {fs : FgT} (h : FgI w0 W g d fs) (hw : Below W.heap.size W W1) : FgI w0 W1 g d fs := ⟨blk_below h.blk hw, h.ge⟩
structure FgS (w0 w1 w : World) (g gb : Nat) (bx : Array Value) (d : Int) (fs : FgT) : Prop where
 isf : FgI w0 w g d fs
 bel : Below w0.heap.size w0 w
 keep : KeepBut w1 w g none
 box : w.heap[gb]? = some (.cells bx 28 (0, 0))
 ne : gb ≠ g
 ge : w0.heap.size ≤ gb
theorem FgS.start {w0 w : World} {g : Nat} {d : Int} {fs : FgT} (bx : Array Value) (hi : FgI w0 w g d fs) (hb : Below w0.heap.size w0 w) : FgS w0 w (w.alloc (.cells bx 28)) g w.heap.size bx d fs := by
 have h1 : Below w.heap.size w (w.alloc (.cells bx 28)) := below_alloc (Below.refl _ _) _
 refine ⟨hi.below h1, hb.trans (h1.mono hb.size), KeepBut.of_below h1 _ _, blk_new w _, ?_, hb.size⟩
 have := (Array.getElem?_eq_some_iff.1 hi.blk).1
 omega
theorem FgS.quiet {w0 w1 w w' : World} {g gb : Nat} {bx : Array Value} {d : Int} {fs : FgT} (h : FgS w0 w1 w g gb bx d fs) (hb : Below w.heap.size w w') : FgS w0 w1 w' g gb bx d fs :=
 ⟨h.isf.below hb, h.bel.trans (hb.mono h.bel.size), h.keep.trans (KeepBut.of_below hb g none) (.inl rfl), blk_below h.box hb, h.ne, h.ge⟩
theorem FgS.call {w0 w1 w w' : World} {g gb : Nat} {bx : Array Value} {d : Int} {fs fs' : FgT} (h : FgS w0 w1 w g gb bx d fs) (q : FgI w0 w' g d fs' ∧ Below w0.heap.size w0 w' ∧ KeepBut w w' g none) : FgS w0 w1 w' g gb bx d fs' :=
 ⟨q.1, q.2.1, h.keep.trans q.2.2 (.inl rfl), q.2.2.blk h.box h.ne (by simp), h.ne, h.ge⟩
theorem FgS.cells {w0 w1 w : World} {g gb : Nat} {a0 a1 a2 a3 a4 a5 a6 : Value} {d : Int} {fs : FgT} (h : FgS w0 w1 w g gb #[a0, a1, a2, a3, a4, a5, a6] d fs) :
  w.cell? ⟨gb, 0, none⟩ = some a0 ∧ w.cell? ⟨gb, 1, none⟩ = some a1 ∧ w.cell? ⟨gb, 2, none⟩ = some a2 ∧ w.cell? ⟨gb, 3, none⟩ = some a3 ∧ w.cell? ⟨gb, 4, none⟩ = some a4 ∧ w.cell? ⟨gb, 5, none⟩ = some a5 ∧ w.cell? ⟨gb, 6, none⟩ = some a6 :=
 ⟨(blk_cell h.box 0).trans rfl, (blk_cell h.box 1).trans rfl, (blk_cell h.box 2).trans rfl, (blk_cell h.box 3).trans rfl, (blk_cell h.box 4).trans rfl, (blk_cell h.box 5).trans rfl, (blk_cell h.box 6).trans rfl⟩
theorem FgS.state {w0 w1 w : World} {g gb : Nat} {bx : Array Value} {d : Int} {fs : FgT} (h : FgS w0 w1 w g gb bx d fs) : w.cell? ⟨g, 0, none⟩ = some (.int .i64 d) ∧ w.cell? ⟨g, 1, none⟩ = some (.int .i64 fs.1) :=
 ⟨(blk_cell h.isf.blk 0).trans rfl, (blk_cell h.isf.blk 1).trans rfl⟩
theorem FgS.done {w0 w1 w : World} {g gb : Nat} {bx : Array Value} {d : Int} {fs : FgT} (h : FgS w0 w1 w g gb bx d fs) {e : Ending} (he : e = .returned (.tuple #[])) : e = .returned (.tuple #[]) ∧ FgI w0 w g d fs ∧ Below w0.heap.size w0 w ∧ KeepBut w1 w g none := ⟨he, h.isf, h.bel, h.keep⟩
abbrev FgC (F : Nat) (x : S28) (d : Int) (fs fs' : FgT) : Prop :=
 ∀ (A3 : Option Addr) (c3 : Nat) (A4 : Option Addr) (c4 : Nat) (A5 : Option Addr) (c5 : Nat) (w0 w : World) (g : Nat), CkN w0 x A3 c3 A4 c4 A5 c5 → Below w0.heap.size w0 w → FgI w0 w g d fs →
  Calls Try.prog F #[.pointer (some ⟨g, 0, none⟩), .agg #[.int .i64 x.f0, .int .i64 x.f1, .string x.f2, .slice A3 x.f3.f0.length c3, .slice A4 x.f3.f1.length c4, .slice A5 x.f4.length c5, .int .i64 x.f5]] w fun e w' => e = .returned (.tuple #[]) ∧ FgI w0 w' g d fs' ∧ Below w0.heap.size w0 w' ∧ KeepBut w w' g none
theorem FgS.rej {w0 w1 w : World} {g gb : Nat} {bx : Array Value} {d : Int} {fs : FgT} (h : FgS w0 w1 w g gb bx d fs) (a b c : Int) : FgI w0 (((w.setCell ⟨g, 1, none⟩ (.int .i64 a)).setCell ⟨g, 2, none⟩ (.int .i64 b)).setCell ⟨g, 3, none⟩ (.int .i64 c)) g d (a, b, c) ∧ Below w0.heap.size w0 (((w.setCell ⟨g, 1, none⟩ (.int .i64 a)).setCell ⟨g, 2, none⟩ (.int .i64 b)).setCell ⟨g, 3, none⟩ (.int .i64 c)) ∧ KeepBut w1 (((w.setCell ⟨g, 1, none⟩ (.int .i64 a)).setCell ⟨g, 2, none⟩ (.int .i64 b)).setCell ⟨g, 3, none⟩ (.int .i64 c)) g none := by
 obtain ⟨s0, s1, s2⟩ := fs
 have e1 := blk_set h.isf.blk 1 (.int .i64 a)
 have e1 : (w.setCell ⟨g, 1, none⟩ (.int .i64 a)).heap[g]? = some (.cells #[.int .i64 d, .int .i64 a, .int .i64 s1, .int .i64 s2] 48 (0, 0)) := by simpa using e1
 have e2 := blk_set e1 2 (.int .i64 b)
 have e2 : ((w.setCell ⟨g, 1, none⟩ (.int .i64 a)).setCell ⟨g, 2, none⟩ (.int .i64 b)).heap[g]? = some (.cells #[.int .i64 d, .int .i64 a, .int .i64 b, .int .i64 s2] 48 (0, 0)) := by simpa using e2
 have e3 := blk_set e2 3 (.int .i64 c)
 exact ⟨⟨by simpa using e3, h.isf.ge⟩, below_set (below_set (below_set h.bel h.isf.ge) h.isf.ge) h.isf.ge, KeepBut.set_ (KeepBut.set_ (KeepBut.set_ h.keep _ _) _ _) _ _⟩
set_option maxHeartbeats 4000000 in
set_option maxRecDepth 100000 in
theorem fg_reject (why : Int) (x : S28) (d : Int) (fs : FgT) (A3 : Option Addr) (c3 : Nat) (A4 : Option Addr) (c4 : Nat) (A5 : Option Addr) (c5 : Nat) (n3 n4 n5 : Nat) (w0 w : World) (g : Nat) (hb : Below w0.heap.size w0 w) (hi : FgI w0 w g d fs) :
  Calls Try.prog 47 #[.pointer (some ⟨g, 0, none⟩), .agg #[.int .i64 x.f0, .int .i64 x.f1, .string x.f2, .slice A3 n3 c3, .slice A4 n4 c4, .slice A5 n5 c5, .int .i64 x.f5], .int .i64 why] w fun e w' => e = .returned (.tuple #[]) ∧ FgI w0 w' g d (fgRej fs x.f5 why) ∧ Below w0.heap.size w0 w' ∧ KeepBut w w' g none := by
 have hun := Try.underlying28
 have huf := Try.underlying48
 have hut := Try.underlying33
 obtain ⟨x0, x1, x2, x3, x5, x6⟩ := x
 obtain ⟨s0, s1, s2⟩ := fs
 have HS := Aside0.mk (FgS.start #[.int .i64 x0, .int .i64 x1, .string x2, .slice A3 n3 c3, .slice A4 n4 c4, .slice A5 n5 c5, .int .i64 x6] hi hb)
 clear hi hb
 dsimp only
 obtain ⟨g0, g1⟩ := HS.out.state
 obtain ⟨z0, z1, z2, z3, z4, z5, z6⟩ := HS.out.cells
 have q1 := blk_frozen HS.out.isf.blk 1
 have q2 := blk_frozen HS.out.isf.blk 2
 have q3 := blk_frozen HS.out.isf.blk 3
 have g2 := (blk_cell HS.out.isf.blk 2).trans rfl
 have g3 := (blk_cell HS.out.isf.blk 3).trans rfl
 dsimp only at g1
 by_cases c : s0 = 0
 ·subst c
  go_enter Try.func47, Try.ntmps47
  go_wp2_with (fail)
  first | go_end0 | ((try simp only [Exit.inBlock, Exit.then]); refine bodyPost_ret (results_none rfl _ _ _) rfl ?_)
  exact ⟨rfl, HS.out.rej 13 x6 why⟩
 ·have cb : (s0 == 0) = false := by simpa using c
  rw [show fgRej (s0, s1, s2) x6 why = (s0, s1, s2) from if_neg c]
  go_enter Try.func47, Try.ntmps47
  go_wp2_with (fail)
  first | go_end0 | ((try simp only [Exit.inBlock, Exit.then]); refine bodyPost_ret (results_none rfl _ _ _) rfl ?_)
  exact HS.out.done rfl
def primF (k : Nat) (d : Int) (x : S28) (fs : FgT) : Option FgT :=
 if x.f1 = 19 ∨ x.f1 = 54 then some (fgRej fs x.f5 1) else if x.f1 = 53 ∧ d ≠ 2 then some fs else (frag_Says.f k d x.f1).bind fun b => some (if b = true then fs else fgRej fs x.f5 2)
set_option maxHeartbeats 4000000 in
set_option maxRecDepth 100000 in
theorem fg_prim (k : Nat) (x : S28) (d : Int) (fs fs' : FgT) (h : primF k d x fs = some fs') : FgC 29 x d fs fs' := by
 intro A3 c3 A4 c4 A5 c5 w0 w g hd hb hi
 have hun := Try.underlying28
 have huf := Try.underlying48
 have hut := Try.underlying33
 obtain ⟨x0, x1, x2, ⟨x3, x4⟩, x5, x6⟩ := x
 obtain ⟨s0, s1, s2⟩ := fs
 have HS := Aside0.mk (FgS.start #[.int .i64 x0, .int .i64 x1, .string x2, .slice A3 x3.length c3, .slice A4 x4.length c4, .slice A5 x5.length c5, .int .i64 x6] hi hb)
 have HD := Aside0.mk hd
 have H5 := Aside0.mk hd.h5
 clear hd hi hb
 dsimp only at H5 ⊢
 obtain ⟨g0, g1⟩ := HS.out.state; obtain ⟨z0, z1, z2, z3, z4, z5, z6⟩ := HS.out.cells; dsimp only at g1
 unfold primF at h
 dsimp only at h
 by_cases c1 : x1 = 19 ∨ x1 = 54
 ·rw [if_pos c1] at h
  obtain rfl := Option.some.inj h
  clear h
  rcases c1 with rfl | rfl
  all_goals
   go_enter Try.func29, Try.ntmps29
   go_wp2_with (first | (go_at_call 47; (with_reducible refine (fg_reject _ ⟨x0, _, x2, ⟨x3, x4⟩, x5, x6⟩ _ _ _ _ _ _ _ _ _ _ _ w0 _ g HS.out.bel HS.out.isf).mono ?_); rintro e w2 ⟨rfl, q⟩; have HS := Aside0.mk (HS.out.call q); clear q))
   first | go_end0 | ((try simp only [Exit.inBlock, Exit.then]); refine bodyPost_ret (results_none rfl _ _ _) rfl ?_)
   exact HS.out.done rfl
 rw [if_neg c1] at h
 have c1a : (x1 == 19) = false := by simpa using fun e : x1 = 19 => c1 (.inl e)
 have c1b : (x1 == 54) = false := by simpa using fun e : x1 = 54 => c1 (.inr e)
 clear c1
 by_cases c2 : x1 = 53 ∧ d ≠ 2
 ·rw [if_pos c2] at h
  obtain rfl := Option.some.inj h
  clear h
  obtain ⟨rfl, c3⟩ := c2
  have c3b : (d != 2) = true := by simpa using c3
  go_enter Try.func29, Try.ntmps29
  go_wp2_with (fail)
  first | go_end0 | ((try simp only [Exit.inBlock, Exit.then]); refine bodyPost_ret (results_none rfl _ _ _) rfl ?_)
  exact HS.out.done rfl
 rw [if_neg c2] at h
 obtain ⟨b, hy, h⟩ := Option.bind_eq_some_iff.1 h
 have HY := Aside0.mk hy
 clear hy
 obtain rfl := Option.some.inj h
 clear h
 have c9 : (x1 == 53) = false ∨ ((x1 == 53) = true ∧ (d != 2) = false) := by
  by_cases e : x1 = 53
  ·exact .inr ⟨by simpa using e, by simpa using fun q => c2 ⟨e, q⟩⟩
  ·exact .inl (by simpa using e)
 clear c2
 rcases c9 with c9 | ⟨c9, c8⟩
 all_goals
  cases b
  all_goals
   go_enter Try.func29, Try.ntmps29
   go_wp2_with (fail)
   generalize w.alloc (.cells #[.int .i64 x0, .int .i64 x1, .string x2, .slice A3 x3.length c3, .slice A4 x4.length c4, .slice A5 x5.length c5, .int .i64 x6] 28) = W at HS z0 z1 z2 z3 z4 z5 z6 g0 g1 ⊢
   go_still_tail 6, (by kernel_rfl)
   change wpList _ _ _ _ _ W.drew
   have HS := Aside0.mk (HS.out.quiet (below_drew (Below.refl _ _)))
   clear z0 z1 z2 z3 z4 z5 z6 g0 g1
   obtain ⟨z0, z1, z2, z3, z4, z5, z6⟩ := HS.out.cells
   obtain ⟨g0, g1⟩ := HS.out.state
   go_wp2_with (first | (go_at_call 11; (with_reducible refine (frag_Says.calls k d x1 _ _ HY.out).mono ?_); rintro e w3 ⟨rfl, q⟩; have HS := Aside0.mk (HS.out.quiet q.below); clear q z0 z1 z2 z3 z4 z5 z6 g0 g1; obtain ⟨z0, z1, z2, z3, z4, z5, z6⟩ := HS.out.cells) | (go_at_call 47; (with_reducible refine (fg_reject _ ⟨x0, x1, x2, ⟨x3, x4⟩, x5, x6⟩ _ _ _ _ _ _ _ _ _ _ _ w0 _ g HS.out.bel HS.out.isf).mono ?_); rintro e w2 ⟨rfl, q⟩; have HS := Aside0.mk (HS.out.call q); clear q))
   first | go_end0 | ((try simp only [Exit.inBlock, Exit.then]); refine bodyPost_ret (results_none rfl _ _ _) rfl ?_)
   exact HS.out.done rfl
def behindV (x : S28) (fs : FgT) : Option FgT :=
 if x.f0 = 5 then (if 0 < x.f4.length then (if (rd_T28 x.f4 0).f0 = 35 then (if 0 < (rd_T28 x.f4 0).f4.length then some (if (rd_T28 (rd_T28 x.f4 0).f4 0).f0 = 21 ∧ ((rd_T28 (rd_T28 x.f4 0).f4 0).f1 = 50 ∨ (rd_T28 (rd_T28 x.f4 0).f4 0).f1 = 51) then fgRej fs (rd_T28 x.f4 0).f5 7 else fs) else none) else some fs) else none) else some fs
set_option maxHeartbeats 4000000 in
set_option maxRecDepth 100000 in
theorem fg_behind (x : S28) (d : Int) (fs fs' : FgT) (h : behindV x fs = some fs') : FgC 48 x d fs fs' := by
 intro A3 c3 A4 c4 A5 c5 w0 w g hd hb hi
 have hun := Try.underlying28
 have huf := Try.underlying48
 have hut := Try.underlying33
 obtain ⟨x0, x1, x2, ⟨x3, x4⟩, x5, x6⟩ := x
 obtain ⟨s0, s1, s2⟩ := fs
 have HS := Aside0.mk (FgS.start #[.int .i64 x0, .int .i64 x1, .string x2, .slice A3 x3.length c3, .slice A4 x4.length c4, .slice A5 x5.length c5, .int .i64 x6] hi hb)
 have HD := Aside0.mk hd
 have H5 := Aside0.mk hd.h5
 clear hd hi hb
 dsimp only at H5 ⊢
 obtain ⟨g0, g1⟩ := HS.out.state; obtain ⟨z0, z1, z2, z3, z4, z5, z6⟩ := HS.out.cells; dsimp only at g1
 unfold behindV at h
 dsimp only at h
 by_cases k1 : x0 = 5
 rotate_left 1
 ·rw [if_neg k1] at h
  obtain rfl := Option.some.inj h
  clear h
  have k1b : (x0 != 5) = true := by simpa using k1
  go_enter Try.func48, Try.ntmps48
  go_wp2_with (fail)
  first | go_end0 | ((try simp only [Exit.inBlock, Exit.then]); refine bodyPost_ret (results_none rfl _ _ _) rfl ?_)
  exact HS.out.done rfl
 rw [if_pos k1] at h
 subst k1
 by_cases k2 : 0 < x5.length
 rotate_left 1
 ·rw [if_neg k2] at h; cases h
 rw [if_pos k2] at h
 obtain ⟨ad, B3, e3, B4, e4, B5, e5, eaad, Y, D⟩ := at_kid0 H5.out k2
 subst eaad
 have hlad : (0 : Int) < x5.length := by omega
 generalize hy : rd_T28 x5 0 = y at h Y D
 clear hy
 obtain ⟨y0, y1, y2, ⟨y3, y4⟩, y5, y6⟩ := y
 (try dsimp only at h)
 have Y1 := Y.to HS.out.bel
 obtain ⟨v0, v1, v2, v3, v4, v5, v6⟩ := Y1.cells
 dsimp only at v0 v1 v2 v3 v4 v5 v6
 by_cases k3 : y0 = 35
 rotate_left 1
 ·rw [if_neg k3] at h
  obtain rfl := Option.some.inj h
  clear h
  have k3b : (y0 != 35) = true := by simpa using k3
  go_enter Try.func48, Try.ntmps48
  go_wp2_with (fail)
  first | go_end0 | ((try simp only [Exit.inBlock, Exit.then]); refine bodyPost_ret (results_none rfl _ _ _) rfl ?_)
  exact HS.out.done rfl
 rw [if_pos k3] at h
 have k3b : (y0 != 35) = false := by simpa using k3
 clear k3
 by_cases k4 : 0 < y5.length
 rotate_left 1
 ·rw [if_neg k4] at h; cases h
 rw [if_pos k4] at h
 have HY5 := Aside0.mk D.h5
 dsimp only at HY5
 obtain ⟨bd, C3, i3, C4, i4, C5, i5, eabd, P, DP⟩ := at_kid0 HY5.out k4
 subst eabd
 have hlbd : (0 : Int) < y5.length := by omega
 generalize hy : rd_T28 y5 0 = p at h P DP
 clear hy
 obtain ⟨p0, p1, p2, ⟨p3, p4⟩, p5, p6⟩ := p
 (try dsimp only at h)
 (try dsimp only at v5)
 obtain rfl := Option.some.inj h
 clear h
 obtain ⟨r0, r1, r2, r3, r4, r5, r6⟩ := (P.to HS.out.bel).cells
 dsimp only at r0 r1 r2 r3 r4 r5 r6
 have hba := below_alloc (Below.refl (w.alloc (.cells #[.int .i64 5, .int .i64 x1, .string x2, .slice A3 x3.length c3, .slice A4 x4.length c4, .slice (some ad) x5.length c5, .int .i64 x6] 28)).heap.size (w.alloc (.cells #[.int .i64 5, .int .i64 x1, .string x2, .slice A3 x3.length c3, .slice A4 x4.length c4, .slice (some ad) x5.length c5, .int .i64 x6] 28))) (.cells #[.int .i64 p0, .int .i64 p1, .string p2, .slice C3 p3.length i3, .slice C4 p4.length i4, .slice C5 p5.length i5, .int .i64 p6] 28 (0, 0))
 have za0 := pw_cell_below hba z0
 have va0 := pw_cell_below hba v0
 have za1 := pw_cell_below hba z1
 have va1 := pw_cell_below hba v1
 have za2 := pw_cell_below hba z2
 have va2 := pw_cell_below hba v2
 have za3 := pw_cell_below hba z3
 have va3 := pw_cell_below hba v3
 have za4 := pw_cell_below hba z4
 have va4 := pw_cell_below hba v4
 have za5 := pw_cell_below hba z5
 have va5 := pw_cell_below hba v5
 have za6 := pw_cell_below hba z6
 have va6 := pw_cell_below hba v6
 have HS2 := Aside0.mk (HS.out.quiet hba)
 clear hba Y Y1 D P DP
 cases d1 : (p0 == 21)
 ·rw [if_neg (fun q => by rw [q.1] at d1; cases d1)]
  go_enter Try.func48, Try.ntmps48
  go_wp2_with (fail)
  first | go_end0 | ((try simp only [Exit.inBlock, Exit.then]); refine bodyPost_ret (results_none rfl _ _ _) rfl ?_)
  exact HS2.out.done rfl
 have d1' : Aside0 (p0 = 21) := ⟨by simpa using d1⟩
 cases d2 : (p1 == 50)
 rotate_left 1
 ·rw [if_pos ⟨d1'.out, .inl (by simpa using d2)⟩]
  go_enter Try.func48, Try.ntmps48
  go_wp2_with (first | (go_at_call 47; (with_reducible refine (fg_reject _ ⟨y0, y1, y2, ⟨y3, y4⟩, y5, y6⟩ d _ _ _ _ _ _ _ _ _ _ w0 _ g HS2.out.bel HS2.out.isf).mono ?_); rintro e w2 ⟨rfl, q⟩; have HS := Aside0.mk (HS2.out.call q); clear q))
  first | go_end0 | ((try simp only [Exit.inBlock, Exit.then]); refine bodyPost_ret (results_none rfl _ _ _) rfl ?_)
  exact HS.out.done rfl
 cases d3 : (p1 == 51)
 ·rw [if_neg (fun q => by rcases q.2 with q | q <;> simp [q] at d2 d3)]
  go_enter Try.func48, Try.ntmps48
  go_wp2_with (fail)
  first | go_end0 | ((try simp only [Exit.inBlock, Exit.then]); refine bodyPost_ret (results_none rfl _ _ _) rfl ?_)
  exact HS2.out.done rfl
 ·rw [if_pos ⟨d1'.out, .inr (by simpa using d3)⟩]
  go_enter Try.func48, Try.ntmps48
  go_wp2_with (first | (go_at_call 47; (with_reducible refine (fg_reject _ ⟨y0, y1, y2, ⟨y3, y4⟩, y5, y6⟩ d _ _ _ _ _ _ _ _ _ _ w0 _ g HS2.out.bel HS2.out.isf).mono ?_); rintro e w2 ⟨rfl, q⟩; have HS := Aside0.mk (HS2.out.call q); clear q))
  first | go_end0 | ((try simp only [Exit.inBlock, Exit.then]); refine bodyPost_ret (results_none rfl _ _ _) rfl ?_)
  exact HS.out.done rfl
def plainV (d : Int) (x : S28) (fs : FgT) : Option FgT :=
 if d = 0 then behindV x fs else if d = 2 then (
  if x.f0 = 32 ∨ x.f0 = 34 then some (fgRej fs x.f5 9) else
  if x.f0 = 35 then some (fgRej fs x.f5 7) else
  if x.f0 = 25 then some (fgRej fs x.f5 8) else
  if x.f0 = 31 ∨ x.f0 = 33 then (if 0 < x.f4.length then some (if ((rd_T28 x.f4 0).f0 == 21) && (((rd_T28 x.f4 0).f1 != 21) && (((rd_T28 x.f4 0).f1 != 23) && (((rd_T28 x.f4 0).f1 != 24) && ((rd_T28 x.f4 0).f1 != 25)))) then fgRej fs x.f5 3 else fs) else none) else
  if x.f0 = 6 then (if 1 < x.f4.length then some (if ((rd_T28 x.f4 0).f0 == 21) && (((rd_T28 x.f4 0).f1 == 41) && (((rd_T28 x.f4 1).f0 != 1) || (((rd_T28 x.f4 1).f3.f0.length : Int) == 0))) then fgRej fs (rd_T28 x.f4 1).f5 4 else fs) else none) else
  some fs) else some fs
theorem fg_c7 {W : World} {g t : Nat} {x0 x1 x2 x3 x4 x5 x6 : Value} (h : W.heap[g]? = some (.cells #[x0, x1, x2, x3, x4, x5, x6] t (0, 0))) : W.cell? ⟨g, 0, none⟩ = some x0 ∧ W.cell? ⟨g, 1, none⟩ = some x1 ∧ W.cell? ⟨g, 2, none⟩ = some x2 ∧ W.cell? ⟨g, 3, none⟩ = some x3 ∧ W.cell? ⟨g, 4, none⟩ = some x4 ∧ W.cell? ⟨g, 5, none⟩ = some x5 ∧ W.cell? ⟨g, 6, none⟩ = some x6 := ⟨(blk_cell h 0).trans rfl, (blk_cell h 1).trans rfl, (blk_cell h 2).trans rfl, (blk_cell h 3).trans rfl, (blk_cell h 4).trans rfl, (blk_cell h 5).trans rfl, (blk_cell h 6).trans rfl⟩
theorem fg_u7 {W : World} {g t : Nat} {cs : Array Value} (h : W.heap[g]? = some (.cells cs t (0, 0))) : W.frozen? ⟨g, 0, none⟩ = false ∧ W.frozen? ⟨g, 1, none⟩ = false ∧ W.frozen? ⟨g, 2, none⟩ = false ∧ W.frozen? ⟨g, 3, none⟩ = false ∧ W.frozen? ⟨g, 4, none⟩ = false ∧ W.frozen? ⟨g, 5, none⟩ = false ∧ W.frozen? ⟨g, 6, none⟩ = false := ⟨blk_frozen h 0, blk_frozen h 1, blk_frozen h 2, blk_frozen h 3, blk_frozen h 4, blk_frozen h 5, blk_frozen h 6⟩
theorem fg_st7 {w W : World} {g t : Nat} {x0 x1 x2 x3 x4 x5 x6 : Value} (hb : Below w.heap.size w W) (hg : w.heap.size ≤ g) (h : W.heap[g]? = some (.cells #[x0, x1, x2, x3, x4, x5, x6] t (0, 0))) (a0 a1 a2 a3 a4 a5 a6 : Value) :
  ((((((((W.setCell ⟨g, 0, none⟩ a0).setCell ⟨g, 1, none⟩ a1).setCell ⟨g, 2, none⟩ a2).setCell ⟨g, 3, none⟩ a3).setCell ⟨g, 4, none⟩ a4).setCell ⟨g, 5, none⟩ a5).setCell ⟨g, 6, none⟩ a6).heap[g]? = some (.cells #[a0, a1, a2, a3, a4, a5, a6] t (0, 0))) ∧
  (∀ k, k ≠ g → (((((((W.setCell ⟨g, 0, none⟩ a0).setCell ⟨g, 1, none⟩ a1).setCell ⟨g, 2, none⟩ a2).setCell ⟨g, 3, none⟩ a3).setCell ⟨g, 4, none⟩ a4).setCell ⟨g, 5, none⟩ a5).setCell ⟨g, 6, none⟩ a6).heap[k]? = W.heap[k]?) ∧
  Below w.heap.size w (((((((W.setCell ⟨g, 0, none⟩ a0).setCell ⟨g, 1, none⟩ a1).setCell ⟨g, 2, none⟩ a2).setCell ⟨g, 3, none⟩ a3).setCell ⟨g, 4, none⟩ a4).setCell ⟨g, 5, none⟩ a5).setCell ⟨g, 6, none⟩ a6) := by
 refine ⟨?_, fun k hk => ?_, below_set (below_set (below_set (below_set (below_set (below_set (below_set hb hg) hg) hg) hg) hg) hg) hg⟩
 ·exact blk_put (cs := #[a0, a1, a2, a3, a4, a5, x6]) (blk_put (cs := #[a0, a1, a2, a3, a4, x5, x6]) (blk_put (cs := #[a0, a1, a2, a3, x4, x5, x6]) (blk_put (cs := #[a0, a1, a2, x3, x4, x5, x6]) (blk_put (cs := #[a0, a1, x2, x3, x4, x5, x6]) (blk_put (cs := #[a0, x1, x2, x3, x4, x5, x6]) (blk_put (cs := #[x0, x1, x2, x3, x4, x5, x6]) h 0 _ rfl) 1 _ rfl) 2 _ rfl) 3 _ rfl) 4 _ rfl) 5 _ rfl) 6 _ rfl
 ·have e := fun (W : World) (i : Nat) (u : Value) => Below.heap_setCell W ⟨g, i, none⟩ u k hk
  exact (e _ _ _).trans ((e _ _ _).trans ((e _ _ _).trans ((e _ _ _).trans ((e _ _ _).trans ((e _ _ _).trans (e _ _ _))))))
set_option maxHeartbeats 4000000 in
set_option maxRecDepth 100000 in
theorem fg_plain (x : S28) (d : Int) (fs fs' : FgT) (h : plainV d x fs = some fs') : FgC 30 x d fs fs' := by
 intro A3 c3 A4 c4 A5 c5 w0 w g hd hb hi
 have hun := Try.underlying28
 have huf := Try.underlying48
 have hut := Try.underlying33
 obtain ⟨x0, x1, x2, ⟨x3, x4⟩, x5, x6⟩ := x
 obtain ⟨s0, s1, s2⟩ := fs
 have HS := Aside0.mk (FgS.start #[.int .i64 x0, .int .i64 x1, .string x2, .slice A3 x3.length c3, .slice A4 x4.length c4, .slice A5 x5.length c5, .int .i64 x6] hi hb)
 have HD := Aside0.mk hd
 have H5 := Aside0.mk hd.h5
 clear hd hi hb
 dsimp only at H5 ⊢
 obtain ⟨g0, g1⟩ := HS.out.state; obtain ⟨z0, z1, z2, z3, z4, z5, z6⟩ := HS.out.cells; dsimp only at g1
 unfold plainV at h
 dsimp only at h
 by_cases k0 : d = 0
 ·rw [if_pos k0] at h
  subst k0
  have HY := Aside0.mk h
  clear h
  go_enter Try.func30, Try.ntmps30
  go_wp2_with (first | (go_at_call 48; (with_reducible refine (fg_behind ⟨x0, x1, x2, ⟨x3, x4⟩, x5, x6⟩ _ _ _ HY.out _ _ _ _ _ _ w0 _ g HD.out HS.out.bel HS.out.isf).mono ?_); rintro e w2 ⟨rfl, q⟩; have HS := Aside0.mk (HS.out.call q); clear q z0 z1 z2 z3 z4 z5 z6 g0 g1; obtain ⟨g0, g1⟩ := HS.out.state))
  first | go_end0 | ((try simp only [Exit.inBlock, Exit.then]); refine bodyPost_ret (results_none rfl _ _ _) rfl ?_)
  exact HS.out.done rfl
 rw [if_neg k0] at h
 have k0b : (d == 0) = false := by simpa using k0
 clear k0
 by_cases k9 : d = 2
 rotate_left 1
 ·rw [if_neg k9] at h
  obtain rfl := Option.some.inj h
  clear h
  have k9b : (d != 2) = true := by simpa using k9
  go_enter Try.func30, Try.ntmps30
  go_wp2_with (fail)
  first | go_end0 | ((try simp only [Exit.inBlock, Exit.then]); refine bodyPost_ret (results_none rfl _ _ _) rfl ?_)
  exact HS.out.done rfl
 rw [if_pos k9] at h
 subst k9
 clear k0b
 by_cases k1 : x0 = 32 ∨ x0 = 34
 ·rw [if_pos k1] at h
  obtain rfl := Option.some.inj h
  clear h
  rcases k1 with rfl | rfl
  all_goals
   go_enter Try.func30, Try.ntmps30
   go_wp2_with (first | (go_at_call 47; (with_reducible refine (fg_reject 9 ⟨_, x1, x2, ⟨x3, x4⟩, x5, x6⟩ _ _ _ _ _ _ _ _ _ _ _ w0 _ g HS.out.bel HS.out.isf).mono ?_); rintro e w2 ⟨rfl, q⟩; have HS := Aside0.mk (HS.out.call q); clear q))
   first | go_end0 | ((try simp only [Exit.inBlock, Exit.then]); refine bodyPost_ret (results_none rfl _ _ _) rfl ?_)
   exact HS.out.done rfl
 rw [if_neg k1] at h
 have k1a : (x0 == 32) = false := by simpa using fun e : x0 = 32 => k1 (.inl e)
 have k1b : (x0 == 34) = false := by simpa using fun e : x0 = 34 => k1 (.inr e)
 clear k1
 by_cases k2 : x0 = 35
 ·rw [if_pos k2] at h
  obtain rfl := Option.some.inj h
  clear h
  subst k2
  clear k1a k1b
  go_enter Try.func30, Try.ntmps30
  go_wp2_with (first | (go_at_call 47; (with_reducible refine (fg_reject 7 ⟨_, x1, x2, ⟨x3, x4⟩, x5, x6⟩ _ _ _ _ _ _ _ _ _ _ _ w0 _ g HS.out.bel HS.out.isf).mono ?_); rintro e w2 ⟨rfl, q⟩; have HS := Aside0.mk (HS.out.call q); clear q))
  first | go_end0 | ((try simp only [Exit.inBlock, Exit.then]); refine bodyPost_ret (results_none rfl _ _ _) rfl ?_)
  exact HS.out.done rfl
 rw [if_neg k2] at h
 have k2b : (x0 == 35) = false := by simpa using k2
 clear k2
 by_cases k3 : x0 = 25
 ·rw [if_pos k3] at h
  obtain rfl := Option.some.inj h
  clear h
  subst k3
  clear k1a k1b k2b
  go_enter Try.func30, Try.ntmps30
  go_wp2_with (first | (go_at_call 47; (with_reducible refine (fg_reject 8 ⟨_, x1, x2, ⟨x3, x4⟩, x5, x6⟩ _ _ _ _ _ _ _ _ _ _ _ w0 _ g HS.out.bel HS.out.isf).mono ?_); rintro e w2 ⟨rfl, q⟩; have HS := Aside0.mk (HS.out.call q); clear q))
  first | go_end0 | ((try simp only [Exit.inBlock, Exit.then]); refine bodyPost_ret (results_none rfl _ _ _) rfl ?_)
  exact HS.out.done rfl
 rw [if_neg k3] at h
 have k3b : (x0 == 25) = false := by simpa using k3
 clear k3
 by_cases k4 : x0 = 31 ∨ x0 = 33
 ·rw [if_pos k4] at h
  by_cases k5 : 0 < x5.length
  rotate_left 1
  ·rw [if_neg k5] at h; cases h
  rw [if_pos k5] at h
  obtain ⟨ad, B3, e3, B4, e4, B5, e5, eaad, Y, D⟩ := at_kid0 H5.out k5
  subst eaad
  have hlad : (0 : Int) < x5.length := by omega
  generalize hy : rd_T28 x5 0 = y at h Y D
  clear hy
  obtain ⟨y0, y1, y2, ⟨y3, y4⟩, y5, y6⟩ := y
  (try dsimp only at h)
  obtain rfl := Option.some.inj h
  clear h
  have Y1 := Y.to HS.out.bel
  obtain ⟨v0, v1, v2, v3, v4, v5, v6⟩ := Y1.cells
  dsimp only at v0 v1 v2 v3 v4 v5 v6
  clear k1a k1b k2b k3b Y Y1 D
  rcases k4 with rfl | rfl
  all_goals
   cases e0 : (y0 == 21)
   ·simp only [e0, Bool.false_and, Bool.true_and, Bool.and_true, Bool.and_false, Bool.false_eq_true, if_true, if_false]
    go_enter Try.func30, Try.ntmps30
    go_wp2_with (fail)
    first | go_end0 | ((try simp only [Exit.inBlock, Exit.then]); refine bodyPost_ret (results_none rfl _ _ _) rfl ?_)
    exact HS.out.done rfl
   cases e1 : (y1 != 21)
   ·simp only [e0, e1, Bool.false_and, Bool.true_and, Bool.and_true, Bool.and_false, Bool.false_eq_true, if_true, if_false]
    go_enter Try.func30, Try.ntmps30
    go_wp2_with (fail)
    first | go_end0 | ((try simp only [Exit.inBlock, Exit.then]); refine bodyPost_ret (results_none rfl _ _ _) rfl ?_)
    exact HS.out.done rfl
   cases e2 : (y1 != 23)
   ·simp only [e0, e1, e2, Bool.false_and, Bool.true_and, Bool.and_true, Bool.and_false, Bool.false_eq_true, if_true, if_false]
    go_enter Try.func30, Try.ntmps30
    go_wp2_with (fail)
    first | go_end0 | ((try simp only [Exit.inBlock, Exit.then]); refine bodyPost_ret (results_none rfl _ _ _) rfl ?_)
    exact HS.out.done rfl
   cases e3 : (y1 != 24)
   ·simp only [e0, e1, e2, e3, Bool.false_and, Bool.true_and, Bool.and_true, Bool.and_false, Bool.false_eq_true, if_true, if_false]
    go_enter Try.func30, Try.ntmps30
    go_wp2_with (fail)
    first | go_end0 | ((try simp only [Exit.inBlock, Exit.then]); refine bodyPost_ret (results_none rfl _ _ _) rfl ?_)
    exact HS.out.done rfl
   cases e4 : (y1 != 25)
   ·simp only [e0, e1, e2, e3, e4, Bool.false_and, Bool.true_and, Bool.and_true, Bool.and_false, Bool.false_eq_true, if_true, if_false]
    go_enter Try.func30, Try.ntmps30
    go_wp2_with (fail)
    first | go_end0 | ((try simp only [Exit.inBlock, Exit.then]); refine bodyPost_ret (results_none rfl _ _ _) rfl ?_)
    exact HS.out.done rfl
   simp only [e0, e1, e2, e3, e4, Bool.false_and, Bool.true_and, Bool.and_true, Bool.and_false, Bool.false_eq_true, if_true, if_false]
   go_enter Try.func30, Try.ntmps30
   go_wp2_with (first | (go_at_call 47; (with_reducible refine (fg_reject 3 ⟨_, x1, x2, ⟨x3, x4⟩, x5, x6⟩ _ _ _ _ _ _ _ _ _ _ _ w0 _ g HS.out.bel HS.out.isf).mono ?_); rintro e w2 ⟨rfl, q⟩; have HS := Aside0.mk (HS.out.call q); clear q))
   first | go_end0 | ((try simp only [Exit.inBlock, Exit.then]); refine bodyPost_ret (results_none rfl _ _ _) rfl ?_)
   exact HS.out.done rfl
 rw [if_neg k4] at h
 have k4a : (x0 == 31) = false := by simpa using fun e : x0 = 31 => k4 (.inl e)
 have k4b : (x0 == 33) = false := by simpa using fun e : x0 = 33 => k4 (.inr e)
 clear k4
 by_cases k6 : x0 = 6
 rotate_left 1
 ·rw [if_neg k6] at h
  obtain rfl := Option.some.inj h
  clear h
  have k6b : (x0 == 6) = false := by simpa using k6
  go_enter Try.func30, Try.ntmps30
  go_wp2_with (fail)
  first | go_end0 | ((try simp only [Exit.inBlock, Exit.then]); refine bodyPost_ret (results_none rfl _ _ _) rfl ?_)
  exact HS.out.done rfl
 rw [if_pos k6] at h
 subst k6
 clear k1a k1b k2b k3b k4a k4b
 by_cases k7 : 1 < x5.length
 rotate_left 1
 ·rw [if_neg k7] at h; cases h
 rw [if_pos k7] at h
 obtain ⟨ad, B3, e3, B4, e4, B5, e5, ea, Y, D⟩ := at_kid0 H5.out (by omega)
 obtain ⟨ad1, C3, i3, C4, i4, C5, i5, ea1, P, DP⟩ := at_kid H5.out 1 k7
 subst ea
 obtain rfl := Option.some.inj ea1
 rw [show 1 * 7 = 7 from rfl, show ((1 : Nat) : Int) = 1 from rfl, show ad.add 7 = ⟨ad.block, ad.off + 7, none⟩ from rfl] at P
 have hl0 : (0 : Int) < x5.length := by omega
 have hl1 : (1 : Int) < x5.length := by omega
 generalize hy : rd_T28 x5 0 = y at h Y
 generalize hp : rd_T28 x5 1 = p at h P
 clear hy hp D DP
 obtain ⟨y0, y1, y2, ⟨y3, y4⟩, y5, y6⟩ := y
 obtain ⟨p0, p1, p2, ⟨p3, p4⟩, p5, p6⟩ := p
 dsimp only at h
 obtain rfl := Option.some.inj h
 clear h
 obtain ⟨v0, v1, v2, v3, v4, v5, v6⟩ := (Y.to HS.out.bel).cells
 dsimp only at v0 v1 v2 v3 v4 v5 v6
 obtain ⟨r0, r1, r2, r3, r4, r5, r6⟩ := (P.to HS.out.bel).cells
 dsimp only at r0 r1 r2 r3 r4 r5 r6
 clear Y P
 have hc : (y0 == 21) = false ∨ ((y0 == 21) = true ∧ ((y1 == 41) = false ∨ ((y1 == 41) = true ∧ ((p0 != 1) = true ∨ ((p0 != 1) = false ∧ (((p3.length : Int) == 0) = false ∨ ((p3.length : Int) == 0) = true)))))) := by cases (y0 == 21) <;> cases (y1 == 41) <;> cases (p0 != 1) <;> cases ((p3.length : Int) == 0) <;> simp
 rcases hc with d0 | ⟨d0, d1 | ⟨d1, d2 | ⟨d2, d3 | d3⟩⟩⟩
 all_goals (first | simp only [d0, d1, d2, d3, Bool.false_and, Bool.true_and, Bool.and_true, Bool.and_false, Bool.true_or, Bool.false_or, Bool.or_true, Bool.or_false, Bool.false_eq_true, if_true, if_false] | simp only [d0, d1, d2, Bool.false_and, Bool.true_and, Bool.and_true, Bool.and_false, Bool.true_or, Bool.false_or, Bool.or_true, Bool.or_false, Bool.false_eq_true, if_true, if_false] | simp only [d0, d1, Bool.false_and, Bool.true_and, Bool.and_true, Bool.and_false, Bool.true_or, Bool.false_or, Bool.or_true, Bool.or_false, Bool.false_eq_true, if_true, if_false] | simp only [d0, Bool.false_and, Bool.true_and, Bool.and_true, Bool.and_false, Bool.true_or, Bool.false_or, Bool.or_true, Bool.or_false, Bool.false_eq_true, if_true, if_false])
 all_goals
  go_enter Try.func30, Try.ntmps30
  go_upto_region 18 with (fail)
  generalize w.alloc (.cells #[.int .i64 6, .int .i64 x1, .string x2, .slice A3 x3.length c3, .slice A4 x4.length c4, .slice (some ad) x5.length c5, .int .i64 x6] 28) = W at HS z5 v0 v1 v2 v3 v4 v5 v6 r0 r1 r2 r3 r4 r5 r6 ⊢
  clear z0 z1 z2 z3 z4 z6 g0 g1
  refine start_ (n := 12) (S := fun W' => Below W.drew.heap.size W.drew W') (ds := []) #[false, false, false, false, false, false, false, false, false, false, false, false] (by kernel_rfl) rfl rfl (Below.refl _ _) (fun hHeld => ?_)
  have hd := below_drew (Below.refl W.heap.size W)
  have HS := Aside0.mk (HS.out.quiet hd)
  have z5 := pw_cell_below hd z5; have v0 := pw_cell_below hd v0; have v1 := pw_cell_below hd v1; have v2 := pw_cell_below hd v2; have v3 := pw_cell_below hd v3; have v4 := pw_cell_below hd v4; have v5 := pw_cell_below hd v5; have v6 := pw_cell_below hd v6; have r0 := pw_cell_below hd r0; have r1 := pw_cell_below hd r1; have r2 := pw_cell_below hd r2; have r3 := pw_cell_below hd r3; have r4 := pw_cell_below hd r4; have r5 := pw_cell_below hd r5; have r6 := pw_cell_below hd r6
  clear hd
  generalize W.drew = Wr at HS hHeld z5 v0 v1 v2 v3 v4 v5 v6 r0 r1 r2 r3 r4 r5 r6 ⊢
  refine pure_ (i := 0) (N := some 73) (v := ?_) (a' := ?_) #[true, false, false, false, false, false, false, false, false, false, false, false] rfl rfl (by kernel_rfl) (fun _ _ _ h => h) (Or.inl ⟨by rfl, ?_⟩) ?_ ?_; rotate_left
  ·intro w'; go_simp; first | with_reducible rfl | (rw [if_pos (by omega)]; done) | (rw [if_pos (by omega)]; rfl)
  rotate_left
  ·simp only [Act.put, List.setIfInBounds_toArray, List.set_cons_zero, List.set_cons_succ, i64_w, i32_w]; rfl
  refine take_ (i := 1) (N := some 74) (v := ?_) (a' := ?_) #[true, true, false, false, false, false, false, false, false, false, false, false] rfl rfl (by kernel_rfl) (fun _ _ _ h => h) (Or.inl ⟨by rfl, ?_⟩) hHeld ?_ ?_; rotate_left
  ·intro w' s0; have q5 := pw_cell_below s0 z5; go_simp; with_reducible rfl
  rotate_left
  ·simp only [Act.put, List.setIfInBounds_toArray, List.set_cons_zero, List.set_cons_succ, i64_w, i32_w]; rfl
  refine pure_ (i := 2) (N := some 75) (v := ?_) (a' := ?_) #[true, true, true, false, false, false, false, false, false, false, false, false] rfl rfl (by kernel_rfl) (fun _ _ _ h => h) (Or.inl ⟨by rfl, ?_⟩) ?_ ?_; rotate_left
  ·intro w'; go_simp; first | with_reducible rfl | (rw [if_pos (by omega)]; done) | (rw [if_pos (by omega)]; rfl)
  rotate_left
  ·simp only [Act.put, List.setIfInBounds_toArray, List.set_cons_zero, List.set_cons_succ, i64_w, i32_w]; rfl
  refine take_ (i := 3) (N := some 76) (v := ?_) (a' := ?_) #[true, true, true, true, false, false, false, false, false, false, false, false] rfl rfl (by kernel_rfl) (fun _ _ _ h => h) (Or.inl ⟨by rfl, ?_⟩) hHeld ?_ ?_; rotate_left
  ·intro w' s0; have q0 := pw_cell_below s0 v0; have q1 := pw_cell_below s0 v1; have q2 := pw_cell_below s0 v2; have q3 := pw_cell_below s0 v3; have q4 := pw_cell_below s0 v4; have q5 := pw_cell_below s0 v5; have q6 := pw_cell_below s0 v6; go_simp; with_reducible rfl
  rotate_left
  ·simp only [Act.put, List.setIfInBounds_toArray, List.set_cons_zero, List.set_cons_succ, i64_w, i32_w]; rfl
  refine pure_ (i := 4) (N := some 77) (v := ?_) (a' := ?_) #[true, true, true, true, true, false, false, false, false, false, false, false] rfl rfl (by kernel_rfl) (fun _ _ _ h => h) (Or.inl ⟨by rfl, ?_⟩) ?_ ?_; rotate_left
  ·intro w'; go_simp; first | with_reducible rfl | (rw [if_pos (by omega)]; done) | (rw [if_pos (by omega)]; rfl)
  rotate_left
  ·simp only [Act.put, List.setIfInBounds_toArray, List.set_cons_zero, List.set_cons_succ, i64_w, i32_w]; rfl
  refine take_ (i := 5) (N := some 78) (v := ?_) (a' := ?_) #[true, true, true, true, true, true, false, false, false, false, false, false] rfl rfl (by kernel_rfl) (fun _ _ _ h => h) (Or.inl ⟨by rfl, ?_⟩) hHeld ?_ ?_; rotate_left
  ·intro w' s0; have q5 := pw_cell_below s0 z5; go_simp; with_reducible rfl
  rotate_left
  ·simp only [Act.put, List.setIfInBounds_toArray, List.set_cons_zero, List.set_cons_succ, i64_w, i32_w]; rfl
  refine pure_ (i := 6) (N := some 79) (v := ?_) (a' := ?_) #[true, true, true, true, true, true, true, false, false, false, false, false] rfl rfl (by kernel_rfl) (fun _ _ _ h => h) (Or.inl ⟨by rfl, ?_⟩) ?_ ?_; rotate_left
  ·intro w'; go_simp; first | with_reducible rfl | (rw [if_pos (by omega)]; done) | (rw [if_pos (by omega)]; rfl)
  rotate_left
  ·simp only [Act.put, List.setIfInBounds_toArray, List.set_cons_zero, List.set_cons_succ, i64_w, i32_w]; rfl
  refine take_ (i := 7) (N := some 80) (v := ?_) (a' := ?_) #[true, true, true, true, true, true, true, true, false, false, false, false] rfl rfl (by kernel_rfl) (fun _ _ _ h => h) (Or.inl ⟨by rfl, ?_⟩) hHeld ?_ ?_; rotate_left
  ·intro w' s0; have q0 := pw_cell_below s0 r0; have q1 := pw_cell_below s0 r1; have q2 := pw_cell_below s0 r2; have q3 := pw_cell_below s0 r3; have q4 := pw_cell_below s0 r4; have q5 := pw_cell_below s0 r5; have q6 := pw_cell_below s0 r6; go_simp; with_reducible rfl
  rotate_left
  ·simp only [Act.put, List.setIfInBounds_toArray, List.set_cons_zero, List.set_cons_succ, i64_w, i32_w]; rfl
  clear z5 v0 v1 v2 v3 v4 v5 v6 r0 r1 r2 r3 r4 r5 r6
  refine join_ (σ := Nat × Nat) 2 #[true, true, true, true, true, true, true, true, true, true, false, false] (fun s_ => [(5, .pointer (some ⟨s_.1, 0, none⟩)), (6, .pointer (some ⟨s_.2, 0, none⟩))]) (fun s_ w' => Below Wr.heap.size Wr w' ∧ w'.heap[s_.1]? = some (.cells #[.int .i64 0, .int .i64 0, .string (⟨#[]⟩ : ByteArray), .slice none 0 0, .slice none 0 0, .slice none 0 0, .int .i64 0] 28 (0, 0)) ∧ w'.heap[s_.2]? = some (.cells #[.int .i64 0, .int .i64 0, .string (⟨#[]⟩ : ByteArray), .slice none 0 0, .slice none 0 0, .slice none 0 0, .int .i64 0] 28 (0, 0)) ∧ s_.1 ≠ s_.2 ∧ Wr.heap.size ≤ s_.1 ∧ Wr.heap.size ≤ s_.2) ?_ ?_; rotate_left
  ·intro hCont
   refine two_ (i := 8) (j := 9) (Ni := some 5) (Nj := some 6) #[true, true, true, true, true, true, true, true, true, false, false, false] #[true, true, true, true, true, true, true, true, false, true, false, false] rfl rfl rfl rfl (by kernel_rfl) (by decide) (by decide) (fun K hK => ?_) (fun K hK => ?_)
   ·skip
    refine box_step ?hg (N := 5) ?hd (cs := #[.int .i64 0, .int .i64 0, .string (⟨#[]⟩ : ByteArray), .slice none 0 0, .slice none 0 0, .slice none 0 0, .int .i64 0]) (t := 28) ?hr ?_; (case hd => rfl); (case hg => rfl); (case hr => first | (go_simp; done) | (go_simp; rfl))
    intro ga hga w1 hboxga hb
    have hLa := Nat.le_trans hHeld.size (Nat.le_of_eq hga.symm)
    have hHeld := hHeld.trans (hb.mono hHeld.size); clear hb
    refine hK.out _ _ hHeld (fun hHeld => ?_); clear hK K
    refine norm_ (a' := ?_) ?_ ?_; rotate_left
    ·show Act.put _ (some 5) _ = _
     simp only [Act.put, List.setIfInBounds_toArray, List.set_cons_zero, List.set_cons_succ, i64_w, i32_w]; rfl
    refine one_ (i := 9) (N := some 6) #[true, true, true, true, true, true, true, true, true, true, false, false] rfl rfl (by kernel_rfl) (by decide) (fun K hK => ?_)
    refine box_step ?hg (N := 6) ?hd (cs := #[.int .i64 0, .int .i64 0, .string (⟨#[]⟩ : ByteArray), .slice none 0 0, .slice none 0 0, .slice none 0 0, .int .i64 0]) (t := 28) ?hr ?_; (case hd => rfl); (case hg => rfl); (case hr => first | (go_simp; done) | (go_simp; rfl))
    intro gb hgb w1 hboxgb hb
    have hLb := Nat.le_trans hHeld.size (Nat.le_of_eq hgb.symm)
    have hne : ga ≠ gb := by have := blk_lt hboxga; omega
    have hboxga := blk_below hboxga hb
    have hHeld := hHeld.trans (hb.mono hHeld.size); clear hb
    refine hK.out _ _ hHeld (fun hHeld => ?_); clear hK K
    refine norm_ (a' := ?_) ?_ ?_; rotate_left
    ·show Act.put _ (some 6) _ = _
     simp only [Act.put, List.setIfInBounds_toArray, List.set_cons_zero, List.set_cons_succ, i64_w, i32_w]; rfl
    exact norm_ (by simp only [putAll, Act.put, List.setIfInBounds_toArray, List.set_cons_zero, List.set_cons_succ]) (hCont (ga, gb) _ ⟨hHeld, hboxga, hboxgb, hne, hLa, hLb⟩)
   ·skip
    refine box_step ?hg (N := 6) ?hd (cs := #[.int .i64 0, .int .i64 0, .string (⟨#[]⟩ : ByteArray), .slice none 0 0, .slice none 0 0, .slice none 0 0, .int .i64 0]) (t := 28) ?hr ?_; (case hd => rfl); (case hg => rfl); (case hr => first | (go_simp; done) | (go_simp; rfl))
    intro ga hga w1 hboxga hb
    have hLa := Nat.le_trans hHeld.size (Nat.le_of_eq hga.symm)
    have hHeld := hHeld.trans (hb.mono hHeld.size); clear hb
    refine hK.out _ _ hHeld (fun hHeld => ?_); clear hK K
    refine norm_ (a' := ?_) ?_ ?_; rotate_left
    ·show Act.put _ (some 6) _ = _
     simp only [Act.put, List.setIfInBounds_toArray, List.set_cons_zero, List.set_cons_succ, i64_w, i32_w]; rfl
    refine one_ (i := 8) (N := some 5) #[true, true, true, true, true, true, true, true, true, true, false, false] rfl rfl (by kernel_rfl) (by decide) (fun K hK => ?_)
    refine box_step ?hg (N := 5) ?hd (cs := #[.int .i64 0, .int .i64 0, .string (⟨#[]⟩ : ByteArray), .slice none 0 0, .slice none 0 0, .slice none 0 0, .int .i64 0]) (t := 28) ?hr ?_; (case hd => rfl); (case hg => rfl); (case hr => first | (go_simp; done) | (go_simp; rfl))
    intro gb hgb w1 hboxgb hb
    have hLb := Nat.le_trans hHeld.size (Nat.le_of_eq hgb.symm)
    have hne : ga ≠ gb := by have := blk_lt hboxga; omega
    have hboxga := blk_below hboxga hb
    have hHeld := hHeld.trans (hb.mono hHeld.size); clear hb
    refine hK.out _ _ hHeld (fun hHeld => ?_); clear hK K
    refine norm_ (a' := ?_) ?_ ?_; rotate_left
    ·show Act.put _ (some 5) _ = _
     simp only [Act.put, List.setIfInBounds_toArray, List.set_cons_zero, List.set_cons_succ, i64_w, i32_w]; rfl
    exact norm_ (by simp only [putAll, Act.put, List.setIfInBounds_toArray, List.set_cons_zero, List.set_cons_succ]) (hCont (gb, ga) _ ⟨hHeld, hboxgb, hboxga, hne.symm, hLb, hLa⟩)
  rintro ⟨g5, g6⟩ W1 ⟨hHeld, hG5, hG6, hne, hL5, hL6⟩
  dsimp only at hG5 hG6 hne hL5 hL6
  refine norm_ (a' := ?_) ?_ ?_; rotate_left
  ·simp only [putAll, Act.put, List.setIfInBounds_toArray, List.set_cons_zero, List.set_cons_succ]; rfl
  refine one_ (i := 10) (N := none) #[true, true, true, true, true, true, true, true, true, true, true, false] rfl rfl (by kernel_rfl) (by decide) (fun K hK => ?_)
  obtain ⟨s0_, s1_, s2_, s3_, s4_, s5_, s6_⟩ := fg_c7 hG5; obtain ⟨u0, u1, u2, u3, u4, u5, u6⟩ := fg_u7 hG5
  refine skip_ (w1 := ?_) (by rfl) rfl ?_ ?_; rotate_left
  ·go_simp; rfl
  obtain ⟨hP, hO, hB⟩ := fg_st7 hHeld hL5 hG5 (.int .i64 y0) (.int .i64 y1) (.string y2) (.slice B3 y3.length e3) (.slice B4 y4.length e4) (.slice B5 y5.length e5) (.int .i64 y6)
  have hG5 := hP; have hG6 := (hO _ hne.symm).trans hG6; clear hP hO
  refine hK.out _ _ hB (fun hHeld => ?_); clear hK K hB s0_ s1_ s2_ s3_ s4_ s5_ s6_ u0 u1 u2 u3 u4 u5 u6
  generalize ((((((W1.setCell _ _).setCell _ _).setCell _ _).setCell _ _).setCell _ _).setCell _ _).setCell _ _ = W2 at hHeld hG5 hG6 ⊢
  refine one_ (i := 11) (N := none) #[true, true, true, true, true, true, true, true, true, true, true, true] rfl rfl (by kernel_rfl) (by decide) (fun K hK => ?_)
  obtain ⟨s0_, s1_, s2_, s3_, s4_, s5_, s6_⟩ := fg_c7 hG6; obtain ⟨u0, u1, u2, u3, u4, u5, u6⟩ := fg_u7 hG6
  refine skip_ (w1 := ?_) (by rfl) rfl ?_ ?_; rotate_left
  ·go_simp; rfl
  obtain ⟨hP, hO, hB⟩ := fg_st7 hHeld hL6 hG6 (.int .i64 p0) (.int .i64 p1) (.string p2) (.slice C3 p3.length i3) (.slice C4 p4.length i4) (.slice C5 p5.length i5) (.int .i64 p6)
  have hG6 := hP; have hG5 := (hO _ hne).trans hG5; clear hP hO
  refine hK.out _ _ hB (fun hHeld => ?_); clear hK K hB s0_ s1_ s2_ s3_ s4_ s5_ s6_ u0 u1 u2 u3 u4 u5 u6
  generalize ((((((W2.setCell _ _).setCell _ _).setCell _ _).setCell _ _).setCell _ _).setCell _ _).setCell _ _ = W3 at hHeld hG5 hG6 ⊢
  refine done_ (by kernel_rfl) ?_
  have HS := Aside0.mk (HS.out.quiet hHeld); clear hHeld
  obtain ⟨v0, v1, v2, v3, v4, v5, v6⟩ := fg_c7 hG5; obtain ⟨r0, r1, r2, r3, r4, r5, r6⟩ := fg_c7 hG6; clear hG5 hG6
  go_wp2_with (first | (go_at_call 47; (with_reducible refine (fg_reject 4 ⟨p0, p1, p2, ⟨p3, p4⟩, p5, p6⟩ _ _ _ _ _ _ _ _ _ _ _ w0 _ g HS.out.bel HS.out.isf).mono ?_); rintro e w2 ⟨rfl, q⟩; have HS := Aside0.mk (HS.out.call q); clear q))
  first | go_end0 | ((try simp only [Exit.inBlock, Exit.then]); refine bodyPost_ret (results_none rfl _ _ _) rfl ?_)
  exact HS.out.done rfl
mutual
def nodeV (k : Nat) (d : Int) : S28 → FgT → Option FgT
 | ⟨x0, x1, x2, x3, ks, x6⟩, fs => (if x0 = 21 then primF k d ⟨x0, x1, x2, x3, ks, x6⟩ fs else some fs).bind fun f1 => (plainV d ⟨x0, x1, x2, x3, ks, x6⟩ f1).bind fun f2 => nodesV k d ks f2
def nodesV (k : Nat) (d : Int) : List S28 → FgT → Option FgT
 | [], fs => some fs
 | x :: xs, fs => (nodeV k d x fs).bind fun f1 => nodesV k d xs f1
end
set_option maxHeartbeats 4000000 in
set_option maxRecDepth 100000 in
theorem fg_node (k : Nat) (x : S28) (d : Int) (fs fs' : FgT) (hok : ∀ y ∈ x.f4, ∀ f1 f2, nodeV k d y f1 = some f2 → FgC 19 y d f1 f2) (h : nodeV k d x fs = some fs') : FgC 19 x d fs fs' := by
 intro A3 c3 A4 c4 A5 c5 w0 w g hd hb hi
 have hun := Try.underlying28
 have huf := Try.underlying48
 have hut := Try.underlying33
 obtain ⟨x0, x1, x2, ⟨x3, x4⟩, x5, x6⟩ := x
 obtain ⟨s0, s1, s2⟩ := fs
 have HS := Aside0.mk (FgS.start #[.int .i64 x0, .int .i64 x1, .string x2, .slice A3 x3.length c3, .slice A4 x4.length c4, .slice A5 x5.length c5, .int .i64 x6] hi hb)
 have HD := Aside0.mk hd
 have H5 := Aside0.mk hd.h5
 clear hd hi hb
 dsimp only at H5 ⊢
 obtain ⟨g0, g1⟩ := HS.out.state; obtain ⟨z0, z1, z2, z3, z4, z5, z6⟩ := HS.out.cells; dsimp only at g1
 dsimp only at hok
 have HOK := Aside0.mk hok
 clear hok
 have HLM := Aside0.mk H5.out.2.1
 rw [nodeV] at h
 obtain ⟨⟨p0, p1, p2⟩, hp, h⟩ := Option.bind_eq_some_iff.1 h
 obtain ⟨⟨q0, q1, q2⟩, hq, h⟩ := Option.bind_eq_some_iff.1 h
 have HQ := Aside0.mk hq
 have HN := Aside0.mk h
 clear hq h
 have c21 : (x0 = 21 ∧ primF k d ⟨x0, x1, x2, ⟨x3, x4⟩, x5, x6⟩ (s0, s1, s2) = some (p0, p1, p2)) ∨ ((x0 == 21) = false ∧ (s0, s1, s2) = (p0, p1, p2)) := by
  by_cases c : x0 = 21
  ·rw [if_pos c] at hp; exact .inl ⟨c, hp⟩
  ·rw [if_neg c] at hp; exact .inr ⟨by simpa using c, Option.some.inj hp⟩
 clear hp
 rcases c21 with ⟨c21, hp⟩ | ⟨c21, hp⟩
 ·have HP := Aside0.mk hp
  have c21b : (x0 == 21) = true := by simpa using c21
  clear hp c21
  skip
  go_enter Try.func19, Try.ntmps19
  go_wp2_with (first | (go_at_call 29; (with_reducible refine (fg_prim k ⟨x0, x1, x2, ⟨x3, x4⟩, x5, x6⟩ _ _ _ HP.out _ _ _ _ _ _ w0 _ g HD.out HS.out.bel HS.out.isf).mono ?_); rintro e w2 ⟨rfl, q⟩; have HS := Aside0.mk (HS.out.call q); clear q z0 z1 z2 z3 z4 z5 z6 g0 g1; obtain ⟨z0, z1, z2, z3, z4, z5, z6⟩ := HS.out.cells) | (go_at_call 30; (with_reducible refine (fg_plain ⟨x0, x1, x2, ⟨x3, x4⟩, x5, x6⟩ _ _ _ HQ.out _ _ _ _ _ _ w0 _ g HD.out HS.out.bel HS.out.isf).mono ?_); rintro e w3 ⟨rfl, q⟩; have HS := Aside0.mk (HS.out.call q); clear q; (try clear z0 z1 z2 z3 z4 z5 z6); obtain ⟨z0, z1, z2, z3, z4, z5, z6⟩ := HS.out.cells))
  clear z0 z1 z2 z3 z4 z5 z6
  go_loopg [21] x5.length (fun kq v21 W => ∃ (j : Nat) (f0 f1 f2 : Int), v21 = .int .i64 (j : Int) ∧ Aside0 (j + kq = x5.length) ∧ Aside0 (nodesV k d (x5.drop j) (f0, f1, f2) = some fs') ∧ Aside0 (FgS w0 w W g w.heap.size #[.int .i64 x0, .int .i64 x1, .string x2, .slice A3 x3.length c3, .slice A4 x4.length c4, .slice A5 x5.length c5, .int .i64 x6] d (f0, f1, f2)))
  case atStart => exact ⟨0, q0, q1, q2, rfl, ⟨by omega⟩, ⟨by rw [List.drop_zero]; exact HN.out⟩, ⟨HS.out⟩⟩
  case round =>
   clear HS HN HQ
   obtain ⟨j, f0, f1, f2, rfl, HJ, HG, HS⟩ := hrel
   by_cases hlt : j < x5.length
   ·obtain ⟨q, rfl⟩ : ∃ q, gk = q + 1 := ⟨gk - 1, by have := HJ.out; omega⟩
    have hlti : (j : Int) < (x5.length : Int) := by omega
    have HWR : Aside0 (wrap64 ((j : Int) + 1) = ((j + 1 : Nat) : Int)) := ⟨by have := HLM.out; unfold wrap64; omega⟩
    obtain ⟨ad, B3, e3, B4, e4, B5, e5, ea, Y, D⟩ := at_kid H5.out j hlt
    have hx : rd_T28 x5 (j : Int) = x5[j] := by simp [rd_T28, hlt]
    have HG2 := HG.out
    rw [List.drop_eq_getElem_cons hlt, nodesV] at HG2
    obtain ⟨⟨t0, t1, t2⟩, ht, hn⟩ := Option.bind_eq_some_iff.1 HG2
    have HK := Aside0.mk (HOK.out x5[j] (List.getElem_mem hlt) _ _ ht)
    have HN := Aside0.mk hn
    clear ht hn HG2
    rw [hx] at Y D
    clear hx
    generalize x5[j] = y at Y D HK
    obtain ⟨y0, y1, y2, ⟨y3, y4⟩, y5, y6⟩ := y
    obtain ⟨v0, v1, v2, v3, v4, v5, v6⟩ := (Y.to HS.out.bel).cells
    dsimp only at v0 v1 v2 v3 v4 v5 v6
    have D := Aside0.mk D
    clear Y
    have EA := Aside0.mk ea
    rw [ea]
    clear ea
    go_wp2_with (first | (go_at_call 19; (with_reducible refine (HK.out _ _ _ _ _ _ w0 _ g D.out (HS.out.quiet (below_alloc (Below.refl _ _) _)).bel (HS.out.quiet (below_alloc (Below.refl _ _) _)).isf).mono ?_); rintro e w5 ⟨rfl, q⟩; have HS := Aside0.mk ((HS.out.quiet (below_alloc (Below.refl _ _) _)).call q); clear q))
    rw [← EA.out]
    go_roundg q
    case measure => omega
    case rel => exact ⟨j + 1, t0, t1, t2, congrArg (Value.int .i64) HWR.out, ⟨by have := HJ.out; omega⟩, ⟨HN.out⟩, ⟨HS.out⟩⟩
   ·have hk : gk = 0 := by have := HJ.out; omega
    subst hk
    have hj : j = x5.length := by have := HJ.out; omega
    subst hj
    have HN := HG.out
    rw [List.drop_length, nodesV] at HN
    obtain rfl := Option.some.inj HN
    clear HN
    go_wp2_with (fail)
    first | go_end0 | ((try simp only [Exit.inBlock, Exit.then]); refine bodyPost_ret (results_none rfl _ _ _) rfl ?_)
    exact HS.out.done rfl
 ·obtain ⟨rfl, rfl, rfl⟩ : s0 = p0 ∧ s1 = p1 ∧ s2 = p2 := by simpa using hp
  clear hp
  go_enter Try.func19, Try.ntmps19
  go_wp2_with (first | (go_at_call 29; (with_reducible refine (fg_prim k ⟨x0, x1, x2, ⟨x3, x4⟩, x5, x6⟩ _ _ _ HP.out _ _ _ _ _ _ w0 _ g HD.out HS.out.bel HS.out.isf).mono ?_); rintro e w2 ⟨rfl, q⟩; have HS := Aside0.mk (HS.out.call q); clear q z0 z1 z2 z3 z4 z5 z6 g0 g1; obtain ⟨z0, z1, z2, z3, z4, z5, z6⟩ := HS.out.cells) | (go_at_call 30; (with_reducible refine (fg_plain ⟨x0, x1, x2, ⟨x3, x4⟩, x5, x6⟩ _ _ _ HQ.out _ _ _ _ _ _ w0 _ g HD.out HS.out.bel HS.out.isf).mono ?_); rintro e w3 ⟨rfl, q⟩; have HS := Aside0.mk (HS.out.call q); clear q; (try clear z0 z1 z2 z3 z4 z5 z6); obtain ⟨z0, z1, z2, z3, z4, z5, z6⟩ := HS.out.cells))
  clear z0 z1 z2 z3 z4 z5 z6
  go_loopg [21] x5.length (fun kq v21 W => ∃ (j : Nat) (f0 f1 f2 : Int), v21 = .int .i64 (j : Int) ∧ Aside0 (j + kq = x5.length) ∧ Aside0 (nodesV k d (x5.drop j) (f0, f1, f2) = some fs') ∧ Aside0 (FgS w0 w W g w.heap.size #[.int .i64 x0, .int .i64 x1, .string x2, .slice A3 x3.length c3, .slice A4 x4.length c4, .slice A5 x5.length c5, .int .i64 x6] d (f0, f1, f2)))
  case atStart => exact ⟨0, q0, q1, q2, rfl, ⟨by omega⟩, ⟨by rw [List.drop_zero]; exact HN.out⟩, ⟨HS.out⟩⟩
  case round =>
   clear HS HN HQ
   obtain ⟨j, f0, f1, f2, rfl, HJ, HG, HS⟩ := hrel
   by_cases hlt : j < x5.length
   ·obtain ⟨q, rfl⟩ : ∃ q, gk = q + 1 := ⟨gk - 1, by have := HJ.out; omega⟩
    have hlti : (j : Int) < (x5.length : Int) := by omega
    have HWR : Aside0 (wrap64 ((j : Int) + 1) = ((j + 1 : Nat) : Int)) := ⟨by have := HLM.out; unfold wrap64; omega⟩
    obtain ⟨ad, B3, e3, B4, e4, B5, e5, ea, Y, D⟩ := at_kid H5.out j hlt
    have hx : rd_T28 x5 (j : Int) = x5[j] := by simp [rd_T28, hlt]
    have HG2 := HG.out
    rw [List.drop_eq_getElem_cons hlt, nodesV] at HG2
    obtain ⟨⟨t0, t1, t2⟩, ht, hn⟩ := Option.bind_eq_some_iff.1 HG2
    have HK := Aside0.mk (HOK.out x5[j] (List.getElem_mem hlt) _ _ ht)
    have HN := Aside0.mk hn
    clear ht hn HG2
    rw [hx] at Y D
    clear hx
    generalize x5[j] = y at Y D HK
    obtain ⟨y0, y1, y2, ⟨y3, y4⟩, y5, y6⟩ := y
    obtain ⟨v0, v1, v2, v3, v4, v5, v6⟩ := (Y.to HS.out.bel).cells
    dsimp only at v0 v1 v2 v3 v4 v5 v6
    have D := Aside0.mk D
    clear Y
    have EA := Aside0.mk ea
    rw [ea]
    clear ea
    go_wp2_with (first | (go_at_call 19; (with_reducible refine (HK.out _ _ _ _ _ _ w0 _ g D.out (HS.out.quiet (below_alloc (Below.refl _ _) _)).bel (HS.out.quiet (below_alloc (Below.refl _ _) _)).isf).mono ?_); rintro e w5 ⟨rfl, q⟩; have HS := Aside0.mk ((HS.out.quiet (below_alloc (Below.refl _ _) _)).call q); clear q))
    rw [← EA.out]
    go_roundg q
    case measure => omega
    case rel => exact ⟨j + 1, t0, t1, t2, congrArg (Value.int .i64) HWR.out, ⟨by have := HJ.out; omega⟩, ⟨HN.out⟩, ⟨HS.out⟩⟩
   ·have hk : gk = 0 := by have := HJ.out; omega
    subst hk
    have hj : j = x5.length := by have := HJ.out; omega
    subst hj
    have HN := HG.out
    rw [List.drop_length, nodesV] at HN
    obtain rfl := Option.some.inj HN
    clear HN
    go_wp2_with (fail)
    first | go_end0 | ((try simp only [Exit.inBlock, Exit.then]); refine bodyPost_ret (results_none rfl _ _ _) rfl ?_)
    exact HS.out.done rfl
theorem fg_upto (k : Nat) : ∀ (N : Nat) (x : S28), SizeOf.sizeOf x ≤ N → ∀ d fs fs', nodeV k d x fs = some fs' → FgC 19 x d fs fs' := by
 intro N
 induction N with
 | zero =>
  intro x h
  obtain ⟨x0, x1, x2, x3, x5, x6⟩ := x
  simp at h
 | succ N ih =>
  intro x h d fs fs' hv
  refine fg_node k x d fs fs' (fun y hy f1 f2 h2 => ih y ?_ d f1 f2 h2) hv
  obtain ⟨x0, x1, x2, x3, x5, x6⟩ := x
  have h1 := List.sizeOf_lt_of_mem hy
  simp at h h1
  omega
theorem fg_load {w : World} {b : Nat} {e a y : Int} (hb : w.heap[b]? = some (.cells #[.int .i64 e, .int .i64 a, .int .i64 y] 33 (0, 0))) : (loadVar 33 ⟨b, 0, none⟩).run Try.prog w = .ok (.agg #[.int .i64 e, .int .i64 a, .int .i64 y]) w := by
 have c0 : w.cell? ⟨b, 0, none⟩ = some (.int .i64 e) := (blk_cell hb 0).trans rfl
 have c1 : w.cell? ⟨b, 1, none⟩ = some (.int .i64 a) := (blk_cell hb 1).trans rfl
 have c2 : w.cell? ⟨b, 2, none⟩ = some (.int .i64 y) := (blk_cell hb 2).trans rfl
 have hut := Try.underlying33
 simp [loadVar, go_sem, hut, c0, c1, c2]
theorem fg_results {fn : Func} {t : Tmp} {ty : TypeId} (h : fn.results = #[.cell t ty]) (tmps : Array Value) (P : Program) (w : World) {a : Addr} {v : Value} (ha : tmps.getD t undef = .pointer (some a)) (hl : (loadVar ty a).run P w = .ok v w) :
  (results fn tmps).run P w = .ok v w := by
 have ha2 : tmps[t]?.getD undef = .pointer (some a) := by simpa using ha
 simp only [loadVar, go_sem] at hl
 simp [results, h, go_sem, ha2]
 simpa using hl
theorem fg_set3 {w : World} {b : Nat} {e a y : Value} (hb : w.heap[b]? = some (.cells #[e, a, y] 33 (0, 0))) (e' a' y' : Value) : (((w.setCell ⟨b, 0, none⟩ e').setCell ⟨b, 1, none⟩ a').setCell ⟨b, 2, none⟩ y').heap[b]? = some (.cells #[e', a', y'] 33 (0, 0)) := by
 have e1 := blk_set hb 0 e'
 have e1 : (w.setCell ⟨b, 0, none⟩ e').heap[b]? = some (.cells #[e', a, y] 33 (0, 0)) := by simpa using e1
 have e2 := blk_set e1 1 a'
 have e2 : ((w.setCell ⟨b, 0, none⟩ e').setCell ⟨b, 1, none⟩ a').heap[b]? = some (.cells #[e', a', y] 33 (0, 0)) := by simpa using e2
 simpa using blk_set e2 2 y'
theorem prim_mono (k : Nat) (d : Int) (x : S28) (fs : FgT) : LeO (primF k d x fs) (primF (k + 1) d x fs) := by
 unfold primF
 exact LeO.ite (LeO.refl _) (LeO.ite (LeO.refl _) (LeO.bind (frag_Says.mono _ _ _) (fun _ => LeO.refl _)))
mutual
theorem node_mono (k : Nat) (d : Int) : ∀ (x : S28) (fs : FgT), LeO (nodeV k d x fs) (nodeV (k + 1) d x fs)
 | ⟨x0, x1, x2, x3, ks, x6⟩, fs => by
  rw [nodeV, nodeV]
  exact LeO.bind (LeO.ite (prim_mono _ _ _ _) (LeO.refl _)) (fun _ => LeO.bind (LeO.refl _) (fun _ => nodes_mono k d ks _))
theorem nodes_mono (k : Nat) (d : Int) : ∀ (l : List S28) (fs : FgT), LeO (nodesV k d l fs) (nodesV (k + 1) d l fs)
 | [], fs => by rw [nodesV, nodesV]; exact LeO.refl _
 | x :: xs, fs => by
  rw [nodesV, nodesV]
  exact LeO.bind (node_mono k d x fs) (fun _ => nodes_mono k d xs _)
end
def frag_Fits.f (k : Nat) (a0 : Int) (a1_0 : Int) (a1_1 : Int) (a1_2 : ByteArray) (l1_3 : List Int) (l1_4 : List (S57)) (l1_5 : List (S28)) (a1_6 : Int) : Option (Int × Int × Int) :=
 if a0 < 0 then some (1, 0, 0) else if a0 > 2 then some (1, 0, 0) else (core_Check.f k a1_0 a1_1 a1_2 l1_3 l1_4 l1_5 a1_6).bind fun c => if c = 0 then nodeV k a0 ⟨a1_0, a1_1, a1_2, ⟨l1_3, l1_4⟩, l1_5, a1_6⟩ (0, 0, 0) else some (1, 0, 0)
theorem frag_Fits.mono : ∀ a0 a1 a2 a3 a4 a5 a6 a7 k, LeO (frag_Fits.f k a0 a1 a2 a3 a4 a5 a6 a7) (frag_Fits.f (k + 1) a0 a1 a2 a3 a4 a5 a6 a7) := by
 intro a0 a1 a2 a3 a4 a5 a6 a7 k
 unfold frag_Fits.f
 exact LeO.ite (LeO.refl _) (LeO.ite (LeO.refl _) (LeO.bind (core_Check.mono _ _ _ _ _ _ _ _) (fun _ => LeO.ite (node_mono _ _ _ _) (LeO.refl _))))
set_option maxHeartbeats 4000000 in
set_option maxRecDepth 100000 in
theorem frag_Fits.calls (k : Nat) (a0 : Int) (a1_0 : Int) (a1_1 : Int) (a1_2 : ByteArray) (A1_3 : Option Addr) (c1_3 : Nat) (l1_3 : List Int) (A1_4 : Option Addr) (c1_4 : Nat) (l1_4 : List (S57)) (A1_5 : Option Addr) (c1_5 : Nat) (l1_5 : List (S28)) (a1_6 : Int) (r1 : Int) (r2 : Int) (r3 : Int) (w : World) (hr1_3 : Kd.C (Kd.int .i64) w A1_3 l1_3.length l1_3) (hc1_3 : l1_3.length ≤ c1_3) (hr1_4 : Kd.C k57 w A1_4 l1_4.length l1_4) (hc1_4 : l1_4.length ≤ c1_4) (hr1_5 : Kd.C k28 w A1_5 l1_5.length l1_5) (hc1_5 : l1_5.length ≤ c1_5) (h : frag_Fits.f k a0 a1_0 a1_1 a1_2 l1_3 l1_4 l1_5 a1_6 = some (r1, r2, r3)) :
  Calls Try.prog 8 #[.int .i64 a0, .agg #[.int .i64 a1_0, .int .i64 a1_1, .string a1_2, .slice A1_3 l1_3.length c1_3, .slice A1_4 l1_4.length c1_4, .slice A1_5 l1_5.length c1_5, .int .i64 a1_6]] w fun e w' => e = .returned (.agg #[.int .i64 r1, .int .i64 r2, .int .i64 r3]) ∧ Below w.heap.size w w' := by
 have hun := Try.underlying28
 have huf := Try.underlying48
 have hut := Try.underlying33
 unfold frag_Fits.f at h
 have HB := Aside0.mk (below_alloc (below_alloc (Below.refl w.heap.size w) (.cells #[.int .i64 a1_0, .int .i64 a1_1, .string a1_2, .slice A1_3 l1_3.length c1_3, .slice A1_4 l1_4.length c1_4, .slice A1_5 l1_5.length c1_5, .int .i64 a1_6] 28 (0, 0))) (.cells #[.int .i64 0, .int .i64 0, .int .i64 0] 33 (0, 0)))
 by_cases c1 : a0 < 0
 ·rw [if_pos c1] at h
  obtain ⟨rfl, rfl, rfl⟩ : 1 = r1 ∧ 0 = r2 ∧ 0 = r3 := by simpa using h
  clear h
  have c1b : decide (a0 < 0) = true := decide_eq_true c1
  go_enter Try.func8, Try.ntmps8
  go_wp2_with (fail)
  (try simp only [Exit.inBlock, Exit.then]); refine bodyPost_ret (fg_results rfl _ _ _ rfl (fg_load (by simpa using blk_new (w.alloc (.cells #[.int .i64 a1_0, .int .i64 a1_1, .string a1_2, .slice A1_3 l1_3.length c1_3, .slice A1_4 l1_4.length c1_4, .slice A1_5 l1_5.length c1_5, .int .i64 a1_6] 28 (0, 0))) (.cells #[.int .i64 1, .int .i64 0, .int .i64 0] 33 (0, 0))))) rfl ?_
  exact ⟨rfl, below_alloc (below_alloc (Below.refl _ _) _) _⟩
 rw [if_neg c1] at h
 have c1b : decide (a0 < 0) = false := decide_eq_false c1
 clear c1
 by_cases c2 : a0 > 2
 ·rw [if_pos c2] at h
  obtain ⟨rfl, rfl, rfl⟩ : 1 = r1 ∧ 0 = r2 ∧ 0 = r3 := by simpa using h
  clear h
  have c2b : decide (a0 > 2) = true := decide_eq_true c2
  go_enter Try.func8, Try.ntmps8
  go_wp2_with (fail)
  (try simp only [Exit.inBlock, Exit.then]); refine bodyPost_ret (fg_results rfl _ _ _ rfl (fg_load (by simpa using blk_new (w.alloc (.cells #[.int .i64 a1_0, .int .i64 a1_1, .string a1_2, .slice A1_3 l1_3.length c1_3, .slice A1_4 l1_4.length c1_4, .slice A1_5 l1_5.length c1_5, .int .i64 a1_6] 28 (0, 0))) (.cells #[.int .i64 1, .int .i64 0, .int .i64 0] 33 (0, 0))))) rfl ?_
  exact ⟨rfl, below_alloc (below_alloc (Below.refl _ _) _) _⟩
 rw [if_neg c2] at h
 have c2b : decide (a0 > 2) = false := decide_eq_false c2
 clear c2
 obtain ⟨c, hc, h⟩ := Option.bind_eq_some_iff.1 h
 have HC := Aside0.mk hc
 have HR3 := Aside0.mk hr1_3
 have HC3 := Aside0.mk hc1_3
 have HR4 := Aside0.mk hr1_4
 have HC4 := Aside0.mk hc1_4
 have HR5 := Aside0.mk hr1_5
 have HC5 := Aside0.mk hc1_5
 have HD : Aside0 (CkN w ⟨a1_0, a1_1, a1_2, ⟨l1_3, l1_4⟩, l1_5, a1_6⟩ A1_3 c1_3 A1_4 c1_4 A1_5 c1_5) := ⟨⟨hr1_3, hc1_3, hr1_4, hc1_4, hr1_5, hc1_5⟩⟩
 have BX := Aside0.mk (blk_alloc (blk_new w (.cells #[.int .i64 a1_0, .int .i64 a1_1, .string a1_2, .slice A1_3 l1_3.length c1_3, .slice A1_4 l1_4.length c1_4, .slice A1_5 l1_5.length c1_5, .int .i64 a1_6] 28 (0, 0))) (.cells #[.int .i64 0, .int .i64 0, .int .i64 0] 33 (0, 0)))
 have BR : Aside0 (((w.alloc (.cells #[.int .i64 a1_0, .int .i64 a1_1, .string a1_2, .slice A1_3 l1_3.length c1_3, .slice A1_4 l1_4.length c1_4, .slice A1_5 l1_5.length c1_5, .int .i64 a1_6] 28 (0, 0))).alloc (.cells #[.int .i64 0, .int .i64 0, .int .i64 0] 33 (0, 0))).heap[w.heap.size + 1]? = some (.cells #[.int .i64 0, .int .i64 0, .int .i64 0] 33 (0, 0))) := ⟨by simpa using blk_new (w.alloc (.cells #[.int .i64 a1_0, .int .i64 a1_1, .string a1_2, .slice A1_3 l1_3.length c1_3, .slice A1_4 l1_4.length c1_4, .slice A1_5 l1_5.length c1_5, .int .i64 a1_6] 28 (0, 0))) (.cells #[.int .i64 0, .int .i64 0, .int .i64 0] 33 (0, 0))⟩
 have GE : Aside0 (w.heap.size ≤ w.heap.size + 1) := ⟨by omega⟩
 clear hc hr1_3 hc1_3 hr1_4 hc1_4 hr1_5 hc1_5
 by_cases c3 : c = 0
 rotate_left 1
 ·rw [if_neg c3] at h
  obtain ⟨rfl, rfl, rfl⟩ : 1 = r1 ∧ 0 = r2 ∧ 0 = r3 := by simpa using h
  clear h
  have c3b : (c != 0) = true := by simpa using c3
  clear c3
  go_enter Try.func8, Try.ntmps8
  go_wp2_with (first | (go_at_call 18; (with_reducible refine (core_Check.calls k _ _ _ _ _ l1_3 _ _ l1_4 _ _ l1_5 _ c _ (Kd.C_below HR3.out HB.out) HC3.out (Kd.C_below HR4.out HB.out) HC4.out (Kd.C_below HR5.out HB.out) HC5.out HC.out).mono ?_); rintro e w2 ⟨rfl, q⟩; have HB2 := Aside0.mk (HB.out.trans (q.mono HB.out.size)); have BX := Aside0.mk (blk_below BX.out q); have BR := Aside0.mk (blk_below BR.out q); clear q; have r0 := (blk_cell BR.out 0).trans rfl; have r1_ := (blk_cell BR.out 1).trans rfl; have r2_ := (blk_cell BR.out 2).trans rfl; have f0 := blk_frozen BR.out 0; have f1 := blk_frozen BR.out 1; have f2 := blk_frozen BR.out 2))
  (try simp only [Exit.inBlock, Exit.then]); refine bodyPost_ret (fg_results rfl _ _ _ rfl (fg_load (fg_set3 BR.out _ _ _))) rfl ?_
  exact ⟨rfl, below_set (below_set (below_set HB2.out GE.out) GE.out) GE.out⟩
 ·rw [if_pos c3] at h
  have HN := Aside0.mk h
  have c3b : (c != 0) = false := by simpa using c3
  clear c3 h
  go_enter Try.func8, Try.ntmps8
  go_wp2_with (first | (go_at_call 18; (with_reducible refine (core_Check.calls k _ _ _ _ _ l1_3 _ _ l1_4 _ _ l1_5 _ c _ (Kd.C_below HR3.out HB.out) HC3.out (Kd.C_below HR4.out HB.out) HC4.out (Kd.C_below HR5.out HB.out) HC5.out HC.out).mono ?_); rintro e w2 ⟨rfl, q⟩; have HB2 := Aside0.mk (HB.out.trans (q.mono HB.out.size)); have BX := Aside0.mk (blk_below BX.out q); have BR := Aside0.mk (blk_below BR.out q); have BR0 := BR; clear q; have hba := below_alloc (Below.refl w2.heap.size w2) (.cells #[.int .i64 a0, .int .i64 0, .int .i64 0, .int .i64 0] 48 (0, 0)); have BX := Aside0.mk (blk_below BX.out hba); have BR := Aside0.mk (blk_below BR.out hba); have HB3 := Aside0.mk (HB2.out.trans (hba.mono HB2.out.size)); have FI : Aside0 (FgI w (w2.alloc (.cells #[.int .i64 a0, .int .i64 0, .int .i64 0, .int .i64 0] 48 (0, 0))) w2.heap.size a0 (0, 0, 0)) := ⟨⟨blk_new w2 _, HB2.out.size⟩⟩; have GN : Aside0 (w.heap.size + 1 ≠ w2.heap.size) := ⟨by have := (Array.getElem?_eq_some_iff.1 BR0.out).1; omega⟩; clear hba; have z0 := (blk_cell BX.out 0).trans rfl; have z1 := (blk_cell BX.out 1).trans rfl; have z2 := (blk_cell BX.out 2).trans rfl; have z3 := (blk_cell BX.out 3).trans rfl; have z4 := (blk_cell BX.out 4).trans rfl; have z5 := (blk_cell BX.out 5).trans rfl; have z6 := (blk_cell BX.out 6).trans rfl) | (go_at_call 19; (with_reducible refine (fg_upto k _ ⟨a1_0, a1_1, a1_2, ⟨l1_3, l1_4⟩, l1_5, a1_6⟩ (Nat.le_refl _) a0 (0, 0, 0) (r1, r2, r3) HN.out _ _ _ _ _ _ w _ w2.heap.size HD.out HB3.out FI.out).mono ?_); rintro e w5 ⟨rfl, q1, q2, q3⟩; have HB4 := Aside0.mk q2; have BR := Aside0.mk (q3.blk BR.out GN.out (by simp)); have FI := Aside0.mk q1; clear q1 q2 q3 z0 z1 z2 z3 z4 z5 z6; have g0 := (blk_cell FI.out.blk 0).trans rfl; have g1 := (blk_cell FI.out.blk 1).trans rfl; have g2 := (blk_cell FI.out.blk 2).trans rfl; have g3 := (blk_cell FI.out.blk 3).trans rfl; dsimp only at g1 g2 g3; have r0 := (blk_cell BR.out 0).trans rfl; have r1_ := (blk_cell BR.out 1).trans rfl; have r2_ := (blk_cell BR.out 2).trans rfl; have f0 := blk_frozen BR.out 0; have f1 := blk_frozen BR.out 1; have f2 := blk_frozen BR.out 2))
  (try simp only [Exit.inBlock, Exit.then]); refine bodyPost_ret (fg_results rfl _ _ _ rfl (fg_load (fg_set3 BR.out _ _ _))) rfl ?_
  exact ⟨rfl, below_set (below_set (below_set HB4.out GE.out) GE.out) GE.out⟩
def triglyphref10_One.f (a0_0 : Int) (a0_1 : Int) (a0_2 : ByteArray) (l0_3 : List Int) (l0_4 : List (S57)) (l0_5 : List (S28)) (a0_6 : Int) (a1_0 : Int) (a1_1 : Int) (a1_2 : ByteArray) (l1_3 : List Int) (l1_4 : List (S57)) (l1_5 : List (S28)) (a1_6 : Int) : Option (Int × Int × ByteArray × List Int × (List (S57)) × (List (S28)) × Int) := some (5, 0, (⟨#[]⟩ : ByteArray), ([] : List Int), ([] : List (S57)), (([(⟨a0_0, a0_1, a0_2, (⟨l0_3, l0_4⟩ : S25), l0_5, a0_6⟩ : S28), (⟨a1_0, a1_1, a1_2, (⟨l1_3, l1_4⟩ : S25), l1_5, a1_6⟩ : S28)] : List (S28))), 0)
set_option maxHeartbeats 8000000 in
set_option maxRecDepth 100000 in
theorem triglyphref10_One.calls (a0_0 : Int) (a0_1 : Int) (a0_2 : ByteArray) (P0_3_ : Nat → Prop) (A0_3 : Option Addr) (c0_3 : Nat) (l0_3 : List Int) (P0_4_ : Nat → Prop) (A0_4 : Option Addr) (c0_4 : Nat) (l0_4 : List (S57)) (P0_5_ : Nat → Prop) (A0_5 : Option Addr) (c0_5 : Nat) (l0_5 : List (S28)) (a0_6 : Int) (a1_0 : Int) (a1_1 : Int) (a1_2 : ByteArray) (P1_3_ : Nat → Prop) (A1_3 : Option Addr) (c1_3 : Nat) (l1_3 : List Int) (P1_4_ : Nat → Prop) (A1_4 : Option Addr) (c1_4 : Nat) (l1_4 : List (S57)) (P1_5_ : Nat → Prop) (A1_5 : Option Addr) (c1_5 : Nat) (l1_5 : List (S28)) (a1_6 : Int) (r1 : Int) (r2 : Int) (r3 : ByteArray) (r4 : List Int) (r5 : List (S57)) (r6 : List (S28)) (r7 : Int) (w : World) (hs0_3 : Kd.V (Kd.int .i64) 3 w w.heap.size (fun k_ => P0_3_ k_) (.slice A0_3 l0_3.length c0_3) l0_3) (hs0_4 : Kd.V k57 57 w w.heap.size (fun k_ => P0_4_ k_) (.slice A0_4 l0_4.length c0_4) l0_4) (hs0_5 : Kd.V k28 28 w w.heap.size (fun k_ => P0_5_ k_) (.slice A0_5 l0_5.length c0_5) l0_5) (hs1_3 : Kd.V (Kd.int .i64) 3 w w.heap.size (fun k_ => P1_3_ k_) (.slice A1_3 l1_3.length c1_3) l1_3) (hs1_4 : Kd.V k57 57 w w.heap.size (fun k_ => P1_4_ k_) (.slice A1_4 l1_4.length c1_4) l1_4) (hs1_5 : Kd.V k28 28 w w.heap.size (fun k_ => P1_5_ k_) (.slice A1_5 l1_5.length c1_5) l1_5) (h : triglyphref10_One.f a0_0 a0_1 a0_2 l0_3 l0_4 l0_5 a0_6 a1_0 a1_1 a1_2 l1_3 l1_4 l1_5 a1_6 = some (r1, r2, r3, r4, r5, r6, r7)) :
  Calls Try.prog 14 #[.agg #[.int .i64 a0_0, .int .i64 a0_1, .string a0_2, .slice A0_3 l0_3.length c0_3, .slice A0_4 l0_4.length c0_4, .slice A0_5 l0_5.length c0_5, .int .i64 a0_6], .agg #[.int .i64 a1_0, .int .i64 a1_1, .string a1_2, .slice A1_3 l1_3.length c1_3, .slice A1_4 l1_4.length c1_4, .slice A1_5 l1_5.length c1_5, .int .i64 a1_6]] w fun e w' => ∃ v3_ v4_ v5_ : Value, e = .returned (.agg #[.int .i64 r1, .int .i64 r2, .string r3, v3_, v4_, v5_, .int .i64 r7]) ∧ Kd.R (Kd.int .i64) 3 w' w.heap.size (fun k_ => (w.heap.size ≤ k_)) v3_ r4 ∧ Kd.N k57 57 w' w.heap.size (fun k_ => ((P0_3_ k_ ∨ P0_4_ k_ ∨ P0_5_ k_ ∨ P1_3_ k_ ∨ P1_4_ k_ ∨ P1_5_ k_) ∨ w.heap.size ≤ k_) ∧ some k_ ≠ (v3_ : Value).ownBlock ∧ some k_ ≠ (v5_ : Value).ownBlock) v4_ r5 ∧ Kd.N k28 28 w' w.heap.size (fun k_ => ((P0_3_ k_ ∨ P0_4_ k_ ∨ P0_5_ k_ ∨ P1_3_ k_ ∨ P1_4_ k_ ∨ P1_5_ k_) ∨ w.heap.size ≤ k_) ∧ some k_ ≠ (v3_ : Value).ownBlock ∧ some k_ ≠ (v4_ : Value).ownBlock) v5_ r6 ∧ Below w.heap.size w w' := by
 have hu28 := Try.underlying28
 have HO0_3 := gA (show Kd.V (Kd.int .i64) 3 w w.heap.size (fun k_ => ((P0_3_ k_ ∨ P0_4_ k_ ∨ P0_5_ k_ ∨ P1_3_ k_ ∨ P1_4_ k_ ∨ P1_5_ k_) ∨ w.heap.size ≤ k_)) (.slice A0_3 l0_3.length c0_3) l0_3 from Kd.V_mono hs0_3 (fun k_ hk => .inl (.inl hk)))
 have HO0_4 := gA (show Kd.V k57 57 w w.heap.size (fun k_ => ((P0_3_ k_ ∨ P0_4_ k_ ∨ P0_5_ k_ ∨ P1_3_ k_ ∨ P1_4_ k_ ∨ P1_5_ k_) ∨ w.heap.size ≤ k_)) (.slice A0_4 l0_4.length c0_4) l0_4 from Kd.V_mono hs0_4 (fun k_ hk => .inl (.inr (.inl hk))))
 have HO0_5 := gA (show Kd.V k28 28 w w.heap.size (fun k_ => ((P0_3_ k_ ∨ P0_4_ k_ ∨ P0_5_ k_ ∨ P1_3_ k_ ∨ P1_4_ k_ ∨ P1_5_ k_) ∨ w.heap.size ≤ k_)) (.slice A0_5 l0_5.length c0_5) l0_5 from Kd.V_mono hs0_5 (fun k_ hk => .inl (.inr (.inr (.inl hk)))))
 have HO1_3 := gA (show Kd.V (Kd.int .i64) 3 w w.heap.size (fun k_ => ((P0_3_ k_ ∨ P0_4_ k_ ∨ P0_5_ k_ ∨ P1_3_ k_ ∨ P1_4_ k_ ∨ P1_5_ k_) ∨ w.heap.size ≤ k_)) (.slice A1_3 l1_3.length c1_3) l1_3 from Kd.V_mono hs1_3 (fun k_ hk => .inl (.inr (.inr (.inr (.inl hk))))))
 have HO1_4 := gA (show Kd.V k57 57 w w.heap.size (fun k_ => ((P0_3_ k_ ∨ P0_4_ k_ ∨ P0_5_ k_ ∨ P1_3_ k_ ∨ P1_4_ k_ ∨ P1_5_ k_) ∨ w.heap.size ≤ k_)) (.slice A1_4 l1_4.length c1_4) l1_4 from Kd.V_mono hs1_4 (fun k_ hk => .inl (.inr (.inr (.inr (.inr (.inl hk)))))))
 have HO1_5 := gA (show Kd.V k28 28 w w.heap.size (fun k_ => ((P0_3_ k_ ∨ P0_4_ k_ ∨ P0_5_ k_ ∨ P1_3_ k_ ∨ P1_4_ k_ ∨ P1_5_ k_) ∨ w.heap.size ≤ k_)) (.slice A1_5 l1_5.length c1_5) l1_5 from Kd.V_mono hs1_5 (fun k_ hk => .inl (.inr (.inr (.inr (.inr (.inr hk)))))))
 have HB := gA (Below.refl w.heap.size w)
 have H : (some (5, 0, (⟨#[]⟩ : ByteArray), ([] : List Int), ([] : List (S57)), (([(⟨a0_0, a0_1, a0_2, (⟨l0_3, l0_4⟩ : S25), l0_5, a0_6⟩ : S28), (⟨a1_0, a1_1, a1_2, (⟨l1_3, l1_4⟩ : S25), l1_5, a1_6⟩ : S28)] : List (S28))), 0)) = some (r1, r2, r3, r4, r5, r6, r7) := h
 clear h
 obtain ⟨y132, hy132⟩ : ∃ y_ : List (S28), y_ = (([(⟨a0_0, a0_1, a0_2, (⟨l0_3, l0_4⟩ : S25), l0_5, a0_6⟩ : S28), (⟨a1_0, a1_1, a1_2, (⟨l1_3, l1_4⟩ : S25), l1_5, a1_6⟩ : S28)] : List (S28))) := ⟨_, rfl⟩
 replace H : (some (5, 0, (⟨#[]⟩ : ByteArray), ([] : List Int), ([] : List (S57)), y132, 0)) = some (r1, r2, r3, r4, r5, r6, r7) := by first | (rw [hy132]; with_reducible exact H) | (have H2_ := (Option.bind_some _ _).symm.trans H; rw [hy132]; with_reducible exact H2_) | (have H2_ := (Option.bind_some _ _).symm.trans H; with_reducible exact H2_) | with_reducible exact H | (rw [hy132]; exact H) | exact H
 have Ny132 := gA hy132
 clear hy132
 simp only [Option.some.injEq, Prod.mk.injEq] at H
 obtain ⟨rfl, rfl, rfl, rfl, rfl, rfl, rfl⟩ := H
 go_enter Try.func14, Try.ntmps14
 go_wp2_with (first | ((with_reducible refine gate_dst (N := 2) rfl ?_); refine box_event ?hg (N := 2) ?hd (cs := #[.int .i64 a0_0, .int .i64 a0_1, .string a0_2, .slice A0_3 l0_3.length c0_3, .slice A0_4 l0_4.length c0_4, .slice A0_5 l0_5.length c0_5, .int .i64 a0_6]) (t := 28) ?hr ?_; (case hd => rfl); (case hg => rfl); (case hr => first | (go_simp; done) | (go_simp; rfl)); intro gb129 hg w3 hbox hb; replace HO0_3 := gA (Kd.V_below (Kd.V_elderB (gV HO0_3) gb129 (Nat.le_of_eq hg.symm)) hb); replace HO0_4 := gA (Kd.V_below (Kd.V_elderB (gV HO0_4) gb129 (Nat.le_of_eq hg.symm)) hb); replace HO0_5 := gA (Kd.V_below (Kd.V_elderB (gV HO0_5) gb129 (Nat.le_of_eq hg.symm)) hb); replace HO1_3 := gA (Kd.V_below (Kd.V_elderB (gV HO1_3) gb129 (Nat.le_of_eq hg.symm)) hb); replace HO1_4 := gA (Kd.V_below (Kd.V_elderB (gV HO1_4) gb129 (Nat.le_of_eq hg.symm)) hb); replace HO1_5 := gA (Kd.V_below (Kd.V_elderB (gV HO1_5) gb129 (Nat.le_of_eq hg.symm)) hb); have BK129 := gA (hbox); have GW129 := gA ((by rw [hg]; exact (below_size (gB HB)) : w.heap.size ≤ gb129)); have GE129 := gA ((by rw [hg]; exact (below_size (gB HB)) : w.heap.size ≤ gb129)); replace HB := gA (below_step (gB HB) hb); clear hb hbox hg) | ((with_reducible refine gate_dst (N := 3) rfl ?_); refine box_event ?hg (N := 3) ?hd (cs := #[.int .i64 a1_0, .int .i64 a1_1, .string a1_2, .slice A1_3 l1_3.length c1_3, .slice A1_4 l1_4.length c1_4, .slice A1_5 l1_5.length c1_5, .int .i64 a1_6]) (t := 28) ?hr ?_; (case hd => rfl); (case hg => rfl); (case hr => first | (go_simp; done) | (go_simp; rfl)); intro gb130 hg w4 hbox hb; replace HO0_3 := gA (Kd.V_below (Kd.V_elderB (gV HO0_3) gb130 (Nat.le_of_eq hg.symm)) hb); replace HO0_4 := gA (Kd.V_below (Kd.V_elderB (gV HO0_4) gb130 (Nat.le_of_eq hg.symm)) hb); replace HO0_5 := gA (Kd.V_below (Kd.V_elderB (gV HO0_5) gb130 (Nat.le_of_eq hg.symm)) hb); replace HO1_3 := gA (Kd.V_below (Kd.V_elderB (gV HO1_3) gb130 (Nat.le_of_eq hg.symm)) hb); replace HO1_4 := gA (Kd.V_below (Kd.V_elderB (gV HO1_4) gb130 (Nat.le_of_eq hg.symm)) hb); replace HO1_5 := gA (Kd.V_below (Kd.V_elderB (gV HO1_5) gb130 (Nat.le_of_eq hg.symm)) hb); have BK130 := gA (hbox); have GW130 := gA ((by rw [hg]; exact (below_size (gB HB)) : w.heap.size ≤ gb130)); have GE130 := gA ((by rw [hg]; exact (below_size (gB HB)) : w.heap.size ≤ gb130)); replace HB := gA (below_step (gB HB) hb); have NB129_130 := gA ((by rw [hg]; exact Nat.ne_of_lt (blk_lt (gK BK129)) : gb129 ≠ gb130)); have NB130_129 := gA ((by rw [hg]; exact Nat.ne_of_gt (blk_lt (gK BK129)) : gb130 ≠ gb129)); replace BK129 := gA (blk_below (gK BK129) hb); clear hb hbox hg) | ((with_reducible refine gate_dst (N := 4) rfl ?_); refine box_event ?hg (N := 4) ?hd (cs := #[.int .i64 0, .int .i64 0, .string (⟨#[]⟩ : ByteArray), .slice none 0 0, .slice none 0 0, .slice none 0 0, .int .i64 0]) (t := 28) ?hr ?_; (case hd => rfl); (case hg => rfl); (case hr => first | (go_simp; done) | (go_simp; rfl)); intro gb131 hg w5 hbox hb; replace HO0_3 := gA (Kd.V_below (Kd.V_elderB (gV HO0_3) gb131 (Nat.le_of_eq hg.symm)) hb); replace HO0_4 := gA (Kd.V_below (Kd.V_elderB (gV HO0_4) gb131 (Nat.le_of_eq hg.symm)) hb); replace HO0_5 := gA (Kd.V_below (Kd.V_elderB (gV HO0_5) gb131 (Nat.le_of_eq hg.symm)) hb); replace HO1_3 := gA (Kd.V_below (Kd.V_elderB (gV HO1_3) gb131 (Nat.le_of_eq hg.symm)) hb); replace HO1_4 := gA (Kd.V_below (Kd.V_elderB (gV HO1_4) gb131 (Nat.le_of_eq hg.symm)) hb); replace HO1_5 := gA (Kd.V_below (Kd.V_elderB (gV HO1_5) gb131 (Nat.le_of_eq hg.symm)) hb); have BK131 := gA (hbox); have GW131 := gA ((by rw [hg]; exact (below_size (gB HB)) : w.heap.size ≤ gb131)); have GE131 := gA ((by rw [hg]; exact (below_size (gB HB)) : w.heap.size ≤ gb131)); replace HB := gA (below_step (gB HB) hb); have NB129_131 := gA ((by rw [hg]; exact Nat.ne_of_lt (blk_lt (gK BK129)) : gb129 ≠ gb131)); have NB131_129 := gA ((by rw [hg]; exact Nat.ne_of_gt (blk_lt (gK BK129)) : gb131 ≠ gb129)); replace BK129 := gA (blk_below (gK BK129) hb); have NB130_131 := gA ((by rw [hg]; exact Nat.ne_of_lt (blk_lt (gK BK130)) : gb130 ≠ gb131)); have NB131_130 := gA ((by rw [hg]; exact Nat.ne_of_gt (blk_lt (gK BK130)) : gb131 ≠ gb130)); replace BK130 := gA (blk_below (gK BK130) hb); clear hb hbox hg; have hnb6 := NB129_130.out; have hnc6 := NB130_129.out; have hnb7 := NB129_131.out; have hnc7 := NB131_129.out; have hcz8_0 := gz BK129 0 rfl; have hcz8_1 := gz BK129 1 rfl; have hcz8_2 := gz BK129 2 rfl; have hcz8_3 := gz BK129 3 rfl; have hcz8_4 := gz BK129 4 rfl; have hcz8_5 := gz BK129 5 rfl; have hcz8_6 := gz BK129 6 rfl; have hfz8_0 := blk_frozen BK129.out 0; have hfz8_1 := blk_frozen BK129.out 1; have hfz8_2 := blk_frozen BK129.out 2; have hfz8_3 := blk_frozen BK129.out 3; have hfz8_4 := blk_frozen BK129.out 4; have hfz8_5 := blk_frozen BK129.out 5; have hfz8_6 := blk_frozen BK129.out 6; have hnb9 := NB130_131.out; have hnc9 := NB131_130.out; have hcz10_0 := gz BK130 0 rfl; have hcz10_1 := gz BK130 1 rfl; have hcz10_2 := gz BK130 2 rfl; have hcz10_3 := gz BK130 3 rfl; have hcz10_4 := gz BK130 4 rfl; have hcz10_5 := gz BK130 5 rfl; have hcz10_6 := gz BK130 6 rfl; have hfz10_0 := blk_frozen BK130.out 0; have hfz10_1 := blk_frozen BK130.out 1; have hfz10_2 := blk_frozen BK130.out 2; have hfz10_3 := blk_frozen BK130.out 3; have hfz10_4 := blk_frozen BK130.out 4; have hfz10_5 := blk_frozen BK130.out 5; have hfz10_6 := blk_frozen BK130.out 6) | ((with_reducible refine gate_dst (N := 7) rfl ?_); refine Kd.N_lit k28 _ 28 ?hg (N' := 7) ?hd (xs := ([(⟨a0_0, a0_1, a0_2, (⟨l0_3, l0_4⟩ : S25), l0_5, a0_6⟩ : S28), (⟨a1_0, a1_1, a1_2, (⟨l1_3, l1_4⟩ : S25), l1_5, a1_6⟩ : S28)] : List (S28))) (inner := [.int .i64 a0_0, .int .i64 a0_1, .string a0_2, .slice A0_3 l0_3.length c0_3, .slice A0_4 l0_4.length c0_4, .slice A0_5 l0_5.length c0_5, .int .i64 a0_6, .int .i64 a1_0, .int .i64 a1_1, .string a1_2, .slice A1_3 l1_3.length c1_3, .slice A1_4 l1_4.length c1_4, .slice A1_5 l1_5.length c1_5, .int .i64 a1_6]) (ok := (fun k_ => ((P0_3_ k_ ∨ P0_4_ k_ ∨ P0_5_ k_ ∨ P1_3_ k_ ∨ P1_4_ k_ ∨ P1_5_ k_) ∨ w.heap.size ≤ k_) ∧ k_ ≠ gb129 ∧ k_ ≠ gb130 ∧ k_ ≠ gb131)) (okp := (fun k_ => ((P0_3_ k_ ∨ P0_4_ k_ ∨ P0_5_ k_ ∨ P1_3_ k_ ∨ P1_4_ k_ ∨ P1_5_ k_) ∨ w.heap.size ≤ k_) ∧ k_ ≠ gb129 ∧ k_ ≠ gb130 ∧ k_ ≠ gb131)) ?hr ?hp (fun _ hk => hk) ((show ∀ k_, w5.heap.size ≤ k_ → (fun k_ => ((P0_3_ k_ ∨ P0_4_ k_ ∨ P0_5_ k_ ∨ P1_3_ k_ ∨ P1_4_ k_ ∨ P1_5_ k_) ∨ w.heap.size ≤ k_) ∧ k_ ≠ gb129 ∧ k_ ≠ gb130 ∧ k_ ≠ gb131) k_ from fun k_ hk => ⟨(.inr (Nat.le_trans (below_size (gB HB)) hk)), Kd.freshB (gK BK129) k_ hk, Kd.freshB (gK BK130) k_ hk, Kd.freshB (g := gb131) (o := .cells #[.int .i64 0, .int .i64 0, .string (⟨#[]⟩ : ByteArray), .slice none 0 0, .slice none 0 0, .slice none 0 0, .int .i64 0] 28 (0, 0)) (gK BK131) k_ hk⟩) _ (Nat.le_refl _)) (Below.refl _ _) (Nat.le_refl _) (by simp) ?_; (case hd => rfl); (case hg => rfl); (case hr => first | (go_simp; done) | (go_simp; rfl)); (case hp => exact (Reps.c7 (show Kd.FK k28 _ _ (⟨a0_0, a0_1, a0_2, (⟨l0_3, l0_4⟩ : S25), l0_5, a0_6⟩ : S28) [.int .i64 a0_0, .int .i64 a0_1, .string a0_2, .slice A0_3 l0_3.length c0_3, .slice A0_4 l0_4.length c0_4, .slice A0_5 l0_5.length c0_5, .int .i64 a0_6] from (k28_mkF _ _ (⟨a0_0, a0_1, a0_2, (⟨l0_3, l0_4⟩ : S25), l0_5, a0_6⟩ : S28) (Kd.V_reads' (Kd.V_mono (ok' := (fun k_ => ((P0_3_ k_ ∨ P0_4_ k_ ∨ P0_5_ k_ ∨ P1_3_ k_ ∨ P1_4_ k_ ∨ P1_5_ k_) ∨ w.heap.size ≤ k_) ∧ k_ ≠ gb129 ∧ k_ ≠ gb130 ∧ k_ ≠ gb131)) (HO0_3.out) (fun k_ hk => ⟨hk.1.1.1, ⟨hk.1.1.2, ⟨hk.1.2, hk.2⟩⟩⟩))).2.1 (Kd.V_F (Kd.V_mono (ok' := (fun k_ => ((P0_3_ k_ ∨ P0_4_ k_ ∨ P0_5_ k_ ∨ P1_3_ k_ ∨ P1_4_ k_ ∨ P1_5_ k_) ∨ w.heap.size ≤ k_) ∧ k_ ≠ gb129 ∧ k_ ≠ gb130 ∧ k_ ≠ gb131)) (HO0_3.out) (fun k_ hk => ⟨hk.1.1.1, ⟨hk.1.1.2, ⟨hk.1.2, hk.2⟩⟩⟩))) (Kd.V_reads' (Kd.V_mono (ok' := (fun k_ => ((P0_3_ k_ ∨ P0_4_ k_ ∨ P0_5_ k_ ∨ P1_3_ k_ ∨ P1_4_ k_ ∨ P1_5_ k_) ∨ w.heap.size ≤ k_) ∧ k_ ≠ gb129 ∧ k_ ≠ gb130 ∧ k_ ≠ gb131)) (HO0_4.out) (fun k_ hk => ⟨hk.1.1.1, ⟨hk.1.1.2, ⟨hk.1.2, hk.2⟩⟩⟩))).2.1 (Kd.V_F (Kd.V_mono (ok' := (fun k_ => ((P0_3_ k_ ∨ P0_4_ k_ ∨ P0_5_ k_ ∨ P1_3_ k_ ∨ P1_4_ k_ ∨ P1_5_ k_) ∨ w.heap.size ≤ k_) ∧ k_ ≠ gb129 ∧ k_ ≠ gb130 ∧ k_ ≠ gb131)) (HO0_4.out) (fun k_ hk => ⟨hk.1.1.1, ⟨hk.1.1.2, ⟨hk.1.2, hk.2⟩⟩⟩))) (Kd.V_reads' (Kd.V_mono (ok' := (fun k_ => ((P0_3_ k_ ∨ P0_4_ k_ ∨ P0_5_ k_ ∨ P1_3_ k_ ∨ P1_4_ k_ ∨ P1_5_ k_) ∨ w.heap.size ≤ k_) ∧ k_ ≠ gb129 ∧ k_ ≠ gb130 ∧ k_ ≠ gb131)) (HO0_5.out) (fun k_ hk => ⟨hk.1.1.1, ⟨hk.1.1.2, ⟨hk.1.2, hk.2⟩⟩⟩))).2.1 (Kd.V_F (Kd.V_mono (ok' := (fun k_ => ((P0_3_ k_ ∨ P0_4_ k_ ∨ P0_5_ k_ ∨ P1_3_ k_ ∨ P1_4_ k_ ∨ P1_5_ k_) ∨ w.heap.size ≤ k_) ∧ k_ ≠ gb129 ∧ k_ ≠ gb130 ∧ k_ ≠ gb131)) (HO0_5.out) (fun k_ hk => ⟨hk.1.1.1, ⟨hk.1.1.2, ⟨hk.1.2, hk.2⟩⟩⟩))))) (Reps.c7 (show Kd.FK k28 _ _ (⟨a1_0, a1_1, a1_2, (⟨l1_3, l1_4⟩ : S25), l1_5, a1_6⟩ : S28) [.int .i64 a1_0, .int .i64 a1_1, .string a1_2, .slice A1_3 l1_3.length c1_3, .slice A1_4 l1_4.length c1_4, .slice A1_5 l1_5.length c1_5, .int .i64 a1_6] from (k28_mkF _ _ (⟨a1_0, a1_1, a1_2, (⟨l1_3, l1_4⟩ : S25), l1_5, a1_6⟩ : S28) (Kd.V_reads' (Kd.V_mono (ok' := (fun k_ => ((P0_3_ k_ ∨ P0_4_ k_ ∨ P0_5_ k_ ∨ P1_3_ k_ ∨ P1_4_ k_ ∨ P1_5_ k_) ∨ w.heap.size ≤ k_) ∧ k_ ≠ gb129 ∧ k_ ≠ gb130 ∧ k_ ≠ gb131)) (HO1_3.out) (fun k_ hk => ⟨hk.1.1.1, ⟨hk.1.1.2, ⟨hk.1.2, hk.2⟩⟩⟩))).2.1 (Kd.V_F (Kd.V_mono (ok' := (fun k_ => ((P0_3_ k_ ∨ P0_4_ k_ ∨ P0_5_ k_ ∨ P1_3_ k_ ∨ P1_4_ k_ ∨ P1_5_ k_) ∨ w.heap.size ≤ k_) ∧ k_ ≠ gb129 ∧ k_ ≠ gb130 ∧ k_ ≠ gb131)) (HO1_3.out) (fun k_ hk => ⟨hk.1.1.1, ⟨hk.1.1.2, ⟨hk.1.2, hk.2⟩⟩⟩))) (Kd.V_reads' (Kd.V_mono (ok' := (fun k_ => ((P0_3_ k_ ∨ P0_4_ k_ ∨ P0_5_ k_ ∨ P1_3_ k_ ∨ P1_4_ k_ ∨ P1_5_ k_) ∨ w.heap.size ≤ k_) ∧ k_ ≠ gb129 ∧ k_ ≠ gb130 ∧ k_ ≠ gb131)) (HO1_4.out) (fun k_ hk => ⟨hk.1.1.1, ⟨hk.1.1.2, ⟨hk.1.2, hk.2⟩⟩⟩))).2.1 (Kd.V_F (Kd.V_mono (ok' := (fun k_ => ((P0_3_ k_ ∨ P0_4_ k_ ∨ P0_5_ k_ ∨ P1_3_ k_ ∨ P1_4_ k_ ∨ P1_5_ k_) ∨ w.heap.size ≤ k_) ∧ k_ ≠ gb129 ∧ k_ ≠ gb130 ∧ k_ ≠ gb131)) (HO1_4.out) (fun k_ hk => ⟨hk.1.1.1, ⟨hk.1.1.2, ⟨hk.1.2, hk.2⟩⟩⟩))) (Kd.V_reads' (Kd.V_mono (ok' := (fun k_ => ((P0_3_ k_ ∨ P0_4_ k_ ∨ P0_5_ k_ ∨ P1_3_ k_ ∨ P1_4_ k_ ∨ P1_5_ k_) ∨ w.heap.size ≤ k_) ∧ k_ ≠ gb129 ∧ k_ ≠ gb130 ∧ k_ ≠ gb131)) (HO1_5.out) (fun k_ hk => ⟨hk.1.1.1, ⟨hk.1.1.2, ⟨hk.1.2, hk.2⟩⟩⟩))).2.1 (Kd.V_F (Kd.V_mono (ok' := (fun k_ => ((P0_3_ k_ ∨ P0_4_ k_ ∨ P0_5_ k_ ∨ P1_3_ k_ ∨ P1_4_ k_ ∨ P1_5_ k_) ∨ w.heap.size ≤ k_) ∧ k_ ≠ gb129 ∧ k_ ≠ gb130 ∧ k_ ≠ gb131)) (HO1_5.out) (fun k_ hk => ⟨hk.1.1.1, ⟨hk.1.1.2, ⟨hk.1.2, hk.2⟩⟩⟩))))) (Reps.none _ _)))); intro v133 w11 ho12 hb hg_ hnew_; clear hg_ hnew_; (first | rw [← Ny132.out] at ho12 | (simp only [Int.reduceToNat] at ho12; rw [← Ny132.out] at ho12)); replace HO0_3 := gA (Kd.V_elder' (gV HO0_3) (Kd.N_base ho12) hb); replace HO0_4 := gA (Kd.V_elder' (gV HO0_4) (Kd.N_base ho12) hb); replace HO0_5 := gA (Kd.V_elder' (gV HO0_5) (Kd.N_base ho12) hb); replace HO1_3 := gA (Kd.V_elder' (gV HO1_3) (Kd.N_base ho12) hb); replace HO1_4 := gA (Kd.V_elder' (gV HO1_4) (Kd.N_base ho12) hb); replace HO1_5 := gA (Kd.V_elder' (gV HO1_5) (Kd.N_base ho12) hb); have HO134 := gA (Kd.N_lower ho12 (below_size (gB HB))); replace BK129 := gA (blk_below (gK BK129) hb); replace BK130 := gA (blk_below (gK BK130) hb); replace BK131 := gA (blk_below (g := gb131) (o := .cells #[.int .i64 0, .int .i64 0, .string (⟨#[]⟩ : ByteArray), .slice none 0 0, .slice none 0 0, .slice none 0 0, .int .i64 0] 28 (0, 0)) (gK BK131) hb); replace HB := gA (below_step (gB HB) hb); clear hb ho12; obtain ⟨Ao13, co13, eo13⟩ := Kd.N_slice HO134.out; subst eo13; have hcz14_0 := gz BK131 0 rfl; have hcz14_1 := gz BK131 1 rfl; have hcz14_2 := gz BK131 2 rfl; have hcz14_3 := gz BK131 3 rfl; have hcz14_4 := gz BK131 4 rfl; have hcz14_5 := gz BK131 5 rfl; have hcz14_6 := gz BK131 6 rfl; have hfz14_0 := blk_frozen BK131.out 0; have hfz14_1 := blk_frozen BK131.out 1; have hfz14_2 := blk_frozen BK131.out 2; have hfz14_3 := blk_frozen BK131.out 3; have hfz14_4 := blk_frozen BK131.out 4; have hfz14_5 := blk_frozen BK131.out 5; have hfz14_6 := blk_frozen BK131.out 6))
 refine bodyPost_ret (results_cell_row rfl _ _ gb131 28 #[.int .i64 5, .int .i64 0, .string (⟨#[]⟩ : ByteArray), .slice none 0 0, .slice none 0 0, .slice Ao13 y132.length co13, .int .i64 0] (0, 0) _ rfl (by refine blk_put (cs := #[.int .i64 5, .int .i64 0, .string (⟨#[]⟩ : ByteArray), .slice none 0 0, .slice none 0 0, .slice Ao13 y132.length co13, .int .i64 0]) ?_ 6 _ rfl; refine blk_put (cs := #[.int .i64 5, .int .i64 0, .string (⟨#[]⟩ : ByteArray), .slice none 0 0, .slice none 0 0, .slice none 0 0, .int .i64 0]) ?_ 5 _ rfl; refine blk_put (cs := #[.int .i64 5, .int .i64 0, .string (⟨#[]⟩ : ByteArray), .slice none 0 0, .slice none 0 0, .slice none 0 0, .int .i64 0]) ?_ 4 _ rfl; refine blk_put (cs := #[.int .i64 5, .int .i64 0, .string (⟨#[]⟩ : ByteArray), .slice none 0 0, .slice none 0 0, .slice none 0 0, .int .i64 0]) ?_ 3 _ rfl; refine blk_put (cs := #[.int .i64 5, .int .i64 0, .string (⟨#[]⟩ : ByteArray), .slice none 0 0, .slice none 0 0, .slice none 0 0, .int .i64 0]) ?_ 2 _ rfl; refine blk_put (cs := #[.int .i64 5, .int .i64 0, .string (⟨#[]⟩ : ByteArray), .slice none 0 0, .slice none 0 0, .slice none 0 0, .int .i64 0]) ?_ 1 _ rfl; refine blk_put (cs := #[.int .i64 0, .int .i64 0, .string (⟨#[]⟩ : ByteArray), .slice none 0 0, .slice none 0 0, .slice none 0 0, .int .i64 0]) ?_ 0 _ rfl; exact gK BK131) Try.underlying28 rfl (by kernel_rfl)) rfl ?_
 exact ⟨_, _, _, rfl, by first | exact Kd.R_nil _ _ _ _ _ | exact Kd.N_nil _ _ _ _ _ | exact Kd.V_nil _ _ _ _ _ | exact Kd.Q_nil _ _ _ _ _ | exact Kd.S_nil _ _ _ _ _, by first | exact Kd.R_nil _ _ _ _ _ | exact Kd.N_nil _ _ _ _ _ | exact Kd.V_nil _ _ _ _ _ | exact Kd.Q_nil _ _ _ _ _ | exact Kd.S_nil _ _ _ _ _, Kd.N_mono (Kd.N_far (p := ⟨gb131, 6, none⟩) (Kd.N_far (p := ⟨gb131, 5, none⟩) (Kd.N_far (p := ⟨gb131, 4, none⟩) (Kd.N_far (p := ⟨gb131, 3, none⟩) (Kd.N_far (p := ⟨gb131, 2, none⟩) (Kd.N_far (p := ⟨gb131, 1, none⟩) (Kd.N_far (p := ⟨gb131, 0, none⟩) (Kd.N_mono HO134.out (fun k_ hk => (⟨hk, hk.2.2.2⟩ : _ ∧ k_ ≠ gb131))) (fun _ hk => hk.2) (.int .i64 5)) (fun _ hk => hk.2) (.int .i64 0)) (fun _ hk => hk.2) (.string (⟨#[]⟩ : ByteArray))) (fun _ hk => hk.2) (.slice none 0 0)) (fun _ hk => hk.2) (.slice none 0 0)) (fun _ hk => hk.2) (.slice Ao13 y132.length co13)) (fun _ hk => hk.2) (.int .i64 0)) (fun _ hk => ⟨hk.1.1, ⟨(by simp [Value.ownBlock]), (by simp [Value.ownBlock])⟩⟩), by repeat first | exact gB HB | refine below_set ?_ GE129.out | refine below_set ?_ GE130.out | refine below_set ?_ GE131.out⟩
def triglyphref10_Prim.f (a0 : Int) : Option (Int × Int × ByteArray × List Int × (List (S57)) × (List (S28)) × Int) := some (21, a0, (⟨#[]⟩ : ByteArray), ([] : List Int), ([] : List (S57)), ([] : List (S28)), 0)
set_option maxHeartbeats 8000000 in
set_option maxRecDepth 100000 in
theorem triglyphref10_Prim.calls (a0 : Int) (r1 : Int) (r2 : Int) (r3 : ByteArray) (r4 : List Int) (r5 : List (S57)) (r6 : List (S28)) (r7 : Int) (w : World) (h : triglyphref10_Prim.f a0 = some (r1, r2, r3, r4, r5, r6, r7)) :
  Calls Try.prog 15 #[.int .i64 a0] w fun e w' => ∃ v3_ v4_ v5_ : Value, e = .returned (.agg #[.int .i64 r1, .int .i64 r2, .string r3, v3_, v4_, v5_, .int .i64 r7]) ∧ Kd.R (Kd.int .i64) 3 w' w.heap.size (fun _ => True) v3_ r4 ∧ Kd.R k57 57 w' w.heap.size (fun k_ => some k_ ≠ (v3_ : Value).ownBlock) v4_ r5 ∧ Kd.R k28 28 w' w.heap.size (fun k_ => some k_ ≠ (v3_ : Value).ownBlock ∧ some k_ ≠ (v4_ : Value).ownBlock) v5_ r6 ∧ Below w.heap.size w w' := by
 have hu28 := Try.underlying28
 have HB := gA (Below.refl w.heap.size w)
 have H : (some (21, a0, (⟨#[]⟩ : ByteArray), ([] : List Int), ([] : List (S57)), ([] : List (S28)), 0)) = some (r1, r2, r3, r4, r5, r6, r7) := h
 clear h
 simp only [Option.some.injEq, Prod.mk.injEq] at H
 obtain ⟨rfl, rfl, rfl, rfl, rfl, rfl, rfl⟩ := H
 go_enter Try.func15, Try.ntmps15
 go_wp2_with (first | ((with_reducible refine gate_dst (N := 2) rfl ?_); refine box_event ?hg (N := 2) ?hd (cs := #[.int .i64 0, .int .i64 0, .string (⟨#[]⟩ : ByteArray), .slice none 0 0, .slice none 0 0, .slice none 0 0, .int .i64 0]) (t := 28) ?hr ?_; (case hd => rfl); (case hg => rfl); (case hr => first | (go_simp; done) | (go_simp; rfl)); intro gb135 hg w2 hbox hb; have BK135 := gA (hbox); have GW135 := gA ((by rw [hg]; exact (below_size (gB HB)) : w.heap.size ≤ gb135)); have GE135 := gA ((by rw [hg]; exact (below_size (gB HB)) : w.heap.size ≤ gb135)); replace HB := gA (below_step (gB HB) hb); clear hb hbox hg; have hcz3_0 := gz BK135 0 rfl; have hcz3_1 := gz BK135 1 rfl; have hcz3_2 := gz BK135 2 rfl; have hcz3_3 := gz BK135 3 rfl; have hcz3_4 := gz BK135 4 rfl; have hcz3_5 := gz BK135 5 rfl; have hcz3_6 := gz BK135 6 rfl; have hfz3_0 := blk_frozen BK135.out 0; have hfz3_1 := blk_frozen BK135.out 1; have hfz3_2 := blk_frozen BK135.out 2; have hfz3_3 := blk_frozen BK135.out 3; have hfz3_4 := blk_frozen BK135.out 4; have hfz3_5 := blk_frozen BK135.out 5; have hfz3_6 := blk_frozen BK135.out 6))
 refine bodyPost_ret (results_cell_row rfl _ _ gb135 28 #[.int .i64 21, .int .i64 a0, .string (⟨#[]⟩ : ByteArray), .slice none 0 0, .slice none 0 0, .slice none 0 0, .int .i64 0] (0, 0) _ rfl (by refine blk_put (cs := #[.int .i64 21, .int .i64 a0, .string (⟨#[]⟩ : ByteArray), .slice none 0 0, .slice none 0 0, .slice none 0 0, .int .i64 0]) ?_ 6 _ rfl; refine blk_put (cs := #[.int .i64 21, .int .i64 a0, .string (⟨#[]⟩ : ByteArray), .slice none 0 0, .slice none 0 0, .slice none 0 0, .int .i64 0]) ?_ 5 _ rfl; refine blk_put (cs := #[.int .i64 21, .int .i64 a0, .string (⟨#[]⟩ : ByteArray), .slice none 0 0, .slice none 0 0, .slice none 0 0, .int .i64 0]) ?_ 4 _ rfl; refine blk_put (cs := #[.int .i64 21, .int .i64 a0, .string (⟨#[]⟩ : ByteArray), .slice none 0 0, .slice none 0 0, .slice none 0 0, .int .i64 0]) ?_ 3 _ rfl; refine blk_put (cs := #[.int .i64 21, .int .i64 a0, .string (⟨#[]⟩ : ByteArray), .slice none 0 0, .slice none 0 0, .slice none 0 0, .int .i64 0]) ?_ 2 _ rfl; refine blk_put (cs := #[.int .i64 21, .int .i64 0, .string (⟨#[]⟩ : ByteArray), .slice none 0 0, .slice none 0 0, .slice none 0 0, .int .i64 0]) ?_ 1 _ rfl; refine blk_put (cs := #[.int .i64 0, .int .i64 0, .string (⟨#[]⟩ : ByteArray), .slice none 0 0, .slice none 0 0, .slice none 0 0, .int .i64 0]) ?_ 0 _ rfl; exact gK BK135) Try.underlying28 rfl (by kernel_rfl)) rfl ?_
 exact ⟨_, _, _, rfl, by first | exact Kd.R_nil _ _ _ _ _ | exact Kd.N_nil _ _ _ _ _ | exact Kd.V_nil _ _ _ _ _ | exact Kd.Q_nil _ _ _ _ _ | exact Kd.S_nil _ _ _ _ _, by first | exact Kd.R_nil _ _ _ _ _ | exact Kd.N_nil _ _ _ _ _ | exact Kd.V_nil _ _ _ _ _ | exact Kd.Q_nil _ _ _ _ _ | exact Kd.S_nil _ _ _ _ _, by first | exact Kd.R_nil _ _ _ _ _ | exact Kd.N_nil _ _ _ _ _ | exact Kd.V_nil _ _ _ _ _ | exact Kd.Q_nil _ _ _ _ _ | exact Kd.S_nil _ _ _ _ _, by repeat first | exact gB HB | refine below_set ?_ GE135.out⟩
def triglyphref10_Lit.f (l0_0 : List Int) (l0_1 : List (S57)) : Option (Int × Int × ByteArray × List Int × (List (S57)) × (List (S28)) × Int) := some (1, 0, (⟨#[]⟩ : ByteArray), l0_0, l0_1, ([] : List (S28)), 0)
set_option maxHeartbeats 8000000 in
set_option maxRecDepth 100000 in
theorem triglyphref10_Lit.calls (P0_0_ : Nat → Prop) (u9000_ : Value) (l0_0 : List Int) (P0_1_ : Nat → Prop) (A0_1 : Option Addr) (c0_1 : Nat) (l0_1 : List (S57)) (r1 : Int) (r2 : Int) (r3 : ByteArray) (r4 : List Int) (r5 : List (S57)) (r6 : List (S28)) (r7 : Int) (w0 w : World) (hB : Below w0.heap.size w0 w) (ho0_0 : Kd.R (Kd.int .i64) 3 w w0.heap.size P0_0_ u9000_ l0_0) (hs0_1 : Kd.V k57 57 w w0.heap.size (fun k_ => P0_1_ k_ ∧ some k_ ≠ (u9000_ : Value).ownBlock) (.slice A0_1 l0_1.length c0_1) l0_1) (h : triglyphref10_Lit.f l0_0 l0_1 = some (r1, r2, r3, r4, r5, r6, r7)) :
  Calls Try.prog 16 #[.agg #[u9000_, .slice A0_1 l0_1.length c0_1]] w fun e w' => ∃ v3_ v4_ v5_ : Value, e = .returned (.agg #[.int .i64 r1, .int .i64 r2, .string r3, v3_, v4_, v5_, .int .i64 r7]) ∧ Kd.R (Kd.int .i64) 3 w' w0.heap.size (fun k_ => (P0_0_ k_ ∨ w.heap.size ≤ k_)) v3_ r4 ∧ Kd.V k57 57 w' w0.heap.size (fun k_ => ((P0_0_ k_ ∨ P0_1_ k_) ∨ w.heap.size ≤ k_) ∧ some k_ ≠ (v3_ : Value).ownBlock ∧ some k_ ≠ (v5_ : Value).ownBlock) v4_ r5 ∧ Kd.N k28 28 w' w.heap.size (fun k_ => ((P0_0_ k_ ∨ P0_1_ k_) ∨ w.heap.size ≤ k_) ∧ some k_ ≠ (v3_ : Value).ownBlock) v5_ r6 ∧ Below w0.heap.size w0 w' ∧ Kept w w' (fun k_ => P0_0_ k_) := by
 have hu25 := Try.underlying25
 have hu28 := Try.underlying28
 have HO0_0 := gA (show Kd.R (Kd.int .i64) 3 w w0.heap.size (fun k_ => (P0_0_ k_ ∨ w.heap.size ≤ k_)) u9000_ l0_0 from Kd.R_mono ho0_0 (fun k_ hk => (.inl hk)))
 have HO0_1 := gA (show Kd.V k57 57 w w0.heap.size (fun k_ => ((P0_0_ k_ ∨ P0_1_ k_) ∨ w.heap.size ≤ k_) ∧ some k_ ≠ (u9000_ : Value).ownBlock) (.slice A0_1 l0_1.length c0_1) l0_1 from Kd.V_mono hs0_1 (fun k_ hk => ⟨.inl (.inr hk.1), hk.2⟩))
 have HK := gA (Kept.refl w (fun k_ => P0_0_ k_))
 have HW0 := gA hB.size
 have HB := gA hB
 clear hB
 have H : (some (1, 0, (⟨#[]⟩ : ByteArray), l0_0, l0_1, ([] : List (S28)), 0)) = some (r1, r2, r3, r4, r5, r6, r7) := h
 clear h
 simp only [Option.some.injEq, Prod.mk.injEq] at H
 obtain ⟨rfl, rfl, rfl, rfl, rfl, rfl, rfl⟩ := H
 obtain ⟨Ao2, co2, eo2⟩ := Kd.R_slice HO0_0.out
 subst eo2
 go_enter Try.func16, Try.ntmps16
 go_wp2_with (first | ((with_reducible refine gate_dst (N := 1) rfl ?_); refine box_event ?hg (N := 1) ?hd (cs := #[.slice Ao2 l0_0.length co2, .slice A0_1 l0_1.length c0_1]) (t := 25) ?hr ?_; (case hd => rfl); (case hg => rfl); (case hr => first | (go_simp; done) | (go_simp; rfl)); intro gb136 hg w3 hbox hb; replace HO0_0 := gA (Kd.R_below (gR HO0_0) hb); replace HO0_1 := gA (Kd.V_below (Kd.V_elderB (gV HO0_1) gb136 (Nat.le_of_eq hg.symm)) hb); have BK136 := gA (hbox); have GW136 := gA ((by rw [hg]; exact (by first | exact HK.out.1 | exact (show Kept w _ (fun k_ => P0_0_ k_) from by repeat (first | (with_reducible first | exact HK.out | apply Kept.alloc | apply Kept.drewN | apply Kept.drew) | exact HK.out)).1) : w.heap.size ≤ gb136)); replace HK := gA (Kept.below (S := (fun k_ => P0_0_ k_)) (by repeat (first | (with_reducible first | exact HK.out | apply Kept.alloc | apply Kept.drewN | apply Kept.drew) | exact HK.out)) hb); have GE136 := gA ((by rw [hg]; exact (below_size (gB HB)) : w0.heap.size ≤ gb136)); replace HB := gA (below_step (gB HB) hb); clear hb hbox hg) | ((with_reducible refine gate_dst (N := 2) rfl ?_); refine box_event ?hg (N := 2) ?hd (cs := #[.int .i64 0, .int .i64 0, .string (⟨#[]⟩ : ByteArray), .slice none 0 0, .slice none 0 0, .slice none 0 0, .int .i64 0]) (t := 28) ?hr ?_; (case hd => rfl); (case hg => rfl); (case hr => first | (go_simp; done) | (go_simp; rfl)); intro gb137 hg w4 hbox hb; replace HO0_0 := gA (Kd.R_below (gR HO0_0) hb); replace HO0_1 := gA (Kd.V_below (Kd.V_elderB (gV HO0_1) gb137 (Nat.le_of_eq hg.symm)) hb); have BK137 := gA (hbox); have GW137 := gA ((by rw [hg]; exact (by first | exact HK.out.1 | exact (show Kept w _ (fun k_ => P0_0_ k_) from by repeat (first | (with_reducible first | exact HK.out | apply Kept.alloc | apply Kept.drewN | apply Kept.drew | refine Kept.setCell ?_ (.inr GW136.out) _) | exact HK.out)).1) : w.heap.size ≤ gb137)); replace HK := gA (Kept.below (S := (fun k_ => P0_0_ k_)) (by repeat (first | (with_reducible first | exact HK.out | apply Kept.alloc | apply Kept.drewN | apply Kept.drew | refine Kept.setCell ?_ (.inr GW136.out) _) | exact HK.out)) hb); have GE137 := gA ((by rw [hg]; exact (below_size (gB HB)) : w0.heap.size ≤ gb137)); replace HB := gA (below_step (gB HB) hb); have NB136_137 := gA ((by rw [hg]; exact Nat.ne_of_lt (blk_lt (gK BK136)) : gb136 ≠ gb137)); have NB137_136 := gA ((by rw [hg]; exact Nat.ne_of_gt (blk_lt (gK BK136)) : gb137 ≠ gb136)); replace BK136 := gA (blk_below (gK BK136) hb); clear hb hbox hg; have hnb5 := NB136_137.out; have hnc5 := NB137_136.out; obtain ⟨hcz6_0, hcz6_1, hfz6_0, hfz6_1⟩ := gz2 BK136; have hcz7_0 := gz BK137 0 rfl; have hcz7_1 := gz BK137 1 rfl; have hcz7_2 := gz BK137 2 rfl; have hcz7_3 := gz BK137 3 rfl; have hcz7_4 := gz BK137 4 rfl; have hcz7_5 := gz BK137 5 rfl; have hcz7_6 := gz BK137 6 rfl; have hfz7_0 := blk_frozen BK137.out 0; have hfz7_1 := blk_frozen BK137.out 1; have hfz7_2 := blk_frozen BK137.out 2; have hfz7_3 := blk_frozen BK137.out 3; have hfz7_4 := blk_frozen BK137.out 4; have hfz7_5 := blk_frozen BK137.out 5; have hfz7_6 := blk_frozen BK137.out 6))
 refine bodyPost_ret (results_cell_row rfl _ _ gb137 28 #[.int .i64 1, .int .i64 0, .string (⟨#[]⟩ : ByteArray), .slice Ao2 l0_0.length co2, .slice A0_1 l0_1.length c0_1, .slice none 0 0, .int .i64 0] (0, 0) _ rfl (by refine blk_put (cs := #[.int .i64 1, .int .i64 0, .string (⟨#[]⟩ : ByteArray), .slice Ao2 l0_0.length co2, .slice A0_1 l0_1.length c0_1, .slice none 0 0, .int .i64 0]) ?_ 6 _ rfl; refine blk_put (cs := #[.int .i64 1, .int .i64 0, .string (⟨#[]⟩ : ByteArray), .slice Ao2 l0_0.length co2, .slice A0_1 l0_1.length c0_1, .slice none 0 0, .int .i64 0]) ?_ 5 _ rfl; refine blk_put (cs := #[.int .i64 1, .int .i64 0, .string (⟨#[]⟩ : ByteArray), .slice Ao2 l0_0.length co2, .slice none 0 0, .slice none 0 0, .int .i64 0]) ?_ 4 _ rfl; refine blk_put (cs := #[.int .i64 1, .int .i64 0, .string (⟨#[]⟩ : ByteArray), .slice none 0 0, .slice none 0 0, .slice none 0 0, .int .i64 0]) ?_ 3 _ rfl; refine blk_put (cs := #[.int .i64 1, .int .i64 0, .string (⟨#[]⟩ : ByteArray), .slice none 0 0, .slice none 0 0, .slice none 0 0, .int .i64 0]) ?_ 2 _ rfl; refine blk_put (cs := #[.int .i64 1, .int .i64 0, .string (⟨#[]⟩ : ByteArray), .slice none 0 0, .slice none 0 0, .slice none 0 0, .int .i64 0]) ?_ 1 _ rfl; refine blk_put (cs := #[.int .i64 0, .int .i64 0, .string (⟨#[]⟩ : ByteArray), .slice none 0 0, .slice none 0 0, .slice none 0 0, .int .i64 0]) ?_ 0 _ rfl; exact gK BK137) Try.underlying28 rfl (by kernel_rfl)) rfl ?_
 exact ⟨_, _, _, rfl, Kd.R_mono (Kd.R_far (p := ⟨gb137, 6, none⟩) (Kd.R_far (p := ⟨gb137, 5, none⟩) (Kd.R_far (p := ⟨gb137, 4, none⟩) (Kd.R_far (p := ⟨gb137, 3, none⟩) (Kd.R_far (p := ⟨gb137, 2, none⟩) (Kd.R_far (p := ⟨gb137, 1, none⟩) (Kd.R_far (p := ⟨gb137, 0, none⟩) (Kd.R_types HO0_0.out BK137.out (by decide)) (fun _ hk => hk.2) (.int .i64 1)) (fun _ hk => hk.2) (.int .i64 0)) (fun _ hk => hk.2) (.string (⟨#[]⟩ : ByteArray))) (fun _ hk => hk.2) (.slice Ao2 l0_0.length co2)) (fun _ hk => hk.2) (.slice A0_1 l0_1.length c0_1)) (fun _ hk => hk.2) (.slice none 0 0)) (fun _ hk => hk.2) (.int .i64 0)) (fun _ hk => hk.1), Kd.V_mono (Kd.V_far (p := ⟨gb137, 6, none⟩) (Kd.V_far (p := ⟨gb137, 5, none⟩) (Kd.V_far (p := ⟨gb137, 4, none⟩) (Kd.V_far (p := ⟨gb137, 3, none⟩) (Kd.V_far (p := ⟨gb137, 2, none⟩) (Kd.V_far (p := ⟨gb137, 1, none⟩) (Kd.V_far (p := ⟨gb137, 0, none⟩) (Kd.V_mono HO0_1.out (fun k_ hk => (⟨hk, hk.2⟩ : _ ∧ k_ ≠ gb137))) (fun _ hk => hk.2) (.int .i64 1)) (fun _ hk => hk.2) (.int .i64 0)) (fun _ hk => hk.2) (.string (⟨#[]⟩ : ByteArray))) (fun _ hk => hk.2) (.slice Ao2 l0_0.length co2)) (fun _ hk => hk.2) (.slice A0_1 l0_1.length c0_1)) (fun _ hk => hk.2) (.slice none 0 0)) (fun _ hk => hk.2) (.int .i64 0)) (fun _ hk => ⟨hk.1.1.1.1, ⟨hk.1.1.1.2, (by simp [Value.ownBlock])⟩⟩), by first | exact Kd.R_nil _ _ _ _ _ | exact Kd.N_nil _ _ _ _ _ | exact Kd.V_nil _ _ _ _ _ | exact Kd.Q_nil _ _ _ _ _ | exact Kd.S_nil _ _ _ _ _, by repeat first | exact gB HB | refine below_set ?_ GE136.out | refine below_set ?_ GE137.out, by repeat (first | (with_reducible first | exact HK.out | apply Kept.alloc | apply Kept.drewN | apply Kept.drew | refine Kept.setCell ?_ (.inr GW136.out) _ | refine Kept.setCell ?_ (.inr GW137.out) _) | exact HK.out)⟩
end Go.Proofs.Ytfjkclhkobnakaa.P
