/- Written by a program of this session: the functions that the laws reach, what each comes to, and each law as it is stated, for every input. No condition. -/
import Derived.Test.YtfjkclhkobnakaaPx0
import Derived.Test.YtfjkclhkobnakaaPx9
import Derived.Test.YtfjkclhkobnakaaPx11
import Derived.Test.YtfjkclhkobnakaaPx12
import Derived.Test.YtfjkclhkobnakaaPx13
namespace Go.Proofs.Ytfjkclhkobnakaa.P
open Go.RowKit Go.Proofs.YtfjkclhkobnakaaW.PrintWords Go.Proofs.YtfjkclhkobnakaaW.PrintLast Go.Proofs.YtfjkclhkobnakaaW.PrintMore
attribute [local go_sem] max2_int min2_int max_two min_two max_three min_three max_four min_four   -- for this text's walks alone
set_option linter.unusedVariables false
set_option linter.unusedSimpArgs false
structure RfN (w0 : World) (x : S28) (A3 : Option Addr) (c3 : Nat) (A4 : Option Addr) (c4 : Nat) (A5 : Option Addr) (c5 : Nat) : Prop where
 h3 : (Kd.int .i64).C w0 A3 x.f3.f0.length x.f3.f0
 l3 : x.f3.f0.length ≤ c3
 h4 : k57.C w0 A4 x.f3.f1.length x.f3.f1
 l4 : x.f3.f1.length ≤ c4
 h5 : k28.C w0 A5 x.f4.length x.f4
 l5 : x.f4.length ≤ c5
theorem RfN.to {w0 w : World} {x : S28} {A3 : Option Addr} {c3 : Nat} {A4 : Option Addr} {c4 : Nat} {A5 : Option Addr} {c5 : Nat} (h : RfN w0 x A3 c3 A4 c4 A5 c5) (hb : Below w0.heap.size w0 w) : RfN w x A3 c3 A4 c4 A5 c5 := ⟨Kd.C_below h.h3 hb, h.l3, Kd.C_below h.h4 hb, h.l4, Kd.C_below h.h5 hb, h.l5⟩
structure RfA (w : World) (a : Addr) (x : S28) (A3 : Option Addr) (c3 : Nat) (A4 : Option Addr) (c4 : Nat) (A5 : Option Addr) (c5 : Nat) : Prop where
 cells : w.cell? a = some (.int .i64 x.f0) ∧ w.cell? ⟨a.block, a.off + 1, none⟩ = some (.int .i64 x.f1) ∧ w.cell? ⟨a.block, a.off + 2, none⟩ = some (.string x.f2) ∧ w.cell? ⟨a.block, a.off + 3, none⟩ = some (.slice A3 x.f3.f0.length c3) ∧ w.cell? ⟨a.block, a.off + 4, none⟩ = some (.slice A4 x.f3.f1.length c4) ∧ w.cell? ⟨a.block, a.off + 5, none⟩ = some (.slice A5 x.f4.length c5) ∧ w.cell? ⟨a.block, a.off + 6, none⟩ = some (.int .i64 x.f5)
theorem RfA.to {w0 w : World} {a : Addr} {x : S28} {A3 : Option Addr} {c3 : Nat} {A4 : Option Addr} {c4 : Nat} {A5 : Option Addr} {c5 : Nat} (h : RfA w0 a x A3 c3 A4 c4 A5 c5) (hb : Below w0.heap.size w0 w) : RfA w a x A3 c3 A4 c4 A5 c5 := by
 obtain ⟨h0, h1, h2, h3, h4, h5, h6⟩ := h.cells
 exact ⟨pw_cell_below hb h0, pw_cell_below hb h1, pw_cell_below hb h2, pw_cell_below hb h3, pw_cell_below hb h4, pw_cell_below hb h5, pw_cell_below hb h6⟩
theorem rf_kid {w0 : World} {A : Option Addr} {n : Nat} {xs : List S28} (h : k28.C w0 A n xs) (i : Nat) (hi : i < n) : ∃ ad B3 e3 B4 e4 B5 e5, A = some ad ∧ RfA w0 (ad.add (i * 7)) (rd_T28 xs i) B3 e3 B4 e4 B5 e5 ∧ RfN w0 (rd_T28 xs i) B3 e3 B4 e4 B5 e5 := by
 obtain ⟨ad, B3, e3, B4, e4, B5, e5, ea, y0, y1, y2, y3, y4, y5, y6, m3, j3, m4, j4, m5, j5⟩ := at_T28 h i (by omega) (by omega)
 rw [Int.toNat_natCast] at y0 y1 y2 y3 y4 y5 y6
 exact ⟨ad, B3, e3, B4, e4, B5, e5, ea, ⟨y0, y1, y2, y3, y4, y5, y6⟩, ⟨j3, m3, j4, m4, j5, m5⟩⟩
theorem rf_kid0 {w0 : World} {A : Option Addr} {n : Nat} {xs : List S28} (h : k28.C w0 A n xs) (hi : 0 < n) : ∃ ad B3 e3 B4 e4 B5 e5, A = some ad ∧ RfA w0 ad (rd_T28 xs 0) B3 e3 B4 e4 B5 e5 ∧ RfN w0 (rd_T28 xs 0) B3 e3 B4 e4 B5 e5 := by
 obtain ⟨ad, B3, e3, B4, e4, B5, e5, ea, h1, h2⟩ := rf_kid h 0 hi
 rw [show ad.add (0 * 7) = ad by simp [Addr.add]] at h1
 exact ⟨ad, B3, e3, B4, e4, B5, e5, ea, h1, h2⟩
structure RfS (w W : World) (gb : Nat) (bx : Array Value) : Prop where
 bel : Below w.heap.size w W
 box : W.heap[gb]? = some (.cells bx 28 (0, 0))
theorem RfS.start (w : World) (bx : Array Value) : RfS w (w.alloc (.cells bx 28)) w.heap.size bx := ⟨below_alloc (Below.refl _ _) _, blk_new w _⟩
theorem RfS.step {w W W' : World} {gb : Nat} {bx : Array Value} (h : RfS w W gb bx) (hb : Below W.heap.size W W') : RfS w W' gb bx := ⟨h.bel.trans (hb.mono h.bel.size), blk_below h.box hb⟩
theorem RfS.cells {w W : World} {gb : Nat} {a0 a1 a2 a3 a4 a5 a6 : Value} (h : RfS w W gb #[a0, a1, a2, a3, a4, a5, a6]) :
  W.cell? ⟨gb, 0, none⟩ = some a0 ∧ W.cell? ⟨gb, 1, none⟩ = some a1 ∧ W.cell? ⟨gb, 2, none⟩ = some a2 ∧ W.cell? ⟨gb, 3, none⟩ = some a3 ∧ W.cell? ⟨gb, 4, none⟩ = some a4 ∧ W.cell? ⟨gb, 5, none⟩ = some a5 ∧ W.cell? ⟨gb, 6, none⟩ = some a6 :=
 ⟨(blk_cell h.box 0).trans rfl, (blk_cell h.box 1).trans rfl, (blk_cell h.box 2).trans rfl, (blk_cell h.box 3).trans rfl, (blk_cell h.box 4).trans rfl, (blk_cell h.box 5).trans rfl, (blk_cell h.box 6).trans rfl⟩
def rfB (a0_1 : Int) (a0_2 : ByteArray) (s c n : Nat) (a1 : Int) (a2 a3 a4 : Bool) : Bool := ((n : Int) == a1) && ((a2 || (a0_1 == 0)) && ((a3 || a0_2.toList.isEmpty) && (a4 || (((s : Int) == 0) && ((c : Int) == 0)))))
theorem rf_orc (a b : Bool) : a = true ∨ (a = false ∧ b = true) ∨ (a = false ∧ b = false) := by cases a <;> cases b <;> simp
set_option maxHeartbeats 2000000 in
set_option maxRecDepth 100000 in
theorem rf_bare (a0_0 : Int) (a0_1 : Int) (a0_2 : ByteArray) (A0_3 : Option Addr) (c0_3 : Nat) (s : Nat) (A0_4 : Option Addr) (c0_4 : Nat) (c : Nat) (A0_5 : Option Addr) (c0_5 : Nat) (n : Nat) (a0_6 : Int) (a1 : Int) (a2 : Bool) (a3 : Bool) (a4 : Bool) (w : World) :
  Calls Try.prog 35 #[.agg #[.int .i64 a0_0, .int .i64 a0_1, .string a0_2, .slice A0_3 s c0_3, .slice A0_4 c c0_4, .slice A0_5 n c0_5, .int .i64 a0_6], .int .i64 a1, .bool a2, .bool a3, .bool a4] w fun e w' => e = .returned (.bool (rfB a0_1 a0_2 s c n a1 a2 a3 a4)) ∧ Below w.heap.size w w' := by
 have hu_n := Try.underlying28
 have hu_a := Try.underlying25
 unfold rfB
 cases h1 : ((n : Int) == a1)
 ·have h1b : ((n : Int) != a1) = true := by simp [bne, h1]
  go_enter Try.func35, Try.ntmps35
  go_wp2
  go_ret
  exact ⟨rfl, below_alloc (Below.refl _ _) _⟩
 have h1b : ((n : Int) != a1) = false := by simp [bne, h1]
 rcases rf_orc a2 (a0_1 == 0) with rfl | ⟨rfl, h2⟩ | ⟨rfl, h2⟩
 rotate_left 2
 ·have h2b : (a0_1 != 0) = true := by simp [bne, h2]
  rw [h2]
  go_enter Try.func35, Try.ntmps35
  go_wp2
  go_ret
  exact ⟨rfl, below_alloc (Below.refl _ _) _⟩
 ·cases h2b : (a0_1 != 0)
  all_goals
   rcases rf_orc a3 a0_2.toList.isEmpty with rfl | ⟨rfl, h3⟩ | ⟨rfl, h3⟩
   rotate_left 2
   ·rw [h3]
    go_enter Try.func35, Try.ntmps35
    go_wp2
    go_ret
    exact ⟨rfl, below_alloc (Below.refl _ _) _⟩
   ·cases h3 : a0_2.toList.isEmpty
    all_goals (rcases rf_orc a4 ((s : Int) == 0) with rfl | ⟨rfl, h4⟩ | ⟨rfl, h4⟩)
    all_goals (try rw [h4])
    all_goals (go_enter Try.func35, Try.ntmps35; go_wp2; go_ret; exact ⟨rfl, below_alloc (Below.refl _ _) _⟩)
   ·rw [h3]
    rcases rf_orc a4 ((s : Int) == 0) with rfl | ⟨rfl, h4⟩ | ⟨rfl, h4⟩
    all_goals (try rw [h4])
    all_goals (go_enter Try.func35, Try.ntmps35; go_wp2; go_ret; exact ⟨rfl, below_alloc (Below.refl _ _) _⟩)
 ·have h2b : (a0_1 != 0) = false := by simp [bne, h2]
  rw [h2]
  rcases rf_orc a3 a0_2.toList.isEmpty with rfl | ⟨rfl, h3⟩ | ⟨rfl, h3⟩
  rotate_left 2
  ·rw [h3]
   go_enter Try.func35, Try.ntmps35
   go_wp2
   go_ret
   exact ⟨rfl, below_alloc (Below.refl _ _) _⟩
  ·cases h3 : a0_2.toList.isEmpty
   all_goals (rcases rf_orc a4 ((s : Int) == 0) with rfl | ⟨rfl, h4⟩ | ⟨rfl, h4⟩)
   all_goals (try rw [h4])
   all_goals (go_enter Try.func35, Try.ntmps35; go_wp2; go_ret; exact ⟨rfl, below_alloc (Below.refl _ _) _⟩)
  ·rw [h3]
   rcases rf_orc a4 ((s : Int) == 0) with rfl | ⟨rfl, h4⟩ | ⟨rfl, h4⟩
   all_goals (try rw [h4])
   all_goals (go_enter Try.func35, Try.ntmps35; go_wp2; go_ret; exact ⟨rfl, below_alloc (Below.refl _ _) _⟩)
abbrev rfKid (x : S28) (i : Int) : S28 := rd_T28 x.f4 i
def rfSh (x : S28) (kids : Int) (op name lit : Bool) : Bool := rfB x.f1 x.f2 x.f3.f0.length x.f3.f1.length x.f4.length kids op name lit
theorem rf_len {a0_1 : Int} {a0_2 : ByteArray} {s c n m : Nat} {a2 a3 a4 : Bool} (h : rfB a0_1 a0_2 s c n m a2 a3 a4 = true) : n = m := by
 unfold rfB at h
 simp only [Bool.and_eq_true, beq_iff_eq] at h
 omega
def rfP (x : S28) (lo hi : Int) : Bool := (x.f0 == 21) && (rfSh x 0 true false false && (decide (x.f1 ≥ lo) && decide (x.f1 ≤ hi)))
def rfT (x : S28) : Bool := if x.f0 = 35 then rfSh x 1 false false false && rfP (rfKid x 0) 21 32 else rfP x 21 32
mutual
def rexF : Nat → S28 → Bool → Option Bool
 | 0, _, _ => none
 | k + 1, x, i =>
  if x.f0 = 1 then (if rfSh x 0 false false true = true then triglyphref10_Literal.f k x.f3.f0 x.f3.f1 else some false) else
  if x.f0 = 2 then (if rfSh x 0 false true false = true then triglyphref10_Name.f k x.f2 else some false) else
  if x.f0 = 3 ∨ x.f0 = 4 then some (i && rfSh x 0 false false false) else
  if x.f0 = 5 then (if rfSh x 2 false false false = true then (rmoF k (rfKid x 0)).bind (fun b => if b = true then rexF k (rfKid x 1) i else some false) else some false) else
  if x.f0 = 6 then (if rfSh x 3 false false false = true then (rdyF k (rfKid x 0)).bind (fun b => if b = true then (rexF k (rfKid x 1) i).bind (fun c => if c = true then rexF k (rfKid x 2) i else some false) else some false) else some false) else
  some false
def rlaF : Nat → S28 → Option Bool
 | 0, _ => none
 | k + 1, x => if rfSh x 1 false false false = false then some false else (rexF k (rfKid x 0) true).bind fun b => if b = false then some false else
   (triglyphref10_Uses.f k (rfKid x 0).f0 (rfKid x 0).f1 (rfKid x 0).f2 (rfKid x 0).f3.f0 (rfKid x 0).f3.f1 (rfKid x 0).f4 (rfKid x 0).f5 3).bind fun l =>
    if x.f0 = 22 then some (!l) else if l = true then triglyphref10_Uses.f k (rfKid x 0).f0 (rfKid x 0).f1 (rfKid x 0).f2 (rfKid x 0).f3.f0 (rfKid x 0).f3.f1 (rfKid x 0).f4 (rfKid x 0).f5 4 else some false
def rtwF : Nat → S28 → Option Bool
 | 0, _ => none
 | k + 1, x => if x.f0 = 23 then rlaF k x else some (rfP x 21 32 || rfP x 41 54)
def rtuF : Nat → S28 → Option Bool
 | 0, _ => none
 | k + 1, x => if rfSh x 1 false false false = false then some false else (rtwF k (rfKid x 0)).bind fun b => if b = false then some false else some (((rfKid x 0).f0 == 23) || (((rfKid x 0).f1 != 52) && ((rfKid x 0).f1 != 53)))
def rmoF : Nat → S28 → Option Bool
 | 0, _ => none
 | k + 1, x =>
  if x.f0 = 21 then some (rfP x 1 19) else
  if x.f0 = 22 then rlaF k x else
  if x.f0 = 31 ∨ x.f0 = 32 ∨ x.f0 = 33 ∨ x.f0 = 34 then some (rfSh x 1 false false false && rfT (rfKid x 0)) else
  if x.f0 = 35 then rtuF k x else
  if x.f0 = 26 then (if rfSh x 1 true false false = true then (if decide (x.f1 ≥ 0) && (decide (x.f1 ≤ 4096) && ((rfKid x 0).f0 == 22)) then rlaF k (rfKid x 0) else some false) else some false) else
  some false
def rdyF : Nat → S28 → Option Bool
 | 0, _ => none
 | k + 1, x =>
  if x.f0 = 25 then some (rfSh x 1 false false false && rfT (rfKid x 0)) else
  if x.f0 = 35 then rtuF k x else
  rtwF k x
end
abbrev RfC (F : Nat) (f : Option Bool) (x : S28) : Prop :=
 ∀ (A3 : Option Addr) (c3 : Nat) (A4 : Option Addr) (c4 : Nat) (A5 : Option Addr) (c5 : Nat) (w : World) (r : Bool), RfN w x A3 c3 A4 c4 A5 c5 → f = some r →
  Calls Try.prog F #[.agg #[.int .i64 x.f0, .int .i64 x.f1, .string x.f2, .slice A3 x.f3.f0.length c3, .slice A4 x.f3.f1.length c4, .slice A5 x.f4.length c5, .int .i64 x.f5]] w fun e w' => e = .returned (.bool r) ∧ Below w.heap.size w w'
abbrev RfE (F : Nat) (f : Option Bool) (x : S28) (i : Bool) : Prop :=
 ∀ (A3 : Option Addr) (c3 : Nat) (A4 : Option Addr) (c4 : Nat) (A5 : Option Addr) (c5 : Nat) (w : World) (r : Bool), RfN w x A3 c3 A4 c4 A5 c5 → f = some r →
  Calls Try.prog F #[.agg #[.int .i64 x.f0, .int .i64 x.f1, .string x.f2, .slice A3 x.f3.f0.length c3, .slice A4 x.f3.f1.length c4, .slice A5 x.f4.length c5, .int .i64 x.f5], .bool i] w fun e w' => e = .returned (.bool r) ∧ Below w.heap.size w w'
set_option maxHeartbeats 2000000 in
set_option maxRecDepth 100000 in
theorem rf_prim (x : S28) (lo hi : Int) (A3 : Option Addr) (c3 : Nat) (A4 : Option Addr) (c4 : Nat) (A5 : Option Addr) (c5 : Nat) (w : World) :
  Calls Try.prog 50 #[.agg #[.int .i64 x.f0, .int .i64 x.f1, .string x.f2, .slice A3 x.f3.f0.length c3, .slice A4 x.f3.f1.length c4, .slice A5 x.f4.length c5, .int .i64 x.f5], .int .i64 lo, .int .i64 hi] w fun e w' => e = .returned (.bool (rfP x lo hi)) ∧ Below w.heap.size w w' := by
 have hun := Try.underlying28
 obtain ⟨x0, x1, x2, ⟨x3, x4⟩, x5, x6⟩ := x
 have HS := Aside0.mk (RfS.start w #[.int .i64 x0, .int .i64 x1, .string x2, .slice A3 x3.length c3, .slice A4 x4.length c4, .slice A5 x5.length c5, .int .i64 x6])
 dsimp only
 unfold rfP rfSh
 dsimp only
 cases c0 : (x0 == 21)
 ·go_enter Try.func50, Try.ntmps50
  go_wp2_with (fail)
  go_ret
  exact ⟨rfl, HS.out.bel⟩
 cases hs : rfB x1 x2 x3.length x4.length x5.length 0 true false false
 ·go_enter Try.func50, Try.ntmps50
  go_wp2_with (first | (go_at_call 35; (with_reducible refine (rf_bare _ _ _ _ _ _ _ _ _ _ _ _ _ _ _ _ _ _).mono ?_); rintro e w2 ⟨rfl, q⟩; rw [hs]; have HS := Aside0.mk (HS.out.step q); clear q; (try clear z0 z1 z2 z3 z4 z5 z6); obtain ⟨z0, z1, z2, z3, z4, z5, z6⟩ := HS.out.cells))
  go_ret
  exact ⟨rfl, HS.out.bel⟩
 cases c1 : decide (x1 ≥ lo)
 all_goals
  go_enter Try.func50, Try.ntmps50
  go_wp2_with (first | (go_at_call 35; (with_reducible refine (rf_bare _ _ _ _ _ _ _ _ _ _ _ _ _ _ _ _ _ _).mono ?_); rintro e w2 ⟨rfl, q⟩; rw [hs]; have HS := Aside0.mk (HS.out.step q); clear q; (try clear z0 z1 z2 z3 z4 z5 z6); obtain ⟨z0, z1, z2, z3, z4, z5, z6⟩ := HS.out.cells))
  go_ret
  exact ⟨rfl, HS.out.bel⟩
set_option maxHeartbeats 4000000 in
set_option maxRecDepth 100000 in
theorem rf_bet (x : S28) : RfC 52 (some (rfT x)) x := by
 intro A3 c3 A4 c4 A5 c5 w r hd h
 have hun := Try.underlying28
 obtain ⟨x0, x1, x2, ⟨x3, x4⟩, x5, x6⟩ := x
 have HS := Aside0.mk (RfS.start w #[.int .i64 x0, .int .i64 x1, .string x2, .slice A3 x3.length c3, .slice A4 x4.length c4, .slice A5 x5.length c5, .int .i64 x6])
 have HD := Aside0.mk hd
 have H5 := Aside0.mk hd.h5
 clear hd
 dsimp only at H5 ⊢
 obtain ⟨z0, z1, z2, z3, z4, z5, z6⟩ := HS.out.cells
 unfold rfT at h
 dsimp only at h
 by_cases k0 : x0 = 35
 rotate_left 1
 ·rw [if_neg k0] at h
  obtain rfl := Option.some.inj h
  clear h
  have k0b : (x0 == 35) = false := by simpa using k0
  go_enter Try.func52, Try.ntmps52
  go_wp2_with (first | (go_at_call 50; (with_reducible refine (rf_prim ⟨x0, x1, x2, ⟨x3, x4⟩, x5, x6⟩ _ _ _ _ _ _ _ _ _).mono ?_); rintro e w3 ⟨rfl, q⟩; have HS := Aside0.mk (HS.out.step q); clear q; (try clear z0 z1 z2 z3 z4 z5 z6); obtain ⟨z0, z1, z2, z3, z4, z5, z6⟩ := HS.out.cells))
  go_ret
  exact ⟨rfl, HS.out.bel⟩
 rw [if_pos k0] at h
 subst k0
 cases hs : rfB x1 x2 x3.length x4.length x5.length 1 false false false
 ·simp only [rfSh, hs, Bool.false_and] at h
  obtain rfl := Option.some.inj h
  clear h
  go_enter Try.func52, Try.ntmps52
  go_wp2_with (first | (go_at_call 35; (with_reducible refine (rf_bare _ _ _ _ _ _ _ _ _ _ _ _ _ _ _ _ _ _).mono ?_); rintro e w2 ⟨rfl, q⟩; rw [hs]; have HS := Aside0.mk (HS.out.step q); clear q; (try clear z0 z1 z2 z3 z4 z5 z6); obtain ⟨z0, z1, z2, z3, z4, z5, z6⟩ := HS.out.cells))
  go_ret
  exact ⟨rfl, HS.out.bel⟩
 simp only [rfSh, hs, Bool.true_and] at h
 have hl : x5.length = 1 := rf_len hs
 obtain ⟨ad, B3, e3, B4, e4, B5, e5, ea, Y, D⟩ := rf_kid0 H5.out (by omega)
 subst ea
 have hl0 : (0 : Int) < x5.length := by omega
 clear hl
 (try simp only [rfKid] at h)
 generalize hy : rd_T28 x5 0 = y at h Y D
 clear hy
 obtain ⟨y0, y1, y2, ⟨y3, y4⟩, y5, y6⟩ := y
 (try dsimp only at h)
 have Y := Aside0.mk Y
 have D := Aside0.mk D
 obtain rfl := Option.some.inj h
 clear h
 go_enter Try.func52, Try.ntmps52
 go_wp2_with (first | (go_at_call 35; (with_reducible refine (rf_bare _ _ _ _ _ _ _ _ _ _ _ _ _ _ _ _ _ _).mono ?_); rintro e w2 ⟨rfl, q⟩; rw [hs]; have HS := Aside0.mk (HS.out.step q); clear q; (try clear z0 z1 z2 z3 z4 z5 z6); obtain ⟨z0, z1, z2, z3, z4, z5, z6⟩ := HS.out.cells; (try clear v0 v1 v2 v3 v4 v5 v6); obtain ⟨v0, v1, v2, v3, v4, v5, v6⟩ := (Y.out.to HS.out.bel).cells; (try dsimp only at v0 v1 v2 v3 v4 v5 v6)) | (go_at_call 50; (with_reducible refine (rf_prim ⟨y0, y1, y2, ⟨y3, y4⟩, y5, y6⟩ _ _ _ _ _ _ _ _ _).mono ?_); rintro e w3 ⟨rfl, q⟩; have HS := Aside0.mk (HS.out.step q); clear q; (try clear z0 z1 z2 z3 z4 z5 z6); obtain ⟨z0, z1, z2, z3, z4, z5, z6⟩ := HS.out.cells))
 go_ret
 exact ⟨rfl, HS.out.bel⟩
set_option maxHeartbeats 4000000 in
set_option maxRecDepth 100000 in
theorem rf_two (k : Nat) (ihl : ∀ x, RfC 51 (rlaF k x) x) (x : S28) : RfC 54 (rtwF (k + 1) x) x := by
 intro A3 c3 A4 c4 A5 c5 w r hd h
 have hun := Try.underlying28
 have IHL := Aside0.mk (ihl x)
 clear ihl
 obtain ⟨x0, x1, x2, ⟨x3, x4⟩, x5, x6⟩ := x
 have HS := Aside0.mk (RfS.start w #[.int .i64 x0, .int .i64 x1, .string x2, .slice A3 x3.length c3, .slice A4 x4.length c4, .slice A5 x5.length c5, .int .i64 x6])
 have HD := Aside0.mk hd
 have H5 := Aside0.mk hd.h5
 clear hd
 dsimp only at H5 ⊢
 obtain ⟨z0, z1, z2, z3, z4, z5, z6⟩ := HS.out.cells
 rw [rtwF] at h
 dsimp only at h
 by_cases k0 : x0 = 23
 ·rw [if_pos k0] at h
  subst k0
  have HF := Aside0.mk h
  clear h
  go_enter Try.func54, Try.ntmps54
  go_wp2_with (first | (go_at_call 51; (with_reducible refine (IHL.out _ _ _ _ _ _ _ _ (HD.out.to HS.out.bel) HF.out).mono ?_); rintro e w4 ⟨rfl, q⟩; have HS := Aside0.mk (HS.out.step q); clear q; (try clear z0 z1 z2 z3 z4 z5 z6); obtain ⟨z0, z1, z2, z3, z4, z5, z6⟩ := HS.out.cells))
  go_ret
  exact ⟨rfl, HS.out.bel⟩
 rw [if_neg k0] at h
 have k0b : (x0 == 23) = false := by simpa using k0
 clear k0
 cases hp : rfP ⟨x0, x1, x2, ⟨x3, x4⟩, x5, x6⟩ 21 32
 all_goals
  simp only [hp, Bool.false_or, Bool.true_or] at h
  obtain rfl := Option.some.inj h
  clear h
  go_enter Try.func54, Try.ntmps54
  go_wp2_with (first | (go_at_call 50; (with_reducible refine (rf_prim ⟨x0, x1, x2, ⟨x3, x4⟩, x5, x6⟩ 21 32 _ _ _ _ _ _ _).mono ?_); rintro e w3 ⟨rfl, q⟩; rw [hp]; have HS := Aside0.mk (HS.out.step q); clear q; (try clear z0 z1 z2 z3 z4 z5 z6); obtain ⟨z0, z1, z2, z3, z4, z5, z6⟩ := HS.out.cells) | (go_at_call 50; (with_reducible refine (rf_prim ⟨x0, x1, x2, ⟨x3, x4⟩, x5, x6⟩ 41 54 _ _ _ _ _ _ _).mono ?_); rintro e w3 ⟨rfl, q⟩; have HS := Aside0.mk (HS.out.step q); clear q; (try clear z0 z1 z2 z3 z4 z5 z6); obtain ⟨z0, z1, z2, z3, z4, z5, z6⟩ := HS.out.cells))
  go_ret
  exact ⟨rfl, HS.out.bel⟩
set_option maxHeartbeats 4000000 in
set_option maxRecDepth 100000 in
theorem rf_turned (k : Nat) (ihw : ∀ x, RfC 54 (rtwF k x) x) (x : S28) : RfC 53 (rtuF (k + 1) x) x := by
 intro A3 c3 A4 c4 A5 c5 w r hd h
 have hun := Try.underlying28
 have IHW := Aside0.mk ihw
 clear ihw
 obtain ⟨x0, x1, x2, ⟨x3, x4⟩, x5, x6⟩ := x
 have HS := Aside0.mk (RfS.start w #[.int .i64 x0, .int .i64 x1, .string x2, .slice A3 x3.length c3, .slice A4 x4.length c4, .slice A5 x5.length c5, .int .i64 x6])
 have HD := Aside0.mk hd
 have H5 := Aside0.mk hd.h5
 clear hd
 dsimp only at H5 ⊢
 obtain ⟨z0, z1, z2, z3, z4, z5, z6⟩ := HS.out.cells
 rw [rtuF] at h
 (try dsimp only at h)
 cases hs : rfB x1 x2 x3.length x4.length x5.length 1 false false false
 ·rw [if_pos (by unfold rfSh; exact hs)] at h
  obtain rfl := Option.some.inj h
  clear h
  go_enter Try.func53, Try.ntmps53
  go_wp2_with (first | (go_at_call 35; (with_reducible refine (rf_bare _ _ _ _ _ _ _ _ _ _ _ _ _ _ _ _ _ _).mono ?_); rintro e w2 ⟨rfl, q⟩; rw [hs]; have HS := Aside0.mk (HS.out.step q); clear q; (try clear z0 z1 z2 z3 z4 z5 z6); obtain ⟨z0, z1, z2, z3, z4, z5, z6⟩ := HS.out.cells))
  go_ret
  exact ⟨rfl, HS.out.bel⟩
 rw [if_neg (by unfold rfSh; rw [hs]; decide)] at h
 have hl : x5.length = 1 := rf_len hs
 obtain ⟨ad, B3, e3, B4, e4, B5, e5, ea, Y, D⟩ := rf_kid0 H5.out (by omega)
 subst ea
 have hl0 : (0 : Int) < x5.length := by omega
 clear hl
 (try simp only [rfKid] at h)
 generalize hy : rd_T28 x5 0 = y at h Y D
 clear hy
 obtain ⟨y0, y1, y2, ⟨y3, y4⟩, y5, y6⟩ := y
 (try dsimp only at h)
 have Y := Aside0.mk Y
 have D := Aside0.mk D
 obtain ⟨b, hf, h⟩ := Option.bind_eq_some_iff.1 h
 have HF := Aside0.mk hf
 clear hf
 have IHW := Aside0.mk (IHW.out ⟨y0, y1, y2, ⟨y3, y4⟩, y5, y6⟩)
 cases b
 ·rw [if_pos rfl] at h
  obtain rfl := Option.some.inj h
  clear h
  go_enter Try.func53, Try.ntmps53
  go_wp2_with (first | (go_at_call 35; (with_reducible refine (rf_bare _ _ _ _ _ _ _ _ _ _ _ _ _ _ _ _ _ _).mono ?_); rintro e w2 ⟨rfl, q⟩; rw [hs]; have HS := Aside0.mk (HS.out.step q); clear q; (try clear z0 z1 z2 z3 z4 z5 z6); obtain ⟨z0, z1, z2, z3, z4, z5, z6⟩ := HS.out.cells; (try clear v0 v1 v2 v3 v4 v5 v6); obtain ⟨v0, v1, v2, v3, v4, v5, v6⟩ := (Y.out.to HS.out.bel).cells; (try dsimp only at v0 v1 v2 v3 v4 v5 v6)) | (go_at_call 54; (with_reducible refine (IHW.out _ _ _ _ _ _ _ _ (D.out.to HS.out.bel) HF.out).mono ?_); rintro e w4 ⟨rfl, q⟩; have HS := Aside0.mk (HS.out.step q); clear q; (try clear z0 z1 z2 z3 z4 z5 z6); obtain ⟨z0, z1, z2, z3, z4, z5, z6⟩ := HS.out.cells; (try clear v0 v1 v2 v3 v4 v5 v6); obtain ⟨v0, v1, v2, v3, v4, v5, v6⟩ := (Y.out.to HS.out.bel).cells; (try dsimp only at v0 v1 v2 v3 v4 v5 v6)))
  go_ret
  exact ⟨rfl, HS.out.bel⟩
 rw [if_neg (by decide)] at h
 obtain rfl := Option.some.inj h
 clear h
 cases d1 : (y0 == 23)
 rotate_left 1
 ·skip
  go_enter Try.func53, Try.ntmps53
  go_wp2_with (first | (go_at_call 35; (with_reducible refine (rf_bare _ _ _ _ _ _ _ _ _ _ _ _ _ _ _ _ _ _).mono ?_); rintro e w2 ⟨rfl, q⟩; rw [hs]; have HS := Aside0.mk (HS.out.step q); clear q; (try clear z0 z1 z2 z3 z4 z5 z6); obtain ⟨z0, z1, z2, z3, z4, z5, z6⟩ := HS.out.cells; (try clear v0 v1 v2 v3 v4 v5 v6); obtain ⟨v0, v1, v2, v3, v4, v5, v6⟩ := (Y.out.to HS.out.bel).cells; (try dsimp only at v0 v1 v2 v3 v4 v5 v6)) | (go_at_call 54; (with_reducible refine (IHW.out _ _ _ _ _ _ _ _ (D.out.to HS.out.bel) HF.out).mono ?_); rintro e w4 ⟨rfl, q⟩; have HS := Aside0.mk (HS.out.step q); clear q; (try clear z0 z1 z2 z3 z4 z5 z6); obtain ⟨z0, z1, z2, z3, z4, z5, z6⟩ := HS.out.cells; (try clear v0 v1 v2 v3 v4 v5 v6); obtain ⟨v0, v1, v2, v3, v4, v5, v6⟩ := (Y.out.to HS.out.bel).cells; (try dsimp only at v0 v1 v2 v3 v4 v5 v6)))
  go_ret
  exact ⟨rfl, HS.out.bel⟩
 cases d2 : (y1 != 52)
 all_goals
  go_enter Try.func53, Try.ntmps53
  go_wp2_with (first | (go_at_call 35; (with_reducible refine (rf_bare _ _ _ _ _ _ _ _ _ _ _ _ _ _ _ _ _ _).mono ?_); rintro e w2 ⟨rfl, q⟩; rw [hs]; have HS := Aside0.mk (HS.out.step q); clear q; (try clear z0 z1 z2 z3 z4 z5 z6); obtain ⟨z0, z1, z2, z3, z4, z5, z6⟩ := HS.out.cells; (try clear v0 v1 v2 v3 v4 v5 v6); obtain ⟨v0, v1, v2, v3, v4, v5, v6⟩ := (Y.out.to HS.out.bel).cells; (try dsimp only at v0 v1 v2 v3 v4 v5 v6)) | (go_at_call 54; (with_reducible refine (IHW.out _ _ _ _ _ _ _ _ (D.out.to HS.out.bel) HF.out).mono ?_); rintro e w4 ⟨rfl, q⟩; have HS := Aside0.mk (HS.out.step q); clear q; (try clear z0 z1 z2 z3 z4 z5 z6); obtain ⟨z0, z1, z2, z3, z4, z5, z6⟩ := HS.out.cells; (try clear v0 v1 v2 v3 v4 v5 v6); obtain ⟨v0, v1, v2, v3, v4, v5, v6⟩ := (Y.out.to HS.out.bel).cells; (try dsimp only at v0 v1 v2 v3 v4 v5 v6)))
  go_ret
  exact ⟨rfl, HS.out.bel⟩
set_option maxHeartbeats 4000000 in
set_option maxRecDepth 100000 in
theorem rf_lambda (k : Nat) (ihe : ∀ x i, RfE 26 (rexF k x i) x i) (x : S28) : RfC 51 (rlaF (k + 1) x) x := by
 intro A3 c3 A4 c4 A5 c5 w r hd h
 have hun := Try.underlying28
 have IHE := Aside0.mk ihe
 clear ihe
 obtain ⟨x0, x1, x2, ⟨x3, x4⟩, x5, x6⟩ := x
 have HS := Aside0.mk (RfS.start w #[.int .i64 x0, .int .i64 x1, .string x2, .slice A3 x3.length c3, .slice A4 x4.length c4, .slice A5 x5.length c5, .int .i64 x6])
 have HD := Aside0.mk hd
 have H5 := Aside0.mk hd.h5
 clear hd
 dsimp only at H5 ⊢
 obtain ⟨z0, z1, z2, z3, z4, z5, z6⟩ := HS.out.cells
 rw [rlaF] at h
 (try dsimp only at h)
 cases hs : rfB x1 x2 x3.length x4.length x5.length 1 false false false
 ·rw [if_pos (by unfold rfSh; exact hs)] at h
  obtain rfl := Option.some.inj h
  clear h
  go_enter Try.func51, Try.ntmps51
  go_wp2_with (first | (go_at_call 35; (with_reducible refine (rf_bare _ _ _ _ _ _ _ _ _ _ _ _ _ _ _ _ _ _).mono ?_); rintro e w2 ⟨rfl, q⟩; rw [hs]; have HS := Aside0.mk (HS.out.step q); clear q; (try clear z0 z1 z2 z3 z4 z5 z6); obtain ⟨z0, z1, z2, z3, z4, z5, z6⟩ := HS.out.cells))
  go_ret
  exact ⟨rfl, HS.out.bel⟩
 rw [if_neg (by unfold rfSh; rw [hs]; decide)] at h
 have hl : x5.length = 1 := rf_len hs
 obtain ⟨ad, B3, e3, B4, e4, B5, e5, ea, Y, D⟩ := rf_kid0 H5.out (by omega)
 subst ea
 have hl0 : (0 : Int) < x5.length := by omega
 clear hl
 (try simp only [rfKid] at h)
 generalize hy : rd_T28 x5 0 = y at h Y D
 clear hy
 obtain ⟨y0, y1, y2, ⟨y3, y4⟩, y5, y6⟩ := y
 (try dsimp only at h)
 have Y := Aside0.mk Y
 have D := Aside0.mk D
 obtain ⟨b, hf, h⟩ := Option.bind_eq_some_iff.1 h
 have HF := Aside0.mk hf
 clear hf
 have IHE := Aside0.mk (IHE.out ⟨y0, y1, y2, ⟨y3, y4⟩, y5, y6⟩ true)
 cases b
 ·rw [if_pos rfl] at h
  obtain rfl := Option.some.inj h
  clear h
  go_enter Try.func51, Try.ntmps51
  go_wp2_with (first | (go_at_call 35; (with_reducible refine (rf_bare _ _ _ _ _ _ _ _ _ _ _ _ _ _ _ _ _ _).mono ?_); rintro e w2 ⟨rfl, q⟩; rw [hs]; have HS := Aside0.mk (HS.out.step q); clear q; (try clear z0 z1 z2 z3 z4 z5 z6); obtain ⟨z0, z1, z2, z3, z4, z5, z6⟩ := HS.out.cells; (try clear v0 v1 v2 v3 v4 v5 v6); obtain ⟨v0, v1, v2, v3, v4, v5, v6⟩ := (Y.out.to HS.out.bel).cells; (try dsimp only at v0 v1 v2 v3 v4 v5 v6)) | (go_at_call 26; (with_reducible refine (IHE.out _ _ _ _ _ _ _ _ (D.out.to HS.out.bel) HF.out).mono ?_); rintro e w4 ⟨rfl, q⟩; have HS := Aside0.mk (HS.out.step q); clear q; (try clear z0 z1 z2 z3 z4 z5 z6); obtain ⟨z0, z1, z2, z3, z4, z5, z6⟩ := HS.out.cells; (try clear v0 v1 v2 v3 v4 v5 v6); obtain ⟨v0, v1, v2, v3, v4, v5, v6⟩ := (Y.out.to HS.out.bel).cells; (try dsimp only at v0 v1 v2 v3 v4 v5 v6)))
  go_ret
  exact ⟨rfl, HS.out.bel⟩
 rw [if_neg (by decide)] at h
 obtain ⟨l, hl3, h⟩ := Option.bind_eq_some_iff.1 h
 have HL3 := Aside0.mk hl3
 clear hl3
 by_cases k0 : x0 = 22
 ·rw [if_pos k0] at h
  obtain rfl := Option.some.inj h
  clear h
  subst k0
  go_enter Try.func51, Try.ntmps51
  go_wp2_with (first | (go_at_call 35; (with_reducible refine (rf_bare _ _ _ _ _ _ _ _ _ _ _ _ _ _ _ _ _ _).mono ?_); rintro e w2 ⟨rfl, q⟩; rw [hs]; have HS := Aside0.mk (HS.out.step q); clear q; (try clear z0 z1 z2 z3 z4 z5 z6); obtain ⟨z0, z1, z2, z3, z4, z5, z6⟩ := HS.out.cells; (try clear v0 v1 v2 v3 v4 v5 v6); obtain ⟨v0, v1, v2, v3, v4, v5, v6⟩ := (Y.out.to HS.out.bel).cells; (try dsimp only at v0 v1 v2 v3 v4 v5 v6)) | (go_at_call 26; (with_reducible refine (IHE.out _ _ _ _ _ _ _ _ (D.out.to HS.out.bel) HF.out).mono ?_); rintro e w4 ⟨rfl, q⟩; have HS := Aside0.mk (HS.out.step q); clear q; (try clear z0 z1 z2 z3 z4 z5 z6); obtain ⟨z0, z1, z2, z3, z4, z5, z6⟩ := HS.out.cells; (try clear v0 v1 v2 v3 v4 v5 v6); obtain ⟨v0, v1, v2, v3, v4, v5, v6⟩ := (Y.out.to HS.out.bel).cells; (try dsimp only at v0 v1 v2 v3 v4 v5 v6)) | (go_at_call 62; (with_reducible refine (triglyphref10_Uses.calls k _ _ _ _ _ y3 _ _ y4 _ _ y5 _ 3 _ _ (Kd.C_below D.out.h3 HS.out.bel) D.out.l3 (Kd.C_below D.out.h4 HS.out.bel) D.out.l4 (Kd.C_below D.out.h5 HS.out.bel) D.out.l5 HL3.out).mono ?_); rintro e w6 ⟨rfl, q⟩; have HS := Aside0.mk (HS.out.step q); clear q; (try clear z0 z1 z2 z3 z4 z5 z6); obtain ⟨z0, z1, z2, z3, z4, z5, z6⟩ := HS.out.cells; (try clear v0 v1 v2 v3 v4 v5 v6); obtain ⟨v0, v1, v2, v3, v4, v5, v6⟩ := (Y.out.to HS.out.bel).cells; (try dsimp only at v0 v1 v2 v3 v4 v5 v6)))
  go_ret
  exact ⟨rfl, HS.out.bel⟩
 rw [if_neg k0] at h
 have k0b : (x0 == 22) = false := by simpa using k0
 clear k0
 cases l
 ·rw [if_neg (by decide)] at h
  obtain rfl := Option.some.inj h
  clear h
  go_enter Try.func51, Try.ntmps51
  go_wp2_with (first | (go_at_call 35; (with_reducible refine (rf_bare _ _ _ _ _ _ _ _ _ _ _ _ _ _ _ _ _ _).mono ?_); rintro e w2 ⟨rfl, q⟩; rw [hs]; have HS := Aside0.mk (HS.out.step q); clear q; (try clear z0 z1 z2 z3 z4 z5 z6); obtain ⟨z0, z1, z2, z3, z4, z5, z6⟩ := HS.out.cells; (try clear v0 v1 v2 v3 v4 v5 v6); obtain ⟨v0, v1, v2, v3, v4, v5, v6⟩ := (Y.out.to HS.out.bel).cells; (try dsimp only at v0 v1 v2 v3 v4 v5 v6)) | (go_at_call 26; (with_reducible refine (IHE.out _ _ _ _ _ _ _ _ (D.out.to HS.out.bel) HF.out).mono ?_); rintro e w4 ⟨rfl, q⟩; have HS := Aside0.mk (HS.out.step q); clear q; (try clear z0 z1 z2 z3 z4 z5 z6); obtain ⟨z0, z1, z2, z3, z4, z5, z6⟩ := HS.out.cells; (try clear v0 v1 v2 v3 v4 v5 v6); obtain ⟨v0, v1, v2, v3, v4, v5, v6⟩ := (Y.out.to HS.out.bel).cells; (try dsimp only at v0 v1 v2 v3 v4 v5 v6)) | (go_at_call 62; (with_reducible refine (triglyphref10_Uses.calls k _ _ _ _ _ y3 _ _ y4 _ _ y5 _ 3 _ _ (Kd.C_below D.out.h3 HS.out.bel) D.out.l3 (Kd.C_below D.out.h4 HS.out.bel) D.out.l4 (Kd.C_below D.out.h5 HS.out.bel) D.out.l5 HL3.out).mono ?_); rintro e w6 ⟨rfl, q⟩; have HS := Aside0.mk (HS.out.step q); clear q; (try clear z0 z1 z2 z3 z4 z5 z6); obtain ⟨z0, z1, z2, z3, z4, z5, z6⟩ := HS.out.cells; (try clear v0 v1 v2 v3 v4 v5 v6); obtain ⟨v0, v1, v2, v3, v4, v5, v6⟩ := (Y.out.to HS.out.bel).cells; (try dsimp only at v0 v1 v2 v3 v4 v5 v6)))
  go_ret
  exact ⟨rfl, HS.out.bel⟩
 rw [if_pos rfl] at h
 have HL4 := Aside0.mk h
 clear h
 go_enter Try.func51, Try.ntmps51
 go_wp2_with (first | (go_at_call 35; (with_reducible refine (rf_bare _ _ _ _ _ _ _ _ _ _ _ _ _ _ _ _ _ _).mono ?_); rintro e w2 ⟨rfl, q⟩; rw [hs]; have HS := Aside0.mk (HS.out.step q); clear q; (try clear z0 z1 z2 z3 z4 z5 z6); obtain ⟨z0, z1, z2, z3, z4, z5, z6⟩ := HS.out.cells; (try clear v0 v1 v2 v3 v4 v5 v6); obtain ⟨v0, v1, v2, v3, v4, v5, v6⟩ := (Y.out.to HS.out.bel).cells; (try dsimp only at v0 v1 v2 v3 v4 v5 v6)) | (go_at_call 26; (with_reducible refine (IHE.out _ _ _ _ _ _ _ _ (D.out.to HS.out.bel) HF.out).mono ?_); rintro e w4 ⟨rfl, q⟩; have HS := Aside0.mk (HS.out.step q); clear q; (try clear z0 z1 z2 z3 z4 z5 z6); obtain ⟨z0, z1, z2, z3, z4, z5, z6⟩ := HS.out.cells; (try clear v0 v1 v2 v3 v4 v5 v6); obtain ⟨v0, v1, v2, v3, v4, v5, v6⟩ := (Y.out.to HS.out.bel).cells; (try dsimp only at v0 v1 v2 v3 v4 v5 v6)) | (go_at_call 62; (with_reducible refine (triglyphref10_Uses.calls k _ _ _ _ _ y3 _ _ y4 _ _ y5 _ 3 _ _ (Kd.C_below D.out.h3 HS.out.bel) D.out.l3 (Kd.C_below D.out.h4 HS.out.bel) D.out.l4 (Kd.C_below D.out.h5 HS.out.bel) D.out.l5 HL3.out).mono ?_); rintro e w6 ⟨rfl, q⟩; have HS := Aside0.mk (HS.out.step q); clear q; (try clear z0 z1 z2 z3 z4 z5 z6); obtain ⟨z0, z1, z2, z3, z4, z5, z6⟩ := HS.out.cells; (try clear v0 v1 v2 v3 v4 v5 v6); obtain ⟨v0, v1, v2, v3, v4, v5, v6⟩ := (Y.out.to HS.out.bel).cells; (try dsimp only at v0 v1 v2 v3 v4 v5 v6)) | (go_at_call 62; (with_reducible refine (triglyphref10_Uses.calls k _ _ _ _ _ y3 _ _ y4 _ _ y5 _ 4 _ _ (Kd.C_below D.out.h3 HS.out.bel) D.out.l3 (Kd.C_below D.out.h4 HS.out.bel) D.out.l4 (Kd.C_below D.out.h5 HS.out.bel) D.out.l5 HL4.out).mono ?_); rintro e w6 ⟨rfl, q⟩; have HS := Aside0.mk (HS.out.step q); clear q; (try clear z0 z1 z2 z3 z4 z5 z6); obtain ⟨z0, z1, z2, z3, z4, z5, z6⟩ := HS.out.cells))
 go_ret
 exact ⟨rfl, HS.out.bel⟩
set_option maxHeartbeats 4000000 in
set_option maxRecDepth 100000 in
theorem rf_mo (k : Nat) (ihl : ∀ x, RfC 51 (rlaF k x) x) (iht : ∀ x, RfC 53 (rtuF k x) x) (x : S28) : RfC 38 (rmoF (k + 1) x) x := by
 intro A3 c3 A4 c4 A5 c5 w r hd h
 have hun := Try.underlying28
 have IHT := Aside0.mk (iht x)
 have IHLX := Aside0.mk (ihl x)
 have IHL := Aside0.mk ihl
 have IHB : Aside0 (∀ x, RfC 52 (some (rfT x)) x) := ⟨rf_bet⟩
 clear ihl iht
 obtain ⟨x0, x1, x2, ⟨x3, x4⟩, x5, x6⟩ := x
 have HS := Aside0.mk (RfS.start w #[.int .i64 x0, .int .i64 x1, .string x2, .slice A3 x3.length c3, .slice A4 x4.length c4, .slice A5 x5.length c5, .int .i64 x6])
 have HD := Aside0.mk hd
 have H5 := Aside0.mk hd.h5
 clear hd
 dsimp only at H5 ⊢
 obtain ⟨z0, z1, z2, z3, z4, z5, z6⟩ := HS.out.cells
 rw [rmoF] at h
 dsimp only at h
 by_cases k1 : x0 = 21
 ·rw [if_pos k1] at h
  obtain rfl := Option.some.inj h
  clear h
  subst k1
  go_enter Try.func38, Try.ntmps38
  go_wp2_with (first | (go_at_call 50; (with_reducible refine (rf_prim ⟨_, x1, x2, ⟨x3, x4⟩, x5, x6⟩ _ _ _ _ _ _ _ _ _).mono ?_); rintro e w3 ⟨rfl, q⟩; have HS := Aside0.mk (HS.out.step q); clear q; (try clear z0 z1 z2 z3 z4 z5 z6); obtain ⟨z0, z1, z2, z3, z4, z5, z6⟩ := HS.out.cells))
  go_ret
  exact ⟨rfl, HS.out.bel⟩
 rw [if_neg k1] at h
 have k1b : (x0 == 21) = false := by simpa using k1
 clear k1
 by_cases k2 : x0 = 22
 ·rw [if_pos k2] at h
  subst k2
  have HF := Aside0.mk h
  clear h k1b
  go_enter Try.func38, Try.ntmps38
  go_wp2_with (first | (go_at_call 51; (with_reducible refine (IHLX.out _ _ _ _ _ _ _ _ (HD.out.to HS.out.bel) HF.out).mono ?_); rintro e w4 ⟨rfl, q⟩; have HS := Aside0.mk (HS.out.step q); clear q; (try clear z0 z1 z2 z3 z4 z5 z6); obtain ⟨z0, z1, z2, z3, z4, z5, z6⟩ := HS.out.cells))
  go_ret
  exact ⟨rfl, HS.out.bel⟩
 rw [if_neg k2] at h
 have k2b : (x0 == 22) = false := by simpa using k2
 clear k2
 by_cases k3 : x0 = 31 ∨ x0 = 32 ∨ x0 = 33 ∨ x0 = 34
 ·rw [if_pos k3] at h
  cases hs : rfB x1 x2 x3.length x4.length x5.length 1 false false false
  ·simp only [rfSh, hs, Bool.false_and] at h
   obtain rfl := Option.some.inj h
   clear h
   rcases k3 with rfl | rfl | rfl | rfl
   all_goals
    go_enter Try.func38, Try.ntmps38
    go_wp2_with (first | (go_at_call 35; (with_reducible refine (rf_bare _ _ _ _ _ _ _ _ _ _ _ _ _ _ _ _ _ _).mono ?_); rintro e w2 ⟨rfl, q⟩; rw [hs]; have HS := Aside0.mk (HS.out.step q); clear q; (try clear z0 z1 z2 z3 z4 z5 z6); obtain ⟨z0, z1, z2, z3, z4, z5, z6⟩ := HS.out.cells))
    go_ret
    exact ⟨rfl, HS.out.bel⟩
  simp only [rfSh, hs, Bool.true_and] at h
  have hl : x5.length = 1 := rf_len hs
  obtain ⟨ad, B3, e3, B4, e4, B5, e5, ea, Y, D⟩ := rf_kid0 H5.out (by omega)
  subst ea
  have hl0 : (0 : Int) < x5.length := by omega
  clear hl
  (try simp only [rfKid] at h)
  generalize hy : rd_T28 x5 0 = y at h Y D
  clear hy
  obtain ⟨y0, y1, y2, ⟨y3, y4⟩, y5, y6⟩ := y
  (try dsimp only at h)
  have Y := Aside0.mk Y
  have D := Aside0.mk D
  have IHB := Aside0.mk (IHB.out ⟨y0, y1, y2, ⟨y3, y4⟩, y5, y6⟩)
  have HF := Aside0.mk h
  clear h
  rcases k3 with rfl | rfl | rfl | rfl
  all_goals
   go_enter Try.func38, Try.ntmps38
   go_wp2_with (first | (go_at_call 35; (with_reducible refine (rf_bare _ _ _ _ _ _ _ _ _ _ _ _ _ _ _ _ _ _).mono ?_); rintro e w2 ⟨rfl, q⟩; rw [hs]; have HS := Aside0.mk (HS.out.step q); clear q; (try clear z0 z1 z2 z3 z4 z5 z6); obtain ⟨z0, z1, z2, z3, z4, z5, z6⟩ := HS.out.cells; (try clear v0 v1 v2 v3 v4 v5 v6); obtain ⟨v0, v1, v2, v3, v4, v5, v6⟩ := (Y.out.to HS.out.bel).cells; (try dsimp only at v0 v1 v2 v3 v4 v5 v6)) | (go_at_call 52; (with_reducible refine (IHB.out _ _ _ _ _ _ _ _ (D.out.to HS.out.bel) HF.out).mono ?_); rintro e w4 ⟨rfl, q⟩; have HS := Aside0.mk (HS.out.step q); clear q; (try clear z0 z1 z2 z3 z4 z5 z6); obtain ⟨z0, z1, z2, z3, z4, z5, z6⟩ := HS.out.cells))
   go_ret
   exact ⟨rfl, HS.out.bel⟩
 rw [if_neg k3] at h
 have k31b : (x0 == 31) = false := by simpa using fun e : x0 = 31 => k3 (by omega)
 have k32b : (x0 == 32) = false := by simpa using fun e : x0 = 32 => k3 (by omega)
 have k33b : (x0 == 33) = false := by simpa using fun e : x0 = 33 => k3 (by omega)
 have k34b : (x0 == 34) = false := by simpa using fun e : x0 = 34 => k3 (by omega)
 clear k3
 by_cases k4 : x0 = 35
 ·rw [if_pos k4] at h
  subst k4
  have HF := Aside0.mk h
  clear h k1b k2b k31b k32b k33b k34b
  go_enter Try.func38, Try.ntmps38
  go_wp2_with (first | (go_at_call 53; (with_reducible refine (IHT.out _ _ _ _ _ _ _ _ (HD.out.to HS.out.bel) HF.out).mono ?_); rintro e w4 ⟨rfl, q⟩; have HS := Aside0.mk (HS.out.step q); clear q; (try clear z0 z1 z2 z3 z4 z5 z6); obtain ⟨z0, z1, z2, z3, z4, z5, z6⟩ := HS.out.cells))
  go_ret
  exact ⟨rfl, HS.out.bel⟩
 rw [if_neg k4] at h
 have k4b : (x0 == 35) = false := by simpa using k4
 clear k4
 by_cases k5 : x0 = 26
 rotate_left 1
 ·rw [if_neg k5] at h
  have k5b : (x0 == 26) = false := by simpa using k5
  obtain rfl := Option.some.inj h
  clear h
  go_enter Try.func38, Try.ntmps38
  go_wp2_with (fail)
  go_ret
  exact ⟨rfl, HS.out.bel⟩
 rw [if_pos k5] at h
 subst k5
 clear k1b k2b k31b k32b k33b k34b k4b
 cases hs : rfB x1 x2 x3.length x4.length x5.length 1 true false false
 ·rw [if_neg (by unfold rfSh; rw [hs]; decide)] at h
  obtain rfl := Option.some.inj h
  clear h
  go_enter Try.func38, Try.ntmps38
  go_wp2_with (first | (go_at_call 35; (with_reducible refine (rf_bare _ _ _ _ _ _ _ _ _ _ _ _ _ _ _ _ _ _).mono ?_); rintro e w2 ⟨rfl, q⟩; rw [hs]; have HS := Aside0.mk (HS.out.step q); clear q; (try clear z0 z1 z2 z3 z4 z5 z6); obtain ⟨z0, z1, z2, z3, z4, z5, z6⟩ := HS.out.cells))
  go_ret
  exact ⟨rfl, HS.out.bel⟩
 rw [if_pos (by unfold rfSh; exact hs)] at h
 have hl : x5.length = 1 := rf_len hs
 obtain ⟨ad, B3, e3, B4, e4, B5, e5, ea, Y, D⟩ := rf_kid0 H5.out (by omega)
 subst ea
 have hl0 : (0 : Int) < x5.length := by omega
 clear hl
 (try simp only [rfKid] at h)
 generalize hy : rd_T28 x5 0 = y at h Y D
 clear hy
 obtain ⟨y0, y1, y2, ⟨y3, y4⟩, y5, y6⟩ := y
 (try dsimp only at h)
 have Y := Aside0.mk Y
 have D := Aside0.mk D
 cases g0 : decide (x1 ≥ 0)
 ·simp only [g0, Bool.false_and, Bool.false_eq_true, if_false] at h
  obtain rfl := Option.some.inj h
  clear h
  go_enter Try.func38, Try.ntmps38
  go_wp2_with (first | (go_at_call 35; (with_reducible refine (rf_bare _ _ _ _ _ _ _ _ _ _ _ _ _ _ _ _ _ _).mono ?_); rintro e w2 ⟨rfl, q⟩; rw [hs]; have HS := Aside0.mk (HS.out.step q); clear q; (try clear z0 z1 z2 z3 z4 z5 z6); obtain ⟨z0, z1, z2, z3, z4, z5, z6⟩ := HS.out.cells; (try clear v0 v1 v2 v3 v4 v5 v6); obtain ⟨v0, v1, v2, v3, v4, v5, v6⟩ := (Y.out.to HS.out.bel).cells; (try dsimp only at v0 v1 v2 v3 v4 v5 v6)))
  go_ret
  exact ⟨rfl, HS.out.bel⟩
 cases g1 : decide (x1 ≤ 4096)
 ·simp only [g0, g1, Bool.true_and, Bool.false_and, Bool.false_eq_true, if_false] at h
  obtain rfl := Option.some.inj h
  clear h
  go_enter Try.func38, Try.ntmps38
  go_wp2_with (first | (go_at_call 35; (with_reducible refine (rf_bare _ _ _ _ _ _ _ _ _ _ _ _ _ _ _ _ _ _).mono ?_); rintro e w2 ⟨rfl, q⟩; rw [hs]; have HS := Aside0.mk (HS.out.step q); clear q; (try clear z0 z1 z2 z3 z4 z5 z6); obtain ⟨z0, z1, z2, z3, z4, z5, z6⟩ := HS.out.cells; (try clear v0 v1 v2 v3 v4 v5 v6); obtain ⟨v0, v1, v2, v3, v4, v5, v6⟩ := (Y.out.to HS.out.bel).cells; (try dsimp only at v0 v1 v2 v3 v4 v5 v6)))
  go_ret
  exact ⟨rfl, HS.out.bel⟩
 cases g2 : (y0 == 22)
 ·simp only [g0, g1, g2, Bool.true_and, Bool.false_eq_true, if_false] at h
  obtain rfl := Option.some.inj h
  clear h
  go_enter Try.func38, Try.ntmps38
  go_wp2_with (first | (go_at_call 35; (with_reducible refine (rf_bare _ _ _ _ _ _ _ _ _ _ _ _ _ _ _ _ _ _).mono ?_); rintro e w2 ⟨rfl, q⟩; rw [hs]; have HS := Aside0.mk (HS.out.step q); clear q; (try clear z0 z1 z2 z3 z4 z5 z6); obtain ⟨z0, z1, z2, z3, z4, z5, z6⟩ := HS.out.cells; (try clear v0 v1 v2 v3 v4 v5 v6); obtain ⟨v0, v1, v2, v3, v4, v5, v6⟩ := (Y.out.to HS.out.bel).cells; (try dsimp only at v0 v1 v2 v3 v4 v5 v6)))
  go_ret
  exact ⟨rfl, HS.out.bel⟩
 simp only [g0, g1, g2, Bool.true_and, if_true] at h
 have IHL := Aside0.mk (IHL.out ⟨y0, y1, y2, ⟨y3, y4⟩, y5, y6⟩)
 have HF := Aside0.mk h
 clear h
 go_enter Try.func38, Try.ntmps38
 go_wp2_with (first | (go_at_call 35; (with_reducible refine (rf_bare _ _ _ _ _ _ _ _ _ _ _ _ _ _ _ _ _ _).mono ?_); rintro e w2 ⟨rfl, q⟩; rw [hs]; have HS := Aside0.mk (HS.out.step q); clear q; (try clear z0 z1 z2 z3 z4 z5 z6); obtain ⟨z0, z1, z2, z3, z4, z5, z6⟩ := HS.out.cells; (try clear v0 v1 v2 v3 v4 v5 v6); obtain ⟨v0, v1, v2, v3, v4, v5, v6⟩ := (Y.out.to HS.out.bel).cells; (try dsimp only at v0 v1 v2 v3 v4 v5 v6)) | (go_at_call 51; (with_reducible refine (IHL.out _ _ _ _ _ _ _ _ (D.out.to HS.out.bel) HF.out).mono ?_); rintro e w4 ⟨rfl, q⟩; have HS := Aside0.mk (HS.out.step q); clear q; (try clear z0 z1 z2 z3 z4 z5 z6); obtain ⟨z0, z1, z2, z3, z4, z5, z6⟩ := HS.out.cells))
 go_ret
 exact ⟨rfl, HS.out.bel⟩
set_option maxHeartbeats 4000000 in
set_option maxRecDepth 100000 in
theorem rf_dy (k : Nat) (iht : ∀ x, RfC 53 (rtuF k x) x) (ihw : ∀ x, RfC 54 (rtwF k x) x) (x : S28) : RfC 39 (rdyF (k + 1) x) x := by
 intro A3 c3 A4 c4 A5 c5 w r hd h
 have hun := Try.underlying28
 have IHT := Aside0.mk (iht x)
 have IHW := Aside0.mk (ihw x)
 have IHB : Aside0 (∀ x, RfC 52 (some (rfT x)) x) := ⟨rf_bet⟩
 clear iht ihw
 obtain ⟨x0, x1, x2, ⟨x3, x4⟩, x5, x6⟩ := x
 have HS := Aside0.mk (RfS.start w #[.int .i64 x0, .int .i64 x1, .string x2, .slice A3 x3.length c3, .slice A4 x4.length c4, .slice A5 x5.length c5, .int .i64 x6])
 have HD := Aside0.mk hd
 have H5 := Aside0.mk hd.h5
 clear hd
 dsimp only at H5 ⊢
 obtain ⟨z0, z1, z2, z3, z4, z5, z6⟩ := HS.out.cells
 rw [rdyF] at h
 dsimp only at h
 by_cases k3 : x0 = 25
 ·rw [if_pos k3] at h
  subst k3
  cases hs : rfB x1 x2 x3.length x4.length x5.length 1 false false false
  ·simp only [rfSh, hs, Bool.false_and] at h
   obtain rfl := Option.some.inj h
   clear h
   go_enter Try.func39, Try.ntmps39
   go_wp2_with (first | (go_at_call 35; (with_reducible refine (rf_bare _ _ _ _ _ _ _ _ _ _ _ _ _ _ _ _ _ _).mono ?_); rintro e w2 ⟨rfl, q⟩; rw [hs]; have HS := Aside0.mk (HS.out.step q); clear q; (try clear z0 z1 z2 z3 z4 z5 z6); obtain ⟨z0, z1, z2, z3, z4, z5, z6⟩ := HS.out.cells))
   go_ret
   exact ⟨rfl, HS.out.bel⟩
  simp only [rfSh, hs, Bool.true_and] at h
  have hl : x5.length = 1 := rf_len hs
  obtain ⟨ad, B3, e3, B4, e4, B5, e5, ea, Y, D⟩ := rf_kid0 H5.out (by omega)
  subst ea
  have hl0 : (0 : Int) < x5.length := by omega
  clear hl
  (try simp only [rfKid] at h)
  generalize hy : rd_T28 x5 0 = y at h Y D
  clear hy
  obtain ⟨y0, y1, y2, ⟨y3, y4⟩, y5, y6⟩ := y
  (try dsimp only at h)
  have Y := Aside0.mk Y
  have D := Aside0.mk D
  have IHB := Aside0.mk (IHB.out ⟨y0, y1, y2, ⟨y3, y4⟩, y5, y6⟩)
  have HF := Aside0.mk h
  clear h
  go_enter Try.func39, Try.ntmps39
  go_wp2_with (first | (go_at_call 35; (with_reducible refine (rf_bare _ _ _ _ _ _ _ _ _ _ _ _ _ _ _ _ _ _).mono ?_); rintro e w2 ⟨rfl, q⟩; rw [hs]; have HS := Aside0.mk (HS.out.step q); clear q; (try clear z0 z1 z2 z3 z4 z5 z6); obtain ⟨z0, z1, z2, z3, z4, z5, z6⟩ := HS.out.cells; (try clear v0 v1 v2 v3 v4 v5 v6); obtain ⟨v0, v1, v2, v3, v4, v5, v6⟩ := (Y.out.to HS.out.bel).cells; (try dsimp only at v0 v1 v2 v3 v4 v5 v6)) | (go_at_call 52; (with_reducible refine (IHB.out _ _ _ _ _ _ _ _ (D.out.to HS.out.bel) HF.out).mono ?_); rintro e w4 ⟨rfl, q⟩; have HS := Aside0.mk (HS.out.step q); clear q; (try clear z0 z1 z2 z3 z4 z5 z6); obtain ⟨z0, z1, z2, z3, z4, z5, z6⟩ := HS.out.cells))
  go_ret
  exact ⟨rfl, HS.out.bel⟩
 rw [if_neg k3] at h
 have k3b : (x0 == 25) = false := by simpa using k3
 clear k3
 by_cases k4 : x0 = 35
 ·rw [if_pos k4] at h
  subst k4
  have HF := Aside0.mk h
  clear h k3b
  go_enter Try.func39, Try.ntmps39
  go_wp2_with (first | (go_at_call 53; (with_reducible refine (IHT.out _ _ _ _ _ _ _ _ (HD.out.to HS.out.bel) HF.out).mono ?_); rintro e w4 ⟨rfl, q⟩; have HS := Aside0.mk (HS.out.step q); clear q; (try clear z0 z1 z2 z3 z4 z5 z6); obtain ⟨z0, z1, z2, z3, z4, z5, z6⟩ := HS.out.cells))
  go_ret
  exact ⟨rfl, HS.out.bel⟩
 rw [if_neg k4] at h
 have k4b : (x0 == 35) = false := by simpa using k4
 clear k4
 have HF := Aside0.mk h
 clear h
 go_enter Try.func39, Try.ntmps39
 go_wp2_with (first | (go_at_call 54; (with_reducible refine (IHW.out _ _ _ _ _ _ _ _ (HD.out.to HS.out.bel) HF.out).mono ?_); rintro e w4 ⟨rfl, q⟩; have HS := Aside0.mk (HS.out.step q); clear q; (try clear z0 z1 z2 z3 z4 z5 z6); obtain ⟨z0, z1, z2, z3, z4, z5, z6⟩ := HS.out.cells))
 go_ret
 exact ⟨rfl, HS.out.bel⟩
set_option maxHeartbeats 4000000 in
set_option maxRecDepth 100000 in
theorem rf_expr (k : Nat) (ihm : ∀ x, RfC 38 (rmoF k x) x) (ihd : ∀ x, RfC 39 (rdyF k x) x) (ihe : ∀ x i, RfE 26 (rexF k x i) x i) (x : S28) (i : Bool) : RfE 26 (rexF (k + 1) x i) x i := by
 intro A3 c3 A4 c4 A5 c5 w r hd h
 have hun := Try.underlying28
 have IHM := Aside0.mk ihm
 have IHD := Aside0.mk ihd
 have IHE := Aside0.mk ihe
 clear ihm ihd ihe
 obtain ⟨x0, x1, x2, ⟨x3, x4⟩, x5, x6⟩ := x
 have HS := Aside0.mk (RfS.start w #[.int .i64 x0, .int .i64 x1, .string x2, .slice A3 x3.length c3, .slice A4 x4.length c4, .slice A5 x5.length c5, .int .i64 x6])
 have HD := Aside0.mk hd
 have H5 := Aside0.mk hd.h5
 clear hd
 dsimp only at H5 ⊢
 obtain ⟨z0, z1, z2, z3, z4, z5, z6⟩ := HS.out.cells
 rw [rexF] at h
 dsimp only at h
 by_cases k1 : x0 = 1
 ·rw [if_pos k1] at h
  subst k1
  cases hs : rfB x1 x2 x3.length x4.length x5.length 0 false false true
  ·rw [if_neg (by unfold rfSh; rw [hs]; decide)] at h
   obtain rfl := Option.some.inj h
   clear h
   go_enter Try.func26, Try.ntmps26
   go_wp2_with (first | (go_at_call 35; (with_reducible refine (rf_bare _ _ _ _ _ _ _ _ _ _ _ _ _ _ _ _ _ _).mono ?_); rintro e w2 ⟨rfl, q⟩; rw [hs]; have HS := Aside0.mk (HS.out.step q); clear q; (try clear z0 z1 z2 z3 z4 z5 z6); obtain ⟨z0, z1, z2, z3, z4, z5, z6⟩ := HS.out.cells))
   go_ret
   exact ⟨rfl, HS.out.bel⟩
  ·rw [if_pos (by unfold rfSh; exact hs)] at h
   have HF := Aside0.mk h
   clear h
   go_enter Try.func26, Try.ntmps26
   go_wp2_with (first | (go_at_call 35; (with_reducible refine (rf_bare _ _ _ _ _ _ _ _ _ _ _ _ _ _ _ _ _ _).mono ?_); rintro e w2 ⟨rfl, q⟩; rw [hs]; have HS := Aside0.mk (HS.out.step q); clear q; (try clear z0 z1 z2 z3 z4 z5 z6); obtain ⟨z0, z1, z2, z3, z4, z5, z6⟩ := HS.out.cells) | (go_at_call 36; (with_reducible refine (triglyphref10_Literal.calls k _ _ x3 _ _ x4 _ _ (Kd.C_below HD.out.h3 HS.out.bel) HD.out.l3 (Kd.C_below HD.out.h4 HS.out.bel) HD.out.l4 HF.out).mono ?_); rintro e w4 ⟨rfl, q⟩; have HS := Aside0.mk (HS.out.step q); clear q; (try clear z0 z1 z2 z3 z4 z5 z6); obtain ⟨z0, z1, z2, z3, z4, z5, z6⟩ := HS.out.cells))
   go_ret
   exact ⟨rfl, HS.out.bel⟩
 rw [if_neg k1] at h
 have k1b : (x0 == 1) = false := by simpa using k1
 clear k1
 by_cases k2 : x0 = 2
 ·rw [if_pos k2] at h
  subst k2
  clear k1b
  cases hs : rfB x1 x2 x3.length x4.length x5.length 0 false true false
  ·rw [if_neg (by unfold rfSh; rw [hs]; decide)] at h
   obtain rfl := Option.some.inj h
   clear h
   go_enter Try.func26, Try.ntmps26
   go_wp2_with (first | (go_at_call 35; (with_reducible refine (rf_bare _ _ _ _ _ _ _ _ _ _ _ _ _ _ _ _ _ _).mono ?_); rintro e w2 ⟨rfl, q⟩; rw [hs]; have HS := Aside0.mk (HS.out.step q); clear q; (try clear z0 z1 z2 z3 z4 z5 z6); obtain ⟨z0, z1, z2, z3, z4, z5, z6⟩ := HS.out.cells))
   go_ret
   exact ⟨rfl, HS.out.bel⟩
  ·rw [if_pos (by unfold rfSh; exact hs)] at h
   have HF := Aside0.mk h
   clear h
   go_enter Try.func26, Try.ntmps26
   go_wp2_with (first | (go_at_call 35; (with_reducible refine (rf_bare _ _ _ _ _ _ _ _ _ _ _ _ _ _ _ _ _ _).mono ?_); rintro e w2 ⟨rfl, q⟩; rw [hs]; have HS := Aside0.mk (HS.out.step q); clear q; (try clear z0 z1 z2 z3 z4 z5 z6); obtain ⟨z0, z1, z2, z3, z4, z5, z6⟩ := HS.out.cells) | (go_at_call 37; (with_reducible refine (triglyphref10_Name.calls k x2 _ _ HF.out).mono ?_); rintro e w4 ⟨rfl, q⟩; have HS := Aside0.mk (HS.out.step q.below); clear q; (try clear z0 z1 z2 z3 z4 z5 z6); obtain ⟨z0, z1, z2, z3, z4, z5, z6⟩ := HS.out.cells))
   go_ret
   exact ⟨rfl, HS.out.bel⟩
 rw [if_neg k2] at h
 have k2b : (x0 == 2) = false := by simpa using k2
 clear k2
 by_cases k3 : x0 = 3 ∨ x0 = 4
 ·rw [if_pos k3] at h
  cases i
  ·rw [Bool.false_and] at h
   obtain rfl := Option.some.inj h
   clear h
   rcases k3 with rfl | rfl
   all_goals
    go_enter Try.func26, Try.ntmps26
    go_wp2_with (fail)
    go_ret
    exact ⟨rfl, HS.out.bel⟩
  ·cases hs : rfB x1 x2 x3.length x4.length x5.length 0 false false false
   all_goals
    simp only [rfSh, hs, Bool.true_and] at h
    obtain rfl := Option.some.inj h
    clear h
    rcases k3 with rfl | rfl
    all_goals
     go_enter Try.func26, Try.ntmps26
     go_wp2_with (first | (go_at_call 35; (with_reducible refine (rf_bare _ _ _ _ _ _ _ _ _ _ _ _ _ _ _ _ _ _).mono ?_); rintro e w2 ⟨rfl, q⟩; rw [hs]; have HS := Aside0.mk (HS.out.step q); clear q; (try clear z0 z1 z2 z3 z4 z5 z6); obtain ⟨z0, z1, z2, z3, z4, z5, z6⟩ := HS.out.cells))
     go_ret
     exact ⟨rfl, HS.out.bel⟩
 rw [if_neg k3] at h
 have k3b : (x0 == 3) = false := by simpa using fun e : x0 = 3 => k3 (by omega)
 have k4b : (x0 == 4) = false := by simpa using fun e : x0 = 4 => k3 (by omega)
 clear k3
 by_cases k5 : x0 = 5
 ·rw [if_pos k5] at h
  subst k5
  clear k1b k2b k3b k4b
  cases hs : rfB x1 x2 x3.length x4.length x5.length 2 false false false
  ·rw [if_neg (by unfold rfSh; rw [hs]; decide)] at h
   obtain rfl := Option.some.inj h
   clear h
   go_enter Try.func26, Try.ntmps26
   go_wp2_with (first | (go_at_call 35; (with_reducible refine (rf_bare _ _ _ _ _ _ _ _ _ _ _ _ _ _ _ _ _ _).mono ?_); rintro e w2 ⟨rfl, q⟩; rw [hs]; have HS := Aside0.mk (HS.out.step q); clear q; (try clear z0 z1 z2 z3 z4 z5 z6); obtain ⟨z0, z1, z2, z3, z4, z5, z6⟩ := HS.out.cells))
   go_ret
   exact ⟨rfl, HS.out.bel⟩
  rw [if_pos (by unfold rfSh; exact hs)] at h
  have hl : x5.length = 2 := rf_len hs
  obtain ⟨ad, B3, e3, B4, e4, B5, e5, ea, Y, D⟩ := rf_kid0 H5.out (by omega)
  subst ea
  obtain ⟨ad1, B31, e31, B41, e41, B51, e51, ea1, Y1, D1⟩ := rf_kid H5.out 1 (by omega)
  obtain rfl := Option.some.inj ea1
  have hl1 : (1 : Int) < x5.length := by omega
  rw [show 1 * 7 = 7 from rfl, show ((1 : Nat) : Int) = 1 from rfl, show ad.add 7 = ⟨ad.block, ad.off + 7, none⟩ from rfl] at Y1
  rw [show ((1 : Nat) : Int) = 1 from rfl] at D1
  have hl0 : (0 : Int) < x5.length := by omega
  clear hl
  (try simp only [rfKid] at h)
  generalize hy : rd_T28 x5 0 = y at h Y D
  clear hy
  obtain ⟨y0, y1, y2, ⟨y3, y4⟩, y5, y6⟩ := y
  (try dsimp only at h)
  have Y := Aside0.mk Y
  have D := Aside0.mk D
  generalize hy : rd_T28 x5 1 = s at h Y1 D1
  clear hy
  obtain ⟨s0, s1, s2, ⟨s3, s4⟩, s5, s6⟩ := s
  (try dsimp only at h)
  have Y1 := Aside0.mk Y1
  have D1 := Aside0.mk D1
  obtain ⟨b, hf, h⟩ := Option.bind_eq_some_iff.1 h
  have HF := Aside0.mk hf
  clear hf
  have IHM := Aside0.mk (IHM.out ⟨y0, y1, y2, ⟨y3, y4⟩, y5, y6⟩)
  have IHE := Aside0.mk (IHE.out ⟨s0, s1, s2, ⟨s3, s4⟩, s5, s6⟩ i)
  cases b
  ·rw [if_neg (by decide)] at h
   obtain rfl := Option.some.inj h
   clear h
   go_enter Try.func26, Try.ntmps26
   go_wp2_with (first | (go_at_call 35; (with_reducible refine (rf_bare _ _ _ _ _ _ _ _ _ _ _ _ _ _ _ _ _ _).mono ?_); rintro e w2 ⟨rfl, q⟩; rw [hs]; have HS := Aside0.mk (HS.out.step q); clear q; (try clear z0 z1 z2 z3 z4 z5 z6); obtain ⟨z0, z1, z2, z3, z4, z5, z6⟩ := HS.out.cells; (try clear v0 v1 v2 v3 v4 v5 v6); obtain ⟨v0, v1, v2, v3, v4, v5, v6⟩ := (Y.out.to HS.out.bel).cells; (try dsimp only at v0 v1 v2 v3 v4 v5 v6)) | (go_at_call 38; (with_reducible refine (IHM.out _ _ _ _ _ _ _ _ (D.out.to HS.out.bel) HF.out).mono ?_); rintro e w4 ⟨rfl, q⟩; have HS := Aside0.mk (HS.out.step q); clear q; (try clear z0 z1 z2 z3 z4 z5 z6); obtain ⟨z0, z1, z2, z3, z4, z5, z6⟩ := HS.out.cells; (try clear v0 v1 v2 v3 v4 v5 v6); obtain ⟨v0, v1, v2, v3, v4, v5, v6⟩ := (Y1.out.to HS.out.bel).cells; (try dsimp only at v0 v1 v2 v3 v4 v5 v6)))
   go_ret
   exact ⟨rfl, HS.out.bel⟩
  ·rw [if_pos rfl] at h
   have HF1 := Aside0.mk h
   clear h
   go_enter Try.func26, Try.ntmps26
   go_wp2_with (first | (go_at_call 35; (with_reducible refine (rf_bare _ _ _ _ _ _ _ _ _ _ _ _ _ _ _ _ _ _).mono ?_); rintro e w2 ⟨rfl, q⟩; rw [hs]; have HS := Aside0.mk (HS.out.step q); clear q; (try clear z0 z1 z2 z3 z4 z5 z6); obtain ⟨z0, z1, z2, z3, z4, z5, z6⟩ := HS.out.cells; (try clear v0 v1 v2 v3 v4 v5 v6); obtain ⟨v0, v1, v2, v3, v4, v5, v6⟩ := (Y.out.to HS.out.bel).cells; (try dsimp only at v0 v1 v2 v3 v4 v5 v6)) | (go_at_call 38; (with_reducible refine (IHM.out _ _ _ _ _ _ _ _ (D.out.to HS.out.bel) HF.out).mono ?_); rintro e w4 ⟨rfl, q⟩; have HS := Aside0.mk (HS.out.step q); clear q; (try clear z0 z1 z2 z3 z4 z5 z6); obtain ⟨z0, z1, z2, z3, z4, z5, z6⟩ := HS.out.cells; (try clear v0 v1 v2 v3 v4 v5 v6); obtain ⟨v0, v1, v2, v3, v4, v5, v6⟩ := (Y1.out.to HS.out.bel).cells; (try dsimp only at v0 v1 v2 v3 v4 v5 v6)) | (go_at_call 26; (with_reducible refine (IHE.out _ _ _ _ _ _ _ _ (D1.out.to HS.out.bel) HF1.out).mono ?_); rintro e w4 ⟨rfl, q⟩; have HS := Aside0.mk (HS.out.step q); clear q; (try clear z0 z1 z2 z3 z4 z5 z6); obtain ⟨z0, z1, z2, z3, z4, z5, z6⟩ := HS.out.cells))
   go_ret
   exact ⟨rfl, HS.out.bel⟩
 rw [if_neg k5] at h
 have k5b : (x0 == 5) = false := by simpa using k5
 clear k5
 by_cases k6 : x0 = 6
 rotate_left 1
 ·rw [if_neg k6] at h
  have k6b : (x0 == 6) = false := by simpa using k6
  obtain rfl := Option.some.inj h
  clear h
  go_enter Try.func26, Try.ntmps26
  go_wp2_with (fail)
  go_ret
  exact ⟨rfl, HS.out.bel⟩
 rw [if_pos k6] at h
 subst k6
 clear k1b k2b k3b k4b k5b
 cases hs : rfB x1 x2 x3.length x4.length x5.length 3 false false false
 ·rw [if_neg (by unfold rfSh; rw [hs]; decide)] at h
  obtain rfl := Option.some.inj h
  clear h
  go_enter Try.func26, Try.ntmps26
  go_wp2_with (first | (go_at_call 35; (with_reducible refine (rf_bare _ _ _ _ _ _ _ _ _ _ _ _ _ _ _ _ _ _).mono ?_); rintro e w2 ⟨rfl, q⟩; rw [hs]; have HS := Aside0.mk (HS.out.step q); clear q; (try clear z0 z1 z2 z3 z4 z5 z6); obtain ⟨z0, z1, z2, z3, z4, z5, z6⟩ := HS.out.cells))
  go_ret
  exact ⟨rfl, HS.out.bel⟩
 rw [if_pos (by unfold rfSh; exact hs)] at h
 have hl : x5.length = 3 := rf_len hs
 obtain ⟨ad, B3, e3, B4, e4, B5, e5, ea, Y, D⟩ := rf_kid0 H5.out (by omega)
 subst ea
 obtain ⟨ad1, B31, e31, B41, e41, B51, e51, ea1, Y1, D1⟩ := rf_kid H5.out 1 (by omega)
 obtain rfl := Option.some.inj ea1
 have hl1 : (1 : Int) < x5.length := by omega
 rw [show 1 * 7 = 7 from rfl, show ((1 : Nat) : Int) = 1 from rfl, show ad.add 7 = ⟨ad.block, ad.off + 7, none⟩ from rfl] at Y1
 rw [show ((1 : Nat) : Int) = 1 from rfl] at D1
 obtain ⟨ad2, B32, e32, B42, e42, B52, e52, ea2, Y2, D2⟩ := rf_kid H5.out 2 (by omega)
 obtain rfl := Option.some.inj ea2
 have hl2 : (2 : Int) < x5.length := by omega
 rw [show 2 * 7 = 14 from rfl, show ((2 : Nat) : Int) = 2 from rfl, show ad.add 14 = ⟨ad.block, ad.off + 14, none⟩ from rfl] at Y2
 rw [show ((2 : Nat) : Int) = 2 from rfl] at D2
 have hl0 : (0 : Int) < x5.length := by omega
 clear hl
 (try simp only [rfKid] at h)
 generalize hy : rd_T28 x5 0 = y at h Y D
 clear hy
 obtain ⟨y0, y1, y2, ⟨y3, y4⟩, y5, y6⟩ := y
 (try dsimp only at h)
 have Y := Aside0.mk Y
 have D := Aside0.mk D
 generalize hy : rd_T28 x5 1 = s at h Y1 D1
 clear hy
 obtain ⟨s0, s1, s2, ⟨s3, s4⟩, s5, s6⟩ := s
 (try dsimp only at h)
 have Y1 := Aside0.mk Y1
 have D1 := Aside0.mk D1
 generalize hy : rd_T28 x5 2 = t at h Y2 D2
 clear hy
 obtain ⟨t0, t1, t2, ⟨t3, t4⟩, t5, t6⟩ := t
 (try dsimp only at h)
 have Y2 := Aside0.mk Y2
 have D2 := Aside0.mk D2
 obtain ⟨b, hf, h⟩ := Option.bind_eq_some_iff.1 h
 have HF := Aside0.mk hf
 clear hf
 have IHD := Aside0.mk (IHD.out ⟨y0, y1, y2, ⟨y3, y4⟩, y5, y6⟩)
 have IHE1 := Aside0.mk (IHE.out ⟨s0, s1, s2, ⟨s3, s4⟩, s5, s6⟩ i)
 have IHE2 := Aside0.mk (IHE.out ⟨t0, t1, t2, ⟨t3, t4⟩, t5, t6⟩ i)
 cases b
 ·rw [if_neg (by decide)] at h
  obtain rfl := Option.some.inj h
  clear h
  go_enter Try.func26, Try.ntmps26
  go_wp2_with (first | (go_at_call 35; (with_reducible refine (rf_bare _ _ _ _ _ _ _ _ _ _ _ _ _ _ _ _ _ _).mono ?_); rintro e w2 ⟨rfl, q⟩; rw [hs]; have HS := Aside0.mk (HS.out.step q); clear q; (try clear z0 z1 z2 z3 z4 z5 z6); obtain ⟨z0, z1, z2, z3, z4, z5, z6⟩ := HS.out.cells; (try clear v0 v1 v2 v3 v4 v5 v6); obtain ⟨v0, v1, v2, v3, v4, v5, v6⟩ := (Y.out.to HS.out.bel).cells; (try dsimp only at v0 v1 v2 v3 v4 v5 v6)) | (go_at_call 39; (with_reducible refine (IHD.out _ _ _ _ _ _ _ _ (D.out.to HS.out.bel) HF.out).mono ?_); rintro e w4 ⟨rfl, q⟩; have HS := Aside0.mk (HS.out.step q); clear q; (try clear z0 z1 z2 z3 z4 z5 z6); obtain ⟨z0, z1, z2, z3, z4, z5, z6⟩ := HS.out.cells; (try clear v0 v1 v2 v3 v4 v5 v6); obtain ⟨v0, v1, v2, v3, v4, v5, v6⟩ := (Y1.out.to HS.out.bel).cells; (try dsimp only at v0 v1 v2 v3 v4 v5 v6)))
  go_ret
  exact ⟨rfl, HS.out.bel⟩
 rw [if_pos rfl] at h
 obtain ⟨b, hf, h⟩ := Option.bind_eq_some_iff.1 h
 have HF1 := Aside0.mk hf
 clear hf
 cases b
 ·rw [if_neg (by decide)] at h
  obtain rfl := Option.some.inj h
  clear h
  go_enter Try.func26, Try.ntmps26
  go_wp2_with (first | (go_at_call 35; (with_reducible refine (rf_bare _ _ _ _ _ _ _ _ _ _ _ _ _ _ _ _ _ _).mono ?_); rintro e w2 ⟨rfl, q⟩; rw [hs]; have HS := Aside0.mk (HS.out.step q); clear q; (try clear z0 z1 z2 z3 z4 z5 z6); obtain ⟨z0, z1, z2, z3, z4, z5, z6⟩ := HS.out.cells; (try clear v0 v1 v2 v3 v4 v5 v6); obtain ⟨v0, v1, v2, v3, v4, v5, v6⟩ := (Y.out.to HS.out.bel).cells; (try dsimp only at v0 v1 v2 v3 v4 v5 v6)) | (go_at_call 39; (with_reducible refine (IHD.out _ _ _ _ _ _ _ _ (D.out.to HS.out.bel) HF.out).mono ?_); rintro e w4 ⟨rfl, q⟩; have HS := Aside0.mk (HS.out.step q); clear q; (try clear z0 z1 z2 z3 z4 z5 z6); obtain ⟨z0, z1, z2, z3, z4, z5, z6⟩ := HS.out.cells; (try clear v0 v1 v2 v3 v4 v5 v6); obtain ⟨v0, v1, v2, v3, v4, v5, v6⟩ := (Y1.out.to HS.out.bel).cells; (try dsimp only at v0 v1 v2 v3 v4 v5 v6)) | (go_at_call 26; (with_reducible refine (IHE1.out _ _ _ _ _ _ _ _ (D1.out.to HS.out.bel) HF1.out).mono ?_); rintro e w4 ⟨rfl, q⟩; have HS := Aside0.mk (HS.out.step q); clear q; (try clear z0 z1 z2 z3 z4 z5 z6); obtain ⟨z0, z1, z2, z3, z4, z5, z6⟩ := HS.out.cells; (try clear v0 v1 v2 v3 v4 v5 v6); obtain ⟨v0, v1, v2, v3, v4, v5, v6⟩ := (Y2.out.to HS.out.bel).cells; (try dsimp only at v0 v1 v2 v3 v4 v5 v6)))
  go_ret
  exact ⟨rfl, HS.out.bel⟩
 ·rw [if_pos rfl] at h
  have HF2 := Aside0.mk h
  clear h
  go_enter Try.func26, Try.ntmps26
  go_wp2_with (first | (go_at_call 35; (with_reducible refine (rf_bare _ _ _ _ _ _ _ _ _ _ _ _ _ _ _ _ _ _).mono ?_); rintro e w2 ⟨rfl, q⟩; rw [hs]; have HS := Aside0.mk (HS.out.step q); clear q; (try clear z0 z1 z2 z3 z4 z5 z6); obtain ⟨z0, z1, z2, z3, z4, z5, z6⟩ := HS.out.cells; (try clear v0 v1 v2 v3 v4 v5 v6); obtain ⟨v0, v1, v2, v3, v4, v5, v6⟩ := (Y.out.to HS.out.bel).cells; (try dsimp only at v0 v1 v2 v3 v4 v5 v6)) | (go_at_call 39; (with_reducible refine (IHD.out _ _ _ _ _ _ _ _ (D.out.to HS.out.bel) HF.out).mono ?_); rintro e w4 ⟨rfl, q⟩; have HS := Aside0.mk (HS.out.step q); clear q; (try clear z0 z1 z2 z3 z4 z5 z6); obtain ⟨z0, z1, z2, z3, z4, z5, z6⟩ := HS.out.cells; (try clear v0 v1 v2 v3 v4 v5 v6); obtain ⟨v0, v1, v2, v3, v4, v5, v6⟩ := (Y1.out.to HS.out.bel).cells; (try dsimp only at v0 v1 v2 v3 v4 v5 v6)) | (go_at_call 26; (with_reducible refine (IHE1.out _ _ _ _ _ _ _ _ (D1.out.to HS.out.bel) HF1.out).mono ?_); rintro e w4 ⟨rfl, q⟩; have HS := Aside0.mk (HS.out.step q); clear q; (try clear z0 z1 z2 z3 z4 z5 z6); obtain ⟨z0, z1, z2, z3, z4, z5, z6⟩ := HS.out.cells; (try clear v0 v1 v2 v3 v4 v5 v6); obtain ⟨v0, v1, v2, v3, v4, v5, v6⟩ := (Y2.out.to HS.out.bel).cells; (try dsimp only at v0 v1 v2 v3 v4 v5 v6)) | (go_at_call 26; (with_reducible refine (IHE2.out _ _ _ _ _ _ _ _ (D2.out.to HS.out.bel) HF2.out).mono ?_); rintro e w4 ⟨rfl, q⟩; have HS := Aside0.mk (HS.out.step q); clear q; (try clear z0 z1 z2 z3 z4 z5 z6); obtain ⟨z0, z1, z2, z3, z4, z5, z6⟩ := HS.out.cells))
  go_ret
  exact ⟨rfl, HS.out.bel⟩
theorem rf_all : ∀ k, (∀ x i, RfE 26 (rexF k x i) x i) ∧ (∀ x, RfC 51 (rlaF k x) x) ∧ (∀ x, RfC 54 (rtwF k x) x) ∧ (∀ x, RfC 53 (rtuF k x) x) ∧ (∀ x, RfC 38 (rmoF k x) x) ∧ (∀ x, RfC 39 (rdyF k x) x)
 | 0 => ⟨fun x i => by intro _ _ _ _ _ _ _ _ _ h; simp [rexF] at h, fun x => by intro _ _ _ _ _ _ _ _ _ h; simp [rlaF] at h, fun x => by intro _ _ _ _ _ _ _ _ _ h; simp [rtwF] at h, fun x => by intro _ _ _ _ _ _ _ _ _ h; simp [rtuF] at h, fun x => by intro _ _ _ _ _ _ _ _ _ h; simp [rmoF] at h, fun x => by intro _ _ _ _ _ _ _ _ _ h; simp [rdyF] at h⟩
 | k + 1 => by
  obtain ⟨hex, hla, htw, htu, hmo, hdy⟩ := rf_all k
  exact ⟨fun x i => rf_expr k hmo hdy hex x i, fun x => rf_lambda k hex x, fun x => rf_two k hla x, fun x => rf_turned k htw x, fun x => rf_mo k hla htu x, fun x => rf_dy k htu htw x⟩
theorem rf_mono : ∀ k, (∀ x i, LeO (rexF k x i) (rexF (k + 1) x i)) ∧ (∀ x, LeO (rlaF k x) (rlaF (k + 1) x)) ∧ (∀ x, LeO (rtwF k x) (rtwF (k + 1) x)) ∧ (∀ x, LeO (rtuF k x) (rtuF (k + 1) x)) ∧ (∀ x, LeO (rmoF k x) (rmoF (k + 1) x)) ∧ (∀ x, LeO (rdyF k x) (rdyF (k + 1) x))
 | 0 => ⟨fun x i r h => by simp [rexF] at h, fun x r h => by simp [rlaF] at h, fun x r h => by simp [rtwF] at h, fun x r h => by simp [rtuF] at h, fun x r h => by simp [rmoF] at h, fun x r h => by simp [rdyF] at h⟩
 | k + 1 => by
  obtain ⟨hex, hla, htw, htu, hmo, hdy⟩ := rf_mono k
  refine ⟨?_, ?_, ?_, ?_, ?_, ?_⟩
  ·intro x i
   unfold rexF
   (try dsimp only)
   repeat' first

   | exact hex _ _
   | exact hla _
   | exact htw _
   | exact htu _
   | exact hmo _
   | exact hdy _
   | (with_reducible exact LeO.refl _)
   | exact triglyphref10_Literal.mono _ _ _
   | exact triglyphref10_Name.mono _ _
   | exact triglyphref10_Uses.mono _ _ _ _ _ _ _ _ _
   | (with_reducible refine LeO.ite ?_ ?_)
   | (with_reducible refine LeO.bind ?_ (fun _ => ?_))
  ·intro x
   unfold rlaF
   (try dsimp only)
   repeat' first

   | exact hex _ _
   | exact hla _
   | exact htw _
   | exact htu _
   | exact hmo _
   | exact hdy _
   | (with_reducible exact LeO.refl _)
   | exact triglyphref10_Literal.mono _ _ _
   | exact triglyphref10_Name.mono _ _
   | exact triglyphref10_Uses.mono _ _ _ _ _ _ _ _ _
   | (with_reducible refine LeO.ite ?_ ?_)
   | (with_reducible refine LeO.bind ?_ (fun _ => ?_))
  ·intro x
   unfold rtwF
   (try dsimp only)
   repeat' first

   | exact hex _ _
   | exact hla _
   | exact htw _
   | exact htu _
   | exact hmo _
   | exact hdy _
   | (with_reducible exact LeO.refl _)
   | exact triglyphref10_Literal.mono _ _ _
   | exact triglyphref10_Name.mono _ _
   | exact triglyphref10_Uses.mono _ _ _ _ _ _ _ _ _
   | (with_reducible refine LeO.ite ?_ ?_)
   | (with_reducible refine LeO.bind ?_ (fun _ => ?_))
  ·intro x
   unfold rtuF
   (try dsimp only)
   repeat' first

   | exact hex _ _
   | exact hla _
   | exact htw _
   | exact htu _
   | exact hmo _
   | exact hdy _
   | (with_reducible exact LeO.refl _)
   | exact triglyphref10_Literal.mono _ _ _
   | exact triglyphref10_Name.mono _ _
   | exact triglyphref10_Uses.mono _ _ _ _ _ _ _ _ _
   | (with_reducible refine LeO.ite ?_ ?_)
   | (with_reducible refine LeO.bind ?_ (fun _ => ?_))
  ·intro x
   unfold rmoF
   (try dsimp only)
   repeat' first

   | exact hex _ _
   | exact hla _
   | exact htw _
   | exact htu _
   | exact hmo _
   | exact hdy _
   | (with_reducible exact LeO.refl _)
   | exact triglyphref10_Literal.mono _ _ _
   | exact triglyphref10_Name.mono _ _
   | exact triglyphref10_Uses.mono _ _ _ _ _ _ _ _ _
   | (with_reducible refine LeO.ite ?_ ?_)
   | (with_reducible refine LeO.bind ?_ (fun _ => ?_))
  ·intro x
   unfold rdyF
   (try dsimp only)
   repeat' first

   | exact hex _ _
   | exact hla _
   | exact htw _
   | exact htu _
   | exact hmo _
   | exact hdy _
   | (with_reducible exact LeO.refl _)
   | exact triglyphref10_Literal.mono _ _ _
   | exact triglyphref10_Name.mono _ _
   | exact triglyphref10_Uses.mono _ _ _ _ _ _ _ _ _
   | (with_reducible refine LeO.ite ?_ ?_)
   | (with_reducible refine LeO.bind ?_ (fun _ => ?_))
def triglyphref10_Check.f (k : Nat) (a0_0 : Int) (a0_1 : Int) (a0_2 : ByteArray) (l0_3 : List Int) (l0_4 : List (S57)) (l0_5 : List (S28)) (a0_6 : Int) : Option Int :=
 (triglyphref10_Size.f k a0_0 a0_1 a0_2 l0_3 l0_4 l0_5 a0_6).bind fun s => if s > 2048 then some 1 else (triglyphref10_Deep.f k a0_0 a0_1 a0_2 l0_3 l0_4 l0_5 a0_6).bind fun d => if d > 24 then some 1 else (rexF k ⟨a0_0, a0_1, a0_2, ⟨l0_3, l0_4⟩, l0_5, a0_6⟩ false).bind fun b => some (if b = true then 0 else 1)
theorem triglyphref10_Check.mono : ∀ a0 a1 a2 a3 a4 a5 a6 k, LeO (triglyphref10_Check.f k a0 a1 a2 a3 a4 a5 a6) (triglyphref10_Check.f (k + 1) a0 a1 a2 a3 a4 a5 a6) := by
 intro a0 a1 a2 a3 a4 a5 a6 k
 exact LeO.bind (triglyphref10_Size.mono _ _ _ _ _ _ _ _) (fun _ => LeO.ite (LeO.refl _) (LeO.bind (triglyphref10_Deep.mono _ _ _ _ _ _ _ _) (fun _ => LeO.ite (LeO.refl _) (LeO.bind ((rf_mono k).1 _ _) (fun _ => LeO.refl _)))))
set_option maxHeartbeats 4000000 in
set_option maxRecDepth 100000 in
theorem triglyphref10_Check.calls (k : Nat) (a0_0 : Int) (a0_1 : Int) (a0_2 : ByteArray) (A0_3 : Option Addr) (c0_3 : Nat) (l0_3 : List Int) (A0_4 : Option Addr) (c0_4 : Nat) (l0_4 : List (S57)) (A0_5 : Option Addr) (c0_5 : Nat) (l0_5 : List (S28)) (a0_6 : Int) (r : Int) (w : World) (hr0_3 : Kd.C (Kd.int .i64) w A0_3 l0_3.length l0_3) (hc0_3 : l0_3.length ≤ c0_3) (hr0_4 : Kd.C k57 w A0_4 l0_4.length l0_4) (hc0_4 : l0_4.length ≤ c0_4) (hr0_5 : Kd.C k28 w A0_5 l0_5.length l0_5) (hc0_5 : l0_5.length ≤ c0_5) (h : triglyphref10_Check.f k a0_0 a0_1 a0_2 l0_3 l0_4 l0_5 a0_6 = some r) :
  Calls Try.prog 12 #[.agg #[.int .i64 a0_0, .int .i64 a0_1, .string a0_2, .slice A0_3 l0_3.length c0_3, .slice A0_4 l0_4.length c0_4, .slice A0_5 l0_5.length c0_5, .int .i64 a0_6]] w fun e w' => e = .returned (.int .i64 r) ∧ Below w.heap.size w w' := by
 have hun := Try.underlying28
 have HS := Aside0.mk (RfS.start w #[.int .i64 a0_0, .int .i64 a0_1, .string a0_2, .slice A0_3 l0_3.length c0_3, .slice A0_4 l0_4.length c0_4, .slice A0_5 l0_5.length c0_5, .int .i64 a0_6])
 have HD : Aside0 (RfN w ⟨a0_0, a0_1, a0_2, ⟨l0_3, l0_4⟩, l0_5, a0_6⟩ A0_3 c0_3 A0_4 c0_4 A0_5 c0_5) := ⟨⟨hr0_3, hc0_3, hr0_4, hc0_4, hr0_5, hc0_5⟩⟩
 have IHE := Aside0.mk ((rf_all k).1 ⟨a0_0, a0_1, a0_2, ⟨l0_3, l0_4⟩, l0_5, a0_6⟩ false)
 clear hr0_3 hc0_3 hr0_4 hc0_4 hr0_5 hc0_5
 unfold triglyphref10_Check.f at h
 obtain ⟨z0, z1, z2, z3, z4, z5, z6⟩ := HS.out.cells
 obtain ⟨s, hz, h⟩ := Option.bind_eq_some_iff.1 h
 have HZ := Aside0.mk hz
 clear hz
 by_cases k1 : s > 2048
 ·rw [if_pos k1] at h
  obtain rfl := Option.some.inj h
  clear h
  have k1b : decide (s > 2048) = true := decide_eq_true k1
  go_enter Try.func12, Try.ntmps12
  go_wp2_with (first | (go_at_call 24; (with_reducible refine (triglyphref10_Size.calls k _ _ _ _ _ l0_3 _ _ l0_4 _ _ l0_5 _ _ _ (Kd.C_below HD.out.h3 HS.out.bel) HD.out.l3 (Kd.C_below HD.out.h4 HS.out.bel) HD.out.l4 (Kd.C_below HD.out.h5 HS.out.bel) HD.out.l5 HZ.out).mono ?_); rintro e w6 ⟨rfl, q⟩; have HS := Aside0.mk (HS.out.step q); clear q; (try clear z0 z1 z2 z3 z4 z5 z6); obtain ⟨z0, z1, z2, z3, z4, z5, z6⟩ := HS.out.cells) | (go_at_call 25; (with_reducible refine (triglyphref10_Deep.calls k _ _ _ _ _ l0_3 _ _ l0_4 _ _ l0_5 _ _ _ (Kd.C_below HD.out.h3 HS.out.bel) HD.out.l3 (Kd.C_below HD.out.h4 HS.out.bel) HD.out.l4 (Kd.C_below HD.out.h5 HS.out.bel) HD.out.l5 HP.out).mono ?_); rintro e w6 ⟨rfl, q⟩; have HS := Aside0.mk (HS.out.step q); clear q; (try clear z0 z1 z2 z3 z4 z5 z6); obtain ⟨z0, z1, z2, z3, z4, z5, z6⟩ := HS.out.cells) | (go_at_call 26; (with_reducible refine (IHE.out _ _ _ _ _ _ _ _ (HD.out.to HS.out.bel) HF.out).mono ?_); rintro e w4 ⟨rfl, q⟩; have HS := Aside0.mk (HS.out.step q); clear q; (try clear z0 z1 z2 z3 z4 z5 z6); obtain ⟨z0, z1, z2, z3, z4, z5, z6⟩ := HS.out.cells))
  go_ret
  exact ⟨rfl, HS.out.bel⟩
 rw [if_neg k1] at h
 have k1b : decide (s > 2048) = false := decide_eq_false k1
 clear k1
 obtain ⟨d, hz, h⟩ := Option.bind_eq_some_iff.1 h
 have HP := Aside0.mk hz
 clear hz
 by_cases k2 : d > 24
 ·rw [if_pos k2] at h
  obtain rfl := Option.some.inj h
  clear h
  have k2b : decide (d > 24) = true := decide_eq_true k2
  go_enter Try.func12, Try.ntmps12
  go_wp2_with (first | (go_at_call 24; (with_reducible refine (triglyphref10_Size.calls k _ _ _ _ _ l0_3 _ _ l0_4 _ _ l0_5 _ _ _ (Kd.C_below HD.out.h3 HS.out.bel) HD.out.l3 (Kd.C_below HD.out.h4 HS.out.bel) HD.out.l4 (Kd.C_below HD.out.h5 HS.out.bel) HD.out.l5 HZ.out).mono ?_); rintro e w6 ⟨rfl, q⟩; have HS := Aside0.mk (HS.out.step q); clear q; (try clear z0 z1 z2 z3 z4 z5 z6); obtain ⟨z0, z1, z2, z3, z4, z5, z6⟩ := HS.out.cells) | (go_at_call 25; (with_reducible refine (triglyphref10_Deep.calls k _ _ _ _ _ l0_3 _ _ l0_4 _ _ l0_5 _ _ _ (Kd.C_below HD.out.h3 HS.out.bel) HD.out.l3 (Kd.C_below HD.out.h4 HS.out.bel) HD.out.l4 (Kd.C_below HD.out.h5 HS.out.bel) HD.out.l5 HP.out).mono ?_); rintro e w6 ⟨rfl, q⟩; have HS := Aside0.mk (HS.out.step q); clear q; (try clear z0 z1 z2 z3 z4 z5 z6); obtain ⟨z0, z1, z2, z3, z4, z5, z6⟩ := HS.out.cells) | (go_at_call 26; (with_reducible refine (IHE.out _ _ _ _ _ _ _ _ (HD.out.to HS.out.bel) HF.out).mono ?_); rintro e w4 ⟨rfl, q⟩; have HS := Aside0.mk (HS.out.step q); clear q; (try clear z0 z1 z2 z3 z4 z5 z6); obtain ⟨z0, z1, z2, z3, z4, z5, z6⟩ := HS.out.cells))
  go_ret
  exact ⟨rfl, HS.out.bel⟩
 rw [if_neg k2] at h
 have k2b : decide (d > 24) = false := decide_eq_false k2
 clear k2
 obtain ⟨b, hf, h⟩ := Option.bind_eq_some_iff.1 h
 have HF := Aside0.mk hf
 clear hf
 cases b
 all_goals
  obtain rfl := Option.some.inj h
  clear h
  go_enter Try.func12, Try.ntmps12
  go_wp2_with (first | (go_at_call 24; (with_reducible refine (triglyphref10_Size.calls k _ _ _ _ _ l0_3 _ _ l0_4 _ _ l0_5 _ _ _ (Kd.C_below HD.out.h3 HS.out.bel) HD.out.l3 (Kd.C_below HD.out.h4 HS.out.bel) HD.out.l4 (Kd.C_below HD.out.h5 HS.out.bel) HD.out.l5 HZ.out).mono ?_); rintro e w6 ⟨rfl, q⟩; have HS := Aside0.mk (HS.out.step q); clear q; (try clear z0 z1 z2 z3 z4 z5 z6); obtain ⟨z0, z1, z2, z3, z4, z5, z6⟩ := HS.out.cells) | (go_at_call 25; (with_reducible refine (triglyphref10_Deep.calls k _ _ _ _ _ l0_3 _ _ l0_4 _ _ l0_5 _ _ _ (Kd.C_below HD.out.h3 HS.out.bel) HD.out.l3 (Kd.C_below HD.out.h4 HS.out.bel) HD.out.l4 (Kd.C_below HD.out.h5 HS.out.bel) HD.out.l5 HP.out).mono ?_); rintro e w6 ⟨rfl, q⟩; have HS := Aside0.mk (HS.out.step q); clear q; (try clear z0 z1 z2 z3 z4 z5 z6); obtain ⟨z0, z1, z2, z3, z4, z5, z6⟩ := HS.out.cells) | (go_at_call 26; (with_reducible refine (IHE.out _ _ _ _ _ _ _ _ (HD.out.to HS.out.bel) HF.out).mono ?_); rintro e w4 ⟨rfl, q⟩; have HS := Aside0.mk (HS.out.step q); clear q; (try clear z0 z1 z2 z3 z4 z5 z6); obtain ⟨z0, z1, z2, z3, z4, z5, z6⟩ := HS.out.cells))
  go_ret
  exact ⟨rfl, HS.out.bel⟩
end Go.Proofs.Ytfjkclhkobnakaa.P
