/- Written by a program of this session: the functions that the laws reach, what each comes to, and each law as it is stated, for every input. No condition. -/
import Derived.Test.YtfblidojoepcpaaPx0
import Derived.Test.YtfblidojoepcpaaPx1
import Derived.Test.YtfblidojoepcpaaPx3
namespace Go.Proofs.Ytfblidojoepcpaa.P
open Go.RowKit Go.Proofs.YtfblidojoepcpaaW.PrintWords Go.Proofs.YtfblidojoepcpaaW.PrintLast Go.Proofs.YtfblidojoepcpaaW.PrintMore
attribute [local go_sem] max2_int min2_int max_two min_two max_three min_three max_four min_four   -- for this text's walks alone
set_option linter.unusedVariables false
set_option linter.unusedSimpArgs false
abbrev CkU := Option (Bool × Bool)
abbrev CkH := Empty
def ckMb : Value → Option Nat
 | .map b => b
 | _ => none
def CkUse (w0 w : World) (g : Nat) (nd : Int) (mp : Value) : CkU → Prop
 | none => mp = .map none
 | some (l, r) => ∃ (b n : Nat) (D : DataW CkH), mp = .map (some b) ∧ w0.heap.size ≤ b ∧ b ≠ g ∧ w.ownsMap Try.prog 3 (plainElem Try.prog 4) b n D ∧ (n : Int) ≤ nd ∧ Maps.IsMap D ∧ D.atKey (.int .i64 3) (.lit (.bool false)) = .lit (.bool l) ∧ D.atKey (.int .i64 4) (.lit (.bool false)) = .lit (.bool r)
structure CkI (w0 w : World) (g : Nat) (nd : Int) (mp : Value) (u : CkU) : Prop where
 blk : w.heap[g]? = some (.cells #[.int .i64 nd, mp] 60 (0, 0))
 ge : w0.heap.size ≤ g
 use : CkUse w0 w g nd mp u
theorem CkUse.kept2 {w0 w w' : World} {g : Nat} {nd nd' : Int} {mp : Value} {u : CkU} (h : CkUse w0 w g nd mp u) (hle : nd ≤ nd') (hk : ∀ b, b < w.heap.size → b ≠ g → ckMb mp = some b → w'.heap[b]? = w.heap[b]?) : CkUse w0 w' g nd' mp u := by
 cases u with
 | none => exact h
 | some q =>
  obtain ⟨l, r⟩ := q
  obtain ⟨b, n, D, rfl, h1, h2, ⟨es, clock, hb, F, hs, hD⟩, h3, h4, h5, h6⟩ := h
  exact ⟨b, n, D, rfl, h1, h2, ⟨es, clock, (hk b (Array.getElem?_eq_some_iff.1 hb).1 h2 rfl).trans hb, F, hs, hD⟩, by omega, h4, h5, h6⟩
theorem CkUse.kept {w0 w w' : World} {g : Nat} {nd nd' : Int} {mp : Value} {u : CkU} (h : CkUse w0 w g nd mp u) (hle : nd ≤ nd') (hk : KeepBut w w' g none) : CkUse w0 w' g nd' mp u :=
 h.kept2 hle (fun b hl hn _ => hk.2 b hl hn (by simp))
theorem CkI.below {w0 W W1 : World} {g : Nat} {nd : Int} {mp : Value} {u : CkU} (h : CkI w0 W g nd mp u) (hw : Below W.heap.size W W1) : CkI w0 W1 g nd mp u :=
 ⟨blk_below h.blk hw, h.ge, h.use.kept (Int.le_refl _) (KeepBut.of_below hw g none)⟩
def ckCb (nd d : Int) : Bool := decide (nd + 1 ≤ 2048) && decide (d ≤ 24)
def ckInb (nd d : Int) : Prop := 0 ≤ nd ∧ nd ≤ 2048 ∧ 0 ≤ d ∧ d ≤ 25
instance (nd d : Int) : Decidable (ckInb nd d) := inferInstanceAs (Decidable (_ ∧ _))
theorem cb_in {nd d : Int} (h : ckInb nd d) (hc : ckCb nd d = true) : ckInb (nd + 1) d ∧ d ≤ 24 := by
 obtain ⟨h1, h2, h3, h4⟩ := h
 unfold ckCb at hc
 simp only [Bool.and_eq_true, decide_eq_true_eq] at hc
 exact ⟨⟨by omega, by omega, by omega, by omega⟩, hc.2⟩
theorem wrap_d {d : Int} (h0 : 0 ≤ d) (h1 : d ≤ 25) : wrap64 (d + 1) = d + 1 := by unfold wrap64; omega
set_option maxHeartbeats 1000000 in
set_option maxRecDepth 100000 in
theorem chk_count (g : Nat) (nd d : Int) (mp : Value) (u : CkU) (w0 w : World) (hI : CkI w0 w g nd mp u) (hB : Below w0.heap.size w0 w) (hb : ckInb nd d) :
  Calls Try.prog 47 #[.pointer (some ⟨g, 0, none⟩), .int .i64 d] w fun e w' => e = .returned (.bool (ckCb nd d)) ∧ CkI w0 w' g (nd + 1) mp u ∧ Below w0.heap.size w0 w' ∧ KeepBut w w' g none := by
 have HI := Aside0.mk hI
 obtain ⟨HG, hg, hu⟩ := hI
 have hc0 : w.cell? ⟨g, 0, none⟩ = some (.int .i64 nd) := (blk_cell HG 0).trans rfl
 have hf0 := blk_frozen HG 0
 have hut := Try.underlying60
 have HB := Aside0.mk hB
 obtain ⟨b1, b2, b3, b4⟩ := hb
 have hw : wrap64 (nd + 1) = nd + 1 := by unfold wrap64; omega
 have key : ∀ (e : Ending) (v : Bool), v = ckCb nd d → e = .returned (.bool v) → e = .returned (.bool (ckCb nd d)) ∧ CkI w0 (w.setCell ⟨g, 0, none⟩ (.int .i64 (nd + 1))) g (nd + 1) mp u ∧ Below w0.heap.size w0 (w.setCell ⟨g, 0, none⟩ (.int .i64 (nd + 1))) ∧ KeepBut w (w.setCell ⟨g, 0, none⟩ (.int .i64 (nd + 1))) g none := by
  intro e v h1 h2
  have hk : KeepBut w (w.setCell ⟨g, 0, none⟩ (.int .i64 (nd + 1))) g none := KeepBut.set_ (KeepBut.refl w g none) _ _
  exact ⟨by rw [h2, h1], ⟨by simpa using blk_set HG 0 (.int .i64 (nd + 1)), hg, hu.kept (by omega) hk⟩, below_set hB hg, hk⟩
 have KEY := Aside0.mk key
 clear HG hB hu key
 by_cases h1 : nd + 1 ≤ 2048
 ·have h1b : decide (nd + 1 ≤ 2048) = true := decide_eq_true h1
  go_enter Try.func47, Try.ntmps47
  go_wp2
  go_ret
  exact KEY.out _ (decide (d ≤ 24)) (by unfold ckCb; rw [h1b]; rfl) rfl
 ·have h1b : decide (nd + 1 ≤ 2048) = false := decide_eq_false h1
  go_enter Try.func47, Try.ntmps47
  go_wp2
  go_ret
  exact KEY.out _ false (by unfold ckCb; rw [h1b]; rfl) rfl
def ckSh (x : S34) (kids : Int) (op name lit : Bool) : Bool := core_shape.v x.f1 x.f2 x.f3.f0.length x.f3.f1.length x.f4.length kids op name lit
theorem sh_len {x : S34} {n : Nat} {op name lit : Bool} (h : ckSh x n op name lit = true) : x.f4.length = n := by
 unfold ckSh core_shape.v at h
 simp only [Bool.and_eq_true, beq_iff_eq] at h
 omega
def ckSc (op : Int) : Bool := decide (op ≥ 21) && decide (op ≤ 32)
theorem sc_eq (a : Int) : core_Scalar.f a = some (ckSc a) := by
 unfold core_Scalar.f ckSc
 by_cases h : a ≥ 21 <;> simp [h]
abbrev ckKid (x : S34) (i : Int) : S34 := rd_T34 x.f4 i
def ckSetU (k : Int) (q : Bool × Bool) : Bool × Bool := if k = 3 then (true, q.2) else (q.1, true)
def ckBt (nd d : Int) (y : S34) (u : CkU) : Bool × Int × CkU := (ckCb nd d && ((y.f0 == 21) && (ckSh y 0 true false false && ckSc y.f1)), nd + 1, u)
def beF (x : S34) (nd d : Int) (u : CkU) : Option (Bool × Int × CkU) :=
 if ¬ ckInb nd d then none else
 if x.f0 = 35 then (if ckCb nd d = true then (if ckSh x 1 false false false = true then some (ckBt (nd + 1) (d + 1) (ckKid x 0) u) else some (false, nd + 1, u)) else some (false, nd + 1, u))
 else some (ckBt nd d x u)
mutual
def exF : Nat → S34 → Int → Int → CkU → Option (Bool × Int × CkU)
 | 0, _, _, _, _ => none
 | k + 1, x, nd, d, u =>
  if ¬ ckInb nd d then none else
  if ckCb nd d = false then some (false, nd + 1, u) else
  if x.f0 = 1 then (if ckSh x 0 false false true = true then (core_Literal.f k x.f3.f0 x.f3.f1).bind (fun b => some (b, nd + 1, u)) else some (false, nd + 1, u)) else
  if x.f0 = 2 then (if ckSh x 0 false true false = true then (core_Name.f k x.f2).bind (fun b => some (b, nd + 1, u)) else some (false, nd + 1, u)) else
  if x.f0 = 3 ∨ x.f0 = 4 then (match u with | none => some (false, nd + 1, none) | some q => if ckSh x 0 false false false = true then some (true, nd + 1, some (ckSetU x.f0 q)) else some (false, nd + 1, some q)) else
  if x.f0 = 5 then (if ckSh x 2 false false false = true then (moF k (ckKid x 0) (nd + 1) (d + 1) u).bind (fun r => if r.1 = true then exF k (ckKid x 1) r.2.1 (d + 1) r.2.2 else some r) else some (false, nd + 1, u)) else
  if x.f0 = 6 then (if ckSh x 3 false false false = true then (dyF k (ckKid x 0) (nd + 1) (d + 1) u).bind (fun r => if r.1 = true then (exF k (ckKid x 1) r.2.1 (d + 1) r.2.2).bind (fun s => if s.1 = true then exF k (ckKid x 2) s.2.1 (d + 1) s.2.2 else some s) else some r) else some (false, nd + 1, u)) else
  some (false, nd + 1, u)
def laF : Nat → S34 → Int → Int → CkU → Option (Bool × Int × CkU)
 | 0, _, _, _, _ => none
 | k + 1, x, nd, d, u =>
  if ¬ (ckInb nd d ∧ d ≤ 24) then none else
  if ckSh x 1 false false false = false then some (false, nd, u) else
  (exF k (ckKid x 0) nd (d + 1) (some (false, false))).bind (fun r => match r.2.2 with | none => none | some q => if r.2.1 < nd then none else some (if x.f0 = 22 then (r.1 && !q.1) else (r.1 && (q.1 && q.2)), r.2.1, u))
def twF : Nat → S34 → Int → Int → CkU → Option (Bool × Int × CkU)
 | 0, _, _, _, _ => none
 | k + 1, x, nd, d, u =>
  if ¬ ckInb nd d then none else
  if ckCb nd d = false then some (false, nd + 1, u) else
  if x.f0 = 21 then some (ckSh x 0 true false false && (ckSc x.f1 || (decide (x.f1 ≥ 41) && decide (x.f1 ≤ 54))), nd + 1, u) else
  if x.f0 = 23 then laF k x (nd + 1) d u else some (false, nd + 1, u)
def tuF : Nat → S34 → Int → Int → CkU → Option (Bool × Int × CkU)
 | 0, _, _, _, _ => none
 | k + 1, x, nd, d, u =>
  if ¬ (ckInb nd d ∧ d ≤ 24) then none else
  if ckSh x 1 false false false = false then some (false, nd, u) else
  if ((ckKid x 0).f0 != 21) || (((ckKid x 0).f1 != 52) && ((ckKid x 0).f1 != 53)) then twF k (ckKid x 0) nd (d + 1) u else some (false, nd, u)
def moF : Nat → S34 → Int → Int → CkU → Option (Bool × Int × CkU)
 | 0, _, _, _, _ => none
 | k + 1, x, nd, d, u =>
  if ¬ ckInb nd d then none else
  if ckCb nd d = false then some (false, nd + 1, u) else
  if x.f0 = 21 then some (ckSh x 0 true false false && (decide (x.f1 ≥ 1) && decide (x.f1 ≤ 19)), nd + 1, u) else
  if x.f0 = 22 then laF k x (nd + 1) d u else
  if x.f0 = 31 ∨ x.f0 = 32 ∨ x.f0 = 33 ∨ x.f0 = 34 then (if ckSh x 1 false false false = true then beF (ckKid x 0) (nd + 1) (d + 1) u else some (false, nd + 1, u)) else
  if x.f0 = 35 then tuF k x (nd + 1) d u else
  if x.f0 = 26 then (if ckSh x 1 true false false = true then (if decide (x.f1 ≥ 0) && (decide (x.f1 ≤ 4096) && ((ckKid x 0).f0 == 22)) then moF k (ckKid x 0) (nd + 1) (d + 1) u else some (false, nd + 1, u)) else some (false, nd + 1, u)) else
  some (false, nd + 1, u)
def dyF : Nat → S34 → Int → Int → CkU → Option (Bool × Int × CkU)
 | 0, _, _, _, _ => none
 | k + 1, x, nd, d, u =>
  if ¬ ckInb nd d then none else
  if x.f0 = 25 then (if ckCb nd d = true then (if ckSh x 1 false false false = true then beF (ckKid x 0) (nd + 1) (d + 1) u else some (false, nd + 1, u)) else some (false, nd + 1, u)) else
  if x.f0 = 35 then (if ckCb nd d = true then tuF k x (nd + 1) d u else some (false, nd + 1, u)) else
  twF k x nd d u
end
structure CkS (w0 w1 w : World) (g gb : Nat) (bx : Array Value) (nd : Int) (mp : Value) (u : CkU) : Prop where
 isk : CkI w0 w g nd mp u
 bel : Below w0.heap.size w0 w
 keep : KeepBut w1 w g (ckMb mp)
 box : w.heap[gb]? = some (.cells bx 34 (0, 0))
 ne : gb ≠ g
 ne2 : some gb ≠ ckMb mp
 ge : w0.heap.size ≤ gb
 ge1 : w1.heap.size ≤ gb
theorem use_lt {w0 w : World} {g : Nat} {nd : Int} {mp : Value} {u : CkU} (h : CkUse w0 w g nd mp u) (b : Nat) (hb : ckMb mp = some b) : b < w.heap.size ∧ w0.heap.size ≤ b := by
 cases u with
 | none => cases h; cases hb
 | some q =>
  obtain ⟨l, r⟩ := q
  obtain ⟨b', n, D, rfl, h1, h2, ⟨es, clock, h3, _⟩, _⟩ := h
  obtain rfl := Option.some.inj hb
  exact ⟨(Array.getElem?_eq_some_iff.1 h3).1, h1⟩
theorem CkS.start {w0 w : World} {g : Nat} {nd : Int} {mp : Value} {u : CkU} (bx : Array Value) (hi : CkI w0 w g nd mp u) (hb : Below w0.heap.size w0 w) : CkS w0 w (w.alloc (.cells bx 34)) g w.heap.size bx nd mp u := by
 have h1 : Below w.heap.size w (w.alloc (.cells bx 34)) := below_alloc (Below.refl _ _) _
 refine ⟨hi.below h1, hb.trans (h1.mono hb.size), KeepBut.of_below h1 _ _, blk_new w _, ?_, ?_, hb.size, Nat.le_refl _⟩
 ·have := (Array.getElem?_eq_some_iff.1 hi.blk).1; omega
 ·intro h
  have := (use_lt hi.use _ h.symm).1
  omega
theorem CkS.quiet {w0 w1 w w' : World} {g gb : Nat} {bx : Array Value} {nd : Int} {mp : Value} {u : CkU} (h : CkS w0 w1 w g gb bx nd mp u) (hb : Below w.heap.size w w') : CkS w0 w1 w' g gb bx nd mp u :=
 ⟨h.isk.below hb, h.bel.trans (hb.mono h.bel.size), h.keep.trans (KeepBut.of_below hb g (ckMb mp)) (.inl rfl), blk_below h.box hb, h.ne, h.ne2, h.ge, h.ge1⟩
theorem CkS.call {w0 w1 w w' : World} {g gb : Nat} {bx : Array Value} {nd nd' : Int} {mp : Value} {u u' : CkU} (h : CkS w0 w1 w g gb bx nd mp u) (hi : CkI w0 w' g nd' mp u') (hb : Below w0.heap.size w0 w') (hk : KeepBut w w' g (ckMb mp)) : CkS w0 w1 w' g gb bx nd' mp u' :=
 ⟨hi, hb, h.keep.trans hk (.inl rfl), hk.blk h.box h.ne h.ne2, h.ne, h.ne2, h.ge, h.ge1⟩
theorem CkS.set {w0 w1 w : World} {g gb : Nat} {bx bx' : Array Value} {nd : Int} {mp : Value} {u : CkU} (h : CkS w0 w1 w g gb bx nd mp u) (j : Nat) (v : Value) (hx : (w.setCell ⟨gb, j, none⟩ v).heap[gb]? = some (.cells bx' 34 (0, 0))) : CkS w0 w1 (w.setCell ⟨gb, j, none⟩ v) g gb bx' nd mp u := by
 refine ⟨⟨blk_far h.isk.blk (fun e => h.ne e.symm) v, h.isk.ge, h.isk.use.kept2 (Int.le_refl _) (fun b _ _ hm => Below.heap_setCell w ⟨gb, j, none⟩ v b (fun e => h.ne2 (by rw [hm]; exact congrArg some e.symm)))⟩, below_set h.bel h.ge, ⟨by simpa [World.setCell] using h.keep.1, fun i hi hg hr => (Below.heap_setCell w ⟨gb, j, none⟩ v i (fun e => ?_)).trans (h.keep.2 i hi hg hr)⟩, hx, h.ne, h.ne2, h.ge, h.ge1⟩
 have := h.ge1
 have : i = gb := e
 omega
theorem CkS.store7 {w0 w1 w : World} {g gb : Nat} {a0 a1 a2 a3 a4 a5 a6 : Value} {nd : Int} {mp : Value} {u : CkU} (h : CkS w0 w1 w g gb #[a0, a1, a2, a3, a4, a5, a6] nd mp u) (b0 b1 b2 b3 b4 b5 b6 : Value) :
  CkS w0 w1 (((((((w.setCell ⟨gb, 0, none⟩ b0).setCell ⟨gb, 1, none⟩ b1).setCell ⟨gb, 2, none⟩ b2).setCell ⟨gb, 3, none⟩ b3).setCell ⟨gb, 4, none⟩ b4).setCell ⟨gb, 5, none⟩ b5).setCell ⟨gb, 6, none⟩ b6) g gb #[b0, b1, b2, b3, b4, b5, b6] nd mp u := by
 have s0 := h.set 0 b0 (bx' := #[b0, a1, a2, a3, a4, a5, a6]) (by simpa using blk_set h.box 0 b0)
 have s1 := s0.set 1 b1 (bx' := #[b0, b1, a2, a3, a4, a5, a6]) (by simpa using blk_set s0.box 1 b1)
 have s2 := s1.set 2 b2 (bx' := #[b0, b1, b2, a3, a4, a5, a6]) (by simpa using blk_set s1.box 2 b2)
 have s3 := s2.set 3 b3 (bx' := #[b0, b1, b2, b3, a4, a5, a6]) (by simpa using blk_set s2.box 3 b3)
 have s4 := s3.set 4 b4 (bx' := #[b0, b1, b2, b3, b4, a5, a6]) (by simpa using blk_set s3.box 4 b4)
 have s5 := s4.set 5 b5 (bx' := #[b0, b1, b2, b3, b4, b5, a6]) (by simpa using blk_set s4.box 5 b5)
 exact s5.set 6 b6 (by simpa using blk_set s5.box 6 b6)
theorem keep_wide {w w' : World} {g : Nat} (h : KeepBut w w' g none) (row : Option Nat) : KeepBut w w' g row := ⟨h.1, fun i hi hg _ => h.2 i hi hg (by simp)⟩
theorem CkS.cells {w0 w1 w : World} {g gb : Nat} {a0 a1 a2 a3 a4 a5 a6 : Value} {nd : Int} {mp : Value} {u : CkU} (h : CkS w0 w1 w g gb #[a0, a1, a2, a3, a4, a5, a6] nd mp u) :
  w.cell? ⟨gb, 0, none⟩ = some a0 ∧ w.cell? ⟨gb, 1, none⟩ = some a1 ∧ w.cell? ⟨gb, 2, none⟩ = some a2 ∧ w.cell? ⟨gb, 3, none⟩ = some a3 ∧ w.cell? ⟨gb, 4, none⟩ = some a4 ∧ w.cell? ⟨gb, 5, none⟩ = some a5 ∧ w.cell? ⟨gb, 6, none⟩ = some a6 :=
 ⟨(blk_cell h.box 0).trans rfl, (blk_cell h.box 1).trans rfl, (blk_cell h.box 2).trans rfl, (blk_cell h.box 3).trans rfl, (blk_cell h.box 4).trans rfl, (blk_cell h.box 5).trans rfl, (blk_cell h.box 6).trans rfl⟩
structure CkN (w0 : World) (x : S34) (A3 : Option Addr) (c3 : Nat) (A4 : Option Addr) (c4 : Nat) (A5 : Option Addr) (c5 : Nat) : Prop where
 h3 : (Kd.int .i64).C w0 A3 x.f3.f0.length x.f3.f0
 l3 : x.f3.f0.length ≤ c3
 h4 : k52.C w0 A4 x.f3.f1.length x.f3.f1
 l4 : x.f3.f1.length ≤ c4
 h5 : k34.C w0 A5 x.f4.length x.f4
 l5 : x.f4.length ≤ c5
structure CkA (w : World) (a : Addr) (x : S34) (A3 : Option Addr) (c3 : Nat) (A4 : Option Addr) (c4 : Nat) (A5 : Option Addr) (c5 : Nat) : Prop where
 cells : w.cell? a = some (.int .i64 x.f0) ∧ w.cell? ⟨a.block, a.off + 1, none⟩ = some (.int .i64 x.f1) ∧ w.cell? ⟨a.block, a.off + 2, none⟩ = some (.string x.f2) ∧ w.cell? ⟨a.block, a.off + 3, none⟩ = some (.slice A3 x.f3.f0.length c3) ∧ w.cell? ⟨a.block, a.off + 4, none⟩ = some (.slice A4 x.f3.f1.length c4) ∧ w.cell? ⟨a.block, a.off + 5, none⟩ = some (.slice A5 x.f4.length c5) ∧ w.cell? ⟨a.block, a.off + 6, none⟩ = some (.int .i64 x.f5)
theorem CkA.to {w0 w : World} {a : Addr} {x : S34} {A3 : Option Addr} {c3 : Nat} {A4 : Option Addr} {c4 : Nat} {A5 : Option Addr} {c5 : Nat} (h : CkA w0 a x A3 c3 A4 c4 A5 c5) (hb : Below w0.heap.size w0 w) : CkA w a x A3 c3 A4 c4 A5 c5 := by
 obtain ⟨h0, h1, h2, h3, h4, h5, h6⟩ := h.cells
 exact ⟨pw_cell_below hb h0, pw_cell_below hb h1, pw_cell_below hb h2, pw_cell_below hb h3, pw_cell_below hb h4, pw_cell_below hb h5, pw_cell_below hb h6⟩
theorem at_kid {w0 : World} {A : Option Addr} {n : Nat} {xs : List S34} (h : k34.C w0 A n xs) (i : Nat) (hi : i < n) : ∃ ad B3 e3 B4 e4 B5 e5, A = some ad ∧ CkA w0 (ad.add (i * 7)) (rd_T34 xs i) B3 e3 B4 e4 B5 e5 ∧ CkN w0 (rd_T34 xs i) B3 e3 B4 e4 B5 e5 := by
 obtain ⟨ad, B3, e3, B4, e4, B5, e5, ea, y0, y1, y2, y3, y4, y5, y6, m3, j3, m4, j4, m5, j5⟩ := at_T34 h i (by omega) (by omega)
 rw [Int.toNat_natCast] at y0 y1 y2 y3 y4 y5 y6
 exact ⟨ad, B3, e3, B4, e4, B5, e5, ea, ⟨y0, y1, y2, y3, y4, y5, y6⟩, ⟨j3, m3, j4, m4, j5, m5⟩⟩
theorem at_kid0 {w0 : World} {A : Option Addr} {n : Nat} {xs : List S34} (h : k34.C w0 A n xs) (hi : 0 < n) : ∃ ad B3 e3 B4 e4 B5 e5, A = some ad ∧ CkA w0 ad (rd_T34 xs 0) B3 e3 B4 e4 B5 e5 ∧ CkN w0 (rd_T34 xs 0) B3 e3 B4 e4 B5 e5 := by
 obtain ⟨ad, B3, e3, B4, e4, B5, e5, ea, h1, h2⟩ := at_kid h 0 hi
 rw [show ad.add (0 * 7) = ad by simp [Addr.add]] at h1
 exact ⟨ad, B3, e3, B4, e4, B5, e5, ea, h1, h2⟩
abbrev CkC (F : Nat) (f : Option (Bool × Int × CkU)) (x : S34) (nd d : Int) (u : CkU) : Prop :=
 ∀ (A3 : Option Addr) (c3 : Nat) (A4 : Option Addr) (c4 : Nat) (A5 : Option Addr) (c5 : Nat) (w0 w : World) (g : Nat) (mp : Value) (r : Bool) (nd' : Int) (u' : CkU), CkN w0 x A3 c3 A4 c4 A5 c5 → Below w0.heap.size w0 w → CkI w0 w g nd mp u → f = some (r, nd', u') →
  Calls Try.prog F #[.pointer (some ⟨g, 0, none⟩), .agg #[.int .i64 x.f0, .int .i64 x.f1, .string x.f2, .slice A3 x.f3.f0.length c3, .slice A4 x.f3.f1.length c4, .slice A5 x.f4.length c5, .int .i64 x.f5], .int .i64 d] w fun e w' => e = .returned (.bool r) ∧ CkI w0 w' g nd' mp u' ∧ Below w0.heap.size w0 w' ∧ KeepBut w w' g (ckMb mp)
theorem CkS.done {w0 w1 w : World} {g gb : Nat} {bx : Array Value} {nd : Int} {mp : Value} {u : CkU} (h : CkS w0 w1 w g gb bx nd mp u) {e : Ending} {r : Bool} (he : e = .returned (.bool r)) : e = .returned (.bool r) ∧ CkI w0 w g nd mp u ∧ Below w0.heap.size w0 w ∧ KeepBut w1 w g (ckMb mp) := ⟨he, h.isk, h.bel, h.keep⟩
theorem some3 {a a' : Bool} {b b' : Int} {c c' : CkU} (h : some (a, b, c) = some (a', b', c')) : a = a' ∧ b = b' ∧ c = c' := by simpa using h
set_option maxHeartbeats 4000000 in
set_option maxRecDepth 100000 in
theorem tw_step (k : Nat) (ihl : ∀ x nd d u, CkC 65 (laF k x nd d u) x nd d u) (x : S34) (nd d : Int) (u : CkU) : CkC 68 (twF (k + 1) x nd d u) x nd d u := by
 intro A3 c3 A4 c4 A5 c5 w0 w g mp r nd' u' hd hb hi h
 have hun := Try.underlying34
 have huk := Try.underlying60
 have IHL := Aside0.mk (ihl x (nd + 1) d u)
 clear ihl
 obtain ⟨x0, x1, x2, ⟨x3, x4⟩, x5, x6⟩ := x
 have HS := Aside0.mk (CkS.start #[.int .i64 x0, .int .i64 x1, .string x2, .slice A3 x3.length c3, .slice A4 x4.length c4, .slice A5 x5.length c5, .int .i64 x6] hi hb)
 have HD := Aside0.mk hd
 have H5 := Aside0.mk hd.h5
 have HI0 := Aside0.mk hi
 have HB0 := Aside0.mk hb
 clear hd hi hb
 dsimp only at H5 ⊢
 rw [twF] at h
 dsimp only at h
 by_cases hin : ckInb nd d
 rotate_left 1
 ·rw [if_pos hin] at h; cases h
 rw [if_neg (not_not_intro hin)] at h
 have HIN := Aside0.mk hin
 clear hin
 cases h1 : ckCb nd d
 ·rw [if_pos h1] at h
  obtain ⟨rfl, rfl, rfl⟩ := some3 h
  clear h
  go_enter Try.func68, Try.ntmps68
  go_wp2_with (first | (go_at_call 47; (with_reducible refine (chk_count g nd d mp u w0 _ HS.out.isk HS.out.bel HIN.out).mono ?_); rintro e w2 ⟨rfl, q1, q2, q3⟩; rw [h1]; have HS := Aside0.mk (HS.out.call q1 q2 (keep_wide q3 _)); clear q1 q2 q3; (try clear z0 z1 z2 z3 z4 z5 z6); obtain ⟨z0, z1, z2, z3, z4, z5, z6⟩ := HS.out.cells))
  go_ret
  exact HS.out.done rfl
 rw [if_neg (by rw [h1]; decide)] at h
 by_cases c21 : x0 = 21
 ·rw [if_pos c21] at h
  subst c21
  cases hs : core_shape.v x1 x2 x3.length x4.length x5.length 0 true false false
  ·simp only [ckSh, hs, Bool.false_and] at h
   obtain ⟨rfl, rfl, rfl⟩ := some3 h
   clear h
   go_enter Try.func68, Try.ntmps68
   go_wp2_with (first | (go_at_call 47; (with_reducible refine (chk_count g nd d mp u w0 _ HS.out.isk HS.out.bel HIN.out).mono ?_); rintro e w2 ⟨rfl, q1, q2, q3⟩; rw [h1]; have HS := Aside0.mk (HS.out.call q1 q2 (keep_wide q3 _)); clear q1 q2 q3; (try clear z0 z1 z2 z3 z4 z5 z6); obtain ⟨z0, z1, z2, z3, z4, z5, z6⟩ := HS.out.cells) | (go_at_call 48; (with_reducible refine (core_shape.run _ _ _ _ _ _ _ _ _ _ _ _ _ _ _ _ _ _).mono ?_); rintro e w3 ⟨rfl, q1⟩; rw [hs]; have HS := Aside0.mk (HS.out.quiet q1); clear q1; (try clear z0 z1 z2 z3 z4 z5 z6); obtain ⟨z0, z1, z2, z3, z4, z5, z6⟩ := HS.out.cells))
   go_ret
   exact HS.out.done rfl
  cases hc : ckSc x1
  ·cases h41 : decide (x1 ≥ 41)
   ·simp only [ckSh, hs, hc, h41, Bool.true_and, Bool.false_and, Bool.false_or] at h
    obtain ⟨rfl, rfl, rfl⟩ := some3 h
    clear h
    go_enter Try.func68, Try.ntmps68
    go_wp2_with (first | (go_at_call 47; (with_reducible refine (chk_count g nd d mp u w0 _ HS.out.isk HS.out.bel HIN.out).mono ?_); rintro e w2 ⟨rfl, q1, q2, q3⟩; rw [h1]; have HS := Aside0.mk (HS.out.call q1 q2 (keep_wide q3 _)); clear q1 q2 q3; (try clear z0 z1 z2 z3 z4 z5 z6); obtain ⟨z0, z1, z2, z3, z4, z5, z6⟩ := HS.out.cells) | (go_at_call 48; (with_reducible refine (core_shape.run _ _ _ _ _ _ _ _ _ _ _ _ _ _ _ _ _ _).mono ?_); rintro e w3 ⟨rfl, q1⟩; rw [hs]; have HS := Aside0.mk (HS.out.quiet q1); clear q1; (try clear z0 z1 z2 z3 z4 z5 z6); obtain ⟨z0, z1, z2, z3, z4, z5, z6⟩ := HS.out.cells) | (go_at_call 13; (with_reducible refine (core_Scalar.calls _ _ _ (sc_eq _)).mono ?_); rintro e w4 ⟨rfl, q1⟩; rw [hc]; have HS := Aside0.mk (HS.out.quiet q1.below); clear q1; (try clear z0 z1 z2 z3 z4 z5 z6); obtain ⟨z0, z1, z2, z3, z4, z5, z6⟩ := HS.out.cells))
    go_ret
    exact HS.out.done rfl
   ·simp only [ckSh, hs, hc, h41, Bool.true_and, Bool.false_or] at h
    obtain ⟨rfl, rfl, rfl⟩ := some3 h
    clear h
    go_enter Try.func68, Try.ntmps68
    go_wp2_with (first | (go_at_call 47; (with_reducible refine (chk_count g nd d mp u w0 _ HS.out.isk HS.out.bel HIN.out).mono ?_); rintro e w2 ⟨rfl, q1, q2, q3⟩; rw [h1]; have HS := Aside0.mk (HS.out.call q1 q2 (keep_wide q3 _)); clear q1 q2 q3; (try clear z0 z1 z2 z3 z4 z5 z6); obtain ⟨z0, z1, z2, z3, z4, z5, z6⟩ := HS.out.cells) | (go_at_call 48; (with_reducible refine (core_shape.run _ _ _ _ _ _ _ _ _ _ _ _ _ _ _ _ _ _).mono ?_); rintro e w3 ⟨rfl, q1⟩; rw [hs]; have HS := Aside0.mk (HS.out.quiet q1); clear q1; (try clear z0 z1 z2 z3 z4 z5 z6); obtain ⟨z0, z1, z2, z3, z4, z5, z6⟩ := HS.out.cells) | (go_at_call 13; (with_reducible refine (core_Scalar.calls _ _ _ (sc_eq _)).mono ?_); rintro e w4 ⟨rfl, q1⟩; rw [hc]; have HS := Aside0.mk (HS.out.quiet q1.below); clear q1; (try clear z0 z1 z2 z3 z4 z5 z6); obtain ⟨z0, z1, z2, z3, z4, z5, z6⟩ := HS.out.cells))
    go_ret
    exact HS.out.done rfl
  ·simp only [ckSh, hs, hc, Bool.true_and, Bool.true_or] at h
   obtain ⟨rfl, rfl, rfl⟩ := some3 h
   clear h
   go_enter Try.func68, Try.ntmps68
   go_wp2_with (first | (go_at_call 47; (with_reducible refine (chk_count g nd d mp u w0 _ HS.out.isk HS.out.bel HIN.out).mono ?_); rintro e w2 ⟨rfl, q1, q2, q3⟩; rw [h1]; have HS := Aside0.mk (HS.out.call q1 q2 (keep_wide q3 _)); clear q1 q2 q3; (try clear z0 z1 z2 z3 z4 z5 z6); obtain ⟨z0, z1, z2, z3, z4, z5, z6⟩ := HS.out.cells) | (go_at_call 48; (with_reducible refine (core_shape.run _ _ _ _ _ _ _ _ _ _ _ _ _ _ _ _ _ _).mono ?_); rintro e w3 ⟨rfl, q1⟩; rw [hs]; have HS := Aside0.mk (HS.out.quiet q1); clear q1; (try clear z0 z1 z2 z3 z4 z5 z6); obtain ⟨z0, z1, z2, z3, z4, z5, z6⟩ := HS.out.cells) | (go_at_call 13; (with_reducible refine (core_Scalar.calls _ _ _ (sc_eq _)).mono ?_); rintro e w4 ⟨rfl, q1⟩; rw [hc]; have HS := Aside0.mk (HS.out.quiet q1.below); clear q1; (try clear z0 z1 z2 z3 z4 z5 z6); obtain ⟨z0, z1, z2, z3, z4, z5, z6⟩ := HS.out.cells))
   go_ret
   exact HS.out.done rfl
 rw [if_neg c21] at h
 have c21b : (x0 == 21) = false := by simpa using c21
 by_cases c23 : x0 = 23
 ·rw [if_pos c23] at h
  subst c23
  have HF := Aside0.mk h
  clear h c21 c21b
  go_enter Try.func68, Try.ntmps68
  go_wp2_with (first | (go_at_call 47; (with_reducible refine (chk_count g nd d mp u w0 _ HS.out.isk HS.out.bel HIN.out).mono ?_); rintro e w2 ⟨rfl, q1, q2, q3⟩; rw [h1]; have HS := Aside0.mk (HS.out.call q1 q2 (keep_wide q3 _)); clear q1 q2 q3; (try clear z0 z1 z2 z3 z4 z5 z6); obtain ⟨z0, z1, z2, z3, z4, z5, z6⟩ := HS.out.cells) | (go_at_call 65; (with_reducible refine (IHL.out _ _ _ _ _ _ w0 _ g mp _ _ _ HD.out HS.out.bel HS.out.isk HF.out).mono ?_); rintro e w5 ⟨rfl, q1, q2, q3⟩; have HS := Aside0.mk (HS.out.call q1 q2 q3); clear q1 q2 q3; (try clear z0 z1 z2 z3 z4 z5 z6); obtain ⟨z0, z1, z2, z3, z4, z5, z6⟩ := HS.out.cells))
  go_ret
  exact HS.out.done rfl
 ·rw [if_neg c23] at h
  have c23b : (x0 == 23) = false := by simpa using c23
  obtain ⟨rfl, rfl, rfl⟩ := some3 h
  clear h
  go_enter Try.func68, Try.ntmps68
  go_wp2_with (first | (go_at_call 47; (with_reducible refine (chk_count g nd d mp u w0 _ HS.out.isk HS.out.bel HIN.out).mono ?_); rintro e w2 ⟨rfl, q1, q2, q3⟩; rw [h1]; have HS := Aside0.mk (HS.out.call q1 q2 (keep_wide q3 _)); clear q1 q2 q3; (try clear z0 z1 z2 z3 z4 z5 z6); obtain ⟨z0, z1, z2, z3, z4, z5, z6⟩ := HS.out.cells))
  go_ret
  exact HS.out.done rfl
set_option maxHeartbeats 4000000 in
set_option maxRecDepth 100000 in
theorem be_step (x : S34) (nd d : Int) (u : CkU) : CkC 66 (beF x nd d u) x nd d u := by
 intro A3 c3 A4 c4 A5 c5 w0 w g mp r nd' u' hd hb hi h
 have hun := Try.underlying34
 have huk := Try.underlying60
 obtain ⟨x0, x1, x2, ⟨x3, x4⟩, x5, x6⟩ := x
 have HS := Aside0.mk (CkS.start #[.int .i64 x0, .int .i64 x1, .string x2, .slice A3 x3.length c3, .slice A4 x4.length c4, .slice A5 x5.length c5, .int .i64 x6] hi hb)
 have HD := Aside0.mk hd
 have H5 := Aside0.mk hd.h5
 have HI0 := Aside0.mk hi
 have HB0 := Aside0.mk hb
 clear hd hi hb
 dsimp only at H5 ⊢
 rw [beF] at h
 (try dsimp only at h)
 by_cases hin : ckInb nd d
 rotate_left 1
 ·rw [if_pos hin] at h; cases h
 rw [if_neg (not_not_intro hin)] at h
 have HIN := Aside0.mk hin
 clear hin
 by_cases c35 : x0 = 35
 rotate_left 1
 ·rw [if_neg c35] at h
  have c35b : (x0 == 35) = false := by simpa using c35
  clear c35
  unfold ckBt at h
  cases h1 : ckCb nd d
  ·simp only [h1, Bool.false_and, Option.some.injEq] at h
   obtain ⟨rfl, rfl, rfl⟩ := some3 (congrArg some h)
   go_enter Try.func66, Try.ntmps66
   go_wp2_with (first | (go_at_call 47; (with_reducible refine (chk_count g nd d mp u w0 _ HS.out.isk HS.out.bel HIN.out).mono ?_); rintro e w2 ⟨rfl, q1, q2, q3⟩; rw [h1]; have HS := Aside0.mk (HS.out.call q1 q2 (keep_wide q3 _)); clear q1 q2 q3; (try clear z0 z1 z2 z3 z4 z5 z6); obtain ⟨z0, z1, z2, z3, z4, z5, z6⟩ := HS.out.cells))
   go_ret
   exact HS.out.done rfl
  cases c21 : (x0 == 21)
  ·simp only [h1, c21, Bool.false_and, Bool.true_and, Option.some.injEq] at h
   obtain ⟨rfl, rfl, rfl⟩ := some3 (congrArg some h)
   go_enter Try.func66, Try.ntmps66
   go_wp2_with (first | (go_at_call 47; (with_reducible refine (chk_count g nd d mp u w0 _ HS.out.isk HS.out.bel HIN.out).mono ?_); rintro e w2 ⟨rfl, q1, q2, q3⟩; rw [h1]; have HS := Aside0.mk (HS.out.call q1 q2 (keep_wide q3 _)); clear q1 q2 q3; (try clear z0 z1 z2 z3 z4 z5 z6); obtain ⟨z0, z1, z2, z3, z4, z5, z6⟩ := HS.out.cells))
   go_ret
   exact HS.out.done rfl
  cases hs : core_shape.v x1 x2 x3.length x4.length x5.length 0 true false false
  ·simp only [ckSh, h1, c21, hs, Bool.false_and, Bool.true_and, Option.some.injEq] at h
   obtain ⟨rfl, rfl, rfl⟩ := some3 (congrArg some h)
   go_enter Try.func66, Try.ntmps66
   go_wp2_with (first | (go_at_call 47; (with_reducible refine (chk_count g nd d mp u w0 _ HS.out.isk HS.out.bel HIN.out).mono ?_); rintro e w2 ⟨rfl, q1, q2, q3⟩; rw [h1]; have HS := Aside0.mk (HS.out.call q1 q2 (keep_wide q3 _)); clear q1 q2 q3; (try clear z0 z1 z2 z3 z4 z5 z6); obtain ⟨z0, z1, z2, z3, z4, z5, z6⟩ := HS.out.cells) | (go_at_call 48; (with_reducible refine (core_shape.run _ _ _ _ _ _ _ _ _ _ _ _ _ _ _ _ _ _).mono ?_); rintro e w3 ⟨rfl, q1⟩; rw [hs]; have HS := Aside0.mk (HS.out.quiet q1); clear q1; (try clear z0 z1 z2 z3 z4 z5 z6); obtain ⟨z0, z1, z2, z3, z4, z5, z6⟩ := HS.out.cells))
   go_ret
   exact HS.out.done rfl
  ·simp only [ckSh, h1, c21, hs, Bool.false_and, Bool.true_and, Option.some.injEq] at h
   obtain ⟨rfl, rfl, rfl⟩ := some3 (congrArg some h)
   go_enter Try.func66, Try.ntmps66
   go_wp2_with (first | (go_at_call 47; (with_reducible refine (chk_count g nd d mp u w0 _ HS.out.isk HS.out.bel HIN.out).mono ?_); rintro e w2 ⟨rfl, q1, q2, q3⟩; rw [h1]; have HS := Aside0.mk (HS.out.call q1 q2 (keep_wide q3 _)); clear q1 q2 q3; (try clear z0 z1 z2 z3 z4 z5 z6); obtain ⟨z0, z1, z2, z3, z4, z5, z6⟩ := HS.out.cells) | (go_at_call 48; (with_reducible refine (core_shape.run _ _ _ _ _ _ _ _ _ _ _ _ _ _ _ _ _ _).mono ?_); rintro e w3 ⟨rfl, q1⟩; rw [hs]; have HS := Aside0.mk (HS.out.quiet q1); clear q1; (try clear z0 z1 z2 z3 z4 z5 z6); obtain ⟨z0, z1, z2, z3, z4, z5, z6⟩ := HS.out.cells) | (go_at_call 13; (with_reducible refine (core_Scalar.calls _ _ _ (sc_eq _)).mono ?_); rintro e w4 ⟨rfl, q1⟩; have HS := Aside0.mk (HS.out.quiet q1.below); clear q1; (try clear z0 z1 z2 z3 z4 z5 z6); obtain ⟨z0, z1, z2, z3, z4, z5, z6⟩ := HS.out.cells))
   go_ret
   exact HS.out.done rfl
 rw [if_pos c35] at h
 subst c35
 cases h1 : ckCb nd d
 ·rw [if_neg (by rw [h1]; decide)] at h
  obtain ⟨rfl, rfl, rfl⟩ := some3 h
  clear h
  go_enter Try.func66, Try.ntmps66
  go_wp2_with (first | (go_at_call 47; (with_reducible refine (chk_count g nd d mp u w0 _ HS.out.isk HS.out.bel HIN.out).mono ?_); rintro e w2 ⟨rfl, q1, q2, q3⟩; rw [h1]; have HS := Aside0.mk (HS.out.call q1 q2 (keep_wide q3 _)); clear q1 q2 q3; (try clear z0 z1 z2 z3 z4 z5 z6); obtain ⟨z0, z1, z2, z3, z4, z5, z6⟩ := HS.out.cells))
  go_ret
  exact HS.out.done rfl
 rw [if_pos h1] at h
 cases hs : core_shape.v x1 x2 x3.length x4.length x5.length 1 false false false
 ·rw [if_neg (by unfold ckSh; rw [hs]; decide)] at h
  obtain ⟨rfl, rfl, rfl⟩ := some3 h
  clear h
  go_enter Try.func66, Try.ntmps66
  go_wp2_with (first | (go_at_call 47; (with_reducible refine (chk_count g nd d mp u w0 _ HS.out.isk HS.out.bel HIN.out).mono ?_); rintro e w2 ⟨rfl, q1, q2, q3⟩; rw [h1]; have HS := Aside0.mk (HS.out.call q1 q2 (keep_wide q3 _)); clear q1 q2 q3; (try clear z0 z1 z2 z3 z4 z5 z6); obtain ⟨z0, z1, z2, z3, z4, z5, z6⟩ := HS.out.cells) | (go_at_call 48; (with_reducible refine (core_shape.run _ _ _ _ _ _ _ _ _ _ _ _ _ _ _ _ _ _).mono ?_); rintro e w3 ⟨rfl, q1⟩; rw [hs]; have HS := Aside0.mk (HS.out.quiet q1); clear q1; (try clear z0 z1 z2 z3 z4 z5 z6); obtain ⟨z0, z1, z2, z3, z4, z5, z6⟩ := HS.out.cells))
  go_ret
  exact HS.out.done rfl
 rw [if_pos (by unfold ckSh; exact hs)] at h
 have hl := sh_len (x := ⟨35, x1, x2, ⟨x3, x4⟩, x5, x6⟩) (n := 1) hs
 (try dsimp only at hl)
 obtain ⟨ad, B3, e3, B4, e4, B5, e5, ea, Y, D⟩ := at_kid0 H5.out (by omega)
 subst ea
 have hl0 : (0 : Int) < x5.length := by omega
 clear hl
 (try simp only [ckKid] at h)
 generalize hy : rd_T34 x5 0 = y at h Y D
 clear hy
 obtain ⟨y0, y1, y2, ⟨y3, y4⟩, y5, y6⟩ := y
 (try dsimp only at h)
 have Y := Aside0.mk Y
 have D := Aside0.mk D
 have hin2 := cb_in HIN.out h1
 have hwd : wrap64 (d + 1) = d + 1 := wrap_d HIN.out.2.2.1 HIN.out.2.2.2
 have HIN2 : Aside0 (ckInb (nd + 1) (d + 1)) := ⟨⟨hin2.1.1, hin2.1.2.1, by have := hin2.1.2.2.1; omega, by have := hin2.2; omega⟩⟩
 clear hin2
 unfold ckBt at h
 (try dsimp only at h)
 cases h2 : ckCb (nd + 1) (d + 1)
 ·simp only [h2, Bool.false_and, Option.some.injEq] at h
  obtain ⟨rfl, rfl, rfl⟩ := some3 (congrArg some h)
  go_enter Try.func66, Try.ntmps66
  go_wp2_with (first | (go_at_call 47; (with_reducible refine (chk_count g nd d mp u w0 _ HS.out.isk HS.out.bel HIN.out).mono ?_); rintro e w2 ⟨rfl, q1, q2, q3⟩; rw [h1]; have HS := Aside0.mk (HS.out.call q1 q2 (keep_wide q3 _)); clear q1 q2 q3; (try clear z0 z1 z2 z3 z4 z5 z6); obtain ⟨z0, z1, z2, z3, z4, z5, z6⟩ := HS.out.cells) | (go_at_call 48; (with_reducible refine (core_shape.run _ _ _ _ _ _ _ _ _ _ _ _ _ _ _ _ _ _).mono ?_); rintro e w3 ⟨rfl, q1⟩; rw [hs]; have HS := Aside0.mk (HS.out.quiet q1); clear q1; (try clear z0 z1 z2 z3 z4 z5 z6); obtain ⟨z0, z1, z2, z3, z4, z5, z6⟩ := HS.out.cells; obtain ⟨v0, v1, v2, v3, v4, v5, v6⟩ := (Y.out.to HS.out.bel).cells; have f0 := blk_frozen HS.out.box 0; have f1 := blk_frozen HS.out.box 1; have f2 := blk_frozen HS.out.box 2; have f3 := blk_frozen HS.out.box 3; have f4 := blk_frozen HS.out.box 4; have f5 := blk_frozen HS.out.box 5; have f6 := blk_frozen HS.out.box 6) | (go_at_call 47; (with_reducible refine (chk_count g (nd + 1) (d + 1) mp u w0 _ (HS.out.store7 (.int .i64 y0) (.int .i64 y1) (.string y2) (.slice B3 y3.length e3) (.slice B4 y4.length e4) (.slice B5 y5.length e5) (.int .i64 y6)).isk (HS.out.store7 (.int .i64 y0) (.int .i64 y1) (.string y2) (.slice B3 y3.length e3) (.slice B4 y4.length e4) (.slice B5 y5.length e5) (.int .i64 y6)).bel HIN2.out).mono ?_); rintro e w6 ⟨rfl, q1, q2, q3⟩; rw [h2]; have HS := Aside0.mk ((HS.out.store7 (.int .i64 y0) (.int .i64 y1) (.string y2) (.slice B3 y3.length e3) (.slice B4 y4.length e4) (.slice B5 y5.length e5) (.int .i64 y6)).call q1 q2 (keep_wide q3 _)); clear q1 q2 q3; clear z0 z1 z2 z3 z4 z5 z6; obtain ⟨z0, z1, z2, z3, z4, z5, z6⟩ := HS.out.cells) | (go_at_call 48; (with_reducible refine (core_shape.run _ _ _ _ _ _ _ _ _ _ _ _ _ _ _ _ _ _).mono ?_); rintro e w3 ⟨rfl, q1⟩; rw [hs2]; have HS := Aside0.mk (HS.out.quiet q1); clear q1; (try clear z0 z1 z2 z3 z4 z5 z6); obtain ⟨z0, z1, z2, z3, z4, z5, z6⟩ := HS.out.cells))
  go_ret
  exact HS.out.done rfl
 cases c21 : (y0 == 21)
 ·simp only [h2, c21, Bool.false_and, Bool.true_and, Option.some.injEq] at h
  obtain ⟨rfl, rfl, rfl⟩ := some3 (congrArg some h)
  go_enter Try.func66, Try.ntmps66
  go_wp2_with (first | (go_at_call 47; (with_reducible refine (chk_count g nd d mp u w0 _ HS.out.isk HS.out.bel HIN.out).mono ?_); rintro e w2 ⟨rfl, q1, q2, q3⟩; rw [h1]; have HS := Aside0.mk (HS.out.call q1 q2 (keep_wide q3 _)); clear q1 q2 q3; (try clear z0 z1 z2 z3 z4 z5 z6); obtain ⟨z0, z1, z2, z3, z4, z5, z6⟩ := HS.out.cells) | (go_at_call 48; (with_reducible refine (core_shape.run _ _ _ _ _ _ _ _ _ _ _ _ _ _ _ _ _ _).mono ?_); rintro e w3 ⟨rfl, q1⟩; rw [hs]; have HS := Aside0.mk (HS.out.quiet q1); clear q1; (try clear z0 z1 z2 z3 z4 z5 z6); obtain ⟨z0, z1, z2, z3, z4, z5, z6⟩ := HS.out.cells; obtain ⟨v0, v1, v2, v3, v4, v5, v6⟩ := (Y.out.to HS.out.bel).cells; have f0 := blk_frozen HS.out.box 0; have f1 := blk_frozen HS.out.box 1; have f2 := blk_frozen HS.out.box 2; have f3 := blk_frozen HS.out.box 3; have f4 := blk_frozen HS.out.box 4; have f5 := blk_frozen HS.out.box 5; have f6 := blk_frozen HS.out.box 6) | (go_at_call 47; (with_reducible refine (chk_count g (nd + 1) (d + 1) mp u w0 _ (HS.out.store7 (.int .i64 y0) (.int .i64 y1) (.string y2) (.slice B3 y3.length e3) (.slice B4 y4.length e4) (.slice B5 y5.length e5) (.int .i64 y6)).isk (HS.out.store7 (.int .i64 y0) (.int .i64 y1) (.string y2) (.slice B3 y3.length e3) (.slice B4 y4.length e4) (.slice B5 y5.length e5) (.int .i64 y6)).bel HIN2.out).mono ?_); rintro e w6 ⟨rfl, q1, q2, q3⟩; rw [h2]; have HS := Aside0.mk ((HS.out.store7 (.int .i64 y0) (.int .i64 y1) (.string y2) (.slice B3 y3.length e3) (.slice B4 y4.length e4) (.slice B5 y5.length e5) (.int .i64 y6)).call q1 q2 (keep_wide q3 _)); clear q1 q2 q3; clear z0 z1 z2 z3 z4 z5 z6; obtain ⟨z0, z1, z2, z3, z4, z5, z6⟩ := HS.out.cells) | (go_at_call 48; (with_reducible refine (core_shape.run _ _ _ _ _ _ _ _ _ _ _ _ _ _ _ _ _ _).mono ?_); rintro e w3 ⟨rfl, q1⟩; rw [hs2]; have HS := Aside0.mk (HS.out.quiet q1); clear q1; (try clear z0 z1 z2 z3 z4 z5 z6); obtain ⟨z0, z1, z2, z3, z4, z5, z6⟩ := HS.out.cells))
  go_ret
  exact HS.out.done rfl
 cases hs2 : core_shape.v y1 y2 y3.length y4.length y5.length 0 true false false
 ·simp only [ckSh, h2, c21, hs2, Bool.false_and, Bool.true_and, Option.some.injEq] at h
  obtain ⟨rfl, rfl, rfl⟩ := some3 (congrArg some h)
  go_enter Try.func66, Try.ntmps66
  go_wp2_with (first | (go_at_call 47; (with_reducible refine (chk_count g nd d mp u w0 _ HS.out.isk HS.out.bel HIN.out).mono ?_); rintro e w2 ⟨rfl, q1, q2, q3⟩; rw [h1]; have HS := Aside0.mk (HS.out.call q1 q2 (keep_wide q3 _)); clear q1 q2 q3; (try clear z0 z1 z2 z3 z4 z5 z6); obtain ⟨z0, z1, z2, z3, z4, z5, z6⟩ := HS.out.cells) | (go_at_call 48; (with_reducible refine (core_shape.run _ _ _ _ _ _ _ _ _ _ _ _ _ _ _ _ _ _).mono ?_); rintro e w3 ⟨rfl, q1⟩; rw [hs]; have HS := Aside0.mk (HS.out.quiet q1); clear q1; (try clear z0 z1 z2 z3 z4 z5 z6); obtain ⟨z0, z1, z2, z3, z4, z5, z6⟩ := HS.out.cells; obtain ⟨v0, v1, v2, v3, v4, v5, v6⟩ := (Y.out.to HS.out.bel).cells; have f0 := blk_frozen HS.out.box 0; have f1 := blk_frozen HS.out.box 1; have f2 := blk_frozen HS.out.box 2; have f3 := blk_frozen HS.out.box 3; have f4 := blk_frozen HS.out.box 4; have f5 := blk_frozen HS.out.box 5; have f6 := blk_frozen HS.out.box 6) | (go_at_call 47; (with_reducible refine (chk_count g (nd + 1) (d + 1) mp u w0 _ (HS.out.store7 (.int .i64 y0) (.int .i64 y1) (.string y2) (.slice B3 y3.length e3) (.slice B4 y4.length e4) (.slice B5 y5.length e5) (.int .i64 y6)).isk (HS.out.store7 (.int .i64 y0) (.int .i64 y1) (.string y2) (.slice B3 y3.length e3) (.slice B4 y4.length e4) (.slice B5 y5.length e5) (.int .i64 y6)).bel HIN2.out).mono ?_); rintro e w6 ⟨rfl, q1, q2, q3⟩; rw [h2]; have HS := Aside0.mk ((HS.out.store7 (.int .i64 y0) (.int .i64 y1) (.string y2) (.slice B3 y3.length e3) (.slice B4 y4.length e4) (.slice B5 y5.length e5) (.int .i64 y6)).call q1 q2 (keep_wide q3 _)); clear q1 q2 q3; clear z0 z1 z2 z3 z4 z5 z6; obtain ⟨z0, z1, z2, z3, z4, z5, z6⟩ := HS.out.cells) | (go_at_call 48; (with_reducible refine (core_shape.run _ _ _ _ _ _ _ _ _ _ _ _ _ _ _ _ _ _).mono ?_); rintro e w3 ⟨rfl, q1⟩; rw [hs2]; have HS := Aside0.mk (HS.out.quiet q1); clear q1; (try clear z0 z1 z2 z3 z4 z5 z6); obtain ⟨z0, z1, z2, z3, z4, z5, z6⟩ := HS.out.cells))
  go_ret
  exact HS.out.done rfl
 ·simp only [ckSh, h2, c21, hs2, Bool.false_and, Bool.true_and, Option.some.injEq] at h
  obtain ⟨rfl, rfl, rfl⟩ := some3 (congrArg some h)
  go_enter Try.func66, Try.ntmps66
  go_wp2_with (first | (go_at_call 47; (with_reducible refine (chk_count g nd d mp u w0 _ HS.out.isk HS.out.bel HIN.out).mono ?_); rintro e w2 ⟨rfl, q1, q2, q3⟩; rw [h1]; have HS := Aside0.mk (HS.out.call q1 q2 (keep_wide q3 _)); clear q1 q2 q3; (try clear z0 z1 z2 z3 z4 z5 z6); obtain ⟨z0, z1, z2, z3, z4, z5, z6⟩ := HS.out.cells) | (go_at_call 48; (with_reducible refine (core_shape.run _ _ _ _ _ _ _ _ _ _ _ _ _ _ _ _ _ _).mono ?_); rintro e w3 ⟨rfl, q1⟩; rw [hs]; have HS := Aside0.mk (HS.out.quiet q1); clear q1; (try clear z0 z1 z2 z3 z4 z5 z6); obtain ⟨z0, z1, z2, z3, z4, z5, z6⟩ := HS.out.cells; obtain ⟨v0, v1, v2, v3, v4, v5, v6⟩ := (Y.out.to HS.out.bel).cells; have f0 := blk_frozen HS.out.box 0; have f1 := blk_frozen HS.out.box 1; have f2 := blk_frozen HS.out.box 2; have f3 := blk_frozen HS.out.box 3; have f4 := blk_frozen HS.out.box 4; have f5 := blk_frozen HS.out.box 5; have f6 := blk_frozen HS.out.box 6) | (go_at_call 47; (with_reducible refine (chk_count g (nd + 1) (d + 1) mp u w0 _ (HS.out.store7 (.int .i64 y0) (.int .i64 y1) (.string y2) (.slice B3 y3.length e3) (.slice B4 y4.length e4) (.slice B5 y5.length e5) (.int .i64 y6)).isk (HS.out.store7 (.int .i64 y0) (.int .i64 y1) (.string y2) (.slice B3 y3.length e3) (.slice B4 y4.length e4) (.slice B5 y5.length e5) (.int .i64 y6)).bel HIN2.out).mono ?_); rintro e w6 ⟨rfl, q1, q2, q3⟩; rw [h2]; have HS := Aside0.mk ((HS.out.store7 (.int .i64 y0) (.int .i64 y1) (.string y2) (.slice B3 y3.length e3) (.slice B4 y4.length e4) (.slice B5 y5.length e5) (.int .i64 y6)).call q1 q2 (keep_wide q3 _)); clear q1 q2 q3; clear z0 z1 z2 z3 z4 z5 z6; obtain ⟨z0, z1, z2, z3, z4, z5, z6⟩ := HS.out.cells) | (go_at_call 48; (with_reducible refine (core_shape.run _ _ _ _ _ _ _ _ _ _ _ _ _ _ _ _ _ _).mono ?_); rintro e w3 ⟨rfl, q1⟩; rw [hs2]; have HS := Aside0.mk (HS.out.quiet q1); clear q1; (try clear z0 z1 z2 z3 z4 z5 z6); obtain ⟨z0, z1, z2, z3, z4, z5, z6⟩ := HS.out.cells) | (go_at_call 13; (with_reducible refine (core_Scalar.calls _ _ _ (sc_eq _)).mono ?_); rintro e w4 ⟨rfl, q1⟩; have HS := Aside0.mk (HS.out.quiet q1.below); clear q1; (try clear z0 z1 z2 z3 z4 z5 z6); obtain ⟨z0, z1, z2, z3, z4, z5, z6⟩ := HS.out.cells))
  go_ret
  exact HS.out.done rfl
set_option maxHeartbeats 4000000 in
set_option maxRecDepth 100000 in
theorem tu_step (k : Nat) (ihw : ∀ x nd d u, CkC 68 (twF k x nd d u) x nd d u) (x : S34) (nd d : Int) (u : CkU) : CkC 67 (tuF (k + 1) x nd d u) x nd d u := by
 intro A3 c3 A4 c4 A5 c5 w0 w g mp r nd' u' hd hb hi h
 have hun := Try.underlying34
 have huk := Try.underlying60
 obtain ⟨x0, x1, x2, ⟨x3, x4⟩, x5, x6⟩ := x
 have HS := Aside0.mk (CkS.start #[.int .i64 x0, .int .i64 x1, .string x2, .slice A3 x3.length c3, .slice A4 x4.length c4, .slice A5 x5.length c5, .int .i64 x6] hi hb)
 have HD := Aside0.mk hd
 have H5 := Aside0.mk hd.h5
 have HI0 := Aside0.mk hi
 have HB0 := Aside0.mk hb
 clear hd hi hb
 dsimp only at H5 ⊢
 rw [tuF] at h
 (try dsimp only at h)
 by_cases hin : ckInb nd d ∧ d ≤ 24
 rotate_left 1
 ·rw [if_pos hin] at h; cases h
 rw [if_neg (not_not_intro hin)] at h
 have HIN := Aside0.mk hin.1
 clear hin
 have IHW := Aside0.mk ihw
 clear ihw
 cases hs : core_shape.v x1 x2 x3.length x4.length x5.length 1 false false false
 ·rw [if_pos (by unfold ckSh; exact hs)] at h
  obtain ⟨rfl, rfl, rfl⟩ := some3 h
  clear h
  go_enter Try.func67, Try.ntmps67
  go_wp2_with (first | (go_at_call 48; (with_reducible refine (core_shape.run _ _ _ _ _ _ _ _ _ _ _ _ _ _ _ _ _ _).mono ?_); rintro e w3 ⟨rfl, q1⟩; rw [hs]; have HS := Aside0.mk (HS.out.quiet q1); clear q1; (try clear z0 z1 z2 z3 z4 z5 z6); obtain ⟨z0, z1, z2, z3, z4, z5, z6⟩ := HS.out.cells))
  go_ret
  exact HS.out.done rfl
 rw [if_neg (by unfold ckSh; rw [hs]; decide)] at h
 have hl := sh_len (x := ⟨x0, x1, x2, ⟨x3, x4⟩, x5, x6⟩) (n := 1) hs
 (try dsimp only at hl)
 obtain ⟨ad, B3, e3, B4, e4, B5, e5, ea, Y, D⟩ := at_kid0 H5.out (by omega)
 subst ea
 have hl0 : (0 : Int) < x5.length := by omega
 clear hl
 (try simp only [ckKid] at h)
 generalize hy : rd_T34 x5 0 = y at h Y D
 clear hy
 obtain ⟨y0, y1, y2, ⟨y3, y4⟩, y5, y6⟩ := y
 (try dsimp only at h)
 have Y := Aside0.mk Y
 have D := Aside0.mk D
 have hwd : wrap64 (d + 1) = d + 1 := wrap_d HIN.out.2.2.1 HIN.out.2.2.2
 have IHW := Aside0.mk (IHW.out ⟨y0, y1, y2, ⟨y3, y4⟩, y5, y6⟩ nd (d + 1) u)
 cases ca : (y0 != 21)
 ·cases cb5 : (y1 != 52)
  ·simp only [ca, cb5, Bool.false_and, Bool.or_false, Bool.false_or, Bool.false_eq_true, if_false] at h
   obtain ⟨rfl, rfl, rfl⟩ := some3 h
   clear h
   go_enter Try.func67, Try.ntmps67
   go_wp2_with (first | (go_at_call 48; (with_reducible refine (core_shape.run _ _ _ _ _ _ _ _ _ _ _ _ _ _ _ _ _ _).mono ?_); rintro e w3 ⟨rfl, q1⟩; rw [hs]; have HS := Aside0.mk (HS.out.quiet q1); clear q1; (try clear z0 z1 z2 z3 z4 z5 z6); obtain ⟨z0, z1, z2, z3, z4, z5, z6⟩ := HS.out.cells; obtain ⟨v0, v1, v2, v3, v4, v5, v6⟩ := (Y.out.to HS.out.bel).cells))
   go_ret
   exact (HS.out.quiet (below_alloc (Below.refl _ _) _)).done rfl
  cases cc : (y1 != 53)
  ·simp only [ca, cb5, cc, Bool.true_and, Bool.or_false, Bool.false_or, Bool.false_eq_true, if_false] at h
   obtain ⟨rfl, rfl, rfl⟩ := some3 h
   clear h
   go_enter Try.func67, Try.ntmps67
   go_wp2_with (first | (go_at_call 48; (with_reducible refine (core_shape.run _ _ _ _ _ _ _ _ _ _ _ _ _ _ _ _ _ _).mono ?_); rintro e w3 ⟨rfl, q1⟩; rw [hs]; have HS := Aside0.mk (HS.out.quiet q1); clear q1; (try clear z0 z1 z2 z3 z4 z5 z6); obtain ⟨z0, z1, z2, z3, z4, z5, z6⟩ := HS.out.cells; obtain ⟨v0, v1, v2, v3, v4, v5, v6⟩ := (Y.out.to HS.out.bel).cells))
   go_ret
   exact (HS.out.quiet (below_alloc (Below.refl _ _) _)).done rfl
  ·simp only [ca, cb5, cc, Bool.true_and, Bool.false_or, if_true] at h
   have HF := Aside0.mk h
   clear h
   go_enter Try.func67, Try.ntmps67
   go_wp2_with (first | (go_at_call 48; (with_reducible refine (core_shape.run _ _ _ _ _ _ _ _ _ _ _ _ _ _ _ _ _ _).mono ?_); rintro e w3 ⟨rfl, q1⟩; rw [hs]; have HS := Aside0.mk (HS.out.quiet q1); clear q1; (try clear z0 z1 z2 z3 z4 z5 z6); obtain ⟨z0, z1, z2, z3, z4, z5, z6⟩ := HS.out.cells; obtain ⟨v0, v1, v2, v3, v4, v5, v6⟩ := (Y.out.to HS.out.bel).cells) | (go_at_call 68; (with_reducible refine (IHW.out _ _ _ _ _ _ w0 _ g mp _ _ _ D.out (HS.out.quiet (below_alloc (Below.refl _ _) _)).bel (HS.out.quiet (below_alloc (Below.refl _ _) _)).isk HF.out).mono ?_); rintro e w5 ⟨rfl, q1, q2, q3⟩; have HS := Aside0.mk ((HS.out.quiet (below_alloc (Below.refl _ _) _)).call q1 q2 q3); clear q1 q2 q3))
   go_ret
   exact HS.out.done rfl
 ·simp only [ca, Bool.true_or, if_true] at h
  have HF := Aside0.mk h
  clear h
  go_enter Try.func67, Try.ntmps67
  go_wp2_with (first | (go_at_call 48; (with_reducible refine (core_shape.run _ _ _ _ _ _ _ _ _ _ _ _ _ _ _ _ _ _).mono ?_); rintro e w3 ⟨rfl, q1⟩; rw [hs]; have HS := Aside0.mk (HS.out.quiet q1); clear q1; (try clear z0 z1 z2 z3 z4 z5 z6); obtain ⟨z0, z1, z2, z3, z4, z5, z6⟩ := HS.out.cells; obtain ⟨v0, v1, v2, v3, v4, v5, v6⟩ := (Y.out.to HS.out.bel).cells) | (go_at_call 68; (with_reducible refine (IHW.out _ _ _ _ _ _ w0 _ g mp _ _ _ D.out (HS.out.quiet (below_alloc (Below.refl _ _) _)).bel (HS.out.quiet (below_alloc (Below.refl _ _) _)).isk HF.out).mono ?_); rintro e w5 ⟨rfl, q1, q2, q3⟩; have HS := Aside0.mk ((HS.out.quiet (below_alloc (Below.refl _ _) _)).call q1 q2 q3); clear q1 q2 q3))
  go_ret
  exact HS.out.done rfl
set_option maxHeartbeats 4000000 in
set_option maxRecDepth 100000 in
theorem mo_step (k : Nat) (ihl : ∀ x nd d u, CkC 65 (laF k x nd d u) x nd d u) (iht : ∀ x nd d u, CkC 67 (tuF k x nd d u) x nd d u) (ihm : ∀ x nd d u, CkC 49 (moF k x nd d u) x nd d u) (x : S34) (nd d : Int) (u : CkU) : CkC 49 (moF (k + 1) x nd d u) x nd d u := by
 intro A3 c3 A4 c4 A5 c5 w0 w g mp r nd' u' hd hb hi h
 have hun := Try.underlying34
 have huk := Try.underlying60
 have IHL := Aside0.mk (ihl x (nd + 1) d u)
 have IHT := Aside0.mk (iht x (nd + 1) d u)
 have IHM := Aside0.mk ihm
 clear ihl iht ihm
 obtain ⟨x0, x1, x2, ⟨x3, x4⟩, x5, x6⟩ := x
 have HS := Aside0.mk (CkS.start #[.int .i64 x0, .int .i64 x1, .string x2, .slice A3 x3.length c3, .slice A4 x4.length c4, .slice A5 x5.length c5, .int .i64 x6] hi hb)
 have HD := Aside0.mk hd
 have H5 := Aside0.mk hd.h5
 have HI0 := Aside0.mk hi
 have HB0 := Aside0.mk hb
 clear hd hi hb
 dsimp only at H5 ⊢
 rw [moF] at h
 (try dsimp only at h)
 by_cases hin : ckInb nd d
 rotate_left 1
 ·rw [if_pos hin] at h; cases h
 rw [if_neg (not_not_intro hin)] at h
 have HIN := Aside0.mk hin
 clear hin
 cases h1 : ckCb nd d
 ·rw [if_pos h1] at h
  obtain ⟨rfl, rfl, rfl⟩ := some3 h
  clear h
  go_enter Try.func49, Try.ntmps49
  go_wp2_with (first | (go_at_call 47; (with_reducible refine (chk_count g nd d mp u w0 _ HS.out.isk HS.out.bel HIN.out).mono ?_); rintro e w2 ⟨rfl, q1, q2, q3⟩; rw [h1]; have HS := Aside0.mk (HS.out.call q1 q2 (keep_wide q3 _)); clear q1 q2 q3; (try clear z0 z1 z2 z3 z4 z5 z6); obtain ⟨z0, z1, z2, z3, z4, z5, z6⟩ := HS.out.cells))
  go_ret
  exact HS.out.done rfl
 rw [if_neg (by rw [h1]; decide)] at h
 by_cases c21 : x0 = 21
 ·rw [if_pos c21] at h
  subst c21
  cases hs : core_shape.v x1 x2 x3.length x4.length x5.length 0 true false false
  ·simp only [ckSh, hs, Bool.false_and] at h
   obtain ⟨rfl, rfl, rfl⟩ := some3 h
   clear h
   go_enter Try.func49, Try.ntmps49
   go_wp2_with (first | (go_at_call 47; (with_reducible refine (chk_count g nd d mp u w0 _ HS.out.isk HS.out.bel HIN.out).mono ?_); rintro e w2 ⟨rfl, q1, q2, q3⟩; rw [h1]; have HS := Aside0.mk (HS.out.call q1 q2 (keep_wide q3 _)); clear q1 q2 q3; (try clear z0 z1 z2 z3 z4 z5 z6); obtain ⟨z0, z1, z2, z3, z4, z5, z6⟩ := HS.out.cells) | (go_at_call 48; (with_reducible refine (core_shape.run _ _ _ _ _ _ _ _ _ _ _ _ _ _ _ _ _ _).mono ?_); rintro e w3 ⟨rfl, q1⟩; rw [hs]; have HS := Aside0.mk (HS.out.quiet q1); clear q1; (try clear z0 z1 z2 z3 z4 z5 z6); obtain ⟨z0, z1, z2, z3, z4, z5, z6⟩ := HS.out.cells))
   go_ret
   exact HS.out.done rfl
  cases hg : decide (x1 ≥ 1)
  ·simp only [ckSh, hs, hg, Bool.false_and, Bool.true_and] at h
   obtain ⟨rfl, rfl, rfl⟩ := some3 h
   clear h
   go_enter Try.func49, Try.ntmps49
   go_wp2_with (first | (go_at_call 47; (with_reducible refine (chk_count g nd d mp u w0 _ HS.out.isk HS.out.bel HIN.out).mono ?_); rintro e w2 ⟨rfl, q1, q2, q3⟩; rw [h1]; have HS := Aside0.mk (HS.out.call q1 q2 (keep_wide q3 _)); clear q1 q2 q3; (try clear z0 z1 z2 z3 z4 z5 z6); obtain ⟨z0, z1, z2, z3, z4, z5, z6⟩ := HS.out.cells) | (go_at_call 48; (with_reducible refine (core_shape.run _ _ _ _ _ _ _ _ _ _ _ _ _ _ _ _ _ _).mono ?_); rintro e w3 ⟨rfl, q1⟩; rw [hs]; have HS := Aside0.mk (HS.out.quiet q1); clear q1; (try clear z0 z1 z2 z3 z4 z5 z6); obtain ⟨z0, z1, z2, z3, z4, z5, z6⟩ := HS.out.cells))
   go_ret
   exact HS.out.done rfl
  ·simp only [ckSh, hs, hg, Bool.false_and, Bool.true_and] at h
   obtain ⟨rfl, rfl, rfl⟩ := some3 h
   clear h
   go_enter Try.func49, Try.ntmps49
   go_wp2_with (first | (go_at_call 47; (with_reducible refine (chk_count g nd d mp u w0 _ HS.out.isk HS.out.bel HIN.out).mono ?_); rintro e w2 ⟨rfl, q1, q2, q3⟩; rw [h1]; have HS := Aside0.mk (HS.out.call q1 q2 (keep_wide q3 _)); clear q1 q2 q3; (try clear z0 z1 z2 z3 z4 z5 z6); obtain ⟨z0, z1, z2, z3, z4, z5, z6⟩ := HS.out.cells) | (go_at_call 48; (with_reducible refine (core_shape.run _ _ _ _ _ _ _ _ _ _ _ _ _ _ _ _ _ _).mono ?_); rintro e w3 ⟨rfl, q1⟩; rw [hs]; have HS := Aside0.mk (HS.out.quiet q1); clear q1; (try clear z0 z1 z2 z3 z4 z5 z6); obtain ⟨z0, z1, z2, z3, z4, z5, z6⟩ := HS.out.cells))
   go_ret
   exact HS.out.done rfl
 rw [if_neg c21] at h
 have c21b : (x0 == 21) = false := by simpa using c21
 clear c21
 by_cases c22 : x0 = 22
 ·rw [if_pos c22] at h
  subst c22
  have HF := Aside0.mk h
  clear h c21b
  go_enter Try.func49, Try.ntmps49
  go_wp2_with (first | (go_at_call 47; (with_reducible refine (chk_count g nd d mp u w0 _ HS.out.isk HS.out.bel HIN.out).mono ?_); rintro e w2 ⟨rfl, q1, q2, q3⟩; rw [h1]; have HS := Aside0.mk (HS.out.call q1 q2 (keep_wide q3 _)); clear q1 q2 q3; (try clear z0 z1 z2 z3 z4 z5 z6); obtain ⟨z0, z1, z2, z3, z4, z5, z6⟩ := HS.out.cells) | (go_at_call 65; (with_reducible refine (IHL.out _ _ _ _ _ _ w0 _ g mp _ _ _ HD.out HS.out.bel HS.out.isk HF.out).mono ?_); rintro e w5 ⟨rfl, q1, q2, q3⟩; have HS := Aside0.mk (HS.out.call q1 q2 q3); clear q1 q2 q3; (try clear z0 z1 z2 z3 z4 z5 z6); obtain ⟨z0, z1, z2, z3, z4, z5, z6⟩ := HS.out.cells))
  go_ret
  exact HS.out.done rfl
 rw [if_neg c22] at h
 have c22b : (x0 == 22) = false := by simpa using c22
 clear c22
 by_cases c30 : x0 = 31 ∨ x0 = 32 ∨ x0 = 33 ∨ x0 = 34
 ·rw [if_pos c30] at h
  cases hs : core_shape.v x1 x2 x3.length x4.length x5.length 1 false false false
  ·rw [if_neg (by unfold ckSh; rw [hs]; decide)] at h
   obtain ⟨rfl, rfl, rfl⟩ := some3 h
   clear h
   rcases c30 with rfl | rfl | rfl | rfl
   all_goals
    go_enter Try.func49, Try.ntmps49
    go_wp2_with (first | (go_at_call 47; (with_reducible refine (chk_count g nd d mp u w0 _ HS.out.isk HS.out.bel HIN.out).mono ?_); rintro e w2 ⟨rfl, q1, q2, q3⟩; rw [h1]; have HS := Aside0.mk (HS.out.call q1 q2 (keep_wide q3 _)); clear q1 q2 q3; (try clear z0 z1 z2 z3 z4 z5 z6); obtain ⟨z0, z1, z2, z3, z4, z5, z6⟩ := HS.out.cells) | (go_at_call 48; (with_reducible refine (core_shape.run _ _ _ _ _ _ _ _ _ _ _ _ _ _ _ _ _ _).mono ?_); rintro e w3 ⟨rfl, q1⟩; rw [hs]; have HS := Aside0.mk (HS.out.quiet q1); clear q1; (try clear z0 z1 z2 z3 z4 z5 z6); obtain ⟨z0, z1, z2, z3, z4, z5, z6⟩ := HS.out.cells))
    go_ret
    exact HS.out.done rfl
  rw [if_pos (by unfold ckSh; exact hs)] at h
  have hl := sh_len (x := ⟨x0, x1, x2, ⟨x3, x4⟩, x5, x6⟩) (n := 1) hs
  (try dsimp only at hl)
  obtain ⟨ad, B3, e3, B4, e4, B5, e5, ea, Y, D⟩ := at_kid0 H5.out (by omega)
  subst ea
  have hl0 : (0 : Int) < x5.length := by omega
  clear hl
  (try simp only [ckKid] at h)
  generalize hy : rd_T34 x5 0 = y at h Y D
  clear hy
  obtain ⟨y0, y1, y2, ⟨y3, y4⟩, y5, y6⟩ := y
  (try dsimp only at h)
  have Y := Aside0.mk Y
  have D := Aside0.mk D
  have hwd : wrap64 (d + 1) = d + 1 := wrap_d HIN.out.2.2.1 HIN.out.2.2.2
  have IHB := Aside0.mk (be_step ⟨y0, y1, y2, ⟨y3, y4⟩, y5, y6⟩ (nd + 1) (d + 1) u)
  have HF := Aside0.mk h
  clear h
  rcases c30 with rfl | rfl | rfl | rfl
  all_goals
   go_enter Try.func49, Try.ntmps49
   go_wp2_with (first | (go_at_call 47; (with_reducible refine (chk_count g nd d mp u w0 _ HS.out.isk HS.out.bel HIN.out).mono ?_); rintro e w2 ⟨rfl, q1, q2, q3⟩; rw [h1]; have HS := Aside0.mk (HS.out.call q1 q2 (keep_wide q3 _)); clear q1 q2 q3; (try clear z0 z1 z2 z3 z4 z5 z6); obtain ⟨z0, z1, z2, z3, z4, z5, z6⟩ := HS.out.cells) | (go_at_call 48; (with_reducible refine (core_shape.run _ _ _ _ _ _ _ _ _ _ _ _ _ _ _ _ _ _).mono ?_); rintro e w3 ⟨rfl, q1⟩; rw [hs]; have HS := Aside0.mk (HS.out.quiet q1); clear q1; (try clear z0 z1 z2 z3 z4 z5 z6); obtain ⟨z0, z1, z2, z3, z4, z5, z6⟩ := HS.out.cells; obtain ⟨v0, v1, v2, v3, v4, v5, v6⟩ := (Y.out.to HS.out.bel).cells) | (go_at_call 66; (with_reducible refine (IHB.out _ _ _ _ _ _ w0 _ g mp _ _ _ D.out HS.out.bel HS.out.isk HF.out).mono ?_); rintro e w5 ⟨rfl, q1, q2, q3⟩; have HS := Aside0.mk (HS.out.call q1 q2 q3); clear q1 q2 q3; (try clear z0 z1 z2 z3 z4 z5 z6); obtain ⟨z0, z1, z2, z3, z4, z5, z6⟩ := HS.out.cells))
   go_ret
   exact HS.out.done rfl
 rw [if_neg c30] at h
 have c31b : (x0 == 31) = false := by simpa using fun e : x0 = 31 => c30 (by omega)
 have c32b : (x0 == 32) = false := by simpa using fun e : x0 = 32 => c30 (by omega)
 have c33b : (x0 == 33) = false := by simpa using fun e : x0 = 33 => c30 (by omega)
 have c34b : (x0 == 34) = false := by simpa using fun e : x0 = 34 => c30 (by omega)
 clear c30
 by_cases c35 : x0 = 35
 ·rw [if_pos c35] at h
  subst c35
  have HF := Aside0.mk h
  clear h c21b c22b c31b c32b c33b c34b
  go_enter Try.func49, Try.ntmps49
  go_wp2_with (first | (go_at_call 47; (with_reducible refine (chk_count g nd d mp u w0 _ HS.out.isk HS.out.bel HIN.out).mono ?_); rintro e w2 ⟨rfl, q1, q2, q3⟩; rw [h1]; have HS := Aside0.mk (HS.out.call q1 q2 (keep_wide q3 _)); clear q1 q2 q3; (try clear z0 z1 z2 z3 z4 z5 z6); obtain ⟨z0, z1, z2, z3, z4, z5, z6⟩ := HS.out.cells) | (go_at_call 67; (with_reducible refine (IHT.out _ _ _ _ _ _ w0 _ g mp _ _ _ HD.out HS.out.bel HS.out.isk HF.out).mono ?_); rintro e w5 ⟨rfl, q1, q2, q3⟩; have HS := Aside0.mk (HS.out.call q1 q2 q3); clear q1 q2 q3; (try clear z0 z1 z2 z3 z4 z5 z6); obtain ⟨z0, z1, z2, z3, z4, z5, z6⟩ := HS.out.cells))
  go_ret
  exact HS.out.done rfl
 rw [if_neg c35] at h
 have c35b : (x0 == 35) = false := by simpa using c35
 clear c35
 by_cases c26 : x0 = 26
 rotate_left 1
 ·rw [if_neg c26] at h
  have c26b : (x0 == 26) = false := by simpa using c26
  obtain ⟨rfl, rfl, rfl⟩ := some3 h
  clear h
  go_enter Try.func49, Try.ntmps49
  go_wp2_with (first | (go_at_call 47; (with_reducible refine (chk_count g nd d mp u w0 _ HS.out.isk HS.out.bel HIN.out).mono ?_); rintro e w2 ⟨rfl, q1, q2, q3⟩; rw [h1]; have HS := Aside0.mk (HS.out.call q1 q2 (keep_wide q3 _)); clear q1 q2 q3; (try clear z0 z1 z2 z3 z4 z5 z6); obtain ⟨z0, z1, z2, z3, z4, z5, z6⟩ := HS.out.cells))
  go_ret
  exact HS.out.done rfl
 rw [if_pos c26] at h
 subst c26
 clear c21b c22b c31b c32b c33b c34b c35b
 cases hs : core_shape.v x1 x2 x3.length x4.length x5.length 1 true false false
 ·rw [if_neg (by unfold ckSh; rw [hs]; decide)] at h
  obtain ⟨rfl, rfl, rfl⟩ := some3 h
  clear h
  go_enter Try.func49, Try.ntmps49
  go_wp2_with (first | (go_at_call 47; (with_reducible refine (chk_count g nd d mp u w0 _ HS.out.isk HS.out.bel HIN.out).mono ?_); rintro e w2 ⟨rfl, q1, q2, q3⟩; rw [h1]; have HS := Aside0.mk (HS.out.call q1 q2 (keep_wide q3 _)); clear q1 q2 q3; (try clear z0 z1 z2 z3 z4 z5 z6); obtain ⟨z0, z1, z2, z3, z4, z5, z6⟩ := HS.out.cells) | (go_at_call 48; (with_reducible refine (core_shape.run _ _ _ _ _ _ _ _ _ _ _ _ _ _ _ _ _ _).mono ?_); rintro e w3 ⟨rfl, q1⟩; rw [hs]; have HS := Aside0.mk (HS.out.quiet q1); clear q1; (try clear z0 z1 z2 z3 z4 z5 z6); obtain ⟨z0, z1, z2, z3, z4, z5, z6⟩ := HS.out.cells))
  go_ret
  exact HS.out.done rfl
 rw [if_pos (by unfold ckSh; exact hs)] at h
 have hl := sh_len (x := ⟨26, x1, x2, ⟨x3, x4⟩, x5, x6⟩) (n := 1) hs
 (try dsimp only at hl)
 obtain ⟨ad, B3, e3, B4, e4, B5, e5, ea, Y, D⟩ := at_kid0 H5.out (by omega)
 subst ea
 have hl0 : (0 : Int) < x5.length := by omega
 clear hl
 (try simp only [ckKid] at h)
 generalize hy : rd_T34 x5 0 = y at h Y D
 clear hy
 obtain ⟨y0, y1, y2, ⟨y3, y4⟩, y5, y6⟩ := y
 (try dsimp only at h)
 have Y := Aside0.mk Y
 have D := Aside0.mk D
 have hwd : wrap64 (d + 1) = d + 1 := wrap_d HIN.out.2.2.1 HIN.out.2.2.2
 cases g0 : decide (x1 ≥ 0)
 ·simp only [g0, Bool.false_and, Bool.false_eq_true, if_false] at h
  obtain ⟨rfl, rfl, rfl⟩ := some3 h
  clear h
  go_enter Try.func49, Try.ntmps49
  go_wp2_with (first | (go_at_call 47; (with_reducible refine (chk_count g nd d mp u w0 _ HS.out.isk HS.out.bel HIN.out).mono ?_); rintro e w2 ⟨rfl, q1, q2, q3⟩; rw [h1]; have HS := Aside0.mk (HS.out.call q1 q2 (keep_wide q3 _)); clear q1 q2 q3; (try clear z0 z1 z2 z3 z4 z5 z6); obtain ⟨z0, z1, z2, z3, z4, z5, z6⟩ := HS.out.cells) | (go_at_call 48; (with_reducible refine (core_shape.run _ _ _ _ _ _ _ _ _ _ _ _ _ _ _ _ _ _).mono ?_); rintro e w3 ⟨rfl, q1⟩; rw [hs]; have HS := Aside0.mk (HS.out.quiet q1); clear q1; (try clear z0 z1 z2 z3 z4 z5 z6); obtain ⟨z0, z1, z2, z3, z4, z5, z6⟩ := HS.out.cells; obtain ⟨v0, v1, v2, v3, v4, v5, v6⟩ := (Y.out.to HS.out.bel).cells))
  go_ret
  exact HS.out.done rfl
 cases g1 : decide (x1 ≤ 4096)
 ·simp only [g0, g1, Bool.true_and, Bool.false_and, Bool.false_eq_true, if_false] at h
  obtain ⟨rfl, rfl, rfl⟩ := some3 h
  clear h
  go_enter Try.func49, Try.ntmps49
  go_wp2_with (first | (go_at_call 47; (with_reducible refine (chk_count g nd d mp u w0 _ HS.out.isk HS.out.bel HIN.out).mono ?_); rintro e w2 ⟨rfl, q1, q2, q3⟩; rw [h1]; have HS := Aside0.mk (HS.out.call q1 q2 (keep_wide q3 _)); clear q1 q2 q3; (try clear z0 z1 z2 z3 z4 z5 z6); obtain ⟨z0, z1, z2, z3, z4, z5, z6⟩ := HS.out.cells) | (go_at_call 48; (with_reducible refine (core_shape.run _ _ _ _ _ _ _ _ _ _ _ _ _ _ _ _ _ _).mono ?_); rintro e w3 ⟨rfl, q1⟩; rw [hs]; have HS := Aside0.mk (HS.out.quiet q1); clear q1; (try clear z0 z1 z2 z3 z4 z5 z6); obtain ⟨z0, z1, z2, z3, z4, z5, z6⟩ := HS.out.cells; obtain ⟨v0, v1, v2, v3, v4, v5, v6⟩ := (Y.out.to HS.out.bel).cells))
  go_ret
  exact HS.out.done rfl
 cases g2 : (y0 == 22)
 ·simp only [g0, g1, g2, Bool.true_and, Bool.false_eq_true, if_false] at h
  obtain ⟨rfl, rfl, rfl⟩ := some3 h
  clear h
  go_enter Try.func49, Try.ntmps49
  go_wp2_with (first | (go_at_call 47; (with_reducible refine (chk_count g nd d mp u w0 _ HS.out.isk HS.out.bel HIN.out).mono ?_); rintro e w2 ⟨rfl, q1, q2, q3⟩; rw [h1]; have HS := Aside0.mk (HS.out.call q1 q2 (keep_wide q3 _)); clear q1 q2 q3; (try clear z0 z1 z2 z3 z4 z5 z6); obtain ⟨z0, z1, z2, z3, z4, z5, z6⟩ := HS.out.cells) | (go_at_call 48; (with_reducible refine (core_shape.run _ _ _ _ _ _ _ _ _ _ _ _ _ _ _ _ _ _).mono ?_); rintro e w3 ⟨rfl, q1⟩; rw [hs]; have HS := Aside0.mk (HS.out.quiet q1); clear q1; (try clear z0 z1 z2 z3 z4 z5 z6); obtain ⟨z0, z1, z2, z3, z4, z5, z6⟩ := HS.out.cells; obtain ⟨v0, v1, v2, v3, v4, v5, v6⟩ := (Y.out.to HS.out.bel).cells))
  go_ret
  exact HS.out.done rfl
 ·simp only [g0, g1, g2, Bool.true_and, if_true] at h
  have IHM := Aside0.mk (IHM.out ⟨y0, y1, y2, ⟨y3, y4⟩, y5, y6⟩ (nd + 1) (d + 1) u)
  have HF := Aside0.mk h
  clear h
  go_enter Try.func49, Try.ntmps49
  go_wp2_with (first | (go_at_call 47; (with_reducible refine (chk_count g nd d mp u w0 _ HS.out.isk HS.out.bel HIN.out).mono ?_); rintro e w2 ⟨rfl, q1, q2, q3⟩; rw [h1]; have HS := Aside0.mk (HS.out.call q1 q2 (keep_wide q3 _)); clear q1 q2 q3; (try clear z0 z1 z2 z3 z4 z5 z6); obtain ⟨z0, z1, z2, z3, z4, z5, z6⟩ := HS.out.cells) | (go_at_call 48; (with_reducible refine (core_shape.run _ _ _ _ _ _ _ _ _ _ _ _ _ _ _ _ _ _).mono ?_); rintro e w3 ⟨rfl, q1⟩; rw [hs]; have HS := Aside0.mk (HS.out.quiet q1); clear q1; (try clear z0 z1 z2 z3 z4 z5 z6); obtain ⟨z0, z1, z2, z3, z4, z5, z6⟩ := HS.out.cells; obtain ⟨v0, v1, v2, v3, v4, v5, v6⟩ := (Y.out.to HS.out.bel).cells) | (go_at_call 49; (with_reducible refine (IHM.out _ _ _ _ _ _ w0 _ g mp _ _ _ D.out HS.out.bel HS.out.isk HF.out).mono ?_); rintro e w5 ⟨rfl, q1, q2, q3⟩; have HS := Aside0.mk (HS.out.call q1 q2 q3); clear q1 q2 q3; (try clear z0 z1 z2 z3 z4 z5 z6); obtain ⟨z0, z1, z2, z3, z4, z5, z6⟩ := HS.out.cells))
  go_ret
  exact HS.out.done rfl
set_option maxHeartbeats 4000000 in
set_option maxRecDepth 100000 in
theorem dy_step (k : Nat) (iht : ∀ x nd d u, CkC 67 (tuF k x nd d u) x nd d u) (ihw : ∀ x nd d u, CkC 68 (twF k x nd d u) x nd d u) (x : S34) (nd d : Int) (u : CkU) : CkC 50 (dyF (k + 1) x nd d u) x nd d u := by
 intro A3 c3 A4 c4 A5 c5 w0 w g mp r nd' u' hd hb hi h
 have hun := Try.underlying34
 have huk := Try.underlying60
 have IHT := Aside0.mk (iht x (nd + 1) d u)
 have IHW := Aside0.mk (ihw x nd d u)
 clear iht ihw
 obtain ⟨x0, x1, x2, ⟨x3, x4⟩, x5, x6⟩ := x
 have HS := Aside0.mk (CkS.start #[.int .i64 x0, .int .i64 x1, .string x2, .slice A3 x3.length c3, .slice A4 x4.length c4, .slice A5 x5.length c5, .int .i64 x6] hi hb)
 have HD := Aside0.mk hd
 have H5 := Aside0.mk hd.h5
 have HI0 := Aside0.mk hi
 have HB0 := Aside0.mk hb
 clear hd hi hb
 dsimp only at H5 ⊢
 rw [dyF] at h
 (try dsimp only at h)
 by_cases hin : ckInb nd d
 rotate_left 1
 ·rw [if_pos hin] at h; cases h
 rw [if_neg (not_not_intro hin)] at h
 have HIN := Aside0.mk hin
 clear hin
 by_cases c25 : x0 = 25
 ·rw [if_pos c25] at h
  subst c25
  cases h1 : ckCb nd d
  ·rw [if_neg (by rw [h1]; decide)] at h
   obtain ⟨rfl, rfl, rfl⟩ := some3 h
   clear h
   go_enter Try.func50, Try.ntmps50
   go_wp2_with (first | (go_at_call 47; (with_reducible refine (chk_count g nd d mp u w0 _ HS.out.isk HS.out.bel HIN.out).mono ?_); rintro e w2 ⟨rfl, q1, q2, q3⟩; rw [h1]; have HS := Aside0.mk (HS.out.call q1 q2 (keep_wide q3 _)); clear q1 q2 q3; (try clear z0 z1 z2 z3 z4 z5 z6); obtain ⟨z0, z1, z2, z3, z4, z5, z6⟩ := HS.out.cells))
   go_ret
   exact HS.out.done rfl
  rw [if_pos h1] at h
  cases hs : core_shape.v x1 x2 x3.length x4.length x5.length 1 false false false
  ·rw [if_neg (by unfold ckSh; rw [hs]; decide)] at h
   obtain ⟨rfl, rfl, rfl⟩ := some3 h
   clear h
   go_enter Try.func50, Try.ntmps50
   go_wp2_with (first | (go_at_call 47; (with_reducible refine (chk_count g nd d mp u w0 _ HS.out.isk HS.out.bel HIN.out).mono ?_); rintro e w2 ⟨rfl, q1, q2, q3⟩; rw [h1]; have HS := Aside0.mk (HS.out.call q1 q2 (keep_wide q3 _)); clear q1 q2 q3; (try clear z0 z1 z2 z3 z4 z5 z6); obtain ⟨z0, z1, z2, z3, z4, z5, z6⟩ := HS.out.cells) | (go_at_call 48; (with_reducible refine (core_shape.run _ _ _ _ _ _ _ _ _ _ _ _ _ _ _ _ _ _).mono ?_); rintro e w3 ⟨rfl, q1⟩; rw [hs]; have HS := Aside0.mk (HS.out.quiet q1); clear q1; (try clear z0 z1 z2 z3 z4 z5 z6); obtain ⟨z0, z1, z2, z3, z4, z5, z6⟩ := HS.out.cells))
   go_ret
   exact HS.out.done rfl
  rw [if_pos (by unfold ckSh; exact hs)] at h
  have hl := sh_len (x := ⟨25, x1, x2, ⟨x3, x4⟩, x5, x6⟩) (n := 1) hs
  (try dsimp only at hl)
  obtain ⟨ad, B3, e3, B4, e4, B5, e5, ea, Y, D⟩ := at_kid0 H5.out (by omega)
  subst ea
  have hl0 : (0 : Int) < x5.length := by omega
  clear hl
  (try simp only [ckKid] at h)
  generalize hy : rd_T34 x5 0 = y at h Y D
  clear hy
  obtain ⟨y0, y1, y2, ⟨y3, y4⟩, y5, y6⟩ := y
  (try dsimp only at h)
  have Y := Aside0.mk Y
  have D := Aside0.mk D
  have hwd : wrap64 (d + 1) = d + 1 := wrap_d HIN.out.2.2.1 HIN.out.2.2.2
  have IHB := Aside0.mk (be_step ⟨y0, y1, y2, ⟨y3, y4⟩, y5, y6⟩ (nd + 1) (d + 1) u)
  have HF := Aside0.mk h
  clear h
  go_enter Try.func50, Try.ntmps50
  go_wp2_with (first | (go_at_call 47; (with_reducible refine (chk_count g nd d mp u w0 _ HS.out.isk HS.out.bel HIN.out).mono ?_); rintro e w2 ⟨rfl, q1, q2, q3⟩; rw [h1]; have HS := Aside0.mk (HS.out.call q1 q2 (keep_wide q3 _)); clear q1 q2 q3; (try clear z0 z1 z2 z3 z4 z5 z6); obtain ⟨z0, z1, z2, z3, z4, z5, z6⟩ := HS.out.cells) | (go_at_call 48; (with_reducible refine (core_shape.run _ _ _ _ _ _ _ _ _ _ _ _ _ _ _ _ _ _).mono ?_); rintro e w3 ⟨rfl, q1⟩; rw [hs]; have HS := Aside0.mk (HS.out.quiet q1); clear q1; (try clear z0 z1 z2 z3 z4 z5 z6); obtain ⟨z0, z1, z2, z3, z4, z5, z6⟩ := HS.out.cells; obtain ⟨v0, v1, v2, v3, v4, v5, v6⟩ := (Y.out.to HS.out.bel).cells) | (go_at_call 66; (with_reducible refine (IHB.out _ _ _ _ _ _ w0 _ g mp _ _ _ D.out HS.out.bel HS.out.isk HF.out).mono ?_); rintro e w5 ⟨rfl, q1, q2, q3⟩; have HS := Aside0.mk (HS.out.call q1 q2 q3); clear q1 q2 q3; (try clear z0 z1 z2 z3 z4 z5 z6); obtain ⟨z0, z1, z2, z3, z4, z5, z6⟩ := HS.out.cells))
  go_ret
  exact HS.out.done rfl
 rw [if_neg c25] at h
 have c25b : (x0 == 25) = false := by simpa using c25
 clear c25
 by_cases c35 : x0 = 35
 ·rw [if_pos c35] at h
  subst c35
  clear c25b
  cases h1 : ckCb nd d
  ·rw [if_neg (by rw [h1]; decide)] at h
   obtain ⟨rfl, rfl, rfl⟩ := some3 h
   clear h
   go_enter Try.func50, Try.ntmps50
   go_wp2_with (first | (go_at_call 47; (with_reducible refine (chk_count g nd d mp u w0 _ HS.out.isk HS.out.bel HIN.out).mono ?_); rintro e w2 ⟨rfl, q1, q2, q3⟩; rw [h1]; have HS := Aside0.mk (HS.out.call q1 q2 (keep_wide q3 _)); clear q1 q2 q3; (try clear z0 z1 z2 z3 z4 z5 z6); obtain ⟨z0, z1, z2, z3, z4, z5, z6⟩ := HS.out.cells))
   go_ret
   exact HS.out.done rfl
  ·rw [if_pos h1] at h
   have HF := Aside0.mk h
   clear h
   go_enter Try.func50, Try.ntmps50
   go_wp2_with (first | (go_at_call 47; (with_reducible refine (chk_count g nd d mp u w0 _ HS.out.isk HS.out.bel HIN.out).mono ?_); rintro e w2 ⟨rfl, q1, q2, q3⟩; rw [h1]; have HS := Aside0.mk (HS.out.call q1 q2 (keep_wide q3 _)); clear q1 q2 q3; (try clear z0 z1 z2 z3 z4 z5 z6); obtain ⟨z0, z1, z2, z3, z4, z5, z6⟩ := HS.out.cells) | (go_at_call 67; (with_reducible refine (IHT.out _ _ _ _ _ _ w0 _ g mp _ _ _ HD.out HS.out.bel HS.out.isk HF.out).mono ?_); rintro e w5 ⟨rfl, q1, q2, q3⟩; have HS := Aside0.mk (HS.out.call q1 q2 q3); clear q1 q2 q3; (try clear z0 z1 z2 z3 z4 z5 z6); obtain ⟨z0, z1, z2, z3, z4, z5, z6⟩ := HS.out.cells))
   go_ret
   exact HS.out.done rfl
 rw [if_neg c35] at h
 have c35b : (x0 == 35) = false := by simpa using c35
 clear c35
 have HF := Aside0.mk h
 clear h
 go_enter Try.func50, Try.ntmps50
 go_wp2_with (first | (go_at_call 68; (with_reducible refine (IHW.out _ _ _ _ _ _ w0 _ g mp _ _ _ HD.out HS.out.bel HS.out.isk HF.out).mono ?_); rintro e w5 ⟨rfl, q1, q2, q3⟩; have HS := Aside0.mk (HS.out.call q1 q2 q3); clear q1 q2 q3; (try clear z0 z1 z2 z3 z4 z5 z6); obtain ⟨z0, z1, z2, z3, z4, z5, z6⟩ := HS.out.cells))
 go_ret
 exact HS.out.done rfl
theorem use_look {w0 w : World} {g : Nat} {nd : Int} {mp : Value} {l r : Bool} (h : CkUse w0 w g nd mp (some (l, r))) :
  (Instr.lookup 58 mp (.int .i64 3) false).run Try.prog w = .ok (.bool l) w ∧ (Instr.lookup 58 mp (.int .i64 4) false).run Try.prog w = .ok (.bool r) w := by
 obtain ⟨b, n, D, rfl, h1, h2, hown, h3, h4, h5, h6⟩ := h
 have look : ∀ (i : Int) (c : Bool), (Lit.int .i64 i).wf = true → D.atKey (.int .i64 i) (.lit (.bool false)) = .lit (.bool c) → (Instr.lookup 58 (.map (some b)) (.int .i64 i) false).run Try.prog w = .ok (.bool c) w := by
  intro i c hw hat
  obtain ⟨v, ps, hrun, hv⟩ := hown.lookup (Maps.int_keyed Try.underlying3) Try.underlying58 (z := .bool false) rfl (plainElem_bool Try.underlying4 false) (Maps.keyOf_int_mk Try.underlying3 hw)
  rw [hat] at hv
  unfold plainElem at hv
  rw [Try.underlying4] at hv
  cases v <;> simp at hv
  obtain ⟨rfl, _⟩ := hv
  exact hrun
 exact ⟨look 3 l (by decide) h5, look 4 r (by decide) h6⟩
theorem use_map {w0 w : World} {g : Nat} {nd : Int} {mp : Value} {u : CkU} (h : CkUse w0 w g nd mp u) : ∃ mm, mp = .map mm := by
 cases u with
 | none => exact ⟨none, h⟩
 | some q =>
  obtain ⟨l, r⟩ := q
  obtain ⟨b, n, D, rfl, _⟩ := h
  exact ⟨some b, rfl⟩
theorem CkI.drewN {w0 w : World} {g : Nat} {nd : Int} {mp : Value} {u : CkU} (h : CkI w0 w g nd mp u) (n : Nat) : CkI w0 (w.drewN n) g nd mp u := ⟨h.blk, h.ge, h.use.kept2 (Int.le_refl _) (fun _ _ _ _ => rfl)⟩
theorem la_open {w0 w1 w : World} {g gb : Nat} {bx : Array Value} {nd : Int} {mp : Value} {u : CkU} (h : CkS w0 w1 w g gb bx nd mp u) (hn : 0 ≤ nd) :
  CkI w0 ((w.alloc (.map #[] 0)).setCell ⟨g, 1, none⟩ (.map (some w.heap.size))) g nd (.map (some w.heap.size)) (some (false, false)) ∧ Below w0.heap.size w0 ((w.alloc (.map #[] 0)).setCell ⟨g, 1, none⟩ (.map (some w.heap.size))) ∧ KeepBut w ((w.alloc (.map #[] 0)).setCell ⟨g, 1, none⟩ (.map (some w.heap.size))) g none ∧ ((w.alloc (.map #[] 0)).setCell ⟨g, 1, none⟩ (.map (some w.heap.size))).heap[gb]? = some (.cells bx 34 (0, 0)) := by
 have hb : Below w.heap.size w (w.alloc (.map #[] 0)) := below_alloc (Below.refl _ _) _
 have hlt := (Array.getElem?_eq_some_iff.1 h.isk.blk).1
 have hk : KeepBut w ((w.alloc (.map #[] 0)).setCell ⟨g, 1, none⟩ (.map (some w.heap.size))) g none := KeepBut.set_ (KeepBut.of_below hb g none) _ _
 refine ⟨⟨by simpa using blk_set (blk_below h.isk.blk hb) 1 (.map (some w.heap.size)), h.isk.ge, w.heap.size, 0, .map [], rfl, h.bel.size, by omega, ?_, by omega, Maps.isMap_empty, rfl, rfl⟩, below_set (h.bel.trans (hb.mono h.bel.size)) h.isk.ge, hk, hk.blk h.box h.ne (by simp)⟩
 obtain ⟨es, clock, hm, F, hs, hD⟩ := World.ownsMap_made w Try.prog 3 (plainElem (H := CkH) Try.prog 4)
 exact ⟨es, clock, (Below.heap_setCell _ ⟨g, 1, none⟩ _ _ (by intro e; have e : w.heap.size = g := e; omega)).trans hm, F, hs, hD⟩
theorem la_close {w0 w1 w W' : World} {g gb : Nat} {bx : Array Value} {nd nd' : Int} {mp : Value} {u u' : CkU} (h : CkS w0 w1 w g gb bx nd mp u) (hle : nd ≤ nd')
  (hi : CkI w0 W' g nd' (.map (some w.heap.size)) u') (hb : Below w0.heap.size w0 W') (hk : KeepBut w W' g none) :
  CkI w0 (W'.setCell ⟨g, 1, none⟩ mp) g nd' mp u ∧ Below w0.heap.size w0 (W'.setCell ⟨g, 1, none⟩ mp) ∧ KeepBut w1 (W'.setCell ⟨g, 1, none⟩ mp) g (ckMb mp) ∧ (W'.setCell ⟨g, 1, none⟩ mp).heap[gb]? = some (.cells bx 34 (0, 0)) := by
 have hk2 : KeepBut w (W'.setCell ⟨g, 1, none⟩ mp) g none := KeepBut.set_ hk _ _
 exact ⟨⟨by simpa using blk_set hi.blk 1 mp, hi.ge, h.isk.use.kept hle hk2⟩, below_set hb hi.ge, h.keep.trans (keep_wide hk2 _) (.inl rfl), hk2.blk h.box h.ne (by simp)⟩
set_option maxHeartbeats 4000000 in
set_option maxRecDepth 100000 in
theorem la_step (k : Nat) (ihe : ∀ x nd d u, CkC 37 (exF k x nd d u) x nd d u) (x : S34) (nd d : Int) (u : CkU) : CkC 65 (laF (k + 1) x nd d u) x nd d u := by
 intro A3 c3 A4 c4 A5 c5 w0 w g mp r nd' u' hd hb hi h
 have hun := Try.underlying34
 have huk := Try.underlying60
 obtain ⟨x0, x1, x2, ⟨x3, x4⟩, x5, x6⟩ := x
 have HS := Aside0.mk (CkS.start #[.int .i64 x0, .int .i64 x1, .string x2, .slice A3 x3.length c3, .slice A4 x4.length c4, .slice A5 x5.length c5, .int .i64 x6] hi hb)
 have HD := Aside0.mk hd
 have H5 := Aside0.mk hd.h5
 have HI0 := Aside0.mk hi
 have HB0 := Aside0.mk hb
 clear hd hi hb
 dsimp only at H5 ⊢
 rw [laF] at h
 (try dsimp only at h)
 by_cases hin : ckInb nd d ∧ d ≤ 24
 rotate_left 1
 ·rw [if_pos hin] at h; cases h
 rw [if_neg (not_not_intro hin)] at h
 have HIN := Aside0.mk hin.1
 clear hin
 have IHE := Aside0.mk ihe
 clear ihe
 cases hs : core_shape.v x1 x2 x3.length x4.length x5.length 1 false false false
 ·rw [if_pos (by unfold ckSh; exact hs)] at h
  obtain ⟨rfl, rfl, rfl⟩ := some3 h
  clear h
  go_enter Try.func65, Try.ntmps65
  go_wp2_with (first | (go_at_call 48; (with_reducible refine (core_shape.run _ _ _ _ _ _ _ _ _ _ _ _ _ _ _ _ _ _).mono ?_); rintro e w3 ⟨rfl, q1⟩; rw [hs]; have HS := Aside0.mk (HS.out.quiet q1); clear q1; (try clear z0 z1 z2 z3 z4 z5 z6); obtain ⟨z0, z1, z2, z3, z4, z5, z6⟩ := HS.out.cells))
  go_ret
  exact HS.out.done rfl
 rw [if_neg (by unfold ckSh; rw [hs]; decide)] at h
 have hl := sh_len (x := ⟨x0, x1, x2, ⟨x3, x4⟩, x5, x6⟩) (n := 1) hs
 (try dsimp only at hl)
 obtain ⟨ad, B3, e3, B4, e4, B5, e5, ea, Y, D⟩ := at_kid0 H5.out (by omega)
 subst ea
 have hl0 : (0 : Int) < x5.length := by omega
 clear hl
 (try simp only [ckKid] at h)
 generalize hy : rd_T34 x5 0 = y at h Y D
 clear hy
 obtain ⟨y0, y1, y2, ⟨y3, y4⟩, y5, y6⟩ := y
 (try dsimp only at h)
 have Y := Aside0.mk Y
 have D := Aside0.mk D
 have hwd : wrap64 (d + 1) = d + 1 := wrap_d HIN.out.2.2.1 HIN.out.2.2.2
 have hmm := @run_makeMap Try.prog
 have hum := Try.underlying58
 obtain ⟨⟨ok, nd5, u5⟩, hf, h⟩ := Option.bind_eq_some_iff.1 h
 dsimp only at h
 obtain _ | ⟨ql, qr⟩ := u5
 ·cases h
 dsimp only at h
 by_cases hle : nd5 < nd
 ·rw [if_pos hle] at h; cases h
 rw [if_neg hle] at h
 have HLE : Aside0 (nd ≤ nd5) := ⟨by omega⟩
 clear hle
 have HF := Aside0.mk hf
 clear hf
 have HH := Aside0.mk h
 clear h
 have IHE := Aside0.mk (IHE.out ⟨y0, y1, y2, ⟨y3, y4⟩, y5, y6⟩ nd (d + 1) (some (false, false)))
 obtain ⟨mm, rfl⟩ := use_map HI0.out.use
 by_cases c22 : x0 = 22
 ·have c22b : (x0 == 22) = true := by simpa using c22
  rw [if_pos c22] at HH
  clear c22
  cases ok
  all_goals
   have h := HH.out
   simp only [Bool.false_and, Bool.true_and, Bool.and_false, Bool.and_true, if_true, if_false] at h
   obtain ⟨rfl, rfl, rfl⟩ := some3 h
   clear h
   clear HH
   go_enter Try.func65, Try.ntmps65
   go_wp2_with (first | (go_at_call 48; (with_reducible refine (core_shape.run _ _ _ _ _ _ _ _ _ _ _ _ _ _ _ _ _ _).mono ?_); rintro e w3 ⟨rfl, q1⟩; rw [hs]; have HS := Aside0.mk (HS.out.quiet q1); clear q1; (try clear z0 z1 z2 z3 z4 z5 z6); obtain ⟨z0, z1, z2, z3, z4, z5, z6⟩ := HS.out.cells; have HO := Aside0.mk (la_open HS.out HIN.out.1); clear z0 z1 z2 z3 z4 z5 z6; have gc1 : w3.cell? ⟨g, 1, none⟩ = some (.map mm) := (blk_cell HS.out.isk.blk 1).trans rfl; have ga1 : (w3.alloc (.map #[] 0)).cell? ⟨g, 1, none⟩ = some (.map mm) := (blk_cell (blk_alloc HS.out.isk.blk _) 1).trans rfl; have gf1 := blk_frozen (blk_alloc HS.out.isk.blk (.map #[] 0)) 1; have z5 := (blk_cell HO.out.2.2.2 5).trans rfl; obtain ⟨v0, v1, v2, v3, v4, v5, v6⟩ := (Y.out.to HO.out.2.1).cells) | (go_at_call 37; (with_reducible refine (IHE.out _ _ _ _ _ _ w0 _ g _ _ _ _ D.out HO.out.2.1 HO.out.1 HF.out).mono ?_); rintro e w5 ⟨rfl, q1, q2, q3⟩; have HC := Aside0.mk (And.intro q1 (And.intro q2 (HO.out.2.2.1.trans q3 (.inr ⟨_, rfl, Nat.le_refl _⟩)))); clear q1 q2 q3 gc1 ga1 gf1 z5 v0 v1 v2 v3 v4 v5 v6; have gc2 : w5.cell? ⟨g, 1, none⟩ = some (.map (some w3.heap.size)) := (blk_cell HC.out.1.blk 1).trans rfl; have gf2 := blk_frozen HC.out.1.blk 1; have lk3 := fun n => (use_look (HC.out.1.drewN n).use).1; have lk4 := fun n => (use_look (HC.out.1.drewN n).use).2; have HZ := Aside0.mk (fun n => la_close HS.out HLE.out (HC.out.1.drewN n) (pw_below_drewN HC.out.2.1 n) (keep_drewN HC.out.2.2 n)); have z0 : ∀ n, ((w5.drewN n).setCell ⟨g, 1, none⟩ (.map mm)).cell? ⟨w.heap.size, 0, none⟩ = some (.int .i64 x0) := fun n => (blk_cell (HZ.out n).2.2.2 0).trans rfl))
   go_quiet (fail)
   go_wp2_with (fail)
   go_ret
   exact ⟨rfl, (HZ.out nq).1, (HZ.out nq).2.1, (HZ.out nq).2.2.1⟩
 ·have c22b : (x0 == 22) = false := by simpa using c22
  rw [if_neg c22] at HH
  clear c22
  cases ok
  ·skip
   have h := HH.out
   simp only [Bool.false_and, Bool.true_and, Bool.and_false, Bool.and_true, if_true, if_false] at h
   obtain ⟨rfl, rfl, rfl⟩ := some3 h
   clear h
   clear HH
   go_enter Try.func65, Try.ntmps65
   go_wp2_with (first | (go_at_call 48; (with_reducible refine (core_shape.run _ _ _ _ _ _ _ _ _ _ _ _ _ _ _ _ _ _).mono ?_); rintro e w3 ⟨rfl, q1⟩; rw [hs]; have HS := Aside0.mk (HS.out.quiet q1); clear q1; (try clear z0 z1 z2 z3 z4 z5 z6); obtain ⟨z0, z1, z2, z3, z4, z5, z6⟩ := HS.out.cells; have HO := Aside0.mk (la_open HS.out HIN.out.1); clear z0 z1 z2 z3 z4 z5 z6; have gc1 : w3.cell? ⟨g, 1, none⟩ = some (.map mm) := (blk_cell HS.out.isk.blk 1).trans rfl; have ga1 : (w3.alloc (.map #[] 0)).cell? ⟨g, 1, none⟩ = some (.map mm) := (blk_cell (blk_alloc HS.out.isk.blk _) 1).trans rfl; have gf1 := blk_frozen (blk_alloc HS.out.isk.blk (.map #[] 0)) 1; have z5 := (blk_cell HO.out.2.2.2 5).trans rfl; obtain ⟨v0, v1, v2, v3, v4, v5, v6⟩ := (Y.out.to HO.out.2.1).cells) | (go_at_call 37; (with_reducible refine (IHE.out _ _ _ _ _ _ w0 _ g _ _ _ _ D.out HO.out.2.1 HO.out.1 HF.out).mono ?_); rintro e w5 ⟨rfl, q1, q2, q3⟩; have HC := Aside0.mk (And.intro q1 (And.intro q2 (HO.out.2.2.1.trans q3 (.inr ⟨_, rfl, Nat.le_refl _⟩)))); clear q1 q2 q3 gc1 ga1 gf1 z5 v0 v1 v2 v3 v4 v5 v6; have gc2 : w5.cell? ⟨g, 1, none⟩ = some (.map (some w3.heap.size)) := (blk_cell HC.out.1.blk 1).trans rfl; have gf2 := blk_frozen HC.out.1.blk 1; have lk3 := fun n => (use_look (HC.out.1.drewN n).use).1; have lk4 := fun n => (use_look (HC.out.1.drewN n).use).2; have HZ := Aside0.mk (fun n => la_close HS.out HLE.out (HC.out.1.drewN n) (pw_below_drewN HC.out.2.1 n) (keep_drewN HC.out.2.2 n)); have z0 : ∀ n, ((w5.drewN n).setCell ⟨g, 1, none⟩ (.map mm)).cell? ⟨w.heap.size, 0, none⟩ = some (.int .i64 x0) := fun n => (blk_cell (HZ.out n).2.2.2 0).trans rfl))
   go_quiet (fail)
   go_wp2_with (fail)
   go_ret
   exact ⟨rfl, (HZ.out nq).1, (HZ.out nq).2.1, (HZ.out nq).2.2.1⟩
  cases ql
  all_goals
   have h := HH.out
   simp only [Bool.false_and, Bool.true_and, Bool.and_false, Bool.and_true, if_true, if_false] at h
   obtain ⟨rfl, rfl, rfl⟩ := some3 h
   clear h
   clear HH
   go_enter Try.func65, Try.ntmps65
   go_wp2_with (first | (go_at_call 48; (with_reducible refine (core_shape.run _ _ _ _ _ _ _ _ _ _ _ _ _ _ _ _ _ _).mono ?_); rintro e w3 ⟨rfl, q1⟩; rw [hs]; have HS := Aside0.mk (HS.out.quiet q1); clear q1; (try clear z0 z1 z2 z3 z4 z5 z6); obtain ⟨z0, z1, z2, z3, z4, z5, z6⟩ := HS.out.cells; have HO := Aside0.mk (la_open HS.out HIN.out.1); clear z0 z1 z2 z3 z4 z5 z6; have gc1 : w3.cell? ⟨g, 1, none⟩ = some (.map mm) := (blk_cell HS.out.isk.blk 1).trans rfl; have ga1 : (w3.alloc (.map #[] 0)).cell? ⟨g, 1, none⟩ = some (.map mm) := (blk_cell (blk_alloc HS.out.isk.blk _) 1).trans rfl; have gf1 := blk_frozen (blk_alloc HS.out.isk.blk (.map #[] 0)) 1; have z5 := (blk_cell HO.out.2.2.2 5).trans rfl; obtain ⟨v0, v1, v2, v3, v4, v5, v6⟩ := (Y.out.to HO.out.2.1).cells) | (go_at_call 37; (with_reducible refine (IHE.out _ _ _ _ _ _ w0 _ g _ _ _ _ D.out HO.out.2.1 HO.out.1 HF.out).mono ?_); rintro e w5 ⟨rfl, q1, q2, q3⟩; have HC := Aside0.mk (And.intro q1 (And.intro q2 (HO.out.2.2.1.trans q3 (.inr ⟨_, rfl, Nat.le_refl _⟩)))); clear q1 q2 q3 gc1 ga1 gf1 z5 v0 v1 v2 v3 v4 v5 v6; have gc2 : w5.cell? ⟨g, 1, none⟩ = some (.map (some w3.heap.size)) := (blk_cell HC.out.1.blk 1).trans rfl; have gf2 := blk_frozen HC.out.1.blk 1; have lk3 := fun n => (use_look (HC.out.1.drewN n).use).1; have lk4 := fun n => (use_look (HC.out.1.drewN n).use).2; have HZ := Aside0.mk (fun n => la_close HS.out HLE.out (HC.out.1.drewN n) (pw_below_drewN HC.out.2.1 n) (keep_drewN HC.out.2.2 n)); have z0 : ∀ n, ((w5.drewN n).setCell ⟨g, 1, none⟩ (.map mm)).cell? ⟨w.heap.size, 0, none⟩ = some (.int .i64 x0) := fun n => (blk_cell (HZ.out n).2.2.2 0).trans rfl))
   go_quiet (fail)
   go_wp2_with (fail)
   go_ret
   exact ⟨rfl, (HZ.out nq).1, (HZ.out nq).2.1, (HZ.out nq).2.2.1⟩
theorem nil_none (w : World) : (Go.binOp .eql 58 (.map none) (.map none)).run Try.prog w = Result.ok (.bool true) w := by rfl
theorem nil_some (b : Nat) (w : World) : (Go.binOp .eql 58 (.map (some b)) (.map none)).run Try.prog w = Result.ok (.bool false) w := by rfl
theorem ex_put {w0 w1 w w6 : World} {g gb b n : Nat} {bx : Array Value} {nd K : Int} {q : Bool × Bool} {D : DataW CkH} (h : CkS w0 w1 w g gb bx (nd + 1) (.map (some b)) (some q)) (h1 : w0.heap.size ≤ b) (h2 : b ≠ g) (h3 : (n : Int) ≤ nd) (h4 : Maps.IsMap D)
  (h5 : D.atKey (.int .i64 3) (.lit (.bool false)) = .lit (.bool q.1)) (h6 : D.atKey (.int .i64 4) (.lit (.bool false)) = .lit (.bool q.2)) (hK : K = 3 ∨ K = 4) (hown : w6.ownsMap Try.prog 3 (plainElem Try.prog 4) b (n + 1) (D.put (.int .i64 K) (.lit (.bool true)))) (hg : w.grownBy w6 (some b)) :
  CkI w0 w6 g (nd + 1) (.map (some b)) (some (ckSetU K q)) ∧ Below w0.heap.size w0 w6 ∧ KeepBut w1 w6 g (some b) := by
 obtain ⟨l, r⟩ := q
 refine ⟨⟨blk_grown h.isk.blk hg (fun e => h2 (Option.some.inj e).symm), h.isk.ge, b, n + 1, _, rfl, h1, h2, hown, by omega, h4.put _ _, ?_, ?_⟩, ?_, h.keep.trans (KeepBut.of_grown hg g) (.inl rfl)⟩
 ·rcases hK with rfl | rfl
  ·exact Maps.atKey_put_same h4 (show WideAt.IsKeyLit (.int .i64 3) from trivial) _ _
  ·exact (Maps.atKey_put_other (by simp) _ _).trans h5
 ·rcases hK with rfl | rfl
  ·exact (Maps.atKey_put_other (by simp) _ _).trans h6
  ·exact Maps.atKey_put_same h4 (show WideAt.IsKeyLit (.int .i64 4) from trivial) _ _
 ·exact ⟨hg.os.trans h.bel.os, hg.tape.trans h.bel.tape, hg.output.trans h.bel.output, Nat.le_trans h.bel.size hg.size, fun i hi => (hg.block i (Nat.lt_of_lt_of_le hi h.bel.size) (fun e => by have := Option.some.inj e; omega)).trans (h.bel.block i hi)⟩
set_option maxHeartbeats 4000000 in
set_option maxRecDepth 100000 in
theorem ex_step (k : Nat) (ihm : ∀ x nd d u, CkC 49 (moF k x nd d u) x nd d u) (ihd : ∀ x nd d u, CkC 50 (dyF k x nd d u) x nd d u) (ihe : ∀ x nd d u, CkC 37 (exF k x nd d u) x nd d u) (x : S34) (nd d : Int) (u : CkU) : CkC 37 (exF (k + 1) x nd d u) x nd d u := by
 intro A3 c3 A4 c4 A5 c5 w0 w g mp r nd' u' hd hb hi h
 have hun := Try.underlying34
 have huk := Try.underlying60
 have IHM := Aside0.mk ihm
 have IHD := Aside0.mk ihd
 have IHE := Aside0.mk ihe
 clear ihm ihd ihe
 obtain ⟨x0, x1, x2, ⟨x3, x4⟩, x5, x6⟩ := x
 have HS := Aside0.mk (CkS.start #[.int .i64 x0, .int .i64 x1, .string x2, .slice A3 x3.length c3, .slice A4 x4.length c4, .slice A5 x5.length c5, .int .i64 x6] hi hb)
 have HD := Aside0.mk hd
 have H5 := Aside0.mk hd.h5
 have HI0 := Aside0.mk hi
 have HB0 := Aside0.mk hb
 clear hd hi hb
 dsimp only at H5 ⊢
 rw [exF.eq_def] at h
 (try dsimp only at h)
 by_cases hin : ckInb nd d
 rotate_left 1
 ·rw [if_pos hin] at h; cases h
 rw [if_neg (not_not_intro hin)] at h
 have HIN := Aside0.mk hin
 clear hin
 cases h1 : ckCb nd d
 ·rw [if_pos h1] at h
  obtain ⟨rfl, rfl, rfl⟩ := some3 h
  clear h
  go_enter Try.func37, Try.ntmps37
  go_wp2_with (first | (go_at_call 47; (with_reducible refine (chk_count g nd d mp u w0 _ HS.out.isk HS.out.bel HIN.out).mono ?_); rintro e w2 ⟨rfl, q1, q2, q3⟩; rw [h1]; have HS := Aside0.mk (HS.out.call q1 q2 (keep_wide q3 _)); clear q1 q2 q3; (try clear z0 z1 z2 z3 z4 z5 z6); obtain ⟨z0, z1, z2, z3, z4, z5, z6⟩ := HS.out.cells))
  go_ret
  exact HS.out.done rfl
 rw [if_neg (by rw [h1]; decide)] at h
 by_cases c1 : x0 = 1
 ·rw [if_pos c1] at h
  subst c1
  cases hs : core_shape.v x1 x2 x3.length x4.length x5.length 0 false false true
  ·rw [if_neg (by unfold ckSh; rw [hs]; decide)] at h
   obtain ⟨rfl, rfl, rfl⟩ := some3 h
   clear h
   go_enter Try.func37, Try.ntmps37
   go_wp2_with (first | (go_at_call 47; (with_reducible refine (chk_count g nd d mp u w0 _ HS.out.isk HS.out.bel HIN.out).mono ?_); rintro e w2 ⟨rfl, q1, q2, q3⟩; rw [h1]; have HS := Aside0.mk (HS.out.call q1 q2 (keep_wide q3 _)); clear q1 q2 q3; (try clear z0 z1 z2 z3 z4 z5 z6); obtain ⟨z0, z1, z2, z3, z4, z5, z6⟩ := HS.out.cells) | (go_at_call 48; (with_reducible refine (core_shape.run _ _ _ _ _ _ _ _ _ _ _ _ _ _ _ _ _ _).mono ?_); rintro e w3 ⟨rfl, q1⟩; rw [hs]; have HS := Aside0.mk (HS.out.quiet q1); clear q1; (try clear z0 z1 z2 z3 z4 z5 z6); obtain ⟨z0, z1, z2, z3, z4, z5, z6⟩ := HS.out.cells))
   go_ret
   exact HS.out.done rfl
  ·rw [if_pos (by unfold ckSh; exact hs)] at h
   obtain ⟨bb, hL, h⟩ := Option.bind_eq_some_iff.1 h
   have HL := Aside0.mk hL
   clear hL
   obtain ⟨rfl, rfl, rfl⟩ := some3 h
   clear h
   go_enter Try.func37, Try.ntmps37
   go_wp2_with (first | (go_at_call 47; (with_reducible refine (chk_count g nd d mp u w0 _ HS.out.isk HS.out.bel HIN.out).mono ?_); rintro e w2 ⟨rfl, q1, q2, q3⟩; rw [h1]; have HS := Aside0.mk (HS.out.call q1 q2 (keep_wide q3 _)); clear q1 q2 q3; (try clear z0 z1 z2 z3 z4 z5 z6); obtain ⟨z0, z1, z2, z3, z4, z5, z6⟩ := HS.out.cells) | (go_at_call 48; (with_reducible refine (core_shape.run _ _ _ _ _ _ _ _ _ _ _ _ _ _ _ _ _ _).mono ?_); rintro e w3 ⟨rfl, q1⟩; rw [hs]; have HS := Aside0.mk (HS.out.quiet q1); clear q1; (try clear z0 z1 z2 z3 z4 z5 z6); obtain ⟨z0, z1, z2, z3, z4, z5, z6⟩ := HS.out.cells) | (go_at_call 11; (with_reducible refine (core_Literal.calls k _ _ x3 _ _ x4 _ _ (Kd.C_below HD.out.h3 HS.out.bel) HD.out.l3 (Kd.C_below HD.out.h4 HS.out.bel) HD.out.l4 HL.out).mono ?_); rintro e w4 ⟨rfl, q1⟩; have HS := Aside0.mk (HS.out.quiet q1); clear q1; (try clear z0 z1 z2 z3 z4 z5 z6); obtain ⟨z0, z1, z2, z3, z4, z5, z6⟩ := HS.out.cells))
   go_ret
   exact HS.out.done rfl
 rw [if_neg c1] at h
 have c1b : (x0 == 1) = false := by simpa using c1
 clear c1
 by_cases c2 : x0 = 2
 ·rw [if_pos c2] at h
  subst c2
  clear c1b
  cases hs : core_shape.v x1 x2 x3.length x4.length x5.length 0 false true false
  ·rw [if_neg (by unfold ckSh; rw [hs]; decide)] at h
   obtain ⟨rfl, rfl, rfl⟩ := some3 h
   clear h
   go_enter Try.func37, Try.ntmps37
   go_wp2_with (first | (go_at_call 47; (with_reducible refine (chk_count g nd d mp u w0 _ HS.out.isk HS.out.bel HIN.out).mono ?_); rintro e w2 ⟨rfl, q1, q2, q3⟩; rw [h1]; have HS := Aside0.mk (HS.out.call q1 q2 (keep_wide q3 _)); clear q1 q2 q3; (try clear z0 z1 z2 z3 z4 z5 z6); obtain ⟨z0, z1, z2, z3, z4, z5, z6⟩ := HS.out.cells) | (go_at_call 48; (with_reducible refine (core_shape.run _ _ _ _ _ _ _ _ _ _ _ _ _ _ _ _ _ _).mono ?_); rintro e w3 ⟨rfl, q1⟩; rw [hs]; have HS := Aside0.mk (HS.out.quiet q1); clear q1; (try clear z0 z1 z2 z3 z4 z5 z6); obtain ⟨z0, z1, z2, z3, z4, z5, z6⟩ := HS.out.cells))
   go_ret
   exact HS.out.done rfl
  ·rw [if_pos (by unfold ckSh; exact hs)] at h
   obtain ⟨bb, hL, h⟩ := Option.bind_eq_some_iff.1 h
   have HL := Aside0.mk hL
   clear hL
   obtain ⟨rfl, rfl, rfl⟩ := some3 h
   clear h
   go_enter Try.func37, Try.ntmps37
   go_wp2_with (first | (go_at_call 47; (with_reducible refine (chk_count g nd d mp u w0 _ HS.out.isk HS.out.bel HIN.out).mono ?_); rintro e w2 ⟨rfl, q1, q2, q3⟩; rw [h1]; have HS := Aside0.mk (HS.out.call q1 q2 (keep_wide q3 _)); clear q1 q2 q3; (try clear z0 z1 z2 z3 z4 z5 z6); obtain ⟨z0, z1, z2, z3, z4, z5, z6⟩ := HS.out.cells) | (go_at_call 48; (with_reducible refine (core_shape.run _ _ _ _ _ _ _ _ _ _ _ _ _ _ _ _ _ _).mono ?_); rintro e w3 ⟨rfl, q1⟩; rw [hs]; have HS := Aside0.mk (HS.out.quiet q1); clear q1; (try clear z0 z1 z2 z3 z4 z5 z6); obtain ⟨z0, z1, z2, z3, z4, z5, z6⟩ := HS.out.cells) | (go_at_call 9; (with_reducible refine (core_Name.calls k x2 _ _ HL.out).mono ?_); rintro e w4 ⟨rfl, q1⟩; have HS := Aside0.mk (HS.out.quiet q1.below); clear q1; (try clear z0 z1 z2 z3 z4 z5 z6); obtain ⟨z0, z1, z2, z3, z4, z5, z6⟩ := HS.out.cells))
   go_ret
   exact HS.out.done rfl
 rw [if_neg c2] at h
 have c2b : (x0 == 2) = false := by simpa using c2
 clear c2
 by_cases c34 : x0 = 3 ∨ x0 = 4
 ·rw [if_pos c34] at h
  cases u with
  | none =>
   obtain rfl : mp = .map none := HI0.out.use
   have hnn := nil_none
   obtain ⟨rfl, rfl, rfl⟩ := some3 h
   clear h
   rcases c34 with rfl | rfl
   all_goals
    go_enter Try.func37, Try.ntmps37
    go_wp2_with (first | (go_at_call 47; (with_reducible refine (chk_count g nd d _ _ w0 _ HS.out.isk HS.out.bel HIN.out).mono ?_); rintro e w2 ⟨rfl, q1, q2, q3⟩; rw [h1]; have HS := Aside0.mk (HS.out.call q1 q2 (keep_wide q3 _)); have HK := Aside0.mk ((KeepBut.of_below (below_alloc (Below.refl w.heap.size w) _) g none).trans q3 (.inl rfl)); clear q1 q2 q3; (try clear z0 z1 z2 z3 z4 z5 z6); obtain ⟨z0, z1, z2, z3, z4, z5, z6⟩ := HS.out.cells; have gc1 : w2.cell? ⟨g, 1, none⟩ = some (.map none) := (blk_cell HS.out.isk.blk 1).trans rfl))
    go_ret
    exact HS.out.done rfl
  | some q =>
   obtain ⟨b, n0, D0, rfl, -⟩ : ∃ (b n : Nat) (D : DataW CkH), mp = .map (some b) ∧ True := by
    obtain ⟨l, r⟩ := q
    obtain ⟨b, n, D, e, _⟩ := HI0.out.use
    exact ⟨b, n, D, e, trivial⟩
   have hns := nil_some b
   dsimp only at h
   cases hs : core_shape.v x1 x2 x3.length x4.length x5.length 0 false false false
   ·rw [if_neg (by unfold ckSh; rw [hs]; decide)] at h
    obtain ⟨rfl, rfl, rfl⟩ := some3 h
    clear h
    rcases c34 with rfl | rfl
    all_goals
     go_enter Try.func37, Try.ntmps37
     go_wp2_with (first | (go_at_call 47; (with_reducible refine (chk_count g nd d _ _ w0 _ HS.out.isk HS.out.bel HIN.out).mono ?_); rintro e w2 ⟨rfl, q1, q2, q3⟩; rw [h1]; have HS := Aside0.mk (HS.out.call q1 q2 (keep_wide q3 _)); have HK := Aside0.mk ((KeepBut.of_below (below_alloc (Below.refl w.heap.size w) _) g none).trans q3 (.inl rfl)); clear q1 q2 q3; (try clear z0 z1 z2 z3 z4 z5 z6); obtain ⟨z0, z1, z2, z3, z4, z5, z6⟩ := HS.out.cells; have gc1 : w2.cell? ⟨g, 1, none⟩ = some (.map (some b)) := (blk_cell HS.out.isk.blk 1).trans rfl) | (go_at_call 48; (with_reducible refine (core_shape.run _ _ _ _ _ _ _ _ _ _ _ _ _ _ _ _ _ _).mono ?_); rintro e w3 ⟨rfl, q1⟩; rw [hs]; have HS := Aside0.mk (HS.out.quiet q1); clear q1; (try clear z0 z1 z2 z3 z4 z5 z6); obtain ⟨z0, z1, z2, z3, z4, z5, z6⟩ := HS.out.cells))
     go_ret
     exact HS.out.done rfl
   ·rw [if_pos (by unfold ckSh; exact hs)] at h
    obtain ⟨rfl, rfl, rfl⟩ := some3 h
    clear h
    rcases c34 with rfl | rfl
    all_goals
     go_enter Try.func37, Try.ntmps37
     go_wp2_with (first | (go_at_call 47; (with_reducible refine (chk_count g nd d _ _ w0 _ HS.out.isk HS.out.bel HIN.out).mono ?_); rintro e w2 ⟨rfl, q1, q2, q3⟩; rw [h1]; have HS := Aside0.mk (HS.out.call q1 q2 (keep_wide q3 _)); have HK := Aside0.mk ((KeepBut.of_below (below_alloc (Below.refl w.heap.size w) _) g none).trans q3 (.inl rfl)); clear q1 q2 q3; (try clear z0 z1 z2 z3 z4 z5 z6); obtain ⟨z0, z1, z2, z3, z4, z5, z6⟩ := HS.out.cells; have gc1 : w2.cell? ⟨g, 1, none⟩ = some (.map (some b)) := (blk_cell HS.out.isk.blk 1).trans rfl) | (go_at_call 48; (with_reducible refine (core_shape.run _ _ _ _ _ _ _ _ _ _ _ _ _ _ _ _ _ _).mono ?_); rintro e w3 ⟨rfl, q1⟩; rw [hs]; have HS := Aside0.mk (HS.out.quiet q1); have HK := Aside0.mk (HK.out.trans (KeepBut.of_below q1 g none) (.inl rfl)); clear q1; (try clear z0 z1 z2 z3 z4 z5 z6); obtain ⟨z0, z1, z2, z3, z4, z5, z6⟩ := HS.out.cells; have gc1 : w3.cell? ⟨g, 1, none⟩ = some (.map (some b)) := (blk_cell HS.out.isk.blk 1).trans rfl; obtain ⟨b2, n, D, eb, k1, k2, own, k3, k4, k5, k6⟩ := (show CkUse w0 w3 g nd (.map (some b)) (some (q.1, q.2)) from HI0.out.use.kept (Int.le_refl nd) HK.out); obtain rfl := Option.some.inj (Value.map.inj eb); have KK1 := Aside0.mk k1; have KK2 := Aside0.mk k2; have KK3 := Aside0.mk k3; have KK4 := Aside0.mk k4; have KK5 := Aside0.mk k5; have KK6 := Aside0.mk k6; have OWN := Aside0.mk own; clear eb k1 k2 k3 k4 k5 k6 own))
     go_still_tail 6, (by kernel_rfl)
     change wpList _ _ _ _ _ w3.drew
     have HS := Aside0.mk (HS.out.quiet (below_drew (Below.refl _ _)))
     have OWN := Aside0.mk (OWN.out.drew)
     clear z0 z1 z2 z3 z4 z5 z6 gc1
     generalize w3.drew = w4 at HS OWN ⊢
     go_wp2_with (first | (at_mapUpdate; refine wpList_mapUpdate_own _ rfl _ _ _ 58 rfl 3 4 (Maps.int_keyed Try.underlying3) Try.underlying58 _ b n D rfl OWN.out (by have := KK3.out; have := HIN.out.2.1; unfold maxLen; omega) _ _ _ rfl rfl (Maps.keyOf_int_mk Try.underlying3 (by decide)) _ [] (plainElem_bool Try.underlying4 true) ?_; intro w6 own6 grow6; have HE := Aside0.mk (ex_put HS.out KK1.out KK2.out KK3.out KK4.out KK5.out KK6.out (by decide) own6 grow6); clear own6 grow6))
     go_ret
     exact ⟨rfl, HE.out.1, HE.out.2.1, HE.out.2.2⟩
 rw [if_neg c34] at h
 have c3b : (x0 == 3) = false := by simpa using fun e : x0 = 3 => c34 (by omega)
 have c4b : (x0 == 4) = false := by simpa using fun e : x0 = 4 => c34 (by omega)
 clear c34
 have hwd : wrap64 (d + 1) = d + 1 := wrap_d HIN.out.2.2.1 HIN.out.2.2.2
 by_cases c5 : x0 = 5
 ·rw [if_pos c5] at h
  subst c5
  cases hs : core_shape.v x1 x2 x3.length x4.length x5.length 2 false false false
  ·rw [if_neg (by unfold ckSh; rw [hs]; decide)] at h
   obtain ⟨rfl, rfl, rfl⟩ := some3 h
   clear h
   go_enter Try.func37, Try.ntmps37
   go_wp2_with (first | (go_at_call 47; (with_reducible refine (chk_count g nd d mp u w0 _ HS.out.isk HS.out.bel HIN.out).mono ?_); rintro e w2 ⟨rfl, q1, q2, q3⟩; rw [h1]; have HS := Aside0.mk (HS.out.call q1 q2 (keep_wide q3 _)); clear q1 q2 q3; (try clear z0 z1 z2 z3 z4 z5 z6); obtain ⟨z0, z1, z2, z3, z4, z5, z6⟩ := HS.out.cells) | (go_at_call 48; (with_reducible refine (core_shape.run _ _ _ _ _ _ _ _ _ _ _ _ _ _ _ _ _ _).mono ?_); rintro e w3 ⟨rfl, q1⟩; rw [hs]; have HS := Aside0.mk (HS.out.quiet q1); clear q1; (try clear z0 z1 z2 z3 z4 z5 z6); obtain ⟨z0, z1, z2, z3, z4, z5, z6⟩ := HS.out.cells))
   go_ret
   exact HS.out.done rfl
  rw [if_pos (by unfold ckSh; exact hs)] at h
  have hl := sh_len (x := ⟨5, x1, x2, ⟨x3, x4⟩, x5, x6⟩) (n := 2) hs
  (try dsimp only at hl)
  obtain ⟨ad, B3, e3, B4, e4, B5, e5, ea, Y, D⟩ := at_kid0 H5.out (by omega)
  subst ea
  obtain ⟨ad1, B31, e31, B41, e41, B51, e51, ea1, Y1, D1⟩ := at_kid H5.out 1 (by omega)
  obtain rfl := Option.some.inj ea1
  have hl1 : (1 : Int) < x5.length := by omega
  rw [show 1 * 7 = 7 from rfl, show ((1 : Nat) : Int) = 1 from rfl, show ad.add 7 = ⟨ad.block, ad.off + 7, none⟩ from rfl] at Y1
  rw [show ((1 : Nat) : Int) = 1 from rfl] at D1
  have hl0 : (0 : Int) < x5.length := by omega
  clear hl
  (try simp only [ckKid] at h)
  generalize hy : rd_T34 x5 0 = y at h Y D
  clear hy
  obtain ⟨y0, y1, y2, ⟨y3, y4⟩, y5, y6⟩ := y
  (try dsimp only at h)
  have Y := Aside0.mk Y
  have D := Aside0.mk D
  generalize hy : rd_T34 x5 1 = s at h Y1 D1
  clear hy
  obtain ⟨s0, s1, s2, ⟨s3, s4⟩, s5, s6⟩ := s
  (try dsimp only at h)
  have Y1 := Aside0.mk Y1
  have D1 := Aside0.mk D1
  obtain ⟨⟨ok5, nd5, u5⟩, hf5, h⟩ := Option.bind_eq_some_iff.1 h
  dsimp only at h
  have HF5 := Aside0.mk hf5
  clear hf5
  cases ok5
  all_goals have IHM5 := Aside0.mk (IHM.out ⟨y0, y1, y2, ⟨y3, y4⟩, y5, y6⟩ (nd + 1) (d + 1) u)
  all_goals have IHE6 := Aside0.mk (IHE.out ⟨s0, s1, s2, ⟨s3, s4⟩, s5, s6⟩ nd5 (d + 1) u5)
  ·rw [if_neg (by decide)] at h
   obtain ⟨rfl, rfl, rfl⟩ := some3 h
   clear h
   go_enter Try.func37, Try.ntmps37
   go_wp2_with (first | (go_at_call 47; (with_reducible refine (chk_count g nd d mp u w0 _ HS.out.isk HS.out.bel HIN.out).mono ?_); rintro e w2 ⟨rfl, q1, q2, q3⟩; rw [h1]; have HS := Aside0.mk (HS.out.call q1 q2 (keep_wide q3 _)); clear q1 q2 q3; (try clear z0 z1 z2 z3 z4 z5 z6); obtain ⟨z0, z1, z2, z3, z4, z5, z6⟩ := HS.out.cells) | (go_at_call 48; (with_reducible refine (core_shape.run _ _ _ _ _ _ _ _ _ _ _ _ _ _ _ _ _ _).mono ?_); rintro e w3 ⟨rfl, q1⟩; rw [hs]; have HS := Aside0.mk (HS.out.quiet q1); clear q1; (try clear z0 z1 z2 z3 z4 z5 z6); obtain ⟨z0, z1, z2, z3, z4, z5, z6⟩ := HS.out.cells; (try clear v0 v1 v2 v3 v4 v5 v6); obtain ⟨v0, v1, v2, v3, v4, v5, v6⟩ := (Y.out.to HS.out.bel).cells) | (go_at_call 49; (with_reducible refine (IHM5.out _ _ _ _ _ _ w0 _ g mp _ _ _ D.out HS.out.bel HS.out.isk HF5.out).mono ?_); rintro e w5 ⟨rfl, q1, q2, q3⟩; have HS := Aside0.mk (HS.out.call q1 q2 q3); clear q1 q2 q3; (try clear z0 z1 z2 z3 z4 z5 z6); obtain ⟨z0, z1, z2, z3, z4, z5, z6⟩ := HS.out.cells; (try clear v0 v1 v2 v3 v4 v5 v6); obtain ⟨v0, v1, v2, v3, v4, v5, v6⟩ := (Y1.out.to HS.out.bel).cells; dsimp only at v0 v1 v2 v3 v4 v5 v6))
   go_ret
   exact HS.out.done rfl
  ·rw [if_pos rfl] at h
   have HF6 := Aside0.mk h
   clear h
   go_enter Try.func37, Try.ntmps37
   go_wp2_with (first | (go_at_call 47; (with_reducible refine (chk_count g nd d mp u w0 _ HS.out.isk HS.out.bel HIN.out).mono ?_); rintro e w2 ⟨rfl, q1, q2, q3⟩; rw [h1]; have HS := Aside0.mk (HS.out.call q1 q2 (keep_wide q3 _)); clear q1 q2 q3; (try clear z0 z1 z2 z3 z4 z5 z6); obtain ⟨z0, z1, z2, z3, z4, z5, z6⟩ := HS.out.cells) | (go_at_call 48; (with_reducible refine (core_shape.run _ _ _ _ _ _ _ _ _ _ _ _ _ _ _ _ _ _).mono ?_); rintro e w3 ⟨rfl, q1⟩; rw [hs]; have HS := Aside0.mk (HS.out.quiet q1); clear q1; (try clear z0 z1 z2 z3 z4 z5 z6); obtain ⟨z0, z1, z2, z3, z4, z5, z6⟩ := HS.out.cells; (try clear v0 v1 v2 v3 v4 v5 v6); obtain ⟨v0, v1, v2, v3, v4, v5, v6⟩ := (Y.out.to HS.out.bel).cells) | (go_at_call 49; (with_reducible refine (IHM5.out _ _ _ _ _ _ w0 _ g mp _ _ _ D.out HS.out.bel HS.out.isk HF5.out).mono ?_); rintro e w5 ⟨rfl, q1, q2, q3⟩; have HS := Aside0.mk (HS.out.call q1 q2 q3); clear q1 q2 q3; (try clear z0 z1 z2 z3 z4 z5 z6); obtain ⟨z0, z1, z2, z3, z4, z5, z6⟩ := HS.out.cells; (try clear v0 v1 v2 v3 v4 v5 v6); obtain ⟨v0, v1, v2, v3, v4, v5, v6⟩ := (Y1.out.to HS.out.bel).cells; dsimp only at v0 v1 v2 v3 v4 v5 v6) | (go_at_call 37; (with_reducible refine (IHE6.out _ _ _ _ _ _ w0 _ g mp _ _ _ D1.out HS.out.bel HS.out.isk HF6.out).mono ?_); rintro e w5 ⟨rfl, q1, q2, q3⟩; have HS := Aside0.mk (HS.out.call q1 q2 q3); clear q1 q2 q3; (try clear z0 z1 z2 z3 z4 z5 z6); obtain ⟨z0, z1, z2, z3, z4, z5, z6⟩ := HS.out.cells))
   go_ret
   exact HS.out.done rfl
 rw [if_neg c5] at h
 have c5b : (x0 == 5) = false := by simpa using c5
 clear c5
 by_cases c6 : x0 = 6
 rotate_left 1
 ·rw [if_neg c6] at h
  have c6b : (x0 == 6) = false := by simpa using c6
  obtain ⟨rfl, rfl, rfl⟩ := some3 h
  clear h
  go_enter Try.func37, Try.ntmps37
  go_wp2_with (first | (go_at_call 47; (with_reducible refine (chk_count g nd d mp u w0 _ HS.out.isk HS.out.bel HIN.out).mono ?_); rintro e w2 ⟨rfl, q1, q2, q3⟩; rw [h1]; have HS := Aside0.mk (HS.out.call q1 q2 (keep_wide q3 _)); clear q1 q2 q3; (try clear z0 z1 z2 z3 z4 z5 z6); obtain ⟨z0, z1, z2, z3, z4, z5, z6⟩ := HS.out.cells))
  go_ret
  exact HS.out.done rfl
 rw [if_pos c6] at h
 subst c6
 cases hs : core_shape.v x1 x2 x3.length x4.length x5.length 3 false false false
 ·rw [if_neg (by unfold ckSh; rw [hs]; decide)] at h
  obtain ⟨rfl, rfl, rfl⟩ := some3 h
  clear h
  go_enter Try.func37, Try.ntmps37
  go_wp2_with (first | (go_at_call 47; (with_reducible refine (chk_count g nd d mp u w0 _ HS.out.isk HS.out.bel HIN.out).mono ?_); rintro e w2 ⟨rfl, q1, q2, q3⟩; rw [h1]; have HS := Aside0.mk (HS.out.call q1 q2 (keep_wide q3 _)); clear q1 q2 q3; (try clear z0 z1 z2 z3 z4 z5 z6); obtain ⟨z0, z1, z2, z3, z4, z5, z6⟩ := HS.out.cells) | (go_at_call 48; (with_reducible refine (core_shape.run _ _ _ _ _ _ _ _ _ _ _ _ _ _ _ _ _ _).mono ?_); rintro e w3 ⟨rfl, q1⟩; rw [hs]; have HS := Aside0.mk (HS.out.quiet q1); clear q1; (try clear z0 z1 z2 z3 z4 z5 z6); obtain ⟨z0, z1, z2, z3, z4, z5, z6⟩ := HS.out.cells))
  go_ret
  exact HS.out.done rfl
 rw [if_pos (by unfold ckSh; exact hs)] at h
 have hl := sh_len (x := ⟨6, x1, x2, ⟨x3, x4⟩, x5, x6⟩) (n := 3) hs
 (try dsimp only at hl)
 obtain ⟨ad, B3, e3, B4, e4, B5, e5, ea, Y, D⟩ := at_kid0 H5.out (by omega)
 subst ea
 obtain ⟨ad1, B31, e31, B41, e41, B51, e51, ea1, Y1, D1⟩ := at_kid H5.out 1 (by omega)
 obtain rfl := Option.some.inj ea1
 have hl1 : (1 : Int) < x5.length := by omega
 rw [show 1 * 7 = 7 from rfl, show ((1 : Nat) : Int) = 1 from rfl, show ad.add 7 = ⟨ad.block, ad.off + 7, none⟩ from rfl] at Y1
 rw [show ((1 : Nat) : Int) = 1 from rfl] at D1
 obtain ⟨ad2, B32, e32, B42, e42, B52, e52, ea2, Y2, D2⟩ := at_kid H5.out 2 (by omega)
 obtain rfl := Option.some.inj ea2
 have hl2 : (2 : Int) < x5.length := by omega
 rw [show 2 * 7 = 14 from rfl, show ((2 : Nat) : Int) = 2 from rfl, show ad.add 14 = ⟨ad.block, ad.off + 14, none⟩ from rfl] at Y2
 rw [show ((2 : Nat) : Int) = 2 from rfl] at D2
 have hl0 : (0 : Int) < x5.length := by omega
 clear hl
 (try simp only [ckKid] at h)
 generalize hy : rd_T34 x5 0 = y at h Y D
 clear hy
 obtain ⟨y0, y1, y2, ⟨y3, y4⟩, y5, y6⟩ := y
 (try dsimp only at h)
 have Y := Aside0.mk Y
 have D := Aside0.mk D
 generalize hy : rd_T34 x5 1 = s at h Y1 D1
 clear hy
 obtain ⟨s0, s1, s2, ⟨s3, s4⟩, s5, s6⟩ := s
 (try dsimp only at h)
 have Y1 := Aside0.mk Y1
 have D1 := Aside0.mk D1
 generalize hy : rd_T34 x5 2 = t at h Y2 D2
 clear hy
 obtain ⟨t0, t1, t2, ⟨t3, t4⟩, t5, t6⟩ := t
 (try dsimp only at h)
 have Y2 := Aside0.mk Y2
 have D2 := Aside0.mk D2
 obtain ⟨⟨ok5, nd5, u5⟩, hf5, h⟩ := Option.bind_eq_some_iff.1 h
 dsimp only at h
 have HF5 := Aside0.mk hf5
 clear hf5
 cases ok5
 all_goals have IHD5 := Aside0.mk (IHD.out ⟨y0, y1, y2, ⟨y3, y4⟩, y5, y6⟩ (nd + 1) (d + 1) u)
 all_goals have IHE6 := Aside0.mk (IHE.out ⟨s0, s1, s2, ⟨s3, s4⟩, s5, s6⟩ nd5 (d + 1) u5)
 ·rw [if_neg (by decide)] at h
  obtain ⟨rfl, rfl, rfl⟩ := some3 h
  clear h
  go_enter Try.func37, Try.ntmps37
  go_wp2_with (first | (go_at_call 47; (with_reducible refine (chk_count g nd d mp u w0 _ HS.out.isk HS.out.bel HIN.out).mono ?_); rintro e w2 ⟨rfl, q1, q2, q3⟩; rw [h1]; have HS := Aside0.mk (HS.out.call q1 q2 (keep_wide q3 _)); clear q1 q2 q3; (try clear z0 z1 z2 z3 z4 z5 z6); obtain ⟨z0, z1, z2, z3, z4, z5, z6⟩ := HS.out.cells) | (go_at_call 48; (with_reducible refine (core_shape.run _ _ _ _ _ _ _ _ _ _ _ _ _ _ _ _ _ _).mono ?_); rintro e w3 ⟨rfl, q1⟩; rw [hs]; have HS := Aside0.mk (HS.out.quiet q1); clear q1; (try clear z0 z1 z2 z3 z4 z5 z6); obtain ⟨z0, z1, z2, z3, z4, z5, z6⟩ := HS.out.cells; (try clear v0 v1 v2 v3 v4 v5 v6); obtain ⟨v0, v1, v2, v3, v4, v5, v6⟩ := (Y.out.to HS.out.bel).cells) | (go_at_call 50; (with_reducible refine (IHD5.out _ _ _ _ _ _ w0 _ g mp _ _ _ D.out HS.out.bel HS.out.isk HF5.out).mono ?_); rintro e w5 ⟨rfl, q1, q2, q3⟩; have HS := Aside0.mk (HS.out.call q1 q2 q3); clear q1 q2 q3; (try clear z0 z1 z2 z3 z4 z5 z6); obtain ⟨z0, z1, z2, z3, z4, z5, z6⟩ := HS.out.cells; (try clear v0 v1 v2 v3 v4 v5 v6); obtain ⟨v0, v1, v2, v3, v4, v5, v6⟩ := (Y1.out.to HS.out.bel).cells; dsimp only at v0 v1 v2 v3 v4 v5 v6))
  go_ret
  exact HS.out.done rfl
 rw [if_pos rfl] at h
 obtain ⟨⟨ok6, nd6, u6⟩, hf6, h⟩ := Option.bind_eq_some_iff.1 h
 dsimp only at h
 have HF6 := Aside0.mk hf6
 clear hf6
 cases ok6
 all_goals have IHE7 := Aside0.mk (IHE.out ⟨t0, t1, t2, ⟨t3, t4⟩, t5, t6⟩ nd6 (d + 1) u6)
 ·rw [if_neg (by decide)] at h
  obtain ⟨rfl, rfl, rfl⟩ := some3 h
  clear h
  go_enter Try.func37, Try.ntmps37
  go_wp2_with (first | (go_at_call 47; (with_reducible refine (chk_count g nd d mp u w0 _ HS.out.isk HS.out.bel HIN.out).mono ?_); rintro e w2 ⟨rfl, q1, q2, q3⟩; rw [h1]; have HS := Aside0.mk (HS.out.call q1 q2 (keep_wide q3 _)); clear q1 q2 q3; (try clear z0 z1 z2 z3 z4 z5 z6); obtain ⟨z0, z1, z2, z3, z4, z5, z6⟩ := HS.out.cells) | (go_at_call 48; (with_reducible refine (core_shape.run _ _ _ _ _ _ _ _ _ _ _ _ _ _ _ _ _ _).mono ?_); rintro e w3 ⟨rfl, q1⟩; rw [hs]; have HS := Aside0.mk (HS.out.quiet q1); clear q1; (try clear z0 z1 z2 z3 z4 z5 z6); obtain ⟨z0, z1, z2, z3, z4, z5, z6⟩ := HS.out.cells; (try clear v0 v1 v2 v3 v4 v5 v6); obtain ⟨v0, v1, v2, v3, v4, v5, v6⟩ := (Y.out.to HS.out.bel).cells) | (go_at_call 50; (with_reducible refine (IHD5.out _ _ _ _ _ _ w0 _ g mp _ _ _ D.out HS.out.bel HS.out.isk HF5.out).mono ?_); rintro e w5 ⟨rfl, q1, q2, q3⟩; have HS := Aside0.mk (HS.out.call q1 q2 q3); clear q1 q2 q3; (try clear z0 z1 z2 z3 z4 z5 z6); obtain ⟨z0, z1, z2, z3, z4, z5, z6⟩ := HS.out.cells; (try clear v0 v1 v2 v3 v4 v5 v6); obtain ⟨v0, v1, v2, v3, v4, v5, v6⟩ := (Y1.out.to HS.out.bel).cells; dsimp only at v0 v1 v2 v3 v4 v5 v6) | (go_at_call 37; (with_reducible refine (IHE6.out _ _ _ _ _ _ w0 _ g mp _ _ _ D1.out HS.out.bel HS.out.isk HF6.out).mono ?_); rintro e w5 ⟨rfl, q1, q2, q3⟩; have HS := Aside0.mk (HS.out.call q1 q2 q3); clear q1 q2 q3; (try clear z0 z1 z2 z3 z4 z5 z6); obtain ⟨z0, z1, z2, z3, z4, z5, z6⟩ := HS.out.cells; (try clear v0 v1 v2 v3 v4 v5 v6); obtain ⟨v0, v1, v2, v3, v4, v5, v6⟩ := (Y2.out.to HS.out.bel).cells; dsimp only at v0 v1 v2 v3 v4 v5 v6))
  go_ret
  exact HS.out.done rfl
 ·rw [if_pos rfl] at h
  have HF7 := Aside0.mk h
  clear h
  go_enter Try.func37, Try.ntmps37
  go_wp2_with (first | (go_at_call 47; (with_reducible refine (chk_count g nd d mp u w0 _ HS.out.isk HS.out.bel HIN.out).mono ?_); rintro e w2 ⟨rfl, q1, q2, q3⟩; rw [h1]; have HS := Aside0.mk (HS.out.call q1 q2 (keep_wide q3 _)); clear q1 q2 q3; (try clear z0 z1 z2 z3 z4 z5 z6); obtain ⟨z0, z1, z2, z3, z4, z5, z6⟩ := HS.out.cells) | (go_at_call 48; (with_reducible refine (core_shape.run _ _ _ _ _ _ _ _ _ _ _ _ _ _ _ _ _ _).mono ?_); rintro e w3 ⟨rfl, q1⟩; rw [hs]; have HS := Aside0.mk (HS.out.quiet q1); clear q1; (try clear z0 z1 z2 z3 z4 z5 z6); obtain ⟨z0, z1, z2, z3, z4, z5, z6⟩ := HS.out.cells; (try clear v0 v1 v2 v3 v4 v5 v6); obtain ⟨v0, v1, v2, v3, v4, v5, v6⟩ := (Y.out.to HS.out.bel).cells) | (go_at_call 50; (with_reducible refine (IHD5.out _ _ _ _ _ _ w0 _ g mp _ _ _ D.out HS.out.bel HS.out.isk HF5.out).mono ?_); rintro e w5 ⟨rfl, q1, q2, q3⟩; have HS := Aside0.mk (HS.out.call q1 q2 q3); clear q1 q2 q3; (try clear z0 z1 z2 z3 z4 z5 z6); obtain ⟨z0, z1, z2, z3, z4, z5, z6⟩ := HS.out.cells; (try clear v0 v1 v2 v3 v4 v5 v6); obtain ⟨v0, v1, v2, v3, v4, v5, v6⟩ := (Y1.out.to HS.out.bel).cells; dsimp only at v0 v1 v2 v3 v4 v5 v6) | (go_at_call 37; (with_reducible refine (IHE6.out _ _ _ _ _ _ w0 _ g mp _ _ _ D1.out HS.out.bel HS.out.isk HF6.out).mono ?_); rintro e w5 ⟨rfl, q1, q2, q3⟩; have HS := Aside0.mk (HS.out.call q1 q2 q3); clear q1 q2 q3; (try clear z0 z1 z2 z3 z4 z5 z6); obtain ⟨z0, z1, z2, z3, z4, z5, z6⟩ := HS.out.cells; (try clear v0 v1 v2 v3 v4 v5 v6); obtain ⟨v0, v1, v2, v3, v4, v5, v6⟩ := (Y2.out.to HS.out.bel).cells; dsimp only at v0 v1 v2 v3 v4 v5 v6) | (go_at_call 37; (with_reducible refine (IHE7.out _ _ _ _ _ _ w0 _ g mp _ _ _ D2.out HS.out.bel HS.out.isk HF7.out).mono ?_); rintro e w5 ⟨rfl, q1, q2, q3⟩; have HS := Aside0.mk (HS.out.call q1 q2 q3); clear q1 q2 q3; (try clear z0 z1 z2 z3 z4 z5 z6); obtain ⟨z0, z1, z2, z3, z4, z5, z6⟩ := HS.out.cells))
  go_ret
  exact HS.out.done rfl
theorem chk_all : ∀ k, (∀ x nd d u, CkC 37 (exF k x nd d u) x nd d u) ∧ (∀ x nd d u, CkC 65 (laF k x nd d u) x nd d u) ∧ (∀ x nd d u, CkC 68 (twF k x nd d u) x nd d u) ∧ (∀ x nd d u, CkC 67 (tuF k x nd d u) x nd d u) ∧ (∀ x nd d u, CkC 49 (moF k x nd d u) x nd d u) ∧ (∀ x nd d u, CkC 50 (dyF k x nd d u) x nd d u)
 | 0 => ⟨fun x nd d u => by intro _ _ _ _ _ _ _ _ _ _ _ _ _ _ _ _ h; simp [exF] at h, fun x nd d u => by intro _ _ _ _ _ _ _ _ _ _ _ _ _ _ _ _ h; simp [laF] at h, fun x nd d u => by intro _ _ _ _ _ _ _ _ _ _ _ _ _ _ _ _ h; simp [twF] at h, fun x nd d u => by intro _ _ _ _ _ _ _ _ _ _ _ _ _ _ _ _ h; simp [tuF] at h, fun x nd d u => by intro _ _ _ _ _ _ _ _ _ _ _ _ _ _ _ _ h; simp [moF] at h, fun x nd d u => by intro _ _ _ _ _ _ _ _ _ _ _ _ _ _ _ _ h; simp [dyF] at h⟩
 | k + 1 => by
  obtain ⟨hex, hla, htw, htu, hmo, hdy⟩ := chk_all k
  exact ⟨fun x nd d u => ex_step k hmo hdy hex x nd d u, fun x nd d u => la_step k hex x nd d u, fun x nd d u => tw_step k hla x nd d u, fun x nd d u => tu_step k htw x nd d u, fun x nd d u => mo_step k hla htu hmo x nd d u, fun x nd d u => dy_step k htu htw x nd d u⟩
theorem chk_mono : ∀ k, (∀ x nd d u, LeO (exF k x nd d u) (exF (k + 1) x nd d u)) ∧ (∀ x nd d u, LeO (laF k x nd d u) (laF (k + 1) x nd d u)) ∧ (∀ x nd d u, LeO (twF k x nd d u) (twF (k + 1) x nd d u)) ∧ (∀ x nd d u, LeO (tuF k x nd d u) (tuF (k + 1) x nd d u)) ∧ (∀ x nd d u, LeO (moF k x nd d u) (moF (k + 1) x nd d u)) ∧ (∀ x nd d u, LeO (dyF k x nd d u) (dyF (k + 1) x nd d u))
 | 0 => ⟨fun x nd d u r h => by simp [exF] at h, fun x nd d u r h => by simp [laF] at h, fun x nd d u r h => by simp [twF] at h, fun x nd d u r h => by simp [tuF] at h, fun x nd d u r h => by simp [moF] at h, fun x nd d u r h => by simp [dyF] at h⟩
 | k + 1 => by
  obtain ⟨hex, hla, htw, htu, hmo, hdy⟩ := chk_mono k
  refine ⟨?_, ?_, ?_, ?_, ?_, ?_⟩
  ·intro x nd d u
   cases u
   all_goals unfold exF
   all_goals (try dsimp only)
   repeat' first

   | exact hex _ _ _ _
   | exact hla _ _ _ _
   | exact htw _ _ _ _
   | exact htu _ _ _ _
   | exact hmo _ _ _ _
   | exact hdy _ _ _ _
   | (with_reducible exact LeO.refl _)
   | exact core_Literal.mono _ _ _
   | exact core_Name.mono _ _
   | (with_reducible refine LeO.ite ?_ ?_)
   | (with_reducible refine LeO.bind ?_ (fun _ => ?_))
  ·intro x nd d u
   all_goals unfold laF
   all_goals (try dsimp only)
   repeat' first

   | exact hex _ _ _ _
   | exact hla _ _ _ _
   | exact htw _ _ _ _
   | exact htu _ _ _ _
   | exact hmo _ _ _ _
   | exact hdy _ _ _ _
   | (with_reducible exact LeO.refl _)
   | exact core_Literal.mono _ _ _
   | exact core_Name.mono _ _
   | (with_reducible refine LeO.ite ?_ ?_)
   | (with_reducible refine LeO.bind ?_ (fun _ => ?_))
  ·intro x nd d u
   all_goals unfold twF
   all_goals (try dsimp only)
   repeat' first

   | exact hex _ _ _ _
   | exact hla _ _ _ _
   | exact htw _ _ _ _
   | exact htu _ _ _ _
   | exact hmo _ _ _ _
   | exact hdy _ _ _ _
   | (with_reducible exact LeO.refl _)
   | exact core_Literal.mono _ _ _
   | exact core_Name.mono _ _
   | (with_reducible refine LeO.ite ?_ ?_)
   | (with_reducible refine LeO.bind ?_ (fun _ => ?_))
  ·intro x nd d u
   all_goals unfold tuF
   all_goals (try dsimp only)
   repeat' first

   | exact hex _ _ _ _
   | exact hla _ _ _ _
   | exact htw _ _ _ _
   | exact htu _ _ _ _
   | exact hmo _ _ _ _
   | exact hdy _ _ _ _
   | (with_reducible exact LeO.refl _)
   | exact core_Literal.mono _ _ _
   | exact core_Name.mono _ _
   | (with_reducible refine LeO.ite ?_ ?_)
   | (with_reducible refine LeO.bind ?_ (fun _ => ?_))
  ·intro x nd d u
   all_goals unfold moF
   all_goals (try dsimp only)
   repeat' first

   | exact hex _ _ _ _
   | exact hla _ _ _ _
   | exact htw _ _ _ _
   | exact htu _ _ _ _
   | exact hmo _ _ _ _
   | exact hdy _ _ _ _
   | (with_reducible exact LeO.refl _)
   | exact core_Literal.mono _ _ _
   | exact core_Name.mono _ _
   | (with_reducible refine LeO.ite ?_ ?_)
   | (with_reducible refine LeO.bind ?_ (fun _ => ?_))
  ·intro x nd d u
   all_goals unfold dyF
   all_goals (try dsimp only)
   repeat' first

   | exact hex _ _ _ _
   | exact hla _ _ _ _
   | exact htw _ _ _ _
   | exact htu _ _ _ _
   | exact hmo _ _ _ _
   | exact hdy _ _ _ _
   | (with_reducible exact LeO.refl _)
   | exact core_Literal.mono _ _ _
   | exact core_Name.mono _ _
   | (with_reducible refine LeO.ite ?_ ?_)
   | (with_reducible refine LeO.bind ?_ (fun _ => ?_))
def core_Check.f (k : Nat) (a0_0 : Int) (a0_1 : Int) (a0_2 : ByteArray) (l0_3 : List Int) (l0_4 : List (S52)) (l0_5 : List (S34)) (a0_6 : Int) : Option Int := (exF k ⟨a0_0, a0_1, a0_2, ⟨l0_3, l0_4⟩, l0_5, a0_6⟩ 0 0 none).bind (fun r => some (if r.1 = true then 0 else 1))
theorem core_Check.mono : ∀ a0 a1 a2 a3 a4 a5 a6 k, LeO (core_Check.f k a0 a1 a2 a3 a4 a5 a6) (core_Check.f (k + 1) a0 a1 a2 a3 a4 a5 a6) := by
 intro a0 a1 a2 a3 a4 a5 a6 k
 exact LeO.bind ((chk_mono k).1 _ _ _ _) (fun _ => LeO.refl _)
set_option maxHeartbeats 2000000 in
set_option maxRecDepth 100000 in
theorem core_Check.calls (k : Nat) (a0_0 : Int) (a0_1 : Int) (a0_2 : ByteArray) (A0_3 : Option Addr) (c0_3 : Nat) (l0_3 : List Int) (A0_4 : Option Addr) (c0_4 : Nat) (l0_4 : List (S52)) (A0_5 : Option Addr) (c0_5 : Nat) (l0_5 : List (S34)) (a0_6 : Int) (r : Int) (w : World) (hr0_3 : Kd.C (Kd.int .i64) w A0_3 l0_3.length l0_3) (hc0_3 : l0_3.length ≤ c0_3) (hr0_4 : Kd.C k52 w A0_4 l0_4.length l0_4) (hc0_4 : l0_4.length ≤ c0_4) (hr0_5 : Kd.C k34 w A0_5 l0_5.length l0_5) (hc0_5 : l0_5.length ≤ c0_5) (h : core_Check.f k a0_0 a0_1 a0_2 l0_3 l0_4 l0_5 a0_6 = some r) :
  Calls Try.prog 20 #[.agg #[.int .i64 a0_0, .int .i64 a0_1, .string a0_2, .slice A0_3 l0_3.length c0_3, .slice A0_4 l0_4.length c0_4, .slice A0_5 l0_5.length c0_5, .int .i64 a0_6]] w fun e w' => e = .returned (.int .i64 r) ∧ Below w.heap.size w w' := by
 have hun := Try.underlying34
 have huk := Try.underlying60
 obtain ⟨⟨ok, nd', u'⟩, hf, h⟩ := Option.bind_eq_some_iff.1 h
 have HF := Aside0.mk hf
 have IHE := Aside0.mk ((chk_all k).1 ⟨a0_0, a0_1, a0_2, ⟨l0_3, l0_4⟩, l0_5, a0_6⟩ 0 0 none)
 have HD : Aside0 (CkN w ⟨a0_0, a0_1, a0_2, ⟨l0_3, l0_4⟩, l0_5, a0_6⟩ A0_3 c0_3 A0_4 c0_4 A0_5 c0_5) := ⟨⟨hr0_3, hc0_3, hr0_4, hc0_4, hr0_5, hc0_5⟩⟩
 have HB : Aside0 (Below w.heap.size w ((w.alloc (.cells #[.int .i64 a0_0, .int .i64 a0_1, .string a0_2, .slice A0_3 l0_3.length c0_3, .slice A0_4 l0_4.length c0_4, .slice A0_5 l0_5.length c0_5, .int .i64 a0_6] 34)).alloc (.cells #[.int .i64 0, .map none] 60))) := ⟨below_alloc (below_alloc (Below.refl _ _) _) _⟩
 have HI : Aside0 (CkI w ((w.alloc (.cells #[.int .i64 a0_0, .int .i64 a0_1, .string a0_2, .slice A0_3 l0_3.length c0_3, .slice A0_4 l0_4.length c0_4, .slice A0_5 l0_5.length c0_5, .int .i64 a0_6] 34)).alloc (.cells #[.int .i64 0, .map none] 60)) (w.heap.size + 1) 0 (.map none) none) := ⟨⟨by simpa using blk_new (w.alloc (.cells #[.int .i64 a0_0, .int .i64 a0_1, .string a0_2, .slice A0_3 l0_3.length c0_3, .slice A0_4 l0_4.length c0_4, .slice A0_5 l0_5.length c0_5, .int .i64 a0_6] 34)) (.cells #[.int .i64 0, .map none] 60), by omega, rfl⟩⟩
 clear hr0_3 hc0_3 hr0_4 hc0_4 hr0_5 hc0_5 hf
 cases ok
 all_goals
  obtain rfl := Option.some.inj h
  clear h
  go_enter Try.func20, Try.ntmps20
  go_wp2_with (first | (go_at_call 37; (with_reducible refine (IHE.out _ _ _ _ _ _ w _ (w.heap.size + 1) _ _ _ _ HD.out HB.out HI.out HF.out).mono ?_); rintro e w5 ⟨rfl, q1, q2, q3⟩; have HQ := Aside0.mk q2; clear q1 q2 q3))
  go_ret
  exact ⟨rfl, HQ.out⟩
end Go.Proofs.Ytfblidojoepcpaa.P
