/- Written by a program of this session: the functions that the laws reach, what each comes to, and each law as it is stated, for every input. No condition. -/
import Derived.Test.YtemlommdfmeabaaPx0
import Derived.Test.YtemlommdfmeabaaPx2
import Derived.Test.YtemlommdfmeabaaPx3
import Derived.Test.YtemlommdfmeabaaPx5
namespace Go.Proofs.Ytemlommdfmeabaa.P
open Go.RowKit Go.Proofs.YtemlommdfmeabaaW.PrintWords Go.Proofs.YtemlommdfmeabaaW.PrintLast Go.Proofs.YtemlommdfmeabaaW.PrintMore
attribute [local go_sem] max2_int min2_int max_two min_two max_three min_three max_four min_four   -- for this text's walks alone
set_option linter.unusedVariables false
set_option linter.unusedSimpArgs false
structure BxS (w W : World) (L : List (Nat × Array Value × Nat)) : Prop where
 bel : Below w.heap.size w W
 blk : ∀ p ∈ L, W.heap[p.1]? = some (.cells p.2.1 p.2.2 (0, 0))
 fr : ∀ p ∈ L, w.heap.size ≤ p.1
theorem BxS.step {w W W' : World} {L : List (Nat × Array Value × Nat)} (h : BxS w W L) (hb : Below W.heap.size W W') : BxS w W' L := ⟨below_step h.bel hb, fun p hp => blk_below (h.blk p hp) hb, h.fr⟩
theorem BxS.nil (w : World) : BxS w w [] := ⟨Below.refl _ _, fun _ h => (by cases h), fun _ h => (by cases h)⟩
theorem BxS.cons {w W : World} {L : List (Nat × Array Value × Nat)} (h : BxS w W L) (cs : Array Value) (t : Nat) : BxS w (W.alloc (.cells cs t)) ((W.heap.size, cs, t) :: L) := by
 refine ⟨below_alloc h.bel _, fun p hp => ?_, fun p hp => ?_⟩
 ·rcases List.mem_cons.1 hp with rfl | hp
  ·exact blk_new W (.cells cs t (0, 0))
  ·exact blk_alloc (h.blk p hp) _
 ·rcases List.mem_cons.1 hp with rfl | hp
  ·exact h.bel.size
  ·exact h.fr p hp
theorem BxS.at_ {w W : World} {L : List (Nat × Array Value × Nat)} (h : BxS w W L) (i : Nat) {p : Nat × Array Value × Nat} (hp : L[i]? = some p) : W.heap[p.1]? = some (.cells p.2.1 p.2.2 (0, 0)) := h.blk p (List.mem_of_getElem? hp)
/-- A box of the call's own that nobody needs any more. -/
theorem BxS.drop {w W : World} {p : Nat × Array Value × Nat} {L : List (Nat × Array Value × Nat)} (h : BxS w W (p :: L)) : BxS w W L := ⟨h.bel, fun q hq => h.blk q (List.mem_cons_of_mem _ hq), fun q hq => h.fr q (List.mem_cons_of_mem _ hq)⟩
structure OutS (w W : World) (L : List (Nat × Array Value × Nat)) (go : Nat) (v0 u1 v1 : Value) (s : List Int) (c : List S35) : Prop where
 bx : BxS w W L
 fr : ∀ p ∈ L, p.1 ≠ go
 out : W.heap[go]? = some (.cells #[v0, u1] 25 (0, 0))
 ofr : w.heap.size ≤ go
 r0 : Kd.R (Kd.int .i64) 3 W w.heap.size (fun k => k ≠ go ∧ ∀ p ∈ L, k ≠ p.1) v0 s
 r1 : Kd.R k35 35 W w.heap.size (fun k => some k ≠ v0.ownBlock ∧ k ≠ go ∧ ∀ p ∈ L, k ≠ p.1) v1 c
section
variable {w W W' : World} {L : List (Nat × Array Value × Nat)} {go : Nat} {v0 u1 v1 : Value} {s : List Int} {c : List S35}
theorem OutS.step (h : OutS w W L go v0 u1 v1 s c) (hb : Below W.heap.size W W') : OutS w W' L go v0 u1 v1 s c := ⟨h.bx.step hb, h.fr, blk_below h.out hb, h.ofr, Kd.R_below h.r0 hb, Kd.R_below h.r1 hb⟩
theorem OutS.okf (h : OutS w W L go v0 u1 v1 s c) : ∀ k, W.heap.size ≤ k → (some k ≠ v0.ownBlock ∧ k ≠ go ∧ ∀ p ∈ L, k ≠ p.1) ∧ some k ≠ v1.ownBlock :=
 fun k hk => ⟨⟨Kd.fresh' (Kd.R_lt h.r0) k hk, Kd.freshB h.out k hk, fun p hp => Kd.freshB (h.bx.blk p hp) k hk⟩, Kd.fresh' (Kd.R_lt h.r1) k hk⟩
/-- A box that is made, with a row in it. -/
theorem OutS.mk0 (h : BxS w W L) (hL : L.all (fun p => p.2.2 != 3) = true) (h0 : Kd.R (Kd.int .i64) 3 W w.heap.size (fun _ => True) v0 s) : OutS w (W.alloc (.cells #[v0, .slice none 0 0] 25)) L W.heap.size v0 (.slice none 0 0) (.slice none 0 0) s [] := by
 refine ⟨h.step (below_alloc (Below.refl _ _) _), fun p hp => Nat.ne_of_lt (blk_lt (h.blk p hp)), blk_new W (.cells _ _ (0, 0)), h.bel.size, ?_, Kd.R_nil _ _ _ _ _⟩
 refine Kd.R_alloc (Kd.R_mono (Kd.R_bound h0) (fun k hk => ⟨Nat.ne_of_lt hk.2.2.1, fun p hp he => ?_⟩)) _
 obtain ⟨q, hq, cells, hc⟩ := hk.2.2.2
 have hq2 : q = 3 := by simpa [Kd.int, Kd.scalar] using hq
 rw [he, h.blk p hp] at hc
 injection hc with hc
 injection hc with _ h1 _
 have h3 := List.all_eq_true.1 hL p hp
 rw [h1, hq2] at h3
 exact absurd h3 (by decide)
theorem OutS.put1 (h : OutS w W L go v0 u1 v1 s c) : OutS w (W.setCell ⟨go, 1, none⟩ v1) L go v0 v1 v1 s c := by
 refine ⟨⟨below_set h.bx.bel h.ofr, fun p hp => blk_far (h.bx.blk p hp) (h.fr p hp) _, h.bx.fr⟩, h.fr, blk_put (cs := #[v0, u1]) h.out 1 _ rfl, h.ofr, ?_, ?_⟩
 ·exact Kd.R_far h.r0 (fun k hk => hk.1) _
 ·exact Kd.R_far h.r1 (fun k hk => hk.2.1) _
theorem OutS.grow (h : OutS w W L go v0 u1 v1 s c) {v2 : Value} {c2 : List S35} {W2 : World} (h1 : Kd.R k35 35 W2 w.heap.size (fun k => some k ≠ v0.ownBlock ∧ k ≠ go ∧ ∀ p ∈ L, k ≠ p.1) v2 c2) (hb : Below w.heap.size w W2) (hg : W.grownBy W2 v1.ownBlock) : OutS w W2 L go v0 u1 v2 s c2 := by
 refine ⟨⟨hb, fun p hp => blk_grown (h.bx.blk p hp) hg (Kd.R_away h.r1 (fun k hk => hk.2.2 p hp)), h.bx.fr⟩, h.fr, blk_grown h.out hg (Kd.R_away h.r1 (fun k hk => hk.2.1)), h.ofr, ?_, h1⟩
 exact Kd.R_over h.r0 h.r1 (by decide) hg
theorem OutS.ret (h : OutS w W L go v0 u1 v1 s c) {p : Nat × Array Value × Nat} (hp : p ∈ L) : Kd.R (Kd.int .i64) 3 ((W.setCell ⟨p.1, 0, none⟩ v0).setCell ⟨p.1, 1, none⟩ v1) w.heap.size (fun _ => True) v0 s ∧ Kd.R k35 35 ((W.setCell ⟨p.1, 0, none⟩ v0).setCell ⟨p.1, 1, none⟩ v1) w.heap.size (fun k => some k ≠ v0.ownBlock) v1 c ∧ Below w.heap.size w ((W.setCell ⟨p.1, 0, none⟩ v0).setCell ⟨p.1, 1, none⟩ v1) :=
 ⟨Kd.R_mono (Kd.R_far (Kd.R_far h.r0 (fun k hk => hk.2 p hp) _) (fun k hk => hk.2 p hp) _) (fun _ _ => trivial), Kd.R_mono (Kd.R_far (Kd.R_far h.r1 (fun k hk => hk.2.2 p hp) _) (fun k hk => hk.2.2 p hp) _) (fun _ hk => hk.1), below_set (below_set h.bx.bel (h.bx.fr p hp)) (h.bx.fr p hp)⟩
end
section
variable {P : Program} {ops : Array Oper} {o : Oper} {rest : List Oper} {a : Act} {Q : Exit → Act → World → Prop} {w W : World} {L : List (Nat × Array Value × Nat)} {go : Nat} {v0 u1 v1 : Value} {s : List Int} {c : List S35}
theorem OutS.app (h : OutS w W L go v0 u1 v1 s c) (hgd : o.guard = none) (sx x : Operand) (t : TypeId) (z : Value) (ho : o.op = .call { callee := .builtin .append, args := #[sx, x], argTypes := #[t, t] })
  (ht : P.underlying t = some (.slice 35)) (hinfo : (P.info? 35).map (fun i => (i.zero, i.size, i.bytes)) = some (some z, 3, 40)) (hz : z.cells.size = 3) (hs : a.eval sx = v1) (hx : a.eval x = .slice (some ⟨W.heap.size, 0, none⟩) 1 1)
  (p : S35) (cs : List Value) (okp : Nat → Prop) (hp : k35.M W w.heap.size okp p cs) (hok : ∀ k, okp k → (some k ≠ v0.ownBlock ∧ k ≠ go ∧ ∀ p ∈ L, k ≠ p.1) ∧ some k ≠ v1.ownBlock) (hl : (c.length + 1) * 40 ≤ 140737488355328)
  (hK : ∀ v2 w2, OutS w w2 L go v0 u1 v2 s (c ++ [p]) → wpList P ops Q rest (a.put o.dst v2) w2) : wpList P ops Q (o :: rest) a (W.alloc (.cells cs.toArray 35)) := by
 refine Kd.R_append k35 (w0 := w) w.heap.size hgd sx x t 35 z 40 ho ht hinfo hz (by decide) (by omega) v1 c p cs _ okp hs hx hp hok (fun k hk => (h.okf k hk).1) h.r1 h.bx.bel h.bx.bel.size hl ?_
 intro v2 w2 h1 hb hg _
 exact hK v2 w2 (h.grow h1 hb hg)
end
theorem hf_sz (W : World) (o : Obj) : (W.alloc o).heap.size = W.heap.size + 1 := by unfold World.alloc; exact Array.size_push _
theorem hf_sz2 (W : World) (o o2 : Obj) : ((W.alloc o).alloc o2).heap.size = W.heap.size + 1 + 1 := by rw [hf_sz, hf_sz]
theorem hf_sz3 (W : World) (o o2 o3 : Obj) : (((W.alloc o).alloc o2).alloc o3).heap.size = W.heap.size + 1 + 1 + 1 := by rw [hf_sz, hf_sz2]
theorem BxS.cons' {w W : World} {L : List (Nat × Array Value × Nat)} (h : BxS w W L) (cs : Array Value) (t : Nat) {g : Nat} (hg : W.heap.size = g) : BxS w (W.alloc (.cells cs t)) ((g, cs, t) :: L) := hg ▸ h.cons cs t
theorem BxS.three (w : World) (c1 : Array Value) (t1 : Nat) (c2 : Array Value) (t2 : Nat) (c3 : Array Value) (t3 : Nat) : BxS w (((w.alloc (.cells c1 t1)).alloc (.cells c2 t2)).alloc (.cells c3 t3)) [(w.heap.size + 1 + 1, c3, t3), (w.heap.size + 1, c2, t2), (w.heap.size, c1, t1)] :=
 (((BxS.nil w).cons' c1 t1 rfl).cons' c2 t2 (hf_sz _ _)).cons' c3 t3 (hf_sz2 _ _ _)
theorem BxS.four (w : World) (c1 : Array Value) (t1 : Nat) (c2 : Array Value) (t2 : Nat) (c3 : Array Value) (t3 : Nat) (c4 : Array Value) (t4 : Nat) : BxS w ((((w.alloc (.cells c1 t1)).alloc (.cells c2 t2)).alloc (.cells c3 t3)).alloc (.cells c4 t4)) [(w.heap.size + 1 + 1 + 1, c4, t4), (w.heap.size + 1 + 1, c3, t3), (w.heap.size + 1, c2, t2), (w.heap.size, c1, t1)] :=
 (BxS.three w c1 t1 c2 t2 c3 t3).cons' c4 t4 (hf_sz3 _ _ _ _)
theorem hf_ac {W w1 : World} {o : Obj} (h : Below (W.alloc o).heap.size (W.alloc o) w1) : Below W.heap.size W w1 := (below_alloc (Below.refl _ _) o).trans (h.mono (by rw [hf_sz]; omega))
theorem hf_z2 {W : World} {g t : Nat} {x y : Value} (h : W.heap[g]? = some (.cells #[x, y] t (0, 0))) (a b : Value) : ((W.setCell ⟨g, 0, none⟩ a).setCell ⟨g, 1, none⟩ b).heap[g]? = some (.cells #[a, b] t (0, 0)) := blk_put (cs := #[a, y]) (blk_put (cs := #[x, y]) h 0 _ rfl) 1 _ rfl
theorem BxS.perm {w W : World} {L L' : List (Nat × Array Value × Nat)} (h : BxS w W L) (hp : ∀ p ∈ L', p ∈ L) : BxS w W L' := ⟨h.bel, fun p hp' => h.blk p (hp p hp'), fun p hp' => h.fr p (hp p hp')⟩
theorem BxS.two {wr W W1 : World} {gx gy : Nat} {X Y : Array Value} {t u : Nat} (hb : Below wr.heap.size wr W) (h1 : W1.heap[gx]? = some (.cells X t (0, 0))) (h2 : W1.heap[gy]? = some (.cells Y u (0, 0))) (hb1 : Below W.heap.size W W1) (l1 : W.heap.size ≤ gx) (l2 : W.heap.size ≤ gy) : BxS wr W1 [(gx, X, t), (gy, Y, u)] := by
 refine ⟨below_step hb hb1, fun p hp => ?_, fun p hp => ?_⟩
 ·rcases List.mem_cons.1 hp with rfl | hp
  ·exact h1
  ·rw [List.mem_singleton.1 hp]; exact h2
 ·rcases List.mem_cons.1 hp with rfl | hp
  ·exact Nat.le_trans hb.size l1
  ·rw [List.mem_singleton.1 hp]; exact Nat.le_trans hb.size l2
/-- A box of three that is written whole. -/
theorem hf_z3 {W : World} {g t : Nat} {x y z : Value} (h : W.heap[g]? = some (.cells #[x, y, z] t (0, 0))) (a b c : Value) : (((W.setCell ⟨g, 0, none⟩ a).setCell ⟨g, 1, none⟩ b).setCell ⟨g, 2, none⟩ c).heap[g]? = some (.cells #[a, b, c] t (0, 0)) := blk_put (cs := #[a, b, z]) (blk_put (cs := #[a, y, z]) (blk_put (cs := #[x, y, z]) h 0 _ rfl) 1 _ rfl) 2 _ rfl
theorem BxS.put3 {w W : World} {L : List (Nat × Array Value × Nat)} {g t : Nat} {x y z : Value} (h : BxS w W ((g, #[x, y, z], t) :: L)) (hL : ∀ p ∈ L, p.1 ≠ g) (a b c : Value) : BxS w (((W.setCell ⟨g, 0, none⟩ a).setCell ⟨g, 1, none⟩ b).setCell ⟨g, 2, none⟩ c) ((g, #[a, b, c], t) :: L) := by
 have hg := h.fr _ List.mem_cons_self
 refine ⟨below_set (below_set (below_set h.bel hg) hg) hg, fun p hp => ?_, fun p hp => ?_⟩
 ·rcases List.mem_cons.1 hp with rfl | hp
  ·exact hf_z3 (h.blk _ List.mem_cons_self) a b c
  ·exact blk_far (blk_far (blk_far (h.blk p (List.mem_cons_of_mem _ hp)) (hL p hp) _) (hL p hp) _) (hL p hp) _
 ·rcases List.mem_cons.1 hp with rfl | hp
  ·exact hg
  ·exact h.fr p (List.mem_cons_of_mem _ hp)
theorem BxS.swap {w W : World} {p q : Nat × Array Value × Nat} {L : List (Nat × Array Value × Nat)} (h : BxS w W (p :: q :: L)) : BxS w W (q :: p :: L) := by
 refine h.perm (fun r hr => ?_)
 rcases List.mem_cons.1 hr with rfl | hr
 ·exact List.mem_cons_of_mem _ List.mem_cons_self
 ·rcases List.mem_cons.1 hr with rfl | hr
  ·exact List.mem_cons_self
  ·exact List.mem_cons_of_mem _ (List.mem_cons_of_mem _ hr)
def atomic_Dy.ix (s : List Int) (i : Nat) : Nat := if s.length = 0 then 0 else i
def atomic_Dy.lp (k : Nat) (op : Int) (s1 : List Int) (c1 : List S35) (s2 : List Int) (c2 : List S35) (s : List Int) : Nat → Nat → List S35 → Option (List Int × List S35 × Int)
 | 0, _, acc => some (s, acc, 0)
 | m + 1, i, acc => if atomic_Dy.ix s1 i < c1.length ∧ atomic_Dy.ix s2 i < c2.length then (atomic_Cell.f k op (c1.getD (atomic_Dy.ix s1 i) z35).f0 (c1.getD (atomic_Dy.ix s1 i) z35).f1 (c1.getD (atomic_Dy.ix s1 i) z35).f2 (c2.getD (atomic_Dy.ix s2 i) z35).f0 (c2.getD (atomic_Dy.ix s2 i) z35).f1 (c2.getD (atomic_Dy.ix s2 i) z35).f2).bind fun b => if b.2.2.2 = 0 then (if acc.length < 3518437208883 then atomic_Dy.lp k op s1 c1 s2 c2 s m (i + 1) (acc ++ [⟨b.1, b.2.1, b.2.2.1⟩]) else none) else some ([], [], b.2.2.2) else none
def atomic_Dy.n (c1 c2 : List S35) : Nat := if c1.length = 0 ∨ c2.length = 0 then 0 else max c1.length c2.length
def atomic_Dy.r5 (k : Nat) (a0 : Int) (l1_0 : List Int) (l1_1 : List S35) (l2_0 : List Int) (l2_1 : List S35) : Option (List Int × List S35 × Int) :=
 if a0 = 54 then some ([], [], 10) else if ¬ (21 ≤ a0 ∧ a0 ≤ 32) then some ([], [], 1) else (atomic_Agree.f k l1_0 l2_0).bind fun b => if b.2 = 0 then atomic_Dy.lp k a0 l1_0 l1_1 l2_0 l2_1 b.1 (atomic_Dy.n l1_1 l2_1) 0 [] else some ([], [], b.2)
def atomic_Dy.f (k : Nat) (a0 : Int) (l1_0 : List Int) (l1_1 : List S35) (l2_0 : List Int) (l2_1 : List S35) : Option (List Int × List S35 × Int) :=
 (arr_Check.f k l1_0 l1_1).bind fun e1 => if e1 = 0 then ((arr_Check.f k l2_0 l2_1).bind fun e2 => if e2 = 0 then atomic_Dy.r5 k a0 l1_0 l1_1 l2_0 l2_1 else some ([], [], e2)) else some ([], [], e1)
theorem atomic_Dy.mono_lp (k : Nat) (op : Int) (s1 : List Int) (c1 : List S35) (s2 : List Int) (c2 : List S35) (s : List Int) : ∀ m i acc, LeO (atomic_Dy.lp k op s1 c1 s2 c2 s m i acc) (atomic_Dy.lp (k + 1) op s1 c1 s2 c2 s m i acc)
 | 0, _, _ => LeO.refl _
 | m + 1, i, acc => by
  unfold atomic_Dy.lp
  exact LeO.ite (LeO.bind (atomic_Cell.mono _ _ _ _ _ _ _ _) (fun _ => LeO.ite (LeO.ite (atomic_Dy.mono_lp k op s1 c1 s2 c2 s m (i + 1) _) (LeO.none _)) (LeO.refl _))) (LeO.none _)
theorem atomic_Dy.mono : ∀ a0 a1 a2 a3 a4 k, LeO (atomic_Dy.f k a0 a1 a2 a3 a4) (atomic_Dy.f (k + 1) a0 a1 a2 a3 a4) := by
 intro a0 a1 a2 a3 a4 k
 unfold atomic_Dy.f atomic_Dy.r5
 exact LeO.bind (arr_Check.mono _ _ _) (fun _ => LeO.ite (LeO.bind (arr_Check.mono _ _ _) (fun _ => LeO.ite (LeO.ite (LeO.refl _) (LeO.ite (LeO.refl _) (LeO.bind (atomic_Agree.mono _ _ _) (fun _ => LeO.ite (atomic_Dy.mono_lp _ _ _ _ _ _ _ _ _ _) (LeO.refl _))))) (LeO.refl _))) (LeO.refl _))
def atomic_Dy.st (k : Nat) (a0 : Int) (l1_0 : List Int) (l1_1 : List S35) (l2_0 : List Int) (l2_1 : List S35) : Nat → Option (List Int × List S35 × Int)
 | 0 => atomic_Dy.f k a0 l1_0 l1_1 l2_0 l2_1
 | 1 => (arr_Check.f k l2_0 l2_1).bind fun e2 => if e2 = 0 then atomic_Dy.r5 k a0 l1_0 l1_1 l2_0 l2_1 else some ([], [], e2)
 | _ => atomic_Dy.r5 k a0 l1_0 l1_1 l2_0 l2_1
def atomic_Dy.T22 : Bool × List (List Nat × List Nat) := (true, [([], []), ([0], [0]), ([1], [1]), ([2], [2]), ([], []), ([4], [4]), ([5], [5]), ([6], [6]), ([], []), ([], []), ([8, 3, 0, 1, 2, 3, 8, 9], [3, 8]), ([9, 7, 10, 0, 1, 2, 3, 4, 5, 6, 7, 8, 9, 10], [7, 9])])
def atomic_Dy.B22 : List Nat := [0, 1, 3, 7, 0, 16, 48, 112, 0, 0, 783, 2047]
theorem atomic_Dy.tab22 : rtab .any (opsOf Try.f18 22) = atomic_Dy.T22 := by kernel_rfl
theorem atomic_Dy.bits22 : waitsOk atomic_Dy.T22.2 atomic_Dy.B22 = true := by kernel_rfl
theorem atomic_Dy.is_no {a0 : Int} (h : ¬ (21 ≤ a0 ∧ a0 ≤ 32)) : atomic_Is.f a0 = some false := by
 unfold atomic_Is.f
 by_cases c : a0 ≥ 21
 ·rw [if_pos c, decide_eq_false (by omega)]
 ·rw [if_neg c]
theorem atomic_Dy.is_yes {a0 : Int} (h : 21 ≤ a0 ∧ a0 ≤ 32) : atomic_Is.f a0 = some true := by
 unfold atomic_Is.f
 rw [if_pos (by omega), decide_eq_true h.2]
set_option maxHeartbeats 8000000 in
set_option maxRecDepth 100000 in
theorem atomic_Dy.calls (k : Nat) (a0 : Int) (A1_0 : Option Addr) (c1_0 : Nat) (l1_0 : List Int) (A1_1 : Option Addr) (c1_1 : Nat) (l1_1 : List S35) (A2_0 : Option Addr) (c2_0 : Nat) (l2_0 : List Int) (A2_1 : Option Addr) (c2_1 : Nat) (l2_1 : List S35) (r1 : List Int) (r2 : List S35) (r3 : Int) (w : World) (hr1_0 : Kd.C (Kd.int .i64) w A1_0 l1_0.length l1_0) (hc1_0 : l1_0.length ≤ c1_0) (hr1_1 : Kd.C k35 w A1_1 l1_1.length l1_1) (hc1_1 : l1_1.length ≤ c1_1) (hr2_0 : Kd.C (Kd.int .i64) w A2_0 l2_0.length l2_0) (hc2_0 : l2_0.length ≤ c2_0) (hr2_1 : Kd.C k35 w A2_1 l2_1.length l2_1) (hc2_1 : l2_1.length ≤ c2_1) (h : atomic_Dy.f k a0 l1_0 l1_1 l2_0 l2_1 = some (r1, r2, r3)) :
  Calls Try.prog 18 #[.int .i64 a0, .agg #[.slice A1_0 l1_0.length c1_0, .slice A1_1 l1_1.length c1_1], .agg #[.slice A2_0 l2_0.length c2_0, .slice A2_1 l2_1.length c2_1]] w fun e w' => ∃ v0_ v1_ : Value, e = .returned (.tuple #[.agg #[v0_, v1_], .int .i64 r3]) ∧ Kd.R (Kd.int .i64) 3 w' w.heap.size (fun _ => True) v0_ r1 ∧ Kd.R k35 35 w' w.heap.size (fun k_ => some k_ ≠ (v0_ : Value).ownBlock) v1_ r2 ∧ Below w.heap.size w w' := by
 have hu_a := Try.underlying25
 have hu_c := Try.underlying35
 have HR1 := Aside0.mk (And.intro (And.intro hr1_0 hc1_0) (And.intro hr1_1 hc1_1))
 have HR2 := Aside0.mk (And.intro (And.intro hr2_0 hc2_0) (And.intro hr2_1 hc2_1))
 have H : Aside0 (atomic_Dy.st k a0 l1_0 l1_1 l2_0 l2_1 0 = some (r1, r2, r3)) := ⟨h⟩
 clear hr1_0 hc1_0 hr1_1 hc1_1 hr2_0 hc2_0 hr2_1 hc2_1 h
 have HS0 := Aside0.mk (BxS.four w #[.slice A1_0 l1_0.length c1_0, .slice A1_1 l1_1.length c1_1] 25 #[.slice A2_0 l2_0.length c2_0, .slice A2_1 l2_1.length c2_1] 25 #[.slice none 0 0, .slice none 0 0] 25 #[.slice A1_0 l1_0.length c1_0, .slice A1_1 l1_1.length c1_1, .slice A2_0 l2_0.length c2_0, .slice A2_1 l2_1.length c2_1] 25)
 go_enter Try.func18, Try.ntmps18
 go_wp2_with (fail)
 go_loopg [24] 2 (fun kq v24 W => ∃ j : Nat, v24 = .int .i64 (j : Int) ∧ Aside0 (j + kq = 2) ∧ Aside0 (atomic_Dy.st k a0 l1_0 l1_1 l2_0 l2_1 j = some (r1, r2, r3)) ∧ Aside0 (BxS w W [(w.heap.size + 1 + 1 + 1, #[.slice A1_0 l1_0.length c1_0, .slice A1_1 l1_1.length c1_1, .slice A2_0 l2_0.length c2_0, .slice A2_1 l2_1.length c2_1], 25), (w.heap.size + 1 + 1, #[.slice none 0 0, .slice none 0 0], 25), (w.heap.size + 1, #[.slice A2_0 l2_0.length c2_0, .slice A2_1 l2_1.length c2_1], 25), (w.heap.size, #[.slice A1_0 l1_0.length c1_0, .slice A1_1 l1_1.length c1_1], 25)]))
 case atStart => exact ⟨0, rfl, ⟨by omega⟩, H, HS0⟩
 case round =>
  clear H HS0
  obtain ⟨j, rfl, HJ, H, HS⟩ := hrel
  rcases (by have := HJ.out; omega : j = 0 ∨ j = 1 ∨ j = 2) with c | c | c
  ·subst c
   obtain ⟨e1, q1, h⟩ := Option.bind_eq_some_iff.1 H.out; have Q1 := Aside0.mk q1; clear q1 H
   have hx0 : wr.cell? ⟨w.heap.size + 1 + 1 + 1, 0, none⟩ = some (.slice A1_0 l1_0.length c1_0) := (blk_cell (HS.out.at_ 0 rfl) 0).trans rfl
   have hx1 : wr.cell? ⟨w.heap.size + 1 + 1 + 1, 1, none⟩ = some (.slice A1_1 l1_1.length c1_1) := (blk_cell (HS.out.at_ 0 rfl) 1).trans rfl
   by_cases c1 : e1 = 0
   ·rw [if_pos c1] at h; have H := Aside0.mk h; clear h; subst c1
    obtain ⟨q, rfl⟩ : ∃ q, gk = q + 1 := ⟨gk - 1, by have := HJ.out; omega⟩
    go_wp2_with (go_at_call 27; (with_reducible refine (arr_Check.calls k _ _ l1_0 _ _ l1_1 _ _ (Kd.C_below HR1.out.1.1 (HS.out.step (below_alloc (Below.refl _ _) _)).bel) HR1.out.1.2 (Kd.C_below HR1.out.2.1 (HS.out.step (below_alloc (Below.refl _ _) _)).bel) HR1.out.2.2 Q1.out).mono ?_); rintro e w1 ⟨rfl, hb⟩; have HS1 := Aside0.mk (HS.out.step (hf_ac hb)); clear hb; have hz0 : w1.cell? ⟨w.heap.size + 1 + 1, 0, none⟩ = some (.slice none 0 0) := (blk_cell (HS1.out.at_ 1 rfl) 0).trans rfl; have hz1 : w1.cell? ⟨w.heap.size + 1 + 1, 1, none⟩ = some (.slice none 0 0) := (blk_cell (HS1.out.at_ 1 rfl) 1).trans rfl; have hf0 := blk_frozen (HS1.out.at_ 1 rfl) 0; have hf1 := blk_frozen (HS1.out.at_ 1 rfl) 1)
    go_roundg q
    case measure => omega
    case rel => exact ⟨1, rfl, ⟨by have := HJ.out; omega⟩, H, HS1⟩
   ·rw [if_neg c1] at h; simp only [Option.some.injEq, Prod.mk.injEq] at h; obtain ⟨rfl, rfl, rfl⟩ := h; have c1b : (e1 != 0) = true := bne_iff_ne.2 c1; clear c1
    go_wp2_with (go_at_call 27; (with_reducible refine (arr_Check.calls k _ _ l1_0 _ _ l1_1 _ _ (Kd.C_below HR1.out.1.1 (HS.out.step (below_alloc (Below.refl _ _) _)).bel) HR1.out.1.2 (Kd.C_below HR1.out.2.1 (HS.out.step (below_alloc (Below.refl _ _) _)).bel) HR1.out.2.2 Q1.out).mono ?_); rintro e w1 ⟨rfl, hb⟩; have HS1 := Aside0.mk (HS.out.step (hf_ac hb)); clear hb; have hz0 : w1.cell? ⟨w.heap.size + 1 + 1, 0, none⟩ = some (.slice none 0 0) := (blk_cell (HS1.out.at_ 1 rfl) 0).trans rfl; have hz1 : w1.cell? ⟨w.heap.size + 1 + 1, 1, none⟩ = some (.slice none 0 0) := (blk_cell (HS1.out.at_ 1 rfl) 1).trans rfl; have hf0 := blk_frozen (HS1.out.at_ 1 rfl) 0; have hf1 := blk_frozen (HS1.out.at_ 1 rfl) 1)
    all_goals (refine bodyPost_ret (results_ct rfl _ _ (w.heap.size + 1 + 1) 25 #[.slice none 0 0, .slice none 0 0] (0, 0) _ rfl (hf_z2 (HS1.out.at_ 1 rfl) _ _) Try.underlying25 rfl (by kernel_rfl)) rfl ?_; exact ⟨_, _, rfl, Kd.R_nil _ _ _ _ _, Kd.R_nil _ _ _ _ _, below_set (below_set HS1.out.bel (HS1.out.fr _ (List.mem_of_getElem? (i := 1) rfl))) (HS1.out.fr _ (List.mem_of_getElem? (i := 1) rfl))⟩)
  ·subst c
   obtain ⟨e1, q1, h⟩ := Option.bind_eq_some_iff.1 H.out; have Q1 := Aside0.mk q1; clear q1 H
   have hx0 : wr.cell? ⟨w.heap.size + 1 + 1 + 1, 2, none⟩ = some (.slice A2_0 l2_0.length c2_0) := (blk_cell (HS.out.at_ 0 rfl) 2).trans rfl
   have hx1 : wr.cell? ⟨w.heap.size + 1 + 1 + 1, 3, none⟩ = some (.slice A2_1 l2_1.length c2_1) := (blk_cell (HS.out.at_ 0 rfl) 3).trans rfl
   by_cases c1 : e1 = 0
   ·rw [if_pos c1] at h; have H := Aside0.mk h; clear h; subst c1
    obtain ⟨q, rfl⟩ : ∃ q, gk = q + 1 := ⟨gk - 1, by have := HJ.out; omega⟩
    go_wp2_with (go_at_call 27; (with_reducible refine (arr_Check.calls k _ _ l2_0 _ _ l2_1 _ _ (Kd.C_below HR2.out.1.1 (HS.out.step (below_alloc (Below.refl _ _) _)).bel) HR2.out.1.2 (Kd.C_below HR2.out.2.1 (HS.out.step (below_alloc (Below.refl _ _) _)).bel) HR2.out.2.2 Q1.out).mono ?_); rintro e w1 ⟨rfl, hb⟩; have HS1 := Aside0.mk (HS.out.step (hf_ac hb)); clear hb; have hz0 : w1.cell? ⟨w.heap.size + 1 + 1, 0, none⟩ = some (.slice none 0 0) := (blk_cell (HS1.out.at_ 1 rfl) 0).trans rfl; have hz1 : w1.cell? ⟨w.heap.size + 1 + 1, 1, none⟩ = some (.slice none 0 0) := (blk_cell (HS1.out.at_ 1 rfl) 1).trans rfl; have hf0 := blk_frozen (HS1.out.at_ 1 rfl) 0; have hf1 := blk_frozen (HS1.out.at_ 1 rfl) 1)
    go_roundg q
    case measure => omega
    case rel => exact ⟨2, rfl, ⟨by have := HJ.out; omega⟩, H, HS1⟩
   ·rw [if_neg c1] at h; simp only [Option.some.injEq, Prod.mk.injEq] at h; obtain ⟨rfl, rfl, rfl⟩ := h; have c1b : (e1 != 0) = true := bne_iff_ne.2 c1; clear c1
    go_wp2_with (go_at_call 27; (with_reducible refine (arr_Check.calls k _ _ l2_0 _ _ l2_1 _ _ (Kd.C_below HR2.out.1.1 (HS.out.step (below_alloc (Below.refl _ _) _)).bel) HR2.out.1.2 (Kd.C_below HR2.out.2.1 (HS.out.step (below_alloc (Below.refl _ _) _)).bel) HR2.out.2.2 Q1.out).mono ?_); rintro e w1 ⟨rfl, hb⟩; have HS1 := Aside0.mk (HS.out.step (hf_ac hb)); clear hb; have hz0 : w1.cell? ⟨w.heap.size + 1 + 1, 0, none⟩ = some (.slice none 0 0) := (blk_cell (HS1.out.at_ 1 rfl) 0).trans rfl; have hz1 : w1.cell? ⟨w.heap.size + 1 + 1, 1, none⟩ = some (.slice none 0 0) := (blk_cell (HS1.out.at_ 1 rfl) 1).trans rfl; have hf0 := blk_frozen (HS1.out.at_ 1 rfl) 0; have hf1 := blk_frozen (HS1.out.at_ 1 rfl) 1)
    all_goals (refine bodyPost_ret (results_ct rfl _ _ (w.heap.size + 1 + 1) 25 #[.slice none 0 0, .slice none 0 0] (0, 0) _ rfl (hf_z2 (HS1.out.at_ 1 rfl) _ _) Try.underlying25 rfl (by kernel_rfl)) rfl ?_; exact ⟨_, _, rfl, Kd.R_nil _ _ _ _ _, Kd.R_nil _ _ _ _ _, below_set (below_set HS1.out.bel (HS1.out.fr _ (List.mem_of_getElem? (i := 1) rfl))) (HS1.out.fr _ (List.mem_of_getElem? (i := 1) rfl))⟩)
  ·subst c
   obtain rfl : gk = 0 := by have := HJ.out; omega
   have H : Aside0 (atomic_Dy.r5 k a0 l1_0 l1_1 l2_0 l2_1 = some (r1, r2, r3)) := H
   clear HJ
   have HS := Aside0.mk HS.out.drop
   unfold atomic_Dy.r5 at H
   have hz0 : wr.cell? ⟨w.heap.size + 1 + 1, 0, none⟩ = some (.slice none 0 0) := (blk_cell (HS.out.at_ 0 rfl) 0).trans rfl; have hz1 : wr.cell? ⟨w.heap.size + 1 + 1, 1, none⟩ = some (.slice none 0 0) := (blk_cell (HS.out.at_ 0 rfl) 1).trans rfl; have hf0 := blk_frozen (HS.out.at_ 0 rfl) 0; have hf1 := blk_frozen (HS.out.at_ 0 rfl) 1
   have hy0 : wr.cell? ⟨w.heap.size, 0, none⟩ = some (.slice A1_0 l1_0.length c1_0) := (blk_cell (HS.out.at_ 2 rfl) 0).trans rfl; have hy1 : wr.cell? ⟨w.heap.size + 1, 0, none⟩ = some (.slice A2_0 l2_0.length c2_0) := (blk_cell (HS.out.at_ 1 rfl) 0).trans rfl
   have h := H.out; clear H
   by_cases c54 : a0 = 54
   ·rw [if_pos c54] at h; simp only [Option.some.injEq, Prod.mk.injEq] at h; obtain ⟨rfl, rfl, rfl⟩ := h; subst c54
    go_wp2_with (fail)
    all_goals (refine bodyPost_ret (results_ct rfl _ _ (w.heap.size + 1 + 1) 25 #[.slice none 0 0, .slice none 0 0] (0, 0) _ rfl (hf_z2 (HS.out.at_ 0 rfl) _ _) Try.underlying25 rfl (by kernel_rfl)) rfl ?_; exact ⟨_, _, rfl, Kd.R_nil _ _ _ _ _, Kd.R_nil _ _ _ _ _, below_set (below_set HS.out.bel (HS.out.fr _ (List.mem_of_getElem? (i := 0) rfl))) (HS.out.fr _ (List.mem_of_getElem? (i := 0) rfl))⟩)
   rw [if_neg c54] at h; have c54b : (a0 == 54) = false := beq_eq_false_iff_ne.2 c54; clear c54
   by_cases cI : 21 ≤ a0 ∧ a0 ≤ 32
   rotate_left
   ·rw [if_pos cI] at h; simp only [Option.some.injEq, Prod.mk.injEq] at h; obtain ⟨rfl, rfl, rfl⟩ := h
    have HI : Aside0 (atomic_Is.f a0 = some false) := ⟨atomic_Dy.is_no cI⟩
    clear cI
    go_wp2_with (go_at_call 17; (with_reducible refine (atomic_Is.calls _ _ _ HI.out).mono ?_); rintro e w1 ⟨rfl, hb⟩; have HS := Aside0.mk (HS.out.step hb.below); clear hb; (try clear hz0 hz1 hf0 hf1 hy0 hy1); have hz0 : w1.cell? ⟨w.heap.size + 1 + 1, 0, none⟩ = some (.slice none 0 0) := (blk_cell (HS.out.at_ 0 rfl) 0).trans rfl; have hz1 : w1.cell? ⟨w.heap.size + 1 + 1, 1, none⟩ = some (.slice none 0 0) := (blk_cell (HS.out.at_ 0 rfl) 1).trans rfl; have hf0 := blk_frozen (HS.out.at_ 0 rfl) 0; have hf1 := blk_frozen (HS.out.at_ 0 rfl) 1; have hy0 : w1.cell? ⟨w.heap.size, 0, none⟩ = some (.slice A1_0 l1_0.length c1_0) := (blk_cell (HS.out.at_ 2 rfl) 0).trans rfl; have hy1 : w1.cell? ⟨w.heap.size + 1, 0, none⟩ = some (.slice A2_0 l2_0.length c2_0) := (blk_cell (HS.out.at_ 1 rfl) 0).trans rfl)
    all_goals (refine bodyPost_ret (results_ct rfl _ _ (w.heap.size + 1 + 1) 25 #[.slice none 0 0, .slice none 0 0] (0, 0) _ rfl (hf_z2 (HS.out.at_ 0 rfl) _ _) Try.underlying25 rfl (by kernel_rfl)) rfl ?_; exact ⟨_, _, rfl, Kd.R_nil _ _ _ _ _, Kd.R_nil _ _ _ _ _, below_set (below_set HS.out.bel (HS.out.fr _ (List.mem_of_getElem? (i := 0) rfl))) (HS.out.fr _ (List.mem_of_getElem? (i := 0) rfl))⟩)
   rw [if_neg (not_not_intro cI)] at h
   have HI : Aside0 (atomic_Is.f a0 = some true) := ⟨atomic_Dy.is_yes cI⟩
   clear cI
   obtain ⟨⟨s, e3⟩, q1, h⟩ := Option.bind_eq_some_iff.1 h; have Q1 := Aside0.mk q1; clear q1; dsimp only at h
   by_cases ce : e3 = 0
   rotate_left
   ·rw [if_neg ce] at h; simp only [Option.some.injEq, Prod.mk.injEq] at h; obtain ⟨rfl, rfl, rfl⟩ := h; have ceb : (e3 != 0) = true := bne_iff_ne.2 ce; clear ce
    go_wp2_with (first | (go_at_call 17; (with_reducible refine (atomic_Is.calls _ _ _ HI.out).mono ?_); rintro e w1 ⟨rfl, hb⟩; have HS := Aside0.mk (HS.out.step hb.below); clear hb; (try clear hz0 hz1 hf0 hf1 hy0 hy1); have hz0 : w1.cell? ⟨w.heap.size + 1 + 1, 0, none⟩ = some (.slice none 0 0) := (blk_cell (HS.out.at_ 0 rfl) 0).trans rfl; have hz1 : w1.cell? ⟨w.heap.size + 1 + 1, 1, none⟩ = some (.slice none 0 0) := (blk_cell (HS.out.at_ 0 rfl) 1).trans rfl; have hf0 := blk_frozen (HS.out.at_ 0 rfl) 0; have hf1 := blk_frozen (HS.out.at_ 0 rfl) 1; have hy0 : w1.cell? ⟨w.heap.size, 0, none⟩ = some (.slice A1_0 l1_0.length c1_0) := (blk_cell (HS.out.at_ 2 rfl) 0).trans rfl; have hy1 : w1.cell? ⟨w.heap.size + 1, 0, none⟩ = some (.slice A2_0 l2_0.length c2_0) := (blk_cell (HS.out.at_ 1 rfl) 0).trans rfl) | (go_at_call 20; (with_reducible refine (atomic_Agree.calls k _ _ l1_0 _ _ l2_0 _ _ _ (Kd.C_below HR1.out.1.1 HS.out.bel) HR1.out.1.2 (Kd.C_below HR2.out.1.1 HS.out.bel) HR2.out.1.2 Q1.out).mono ?_); rintro e w1 ⟨v0, rfl, hr, hb⟩; have HV := Aside0.mk (Kd.R_lower hr HS.out.bel.size); have HS := Aside0.mk (HS.out.step hb); clear hr hb; (try clear hz0 hz1 hf0 hf1 hy0 hy1); have hz0 : w1.cell? ⟨w.heap.size + 1 + 1, 0, none⟩ = some (.slice none 0 0) := (blk_cell (HS.out.at_ 0 rfl) 0).trans rfl; have hz1 : w1.cell? ⟨w.heap.size + 1 + 1, 1, none⟩ = some (.slice none 0 0) := (blk_cell (HS.out.at_ 0 rfl) 1).trans rfl; have hf0 := blk_frozen (HS.out.at_ 0 rfl) 0; have hf1 := blk_frozen (HS.out.at_ 0 rfl) 1; have hy0 : w1.cell? ⟨w.heap.size, 1, none⟩ = some (.slice A1_1 l1_1.length c1_1) := (blk_cell (HS.out.at_ 2 rfl) 1).trans rfl; have hy1 : w1.cell? ⟨w.heap.size + 1, 1, none⟩ = some (.slice A2_1 l2_1.length c2_1) := (blk_cell (HS.out.at_ 1 rfl) 1).trans rfl))
    all_goals (refine bodyPost_ret (results_ct rfl _ _ (w.heap.size + 1 + 1) 25 #[.slice none 0 0, .slice none 0 0] (0, 0) _ rfl (hf_z2 (HS.out.at_ 0 rfl) _ _) Try.underlying25 rfl (by kernel_rfl)) rfl ?_; exact ⟨_, _, rfl, Kd.R_nil _ _ _ _ _, Kd.R_nil _ _ _ _ _, below_set (below_set HS.out.bel (HS.out.fr _ (List.mem_of_getElem? (i := 0) rfl))) (HS.out.fr _ (List.mem_of_getElem? (i := 0) rfl))⟩)
   rw [if_pos ce] at h; subst ce; have H := Aside0.mk h; clear h
   have HN1 := Aside0.mk HR1.out.2.1.2.1; have HN2 := Aside0.mk HR2.out.2.1.2.1
   go_upto_region 16 with (first | (go_at_call 17; (with_reducible refine (atomic_Is.calls _ _ _ HI.out).mono ?_); rintro e w1 ⟨rfl, hb⟩; have HS := Aside0.mk (HS.out.step hb.below); clear hb; (try clear hz0 hz1 hf0 hf1 hy0 hy1); have hz0 : w1.cell? ⟨w.heap.size + 1 + 1, 0, none⟩ = some (.slice none 0 0) := (blk_cell (HS.out.at_ 0 rfl) 0).trans rfl; have hz1 : w1.cell? ⟨w.heap.size + 1 + 1, 1, none⟩ = some (.slice none 0 0) := (blk_cell (HS.out.at_ 0 rfl) 1).trans rfl; have hf0 := blk_frozen (HS.out.at_ 0 rfl) 0; have hf1 := blk_frozen (HS.out.at_ 0 rfl) 1; have hy0 : w1.cell? ⟨w.heap.size, 0, none⟩ = some (.slice A1_0 l1_0.length c1_0) := (blk_cell (HS.out.at_ 2 rfl) 0).trans rfl; have hy1 : w1.cell? ⟨w.heap.size + 1, 0, none⟩ = some (.slice A2_0 l2_0.length c2_0) := (blk_cell (HS.out.at_ 1 rfl) 0).trans rfl) | (go_at_call 20; (with_reducible refine (atomic_Agree.calls k _ _ l1_0 _ _ l2_0 _ _ _ (Kd.C_below HR1.out.1.1 HS.out.bel) HR1.out.1.2 (Kd.C_below HR2.out.1.1 HS.out.bel) HR2.out.1.2 Q1.out).mono ?_); rintro e w1 ⟨v0, rfl, hr, hb⟩; have HV := Aside0.mk (Kd.R_lower hr HS.out.bel.size); have HS := Aside0.mk (HS.out.step hb); clear hr hb; (try clear hz0 hz1 hf0 hf1 hy0 hy1); have hz0 : w1.cell? ⟨w.heap.size + 1 + 1, 0, none⟩ = some (.slice none 0 0) := (blk_cell (HS.out.at_ 0 rfl) 0).trans rfl; have hz1 : w1.cell? ⟨w.heap.size + 1 + 1, 1, none⟩ = some (.slice none 0 0) := (blk_cell (HS.out.at_ 0 rfl) 1).trans rfl; have hf0 := blk_frozen (HS.out.at_ 0 rfl) 0; have hf1 := blk_frozen (HS.out.at_ 0 rfl) 1; have hy0 : w1.cell? ⟨w.heap.size, 1, none⟩ = some (.slice A1_1 l1_1.length c1_1) := (blk_cell (HS.out.at_ 2 rfl) 1).trans rfl; have hy1 : w1.cell? ⟨w.heap.size + 1, 1, none⟩ = some (.slice A2_1 l2_1.length c2_1) := (blk_cell (HS.out.at_ 1 rfl) 1).trans rfl))
   go_cut [13, 70] (fun v13 v70 wc => v13 = .int .i64 ((max l1_1.length l2_1.length : Nat) : Int) ∧ v70 = .bool (decide (l1_1.length = 0 ∨ l2_1.length = 0)) ∧ Aside0 (BxS w wc [(w.heap.size + 1 + 1, #[.slice none 0 0, .slice none 0 0], 25), (w.heap.size + 1, #[.slice A2_0 l2_0.length c2_0, .slice A2_1 l2_1.length c2_1], 25), (w.heap.size, #[.slice A1_0 l1_0.length c1_0, .slice A1_1 l1_1.length c1_1], 25)]) ∧ Aside0 (Kd.R (Kd.int .i64) 3 wc w.heap.size (fun _ => True) v0 s))
   case first =>
    by_cases z1 : l1_1.length = 0
    ·have z1b : ((l1_1.length : Int) == 0) = true := by simp [z1]
     have Z1 := Aside0.mk z1; clear z1
     go_wp2_with (fail)
     all_goals (go_meet; (case rel => exact ⟨congrArg (Value.int .i64) (by have := Z1.out; rw [Nat.max_def]; split <;> omega), congrArg Value.bool (decide_eq_true (Or.inl Z1.out)).symm, HS, HV⟩))
    have z1b : ((l1_1.length : Int) == 0) = false := by simp; exact fun e => z1 (by simp [e])
    have Z1 := Aside0.mk z1; clear z1
    by_cases z2 : l2_1.length = 0
    ·have z2b : ((l2_1.length : Int) == 0) = true := by simp [z2]
     have Z2 := Aside0.mk z2; clear z2
     go_wp2_with (fail)
     all_goals (go_meet; (case rel => exact ⟨congrArg (Value.int .i64) (by have := Z2.out; rw [Nat.max_def]; split <;> omega), congrArg Value.bool (decide_eq_true (Or.inr Z2.out)).symm, HS, HV⟩))
    have z2b : ((l2_1.length : Int) == 0) = false := by simp; exact fun e => z2 (by simp [e])
    have Z2 := Aside0.mk z2; clear z2
    go_wp2_with (fail)
    all_goals (go_meet; (case rel => exact ⟨congrArg (Value.int .i64) (by have := Z1.out; have := Z2.out; rw [Nat.max_def]; split <;> omega), congrArg Value.bool (decide_eq_false (fun h => h.elim Z1.out Z2.out)).symm, HS, HV⟩))
   case rest =>
   clear HS HV hz0 hz1 hf0 hf1 hy0 hy1
   obtain ⟨rfl, rfl, HS, HV⟩ := hcut
   go_upto_if 70 with (fail)
   go_cut [13] (fun v13 wc => v13 = .int .i64 ((atomic_Dy.n l1_1 l2_1 : Nat) : Int) ∧ Aside0 (BxS w wc [(w.heap.size + 1 + 1, #[.slice none 0 0, .slice none 0 0], 25), (w.heap.size + 1, #[.slice A2_0 l2_0.length c2_0, .slice A2_1 l2_1.length c2_1], 25), (w.heap.size, #[.slice A1_0 l1_0.length c1_0, .slice A1_1 l1_1.length c1_1], 25)]) ∧ Aside0 (Kd.R (Kd.int .i64) 3 wc w.heap.size (fun _ => True) v0 s))
   case first =>
    by_cases z : l1_1.length = 0 ∨ l2_1.length = 0
    ·have zb : decide (l1_1.length = 0 ∨ l2_1.length = 0) = true := decide_eq_true z
     have hn : atomic_Dy.n l1_1 l2_1 = 0 := if_pos z
     have HN := Aside0.mk hn; clear hn z; rw [zb]; clear zb
     go_wp2_with (fail)
     all_goals (go_meet; (case rel => exact ⟨by rw [HN.out]; rfl, HS, HV⟩))
    ·have zb : decide (l1_1.length = 0 ∨ l2_1.length = 0) = false := decide_eq_false z
     have hn : atomic_Dy.n l1_1 l2_1 = max l1_1.length l2_1.length := if_neg z
     have HN := Aside0.mk hn; clear hn z; rw [zb]; clear zb
     go_wp2_with (fail)
     all_goals (go_meet; (case rel => exact ⟨by rw [HN.out], HS, HV⟩))
   case rest =>
   clear HS HV
   obtain ⟨rfl, HS, HV⟩ := hcut
   obtain ⟨Av, cv, hv⟩ := Kd.R_slice HV.out
   subst hv
   go_wp2_with (fail)
   have HT := Aside0.mk (OutS.mk0 HS.out rfl HV.out)
   generalize hgo : wc.heap.size = go at HT ⊢
   clear HS HV hgo
   go_loopg [74] (atomic_Dy.n l1_1 l2_1) (fun kq v74 W => ∃ (i : Nat) (acc : List S35) (v1 : Value), v74 = .int .i64 (i : Int) ∧ Aside0 (i + kq = atomic_Dy.n l1_1 l2_1) ∧ Aside0 (atomic_Dy.lp k a0 l1_0 l1_1 l2_0 l2_1 s kq i acc = some (r1, r2, r3)) ∧ Aside0 (OutS w W [(w.heap.size + 1 + 1, #[.slice none 0 0, .slice none 0 0], 25), (w.heap.size + 1, #[.slice A2_0 l2_0.length c2_0, .slice A2_1 l2_1.length c2_1], 25), (w.heap.size, #[.slice A1_0 l1_0.length c1_0, .slice A1_1 l1_1.length c1_1], 25)] go (.slice Av s.length cv) v1 v1 s acc))
   case atStart => exact ⟨0, [], _, rfl, ⟨by omega⟩, H, HT⟩
   case round =>
    clear H HT
    obtain ⟨i, acc, v1, rfl, HI, H, HT⟩ := hrel
    obtain ⟨Aq, cq, hv⟩ := Kd.R_slice HT.out.r1
    subst hv
    cases gk with
    | zero =>
     obtain ⟨rfl, rfl, rfl⟩ : s = r1 ∧ acc = r2 ∧ (0 : Int) = r3 := by have h := H.out; simp only [atomic_Dy.lp, Option.some.injEq, Prod.mk.injEq] at h; exact h
     have hn : decide (i < atomic_Dy.n l1_1 l2_1) = false := decide_eq_false (by have := HI.out; omega)
     have hg0 : wr.cell? ⟨go, 0, none⟩ = some (.slice Av s.length cv) := (blk_cell HT.out.out 0).trans rfl; have hg1 : wr.cell? ⟨go, 1, none⟩ = some (.slice Aq acc.length cq) := (blk_cell HT.out.out 1).trans rfl
     have hz0 : wr.cell? ⟨w.heap.size + 1 + 1, 0, none⟩ = some (.slice none 0 0) := (blk_cell (HT.out.bx.at_ 0 rfl) 0).trans rfl; have hz1 : wr.cell? ⟨w.heap.size + 1 + 1, 1, none⟩ = some (.slice none 0 0) := (blk_cell (HT.out.bx.at_ 0 rfl) 1).trans rfl; have hf0 := blk_frozen (HT.out.bx.at_ 0 rfl) 0; have hf1 := blk_frozen (HT.out.bx.at_ 0 rfl) 1
     go_wp2_with (fail)
     refine bodyPost_ret (results_ct rfl _ _ (w.heap.size + 1 + 1) 25 #[.slice Av s.length cv, .slice Aq acc.length cq] (0, 0) _ rfl (hf_z2 (HT.out.bx.at_ 0 rfl) _ _) Try.underlying25 rfl (by kernel_rfl)) rfl ?_
     exact ⟨_, _, rfl, HT.out.ret (List.mem_of_getElem? (i := 0) rfl)⟩
    | succ q =>
     have hn : decide (i < atomic_Dy.n l1_1 l2_1) = true := decide_eq_true (by have := HI.out; omega)
     have h := H.out; rw [atomic_Dy.lp] at h
     by_cases ci : atomic_Dy.ix l1_0 i < l1_1.length ∧ atomic_Dy.ix l2_0 i < l2_1.length
     rotate_left
     ·rw [if_neg ci] at h; cases h
     rw [if_pos ci] at h; have CI := Aside0.mk ci; clear ci H
     have H := Aside0.mk h; clear h
     have hp1 : 0 < l1_1.length := by have := CI.out.1; unfold atomic_Dy.ix at this; split at this <;> omega
     have hp2 : 0 < l2_1.length := by have := CI.out.2; unfold atomic_Dy.ix at this; split at this <;> omega
     obtain ⟨ad1, E1, e1, ea1, x10, x11, x12, xl1, xc1⟩ := at_T35 HR1.out.2.1 0 (by omega) (by omega)
     subst ea1
     have r1 : rd_T35 l1_1 0 = l1_1.getD 0 z35 := rfl
     rw [show Int.toNat 0 * 3 = 0 from rfl, r1, Addr.add_zero'] at x10 x11 x12; rw [r1] at xl1 xc1; clear r1
     have X1 := Aside0.mk (And.intro x10 (And.intro x11 x12)); have XC1 := Aside0.mk (And.intro xc1 xl1); clear x10 x11 x12 xl1 xc1
     obtain ⟨bd1, F1, f1, eb1, y10, y11, y12, yl1, yc1⟩ := at_T35 HR1.out.2.1 ((atomic_Dy.ix l1_0 i : Nat) : Int) (by omega) (by have := CI.out.1; omega)
     obtain rfl := Option.some.inj eb1; clear eb1
     have r1 : rd_T35 l1_1 ((atomic_Dy.ix l1_0 i : Nat) : Int) = l1_1.getD (atomic_Dy.ix l1_0 i) z35 := by simp [rd_T35]
     rw [Int.toNat_natCast, r1] at y10 y11 y12; rw [r1] at yl1 yc1; clear r1
     have Y1 := Aside0.mk (And.intro y10 (And.intro y11 y12)); have YC1 := Aside0.mk (And.intro yc1 yl1); clear y10 y11 y12 yl1 yc1
     obtain ⟨ad2, E2, e2, ea2, x20, x21, x22, xl2, xc2⟩ := at_T35 HR2.out.2.1 0 (by omega) (by omega)
     subst ea2
     have r2 : rd_T35 l2_1 0 = l2_1.getD 0 z35 := rfl
     rw [show Int.toNat 0 * 3 = 0 from rfl, r2, Addr.add_zero'] at x20 x21 x22; rw [r2] at xl2 xc2; clear r2
     have X2 := Aside0.mk (And.intro x20 (And.intro x21 x22)); have XC2 := Aside0.mk (And.intro xc2 xl2); clear x20 x21 x22 xl2 xc2
     obtain ⟨bd2, F2, f2, eb2, y20, y21, y22, yl2, yc2⟩ := at_T35 HR2.out.2.1 ((atomic_Dy.ix l2_0 i : Nat) : Int) (by omega) (by have := CI.out.2; omega)
     obtain rfl := Option.some.inj eb2; clear eb2
     have r2 : rd_T35 l2_1 ((atomic_Dy.ix l2_0 i : Nat) : Int) = l2_1.getD (atomic_Dy.ix l2_0 i) z35 := by simp [rd_T35]
     rw [Int.toNat_natCast, r2] at y20 y21 y22; rw [r2] at yl2 yc2; clear r2
     have Y2 := Aside0.mk (And.intro y20 (And.intro y21 y22)); have YC2 := Aside0.mk (And.intro yc2 yl2); clear y20 y21 y22 yl2 yc2
     have HQ1 : Aside0 (l1_0.length = 0 → l1_1.getD (atomic_Dy.ix l1_0 i) z35 = l1_1.getD 0 z35) := ⟨fun e => by unfold atomic_Dy.ix; rw [if_pos e]⟩
     have HQ2 : Aside0 (l2_0.length = 0 → l2_1.getD (atomic_Dy.ix l2_0 i) z35 = l2_1.getD 0 z35) := ⟨fun e => by unfold atomic_Dy.ix; rw [if_pos e]⟩
     generalize l1_1.getD (atomic_Dy.ix l1_0 i) z35 = q1 at Y1 YC1 HQ1 H
     generalize l2_1.getD (atomic_Dy.ix l2_0 i) z35 = q2 at Y2 YC2 HQ2 H
     generalize l1_1.getD 0 z35 = p1 at X1 XC1 HQ1
     generalize l2_1.getD 0 z35 = p2 at X2 XC2 HQ2
     have hpi1 : (0 : Int) < (l1_1.length : Int) := by omega
     have hpi2 : (0 : Int) < (l2_1.length : Int) := by omega
     have hz1 : wr.cell? ⟨w.heap.size, 1, none⟩ = some (.slice (some ad1) l1_1.length c1_1) := (blk_cell (HT.out.bx.at_ 2 rfl) 1).trans rfl; have hz2 : wr.cell? ⟨w.heap.size + 1, 1, none⟩ = some (.slice (some ad2) l2_1.length c2_1) := (blk_cell (HT.out.bx.at_ 1 rfl) 1).trans rfl
     go_upto_region 22 with (fail)
     clear hz1 hz2
     refine start_ (n := 12) (S := fun W' => Below wr.drew.heap.size wr.drew W') (ds := []) #[false, false, false, false, false, false, false, false, false, false, false, false] (by kernel_rfl) rfl rfl (Below.refl _ _) (fun hHeld => ?_)
     refine with_tabW atomic_Dy.tab22 atomic_Dy.bits22 (fun HT_ HW_ => ?_)
     have HT := Aside0.mk (HT.out.step (below_drew (Below.refl _ _)))
     generalize wr.drew = Wr at HT hHeld ⊢
     refine pure_ (i := 0) (N := some 77) (v := ?_) (a' := ?_) #[true, false, false, false, false, false, false, false, false, false, false, false] rfl rfl (any_of HT_.out (by kernel_rfl)) (fun _ _ _ h => h) (Or.inl ⟨by rfl, ?_⟩) ?_ ?_; rotate_left
     ·intro w'; go_simp; with_reducible rfl
     rotate_left
     ·simp only [Act.put, List.setIfInBounds_toArray, List.set_cons_zero, List.set_cons_succ, i64_w, i32_w]; rfl
     refine take_ (i := 1) (N := some 78) (v := ?_) (a' := ?_) #[true, true, false, false, false, false, false, false, false, false, false, false] rfl rfl (take_ofW HT_.out HW_.out (by kernel_rfl)) (fun _ _ _ h => h) (Or.inl ⟨by rfl, ?_⟩) hHeld ?_ ?_; rotate_left
     ·intro w' s0; have hz : w'.cell? ⟨w.heap.size, 1, none⟩ = some (.slice (some ad1) l1_1.length c1_1) := (blk_cell ((HT.out.bx.step s0).at_ 2 rfl) 1).trans rfl; go_simp; with_reducible rfl
     rotate_left
     ·simp only [Act.put, List.setIfInBounds_toArray, List.set_cons_zero, List.set_cons_succ, i64_w, i32_w]; rfl
     refine pure_ (i := 2) (N := some 79) (v := ?_) (a' := ?_) #[true, true, true, false, false, false, false, false, false, false, false, false] rfl rfl (any_of HT_.out (by kernel_rfl)) (fun _ _ _ h => h) (Or.inl ⟨by rfl, ?_⟩) ?_ ?_; rotate_left
     ·intro w'; go_simp; with_reducible rfl
     rotate_left
     ·simp only [Act.put, List.setIfInBounds_toArray, List.set_cons_zero, List.set_cons_succ, i64_w, i32_w]; rfl
     refine take_ (i := 3) (N := some 80) (v := ?_) (a' := ?_) #[true, true, true, true, false, false, false, false, false, false, false, false] rfl rfl (take_ofW HT_.out HW_.out (by kernel_rfl)) (fun _ _ _ h => h) (Or.inl ⟨by rfl, ?_⟩) hHeld ?_ ?_; rotate_left
     ·intro w' s0; have hb := (HT.out.bx.step s0).bel; have h0 := pw_cell_below hb X1.out.1; have h1 := pw_cell_below hb X1.out.2.1; have h2 := pw_cell_below hb X1.out.2.2; clear hb; go_simp; with_reducible rfl
     rotate_left
     ·simp only [Act.put, List.setIfInBounds_toArray, List.set_cons_zero, List.set_cons_succ, i64_w, i32_w]; rfl
     refine pure_ (i := 4) (N := some 81) (v := ?_) (a' := ?_) #[true, true, true, true, true, false, false, false, false, false, false, false] rfl rfl (any_of HT_.out (by kernel_rfl)) (fun _ _ _ h => h) (Or.inl ⟨by rfl, ?_⟩) ?_ ?_; rotate_left
     ·intro w'; go_simp; with_reducible rfl
     rotate_left
     ·simp only [Act.put, List.setIfInBounds_toArray, List.set_cons_zero, List.set_cons_succ, i64_w, i32_w]; rfl
     refine take_ (i := 5) (N := some 82) (v := ?_) (a' := ?_) #[true, true, true, true, true, true, false, false, false, false, false, false] rfl rfl (take_ofW HT_.out HW_.out (by kernel_rfl)) (fun _ _ _ h => h) (Or.inl ⟨by rfl, ?_⟩) hHeld ?_ ?_; rotate_left
     ·intro w' s0; have hz : w'.cell? ⟨w.heap.size + 1, 1, none⟩ = some (.slice (some ad2) l2_1.length c2_1) := (blk_cell ((HT.out.bx.step s0).at_ 1 rfl) 1).trans rfl; go_simp; with_reducible rfl
     rotate_left
     ·simp only [Act.put, List.setIfInBounds_toArray, List.set_cons_zero, List.set_cons_succ, i64_w, i32_w]; rfl
     refine pure_ (i := 6) (N := some 83) (v := ?_) (a' := ?_) #[true, true, true, true, true, true, true, false, false, false, false, false] rfl rfl (any_of HT_.out (by kernel_rfl)) (fun _ _ _ h => h) (Or.inl ⟨by rfl, ?_⟩) ?_ ?_; rotate_left
     ·intro w'; go_simp; with_reducible rfl
     rotate_left
     ·simp only [Act.put, List.setIfInBounds_toArray, List.set_cons_zero, List.set_cons_succ, i64_w, i32_w]; rfl
     refine take_ (i := 7) (N := some 84) (v := ?_) (a' := ?_) #[true, true, true, true, true, true, true, true, false, false, false, false] rfl rfl (take_ofW HT_.out HW_.out (by kernel_rfl)) (fun _ _ _ h => h) (Or.inl ⟨by rfl, ?_⟩) hHeld ?_ ?_; rotate_left
     ·intro w' s0; have hb := (HT.out.bx.step s0).bel; have h0 := pw_cell_below hb X2.out.1; have h1 := pw_cell_below hb X2.out.2.1; have h2 := pw_cell_below hb X2.out.2.2; clear hb; go_simp; with_reducible rfl
     rotate_left
     ·simp only [Act.put, List.setIfInBounds_toArray, List.set_cons_zero, List.set_cons_succ, i64_w, i32_w]; rfl
     refine join_ (σ := Nat × Nat) 2 #[true, true, true, true, true, true, true, true, true, true, false, false] (fun s_ => [(16, .pointer (some ⟨s_.1, 0, none⟩)), (17, .pointer (some ⟨s_.2, 0, none⟩))]) (fun s_ w' => BxS Wr w' [(s_.1, #[.int .i64 0, .int .i64 0, .slice none 0 0], 35), (s_.2, #[.int .i64 0, .int .i64 0, .slice none 0 0], 35)] ∧ s_.1 ≠ s_.2) ?_ ?_; rotate_left
     ·intro hCont
      refine two_ (i := 8) (j := 9) (Ni := some 16) (Nj := some 17) #[true, true, true, true, true, true, true, true, true, false, false, false] #[true, true, true, true, true, true, true, true, false, true, false, false] rfl rfl rfl rfl (two_of HT_.out (by kernel_rfl)) (by decide) (by decide) (fun K hK => ?_) (fun K hK => ?_)
      ·refine box_step ?hg (N := 16) ?hd (cs := #[.int .i64 0, .int .i64 0, .slice none 0 0]) (t := 35) ?hr ?_; (case hd => rfl); (case hg => rfl); (case hr => first | (go_simp; done) | (go_simp; rfl))
       intro g hg w1 hbox hb
       have HG := Aside0.mk hbox; have hB1 := hHeld.trans (hb.mono hHeld.size); have hl1 : Wr.heap.size ≤ g := Nat.le_trans hHeld.size (Nat.le_of_eq hg.symm); clear hbox
       refine hK.out _ _ hB1 (fun hHeld => ?_); clear hK K
       refine norm_ (a' := ?_) ?_ ?_; rotate_left
       ·show Act.put _ (some 16) _ = _
        simp only [Act.put, List.setIfInBounds_toArray, List.set_cons_zero, List.set_cons_succ, i64_w, i32_w]; rfl
       refine one_ (i := 9) (N := some 17) #[true, true, true, true, true, true, true, true, true, true, false, false] rfl rfl (one_of HT_.out (by kernel_rfl)) (by decide) (fun K hK => ?_)
       refine box_step ?hg (N := 17) ?hd (cs := #[.int .i64 0, .int .i64 0, .slice none 0 0]) (t := 35) ?hr ?_; (case hd => rfl); (case hg => rfl); (case hr => first | (go_simp; done) | (go_simp; rfl))
       intro g' hg' w2 hbox' hb'
       have hB2 := hHeld.trans (hb'.mono hHeld.size); have hl2 : Wr.heap.size ≤ g' := Nat.le_trans hHeld.size (Nat.le_of_eq hg'.symm)
       have hG1 := blk_below HG.out hb'; have hne : g < g' := hg' ▸ blk_lt HG.out
       refine hK.out _ _ hB2 (fun hHeld => ?_); clear hK K
       refine norm_ (a' := ?_) ?_ ?_; rotate_left
       ·show Act.put _ (some 17) _ = _
        simp only [Act.put, List.setIfInBounds_toArray, List.set_cons_zero, List.set_cons_succ, i64_w, i32_w]; rfl
       exact norm_ (by simp only [putAll, Act.put, List.setIfInBounds_toArray, List.set_cons_zero, List.set_cons_succ]) (hCont (g, g') _ ⟨BxS.two (Below.refl _ _) hG1 hbox' hHeld hl1 hl2, Nat.ne_of_lt hne⟩)
      ·refine box_step ?hg (N := 17) ?hd (cs := #[.int .i64 0, .int .i64 0, .slice none 0 0]) (t := 35) ?hr ?_; (case hd => rfl); (case hg => rfl); (case hr => first | (go_simp; done) | (go_simp; rfl))
       intro g hg w1 hbox hb
       have HG := Aside0.mk hbox; have hB1 := hHeld.trans (hb.mono hHeld.size); have hl1 : Wr.heap.size ≤ g := Nat.le_trans hHeld.size (Nat.le_of_eq hg.symm); clear hbox
       refine hK.out _ _ hB1 (fun hHeld => ?_); clear hK K
       refine norm_ (a' := ?_) ?_ ?_; rotate_left
       ·show Act.put _ (some 17) _ = _
        simp only [Act.put, List.setIfInBounds_toArray, List.set_cons_zero, List.set_cons_succ, i64_w, i32_w]; rfl
       refine one_ (i := 8) (N := some 16) #[true, true, true, true, true, true, true, true, true, true, false, false] rfl rfl (one_of HT_.out (by kernel_rfl)) (by decide) (fun K hK => ?_)
       refine box_step ?hg (N := 16) ?hd (cs := #[.int .i64 0, .int .i64 0, .slice none 0 0]) (t := 35) ?hr ?_; (case hd => rfl); (case hg => rfl); (case hr => first | (go_simp; done) | (go_simp; rfl))
       intro g' hg' w2 hbox' hb'
       have hB2 := hHeld.trans (hb'.mono hHeld.size); have hl2 : Wr.heap.size ≤ g' := Nat.le_trans hHeld.size (Nat.le_of_eq hg'.symm)
       have hG1 := blk_below HG.out hb'; have hne : g < g' := hg' ▸ blk_lt HG.out
       refine hK.out _ _ hB2 (fun hHeld => ?_); clear hK K
       refine norm_ (a' := ?_) ?_ ?_; rotate_left
       ·show Act.put _ (some 16) _ = _
        simp only [Act.put, List.setIfInBounds_toArray, List.set_cons_zero, List.set_cons_succ, i64_w, i32_w]; rfl
       exact norm_ (by simp only [putAll, Act.put, List.setIfInBounds_toArray, List.set_cons_zero, List.set_cons_succ]) (hCont (g', g) _ ⟨BxS.two (Below.refl _ _) hbox' hG1 hHeld hl2 hl1, Nat.ne_of_gt hne⟩)
     rintro ⟨gx, gy⟩ W1 ⟨hX, hne⟩
     dsimp only at hX hne
     have HX := Aside0.mk hX; have HN := Aside0.mk hne; clear hX hne hHeld
     refine norm_ (a' := ?_) ?_ ?_; rotate_left
     ·simp only [putAll, Act.put, List.setIfInBounds_toArray, List.set_cons_zero, List.set_cons_succ]; rfl
     refine one_ (i := 10) (N := none) #[true, true, true, true, true, true, true, true, true, true, true, false] rfl rfl (one_of HT_.out (by kernel_rfl)) (by decide) (fun K hK => ?_)
     have hs0 : W1.cell? ⟨gx, 0, none⟩ = some (.int .i64 0) := (blk_cell (HX.out.at_ 0 rfl) 0).trans rfl; have hs1 : W1.cell? ⟨gx, 1, none⟩ = some (.int .i64 0) := (blk_cell (HX.out.at_ 0 rfl) 1).trans rfl; have hs2 : W1.cell? ⟨gx, 2, none⟩ = some (.slice none 0 0) := (blk_cell (HX.out.at_ 0 rfl) 2).trans rfl; have hz0 := blk_frozen (HX.out.at_ 0 rfl) 0; have hz1 := blk_frozen (HX.out.at_ 0 rfl) 1; have hz2 := blk_frozen (HX.out.at_ 0 rfl) 2
     refine skip_ (w1 := ?_) (by rfl) rfl ?_ ?_; rotate_left
     ·go_simp; rfl
     have HX := Aside0.mk (HX.out.put3 (fun p hp => by rw [List.mem_singleton.1 hp]; exact HN.out.symm) (.int .i64 p1.f0) (.int .i64 p1.f1) (.slice E1 p1.f2.length e1))
     refine hK.out _ _ HX.out.bel (fun _ => ?_); clear hK K hs0 hs1 hs2 hz0 hz1 hz2
     generalize ((W1.setCell _ _).setCell _ _).setCell _ _ = W2 at HX ⊢
     refine one_ (i := 11) (N := none) #[true, true, true, true, true, true, true, true, true, true, true, true] rfl rfl (one_of HT_.out (by kernel_rfl)) (by decide) (fun K hK => ?_)
     have hs0 : W2.cell? ⟨gy, 0, none⟩ = some (.int .i64 0) := (blk_cell (HX.out.at_ 1 rfl) 0).trans rfl; have hs1 : W2.cell? ⟨gy, 1, none⟩ = some (.int .i64 0) := (blk_cell (HX.out.at_ 1 rfl) 1).trans rfl; have hs2 : W2.cell? ⟨gy, 2, none⟩ = some (.slice none 0 0) := (blk_cell (HX.out.at_ 1 rfl) 2).trans rfl; have hz0 := blk_frozen (HX.out.at_ 1 rfl) 0; have hz1 := blk_frozen (HX.out.at_ 1 rfl) 1; have hz2 := blk_frozen (HX.out.at_ 1 rfl) 2
     refine skip_ (w1 := ?_) (by rfl) rfl ?_ ?_; rotate_left
     ·go_simp; rfl
     have HX := Aside0.mk ((HX.out.swap.put3 (fun p hp => by rw [List.mem_singleton.1 hp]; exact HN.out) (.int .i64 p2.f0) (.int .i64 p2.f1) (.slice E2 p2.f2.length e2)).swap)
     refine hK.out _ _ HX.out.bel (fun _ => ?_); clear hK K hs0 hs1 hs2 hz0 hz1 hz2
     generalize ((W2.setCell _ _).setCell _ _).setCell _ _ = W3 at HX ⊢
     refine done_ (done_of HT_.out (by kernel_rfl)) ?_
     have HW := Aside0.mk (HT.out.step HX.out.bel)
     have hw : W3.cell? ⟨w.heap.size, 0, none⟩ = some (.slice A1_0 l1_0.length c1_0) := (blk_cell (HW.out.bx.at_ 2 rfl) 0).trans rfl
     go_upto_if 88 with (fail)
     clear hw
     go_cut [] (fun wc => ∃ (G1 : Option Addr) (g1 : Nat), Aside0 (BxS Wr wc [(gx, #[.int .i64 q1.f0, .int .i64 q1.f1, .slice G1 q1.f2.length g1], 35), (gy, #[.int .i64 p2.f0, .int .i64 p2.f1, .slice E2 p2.f2.length e2], 35)]) ∧ Aside0 (k25.C w G1 q1.f2.length q1.f2 ∧ q1.f2.length ≤ g1))
     case first =>
      by_cases z : l1_0.length = 0
      ·have zb : decide (0 < l1_0.length) = false := decide_eq_false (by omega)
       rw [zb]; clear zb
       have hq := HQ1.out z; subst hq; clear z
       go_wp2_with (fail)
       all_goals (go_meet; (case rel => exact ⟨_, _, HX, XC1⟩))
      ·have zb : decide (0 < l1_0.length) = true := decide_eq_true (by omega)
       rw [zb]; clear zb
       have hix : atomic_Dy.ix l1_0 i = i := if_neg z
       rw [hix] at Y1; have CI1 := CI.out.1; rw [hix] at CI1; clear hix z
       have hi0 : (0 : Int) ≤ (i : Int) := (by omega); have hi1 : (i : Int) < (l1_1.length : Int) := (by omega)
       have hb := HW.out.bx.bel; have h0 := pw_cell_below hb Y1.out.1; have h1 := pw_cell_below hb Y1.out.2.1; have h2 := pw_cell_below hb Y1.out.2.2; clear hb
       have hw : W3.cell? ⟨w.heap.size, 1, none⟩ = some (.slice (some ad1) l1_1.length c1_1) := (blk_cell (HW.out.bx.at_ 2 rfl) 1).trans rfl
       have hs0 : W3.cell? ⟨gx, 0, none⟩ = some (.int .i64 p1.f0) := (blk_cell (HX.out.at_ 0 rfl) 0).trans rfl; have hs1 : W3.cell? ⟨gx, 1, none⟩ = some (.int .i64 p1.f1) := (blk_cell (HX.out.at_ 0 rfl) 1).trans rfl; have hs2 : W3.cell? ⟨gx, 2, none⟩ = some (.slice E1 p1.f2.length e1) := (blk_cell (HX.out.at_ 0 rfl) 2).trans rfl; have hz0 := blk_frozen (HX.out.at_ 0 rfl) 0; have hz1 := blk_frozen (HX.out.at_ 0 rfl) 1; have hz2 := blk_frozen (HX.out.at_ 0 rfl) 2
       go_wp2_with (fail)
       all_goals (go_meet; (case rel => exact ⟨_, _, ⟨HX.out.put3 (fun p hp => by rw [List.mem_singleton.1 hp]; exact HN.out.symm) _ _ _⟩, YC1⟩))
     case rest =>
     clear HX HW
     obtain ⟨G1, g1, HX, GC1⟩ := hcut
     have HW := Aside0.mk (HT.out.step HX.out.bel)
     have hw : wc.cell? ⟨w.heap.size + 1, 0, none⟩ = some (.slice A2_0 l2_0.length c2_0) := (blk_cell (HW.out.bx.at_ 1 rfl) 0).trans rfl
     go_upto_if 97 with (fail)
     clear hw
     skip
     go_cut [] (fun wd => ∃ (G2 : Option Addr) (g2 : Nat), Aside0 (BxS Wr wd [(gx, #[.int .i64 q1.f0, .int .i64 q1.f1, .slice G1 q1.f2.length g1], 35), (gy, #[.int .i64 q2.f0, .int .i64 q2.f1, .slice G2 q2.f2.length g2], 35)]) ∧ Aside0 (k25.C w G2 q2.f2.length q2.f2 ∧ q2.f2.length ≤ g2))
     case first =>
      by_cases z : l2_0.length = 0
      ·have zb : decide (0 < l2_0.length) = false := decide_eq_false (by omega)
       rw [zb]; clear zb
       have hq := HQ2.out z; subst hq; clear z
       go_wp2_with (fail)
       all_goals (go_meet; (case rel => exact ⟨_, _, HX, XC2⟩))
      ·have zb : decide (0 < l2_0.length) = true := decide_eq_true (by omega)
       rw [zb]; clear zb
       have hix : atomic_Dy.ix l2_0 i = i := if_neg z
       rw [hix] at Y2; have CI2 := CI.out.2; rw [hix] at CI2; clear hix z
       have hi0 : (0 : Int) ≤ (i : Int) := (by omega); have hi1 : (i : Int) < (l2_1.length : Int) := (by omega)
       have hb := HW.out.bx.bel; have h0 := pw_cell_below hb Y2.out.1; have h1 := pw_cell_below hb Y2.out.2.1; have h2 := pw_cell_below hb Y2.out.2.2; clear hb
       have hw : wc.cell? ⟨w.heap.size + 1, 1, none⟩ = some (.slice (some ad2) l2_1.length c2_1) := (blk_cell (HW.out.bx.at_ 1 rfl) 1).trans rfl
       have hs0 : wc.cell? ⟨gy, 0, none⟩ = some (.int .i64 p2.f0) := (blk_cell (HX.out.at_ 1 rfl) 0).trans rfl; have hs1 : wc.cell? ⟨gy, 1, none⟩ = some (.int .i64 p2.f1) := (blk_cell (HX.out.at_ 1 rfl) 1).trans rfl; have hs2 : wc.cell? ⟨gy, 2, none⟩ = some (.slice E2 p2.f2.length e2) := (blk_cell (HX.out.at_ 1 rfl) 2).trans rfl; have hz0 := blk_frozen (HX.out.at_ 1 rfl) 0; have hz1 := blk_frozen (HX.out.at_ 1 rfl) 1; have hz2 := blk_frozen (HX.out.at_ 1 rfl) 2
       go_wp2_with (fail)
       all_goals (go_meet; (case rel => exact ⟨_, _, ⟨(HX.out.swap.put3 (fun p hp => by rw [List.mem_singleton.1 hp]; exact HN.out) _ _ _).swap⟩, YC2⟩))
     case rest =>
     clear HX HW X1 X2 Y1 Y2 HQ1 HQ2 XC1 XC2 YC1 YC2 hpi1 hpi2 hp1 hp2
     obtain ⟨G2, g2, HX, GC2⟩ := hcut
     have HW := Aside0.mk (HT.out.step HX.out.bel)
     obtain ⟨⟨b1, b2, b3, b4⟩, qc, h⟩ := Option.bind_eq_some_iff.1 H.out; have QC := Aside0.mk qc; clear qc H; dsimp only at h
     have HWR : Aside0 (wrap64 ((i : Int) + 1) = ((i + 1 : Nat) : Int)) := ⟨by have := HI.out; have := HN1.out; have := HN2.out; have hn2 : atomic_Dy.n l1_1 l2_1 ≤ max l1_1.length l2_1.length := (by unfold atomic_Dy.n; split <;> omega); rw [Nat.max_def] at hn2; unfold wrap64; split at hn2 <;> omega⟩
     have xs0 : wc.cell? ⟨gx, 0, none⟩ = some (.int .i64 q1.f0) := (blk_cell (HX.out.at_ 0 rfl) 0).trans rfl; have xs1 : wc.cell? ⟨gx, 1, none⟩ = some (.int .i64 q1.f1) := (blk_cell (HX.out.at_ 0 rfl) 1).trans rfl; have xs2 : wc.cell? ⟨gx, 2, none⟩ = some (.slice G1 q1.f2.length g1) := (blk_cell (HX.out.at_ 0 rfl) 2).trans rfl; have ys0 : wc.cell? ⟨gy, 0, none⟩ = some (.int .i64 q2.f0) := (blk_cell (HX.out.at_ 1 rfl) 0).trans rfl; have ys1 : wc.cell? ⟨gy, 1, none⟩ = some (.int .i64 q2.f1) := (blk_cell (HX.out.at_ 1 rfl) 1).trans rfl; have ys2 : wc.cell? ⟨gy, 2, none⟩ = some (.slice G2 q2.f2.length g2) := (blk_cell (HX.out.at_ 1 rfl) 2).trans rfl
     by_cases ce : b4 = 0
     rotate_left
     ·rw [if_neg ce] at h; simp only [Option.some.injEq, Prod.mk.injEq] at h; obtain ⟨rfl, rfl, rfl⟩ := h; have ceb : (b4 != 0) = true := bne_iff_ne.2 ce; clear ce
      go_wp2_with (go_at_call 14; (with_reducible refine (atomic_Cell.calls k a0 q1.f0 q1.f1 _ _ q1.f2 q2.f0 q2.f1 _ _ q2.f2 b1 b2 b3 _ _ (Kd.C_below GC1.out.1 HW.out.bx.bel) GC1.out.2 (Kd.C_below GC2.out.1 HW.out.bx.bel) GC2.out.2 QC.out).mono ?_); rintro e w5 ⟨v2, rfl, hR, hb⟩; have HR := Aside0.mk (Kd.R_lower (Kd.R_mono (Kd.R_bound hR) (fun k hk => (hk.2.1 : wc.heap.size ≤ k))) HW.out.bx.bel.size); clear hR; obtain ⟨Ab, cb, hv⟩ := Kd.R_slice HR.out; subst hv; have HT6 := Aside0.mk ((HW.out.step hb).step (below_alloc (Below.refl _ _) (.cells #[.int .i64 b1, .int .i64 b2, .slice Ab b3.length cb] 35))); clear hb; have hz0 : (w5.alloc (.cells #[.int .i64 b1, .int .i64 b2, .slice Ab b3.length cb] 35)).cell? ⟨w.heap.size + 1 + 1, 0, none⟩ = some (.slice none 0 0) := (blk_cell (HT6.out.bx.at_ 0 rfl) 0).trans rfl; have hz1 : (w5.alloc (.cells #[.int .i64 b1, .int .i64 b2, .slice Ab b3.length cb] 35)).cell? ⟨w.heap.size + 1 + 1, 1, none⟩ = some (.slice none 0 0) := (blk_cell (HT6.out.bx.at_ 0 rfl) 1).trans rfl; have hf0 := blk_frozen (HT6.out.bx.at_ 0 rfl) 0; have hf1 := blk_frozen (HT6.out.bx.at_ 0 rfl) 1; have hg1 : (w5.alloc (.cells #[.int .i64 b1, .int .i64 b2, .slice Ab b3.length cb] 35)).cell? ⟨go, 1, none⟩ = some (.slice Aq acc.length cq) := (blk_cell HT6.out.out 1).trans rfl)
      all_goals (refine bodyPost_ret (results_ct rfl _ _ (w.heap.size + 1 + 1) 25 #[.slice none 0 0, .slice none 0 0] (0, 0) _ rfl (hf_z2 (HT6.out.bx.at_ 0 rfl) _ _) Try.underlying25 rfl (by kernel_rfl)) rfl ?_; exact ⟨_, _, rfl, Kd.R_nil _ _ _ _ _, Kd.R_nil _ _ _ _ _, below_set (below_set HT6.out.bx.bel (HT6.out.bx.fr _ (List.mem_of_getElem? (i := 0) rfl))) (HT6.out.bx.fr _ (List.mem_of_getElem? (i := 0) rfl))⟩)
     rw [if_pos ce] at h; subst ce
     by_cases cl : acc.length < 3518437208883
     rotate_left
     ·rw [if_neg cl] at h; cases h
     rw [if_pos cl] at h; have H := Aside0.mk h; have CL := Aside0.mk cl; clear h cl
     go_wp2_with (first | (go_at_call 14; (with_reducible refine (atomic_Cell.calls k a0 q1.f0 q1.f1 _ _ q1.f2 q2.f0 q2.f1 _ _ q2.f2 b1 b2 b3 _ _ (Kd.C_below GC1.out.1 HW.out.bx.bel) GC1.out.2 (Kd.C_below GC2.out.1 HW.out.bx.bel) GC2.out.2 QC.out).mono ?_); rintro e w5 ⟨v2, rfl, hR, hb⟩; have HR := Aside0.mk (Kd.R_lower (Kd.R_mono (Kd.R_bound hR) (fun k hk => (hk.2.1 : wc.heap.size ≤ k))) HW.out.bx.bel.size); clear hR; obtain ⟨Ab, cb, hv⟩ := Kd.R_slice HR.out; subst hv; have HT6 := Aside0.mk ((HW.out.step hb).step (below_alloc (Below.refl _ _) (.cells #[.int .i64 b1, .int .i64 b2, .slice Ab b3.length cb] 35))); clear hb; have hz0 : (w5.alloc (.cells #[.int .i64 b1, .int .i64 b2, .slice Ab b3.length cb] 35)).cell? ⟨w.heap.size + 1 + 1, 0, none⟩ = some (.slice none 0 0) := (blk_cell (HT6.out.bx.at_ 0 rfl) 0).trans rfl; have hz1 : (w5.alloc (.cells #[.int .i64 b1, .int .i64 b2, .slice Ab b3.length cb] 35)).cell? ⟨w.heap.size + 1 + 1, 1, none⟩ = some (.slice none 0 0) := (blk_cell (HT6.out.bx.at_ 0 rfl) 1).trans rfl; have hf0 := blk_frozen (HT6.out.bx.at_ 0 rfl) 0; have hf1 := blk_frozen (HT6.out.bx.at_ 0 rfl) 1; have hg1 : (w5.alloc (.cells #[.int .i64 b1, .int .i64 b2, .slice Ab b3.length cb] 35)).cell? ⟨go, 1, none⟩ = some (.slice Aq acc.length cq) := (blk_cell HT6.out.out 1).trans rfl) | ((with_reducible refine gate_builtin (b := .append) (xs := #[.tmp 115, .tmp 117]) rfl ?_); at_builtin; refine OutS.app HT6.out rfl (.tmp 115) (.tmp 117) 23 (.agg #[(.int .i64 0), (.int .i64 0), (.slice none 0 0)]) rfl Try.underlying23 info35 rfl rfl (by first | (go_simp; done) | (go_simp; rfl)) (⟨b1, b2, b3⟩ : S35) [.int .i64 b1, .int .i64 b2, .slice Ab b3.length cb] (fun k => wc.heap.size ≤ k) (k35_mkM _ _ _ (⟨b1, b2, b3⟩ : S35) (Kd.R_alloc HR.out _)) (fun k hk => HW.out.okf k hk) (by have := CL.out; omega) ?_; intro v3 w7 hT7; have HT7 := Aside0.mk hT7; clear hT7; obtain ⟨A7, c7, hv⟩ := Kd.R_slice HT7.out.r1; rw [List.length_append, List.length_singleton] at hv; subst hv; have hq1 : w7.cell? ⟨go, 1, none⟩ = some (.slice Aq acc.length cq) := (blk_cell HT7.out.out 1).trans rfl; have hqf := blk_frozen HT7.out.out 1))
     go_roundg q
     case measure => omega
     case rel => exact ⟨i + 1, acc ++ [⟨b1, b2, b3⟩], .slice A7 (acc.length + 1) c7, congrArg (Value.int .i64) HWR.out, ⟨by have := HI.out; omega⟩, H, ⟨HT7.out.put1⟩⟩
def triglyphref03_Nums.l0 : Nat → List Int → Int → List Int → List (S35) → Option (List Int × (List (S35)))
 | 0, _, _, _, _ => none
 | k + 1, x0, x4, x187000, x187001 => if x4 < (x0.length : Int) then (if 0 ≤ x4 then (if x187001.length < 3518437208883 then (triglyphref03_Nums.l0 k x0 (wrap64 (x4 + 1)) x187000 (x187001 ++ [(⟨0, rd x0 x4, ([] : List (S25))⟩ : S35)])) else (none)) else (none)) else (some (x187000, x187001))
def triglyphref03_Nums.f (k : Nat) (l0 : List Int) : Option (List Int × (List (S35))) := triglyphref03_Nums.l0 k l0 0 (([(l0.length : Int)] : List Int)) ([] : List (S35))
theorem triglyphref03_Nums.mono_l : ∀ k, (∀ y0 y1 y2 y3, LeO (triglyphref03_Nums.l0 k y0 y1 y2 y3) (triglyphref03_Nums.l0 (k + 1) y0 y1 y2 y3))
 | 0 => fun _ _ _ _ r h => by simp [triglyphref03_Nums.l0] at h
 | k + 1 => by
  have ih0 := triglyphref03_Nums.mono_l k
  ·intro y0 y1 y2 y3
   unfold triglyphref03_Nums.l0
   repeat' first
   | (with_reducible exact ih0 _ _ _ _)
   | (with_reducible exact LeO.refl _)
   | (with_reducible exact LeO.none _)
   | (with_reducible refine LeO.ite ?_ ?_)
   | (with_reducible refine LeO.bind ?_ (fun _ => ?_))
theorem triglyphref03_Nums.mono : ∀ a0 k, LeO (triglyphref03_Nums.f k a0) (triglyphref03_Nums.f (k + 1) a0) := by
 intro a0 k
 have ih0 := triglyphref03_Nums.mono_l k
 unfold triglyphref03_Nums.f
 repeat' first
   | (with_reducible exact ih0 _ _ _ _)
   | (with_reducible exact LeO.refl _)
   | (with_reducible exact LeO.none _)
   | (with_reducible refine LeO.ite ?_ ?_)
   | (with_reducible refine LeO.bind ?_ (fun _ => ?_))
def triglyphref03_Nums.T5 : Bool × List (List Nat × List Nat) := (true, [([], []), ([0], [0]), ([], []), ([], []), ([2, 3], [2, 3]), ([4], [4]), ([5], [5]), ([6], [6]), ([1, 7], [1, 7]), ([0, 1, 2, 3, 4, 5, 6, 7, 8], []), ([9, 8, 8, 0, 1, 2, 3, 4, 5, 6, 7, 8], [8, 9])])
def triglyphref03_Nums.B5 : List Nat := [0, 1, 0, 0, 12, 28, 60, 124, 255, 511, 1023]
theorem triglyphref03_Nums.tab5 : rtab .any (opsOf Try.f25 5) = triglyphref03_Nums.T5 := by kernel_rfl
theorem triglyphref03_Nums.bits5 : waitsOk triglyphref03_Nums.T5.2 triglyphref03_Nums.B5 = true := by kernel_rfl
set_option maxHeartbeats 8000000 in
set_option maxRecDepth 100000 in
theorem triglyphref03_Nums.calls (k : Nat) (A0 : Option Addr) (c0 : Nat) (l0 : List Int) (r1 : List Int) (r2 : List (S35)) (w : World) (hr0 : Kd.C (Kd.int .i64) w A0 l0.length l0) (hc0 : l0.length ≤ c0) (h : triglyphref03_Nums.f k l0 = some (r1, r2)) :
  Calls Try.prog 25 #[.slice A0 l0.length c0] w fun e w' => ∃ v0_ v1_ : Value, e = .returned (.agg #[v0_, v1_]) ∧ Kd.R (Kd.int .i64) 3 w' w.heap.size (fun _ => True) v0_ r1 ∧ Kd.R k35 35 w' w.heap.size (fun k_ => some k_ ≠ (v0_ : Value).ownBlock) v1_ r2 ∧ Below w.heap.size w w' := by
 have hu25 := Try.underlying25
 have hu35 := Try.underlying35
 have HR0 := gA hr0
 have HC0 := gA hc0
 clear hr0 hc0
 have HB := gA (Below.refl w.heap.size w)
 have H : (triglyphref03_Nums.l0 k l0 0 (([(l0.length : Int)] : List Int)) ([] : List (S35))) = some (r1, r2) := h
 clear h
 obtain ⟨y183, hy183⟩ : ∃ y_ : List Int, y_ = (([(l0.length : Int)] : List Int)) := ⟨_, rfl⟩
 replace H : (triglyphref03_Nums.l0 k l0 0 y183 ([] : List (S35))) = some (r1, r2) := by first | (rw [hy183]; with_reducible exact H) | (have H2_ := (Option.bind_some _ _).symm.trans H; rw [hy183]; with_reducible exact H2_) | (have H2_ := (Option.bind_some _ _).symm.trans H; with_reducible exact H2_) | with_reducible exact H | (rw [hy183]; exact H) | exact H
 have Ny183 := gA hy183
 clear hy183
 have H' := gA H
 clear H
 go_enter Try.func25, Try.ntmps25
 go_wp2_with (first | ((with_reducible refine gate_dst (N := 2) rfl ?_); refine box_event ?hg (N := 2) ?hd (cs := #[.slice none 0 0, .slice none 0 0]) (t := 25) ?hr ?_; (case hd => rfl); (case hg => rfl); (case hr => first | (go_simp; done) | (go_simp; rfl)); intro gb182 hg w2 hbox hb; have BK182 := gA (hbox); have GW182 := gA ((by rw [hg]; exact (below_size (gB HB)) : w.heap.size ≤ gb182)); have GE182 := gA ((by rw [hg]; exact (below_size (gB HB)) : w.heap.size ≤ gb182)); replace HB := gA (below_step (gB HB) hb); clear hb hbox hg) | ((with_reducible refine gate_dst (N := 7) rfl ?_); refine Kd.R_lit (Kd.int .i64) _ 3 ?hg (N := 7) ?hd (xs := ([(l0.length : Int)] : List Int)) (inner := [.int .i64 (l0.length : Int)]) (ok := fun _ => True) (okp := fun _ => True) ?hr ?hp (fun _ hk => hk) trivial (Below.refl _ _) (Nat.le_refl _) (by simp) ?_; (case hd => rfl); (case hg => rfl); (case hr => first | (go_simp; done) | (go_simp; rfl)); (case hp => exact (Reps.one (show Kd.M (Kd.int .i64) _ _ _ (l0.length : Int) [.int .i64 (l0.length : Int)] from rfl) (Reps.none _ _))); intro v184 w3 ho4 hb hg_ hnew_; clear hg_ hnew_; (first | rw [← Ny183.out] at ho4 | (simp only [Int.reduceToNat] at ho4; rw [← Ny183.out] at ho4)); have HO185 := gA (Kd.R_lower ho4 (below_size (gB HB))); replace BK182 := gA (blk_below (gK BK182) hb); replace HB := gA (below_step (gB HB) hb); clear hb ho4; obtain ⟨Ao5, co5, eo5⟩ := Kd.R_slice HO185.out; subst eo5) | ((with_reducible refine gate_dst (N := 3) rfl ?_); refine box_event ?hg (N := 3) ?hd (cs := #[.slice none 0 0, .slice none 0 0]) (t := 25) ?hr ?_; (case hd => rfl); (case hg => rfl); (case hr => first | (go_simp; done) | (go_simp; rfl)); intro gb186 hg w6 hbox hb; replace HO185 := gA (Kd.R_below (gR HO185) hb); have BK186 := gA (hbox); have GW186 := gA ((by rw [hg]; exact (below_size (gB HB)) : w.heap.size ≤ gb186)); have GE186 := gA ((by rw [hg]; exact (below_size (gB HB)) : w.heap.size ≤ gb186)); replace HB := gA (below_step (gB HB) hb); have NB182_186 := gA ((by rw [hg]; exact Nat.ne_of_lt (blk_lt (gK BK182)) : gb182 ≠ gb186)); have NB186_182 := gA ((by rw [hg]; exact Nat.ne_of_gt (blk_lt (gK BK182)) : gb186 ≠ gb182)); replace BK182 := gA (blk_below (gK BK182) hb); clear hb hbox hg; have hnb7 := NB186_182.out; have hnc7 := NB182_186.out; obtain ⟨hcz8_0, hcz8_1, hfz8_0, hfz8_1⟩ := gz2 BK186))
 go_loopg [4] k (fun kq v4 w' => ∃ (x4_1 : Int) (x187001_1 : List (S35)) (u187001 : Value), v4 = .int .i64 x4_1 ∧ Aside0 (triglyphref03_Nums.l0 kq l0 x4_1 y183 x187001_1 = some (r1, r2)) ∧ Aside0 (kq ≤ k) ∧ Aside0 (Kd.R (Kd.int .i64) 3 w' w.heap.size (fun _ => True) (.slice Ao5 y183.length co5) y183) ∧ Aside0 (Kd.R k35 35 w' w.heap.size (fun k_ => some k_ ≠ ((.slice Ao5 y183.length co5) : Value).ownBlock ∧ k_ ≠ gb182 ∧ k_ ≠ gb186) u187001 x187001_1) ∧ Aside0 (w'.heap[gb182]? = some (.cells #[(.slice none 0 0), (.slice none 0 0)] 25 (0, 0))) ∧ Aside0 (w'.heap[gb186]? = some (.cells #[(.slice Ao5 y183.length co5), u187001] 25 (0, 0))) ∧ Aside0 (Below w.heap.size w w'))
 case atStart => exact ⟨(0), (([] : List (S35))), (.slice none 0 0), (rfl), H', ⟨Nat.le_refl _⟩, ⟨Kd.R_mono (Kd.R_far (p := ⟨gb186, 1, none⟩) (Kd.R_far (p := ⟨gb186, 0, none⟩) (Kd.R_types HO185.out BK186.out (by decide)) (fun _ hk => hk.2) (.slice Ao5 y183.length co5)) (fun _ hk => hk.2) (.slice none 0 0)) (fun _ hk => trivial)⟩, ⟨by first | exact Kd.R_nil _ _ _ _ _ | exact Kd.N_nil _ _ _ _ _ | exact Kd.V_nil _ _ _ _ _ | exact Kd.Q_nil _ _ _ _ _ | exact Kd.S_nil _ _ _ _ _⟩, ⟨by refine blk_far ?_ NB182_186.out _; refine blk_far ?_ NB182_186.out _; exact gK BK182⟩, ⟨by refine blk_put (cs := #[.slice Ao5 y183.length co5, .slice none 0 0]) ?_ 1 _ rfl; refine blk_put (cs := #[.slice none 0 0, .slice none 0 0]) ?_ 0 _ rfl; exact gK BK186⟩, ⟨by repeat first | exact gB HB | refine below_set ?_ GE182.out | refine below_set ?_ GE186.out⟩⟩
 case round =>
  clear H'
  try clear c2
  try clear p2
  try clear c7
  try clear hcz8_0
  try clear hcz8_1
  try clear hfz8_0
  try clear hfz8_1
  obtain ⟨x4_1, x187001_1, u187001, rfl, HA, HK1, HO_187000, HO_187001, BK182, BK186, HB⟩ := hrel
  cases gk with
  | zero => exact absurd HA.out (by simp [triglyphref03_Nums.l0])
  | succ k1 =>
   have H := HA.out; clear HA
   simp only [triglyphref03_Nums.l0] at H
   by_cases c9 : x4_1 < (l0.length : Int)
   ·rw [if_pos c9] at H
    have c9b0 := decide_eq_true c9
    clear c9
    obtain ⟨c10, H⟩ := iS H
    have c10b0 := decide_eq_true c10
    clear c10
    obtain ⟨c11, H⟩ := iS H
    have LMc11 := gA c11
    clear c11
    obtain ⟨y188, hy188⟩ : ∃ y_ : List (S35), y_ = (x187001_1 ++ [(⟨0, rd l0 x4_1, ([] : List (S25))⟩ : S35)]) := ⟨_, rfl⟩
    replace H : (triglyphref03_Nums.l0 k1 l0 (wrap64 (x4_1 + 1)) y183 y188) = some (r1, r2) := by first | (rw [hy188]; with_reducible exact H) | (have H2_ := (Option.bind_some _ _).symm.trans H; rw [hy188]; with_reducible exact H2_) | (have H2_ := (Option.bind_some _ _).symm.trans H; with_reducible exact H2_) | with_reducible exact H | (rw [hy188]; exact H) | exact H
    have Ny188 := gA hy188
    clear hy188
    have H' := gA H
    clear H
    try go_wp2
    replace HO_187000 := gA (Kd.R_drew HO_187000.out); replace HO_187001 := gA (Kd.R_drew HO_187001.out); replace BK182 := gA (blk_drew BK182.out); replace BK186 := gA (blk_drew BK186.out); replace HB := gA (below_drew1 HB.out)
    have p187 : 0 ≤ (x4_1 : Int) := of_decide_eq_true (by assumption)
    have q187 : x4_1 < (l0.length : Int) := of_decide_eq_true (by assumption)
    obtain ⟨ad187, e187, hx187_0⟩ := Kd.at_int HR0.out x4_1 p187 q187
    have hw187_0 := hx187_0
    cases e187
    replace hx187_0 := (HB.out.cell (World.block_lt_of_cell? w _ hx187_0)).trans hx187_0
    replace p187 := eq_true p187
    replace q187 := eq_true q187
    refine start_ (n := 11) (S := fun w' => w'.cell? ⟨gb186, 0, none⟩ = some (.slice Ao5 y183.length co5) ∧ w'.cell? ⟨gb186, 1, none⟩ = some (u187001) ∧ w'.cell? (ad187.add (x4_1).toNat) = some (.int .i64 (rd l0 x4_1))) (ds := [10]) #[false, false, false, false, false, false, false, false, false, false, false] (by kernel_rfl) rfl rfl ⟨(blk_cell BK186.out 0).trans rfl, (blk_cell BK186.out 1).trans rfl, ((HB.out.cell (World.block_lt_of_cell? w _ hw187_0)).trans hw187_0)⟩ (fun hHeld => ?_); refine with_tabW triglyphref03_Nums.tab5 triglyphref03_Nums.bits5 (fun HT_ HW_ => ?_)
    generalize wr.drew = w12 at HO_187000 HO_187001 BK182 BK186 HB hx187_0 hHeld ⊢
    refine pure_ (i := 0) (N := some 15) (v := ?_) (a' := ?_) #[true, false, false, false, false, false, false, false, false, false, false] rfl rfl (any_of HT_.out (by kernel_rfl)) (fun _ _ _ h => h) (Or.inl ⟨by rfl, ?_⟩) ?_ ?_; rotate_left
    ·intro w'; go_simp; with_reducible rfl
    rotate_left
    ·simp only [Act.put, List.setIfInBounds_toArray, List.set_cons_zero, List.set_cons_succ, i64_w, i32_w]; rfl
    refine pure_ (i := 2) (N := some 17) (v := ?_) (a' := ?_) #[true, false, true, false, false, false, false, false, false, false, false] rfl rfl (any_of HT_.out (by kernel_rfl)) (fun _ _ _ h => h) (Or.inl ⟨by rfl, ?_⟩) ?_ ?_; rotate_left
    ·intro w'; go_simp; with_reducible rfl
    rotate_left
    ·simp only [Act.put, List.setIfInBounds_toArray, List.set_cons_zero, List.set_cons_succ, i64_w, i32_w]; rfl
    refine pure_ (i := 3) (N := some 18) (v := ?_) (a' := ?_) #[true, false, true, true, false, false, false, false, false, false, false] rfl rfl (any_of HT_.out (by kernel_rfl)) (fun _ _ _ h => h) (Or.inl ⟨by rfl, ?_⟩) ?_ ?_; rotate_left
    ·intro w'; go_simp; with_reducible rfl
    rotate_left
    ·simp only [Act.put, List.setIfInBounds_toArray, List.set_cons_zero, List.set_cons_succ, i64_w, i32_w]; rfl
    refine pure_ (i := 4) (N := some 19) (v := ?_) (a' := ?_) #[true, false, true, true, true, false, false, false, false, false, false] rfl rfl (any_of HT_.out (by kernel_rfl)) (fun _ _ _ h => h) (Or.inl ⟨by rfl, ?_⟩) ?_ ?_; rotate_left
    ·intro w'; go_simp; with_reducible rfl
    rotate_left
    ·simp only [Act.put, List.setIfInBounds_toArray, List.set_cons_zero, List.set_cons_succ, i64_w, i32_w]; rfl
    refine take_ (i := 1) (N := some 16) (v := ?_) (a' := ?_) #[true, true, true, true, true, false, false, false, false, false, false] rfl rfl (take_ofW HT_.out HW_.out (by kernel_rfl)) (fun _ _ _ h => h) (Or.inl ⟨by rfl, ?_⟩) hHeld ?_ ?_; rotate_left
    ·rintro w' ⟨s0, s1, s2⟩; go_simp; with_reducible rfl
    rotate_left
    ·simp only [Act.put, List.setIfInBounds_toArray, List.set_cons_zero, List.set_cons_succ, i64_w, i32_w]; rfl
    refine take_ (i := 5) (N := some 20) (v := ?_) (a' := ?_) #[true, true, true, true, true, true, false, false, false, false, false] rfl rfl (take_ofW HT_.out HW_.out (by kernel_rfl)) (fun _ _ _ h => h) (Or.inl ⟨by rfl, ?_⟩) hHeld ?_ ?_; rotate_left
    ·rintro w' ⟨s0, s1, s2⟩; go_simp; with_reducible rfl
    rotate_left
    ·simp only [Act.put, List.setIfInBounds_toArray, List.set_cons_zero, List.set_cons_succ, i64_w, i32_w]; rfl
    refine pure_ (i := 6) (N := some 21) (v := ?_) (a' := ?_) #[true, true, true, true, true, true, true, false, false, false, false] rfl rfl (any_of HT_.out (by kernel_rfl)) (fun _ _ _ h => h) (Or.inl ⟨by rfl, ?_⟩) ?_ ?_; rotate_left
    ·intro w'; go_simp; with_reducible rfl
    rotate_left
    ·simp only [Act.put, List.setIfInBounds_toArray, List.set_cons_zero, List.set_cons_succ, i64_w, i32_w]; rfl
    refine one_ (i := 7) (N := some 22) #[true, true, true, true, true, true, true, true, false, false, false] rfl rfl (one_of HT_.out (by kernel_rfl)) (by decide) (fun K hK => ?_)
    refine value_ (w1 := ?_) (v := ?_) (by rfl) rfl ?_ ?_
    rotate_left 2
    ·go_simp
     constructor
     ·rfl
     ·rfl
    refine hK.out _ _ ⟨(blk_cell (blk_alloc BK186.out _) 0).trans rfl, (blk_cell (blk_alloc BK186.out _) 1).trans rfl, (World.cell?_alloc_lt _ _ _ (World.block_lt_of_cell? _ _ (((HB.out.cell (World.block_lt_of_cell? w _ hw187_0)).trans hw187_0)))).trans (((HB.out.cell (World.block_lt_of_cell? w _ hw187_0)).trans hw187_0))⟩ (fun hHeld => ?_); clear hK K
    refine norm_ (a' := ?_) ?_ ?_; rotate_left
    ·show Act.put _ (some 22) _ = _
     simp only [Act.put, List.setIfInBounds_toArray, List.set_cons_zero, List.set_cons_succ, i64_w, i32_w]; rfl
    refine one_ (i := 8) (N := some 23) #[true, true, true, true, true, true, true, true, true, false, false] rfl rfl (one_of HT_.out (by kernel_rfl)) (by decide) (fun K hK => ?_)
    refine Kd.R_append_step k35 (w0 := w) w.heap.size (by rfl) (.tmp 16) (.tmp 22) 23 35 (.agg #[(.int .i64 0), (.int .i64 0), (.slice none 0 0)]) 40 rfl Try.underlying23 info35 rfl (by decide) (by omega) u187001 x187001_1 (⟨0, rd l0 x4_1, ([] : List (S25))⟩ : S35) [.int .i64 0, .int .i64 (rd l0 x4_1), .slice none 0 0] (fun k_ => some k_ ≠ (.slice Ao5 y183.length co5 : Value).ownBlock ∧ k_ ≠ gb182 ∧ k_ ≠ gb186) (fun k_ => ((fun k_ => some k_ ≠ (.slice Ao5 y183.length co5 : Value).ownBlock ∧ k_ ≠ gb182 ∧ k_ ≠ gb186)) k_ ∧ some k_ ≠ (u187001 : Value).ownBlock) rfl rfl ?aP (fun _ hk => hk) ?aF ?aO ?aB ?aS ?aL ?_
    (case aP => exact k35_mkM _ _ _ (⟨0, rd l0 x4_1, ([] : List (S25))⟩ : S35) (Kd.R_nil _ _ _ _ _))
    (case aB => exact (gB HB))
    (case aF => exact (fun k_ hk => ⟨Kd.fresh' (Kd.R_lt (gR HO_187000)) k_ hk, Kd.freshB (gK BK182) k_ hk, Kd.freshB (gK BK186) k_ hk⟩))
    (case aO => exact (gR HO_187001))
    (case aS => exact (below_size (gB HB)))
    (case aL => have := LMc11.out; omega)
    intro v189 w13 ho hb hg hat
    rw [← Ny188.out] at ho
    replace HO_187000 := gA (Kd.R_over' (gR HO_187000) (Kd.R_typed (gR HO_187001)) (by decide) hg); replace BK182 := gA (blk_grown (gK BK182) hg (Kd.R_ne HO_187001.out BK182.out (by decide))); replace BK186 := gA (blk_grown (gK BK186) hg (Kd.R_ne HO_187001.out BK186.out (by decide))); replace HB := gA (hb); have HO190 := gA (ho); clear HO_187001 ho hb hg hat
    obtain ⟨Ao14, co14, eo14⟩ := Kd.R_slice HO190.out
    (first | subst eo14 | (injection eo14 with f1_ f2_ f3_; have f4_ := f1_.symm; have f5_ := f3_.symm; clear f1_ f2_ f3_; subst f4_; subst f5_))
    refine hK.out _ _ ⟨(blk_cell BK186.out 0).trans rfl, (blk_cell BK186.out 1).trans rfl, ((HB.out.cell (World.block_lt_of_cell? w _ hw187_0)).trans hw187_0)⟩ (fun hHeld => ?_); clear hK K
    refine norm_ (a' := ?_) ?_ ?_; rotate_left
    ·show Act.put _ (some 23) _ = _
     simp only [Act.put, List.setIfInBounds_toArray, List.set_cons_zero, List.set_cons_succ, i64_w, i32_w]; rfl
    refine pure_ (i := 9) (N := some 24) (v := ?_) (a' := ?_) #[true, true, true, true, true, true, true, true, true, true, false] rfl rfl (any_of HT_.out (by kernel_rfl)) (fun _ _ _ h => h) (Or.inl ⟨by rfl, ?_⟩) ?_ ?_; rotate_left
    ·intro w'; go_simp; with_reducible rfl
    rotate_left
    ·simp only [Act.put, List.setIfInBounds_toArray, List.set_cons_zero, List.set_cons_succ, i64_w, i32_w]; rfl
    refine last_ (i := 10) (N := none) #[true, true, true, true, true, true, true, true, true, true, true] rfl rfl (one_of HT_.out (by kernel_rfl)) (by decide) (fun K hK => ?_)
    have hs15 := gz BK186 1 rfl
    have hfs15 := blk_frozen BK186.out 1
    have hns15_0 := NB182_186.out
    have hms15_0 := NB186_182.out
    refine skip_ (w1 := ?_) (by rfl) rfl ?_ ?_; rotate_left
    ·go_simp; rfl
    refine hK.out _ _ ?_; clear hK K
    refine done_ (done_of HT_.out (by kernel_rfl)) ?_
    try go_wp2
    go_roundg k1
    case measure => have := HK1.out; omega
    case rel => exact ⟨(wrap64 (x4_1 + 1)), (y188), (.slice Ao14 y188.length co14), (rfl), H', ⟨by have := HK1.out; omega⟩, ⟨Kd.R_mono (Kd.R_far (p := ⟨gb186, 1, none⟩) (Kd.R_types HO_187000.out BK186.out (by decide)) (fun _ hk => hk.2) (.slice Ao14 y188.length co14)) (fun _ hk => trivial)⟩, ⟨Kd.R_mono (Kd.R_far (p := ⟨gb186, 1, none⟩) (Kd.R_mono HO190.out (fun k_ hk => (⟨hk, hk.2.2⟩ : _ ∧ k_ ≠ gb186))) (fun _ hk => hk.2) (.slice Ao14 y188.length co14)) (fun _ hk => ⟨hk.1.1, ⟨hk.1.2.1, hk.1.2.2⟩⟩)⟩, ⟨by refine blk_far ?_ NB182_186.out _; exact gK BK182⟩, ⟨by refine blk_put (cs := #[.slice Ao5 y183.length co5, u187001]) ?_ 1 _ rfl; exact gK BK186⟩, ⟨by repeat first | exact gB HB | refine below_set ?_ GE182.out | refine below_set ?_ GE186.out⟩⟩
   ·rw [if_neg c9] at H
    have c9b0 := decide_eq_false c9
    clear c9
    simp only [Option.some.injEq, Prod.mk.injEq] at H
    obtain ⟨rfl, rfl⟩ := H
    have hnb16 := NB186_182.out
    have hnc16 := NB182_186.out
    obtain ⟨hcz17_0, hcz17_1, hfz17_0, hfz17_1⟩ := gz2 BK186
    obtain ⟨hcz18_0, hcz18_1, hfz18_0, hfz18_1⟩ := gz2 BK182
    obtain ⟨Ao19, co19, eo19⟩ := Kd.R_slice HO_187001.out
    subst eo19
    go_wp2
    refine bodyPost_ret (results_cell_row rfl _ _ gb182 25 #[.slice Ao5 y183.length co5, .slice Ao19 x187001_1.length co19] (0, 0) _ rfl (by refine blk_put (cs := #[.slice Ao5 y183.length co5, .slice none 0 0]) ?_ 1 _ rfl; refine blk_put (cs := #[.slice none 0 0, .slice none 0 0]) ?_ 0 _ rfl; exact gK BK182) Try.underlying25 rfl (by kernel_rfl)) rfl ?_
    exact ⟨_, _, rfl, Kd.R_mono (Kd.R_far (p := ⟨gb182, 1, none⟩) (Kd.R_far (p := ⟨gb182, 0, none⟩) (Kd.R_types HO_187000.out BK182.out (by decide)) (fun _ hk => hk.2) (.slice Ao5 y183.length co5)) (fun _ hk => hk.2) (.slice Ao19 x187001_1.length co19)) (fun _ hk => trivial), Kd.R_mono (Kd.R_far (p := ⟨gb182, 1, none⟩) (Kd.R_far (p := ⟨gb182, 0, none⟩) (Kd.R_mono HO_187001.out (fun k_ hk => (⟨hk, hk.2.1⟩ : _ ∧ k_ ≠ gb182))) (fun _ hk => hk.2) (.slice Ao5 y183.length co5)) (fun _ hk => hk.2) (.slice Ao19 x187001_1.length co19)) (fun _ hk => hk.1.1), by repeat first | exact gB HB | refine below_set ?_ GE182.out | refine below_set ?_ GE186.out⟩
def triglyphref03_Atom.f (a0 : Int) : Option (List Int × (List (S35))) := some (([] : List Int), (([(⟨0, a0, ([] : List (S25))⟩ : S35)] : List (S35))))
set_option maxHeartbeats 8000000 in
set_option maxRecDepth 100000 in
theorem triglyphref03_Atom.calls (a0 : Int) (r1 : List Int) (r2 : List (S35)) (w : World) (h : triglyphref03_Atom.f a0 = some (r1, r2)) :
  Calls Try.prog 26 #[.int .i64 a0] w fun e w' => ∃ v0_ v1_ : Value, e = .returned (.agg #[v0_, v1_]) ∧ Kd.R (Kd.int .i64) 3 w' w.heap.size (fun _ => True) v0_ r1 ∧ Kd.R k35 35 w' w.heap.size (fun k_ => some k_ ≠ (v0_ : Value).ownBlock) v1_ r2 ∧ Below w.heap.size w w' := by
 have hu25 := Try.underlying25
 have hu35 := Try.underlying35
 have HB := gA (Below.refl w.heap.size w)
 have H : (some (([] : List Int), (([(⟨0, a0, ([] : List (S25))⟩ : S35)] : List (S35))))) = some (r1, r2) := h
 clear h
 obtain ⟨y192, hy192⟩ : ∃ y_ : List (S35), y_ = (([(⟨0, a0, ([] : List (S25))⟩ : S35)] : List (S35))) := ⟨_, rfl⟩
 replace H : (some (([] : List Int), y192)) = some (r1, r2) := by first | (rw [hy192]; with_reducible exact H) | (have H2_ := (Option.bind_some _ _).symm.trans H; rw [hy192]; with_reducible exact H2_) | (have H2_ := (Option.bind_some _ _).symm.trans H; with_reducible exact H2_) | with_reducible exact H | (rw [hy192]; exact H) | exact H
 have Ny192 := gA hy192
 clear hy192
 simp only [Option.some.injEq, Prod.mk.injEq] at H
 obtain ⟨rfl, rfl⟩ := H
 go_enter Try.func26, Try.ntmps26
 go_wp2_with (first | ((with_reducible refine gate_dst (N := 2) rfl ?_); refine box_event ?hg (N := 2) ?hd (cs := #[.slice none 0 0, .slice none 0 0]) (t := 25) ?hr ?_; (case hd => rfl); (case hg => rfl); (case hr => first | (go_simp; done) | (go_simp; rfl)); intro gb191 hg w2 hbox hb; have BK191 := gA (hbox); have GW191 := gA ((by rw [hg]; exact (below_size (gB HB)) : w.heap.size ≤ gb191)); have GE191 := gA ((by rw [hg]; exact (below_size (gB HB)) : w.heap.size ≤ gb191)); replace HB := gA (below_step (gB HB) hb); clear hb hbox hg) | ((with_reducible refine gate_dst (N := 5) rfl ?_); refine Kd.R_lit k35 _ 35 ?hg (N := 5) ?hd (xs := ([(⟨0, a0, ([] : List (S25))⟩ : S35)] : List (S35))) (inner := [.int .i64 0, .int .i64 a0, .slice none 0 0]) (ok := fun _ => True) (okp := fun _ => True) ?hr ?hp (fun _ hk => hk) trivial (Below.refl _ _) (Nat.le_refl _) (by simp) ?_; (case hd => rfl); (case hg => rfl); (case hr => first | (go_simp; done) | (go_simp; rfl)); (case hp => exact (Reps.c3 (show Kd.M k35 _ _ _ (⟨0, a0, ([] : List (S25))⟩ : S35) [.int .i64 0, .int .i64 a0, .slice none 0 0] from (k35_mkM _ _ _ (⟨0, a0, ([] : List (S25))⟩ : S35) (Kd.R_nil _ _ _ _ _))) (Reps.none _ _))); intro v193 w3 ho4 hb hg_ hnew_; clear hg_ hnew_; (first | rw [← Ny192.out] at ho4 | (simp only [Int.reduceToNat] at ho4; rw [← Ny192.out] at ho4)); have HO194 := gA (Kd.R_lower (Kd.R_newB ho4 (gK BK191)) (below_size (gB HB))); replace BK191 := gA (blk_below (gK BK191) hb); replace HB := gA (below_step (gB HB) hb); clear hb ho4; obtain ⟨Ao5, co5, eo5⟩ := Kd.R_slice HO194.out; subst eo5; obtain ⟨hcz6_0, hcz6_1, hfz6_0, hfz6_1⟩ := gz2 BK191))
 refine bodyPost_ret (results_cell_row rfl _ _ gb191 25 #[.slice none 0 0, .slice Ao5 y192.length co5] (0, 0) _ rfl (by refine blk_put (cs := #[.slice none 0 0, .slice none 0 0]) ?_ 1 _ rfl; refine blk_put (cs := #[.slice none 0 0, .slice none 0 0]) ?_ 0 _ rfl; exact gK BK191) Try.underlying25 rfl (by kernel_rfl)) rfl ?_
 exact ⟨_, _, rfl, by first | exact Kd.R_nil _ _ _ _ _ | exact Kd.N_nil _ _ _ _ _ | exact Kd.V_nil _ _ _ _ _ | exact Kd.Q_nil _ _ _ _ _ | exact Kd.S_nil _ _ _ _ _, Kd.R_mono (Kd.R_far (p := ⟨gb191, 1, none⟩) (Kd.R_far (p := ⟨gb191, 0, none⟩) (Kd.R_mono HO194.out (fun k_ hk => (⟨hk, hk.2⟩ : _ ∧ k_ ≠ gb191))) (fun _ hk => hk.2) (.slice none 0 0)) (fun _ hk => hk.2) (.slice Ao5 y192.length co5)) (fun _ hk => (by simp [Value.ownBlock])), by repeat first | exact gB HB | refine below_set ?_ GE191.out⟩
theorem hf_litC {α : Type} {d : Kd α} {W : World} {g e : Nat} (xs : List α) (inner : List Value) (h : W.heap[g]? = some (.cells inner.toArray e (0, 0))) (hr : Reps (d.K W) d.sz xs inner) (hm : xs.length ≤ 9223372036854775807) : d.C W (some ⟨g, 0, none⟩) xs.length xs := by
 refine ⟨rfl, hm, fun _ => ⟨_, rfl, fun j p hj => ⟨(inner.drop (j * d.sz)).take d.sz, d.K_len (hr.2 j p hj), hr.2 j p hj, fun i u hu => ?_⟩⟩⟩
 rw [add_plain, blk_cell h (j * d.sz + i)]
 have hi : i < d.sz := by
  have := (List.getElem?_eq_some_iff.1 hu).1
  rw [List.length_take] at this
  omega
 rw [List.getElem?_take_of_lt hi, List.getElem?_drop] at hu
 simpa using hu
section
variable {α : Type} {d : Kd α} {e base n c g : Nat} {ok : Nat → Prop} {W w1 : World} {A : Option Addr} {xs : List α}
theorem hf_F1 (h : d.R e W base ok (.slice A n c) xs) : Kd.F d W (fun _ => True) A n xs := Kd.F_mono (Kd.R_F h) (fun _ _ => trivial)
theorem hf_F2 (h : d.R e W base ok (.slice A n c) xs) (hg : g < base) : Kd.F d W (fun k => k ≠ g) A n xs := Kd.F_mono (Kd.R_F (Kd.R_bound h)) (fun _ hk => Nat.ne_of_gt (Nat.lt_of_lt_of_le hg hk.2.1))
theorem hf_F3 (hg : g = W.heap.size) (h : Kd.F d W (fun _ => True) A n xs) (hb : Below W.heap.size W w1) : Kd.F d w1 (fun k => k ≠ g) A n xs := Kd.F_mono (Foot.old h hb) (fun _ hk => hg ▸ Nat.ne_of_lt hk.2)
theorem hf_F4 (h : Kd.F d W ok A n xs) (hb : Below W.heap.size W w1) : Kd.F d w1 ok A n xs := Foot.step h (fun k _ hlt => hb.block k hlt)
theorem hf_F5a (h : Kd.F d W (fun k => k ≠ g) A n xs) (x y : Value) : Kd.F d ((W.setCell ⟨g, 0, none⟩ x).setCell ⟨g, 1, none⟩ y) (fun k => k ≠ g) A n xs := Foot.step h (fun k hk _ => (Below.heap_setCell _ ⟨g, 1, none⟩ y k hk).trans (Below.heap_setCell _ ⟨g, 0, none⟩ x k hk))
end
theorem hf_st2 {w W : World} {g : Nat} (h : Below w.heap.size w W) (hg : w.heap.size ≤ g) (x y : Value) : Below w.heap.size w ((W.setCell ⟨g, 0, none⟩ x).setCell ⟨g, 1, none⟩ y) := below_set (below_set h hg) hg
theorem BxS.add {w W W' : World} {L : List (Nat × Array Value × Nat)} (h : BxS w W L) (hb : Below W.heap.size W W') {g t : Nat} {cs : Array Value} (hg : W'.heap[g]? = some (.cells cs t (0, 0))) (hl : W.heap.size ≤ g) : BxS w W' ((g, cs, t) :: L) := by
 refine ⟨below_step h.bel hb, fun p hp => ?_, fun p hp => ?_⟩
 ·rcases List.mem_cons.1 hp with rfl | hp
  ·exact hg
  ·exact blk_below (h.blk p hp) hb
 ·rcases List.mem_cons.1 hp with rfl | hp
  ·exact Nat.le_trans h.bel.size hl
  ·exact h.fr p hp
theorem hf_row_step {P : Program} {ops : Array Oper} {o : Oper} {a : Act} {Q : Exit → Act → World → Prop} {Kc : Act → World → Prop} {W : World} (hw : Region.wanted o (yielded ops a.tmps) = true) {N : Tmp} (_hd : o.dst = some N) {cs : Array Value} {t : TypeId} {n : Nat}
  (hrun : (execOp a.eval o).run P W = .ok (.value (.slice (some ⟨W.heap.size, 0, none⟩) n n)) (W.alloc (.cells cs t (0, 0))))
  (h : ∀ g, g = W.heap.size → ∀ w1, w1.heap[g]? = some (.cells cs t (0, 0)) → Below W.heap.size W w1 → Kc (a.put o.dst (.slice (some ⟨g, 0, none⟩) n n)) w1) : if Region.wanted o (yielded ops a.tmps) = true then Oper.wp P o a W Kc Q else Kc (a.put o.dst undef) W :=
 event_step hw hrun (h _ rfl _ (blk_new W _) (below_alloc (Below.refl _ _) _))
theorem hf_add (a : Addr) (n : Nat) (h : n ≠ 0) : a.add n = ⟨a.block, a.off + n, none⟩ := by unfold Addr.add; rw [if_neg h]
end Go.Proofs.Ytemlommdfmeabaa.P
