/- Written by a program of this session: the functions that the laws reach, what each comes to, and each law as it is stated, for every input. No condition. -/
import Derived.Test.YtdihmempaonfjaaPx0
namespace Go.Proofs.Ytdihmempaonfjaa.P
open Go.RowKit Go.Proofs.YtdihmempaonfjaaW.PrintWords Go.Proofs.YtdihmempaonfjaaW.PrintLast Go.Proofs.YtdihmempaonfjaaW.PrintMore
attribute [local go_sem] max2_int min2_int max_two min_two max_three min_three max_four min_four   -- for this text's walks alone
set_option linter.unusedVariables false
set_option linter.unusedSimpArgs false
structure BxS (w W : World) (L : List (Nat × Array Value × Nat)) : Prop where
 bel : Below w.heap.size w W
 blk : ∀ p ∈ L, W.heap[p.1]? = some (.cells p.2.1 p.2.2 (0, 0))
 fr : ∀ p ∈ L, w.heap.size ≤ p.1
theorem BxS.step {w W W' : World} {L : List (Nat × Array Value × Nat)} (h : BxS w W L) (hb : Below W.heap.size W W') : BxS w W' L := ⟨below_step h.bel hb, fun p hp => blk_below (h.blk p hp) hb, h.fr⟩
theorem BxS.nil (w : World) : BxS w w [] := ⟨Below.refl _ _, fun _ h => (by cases h), fun _ h => (by cases h)⟩
theorem BxS.cons {w W : World} {L : List (Nat × Array Value × Nat)} (h : BxS w W L) (cs : Array Value) (t : Nat) : BxS w (W.alloc (.cells cs t)) ((W.heap.size, cs, t) :: L) := by
 refine ⟨below_alloc h.bel _, fun p hp => ?_, fun p hp => ?_⟩
 ·rcases List.mem_cons.1 hp with rfl | hp
  ·exact blk_new W (.cells cs t (0, 0))
  ·exact blk_alloc (h.blk p hp) _
 ·rcases List.mem_cons.1 hp with rfl | hp
  ·exact h.bel.size
  ·exact h.fr p hp
theorem BxS.at_ {w W : World} {L : List (Nat × Array Value × Nat)} (h : BxS w W L) (i : Nat) {p : Nat × Array Value × Nat} (hp : L[i]? = some p) : W.heap[p.1]? = some (.cells p.2.1 p.2.2 (0, 0)) := h.blk p (List.mem_of_getElem? hp)
/-- A box of the call's own that nobody needs any more. -/
theorem BxS.drop {w W : World} {p : Nat × Array Value × Nat} {L : List (Nat × Array Value × Nat)} (h : BxS w W (p :: L)) : BxS w W L := ⟨h.bel, fun q hq => h.blk q (List.mem_cons_of_mem _ hq), fun q hq => h.fr q (List.mem_cons_of_mem _ hq)⟩
structure OutS (w W : World) (L : List (Nat × Array Value × Nat)) (go : Nat) (v0 u1 v1 : Value) (s : List Int) (c : List S45) : Prop where
 bx : BxS w W L
 fr : ∀ p ∈ L, p.1 ≠ go
 out : W.heap[go]? = some (.cells #[v0, u1] 25 (0, 0))
 ofr : w.heap.size ≤ go
 r0 : Kd.R (Kd.int .i64) 3 W w.heap.size (fun k => k ≠ go ∧ ∀ p ∈ L, k ≠ p.1) v0 s
 r1 : Kd.R k45 45 W w.heap.size (fun k => some k ≠ v0.ownBlock ∧ k ≠ go ∧ ∀ p ∈ L, k ≠ p.1) v1 c
section
variable {w W W' : World} {L : List (Nat × Array Value × Nat)} {go : Nat} {v0 u1 v1 : Value} {s : List Int} {c : List S45}
theorem OutS.step (h : OutS w W L go v0 u1 v1 s c) (hb : Below W.heap.size W W') : OutS w W' L go v0 u1 v1 s c := ⟨h.bx.step hb, h.fr, blk_below h.out hb, h.ofr, Kd.R_below h.r0 hb, Kd.R_below h.r1 hb⟩
end
theorem hf_sz (W : World) (o : Obj) : (W.alloc o).heap.size = W.heap.size + 1 := by unfold World.alloc; exact Array.size_push _
theorem BxS.cons' {w W : World} {L : List (Nat × Array Value × Nat)} (h : BxS w W L) (cs : Array Value) (t : Nat) {g : Nat} (hg : W.heap.size = g) : BxS w (W.alloc (.cells cs t)) ((g, cs, t) :: L) := hg ▸ h.cons cs t
theorem hf_ac {W w1 : World} {o : Obj} (h : Below (W.alloc o).heap.size (W.alloc o) w1) : Below W.heap.size W w1 := (below_alloc (Below.refl _ _) o).trans (h.mono (by rw [hf_sz]; omega))
theorem hf_z2 {W : World} {g t : Nat} {x y : Value} (h : W.heap[g]? = some (.cells #[x, y] t (0, 0))) (a b : Value) : ((W.setCell ⟨g, 0, none⟩ a).setCell ⟨g, 1, none⟩ b).heap[g]? = some (.cells #[a, b] t (0, 0)) := blk_put (cs := #[a, y]) (blk_put (cs := #[x, y]) h 0 _ rfl) 1 _ rfl
theorem hf_litC {α : Type} {d : Kd α} {W : World} {g e : Nat} (xs : List α) (inner : List Value) (h : W.heap[g]? = some (.cells inner.toArray e (0, 0))) (hr : Reps (d.K W) d.sz xs inner) (hm : xs.length ≤ 9223372036854775807) : d.C W (some ⟨g, 0, none⟩) xs.length xs := by
 refine ⟨rfl, hm, fun _ => ⟨_, rfl, fun j p hj => ⟨(inner.drop (j * d.sz)).take d.sz, d.K_len (hr.2 j p hj), hr.2 j p hj, fun i u hu => ?_⟩⟩⟩
 rw [add_plain, blk_cell h (j * d.sz + i)]
 have hi : i < d.sz := by
  have := (List.getElem?_eq_some_iff.1 hu).1
  rw [List.length_take] at this
  omega
 rw [List.getElem?_take_of_lt hi, List.getElem?_drop] at hu
 simpa using hu
section
variable {α : Type} {d : Kd α} {e base n c g : Nat} {ok : Nat → Prop} {W w1 : World} {A : Option Addr} {xs : List α}
theorem hf_F1 (h : d.R e W base ok (.slice A n c) xs) : Kd.F d W (fun _ => True) A n xs := Kd.F_mono (Kd.R_F h) (fun _ _ => trivial)
theorem hf_F2 (h : d.R e W base ok (.slice A n c) xs) (hg : g < base) : Kd.F d W (fun k => k ≠ g) A n xs := Kd.F_mono (Kd.R_F (Kd.R_bound h)) (fun _ hk => Nat.ne_of_gt (Nat.lt_of_lt_of_le hg hk.2.1))
theorem hf_F3 (hg : g = W.heap.size) (h : Kd.F d W (fun _ => True) A n xs) (hb : Below W.heap.size W w1) : Kd.F d w1 (fun k => k ≠ g) A n xs := Kd.F_mono (Foot.old h hb) (fun _ hk => hg ▸ Nat.ne_of_lt hk.2)
theorem hf_F4 (h : Kd.F d W ok A n xs) (hb : Below W.heap.size W w1) : Kd.F d w1 ok A n xs := Foot.step h (fun k _ hlt => hb.block k hlt)
theorem hf_F5a (h : Kd.F d W (fun k => k ≠ g) A n xs) (x y : Value) : Kd.F d ((W.setCell ⟨g, 0, none⟩ x).setCell ⟨g, 1, none⟩ y) (fun k => k ≠ g) A n xs := Foot.step h (fun k hk _ => (Below.heap_setCell _ ⟨g, 1, none⟩ y k hk).trans (Below.heap_setCell _ ⟨g, 0, none⟩ x k hk))
theorem hf_F6 (h : Kd.F d W ok A n xs) (hb : Below W.heap.size W w1) : Kd.F d w1 ok A n xs := Foot.step h (fun k _ hlt => hb.block k hlt)
end
theorem hf_st2 {w W : World} {g : Nat} (h : Below w.heap.size w W) (hg : w.heap.size ≤ g) (x y : Value) : Below w.heap.size w ((W.setCell ⟨g, 0, none⟩ x).setCell ⟨g, 1, none⟩ y) := below_set (below_set h hg) hg
theorem BxS.add {w W W' : World} {L : List (Nat × Array Value × Nat)} (h : BxS w W L) (hb : Below W.heap.size W W') {g t : Nat} {cs : Array Value} (hg : W'.heap[g]? = some (.cells cs t (0, 0))) (hl : W.heap.size ≤ g) : BxS w W' ((g, cs, t) :: L) := by
 refine ⟨below_step h.bel hb, fun p hp => ?_, fun p hp => ?_⟩
 ·rcases List.mem_cons.1 hp with rfl | hp
  ·exact hg
  ·exact blk_below (h.blk p hp) hb
 ·rcases List.mem_cons.1 hp with rfl | hp
  ·exact Nat.le_trans h.bel.size hl
  ·exact h.fr p hp
theorem hf_row_step {P : Program} {ops : Array Oper} {o : Oper} {a : Act} {Q : Exit → Act → World → Prop} {Kc : Act → World → Prop} {W : World} (hw : Region.wanted o (yielded ops a.tmps) = true) {N : Tmp} (_hd : o.dst = some N) {cs : Array Value} {t : TypeId} {n : Nat}
  (hrun : (execOp a.eval o).run P W = .ok (.value (.slice (some ⟨W.heap.size, 0, none⟩) n n)) (W.alloc (.cells cs t (0, 0))))
  (h : ∀ g, g = W.heap.size → ∀ w1, w1.heap[g]? = some (.cells cs t (0, 0)) → Below W.heap.size W w1 → Kc (a.put o.dst (.slice (some ⟨g, 0, none⟩) n n)) w1) : if Region.wanted o (yielded ops a.tmps) = true then Oper.wp P o a W Kc Q else Kc (a.put o.dst undef) W :=
 event_step hw hrun (h _ rfl _ (blk_new W _) (below_alloc (Below.refl _ _) _))
theorem hf_add (a : Addr) (n : Nat) (h : n ≠ 0) : a.add n = ⟨a.block, a.off + n, none⟩ := by unfold Addr.add; rw [if_neg h]
theorem hf_put2 {w W : World} {t : Nat} {x y : Value} (h : BxS w W [(w.heap.size, #[x, y], t)]) (a b : Value) : BxS w ((W.setCell ⟨w.heap.size, 0, none⟩ a).setCell ⟨w.heap.size, 1, none⟩ b) [(w.heap.size, #[a, b], t)] := by
 refine ⟨below_set (below_set h.bel (Nat.le_refl _)) (Nat.le_refl _), fun p hp => ?_, fun p hp => ?_⟩
 ·rw [List.mem_singleton.1 hp]
  exact hf_z2 (h.blk _ List.mem_cons_self) a b
 ·rw [List.mem_singleton.1 hp]
  exact Nat.le_refl _
end Go.Proofs.Ytdihmempaonfjaa.P
