/- Written by a program of this session: the functions that the laws reach, what each comes to, and each law as it is stated, for every input. No condition. -/
import Derived.Test.YtahgfebdjjfkhaaPx0
import Derived.Test.YtahgfebdjjfkhaaPx4
import Derived.Test.YtahgfebdjjfkhaaPx5
namespace Go.Proofs.Ytahgfebdjjfkhaa.P
open Go.RowKit Go.Proofs.YtahgfebdjjfkhaaW.PrintWords Go.Proofs.YtahgfebdjjfkhaaW.PrintLast Go.Proofs.YtahgfebdjjfkhaaW.PrintMore
attribute [local go_sem] max2_int min2_int max_two min_two max_three min_three max_four min_four   -- for this text's walks alone
set_option linter.unusedVariables false
set_option linter.unusedSimpArgs false
/-- A state of type 88 at block g of W; what its slices lead to came in by w0. -/
def IsS88 (w0 W : World) (g : Nat) (f0 : Int) (f1 : Int) : Prop := W.heap[g]? = some (.cells #[.int .u64 f0, .int .u64 f1] 88 (0, 0)) ∧ w0.heap.size ≤ g
theorem IsS88.grown {w0 W : World} {g : Nat} {f0 : Int} {f1 : Int} {W1 : World} {row : Option Nat} (h : IsS88 w0 W g f0 f1) (hw : W.grownBy W1 row) (hne : some g ≠ row) : IsS88 w0 W1 g f0 f1 := by
 obtain ⟨hb, hg⟩ := h
 exact ⟨blk_grown hb hw hne, hg⟩
theorem IsS88.fresh {w0 W : World} {g : Nat} {f0 : Int} {f1 : Int} (h : IsS88 w0 W g f0 f1) : ∀ k, W.heap.size ≤ k → k ≠ g := by
 obtain ⟨hb, hg⟩ := h
 exact Kd.freshB hb
theorem IsS88.kept {w0 W : World} {g : Nat} {f0 : Int} {f1 : Int} {W1 : World} {S : Nat → Prop} (h : IsS88 w0 W g f0 f1) (hk : Kept W W1 S) (hne : ¬ S g) : IsS88 w0 W1 g f0 f1 := by
 obtain ⟨hb, hg⟩ := h
 exact ⟨blk_kept hb hk hne, hg⟩
theorem IsS88.below {w0 W : World} {g : Nat} {f0 : Int} {f1 : Int} {W1 : World} (h : IsS88 w0 W g f0 f1) (hw : Below W.heap.size W W1) : IsS88 w0 W1 g f0 f1 := h.grown (grown_of_below hw none) (by simp)
theorem IsS88.alloc {w0 W : World} {g : Nat} {f0 : Int} {f1 : Int} (h : IsS88 w0 W g f0 f1) (o : Obj) : IsS88 w0 (W.alloc o) g f0 f1 := h.below (below_alloc (Below.refl _ _) o)
theorem IsS88.drewN {w0 W : World} {g : Nat} {f0 : Int} {f1 : Int} (h : IsS88 w0 W g f0 f1) (m : Nat) : IsS88 w0 (W.drewN m) g f0 f1 := h
theorem IsS88.drew {w0 W : World} {g : Nat} {f0 : Int} {f1 : Int} (h : IsS88 w0 W g f0 f1) : IsS88 w0 W.drew g f0 f1 := h
theorem IsS88.at_ {w0 W : World} {g : Nat} {f0 : Int} {f1 : Int} {w' : World} {m : Nat} (hq : W.drewN m = w') (h : IsS88 w0 W g f0 f1) : IsS88 w0 w' g f0 f1 := by subst hq; exact IsS88.drewN h m
theorem IsS88.apart {w0 W : World} {g : Nat} {f0 : Int} {f1 : Int} {α : Type} {d : Kd α} {e : Nat} {base : Nat} {ok : Nat → Prop} {v : Value} {xs : List α} (h : IsS88 w0 W g f0 f1) (ho : d.R e W base ok v xs) (ht : ∀ q, q ∈ e :: d.E → q ≠ 88) : d.R e W base (fun k => ok k ∧ k ≠ g) v xs := by
 obtain ⟨hb, hg⟩ := h
 exact Kd.R_types ho hb ht
theorem IsS88.own_ne {w0 W : World} {g : Nat} {f0 : Int} {f1 : Int} {α : Type} {d : Kd α} {e : Nat} {base : Nat} {ok : Nat → Prop} {v : Value} {xs : List α} (h : IsS88 w0 W g f0 f1) (ho : d.R e W base ok v xs) (ht : e ≠ 88) : some g ≠ v.ownBlock := by
 obtain ⟨hb, hg⟩ := h
 exact Kd.R_ne ho hb ht
theorem IsS88.lt {w0 W : World} {g : Nat} {f0 : Int} {f1 : Int} (h : IsS88 w0 W g f0 f1) : g < W.heap.size := by
 obtain ⟨hb, hg⟩ := h
 exact blk_lt hb
theorem IsS88.ge {w0 W : World} {g : Nat} {f0 : Int} {f1 : Int} (h : IsS88 w0 W g f0 f1) : w0.heap.size ≤ g := by
 obtain ⟨hb, hg⟩ := h
 exact hg
theorem cellS88_0 {W : World} {g : Nat} {f0 : Int} {f1 : Int} (h : W.heap[g]? = some (.cells #[.int .u64 f0, .int .u64 f1] 88 (0, 0))) : W.cell? ⟨g, 0, none⟩ = some (.int .u64 f0) := (blk_cell h 0).trans rfl
theorem IsS88.set_0 {w0 W : World} {g : Nat} {f0 : Int} {f1 : Int} (h : IsS88 w0 W g f0 f1) (x : Int) : IsS88 w0 (W.setCell ⟨g, 0, none⟩ (.int .u64 x)) g x f1 := by
 obtain ⟨hb, hg⟩ := h
 exact ⟨by simpa using blk_set hb 0 (.int .u64 x), hg⟩
theorem cellS88_1 {W : World} {g : Nat} {f0 : Int} {f1 : Int} (h : W.heap[g]? = some (.cells #[.int .u64 f0, .int .u64 f1] 88 (0, 0))) : W.cell? ⟨g, 1, none⟩ = some (.int .u64 f1) := (blk_cell h 1).trans rfl
theorem IsS88.set_1 {w0 W : World} {g : Nat} {f0 : Int} {f1 : Int} (h : IsS88 w0 W g f0 f1) (x : Int) : IsS88 w0 (W.setCell ⟨g, 1, none⟩ (.int .u64 x)) g f0 x := by
 obtain ⟨hb, hg⟩ := h
 exact ⟨by simpa using blk_set hb 1 (.int .u64 x), hg⟩
theorem IsS88.new (w0 W : World) (f0 : Int) (f1 : Int) (hB : Below w0.heap.size w0 W) : IsS88 w0 (W.alloc (.cells #[.int .u64 f0, .int .u64 f1] 88)) W.heap.size f0 f1 := ⟨by simpa using heap_alloc_new W _, hB.size⟩
def num_wide_add.f (s0_0 : Int) (s0_1 : Int) (a1 : Int) : Option (Int × Int) := if (IntKind.u64.wrap (s0_1 + a1)) < a1 then (some (IntKind.u64.wrap (s0_0 + 1), IntKind.u64.wrap (s0_1 + a1))) else (some (s0_0, IntKind.u64.wrap (s0_1 + a1)))
set_option maxHeartbeats 8000000 in
set_option maxRecDepth 100000 in
theorem num_wide_add.calls (g : Nat) (s0_0 : Int) (s0_1 : Int) (a1 : Int) (r1 : Int) (r2 : Int) (w0 w : World) (hI : IsS88 w0 w g s0_0 s0_1) (hB : Below w0.heap.size w0 w) (h : num_wide_add.f s0_0 s0_1 a1 = some (r1, r2)) :
  Calls Try.prog 64 #[.pointer (some ⟨g, 0, none⟩), .int .u64 a1] w fun e w' => e = .returned (.tuple #[]) ∧ IsS88 w0 w' g r1 r2 ∧ Below w0.heap.size w0 w' ∧ KeepBut w w' g none := by
 have HI0 := gA hI
 have HK := gA (KeepBut.refl w g none)
 have HL := gA hB.size
 clear hI
 have HW0 := gA hB.size
 have HB := gA hB
 clear hB
 have H : (if (IntKind.u64.wrap (s0_1 + a1)) < a1 then (some (IntKind.u64.wrap (s0_0 + 1), IntKind.u64.wrap (s0_1 + a1))) else (some (s0_0, IntKind.u64.wrap (s0_1 + a1)))) = some (r1, r2) := h
 clear h
 by_cases c3 : (IntKind.u64.wrap (s0_1 + a1)) < a1
 ·rw [if_pos c3] at H
  have c3b0 := decide_eq_true c3
  clear c3
  simp only [Option.some.injEq, Prod.mk.injEq] at H
  obtain ⟨rfl, rfl⟩ := H
  obtain ⟨HGz4, hgz4⟩ := HI0.out
  have hcz4_0 := cellS88_0 HGz4
  have hcz4_1 := cellS88_1 HGz4
  have hfz4_0 := blk_frozen HGz4 0
  have hfz4_1 := blk_frozen HGz4 1
  clear HGz4 hgz4
  go_enter Try.func64, Try.ntmps64
  go_wp2
  first | go_end0 | ((try simp only [Exit.inBlock, Exit.then]); refine bodyPost_ret (results_none rfl _ _ _) rfl ?_)
  exact ⟨rfl, by repeat (first | (with_reducible first | exact HI0.out | apply IsS88.alloc | apply IsS88.drewN | apply IsS88.drew | apply IsS88.set_0 | apply IsS88.set_1) | exact HI0.out), by repeat (first | (with_reducible first | exact HB.out | apply below_alloc | apply pw_below_drewN | apply below_drew1 | refine below_set ?_ (IsS88.ge HI0.out)) | exact HB.out), by repeat (first | (with_reducible first | exact HK.out | apply KeepBut.set_ | apply keep_drewN | apply keep_drew | apply keep_alloc) | exact HK.out)⟩
 ·rw [if_neg c3] at H
  have c3b0 := decide_eq_false c3
  clear c3
  simp only [Option.some.injEq, Prod.mk.injEq] at H
  obtain ⟨rfl, rfl⟩ := H
  obtain ⟨HGz5, hgz5⟩ := HI0.out
  have hcz5_0 := cellS88_0 HGz5
  have hcz5_1 := cellS88_1 HGz5
  have hfz5_0 := blk_frozen HGz5 0
  have hfz5_1 := blk_frozen HGz5 1
  clear HGz5 hgz5
  go_enter Try.func64, Try.ntmps64
  go_wp2
  first | go_end0 | ((try simp only [Exit.inBlock, Exit.then]); refine bodyPost_ret (results_none rfl _ _ _) rfl ?_)
  exact ⟨rfl, by repeat (first | (with_reducible first | exact HI0.out | apply IsS88.alloc | apply IsS88.drewN | apply IsS88.drew | apply IsS88.set_0 | apply IsS88.set_1) | exact HI0.out), by repeat (first | (with_reducible first | exact HB.out | apply below_alloc | apply pw_below_drewN | apply below_drew1 | refine below_set ?_ (IsS88.ge HI0.out)) | exact HB.out), by repeat (first | (with_reducible first | exact HK.out | apply KeepBut.set_ | apply keep_drewN | apply keep_drew | apply keep_alloc) | exact HK.out)⟩
def num_wide_less.f (a0_0 : Int) (a0_1 : Int) (a1_0 : Int) (a1_1 : Int) : Option (Bool) := if a0_0 < a1_0 then (some true) else (if a0_0 = a1_0 then (some (decide (a0_1 < a1_1))) else (some false))
set_option maxHeartbeats 8000000 in
set_option maxRecDepth 100000 in
theorem num_wide_less.calls (a0_0 : Int) (a0_1 : Int) (a1_0 : Int) (a1_1 : Int) (r : Bool) (w : World) (h : num_wide_less.f a0_0 a0_1 a1_0 a1_1 = some r) :
  Calls Try.prog 65 #[.agg #[.int .u64 a0_0, .int .u64 a0_1], .agg #[.int .u64 a1_0, .int .u64 a1_1]] w fun e w' => e = .returned (.bool r) ∧ Below w.heap.size w w' := by
 have hu88 := Try.underlying88
 have HB := gA (Below.refl w.heap.size w)
 have H : (if a0_0 < a1_0 then (some true) else (if a0_0 = a1_0 then (some (decide (a0_1 < a1_1))) else (some false))) = some r := h
 clear h
 by_cases c3 : a0_0 < a1_0
 ·rw [if_pos c3] at H
  have c3b0 := decide_eq_true c3
  clear c3
  obtain rfl := Option.some.inj H
  go_enter Try.func65, Try.ntmps65
  go_wp2_with (first | ((with_reducible refine gate_dst (N := 2) rfl ?_); refine box_event ?hg (N := 2) ?hd (cs := #[.int .u64 a0_0, .int .u64 a0_1]) (t := 88) ?hr ?_; (case hd => rfl); (case hg => rfl); (case hr => first | (go_simp; done) | (go_simp; rfl)); intro gb236 hg w4 hbox hb; have BK236 := gA (hbox); have GW236 := gA ((by rw [hg]; exact (below_size (gB HB)) : w.heap.size ≤ gb236)); have GE236 := gA ((by rw [hg]; exact (below_size (gB HB)) : w.heap.size ≤ gb236)); replace HB := gA (below_step (gB HB) hb); clear hb hbox hg) | ((with_reducible refine gate_dst (N := 3) rfl ?_); refine box_event ?hg (N := 3) ?hd (cs := #[.int .u64 a1_0, .int .u64 a1_1]) (t := 88) ?hr ?_; (case hd => rfl); (case hg => rfl); (case hr => first | (go_simp; done) | (go_simp; rfl)); intro gb237 hg w5 hbox hb; have BK237 := gA (hbox); have GW237 := gA ((by rw [hg]; exact (below_size (gB HB)) : w.heap.size ≤ gb237)); have GE237 := gA ((by rw [hg]; exact (below_size (gB HB)) : w.heap.size ≤ gb237)); replace HB := gA (below_step (gB HB) hb); have NB236_237 := gA ((by rw [hg]; exact Nat.ne_of_lt (blk_lt (gK BK236)) : gb236 ≠ gb237)); have NB237_236 := gA ((by rw [hg]; exact Nat.ne_of_gt (blk_lt (gK BK236)) : gb237 ≠ gb236)); replace BK236 := gA (blk_below (gK BK236) hb); clear hb hbox hg; have hnb6 := NB236_237.out; have hnc6 := NB237_236.out; obtain ⟨hcz7_0, hcz7_1, hfz7_0, hfz7_1⟩ := gz2 BK236; obtain ⟨hcz8_0, hcz8_1, hfz8_0, hfz8_1⟩ := gz2 BK237))
  go_ret
  exact ⟨rfl, by repeat first | exact gB HB | refine below_set ?_ GE236.out | refine below_set ?_ GE237.out⟩
 ·rw [if_neg c3] at H
  have c3b0 := decide_eq_false c3
  clear c3
  by_cases c9 : a0_0 = a1_0
  ·rw [if_pos c9] at H
   have c9b0 : (a0_0 == a1_0) = true := beq_iff_eq.mpr c9
   have c9b1 : (a0_0 != a1_0) = false := bne_eq_false_iff_eq.mpr c9
   clear c9
   obtain rfl := Option.some.inj H
   go_enter Try.func65, Try.ntmps65
   go_wp2_with (first | ((with_reducible refine gate_dst (N := 2) rfl ?_); refine box_event ?hg (N := 2) ?hd (cs := #[.int .u64 a0_0, .int .u64 a0_1]) (t := 88) ?hr ?_; (case hd => rfl); (case hg => rfl); (case hr => first | (go_simp; done) | (go_simp; rfl)); intro gb236 hg w10 hbox hb; have BK236 := gA (hbox); have GW236 := gA ((by rw [hg]; exact (below_size (gB HB)) : w.heap.size ≤ gb236)); have GE236 := gA ((by rw [hg]; exact (below_size (gB HB)) : w.heap.size ≤ gb236)); replace HB := gA (below_step (gB HB) hb); clear hb hbox hg) | ((with_reducible refine gate_dst (N := 3) rfl ?_); refine box_event ?hg (N := 3) ?hd (cs := #[.int .u64 a1_0, .int .u64 a1_1]) (t := 88) ?hr ?_; (case hd => rfl); (case hg => rfl); (case hr => first | (go_simp; done) | (go_simp; rfl)); intro gb237 hg w11 hbox hb; have BK237 := gA (hbox); have GW237 := gA ((by rw [hg]; exact (below_size (gB HB)) : w.heap.size ≤ gb237)); have GE237 := gA ((by rw [hg]; exact (below_size (gB HB)) : w.heap.size ≤ gb237)); replace HB := gA (below_step (gB HB) hb); have NB236_237 := gA ((by rw [hg]; exact Nat.ne_of_lt (blk_lt (gK BK236)) : gb236 ≠ gb237)); have NB237_236 := gA ((by rw [hg]; exact Nat.ne_of_gt (blk_lt (gK BK236)) : gb237 ≠ gb236)); replace BK236 := gA (blk_below (gK BK236) hb); clear hb hbox hg; have hnb12 := NB236_237.out; have hnc12 := NB237_236.out; obtain ⟨hcz13_0, hcz13_1, hfz13_0, hfz13_1⟩ := gz2 BK236; obtain ⟨hcz14_0, hcz14_1, hfz14_0, hfz14_1⟩ := gz2 BK237))
   go_ret
   exact ⟨rfl, by repeat first | exact gB HB | refine below_set ?_ GE236.out | refine below_set ?_ GE237.out⟩
  ·rw [if_neg c9] at H
   have c9b0 : (a0_0 == a1_0) = false := beq_eq_false_iff_ne.mpr c9
   have c9b1 : (a0_0 != a1_0) = true := bne_iff_ne.mpr c9
   obtain rfl := Option.some.inj H
   go_enter Try.func65, Try.ntmps65
   go_wp2_with (first | ((with_reducible refine gate_dst (N := 2) rfl ?_); refine box_event ?hg (N := 2) ?hd (cs := #[.int .u64 a0_0, .int .u64 a0_1]) (t := 88) ?hr ?_; (case hd => rfl); (case hg => rfl); (case hr => first | (go_simp; done) | (go_simp; rfl)); intro gb236 hg w15 hbox hb; have BK236 := gA (hbox); have GW236 := gA ((by rw [hg]; exact (below_size (gB HB)) : w.heap.size ≤ gb236)); have GE236 := gA ((by rw [hg]; exact (below_size (gB HB)) : w.heap.size ≤ gb236)); replace HB := gA (below_step (gB HB) hb); clear hb hbox hg) | ((with_reducible refine gate_dst (N := 3) rfl ?_); refine box_event ?hg (N := 3) ?hd (cs := #[.int .u64 a1_0, .int .u64 a1_1]) (t := 88) ?hr ?_; (case hd => rfl); (case hg => rfl); (case hr => first | (go_simp; done) | (go_simp; rfl)); intro gb237 hg w16 hbox hb; have BK237 := gA (hbox); have GW237 := gA ((by rw [hg]; exact (below_size (gB HB)) : w.heap.size ≤ gb237)); have GE237 := gA ((by rw [hg]; exact (below_size (gB HB)) : w.heap.size ≤ gb237)); replace HB := gA (below_step (gB HB) hb); have NB236_237 := gA ((by rw [hg]; exact Nat.ne_of_lt (blk_lt (gK BK236)) : gb236 ≠ gb237)); have NB237_236 := gA ((by rw [hg]; exact Nat.ne_of_gt (blk_lt (gK BK236)) : gb237 ≠ gb236)); replace BK236 := gA (blk_below (gK BK236) hb); clear hb hbox hg; have hnb17 := NB236_237.out; have hnc17 := NB237_236.out; obtain ⟨hcz18_0, hcz18_1, hfz18_0, hfz18_1⟩ := gz2 BK236; obtain ⟨hcz19_0, hcz19_1, hfz19_0, hfz19_1⟩ := gz2 BK237))
   go_ret
   exact ⟨rfl, by repeat first | exact gB HB | refine below_set ?_ GE236.out | refine below_set ?_ GE237.out⟩
def num_wide_sub.f (s0_0 : Int) (s0_1 : Int) (a1_0 : Int) (a1_1 : Int) : Option (Int × Int) := if s0_1 < a1_1 then (some (IntKind.u64.wrap ((IntKind.u64.wrap (s0_0 - 1)) - a1_0), IntKind.u64.wrap (s0_1 - a1_1))) else (some (IntKind.u64.wrap (s0_0 - a1_0), IntKind.u64.wrap (s0_1 - a1_1)))
set_option maxHeartbeats 1000000 in
set_option maxRecDepth 100000 in
theorem num_wide_sub.calls (g : Nat) (s0_0 : Int) (s0_1 : Int) (a1_0 : Int) (a1_1 : Int) (r1 : Int) (r2 : Int) (w0 w : World) (hI : IsS88 w0 w g s0_0 s0_1) (hB : Below w0.heap.size w0 w) (h : num_wide_sub.f s0_0 s0_1 a1_0 a1_1 = some (r1, r2)) :
  Calls Try.prog 66 #[.pointer (some ⟨g, 0, none⟩), .agg #[.int .u64 a1_0, .int .u64 a1_1]] w fun e w' => e = .returned (.tuple #[]) ∧ IsS88 w0 w' g r1 r2 ∧ Below w0.heap.size w0 w' ∧ KeepBut w w' g none := by
 have HI := Aside0.mk hI
 obtain ⟨HG, hg⟩ := hI
 have hglt : g < w.heap.size := (Array.getElem?_eq_some_iff.1 HG).1
 have hc0 := cellS88_0 HG
 have hc1 := cellS88_1 HG
 have hf0 := blk_frozen HG 0
 have hf1 := blk_frozen HG 1
 have hut := Try.underlying88
 have HH := Aside0.mk h
 have HB := Aside0.mk hB
 clear h HG hB
 by_cases c : s0_1 < a1_1
 ·have c' : decide (s0_1 < a1_1) = true := decide_eq_true c
  go_enter Try.func66, Try.ntmps66
  go_wp2
  go_quiet (fail)
  go_wp2
  go_region
  first | go_end0 | ((try simp only [Exit.inBlock, Exit.then]); refine bodyPost_ret (results_none rfl _ _ _) rfl ?_)
  have H := HH.out
  unfold num_wide_sub.f at H
  rw [if_pos c] at H
  simp only [Option.some.injEq, Prod.mk.injEq] at H
  obtain ⟨rfl, rfl⟩ := H
  refine ⟨rfl, ?_, ?_, ?_⟩
  ·exact (((((HI.out.alloc _).drewN _).set_0 _).set_0 _).set_1 _).drew
  ·exact below_drew1 (below_set (below_set (below_set (pw_below_drewN (below_alloc HB.out _) _) hg) hg) hg)
  ·exact keep_drew (KeepBut.set_ (KeepBut.set_ (KeepBut.set_ (keep_drewN (keep_alloc (KeepBut.refl w g none) _) _) _ _) _ _) _ _)
 ·have c' : decide (s0_1 < a1_1) = false := decide_eq_false c
  go_enter Try.func66, Try.ntmps66
  go_wp2
  go_quiet (fail)
  go_wp2
  go_region
  first | go_end0 | ((try simp only [Exit.inBlock, Exit.then]); refine bodyPost_ret (results_none rfl _ _ _) rfl ?_)
  have H := HH.out
  unfold num_wide_sub.f at H
  rw [if_neg (by omega)] at H
  simp only [Option.some.injEq, Prod.mk.injEq] at H
  obtain ⟨rfl, rfl⟩ := H
  refine ⟨rfl, ?_, ?_, ?_⟩
  ·exact (((HI.out.alloc _).drewN _).set_0 _).set_1 _
  ·exact below_set (below_set (pw_below_drewN (below_alloc HB.out _) _) hg) hg
  ·exact KeepBut.set_ (KeepBut.set_ (keep_drewN (keep_alloc (KeepBut.refl w g none) _) _) _ _) _ _
def num_wide_signed.j0 : Nat → Bool → Bool → Int → Int → Option (Int × Int)
 | 0, _, _, _, _ => none
 | k + 1, x1, x13, x239000, x239001 => if x13 = true then (if x239000 > 0 then (some (0, 9)) else (some (0, 0))) else ((num_signed.f k x239001 x1).bind fun bt239 => (some (bt239.1, bt239.2)))
def num_wide_signed.f (k : Nat) (a0_0 : Int) (a0_1 : Int) (a1 : Bool) : Option (Int × Int) := if a0_0 > 0 then (num_wide_signed.j0 k a1 true a0_0 a0_1) else (num_wide_signed.j0 k a1 (a0_1 == 0) a0_0 a0_1)
theorem num_wide_signed.mono_l : ∀ k, (∀ y0 y1 y2 y3, LeO (num_wide_signed.j0 k y0 y1 y2 y3) (num_wide_signed.j0 (k + 1) y0 y1 y2 y3))
 | 0 => fun _ _ _ _ r h => by simp [num_wide_signed.j0] at h
 | k + 1 => by
  have ih0 := num_wide_signed.mono_l k
  ·intro y0 y1 y2 y3
   unfold num_wide_signed.j0
   repeat' first
   | (with_reducible exact ih0 _ _ _ _)
   | (with_reducible exact num_signed.mono _ _ _)
   | (with_reducible exact LeO.refl _)
   | (with_reducible exact LeO.none _)
   | (with_reducible refine LeO.ite ?_ ?_)
   | (with_reducible refine LeO.bind ?_ (fun _ => ?_))

   | exact num_signed.mono _ _ _
theorem num_wide_signed.mono : ∀ a0 a1 a2 k, LeO (num_wide_signed.f k a0 a1 a2) (num_wide_signed.f (k + 1) a0 a1 a2) := by
 intro a0 a1 a2 k
 have ih0 := num_wide_signed.mono_l k
 unfold num_wide_signed.f
 repeat' first
   | (with_reducible exact ih0 _ _ _ _)
   | (with_reducible exact num_signed.mono _ _ _)
   | (with_reducible exact LeO.refl _)
   | (with_reducible exact LeO.none _)
   | (with_reducible refine LeO.ite ?_ ?_)
   | (with_reducible refine LeO.bind ?_ (fun _ => ?_))

   | exact num_signed.mono _ _ _
set_option maxHeartbeats 8000000 in
set_option maxRecDepth 100000 in
theorem num_wide_signed.calls (k : Nat) (a0_0 : Int) (a0_1 : Int) (a1 : Bool) (r1 : Int) (r2 : Int) (w : World) (h : num_wide_signed.f k a0_0 a0_1 a1 = some (r1, r2)) :
  Calls Try.prog 67 #[.agg #[.int .u64 a0_0, .int .u64 a0_1], .bool a1] w fun e w' => e = .returned (.tuple #[.int .i64 r1, .int .i64 r2]) ∧ Below w.heap.size w w' := by
 have hu88 := Try.underlying88
 have HB := gA (Below.refl w.heap.size w)
 have H : (if a0_0 > 0 then (num_wide_signed.j0 k a1 true a0_0 a0_1) else (num_wide_signed.j0 k a1 (a0_1 == 0) a0_0 a0_1)) = some (r1, r2) := h
 clear h
 have HC3 := gA H
 clear H
 go_enter Try.func67, Try.ntmps67
 go_upto_region 1 with (first | ((with_reducible refine gate_dst (N := 2) rfl ?_); refine box_event ?hg (N := 2) ?hd (cs := #[.int .u64 a0_0, .int .u64 a0_1]) (t := 88) ?hr ?_; (case hd => rfl); (case hg => rfl); (case hr => first | (go_simp; done) | (go_simp; rfl)); intro gb238 hg w4 hbox hb; have BK238 := gA (hbox); have GW238 := gA ((by rw [hg]; exact (below_size (gB HB)) : w.heap.size ≤ gb238)); have GE238 := gA ((by rw [hg]; exact (below_size (gB HB)) : w.heap.size ≤ gb238)); replace HB := gA (below_step (gB HB) hb); clear hb hbox hg))
 (try simp only [Act.put, List.setIfInBounds_toArray, List.set_cons_zero, List.set_cons_succ])
 go_cut [13] (fun v13 wc => ∃ (kq : Nat) (x13_2 : Bool), v13 = .bool x13_2 ∧ Aside0 (num_wide_signed.j0 kq a1 x13_2 a0_0 a0_1 = some (r1, r2)) ∧ Aside0 (kq ≤ k) ∧ Aside0 (wc.heap[gb238]? = some (.cells #[.int .u64 a0_0, .int .u64 a0_1] 88 (0, 0))) ∧ Aside0 (Below w.heap.size w wc))
 case first =>
  have H := HC3.out; clear HC3
  by_cases c5 : a0_0 > 0
  ·rw [if_pos c5] at H
   have c5b0 : decide (0 < a0_0) = true := decide_eq_true c5
   clear c5
   (first | rw [c5b0] | (simp only [i64_w, i32_w]; rw [c5b0]) | skip)
   have H' := gA H
   clear H
   obtain ⟨hcz6_0, hcz6_1, hfz6_0, hfz6_1⟩ := gz2 BK238
   go_wp2
   all_goals (go_meet; (case rel => exact ⟨_, (true), (by first | rfl | (simp; done) | (simp [*]; done) | (exfalso; simp_all; done) | (exfalso; simp_all; omega)), H', ⟨by first | omega | exact Nat.le_refl _⟩, ⟨gK BK238⟩, ⟨gB HB⟩⟩))
  ·rw [if_neg c5] at H
   have c5b0 : decide (0 < a0_0) = false := decide_eq_false c5
   clear c5
   (first | rw [c5b0] | (simp only [i64_w, i32_w]; rw [c5b0]) | skip)
   have H' := gA H
   clear H
   obtain ⟨hcz7_0, hcz7_1, hfz7_0, hfz7_1⟩ := gz2 BK238
   go_wp2
   all_goals (go_meet; (case rel => exact ⟨_, ((a0_1 == 0)), (by first | rfl | (simp; done) | (simp [*]; done) | (exfalso; simp_all; done) | (exfalso; simp_all; omega)), H', ⟨by first | omega | exact Nat.le_refl _⟩, ⟨gK BK238⟩, ⟨gB HB⟩⟩))
 case rest =>
  clear HC3
  try clear p2
  try clear c5
  try clear c5b0
  try clear c6
  try clear hcz6_0
  try clear hcz6_1
  try clear hcz7_0
  try clear hcz7_1
  try clear hfz6_0
  try clear hfz6_1
  try clear hfz7_0
  try clear hfz7_1
  obtain ⟨kq, x13_2, rfl, HA, HJ2, BK238, HB⟩ := hcut
  cases kq with
  | zero => exact absurd HA.out (by simp [num_wide_signed.j0])
  | succ kj2 =>
   have H := HA.out; clear HA
   simp only [num_wide_signed.j0] at H
   by_cases c8 : x13_2 = true
   ·subst c8
    have H1 : (if a0_0 > 0 then (some (0, 9)) else (some (0, 0))) = some (r1, r2) := by rw [if_pos rfl] at H; exact H
    clear H; have H := H1; clear H1
    by_cases c9 : a0_0 > 0
    ·rw [if_pos c9] at H
     have c9b0 : decide (0 < a0_0) = true := decide_eq_true c9
     clear c9
     simp only [Option.some.injEq, Prod.mk.injEq] at H
     obtain ⟨rfl, rfl⟩ := H
     obtain ⟨hcz10_0, hcz10_1, hfz10_0, hfz10_1⟩ := gz2 BK238
     go_wp2
     go_ret2
     exact ⟨rfl, by repeat first | exact gB HB | refine below_set ?_ GE238.out⟩
    ·rw [if_neg c9] at H
     have c9b0 : decide (0 < a0_0) = false := decide_eq_false c9
     clear c9
     simp only [Option.some.injEq, Prod.mk.injEq] at H
     obtain ⟨rfl, rfl⟩ := H
     obtain ⟨hcz11_0, hcz11_1, hfz11_0, hfz11_1⟩ := gz2 BK238
     go_wp2
     go_ret2
     exact ⟨rfl, by repeat first | exact gB HB | refine below_set ?_ GE238.out⟩
   ·replace c8 := Bool.eq_false_iff.mpr c8
    subst c8
    have H1 : ((num_signed.f kj2 a0_1 a1).bind fun bt239 => (some (bt239.1, bt239.2))) = some (r1, r2) := by rw [if_neg (show ¬ (false = true) by decide)] at H; exact H
    clear H; have H := H1; clear H1
    replace H := Option.bind_eq_some_iff.mp H
    obtain ⟨⟨t239, t240⟩, A120, H⟩ := H
    replace H : (some (t239, t240)) = some (r1, r2) := H
    have A12 := gA A120
    clear A120
    simp only [Option.some.injEq, Prod.mk.injEq] at H
    obtain ⟨rfl, rfl⟩ := H
    obtain ⟨hcz13_0, hcz13_1, hfz13_0, hfz13_1⟩ := gz2 BK238
    go_wp2_with (first | ((with_reducible refine gate_callee (f := 68) rfl ?_); refine goesL_ (some 20) rfl rfl Try.func68 (by kernel_rfl) rfl #[.int .u64 a0_1, .bool a1] rfl (by (try simp only [List.map_toArray, List.map_cons, List.map_nil]); first | done | rfl | (simp only [List.length_drop, List.length_take]; rfl)) ?_; (with_reducible refine (num_signed.calls kj2 a0_1 a1 t239 t240 _ A12.out).mono ?_); rintro e w' ⟨rfl, ⟨nd, rfl⟩⟩; refine ⟨_, rfl, ?_⟩))
    go_ret2
    exact ⟨rfl, by repeat first | exact gB HB | refine below_set ?_ GE238.out⟩
def num_Sum.s (l : List Int) : Int × Int := if l.sum < -9223372036854775808 ∨ 9223372036854775807 < l.sum then (0, 9) else (l.sum, 0)
def num_Sum.f (l0 : List Int) : Option (Int × Int) := if l0.length ≤ 17592186044416 ∧ (l0.all fun x => decide (-9223372036854775808 ≤ x) && decide (x ≤ 9223372036854775807)) = true then some (num_Sum.s l0) else none
def wok (h l v : Int) : Prop := 0 ≤ h ∧ 0 ≤ l ∧ l < 18446744073709551616 ∧ h * 18446744073709551616 + l = v
theorem u64w (x : Int) : IntKind.u64.wrap x = x % 18446744073709551616 := rfl
theorem add_spec {h l v n : Int} (hw : wok h l v) (h0 : 0 ≤ n) (h1 : n < 18446744073709551616) (hv : v + n < 340282366920938463463374607431768211456) :
  ∃ h' l', num_wide_add.f h l n = some (h', l') ∧ wok h' l' (v + n) := by
 obtain ⟨a, b, c, d⟩ := hw
 unfold num_wide_add.f
 rw [u64w, u64w]
 by_cases hc : l + n < 18446744073709551616
 ·rw [if_neg (by omega)]
  exact ⟨_, _, rfl, a, by omega, by omega, by omega⟩
 ·rw [if_pos (by omega)]
  exact ⟨_, _, rfl, by omega, by omega, by omega, by omega⟩
theorem less_spec {ah al bh bl v u : Int} (ha : wok ah al v) (hb : wok bh bl u) : num_wide_less.f ah al bh bl = some (decide (v < u)) := by
 obtain ⟨a, b, c, d⟩ := ha
 obtain ⟨a', b', c', d'⟩ := hb
 unfold num_wide_less.f
 by_cases h1 : ah < bh
 ·rw [if_pos h1, decide_eq_true (by omega)]
 ·rw [if_neg h1]
  by_cases h2 : ah = bh
  ·rw [if_pos h2]
   subst h2
   congr 1
   exact decide_eq_decide.mpr (by omega)
  ·rw [if_neg h2, decide_eq_false (by omega)]
theorem sub_spec {ah al bh bl v u : Int} (ha : wok ah al v) (hb : wok bh bl u) (hle : u ≤ v) (hv : v < 340282366920938463463374607431768211456) :
  ∃ h' l', num_wide_sub.f ah al bh bl = some (h', l') ∧ wok h' l' (v - u) := by
 obtain ⟨a, b, c, d⟩ := ha
 obtain ⟨a', b', c', d'⟩ := hb
 unfold num_wide_sub.f
 by_cases h1 : al < bl
 ·rw [if_pos h1, u64w, u64w, u64w]
  exact ⟨_, _, rfl, by omega, by omega, by omega, by omega⟩
 ·rw [if_neg h1, u64w, u64w]
  exact ⟨_, _, rfl, by omega, by omega, by omega, by omega⟩
theorem signed_spec {h l v : Int} (ha : wok h l v) (below : Bool) (s : Int) (hs : s = if below = true then -v else v) :
  num_wide_signed.f 2 h l below = some (if s < -9223372036854775808 ∨ 9223372036854775807 < s then (0, 9) else (s, 0)) := by
 obtain ⟨a, b, c, d⟩ := ha
 unfold num_wide_signed.f
 simp only [num_wide_signed.j0, num_signed.f, num_signed.j0]
 by_cases h0 : h > 0
 ·rw [if_pos h0]
  simp only [if_true]
  rw [if_pos h0]
  congr 1
  rw [if_pos]
  cases below <;> simp at hs <;> omega
 ·rw [if_neg h0]
  have hh : h = 0 := by omega
  subst hh
  by_cases hl : l = 0
  ·subst hl
   rw [if_pos (by rfl), if_neg (by omega), if_neg (by cases below <;> simp at hs <;> omega)]
   congr 2
   cases below <;> simp at hs <;> omega
  ·rw [if_neg (by simpa using hl)]
   cases below with
   | true =>
    simp only [if_true] at hs ⊢
    by_cases hm : l ≤ 9223372036854775808
    ·rw [decide_eq_true hm, if_pos rfl, if_neg (by omega)]
     simp only [Option.bind_some, u64w, wrap64]
     congr 2
     omega
    ·rw [decide_eq_false hm, if_neg (by simp), if_pos (by omega)]
     rfl
   | false =>
    simp only [Bool.false_eq_true, if_false] at hs ⊢
    by_cases hm : l ≤ 9223372036854775807
    ·rw [if_pos hm, if_neg (by omega)]
     simp only [Option.bind_some, wrap64]
     congr 2
     omega
    ·rw [if_neg hm, if_pos (by omega)]
     rfl
def posS (l : List Int) : Int := (l.map fun x => if x < 0 then 0 else x).sum
def negS (l : List Int) : Int := (l.map fun x => if x < 0 then -x else 0).sum
theorem is_keep {w0 W W1 : World} {g g' : Nat} {f0 f1 : Int} (h : IsS88 w0 W g f0 f1) (hk : KeepBut W W1 g' none) (hne : g ≠ g') : IsS88 w0 W1 g f0 f1 :=
 ⟨(hk.2 g h.lt hne (by simp)).trans h.1, h.2⟩
theorem posS_snoc (l : List Int) (x : Int) : posS (l ++ [x]) = posS l + (if x < 0 then 0 else x) := by
 unfold posS
 rw [List.map_append, List.sum_append]
 simp
theorem negS_snoc (l : List Int) (x : Int) : negS (l ++ [x]) = negS l + (if x < 0 then -x else 0) := by
 unfold negS
 rw [List.map_append, List.sum_append]
 simp
theorem pos_neg (l : List Int) : posS l - negS l = l.sum := by
 induction l with
 | nil => rfl
 | cons x l ih =>
  simp only [posS, negS, List.map_cons, List.sum_cons] at ih ⊢
  split <;> omega
theorem posS_le (l : List Int) (h : ∀ x ∈ l, -9223372036854775808 ≤ x ∧ x ≤ 9223372036854775807) : 0 ≤ posS l ∧ posS l ≤ l.length * 9223372036854775808 := by
 induction l with
 | nil => simp [posS]
 | cons x l ih =>
  have h1 := ih (fun y hy => h y (List.mem_cons_of_mem _ hy))
  have h2 := h x List.mem_cons_self
  simp only [posS, List.map_cons, List.sum_cons, List.length_cons] at h1 ⊢
  split <;> omega
theorem negS_le (l : List Int) (h : ∀ x ∈ l, -9223372036854775808 ≤ x ∧ x ≤ 9223372036854775807) : 0 ≤ negS l ∧ negS l ≤ l.length * 9223372036854775808 := by
 induction l with
 | nil => simp [negS]
 | cons x l ih =>
  have h1 := ih (fun y hy => h y (List.mem_cons_of_mem _ hy))
  have h2 := h x List.mem_cons_self
  simp only [negS, List.map_cons, List.sum_cons, List.length_cons] at h1 ⊢
  split <;> omega
theorem sum_some {l : List Int} {r : Int × Int} (h : num_Sum.f l = some r) : l.length ≤ 17592186044416 ∧ (∀ x ∈ l, -9223372036854775808 ≤ x ∧ x ≤ 9223372036854775807) ∧ num_Sum.s l = r := by
 unfold num_Sum.f at h
 split at h
 ·rename_i hc
  exact ⟨hc.1, fun x hx => by have := List.all_eq_true.1 hc.2 x hx; simpa using this, Option.some.inj h⟩
 ·cases h
set_option maxHeartbeats 1000000 in
set_option maxRecDepth 100000 in
theorem num_Sum.calls (A0 : Option Addr) (c0 : Nat) (l0 : List Int) (r1 : Int) (r2 : Int) (w : World) (hr0 : Kd.C (Kd.int .i64) w A0 l0.length l0) (hc0 : l0.length ≤ c0) (h : num_Sum.f l0 = some (r1, r2)) :
  Calls Try.prog 56 #[.slice A0 l0.length c0] w fun e w' => e = .returned (.tuple #[.int .i64 r1, .int .i64 r2]) ∧ Below w.heap.size w w' := by
 have HR0 := Aside0.mk hr0
 have HC0 := Aside0.mk hc0
 clear hr0 hc0
 have H := Aside0.mk h
 clear h
 have hut := Try.underlying88
 go_enter Try.func56, Try.ntmps56
 go_wp2
 go_loopg [11] l0.length (fun kq v11 W => ∃ (j : Nat) (ah al bh bl : Int), v11 = .int .i64 (j : Int) ∧ Aside0 (j + kq = l0.length) ∧ Aside0 (IsS88 w W w.heap.size ah al) ∧ Aside0 (IsS88 w W (w.heap.size + 1) bh bl) ∧ Aside0 (wok ah al (posS (l0.take j))) ∧ Aside0 (wok bh bl (negS (l0.take j))) ∧ Aside0 (Below w.heap.size w W))
 case atStart =>
  refine ⟨0, 0, 0, 0, 0, rfl, ⟨by simp⟩, ⟨(IsS88.new w w 0 0 (Below.refl _ _)).alloc _⟩, ⟨?_⟩, ⟨⟨by omega, by omega, by omega, by simp [posS]⟩⟩, ⟨⟨by omega, by omega, by omega, by simp [negS]⟩⟩, ⟨below_alloc (below_alloc (Below.refl _ _) _) _⟩⟩
  have h := IsS88.new w (w.alloc (Obj.cells #[Value.int IntKind.u64 0, Value.int IntKind.u64 0] 88)) 0 0 (below_alloc (Below.refl _ _) _)
  simpa using h
 case round =>
  obtain ⟨j, ah, al, bh, bl, rfl, HJ, HIA, HIB, HWA, HWB, HB⟩ := hrel
  by_cases hlt : j < l0.length
  ·obtain ⟨ad, e, hx⟩ := Kd.at_int HR0.out (j : Int) (by omega) (by omega)
   cases e
   have hx' := pw_cell_below HB.out hx
   rw [Int.toNat_natCast] at hx'
   clear hx
   obtain ⟨hfl, hfa, hff⟩ := sum_some H.out
   have hrd : rd l0 (j : Int) = l0[j] := by simp [rd, hlt]
   have htk : l0.take (j + 1) = l0.take j ++ [l0[j]] := (List.take_append_getElem hlt).symm
   have hps : posS (l0.take (j + 1)) = posS (l0.take j) + (if l0[j] < 0 then 0 else l0[j]) := by rw [htk]; exact posS_snoc _ _
   have hns : negS (l0.take (j + 1)) = negS (l0.take j) + (if l0[j] < 0 then -l0[j] else 0) := by rw [htk]; exact negS_snoc _ _
   have hpb := posS_le (l0.take j) (fun x hx => hfa x (List.mem_of_mem_take hx))
   have hnb := negS_le (l0.take j) (fun x hx => hfa x (List.mem_of_mem_take hx))
   have hlt' : (l0.take j).length ≤ 17592186044416 := by rw [List.length_take]; omega
   have hwf := hfa l0[j] (List.getElem_mem hlt)
   have HWR : Aside0 (wrap64 ((j : Int) + 1) = ((j + 1 : Nat) : Int)) := ⟨by unfold wrap64; omega⟩
   have hjl : ∃ g, gk = g + 1 := ⟨gk - 1, by have := HJ.out; omega⟩
   obtain ⟨g, rfl⟩ := hjl
   rw [hrd] at hx'
   generalize l0[j] = x at hps hns hwf hx'
   clear hfl hfa hff htk hrd
   by_cases hn : x < 0
   ·obtain ⟨h2, l2, hs, hw2⟩ := add_spec (n := -x) HWB.out (by omega) (by omega) (by omega)
    have HZ : Aside0 (num_size.f x = some (-x, true)) := ⟨by unfold num_size.f; rw [if_pos hn, u64w, u64w]; congr 2; omega⟩
    have HS := Aside0.mk hs
    have HWA2 : Aside0 (wok ah al (posS (l0.take (j + 1)))) := ⟨by rw [hps, if_pos hn, Int.add_zero]; exact HWA.out⟩
    have HWB2 : Aside0 (wok h2 l2 (negS (l0.take (j + 1)))) := ⟨by rw [hns, if_pos hn]; exact hw2⟩
    clear hs hw2 hn hps hns hpb hnb hlt' hwf
    go_wp2_with (first | (go_at_call 63; (with_reducible refine (num_size.calls _ _ _ _ HZ.out).mono ?_); rintro e w1 ⟨rfl, ⟨nd, rfl⟩⟩) | (go_at_call 64; (with_reducible refine (num_wide_add.calls _ _ _ _ _ _ w _ (HIB.out.drewN nd) (pw_below_drewN HB.out nd) HS.out).mono ?_); rintro e w2 ⟨rfl, hi2, hb2, hk2⟩; have HIB2 := Aside0.mk hi2; have HB2 := Aside0.mk hb2; have HIA2 := Aside0.mk (is_keep (HIA.out.drewN nd) hk2 (by omega)); clear hi2 hb2 hk2))
    go_roundg g
    case measure => omega
    case rel => exact ⟨j + 1, _, _, _, _, by rw [HWR.out], ⟨by have := HJ.out; omega⟩, HIA2, HIB2, HWA2, HWB2, HB2⟩
   ·obtain ⟨h2, l2, hs, hw2⟩ := add_spec (n := x) HWA.out (by omega) (by omega) (by omega)
    have HZ : Aside0 (num_size.f x = some (x, false)) := ⟨by unfold num_size.f; rw [if_neg hn, u64w]; congr 2; omega⟩
    have HS := Aside0.mk hs
    have HWA2 : Aside0 (wok h2 l2 (posS (l0.take (j + 1)))) := ⟨by rw [hps, if_neg hn]; exact hw2⟩
    have HWB2 : Aside0 (wok bh bl (negS (l0.take (j + 1)))) := ⟨by rw [hns, if_neg hn, Int.add_zero]; exact HWB.out⟩
    clear hs hw2 hn hps hns hpb hnb hlt' hwf
    go_wp2_with (first | (go_at_call 63; (with_reducible refine (num_size.calls _ _ _ _ HZ.out).mono ?_); rintro e w1 ⟨rfl, ⟨nd, rfl⟩⟩) | (go_at_call 64; (with_reducible refine (num_wide_add.calls _ _ _ _ _ _ w _ (HIA.out.drewN nd) (pw_below_drewN HB.out nd) HS.out).mono ?_); rintro e w2 ⟨rfl, hi2, hb2, hk2⟩; have HIA2 := Aside0.mk hi2; have HB2 := Aside0.mk hb2; have HIB2 := Aside0.mk (is_keep (HIB.out.drewN nd) hk2 (by omega)); clear hi2 hb2 hk2))
    go_roundg g
    case measure => omega
    case rel => exact ⟨j + 1, _, _, _, _, by rw [HWR.out], ⟨by have := HJ.out; omega⟩, HIA2, HIB2, HWA2, HWB2, HB2⟩
  ·have hcz0 := cellS88_0 HIA.out.1
   have hcz1 := cellS88_1 HIA.out.1
   have hcy0 := cellS88_0 HIB.out.1
   have hcy1 := cellS88_1 HIB.out.1
   have HL := Aside0.mk (less_spec HWA.out HWB.out)
   have hjl : j = l0.length := by have := HJ.out; omega
   have HPN := Aside0.mk (show posS (l0.take j) - negS (l0.take j) = l0.sum by rw [hjl, List.take_length]; exact pos_neg l0)
   clear hjl
   obtain ⟨hfl, hfa, hff⟩ := sum_some H.out
   have HPB := Aside0.mk (posS_le (l0.take j) (fun x hx => hfa x (List.mem_of_mem_take hx)))
   have HNB := Aside0.mk (negS_le (l0.take j) (fun x hx => hfa x (List.mem_of_mem_take hx)))
   have HFF := Aside0.mk hff
   have HLT := Aside0.mk (show (l0.take j).length ≤ 17592186044416 by rw [List.length_take]; omega)
   clear hfl hfa hff
   by_cases hc : posS (l0.take j) < negS (l0.take j)
   ·have hcd : decide (posS (l0.take j) < negS (l0.take j)) = true := decide_eq_true hc
    obtain ⟨h2, l2, hs, hw2⟩ := sub_spec HWB.out HWA.out (Int.le_of_lt hc) (by have := HNB.out; have := HLT.out; omega)
    have HS := Aside0.mk hs
    have HW2 := Aside0.mk hw2
    have HG := Aside0.mk ((signed_spec hw2 true l0.sum (by have := HPN.out; simp; omega)).trans (congrArg some HFF.out))
    clear hs hw2 hc
    rw [hcd] at HL
    clear hcd
    go_wp2_with (first | (go_at_call 65; (with_reducible refine (num_wide_less.calls _ _ _ _ _ _ HL.out).mono ?_); rintro e w1 ⟨rfl, hb1⟩; have HB1 := Aside0.mk (HB.out.trans (hb1.mono HB.out.size)); have HIA1 := Aside0.mk (HIA.out.below hb1); have HIB1 := Aside0.mk (HIB.out.below hb1); clear hb1; have hcz0' := cellS88_0 HIA1.out.1; have hcz1' := cellS88_1 HIA1.out.1) | (go_at_call 66; (with_reducible refine (num_wide_sub.calls _ _ _ _ _ _ _ w _ HIB1.out HB1.out HS.out).mono ?_); rintro e w2 ⟨rfl, hi2, hb2, hk2⟩; have HB2 := Aside0.mk hb2; have hcy0' := cellS88_0 hi2.1; have hcy1' := cellS88_1 hi2.1; clear hi2 hb2 hk2) | (go_at_call 67; (with_reducible refine (num_wide_signed.calls _ _ _ _ _ _ _ HG.out).mono ?_); rintro e w3 ⟨rfl, hb3⟩; have HB3 := Aside0.mk (HB2.out.trans (hb3.mono HB2.out.size)); clear hb3))
    go_ret2
    exact ⟨rfl, HB3.out⟩
   ·have hcd : decide (posS (l0.take j) < negS (l0.take j)) = false := decide_eq_false hc
    obtain ⟨h2, l2, hs, hw2⟩ := sub_spec HWA.out HWB.out (by omega) (by have := HPB.out; have := HLT.out; omega)
    have HS := Aside0.mk hs
    have HW2 := Aside0.mk hw2
    have HG := Aside0.mk ((signed_spec hw2 false l0.sum (by have := HPN.out; simp; omega)).trans (congrArg some HFF.out))
    clear hs hw2 hc
    rw [hcd] at HL
    clear hcd
    go_wp2_with (first | (go_at_call 65; (with_reducible refine (num_wide_less.calls _ _ _ _ _ _ HL.out).mono ?_); rintro e w1 ⟨rfl, hb1⟩; have HB1 := Aside0.mk (HB.out.trans (hb1.mono HB.out.size)); have HIA1 := Aside0.mk (HIA.out.below hb1); have HIB1 := Aside0.mk (HIB.out.below hb1); clear hb1; have hcz0' := cellS88_0 HIB1.out.1; have hcz1' := cellS88_1 HIB1.out.1) | (go_at_call 66; (with_reducible refine (num_wide_sub.calls _ _ _ _ _ _ _ w _ HIA1.out HB1.out HS.out).mono ?_); rintro e w2 ⟨rfl, hi2, hb2, hk2⟩; have HB2 := Aside0.mk hb2; have hcy0' := cellS88_0 hi2.1; have hcy1' := cellS88_1 hi2.1; clear hi2 hb2 hk2) | (go_at_call 67; (with_reducible refine (num_wide_signed.calls _ _ _ _ _ _ _ HG.out).mono ?_); rintro e w3 ⟨rfl, hb3⟩; have HB3 := Aside0.mk (HB2.out.trans (hb3.mono HB2.out.size)); clear hb3))
    go_ret2
    exact ⟨rfl, HB3.out⟩
structure BxS (w W : World) (L : List (Nat × Array Value × Nat)) : Prop where
 bel : Below w.heap.size w W
 blk : ∀ p ∈ L, W.heap[p.1]? = some (.cells p.2.1 p.2.2 (0, 0))
 fr : ∀ p ∈ L, w.heap.size ≤ p.1
theorem BxS.step {w W W' : World} {L : List (Nat × Array Value × Nat)} (h : BxS w W L) (hb : Below W.heap.size W W') : BxS w W' L := ⟨below_step h.bel hb, fun p hp => blk_below (h.blk p hp) hb, h.fr⟩
theorem BxS.nil (w : World) : BxS w w [] := ⟨Below.refl _ _, fun _ h => (by cases h), fun _ h => (by cases h)⟩
theorem BxS.cons {w W : World} {L : List (Nat × Array Value × Nat)} (h : BxS w W L) (cs : Array Value) (t : Nat) : BxS w (W.alloc (.cells cs t)) ((W.heap.size, cs, t) :: L) := by
 refine ⟨below_alloc h.bel _, fun p hp => ?_, fun p hp => ?_⟩
 ·rcases List.mem_cons.1 hp with rfl | hp
  ·exact blk_new W (.cells cs t (0, 0))
  ·exact blk_alloc (h.blk p hp) _
 ·rcases List.mem_cons.1 hp with rfl | hp
  ·exact h.bel.size
  ·exact h.fr p hp
theorem BxS.at_ {w W : World} {L : List (Nat × Array Value × Nat)} (h : BxS w W L) (i : Nat) {p : Nat × Array Value × Nat} (hp : L[i]? = some p) : W.heap[p.1]? = some (.cells p.2.1 p.2.2 (0, 0)) := h.blk p (List.mem_of_getElem? hp)
/-- A box of the call's own that nobody needs any more. -/
theorem BxS.drop {w W : World} {p : Nat × Array Value × Nat} {L : List (Nat × Array Value × Nat)} (h : BxS w W (p :: L)) : BxS w W L := ⟨h.bel, fun q hq => h.blk q (List.mem_cons_of_mem _ hq), fun q hq => h.fr q (List.mem_cons_of_mem _ hq)⟩
structure OutS (w W : World) (L : List (Nat × Array Value × Nat)) (go : Nat) (v0 u1 v1 : Value) (s : List Int) (c : List S43) : Prop where
 bx : BxS w W L
 fr : ∀ p ∈ L, p.1 ≠ go
 out : W.heap[go]? = some (.cells #[v0, u1] 25 (0, 0))
 ofr : w.heap.size ≤ go
 r0 : Kd.R (Kd.int .i64) 3 W w.heap.size (fun k => k ≠ go ∧ ∀ p ∈ L, k ≠ p.1) v0 s
 r1 : Kd.R k43 43 W w.heap.size (fun k => some k ≠ v0.ownBlock ∧ k ≠ go ∧ ∀ p ∈ L, k ≠ p.1) v1 c
section
variable {w W W' : World} {L : List (Nat × Array Value × Nat)} {go : Nat} {v0 u1 v1 : Value} {s : List Int} {c : List S43}
theorem OutS.step (h : OutS w W L go v0 u1 v1 s c) (hb : Below W.heap.size W W') : OutS w W' L go v0 u1 v1 s c := ⟨h.bx.step hb, h.fr, blk_below h.out hb, h.ofr, Kd.R_below h.r0 hb, Kd.R_below h.r1 hb⟩
theorem OutS.okf (h : OutS w W L go v0 u1 v1 s c) : ∀ k, W.heap.size ≤ k → (some k ≠ v0.ownBlock ∧ k ≠ go ∧ ∀ p ∈ L, k ≠ p.1) ∧ some k ≠ v1.ownBlock :=
 fun k hk => ⟨⟨Kd.fresh' (Kd.R_lt h.r0) k hk, Kd.freshB h.out k hk, fun p hp => Kd.freshB (h.bx.blk p hp) k hk⟩, Kd.fresh' (Kd.R_lt h.r1) k hk⟩
/-- A box that is made, with a row in it. -/
theorem OutS.mk0 (h : BxS w W L) (hL : L.all (fun p => p.2.2 != 3) = true) (h0 : Kd.R (Kd.int .i64) 3 W w.heap.size (fun _ => True) v0 s) : OutS w (W.alloc (.cells #[v0, .slice none 0 0] 25)) L W.heap.size v0 (.slice none 0 0) (.slice none 0 0) s [] := by
 refine ⟨h.step (below_alloc (Below.refl _ _) _), fun p hp => Nat.ne_of_lt (blk_lt (h.blk p hp)), blk_new W (.cells _ _ (0, 0)), h.bel.size, ?_, Kd.R_nil _ _ _ _ _⟩
 refine Kd.R_alloc (Kd.R_mono (Kd.R_bound h0) (fun k hk => ⟨Nat.ne_of_lt hk.2.2.1, fun p hp he => ?_⟩)) _
 obtain ⟨q, hq, cells, hc⟩ := hk.2.2.2
 have hq2 : q = 3 := by simpa [Kd.int, Kd.scalar] using hq
 rw [he, h.blk p hp] at hc
 injection hc with hc
 injection hc with _ h1 _
 have h3 := List.all_eq_true.1 hL p hp
 rw [h1, hq2] at h3
 exact absurd h3 (by decide)
theorem OutS.put1 (h : OutS w W L go v0 u1 v1 s c) : OutS w (W.setCell ⟨go, 1, none⟩ v1) L go v0 v1 v1 s c := by
 refine ⟨⟨below_set h.bx.bel h.ofr, fun p hp => blk_far (h.bx.blk p hp) (h.fr p hp) _, h.bx.fr⟩, h.fr, blk_put (cs := #[v0, u1]) h.out 1 _ rfl, h.ofr, ?_, ?_⟩
 ·exact Kd.R_far h.r0 (fun k hk => hk.1) _
 ·exact Kd.R_far h.r1 (fun k hk => hk.2.1) _
theorem OutS.grow (h : OutS w W L go v0 u1 v1 s c) {v2 : Value} {c2 : List S43} {W2 : World} (h1 : Kd.R k43 43 W2 w.heap.size (fun k => some k ≠ v0.ownBlock ∧ k ≠ go ∧ ∀ p ∈ L, k ≠ p.1) v2 c2) (hb : Below w.heap.size w W2) (hg : W.grownBy W2 v1.ownBlock) : OutS w W2 L go v0 u1 v2 s c2 := by
 refine ⟨⟨hb, fun p hp => blk_grown (h.bx.blk p hp) hg (Kd.R_away h.r1 (fun k hk => hk.2.2 p hp)), h.bx.fr⟩, h.fr, blk_grown h.out hg (Kd.R_away h.r1 (fun k hk => hk.2.1)), h.ofr, ?_, h1⟩
 exact Kd.R_over h.r0 h.r1 (by decide) hg
theorem OutS.ret (h : OutS w W L go v0 u1 v1 s c) {p : Nat × Array Value × Nat} (hp : p ∈ L) : Kd.R (Kd.int .i64) 3 ((W.setCell ⟨p.1, 0, none⟩ v0).setCell ⟨p.1, 1, none⟩ v1) w.heap.size (fun _ => True) v0 s ∧ Kd.R k43 43 ((W.setCell ⟨p.1, 0, none⟩ v0).setCell ⟨p.1, 1, none⟩ v1) w.heap.size (fun k => some k ≠ v0.ownBlock) v1 c ∧ Below w.heap.size w ((W.setCell ⟨p.1, 0, none⟩ v0).setCell ⟨p.1, 1, none⟩ v1) :=
 ⟨Kd.R_mono (Kd.R_far (Kd.R_far h.r0 (fun k hk => hk.2 p hp) _) (fun k hk => hk.2 p hp) _) (fun _ _ => trivial), Kd.R_mono (Kd.R_far (Kd.R_far h.r1 (fun k hk => hk.2.2 p hp) _) (fun k hk => hk.2.2 p hp) _) (fun _ hk => hk.1), below_set (below_set h.bx.bel (h.bx.fr p hp)) (h.bx.fr p hp)⟩
end
section
variable {P : Program} {ops : Array Oper} {o : Oper} {rest : List Oper} {a : Act} {Q : Exit → Act → World → Prop} {w W : World} {L : List (Nat × Array Value × Nat)} {go : Nat} {v0 u1 v1 : Value} {s : List Int} {c : List S43}
theorem OutS.app (h : OutS w W L go v0 u1 v1 s c) (hgd : o.guard = none) (sx x : Operand) (t : TypeId) (z : Value) (ho : o.op = .call { callee := .builtin .append, args := #[sx, x], argTypes := #[t, t] })
  (ht : P.underlying t = some (.slice 43)) (hinfo : (P.info? 43).map (fun i => (i.zero, i.size, i.bytes)) = some (some z, 3, 40)) (hz : z.cells.size = 3) (hs : a.eval sx = v1) (hx : a.eval x = .slice (some ⟨W.heap.size, 0, none⟩) 1 1)
  (p : S43) (cs : List Value) (okp : Nat → Prop) (hp : k43.M W w.heap.size okp p cs) (hok : ∀ k, okp k → (some k ≠ v0.ownBlock ∧ k ≠ go ∧ ∀ p ∈ L, k ≠ p.1) ∧ some k ≠ v1.ownBlock) (hl : (c.length + 1) * 40 ≤ 140737488355328)
  (hK : ∀ v2 w2, OutS w w2 L go v0 u1 v2 s (c ++ [p]) → wpList P ops Q rest (a.put o.dst v2) w2) : wpList P ops Q (o :: rest) a (W.alloc (.cells cs.toArray 43)) := by
 refine Kd.R_append k43 (w0 := w) w.heap.size hgd sx x t 43 z 40 ho ht hinfo hz (by decide) (by omega) v1 c p cs _ okp hs hx hp hok (fun k hk => (h.okf k hk).1) h.r1 h.bx.bel h.bx.bel.size hl ?_
 intro v2 w2 h1 hb hg _
 exact hK v2 w2 (h.grow h1 hb hg)
end
theorem hf_sz (W : World) (o : Obj) : (W.alloc o).heap.size = W.heap.size + 1 := by unfold World.alloc; exact Array.size_push _
theorem hf_sz2 (W : World) (o o2 : Obj) : ((W.alloc o).alloc o2).heap.size = W.heap.size + 1 + 1 := by rw [hf_sz, hf_sz]
theorem hf_sz3 (W : World) (o o2 o3 : Obj) : (((W.alloc o).alloc o2).alloc o3).heap.size = W.heap.size + 1 + 1 + 1 := by rw [hf_sz, hf_sz2]
theorem BxS.cons' {w W : World} {L : List (Nat × Array Value × Nat)} (h : BxS w W L) (cs : Array Value) (t : Nat) {g : Nat} (hg : W.heap.size = g) : BxS w (W.alloc (.cells cs t)) ((g, cs, t) :: L) := hg ▸ h.cons cs t
theorem BxS.three (w : World) (c1 : Array Value) (t1 : Nat) (c2 : Array Value) (t2 : Nat) (c3 : Array Value) (t3 : Nat) : BxS w (((w.alloc (.cells c1 t1)).alloc (.cells c2 t2)).alloc (.cells c3 t3)) [(w.heap.size + 1 + 1, c3, t3), (w.heap.size + 1, c2, t2), (w.heap.size, c1, t1)] :=
 (((BxS.nil w).cons' c1 t1 rfl).cons' c2 t2 (hf_sz _ _)).cons' c3 t3 (hf_sz2 _ _ _)
theorem BxS.four (w : World) (c1 : Array Value) (t1 : Nat) (c2 : Array Value) (t2 : Nat) (c3 : Array Value) (t3 : Nat) (c4 : Array Value) (t4 : Nat) : BxS w ((((w.alloc (.cells c1 t1)).alloc (.cells c2 t2)).alloc (.cells c3 t3)).alloc (.cells c4 t4)) [(w.heap.size + 1 + 1 + 1, c4, t4), (w.heap.size + 1 + 1, c3, t3), (w.heap.size + 1, c2, t2), (w.heap.size, c1, t1)] :=
 (BxS.three w c1 t1 c2 t2 c3 t3).cons' c4 t4 (hf_sz3 _ _ _ _)
theorem hf_ac {W w1 : World} {o : Obj} (h : Below (W.alloc o).heap.size (W.alloc o) w1) : Below W.heap.size W w1 := (below_alloc (Below.refl _ _) o).trans (h.mono (by rw [hf_sz]; omega))
theorem hf_z2 {W : World} {g t : Nat} {x y : Value} (h : W.heap[g]? = some (.cells #[x, y] t (0, 0))) (a b : Value) : ((W.setCell ⟨g, 0, none⟩ a).setCell ⟨g, 1, none⟩ b).heap[g]? = some (.cells #[a, b] t (0, 0)) := blk_put (cs := #[a, y]) (blk_put (cs := #[x, y]) h 0 _ rfl) 1 _ rfl
/-- A box of three that is written whole. -/
theorem hf_z3 {W : World} {g t : Nat} {x y z : Value} (h : W.heap[g]? = some (.cells #[x, y, z] t (0, 0))) (a b c : Value) : (((W.setCell ⟨g, 0, none⟩ a).setCell ⟨g, 1, none⟩ b).setCell ⟨g, 2, none⟩ c).heap[g]? = some (.cells #[a, b, c] t (0, 0)) := blk_put (cs := #[a, b, z]) (blk_put (cs := #[a, y, z]) (blk_put (cs := #[x, y, z]) h 0 _ rfl) 1 _ rfl) 2 _ rfl
theorem BxS.put3 {w W : World} {L : List (Nat × Array Value × Nat)} {g t : Nat} {x y z : Value} (h : BxS w W ((g, #[x, y, z], t) :: L)) (hL : ∀ p ∈ L, p.1 ≠ g) (a b c : Value) : BxS w (((W.setCell ⟨g, 0, none⟩ a).setCell ⟨g, 1, none⟩ b).setCell ⟨g, 2, none⟩ c) ((g, #[a, b, c], t) :: L) := by
 have hg := h.fr _ List.mem_cons_self
 refine ⟨below_set (below_set (below_set h.bel hg) hg) hg, fun p hp => ?_, fun p hp => ?_⟩
 ·rcases List.mem_cons.1 hp with rfl | hp
  ·exact hf_z3 (h.blk _ List.mem_cons_self) a b c
  ·exact blk_far (blk_far (blk_far (h.blk p (List.mem_cons_of_mem _ hp)) (hL p hp) _) (hL p hp) _) (hL p hp) _
 ·rcases List.mem_cons.1 hp with rfl | hp
  ·exact hg
  ·exact h.fr p (List.mem_cons_of_mem _ hp)
theorem fat_C {W : World} {ok : Nat → Prop} {A : Option Addr} {n : Nat} {xs : List S43} (h : Kd.F k43 W ok A n xs) (i : Int) (h0 : 0 ≤ i) (h1 : i < n) : ∃ ad A2 c2, A = some ad ∧ W.cell? (ad.add (i.toNat * 3)) = some (.int .i64 (rd_T43 xs i).f0) ∧ W.cell? ⟨(ad.add (i.toNat * 3)).block, (ad.add (i.toNat * 3)).off + 1, none⟩ = some (.int .i64 (rd_T43 xs i).f1) ∧ W.cell? ⟨(ad.add (i.toNat * 3)).block, (ad.add (i.toNat * 3)).off + 2, none⟩ = some (.slice A2 (rd_T43 xs i).f2.length c2) ∧ (rd_T43 xs i).f2.length ≤ c2 ∧ Kd.F k25 W ok A2 (rd_T43 xs i).f2.length (rd_T43 xs i).f2 := by
 obtain ⟨ad, c, e, _, hK, hc0, _⟩ := Kd.F_get h z43 i h0 h1
 have hc : ∀ j u, c[j]? = some u → W.cell? (ad.add (i.toNat * 3 + j)) = some u := hc0
 obtain ⟨A2, c2, rfl, l2, g2⟩ := k43_openF hK
 exact ⟨ad, A2, c2, e, hc 0 _ rfl, by rw [← add_field _ _ 1 (by omega)]; exact hc 1 _ rfl, by rw [← add_field _ _ 2 (by omega)]; exact hc 2 _ rfl, l2, g2⟩
theorem BxS.pair (w : World) (c1 : Array Value) (t1 : Nat) (c2 : Array Value) (t2 : Nat) : BxS w ((w.alloc (.cells c1 t1)).alloc (.cells c2 t2)) [(w.heap.size + 1, c2, t2), (w.heap.size, c1, t1)] := ((BxS.nil w).cons' c1 t1 rfl).cons' c2 t2 (hf_sz _ _)
theorem fs_bel3 {w W : World} {L : List (Nat × Array Value × Nat)} (h : BxS w W L) {p : Nat × Array Value × Nat} (hp : p ∈ L) (a b c : Value) : Below w.heap.size w (((W.setCell ⟨p.1, 0, none⟩ a).setCell ⟨p.1, 1, none⟩ b).setCell ⟨p.1, 2, none⟩ c) := below_set (below_set (below_set h.bel (h.fr p hp)) (h.fr p hp)) (h.fr p hp)
/-- What is shared stays so where a box of the call's own is written. -/
theorem fs_V3 {α : Type} {d : Kd α} {e base : Nat} {ok ok' : Nat → Prop} {v : Value} {xs : List α} {W : World} {g : Nat} (h : d.V e W base ok v xs) (hg : ∀ k, ok k → k ≠ g) (hk : ∀ k, ok k → ok' k) (a b c : Value) : d.V e (((W.setCell ⟨g, 0, none⟩ a).setCell ⟨g, 1, none⟩ b).setCell ⟨g, 2, none⟩ c) base ok' v xs :=
 Kd.V_mono (Kd.V_step h (fun k hk' _ => (Below.heap_setCell _ ⟨g, 2, none⟩ c k (hg k hk')).trans ((Below.heap_setCell _ ⟨g, 1, none⟩ b k (hg k hk')).trans (Below.heap_setCell _ ⟨g, 0, none⟩ a k (hg k hk'))))) hk
end Go.Proofs.Ytahgfebdjjfkhaa.P
