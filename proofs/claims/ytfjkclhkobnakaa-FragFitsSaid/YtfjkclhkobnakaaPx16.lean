/- Written by a program of this session: the functions that the laws reach, what each comes to, and each law as it is stated, for every input. No condition. -/
import Derived.Test.YtfjkclhkobnakaaPx0
import Derived.Test.YtfjkclhkobnakaaPx15
namespace Go.Proofs.Ytfjkclhkobnakaa.P
open Go.RowKit Go.Proofs.YtfjkclhkobnakaaW.PrintWords Go.Proofs.YtfjkclhkobnakaaW.PrintLast Go.Proofs.YtfjkclhkobnakaaW.PrintMore
attribute [local go_sem] max2_int min2_int max_two min_two max_three min_three max_four min_four   -- for this text's walks alone
set_option linter.unusedVariables false
set_option linter.unusedSimpArgs false
mutual
def triglyphref24_Word.l0 : Nat → Int → Int → Int → Option (ByteArray)
 | 0, _, _, _ => none
 | k + 1, x0, x1, x5 => if x5 < 200 then ((triglyphref24_word.f x5).bind fun t290 => (if t290.toList = ([] : List UInt8) then (some (⟨#[]⟩ : ByteArray)) else (if x1 < 21 then ((triglyphref20_Mono.f k x0 t290).bind fun t291 => (if t291 = x1 then (triglyphref24_Word.j1 k x0 x1 x5 t290 true) else (if x1 ≥ 21 then ((triglyphref20_Dyad.f k x0 t290).bind fun t292 => (triglyphref24_Word.j1 k x0 x1 x5 t290 (t292 == x1))) else (triglyphref24_Word.j1 k x0 x1 x5 t290 false)))) else (if x1 ≥ 21 then ((triglyphref20_Dyad.f k x0 t290).bind fun t293 => (triglyphref24_Word.j1 k x0 x1 x5 t290 (t293 == x1))) else (triglyphref24_Word.j1 k x0 x1 x5 t290 false))))) else (some (⟨#[]⟩ : ByteArray))
def triglyphref24_Word.j1 : Nat → Int → Int → Int → ByteArray → Bool → Option (ByteArray)
 | 0, _, _, _, _, _ => none
 | k + 1, x0, x1, x5, x6, x36 => if x36 = true then (if x0 = 2 then (some x6) else (if x6.toList = ([63] : List UInt8) then (triglyphref24_Word.l0 k x0 x1 (wrap64 (x5 + 1))) else (some x6))) else (triglyphref24_Word.l0 k x0 x1 (wrap64 (x5 + 1)))
end
def triglyphref24_Word.f (k : Nat) (a0 : Int) (a1 : Int) : Option (ByteArray) := if a1 < 1 then (some (⟨#[]⟩ : ByteArray)) else (triglyphref24_Word.l0 k a0 a1 0)
theorem triglyphref24_Word.mono_l : ∀ k, (∀ y0 y1 y2, LeO (triglyphref24_Word.l0 k y0 y1 y2) (triglyphref24_Word.l0 (k + 1) y0 y1 y2)) ∧ (∀ y0 y1 y2 y3 y4, LeO (triglyphref24_Word.j1 k y0 y1 y2 y3 y4) (triglyphref24_Word.j1 (k + 1) y0 y1 y2 y3 y4))
 | 0 => ⟨fun _ _ _ r h => by simp [triglyphref24_Word.l0] at h, fun _ _ _ _ _ r h => by simp [triglyphref24_Word.j1] at h⟩
 | k + 1 => by
  obtain ⟨ih0, ih1⟩ := triglyphref24_Word.mono_l k
  refine ⟨?_, ?_⟩
  ·intro y0 y1 y2
   unfold triglyphref24_Word.l0
   repeat' first
   | (with_reducible exact ih0 _ _ _)
   | (with_reducible exact ih1 _ _ _ _ _)
   | (with_reducible exact triglyphref20_Dyad.mono _ _ _)
   | (with_reducible exact triglyphref20_Mono.mono _ _ _)
   | (with_reducible exact LeO.refl _)
   | (with_reducible exact LeO.none _)
   | (with_reducible refine LeO.ite ?_ ?_)
   | (with_reducible refine LeO.bind ?_ (fun _ => ?_))


   | exact triglyphref20_Dyad.mono _ _ _
   | exact triglyphref20_Mono.mono _ _ _



  ·intro y0 y1 y2 y3 y4
   unfold triglyphref24_Word.j1
   repeat' first
   | (with_reducible exact ih0 _ _ _)
   | (with_reducible exact ih1 _ _ _ _ _)
   | (with_reducible exact triglyphref20_Dyad.mono _ _ _)
   | (with_reducible exact triglyphref20_Mono.mono _ _ _)
   | (with_reducible exact LeO.refl _)
   | (with_reducible exact LeO.none _)
   | (with_reducible refine LeO.ite ?_ ?_)
   | (with_reducible refine LeO.bind ?_ (fun _ => ?_))


   | exact triglyphref20_Dyad.mono _ _ _
   | exact triglyphref20_Mono.mono _ _ _
theorem triglyphref24_Word.mono : ∀ a0 a1 k, LeO (triglyphref24_Word.f k a0 a1) (triglyphref24_Word.f (k + 1) a0 a1) := by
 intro a0 a1 k
 obtain ⟨ih0, ih1⟩ := triglyphref24_Word.mono_l k
 unfold triglyphref24_Word.f
 repeat' first
   | (with_reducible exact ih0 _ _ _)
   | (with_reducible exact ih1 _ _ _ _ _)
   | (with_reducible exact triglyphref20_Dyad.mono _ _ _)
   | (with_reducible exact triglyphref20_Mono.mono _ _ _)
   | (with_reducible exact LeO.refl _)
   | (with_reducible exact LeO.none _)
   | (with_reducible refine LeO.ite ?_ ?_)
   | (with_reducible refine LeO.bind ?_ (fun _ => ?_))


   | exact triglyphref20_Dyad.mono _ _ _
   | exact triglyphref20_Mono.mono _ _ _
set_option maxHeartbeats 8000000 in
set_option maxRecDepth 100000 in
theorem triglyphref24_Word.calls (k : Nat) (a0 : Int) (a1 : Int) (r : ByteArray) (w : World) (h : triglyphref24_Word.f k a0 a1 = some r) :
  Calls Try.prog 10 #[.int .i64 a0, .int .i64 a1] w fun e w' => e = .returned (.string r) ∧ Below w.heap.size w w' := by
 have HB := gA (Below.refl w.heap.size w)
 have H : (if a1 < 1 then (some (⟨#[]⟩ : ByteArray)) else (triglyphref24_Word.l0 k a0 a1 0)) = some r := h
 clear h
 by_cases c3 : a1 < 1
 ·rw [if_pos c3] at H
  have c3b0 := decide_eq_true c3
  clear c3
  obtain rfl := Option.some.inj H
  go_enter Try.func10, Try.ntmps10
  go_wp2
  go_ret
  exact ⟨rfl, gB HB⟩
 ·rw [if_neg c3] at H
  have c3b0 := decide_eq_false c3
  clear c3
  have H' := gA H
  clear H
  go_enter Try.func10, Try.ntmps10
  go_wp2
  go_loopg [5] k (fun kq v5 w' => ∃ (x5_1 : Int), v5 = .int .i64 x5_1 ∧ Aside0 (triglyphref24_Word.l0 kq a0 a1 x5_1 = some r) ∧ Aside0 (kq ≤ k) ∧ Aside0 (Below w.heap.size w w'))
  case atStart => exact ⟨(0), (rfl), H', ⟨Nat.le_refl _⟩, ⟨gB HB⟩⟩
  case round =>
   clear H'
   try clear c1
   try clear p2
   try clear c3
   try clear c3b0
   obtain ⟨x5_1, rfl, HA, HK1, HB⟩ := hrel
   cases gk with
   | zero => exact absurd HA.out (by simp [triglyphref24_Word.l0])
   | succ k1 =>
    have H := HA.out; clear HA
    simp only [triglyphref24_Word.l0] at H
    by_cases c4 : x5_1 < 200
    ·rw [if_pos c4] at H
     have c4b0 := decide_eq_true c4
     clear c4
     replace H := Option.bind_eq_some_iff.mp H
     obtain ⟨t290, A50, H⟩ := H
     replace H : (if t290.toList = ([] : List UInt8) then (some (⟨#[]⟩ : ByteArray)) else (if a1 < 21 then ((triglyphref20_Mono.f k1 a0 t290).bind fun t291 => (if t291 = a1 then (triglyphref24_Word.j1 k1 a0 a1 x5_1 t290 true) else (if a1 ≥ 21 then ((triglyphref20_Dyad.f k1 a0 t290).bind fun t292 => (triglyphref24_Word.j1 k1 a0 a1 x5_1 t290 (t292 == a1))) else (triglyphref24_Word.j1 k1 a0 a1 x5_1 t290 false)))) else (if a1 ≥ 21 then ((triglyphref20_Dyad.f k1 a0 t290).bind fun t293 => (triglyphref24_Word.j1 k1 a0 a1 x5_1 t290 (t293 == a1))) else (triglyphref24_Word.j1 k1 a0 a1 x5_1 t290 false)))) = some r := H
     have A5 := gA A50
     clear A50
     by_cases c6 : t290.toList = ([] : List UInt8)
     ·rw [if_pos c6] at H
      have c6b0 : (t290.toList == ([] : List UInt8)) = true := beq_iff_eq.mpr c6
      have c6b1 : (t290.toList != ([] : List UInt8)) = false := bne_eq_false_iff_eq.mpr c6
      clear c6
      obtain rfl := Option.some.inj H
      go_wp2_with (first | ((with_reducible refine gate_callee (f := 21) rfl ?_); refine goesL_ (some 14) rfl rfl Try.func21 (by kernel_rfl) rfl #[.int .i64 x5_1] rfl (by (try simp only [List.map_toArray, List.map_cons, List.map_nil]); first | done | rfl | (simp only [List.length_drop, List.length_take]; rfl)) ?_; (with_reducible refine (triglyphref24_word.calls x5_1 t290 _ A5.out).mono ?_); rintro e w7 ⟨rfl, hb⟩; refine ⟨_, rfl, ?_⟩; replace HB := gA (below_step (gB HB) hb); (try clear hb)))
      go_ret
      exact ⟨rfl, gB HB⟩
     ·rw [if_neg c6] at H
      have c6b0 : (t290.toList == ([] : List UInt8)) = false := beq_eq_false_iff_ne.mpr c6
      have c6b1 : (t290.toList != ([] : List UInt8)) = true := bne_iff_ne.mpr c6
      have HC8 := gA H
      clear H
      go_upto_region 8 with (first | ((with_reducible refine gate_callee (f := 21) rfl ?_); refine goesL_ (some 14) rfl rfl Try.func21 (by kernel_rfl) rfl #[.int .i64 x5_1] rfl (by (try simp only [List.map_toArray, List.map_cons, List.map_nil]); first | done | rfl | (simp only [List.length_drop, List.length_take]; rfl)) ?_; (with_reducible refine (triglyphref24_word.calls x5_1 t290 _ A5.out).mono ?_); rintro e w9 ⟨rfl, hb⟩; refine ⟨_, rfl, ?_⟩; replace HB := gA (below_step (gB HB) hb); (try clear hb)))
      (try simp only [Act.put, List.setIfInBounds_toArray, List.set_cons_zero, List.set_cons_succ])
      go_cut [36] (fun v36 wc => ∃ (kq : Nat) (x36_7 : Bool), v36 = .bool x36_7 ∧ Aside0 (triglyphref24_Word.j1 kq a0 a1 x5_1 t290 x36_7 = some r) ∧ Aside0 (kq ≤ k1) ∧ Aside0 (Below w.heap.size w wc))
      case first =>
       have H := HC8.out; clear HC8
       by_cases c10 : a1 < 21
       ·rw [if_pos c10] at H
        have c10b0 := decide_eq_true c10
        clear c10
        (first | rw [c10b0] | (simp only [i64_w, i32_w]; rw [c10b0]) | skip)
        replace H := Option.bind_eq_some_iff.mp H
        obtain ⟨t291, A110, H⟩ := H
        replace H : (if t291 = a1 then (triglyphref24_Word.j1 k1 a0 a1 x5_1 t290 true) else (if a1 ≥ 21 then ((triglyphref20_Dyad.f k1 a0 t290).bind fun t292 => (triglyphref24_Word.j1 k1 a0 a1 x5_1 t290 (t292 == a1))) else (triglyphref24_Word.j1 k1 a0 a1 x5_1 t290 false))) = some r := H
        have A11 := gA A110
        clear A110
        by_cases c12 : t291 = a1
        ·rw [if_pos c12] at H
         have c12b0 : (t291 == a1) = true := beq_iff_eq.mpr c12
         have c12b1 : (t291 != a1) = false := bne_eq_false_iff_eq.mpr c12
         clear c12
         have H' := gA H
         clear H
         go_wp2_with (first | (go_at_call 22; (with_reducible refine (triglyphref20_Mono.calls k1 a0 t290 t291 _ A11.out).mono ?_); rintro e w13 ⟨rfl, hb⟩; replace HB := gA (below_step (gB HB) hb); (try clear hb)))
         all_goals (go_meet; (case rel => exact ⟨_, (true), (by first | rfl | (simp; done) | (simp [*]; done) | (exfalso; simp_all; done) | (exfalso; simp_all; omega)), H', ⟨by have := HK1.out; first | omega | exact Nat.le_refl _⟩, ⟨gB HB⟩⟩))
        ·rw [if_neg c12] at H
         have c12b0 : (t291 == a1) = false := beq_eq_false_iff_ne.mpr c12
         have c12b1 : (t291 != a1) = true := bne_iff_ne.mpr c12
         by_cases c14 : a1 ≥ 21
         ·rw [if_pos c14] at H
          have c14b0 : decide (21 ≤ a1) = true := decide_eq_true c14
          clear c14
          replace H := Option.bind_eq_some_iff.mp H
          obtain ⟨t292, A150, H⟩ := H
          replace H : (triglyphref24_Word.j1 k1 a0 a1 x5_1 t290 (t292 == a1)) = some r := H
          have A15 := gA A150
          clear A150
          have H' := gA H
          clear H
          go_wp2_with (first | (go_at_call 22; (with_reducible refine (triglyphref20_Mono.calls k1 a0 t290 t291 _ A11.out).mono ?_); rintro e w16 ⟨rfl, hb⟩; replace HB := gA (below_step (gB HB) hb); (try clear hb)) | (go_at_call 23; (with_reducible refine (triglyphref20_Dyad.calls k1 a0 t290 t292 _ A15.out).mono ?_); rintro e w17 ⟨rfl, hb⟩; replace HB := gA (below_step (gB HB) hb); (try clear hb)))
          all_goals (go_meet; (case rel => exact ⟨_, ((t292 == a1)), (by first | rfl | (simp; done) | (simp [*]; done) | (exfalso; simp_all; done) | (exfalso; simp_all; omega)), H', ⟨by have := HK1.out; first | omega | exact Nat.le_refl _⟩, ⟨gB HB⟩⟩))
         ·rw [if_neg c14] at H
          have c14b0 : decide (21 ≤ a1) = false := decide_eq_false c14
          clear c14
          have H' := gA H
          clear H
          go_wp2_with (first | (go_at_call 22; (with_reducible refine (triglyphref20_Mono.calls k1 a0 t290 t291 _ A11.out).mono ?_); rintro e w18 ⟨rfl, hb⟩; replace HB := gA (below_step (gB HB) hb); (try clear hb)))
          all_goals (go_meet; (case rel => exact ⟨_, (false), (by first | rfl | (simp; done) | (simp [*]; done) | (exfalso; simp_all; done) | (exfalso; simp_all; omega)), H', ⟨by have := HK1.out; first | omega | exact Nat.le_refl _⟩, ⟨gB HB⟩⟩))
       ·rw [if_neg c10] at H
        have c10b0 := decide_eq_false c10
        clear c10
        (first | rw [c10b0] | (simp only [i64_w, i32_w]; rw [c10b0]) | skip)
        by_cases c19 : a1 ≥ 21
        ·rw [if_pos c19] at H
         have c19b0 : decide (21 ≤ a1) = true := decide_eq_true c19
         clear c19
         replace H := Option.bind_eq_some_iff.mp H
         obtain ⟨t293, A200, H⟩ := H
         replace H : (triglyphref24_Word.j1 k1 a0 a1 x5_1 t290 (t293 == a1)) = some r := H
         have A20 := gA A200
         clear A200
         have H' := gA H
         clear H
         go_wp2_with (first | (go_at_call 23; (with_reducible refine (triglyphref20_Dyad.calls k1 a0 t290 t293 _ A20.out).mono ?_); rintro e w21 ⟨rfl, hb⟩; replace HB := gA (below_step (gB HB) hb); (try clear hb)))
         all_goals (go_meet; (case rel => exact ⟨_, ((t293 == a1)), (by first | rfl | (simp; done) | (simp [*]; done) | (exfalso; simp_all; done) | (exfalso; simp_all; omega)), H', ⟨by have := HK1.out; first | omega | exact Nat.le_refl _⟩, ⟨gB HB⟩⟩))
        ·rw [if_neg c19] at H
         have c19b0 : decide (21 ≤ a1) = false := decide_eq_false c19
         clear c19
         have H' := gA H
         clear H
         go_wp2
         all_goals (go_meet; (case rel => exact ⟨_, (false), (by first | rfl | (simp; done) | (simp [*]; done) | (exfalso; simp_all; done) | (exfalso; simp_all; omega)), H', ⟨by have := HK1.out; first | omega | exact Nat.le_refl _⟩, ⟨gB HB⟩⟩))
      case rest =>
       clear HC8
       try clear c1
       try clear c2
       try clear p2
       try clear c3
       try clear c3b0
       try clear c4
       try clear c4b0
       try clear c6
       try clear c6b0
       try clear c6b1
       try clear c10
       try clear c10b0
       try clear c12
       try clear c12b0
       try clear c12b1
       try clear c14
       try clear c14b0
       try clear c19
       try clear c19b0
       try clear c21
       try clear p2
       obtain ⟨kq, x36_7, rfl, HA, HJ7, HB⟩ := hcut
       cases kq with
       | zero => exact absurd HA.out (by simp [triglyphref24_Word.j1])
       | succ kj7 =>
        have H := HA.out; clear HA
        simp only [triglyphref24_Word.j1] at H
        by_cases c22 : x36_7 = true
        ·subst c22
         have H1 : (if a0 = 2 then (some t290) else (if t290.toList = ([63] : List UInt8) then (triglyphref24_Word.l0 kj7 a0 a1 (wrap64 (x5_1 + 1))) else (some t290))) = some r := by rw [if_pos rfl] at H; exact H
         clear H; have H := H1; clear H1
         by_cases c23 : a0 = 2
         ·rw [if_pos c23] at H
          have c23b0 : (a0 == 2) = true := beq_iff_eq.mpr c23
          have c23b1 : (a0 != 2) = false := bne_eq_false_iff_eq.mpr c23
          clear c23
          obtain rfl := Option.some.inj H
          go_wp2
          go_ret
          exact ⟨rfl, gB HB⟩
         ·rw [if_neg c23] at H
          have c23b0 : (a0 == 2) = false := beq_eq_false_iff_ne.mpr c23
          have c23b1 : (a0 != 2) = true := bne_iff_ne.mpr c23
          by_cases c24 : t290.toList = ([63] : List UInt8)
          ·rw [if_pos c24] at H
           have c24b0 : (t290.toList == ([63] : List UInt8)) = true := beq_iff_eq.mpr c24
           have c24b1 : (t290.toList != ([63] : List UInt8)) = false := bne_eq_false_iff_eq.mpr c24
           clear c24
           have H' := gA H
           clear H
           go_wp2
           go_roundg kj7
           case measure => have := HK1.out; have := HJ7.out; omega
           case rel => exact ⟨(wrap64 (x5_1 + 1)), (rfl), H', ⟨by have := HK1.out; have := HJ7.out; omega⟩, ⟨gB HB⟩⟩
          ·rw [if_neg c24] at H
           have c24b0 : (t290.toList == ([63] : List UInt8)) = false := beq_eq_false_iff_ne.mpr c24
           have c24b1 : (t290.toList != ([63] : List UInt8)) = true := bne_iff_ne.mpr c24
           obtain rfl := Option.some.inj H
           go_wp2
           go_ret
           exact ⟨rfl, gB HB⟩
        ·replace c22 := Bool.eq_false_iff.mpr c22
         subst c22
         have H1 : (triglyphref24_Word.l0 kj7 a0 a1 (wrap64 (x5_1 + 1))) = some r := by rw [if_neg (show ¬ (false = true) by decide)] at H; exact H
         clear H; have H := H1; clear H1
         have H' := gA H
         clear H
         go_wp2
         go_roundg kj7
         case measure => have := HK1.out; have := HJ7.out; omega
         case rel => exact ⟨(wrap64 (x5_1 + 1)), (rfl), H', ⟨by have := HK1.out; have := HJ7.out; omega⟩, ⟨gB HB⟩⟩
    ·rw [if_neg c4] at H
     have c4b0 := decide_eq_false c4
     clear c4
     obtain rfl := Option.some.inj H
     go_wp2
     go_ret
     exact ⟨rfl, gB HB⟩
structure BxS (w W : World) (L : List (Nat × Array Value × Nat)) : Prop where
 bel : Below w.heap.size w W
 blk : ∀ p ∈ L, W.heap[p.1]? = some (.cells p.2.1 p.2.2 (0, 0))
 fr : ∀ p ∈ L, w.heap.size ≤ p.1
theorem BxS.step {w W W' : World} {L : List (Nat × Array Value × Nat)} (h : BxS w W L) (hb : Below W.heap.size W W') : BxS w W' L := ⟨below_step h.bel hb, fun p hp => blk_below (h.blk p hp) hb, h.fr⟩
theorem BxS.nil (w : World) : BxS w w [] := ⟨Below.refl _ _, fun _ h => (by cases h), fun _ h => (by cases h)⟩
theorem BxS.cons {w W : World} {L : List (Nat × Array Value × Nat)} (h : BxS w W L) (cs : Array Value) (t : Nat) : BxS w (W.alloc (.cells cs t)) ((W.heap.size, cs, t) :: L) := by
 refine ⟨below_alloc h.bel _, fun p hp => ?_, fun p hp => ?_⟩
 ·rcases List.mem_cons.1 hp with rfl | hp
  ·exact blk_new W (.cells cs t (0, 0))
  ·exact blk_alloc (h.blk p hp) _
 ·rcases List.mem_cons.1 hp with rfl | hp
  ·exact h.bel.size
  ·exact h.fr p hp
theorem BxS.at_ {w W : World} {L : List (Nat × Array Value × Nat)} (h : BxS w W L) (i : Nat) {p : Nat × Array Value × Nat} (hp : L[i]? = some p) : W.heap[p.1]? = some (.cells p.2.1 p.2.2 (0, 0)) := h.blk p (List.mem_of_getElem? hp)
/-- A box of the call's own that nobody needs any more. -/
theorem BxS.drop {w W : World} {p : Nat × Array Value × Nat} {L : List (Nat × Array Value × Nat)} (h : BxS w W (p :: L)) : BxS w W L := ⟨h.bel, fun q hq => h.blk q (List.mem_cons_of_mem _ hq), fun q hq => h.fr q (List.mem_cons_of_mem _ hq)⟩
structure OutS (w W : World) (L : List (Nat × Array Value × Nat)) (go : Nat) (v0 u1 v1 : Value) (s : List Int) (c : List S57) : Prop where
 bx : BxS w W L
 fr : ∀ p ∈ L, p.1 ≠ go
 out : W.heap[go]? = some (.cells #[v0, u1] 25 (0, 0))
 ofr : w.heap.size ≤ go
 r0 : Kd.R (Kd.int .i64) 3 W w.heap.size (fun k => k ≠ go ∧ ∀ p ∈ L, k ≠ p.1) v0 s
 r1 : Kd.R k57 57 W w.heap.size (fun k => some k ≠ v0.ownBlock ∧ k ≠ go ∧ ∀ p ∈ L, k ≠ p.1) v1 c
section
variable {w W W' : World} {L : List (Nat × Array Value × Nat)} {go : Nat} {v0 u1 v1 : Value} {s : List Int} {c : List S57}
theorem OutS.step (h : OutS w W L go v0 u1 v1 s c) (hb : Below W.heap.size W W') : OutS w W' L go v0 u1 v1 s c := ⟨h.bx.step hb, h.fr, blk_below h.out hb, h.ofr, Kd.R_below h.r0 hb, Kd.R_below h.r1 hb⟩
end
theorem BxS.cons' {w W : World} {L : List (Nat × Array Value × Nat)} (h : BxS w W L) (cs : Array Value) (t : Nat) {g : Nat} (hg : W.heap.size = g) : BxS w (W.alloc (.cells cs t)) ((g, cs, t) :: L) := hg ▸ h.cons cs t
theorem BxS.add {w W W' : World} {L : List (Nat × Array Value × Nat)} (h : BxS w W L) (hb : Below W.heap.size W W') {g t : Nat} {cs : Array Value} (hg : W'.heap[g]? = some (.cells cs t (0, 0))) (hl : W.heap.size ≤ g) : BxS w W' ((g, cs, t) :: L) := by
 refine ⟨below_step h.bel hb, fun p hp => ?_, fun p hp => ?_⟩
 ·rcases List.mem_cons.1 hp with rfl | hp
  ·exact hg
  ·exact blk_below (h.blk p hp) hb
 ·rcases List.mem_cons.1 hp with rfl | hp
  ·exact Nat.le_trans h.bel.size hl
  ·exact h.fr p hp
theorem hf_c7 {W : World} {g t : Nat} {x0 x1 x2 x3 x4 x5 x6 : Value} (h : W.heap[g]? = some (.cells #[x0, x1, x2, x3, x4, x5, x6] t (0, 0))) : W.cell? ⟨g, 0, none⟩ = some x0 ∧ W.cell? ⟨g, 1, none⟩ = some x1 ∧ W.cell? ⟨g, 2, none⟩ = some x2 ∧ W.cell? ⟨g, 3, none⟩ = some x3 ∧ W.cell? ⟨g, 4, none⟩ = some x4 ∧ W.cell? ⟨g, 5, none⟩ = some x5 ∧ W.cell? ⟨g, 6, none⟩ = some x6 := ⟨(blk_cell h 0).trans rfl, (blk_cell h 1).trans rfl, (blk_cell h 2).trans rfl, (blk_cell h 3).trans rfl, (blk_cell h 4).trans rfl, (blk_cell h 5).trans rfl, (blk_cell h 6).trans rfl⟩
end Go.Proofs.Ytfjkclhkobnakaa.P
