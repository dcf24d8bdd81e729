/- FoldTurns: what it computes is yes, for any array. -/
import Derived.Test.YtahgfebdjjfkhaaStaFoldTurns
import Derived.Test.YtahgfebdjjfkhaaFoldA
import Derived.Test.YtahgfebdjjfkhaaPx14
import Derived.Test.YtahgfebdjjfkhaaPx15
import Derived.Test.YtahgfebdjjfkhaaPx16
import Derived.Test.YtahgfebdjjfkhaaPx9
namespace Go.Proofs.Ytahgfebdjjfkhaa.Pure
open Go.RowKit Go.Proofs.Ytahgfebdjjfkhaa.P Go.Proofs.Ytahgfebdjjfkhaa.Nest Go.Proofs.YtahgfebdjjfkhaaW.PrintWords Go.Proofs.YtahgfebdjjfkhaaW.PrintLast Go.Proofs.YtahgfebdjjfkhaaW.PrintMore
set_option linter.unusedVariables false
set_option linter.unusedSimpArgs false
theorem by_l1 (s : List Int) (ru n i : Int) (at' : List Int) (h8 : at'.length ≤ 8) (ms : List Int) (mc : List S43) (os : List Int) (oc : List S43) : ∀ (rest done : List Int), at' = done ++ rest → ∀ k,
    triglyphref05_By.l1 (k + rest.length + 1) s ru n i at' done (done.length : Int) ms mc os oc = if ru = 0 then triglyphref05_By.j2 k s ru n i at' at' (wrap64 ((at'.length : Int) - 1)) (decide (wrap64 ((at'.length : Int) - 1) ≥ 0)) ms mc os oc else triglyphref05_By.j2 k s ru n i at' at' (wrap64 ((at'.length : Int) - 1)) false ms mc os oc
  | [], done, hd, k => by
    have e : at' = done := by rw [hd, List.append_nil]
    subst e
    simp only [triglyphref05_By.l1, List.length_nil, Nat.add_zero]
    rw [if_neg (by omega)]
  | x :: rest, done, hd, k => by
    have hl : at'.length = done.length + rest.length + 1 := by rw [hd]; simp; omega
    have hr : rd at' (done.length : Int) = x := by rw [hd]; exact rd_mid done x rest
    have hi := by_l1 s ru n i at' h8 ms mc os oc rest (done ++ [x]) (by rw [hd]; simp) k
    have e : k + (x :: rest).length + 1 = (k + rest.length + 1) + 1 := by simp; omega
    rw [e]
    simp only [triglyphref05_By.l1]
    rw [if_pos (by omega), if_pos (by omega), if_pos (by omega), hr, wrap_next done x (by omega)]
    exact hi
theorem wrap_addN1 {a : Nat} (h : a ≤ 1000000) : wrap64 ((a : Int) + 1) = ((a + 1 : Nat) : Int) := by rw [wrap_in (by omega) (by omega)]; omega
theorem by_step (last : Bool) {s : List Int} {c : List S43} {O T G : Nat} (hs : (sizeS s).2 = 0) (hc : (sizeS s).1 = (c.length : Int)) (hc2 : c.length ≤ 16384) (hl : s.length ≠ 0) (A : Axis s c (fold_Red.ax s last) O T G) (i : Nat) (hi : i < c.length) :
    ∃ K, ∀ k, K ≤ k → ∀ acc : List S43, acc.length ≤ 20000 → triglyphref05_By.l0 (k + s.length + 6) s (if last = true then 1 else 0) (c.length : Int) (i : Int) s c s acc = triglyphref05_By.l0 k s (if last = true then 1 else 0) (c.length : Int) ((i + 1 : Nat) : Int) s c s (acc ++ [c.getD (phi T G i) z43]) := by
  obtain ⟨K1, h1⟩ := rplaces_eq s (i : Int)
  obtain ⟨K2, h2⟩ := rplace_eq s (frm s (dg s (i : Int)).1 last)
  obtain ⟨h3, h4⟩ := frm_place hs hc hc2 hl A i hi
  have h8 := sizeS_len hs
  have hpl : placesS s (i : Int) = ((dg s (i : Int)).1, 0) := by
    unfold placesS
    rw [if_pos hs, if_neg (by omega), if_neg (by omega)]
  have hdl := dg_len s (i : Int)
  refine ⟨K1 + K2, fun k hk acc ha => ?_⟩
  have p1 : (0 : Int) ≤ ((phi T G i : Nat) : Int) := by omega
  have p2 : ((phi T G i : Nat) : Int) < (c.length : Int) := by omega
  have p3 : acc.length < 3518437208883 := by omega
  have hend : ∀ fr, fr = frm s (dg s (i : Int)).1 last → (triglyphref03_Place.f k s fr).bind (fun bt => if 0 ≤ bt.1 then (if bt.1 < (c.length : Int) then (if acc.length < 3518437208883 then triglyphref05_By.l0 k s (if last = true then 1 else 0) (c.length : Int) (wrap64 ((i : Int) + 1)) s c s (acc ++ [(⟨(rd_T43 c bt.1).f0, (rd_T43 c bt.1).f1, (rd_T43 c bt.1).f2⟩ : S43)]) else none) else none) else none) = triglyphref05_By.l0 k s (if last = true then 1 else 0) (c.length : Int) ((i + 1 : Nat) : Int) s c s (acc ++ [c.getD (phi T G i) z43]) := by
    intro fr hfr
    rw [hfr, h2 k (by omega), h3, Option.bind_some]
    dsimp only
    rw [if_pos p1, if_pos p2, if_pos p3, rdC_nat, etaC, wrap_addN1 (by omega)]
  have h5 := by_l1 s (if last = true then 1 else 0) (c.length : Int) (i : Int) (dg s (i : Int)).1 (by omega) s c s acc (dg s (i : Int)).1 [] rfl (k + 4)
  rw [hdl] at h5
  have hw : wrap64 ((s.length : Int) - 1) = ((s.length - 1 : Nat) : Int) := by rw [wrap_in (by omega) (by omega)]; omega
  rw [hw] at h5
  have e6 : k + s.length + 6 = (k + 4 + s.length + 1) + 1 := by omega
  rw [e6]
  simp only [triglyphref05_By.l0]
  rw [if_pos (by omega), h1 _ (by omega), hpl, Option.bind_some]
  dsimp only
  rw [show triglyphref05_By.l1 (k + 4 + s.length + 1) s (if last = true then 1 else 0) (c.length : Int) (i : Int) (dg s (i : Int)).1 [] 0 s c s acc = _ from h5]
  clear h5 hw hpl h1 h2 h3
  cases last with
  | false =>
    have hx : fold_Red.ax s false = 0 := rfl
    rw [if_pos (by simp), decide_eq_true (by omega)]
    rw [if_neg (by decide)] at hend ⊢
    simp only [triglyphref05_By.j2]
    rw [if_pos True.intro, if_pos (by omega), if_pos (by omega), if_pos (by omega)]
    simp only [triglyphref05_By.j3]
    rw [if_neg (by decide)]
    simp only [triglyphref05_By.j4]
    rw [if_neg (by decide)]
    simp only [triglyphref05_By.j5]
    rw [if_neg (by decide)]
    exact hend _ (by unfold frm; rw [hx]; rfl)
  | true =>
    have hx : fold_Red.ax s true = s.length - 1 := rfl
    rw [if_neg (by simp)]
    rw [if_pos rfl] at hend ⊢
    simp only [triglyphref05_By.j2]
    rw [if_neg (by decide)]
    simp only [triglyphref05_By.j3]
    rw [if_pos True.intro, decide_eq_true (by omega)]
    simp only [triglyphref05_By.j4]
    rw [if_pos True.intro, if_pos (by omega), if_pos (by omega), if_pos (by omega), if_pos (by omega)]
    simp only [triglyphref05_By.j5]
    rw [if_neg (by decide)]
    exact hend _ (by unfold frm; rw [hx, Int.toNat_natCast])
theorem by_l0 (last : Bool) {s : List Int} {c : List S43} {O T G : Nat} (hs : (sizeS s).2 = 0) (hc : (sizeS s).1 = (c.length : Int)) (hc2 : c.length ≤ 16384) (hl : s.length ≠ 0) (A : Axis s c (fold_Red.ax s last) O T G) : ∀ (m i : Nat) (acc : List S43), i + m = c.length → acc.length = i →
    ∃ K, ∀ k, K ≤ k → triglyphref05_By.l0 k s (if last = true then 1 else 0) (c.length : Int) (i : Int) s c s acc = some (s, acc ++ trL c T G m i)
  | 0, i, acc, hi, ha => by
    refine ⟨1, fun k hk => ?_⟩
    obtain ⟨k, rfl, _⟩ := succ_of (K := 0) hk
    simp only [triglyphref05_By.l0]
    rw [if_neg (by omega), trL, List.append_nil]
  | m + 1, i, acc, hi, ha => by
    obtain ⟨K1, h1⟩ := by_step last hs hc hc2 hl A i (by omega)
    obtain ⟨K2, h2⟩ := by_l0 last hs hc hc2 hl A m (i + 1) (acc ++ [c.getD (phi T G i) z43]) (by omega) (by simp [ha])
    refine ⟨K1 + K2 + s.length + 6, fun k hk => ?_⟩
    obtain ⟨k, rfl⟩ : ∃ m, k = m + s.length + 6 := ⟨k - s.length - 6, by omega⟩
    rw [h1 k (by omega) acc (by omega), h2 k (by omega), trL, List.append_assoc]
    rfl
theorem by_eq (last : Bool) {s : List Int} {c : List S43} {O T G : Nat} (hs : (sizeS s).2 = 0) (hc : (sizeS s).1 = (c.length : Int)) (hc2 : c.length ≤ 16384) (hl : s.length ≠ 0) (A : Axis s c (fold_Red.ax s last) O T G) : ∃ K, ∀ k, K ≤ k → triglyphref05_By.f k s s c (if last = true then 1 else 0) = some (s, turnL c T G) := by
  obtain ⟨K1, h1⟩ := rsize_eq s
  obtain ⟨K2, h2⟩ := by_l0 last hs hc hc2 hl A c.length 0 [] (by omega) rfl
  have h8 := sizeS_len hs
  refine ⟨K1 + K2, fun k hk => ?_⟩
  unfold triglyphref05_By.f
  rw [h1 k (by omega), Option.bind_some, if_pos (by simp; omega), List.nil_append, hc]
  exact h2 k (by omega)
theorem by_atom (last : Bool) (x : S43) : ∀ k, 20 ≤ k → triglyphref05_By.f k [] [] [x] (if last = true then 1 else 0) = some ([], [x]) := by
  intro k hk
  cases last with
  | false => exact at_rounds (triglyphref05_By.mono _ _ _ _) hk (by cases x; kernel_rfl)
  | true => exact at_rounds (triglyphref05_By.mono _ _ _ _) hk (by cases x; kernel_rfl)
theorem coCs_len : ∀ c : List S43, (coCs c).length = c.length
  | [] => rfl
  | x :: xs => by rw [coCs, List.length_cons, List.length_cons, coCs_len xs]
mutual
theorem co_okA : ∀ a : S25, okA a → okA (coA a)
  | ⟨s, c⟩, h => by
    rw [okA] at h
    rw [coA, okA]
    exact ⟨h.1, by rw [coCs_len]; exact h.2.1, co_okCs c h.2.2⟩
theorem co_okCs : ∀ c : List S43, okCs c → okCs (coCs c)
  | [], h => h
  | x :: xs, h => by
    rw [okCs] at h
    rw [coCs, okCs]
    exact ⟨co_okC x h.1, co_okCs xs h.2⟩
theorem co_okC : ∀ x : S43, okC x → okC (coC x)
  | ⟨k, n, b⟩, h => by
    rw [okC] at h
    rw [coC, okC]
    exact ⟨h.1, h.2.1, co_okB b h.2.2.2⟩
theorem co_okB : ∀ b : List S25, okAs b → (coB b).length * 48 ≤ reachBytes ∧ okAs (coB b)
  | [], h => ⟨by simp [coB], h⟩
  | x :: xs, h => by
    rw [okAs] at h
    rw [coB, okAs, okAs]
    exact ⟨by unfold reachBytes; simp, co_okA x h.1, trivial⟩
end
theorem nil_okA : okA (⟨[], []⟩ : S25) := by
  rw [okA, okCs]
  exact ⟨⟨by simp, fun y hy => by cases hy⟩, by simp, trivial⟩
theorem redS_ok (op : Int) (t : Bool) (a : S25) (last : Bool) (h : okA a) (hc : a.f1.length ≤ 16384) (hn : nrS 1 20 a.f0 = true) : okA ⟨(redS op t a last).1, (redS op t a last).2.1⟩ := by
  unfold redS
  by_cases hk : chkS op a = 0
  rotate_left
  · rw [if_neg hk]; exact nil_okA
  rw [if_pos hk]
  obtain ⟨hch, _, _⟩ := chkS_ok hk
  obtain ⟨hs, hsz⟩ := ch_size hch
  by_cases hl : a.f0.length = 0
  · rw [if_pos hl]
    dsimp only
    rw [etaA]
    exact co_okA a h
  rw [if_neg hl]
  have hax := ax_lt a.f0 last hl
  generalize fold_Red.ax a.f0 last = ax at hax ⊢
  obtain ⟨O, T, G, A⟩ := axis_of hs hsz hn hax
  split
  rotate_left
  · exact nil_okA
  rename_i hzs
  have hok : ∀ x ∈ a.f1, okC x := by
    obtain ⟨s, c⟩ := a
    rw [okA] at h
    exact okCs_iff.1 h.2.2
  have hG : redG op t a ax = goR (rwI op t a.f1 T G O 0) [] := by
    unfold redG
    rw [A.o, A.t, A.g, Int.toNat_natCast, Int.toNat_natCast, Int.toNat_natCast]
  split
  rotate_left
  · exact nil_okA
  rename_i he
  dsimp only
  rw [etaA]
  apply co_okA
  rw [okA]
  have hz8 := sizeS_len hzs
  refine ⟨⟨by unfold reachBytes; omega, ?_⟩, ?_, okCs_iff.2 ?_⟩
  · obtain ⟨s, c⟩ := a
    rw [okA] at h
    exact wf_mem h.1.2 ax
  · rw [hG] at he ⊢
    rw [goR_len _ _ he, rwI_len]
    have := A.ot
    unfold reachBytes
    simp
    omega
  · rw [hG]
    exact goR_ok _ _ (rwI_ok op t a.f1 T G hok O 0) (fun _ hx => by cases hx)
theorem turns_both {op : Int} (hop : op = 21 ∨ op = 23 ∨ op = 24 ∨ op = 25) {s : List Int} {c : List S43} (last : Bool) (h : okA ⟨s, c⟩) (hc : c.length ≤ 300) (hn : nrS 1 20 s = true) (hch : chA ⟨s, c⟩ 0 = 0) :
    ∃ c' K, ∀ k, K ≤ k → triglyphref05_By.f k s s c (if last = true then 1 else 0) = some (s, c') ∧ fold_Red.f k op false s c last = some (redS op false ⟨s, c⟩ last) ∧ fold_Red.f k op true s c' last = some (redS op false ⟨s, c⟩ last) := by
  obtain ⟨hs, hsz⟩ := ch_size hch
  dsimp only at hs hsz
  obtain ⟨K1, h1⟩ := red_eq op false ⟨s, c⟩ last h (by dsimp only; omega) hn
  dsimp only at h1
  by_cases hl : s.length = 0
  · obtain rfl := List.eq_nil_of_length_eq_zero hl
    have hc1 : c.length = 1 := by
      have e : (sizeS []).1 = 1 := rfl
      rw [e] at hsz
      omega
    obtain ⟨x, rfl⟩ := List.length_eq_one_iff.1 hc1
    obtain ⟨K2, h2⟩ := red_eq op true ⟨[], [x]⟩ last h (by simp) hn
    dsimp only at h2
    have e : redS op true ⟨[], [x]⟩ last = redS op false ⟨[], [x]⟩ last := by
      unfold redS
      simp only [List.length_nil, if_true]
    rw [e] at h2
    exact ⟨[x], K1 + K2 + 20, fun k hk => ⟨by_atom last x k (by omega), h1 k (by omega), h2 k (by omega)⟩⟩
  · obtain ⟨O, T, G, A⟩ := axis_of (c := c) hs hsz hn (ax_lt s last hl)
    obtain ⟨K2, h2⟩ := by_eq last hs hsz (by omega) hl A
    have hb : okA ⟨s, turnL c T G⟩ := by
      rw [okA] at h ⊢
      exact ⟨h.1, by rw [turnL_len]; exact h.2.1, okCs_iff.2 (fun x hx => okCs_iff.1 h.2.2 x (turn_mem A.len x hx))⟩
    obtain ⟨K3, h3⟩ := red_eq op true ⟨s, turnL c T G⟩ last hb (by dsimp only; rw [turnL_len]; omega) hn
    rw [red_turn hop hch hl A] at h3
    dsimp only at h3
    exact ⟨turnL c T G, K1 + K2 + K3, fun k hk => ⟨h2 k (by omega), h1 k (by omega), h3 k (by omega)⟩⟩
theorem turns_works (op : Int) (last : Bool) (s : List Int) (c : List S43) : ∀ k, 61 ≤ k → triglyphlaw08_FoldTurns.j0 k op last true s c = some true := by
  intro k hk
  obtain ⟨k, rfl, hk2⟩ := succ_of (K := 60) hk
  rw [triglyphlaw08_FoldTurns.j0, if_pos rfl, works_eq k hk2]
  rfl
theorem FoldTurns : FoldTurns.Pure := by
  intro op s c last ho h
  obtain ⟨K0, e0⟩ := light_eq ⟨s, c⟩ h
  dsimp only at e0
  unfold triglyphlaw08_FoldTurns.f
  by_cases hl : lightS8 ⟨s, c⟩ = true
  rotate_left
  · refine ⟨K0 + 61, ?_⟩
    rw [e0 _ (by omega), Option.bind_some, if_neg hl]
    exact turns_works op last s c _ (by omega)
  have hw : wA (⟨s, c⟩ : S25) 300 16 ≤ 300 := of_decide_eq_true hl
  have hge := wA_ge (⟨s, c⟩ : S25) 300 16
  dsimp only at hge
  obtain ⟨K1, e1⟩ := narrow_eq s c (by omega)
  cases hn : nrS 1 20 s with
  | false =>
    refine ⟨K0 + K1 + 61, ?_⟩
    rw [e0 _ (by omega), Option.bind_some, if_pos hl, e1 _ (by omega), Option.bind_some, hn, if_neg (by decide)]
    exact turns_works op last s c _ (by omega)
  | true =>
    obtain ⟨K2, e2⟩ := rcheck_eq ⟨s, c⟩ h
    dsimp only at e2
    by_cases hch : chA ⟨s, c⟩ 0 = 0
    rotate_left
    · refine ⟨K0 + K1 + K2 + 61, ?_⟩
      rw [e0 _ (by omega), Option.bind_some, if_pos hl, e1 _ (by omega), Option.bind_some, hn, if_pos rfl, e2 _ (by omega), Option.bind_some, if_neg hch]
      exact turns_works op last s c _ (by omega)
    by_cases c1 : op < 21
    · refine ⟨K0 + K1 + K2 + 61, ?_⟩
      rw [e0 _ (by omega), Option.bind_some, if_pos hl, e1 _ (by omega), Option.bind_some, hn, if_pos rfl, e2 _ (by omega), Option.bind_some, if_pos hch, if_pos c1]
      exact turns_works op last s c _ (by omega)
    by_cases c2 : op > 25
    · refine ⟨K0 + K1 + K2 + 61, ?_⟩
      rw [e0 _ (by omega), Option.bind_some, if_pos hl, e1 _ (by omega), Option.bind_some, hn, if_pos rfl, e2 _ (by omega), Option.bind_some, if_pos hch, if_neg c1, if_pos c2]
      exact turns_works op last s c _ (by omega)
    by_cases c3 : op = 22
    · refine ⟨K0 + K1 + K2 + 61, ?_⟩
      rw [e0 _ (by omega), Option.bind_some, if_pos hl, e1 _ (by omega), Option.bind_some, hn, if_pos rfl, e2 _ (by omega), Option.bind_some, if_pos hch, if_neg c1, if_neg c2, beq_iff_eq.2 c3]
      exact turns_works op last s c _ (by omega)
    have hop : op = 21 ∨ op = 23 ∨ op = 24 ∨ op = 25 := by omega
    obtain ⟨c', K3, e3⟩ := turns_both hop last h (by omega) hn hch
    have hok := redS_ok op false ⟨s, c⟩ last h (by dsimp only; omega) hn
    generalize redS op false ⟨s, c⟩ last = R at e3 hok
    obtain ⟨R1, R2, R3⟩ := R
    dsimp only at hok
    obtain ⟨K4, e4⟩ := rsame_eq ⟨R1, R2⟩ ⟨R1, R2⟩ hok
    rw [cmpA_self] at e4
    dsimp only at e4
    refine ⟨K0 + K1 + K2 + K3 + K4 + 60 + 3, ?_⟩
    generalize hk : K0 + K1 + K2 + K3 + K4 + 60 = k
    rw [e0 _ (by omega), Option.bind_some, if_pos hl, e1 _ (by omega), Option.bind_some, hn, if_pos rfl, e2 _ (by omega), Option.bind_some, if_pos hch, if_neg c1, if_neg c2, beq_eq_false_iff_ne.2 c3]
    have hj2 : triglyphlaw08_FoldTurns.j2 (k + 1) R3 R3 (R3 != 0) R1 R2 R1 R2 = some true := by
      rw [triglyphlaw08_FoldTurns.j2]
      by_cases h0 : R3 = 0
      · rw [if_neg (by simp [h0]), e4 k (by omega), Option.bind_some, if_pos (by decide), works_eq k (by omega)]
        rfl
      · rw [if_pos (bne_iff_ne.2 h0), if_pos rfl, works_eq k (by omega)]
        rfl
    have hj1 : triglyphlaw08_FoldTurns.j1 (k + 2) op last (if last = true then 1 else 0) s c = some true := by
      obtain ⟨f1, f2, f3⟩ := e3 (k + 1) (by omega)
      rw [triglyphlaw08_FoldTurns.j1, f1, Option.bind_some]
      dsimp only
      rw [f2, Option.bind_some, f3, Option.bind_some]
      dsimp only
      by_cases h0 : R3 = 0
      · rw [if_pos h0]; exact hj2
      · rw [if_neg h0]
        have hb : (R3 != 0) = true := bne_iff_ne.2 h0
        rw [hb] at hj2
        exact hj2
    rw [triglyphlaw08_FoldTurns.j0, if_neg (by decide)]
    cases last with
    | true => rw [if_pos rfl]; exact hj1
    | false => rw [if_neg (by decide)]; exact hj1
end Go.Proofs.Ytahgfebdjjfkhaa.Pure
