/- FoldCells: what it computes is yes, for any arrays and places. -/
import Derived.Test.YtahgfebdjjfkhaaStaFoldCells
import Derived.Test.YtahgfebdjjfkhaaFold2
import Derived.Test.YtahgfebdjjfkhaaPx15
namespace Go.Proofs.Ytahgfebdjjfkhaa.Pure
open Go.RowKit Go.Proofs.Ytahgfebdjjfkhaa.P Go.Proofs.Ytahgfebdjjfkhaa.Nest Go.Proofs.YtahgfebdjjfkhaaW.PrintWords Go.Proofs.YtahgfebdjjfkhaaW.PrintLast Go.Proofs.YtahgfebdjjfkhaaW.PrintMore
set_option linter.unusedVariables false
set_option linter.unusedSimpArgs false
theorem goS_all : ∀ (p : List (Int × Int)) (acc : List S43), (goS p acc).1 = 0 → (∀ x ∈ p, x.2 = 0) ∧ (goS p acc).2 = acc ++ p.map (fun x => numC x.1)
  | [], acc, _ => ⟨fun x hx => (by cases hx), (by rw [goS]; simp)⟩
  | y :: r, acc, h => by
    rw [goS] at h ⊢
    by_cases h0 : y.2 = 0
    · rw [if_pos h0] at h ⊢
      obtain ⟨h1, h2⟩ := goS_all r _ h
      refine ⟨fun x hx => ?_, by rw [h2]; simp⟩
      rcases List.mem_cons.1 hx with rfl | hx
      · exact h0
      · exact h1 x hx
    · rw [if_neg h0] at h
      exact absurd h h0
theorem flat_at {α β γ : Type} (f : α → β → γ) (m : List β) (j : Nat) (hj : j < m.length) (d : α) (e : β) : ∀ (l : List α) (i : Nat), i < l.length → (l.flatMap fun x => m.map (f x))[i * m.length + j]? = some (f (l.getD i d) (m.getD j e))
  | [], i, hi => by simp at hi
  | x :: r, 0, hi => by
    rw [List.flatMap_cons, Nat.zero_mul, Nat.zero_add, List.getElem?_append_left (by rw [List.length_map]; exact hj), List.getElem?_map, List.getElem?_eq_getElem hj]
    simp [List.getD_eq_getElem?_getD, List.getElem?_eq_getElem hj]
  | x :: r, i + 1, hi => by
    have hi2 : i < r.length := by simpa using hi
    rw [List.flatMap_cons, List.getElem?_append_right (by rw [List.length_map, Nat.succ_mul]; omega), List.length_map, show (i + 1) * m.length + j - m.length = i * m.length + j by rw [Nat.succ_mul]; omega, flat_at f m j hj d e r i hi2]
    simp
theorem rem_at (x : Int) {n : Nat} (h0 : 0 < n) (h1 : n ≤ 300) : ∃ i : Nat, i < n ∧ wrap64 (Int.tmod (IntKind.u64.wrap x) (IntKind.u64.wrap (n : Int))) = (i : Int) ∧ ¬ IntKind.u64.wrap (n : Int) = 0 := by
  have hu : IntKind.u64.wrap (n : Int) = (n : Int) := by rw [u64w]; omega
  have hx : 0 ≤ IntKind.u64.wrap x := by rw [u64w]; omega
  rw [hu, Int.tmod_eq_emod_of_nonneg hx]
  have h2 := Int.emod_nonneg (IntKind.u64.wrap x) (b := (n : Int)) (by omega)
  have h3 := Int.emod_lt_of_pos (IntKind.u64.wrap x) (b := (n : Int)) (by omega)
  generalize IntKind.u64.wrap x % (n : Int) = r at h2 h3
  obtain ⟨i, rfl⟩ := Int.eq_ofNat_of_zero_le h2
  exact ⟨i, by omega, wrap_in (by omega) (by omega), by omega⟩
theorem works_j (k : Nat) (hk : 60 ≤ k) (op i j : Int) (s s2 : List Int) (c c2 : List S43) : triglyphlaw08_FoldCells.j0 (k + 1) op i j true s c s2 c2 = some true := by
  rw [triglyphlaw08_FoldCells.j0, if_pos rfl, works_eq k hk]
  rfl
theorem FoldCells : FoldCells.Pure := by
  intro op s c s2 c2 x y ho h h2 hx hy
  obtain ⟨K0, e0⟩ := light_eq ⟨s, c⟩ h
  obtain ⟨K1, e1⟩ := light_eq ⟨s2, c2⟩ h2
  obtain ⟨K2, e2⟩ := rcheck_eq ⟨s, c⟩ h
  obtain ⟨K3, e3⟩ := rcheck_eq ⟨s2, c2⟩ h2
  dsimp only at e0 e1 e2 e3
  by_cases hl : lightS8 ⟨s, c⟩ = true
  rotate_left
  · refine ⟨K0 + K1 + K2 + K3 + 60 + 1, ?_⟩
    unfold triglyphlaw08_FoldCells.f
    rw [e0 _ (by omega), Option.bind_some, if_neg hl, works_j _ (by omega)]
  by_cases hl2 : lightS8 ⟨s2, c2⟩ = true
  rotate_left
  · refine ⟨K0 + K1 + K2 + K3 + 60 + 1, ?_⟩
    unfold triglyphlaw08_FoldCells.f
    rw [e0 _ (by omega), Option.bind_some, if_pos hl, e1 _ (by omega), Option.bind_some, if_neg hl2, works_j _ (by omega)]
  by_cases hc : chA ⟨s, c⟩ 0 = 0
  rotate_left
  · refine ⟨K0 + K1 + K2 + K3 + 60 + 1, ?_⟩
    unfold triglyphlaw08_FoldCells.f
    rw [e0 _ (by omega), Option.bind_some, if_pos hl, e1 _ (by omega), Option.bind_some, if_pos hl2, e2 _ (by omega), Option.bind_some, if_neg hc, works_j _ (by omega)]
  by_cases hc2 : chA ⟨s2, c2⟩ 0 = 0
  rotate_left
  · refine ⟨K0 + K1 + K2 + K3 + 60 + 1, ?_⟩
    unfold triglyphlaw08_FoldCells.f
    rw [e0 _ (by omega), Option.bind_some, if_pos hl, e1 _ (by omega), Option.bind_some, if_pos hl2, e2 _ (by omega), Option.bind_some, if_pos hc, e3 _ (by omega), Option.bind_some, if_neg hc2, works_j _ (by omega)]
  have hf : ∀ k, K0 + K1 + K2 + K3 ≤ k → triglyphlaw08_FoldCells.f k op s c s2 c2 x y = if (c.length : Int) = 0 then triglyphlaw08_FoldCells.j0 k op x y true s c s2 c2 else triglyphlaw08_FoldCells.j0 k op x y ((c2.length : Int) == 0) s c s2 c2 := by
    intro k hk
    unfold triglyphlaw08_FoldCells.f
    rw [e0 _ (by omega), Option.bind_some, if_pos hl, e1 _ (by omega), Option.bind_some, if_pos hl2, e2 _ (by omega), Option.bind_some, if_pos hc, e3 _ (by omega), Option.bind_some, if_pos hc2]
  by_cases n1 : c.length = 0
  · refine ⟨K0 + K1 + K2 + K3 + 60 + 1, ?_⟩
    rw [hf _ (by omega), if_pos (by omega), works_j _ (by omega)]
  by_cases n2 : c2.length = 0
  · refine ⟨K0 + K1 + K2 + K3 + 60 + 1, ?_⟩
    rw [hf _ (by omega), if_neg (by omega), show ((c2.length : Int) == 0) = true from beq_iff_eq.2 (by omega), works_j _ (by omega)]
  have la : c.length ≤ 300 := light_len (a := ⟨s, c⟩) (of_decide_eq_true hl)
  have lb : c2.length ≤ 300 := light_len (a := ⟨s2, c2⟩) (of_decide_eq_true hl2)
  obtain ⟨K4, e4⟩ := outer_eq op false ⟨s, c⟩ ⟨s2, c2⟩ h h2 la lb
  dsimp only at e4
  obtain ⟨i, hi, hi2, hi3⟩ := rem_at x (n := c.length) (by omega) la
  obtain ⟨j, hj, hj2, hj3⟩ := rem_at y (n := c2.length) (by omega) lb
  have hI : I64 (c.getD i z43).f1 := okA_i64 h _ (getD_mem hi)
  have hJ : I64 (c2.getD j z43).f1 := okA_i64 h2 _ (getD_mem hj)
  have hbt : ((c2.length : Int) == 0) = false := beq_eq_false_iff_ne.2 (by omega)
  by_cases he : (outrS op false ⟨s, c⟩ ⟨s2, c2⟩).2.2 = 0
  · have hg : chk2 op ⟨s, c⟩ ⟨s2, c2⟩ = 0 ∧ (sizeS (s ++ s2)).2 = 0 ∧ (goS (prS op false ⟨s, c⟩ ⟨s2, c2⟩) []).1 = 0 := by
      unfold outrS at he
      split at he
      · rename_i h3
        split at he
        · rename_i h4
          split at he
          · rename_i h5
            exact ⟨h3, h4, h5⟩
          · rename_i h5
            exact absurd he h5
        · rename_i h4
          exact absurd he h4
      · rename_i h3
        exact absurd he h3
    obtain ⟨g1, g2, g3⟩ := hg
    have ho : outrS op false ⟨s, c⟩ ⟨s2, c2⟩ = (s ++ s2, (goS (prS op false ⟨s, c⟩ ⟨s2, c2⟩) []).2, 0) := by unfold outrS; rw [if_pos g1, if_pos g2, if_pos g3]
    obtain ⟨g4, g5⟩ := goS_all _ _ g3
    rw [List.nil_append] at g5
    have hat : (prS op false ⟨s, c⟩ ⟨s2, c2⟩)[i * c2.length + j]? = some (celS op (c.getD i z43) (c2.getD j z43)) := flat_at (ofS op false) c2 j hj z43 z43 c i hi
    have hz : (celS op (c.getD i z43) (c2.getD j z43)).2 = 0 := g4 _ (List.mem_of_getElem? hat)
    have hlen : (goS (prS op false ⟨s, c⟩ ⟨s2, c2⟩) []).2.length = c.length * c2.length := by rw [g5, List.length_map]; exact prS_len ⟨s2, c2⟩ c
    have hm1 : c.length * c2.length ≤ 300 * 300 := Nat.mul_le_mul la lb
    have hm2 : i * c2.length + j < c.length * c2.length := by
      clear hi2 hj2
      have := Nat.mul_le_mul_right c2.length (show i + 1 ≤ c.length by omega)
      rw [Nat.succ_mul] at this
      omega
    have hix : wrap64 (wrap64 ((i : Int) * (c2.length : Int)) + (j : Int)) = ((i * c2.length + j : Nat) : Int) := by
      clear hi2 hj2
      have h0 : (i : Int) * (c2.length : Int) = ((i * c2.length : Nat) : Int) := by rw [Int.natCast_mul]
      rw [h0, wrap_in (x := ((i * c2.length : Nat) : Int)) (by omega) (by omega), wrap_in (by omega) (by omega)]
      omega
    have hll : wrap64 ((c.length : Int) * (c2.length : Int)) = ((c.length * c2.length : Nat) : Int) := by
      clear hi2 hj2 hix
      rw [← Int.natCast_mul, wrap_in (by omega) (by omega)]
    have hcell : rd_T43 (goS (prS op false ⟨s, c⟩ ⟨s2, c2⟩) []).2 ((i * c2.length + j : Nat) : Int) = numC (celS op (c.getD i z43) (c2.getD j z43)).1 := by
      rw [rdC_nat, g5, List.getD_eq_getElem?_getD, List.getElem?_map, hat]
      rfl
    obtain ⟨K5, e5⟩ := rcell_eq (numC (celS op (c.getD i z43) (c2.getD j z43)).1) (numC (celS op (c.getD i z43) (c2.getD j z43)).1) (by
      unfold numC
      rw [okC, okAs]
      exact ⟨wf_of ⟨by decide, by decide⟩, wf_of (celS_i64 hI hJ), by simp, trivial⟩)
    rw [cmpC_self] at e5
    refine ⟨K0 + K1 + K2 + K3 + K4 + K5 + 60 + 1, ?_⟩
    have hkx : ∃ k, K0 + K1 + K2 + K3 + K4 + K5 + 60 = k ∧ 8 ≤ k ∧ 60 ≤ k ∧ K5 ≤ k ∧ K4 ≤ k ∧ K0 + K1 + K2 + K3 ≤ k + 1 := ⟨_, rfl, by clear hi2 hj2 hix hll; omega, by clear hi2 hj2 hix hll; omega, by clear hi2 hj2 hix hll; omega, by clear hi2 hj2 hix hll; omega, by clear hi2 hj2 hix hll; omega⟩
    obtain ⟨k, hk, hk8, hk60, hk5, hk4, hk3⟩ := hkx
    have hn1 : ¬ (c.length : Int) = 0 := by clear hi2 hj2 hix hll; omega
    rw [hk, hf _ hk3, if_neg hn1, hbt, triglyphlaw08_FoldCells.j0, if_neg (by decide), e4 k hk4, Option.bind_some, ho]
    dsimp only
    rw [if_pos rfl, if_neg hi3, if_neg hj3, hi2, hj2, if_pos (Int.natCast_nonneg i), if_pos (Int.ofNat_lt.2 hi), if_pos (Int.natCast_nonneg j), if_pos (Int.ofNat_lt.2 hj), rdC_nat, rdC_nat, rcel_eq hI hJ hk8, Option.bind_some]
    dsimp only
    rw [if_pos hz, hlen, hll, if_pos rfl, hix, if_pos (Int.natCast_nonneg _), if_pos (Int.ofNat_lt.2 hm2), hcell]
    have h9 := e5 k hk5
    unfold numC at h9 ⊢
    dsimp only at h9 ⊢
    rw [h9, Option.bind_some, if_pos rfl, works_eq k hk60]
    rfl
  · have hno : (outrS op false ⟨s, c⟩ ⟨s2, c2⟩).2.1 = [] := by
      unfold outrS at he ⊢
      split
      · split
        · split
          · rename_i h3 h4 h5
            rw [if_pos h3, if_pos h4, if_pos h5] at he
            exact absurd rfl he
          · rfl
        · rfl
      · rfl
    refine ⟨K0 + K1 + K2 + K3 + K4 + 60 + 1, ?_⟩
    generalize hk : K0 + K1 + K2 + K3 + K4 + 60 = k
    clear hi2 hj2
    rw [hf _ (by omega), if_neg (by omega), hbt, triglyphlaw08_FoldCells.j0, if_neg (by decide), e4 k (by omega), Option.bind_some, if_neg he, hno, if_pos (by simp), works_eq k (by omega)]
    rfl
end Go.Proofs.Ytahgfebdjjfkhaa.Pure
