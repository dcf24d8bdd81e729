/- What may be, as the reference tells it; how deep an array is, as both tell it. -/
import Derived.Test.YtahgfebdjjfkhaaArr3
import Derived.Test.YtahgfebdjjfkhaaArr2
import Derived.Test.YtahgfebdjjfkhaaPx13
namespace Go.Proofs.Ytahgfebdjjfkhaa.Pure
open Go.RowKit Go.Proofs.Ytahgfebdjjfkhaa.P Go.Proofs.Ytahgfebdjjfkhaa.Nest Go.Proofs.YtahgfebdjjfkhaaW.PrintWords Go.Proofs.YtahgfebdjjfkhaaW.PrintLast Go.Proofs.YtahgfebdjjfkhaaW.PrintMore
set_option linter.unusedVariables false
set_option linter.unusedSimpArgs false
theorem rck_l0 (d : Nat) (s : List Int) (c : List S43) (R : Int) (K : Nat) (H : ∀ k, K ≤ k → triglyphref03_check.l1 k (d : Int) 0 s c = some R) : ∀ (rest done : List Int), s = done ++ rest → s.length ≤ 8 →
    ∃ K, ∀ k, K ≤ k → triglyphref03_check.l0 k (d : Int) (done.length : Int) s c = some (if rest.any (16384 < ·) = true then 12 else R)
  | [], done, hs, hl => by
    refine ⟨K + 1, fun k hk => ?_⟩
    obtain ⟨k, rfl, hk2⟩ := succ_of hk
    simp only [triglyphref03_check.l0]
    rw [if_neg (by rw [hs]; simp), H k hk2]
    simp
  | x :: rest, done, hs, hl => by
    have hlen : (s.length : Int) = done.length + 1 + rest.length := by rw [hs]; simp; omega
    by_cases hx : 16384 < x
    · refine ⟨1, fun k hk => ?_⟩
      obtain ⟨k, rfl, _⟩ := succ_of (K := 0) hk
      simp only [triglyphref03_check.l0]
      rw [if_pos (by omega), if_pos (by omega), show rd s (done.length : Int) = x by rw [hs, rd_mid], if_pos (by omega)]
      simp [hx]
    · obtain ⟨K2, hK2⟩ := rck_l0 d s c R K H rest (done ++ [x]) (by rw [hs]; simp) hl
      refine ⟨K2 + 1, fun k hk => ?_⟩
      obtain ⟨k, rfl, hk2⟩ := succ_of hk
      simp only [triglyphref03_check.l0]
      rw [if_pos (by omega), if_pos (by omega), show rd s (done.length : Int) = x by rw [hs, rd_mid], if_neg (by omega), wrap_next _ x (by omega), hK2 k hk2]
      simp [hx]
theorem rck_cell (d : Nat) (kk nn : Int) (b : List S25) (k : Nat) : triglyphref03_cell.f (k + 1) kk nn b (d : Int) = triglyphref03_cell.j0 k (d : Int) (decide (kk = 2 ∧ nn = 0 ∧ b.length = 1)) kk nn b := by
  simp only [triglyphref03_cell.f]
  by_cases h1 : kk = 2
  · rw [if_pos h1]
    by_cases h2 : nn = 0
    · rw [if_pos h2]
      congr 1
      by_cases h3 : b.length = 1
      · simp [h1, h2, h3]
      · have h4 : ¬ ((b.length : Int) = 1) := by omega
        simp [h1, h2, h3, h4]
    · rw [if_neg h2]
      simp [h2]
  · rw [if_neg h1]
    simp [h1]
mutual
theorem rck_evA : ∀ (a : S25) (d : Nat), okA a → d ≤ 8 → ∃ K, ∀ k, K ≤ k → triglyphref03_check.f k a.f0 a.f1 (d : Int) = some (chA a d)
  | ⟨s, c⟩, d, h, hd => by
    rw [okA] at h
    obtain ⟨_, hc, hcs⟩ := h
    obtain ⟨K0, hK0⟩ := rsize_eq s
    obtain ⟨K1, hK1⟩ := rck_evCs c [] s d hcs (by simpa using hc) hd
    rw [chA]
    by_cases h1 : (sizeS s).2 = 0
    · obtain ⟨K2, hK2⟩ := rck_l0 d s c (chCs c d) K1 (fun k hk => by simpa using hK1 k hk) s [] rfl (sizeS_len h1)
      rw [if_pos h1]
      refine ⟨K0 + K2 + 1, fun k hk => ?_⟩
      obtain ⟨k, rfl, hk2⟩ := succ_of hk
      simp only [triglyphref03_check.f]
      rw [hK0 k (by omega)]
      simp only [Option.bind_some]
      rw [if_pos h1]
      by_cases h2 : (sizeS s).1 = (c.length : Int)
      · rw [if_pos h2, if_pos h2]
        simpa using hK2 k (by omega)
      · rw [if_neg h2, if_neg h2]
    · rw [if_neg h1]
      refine ⟨K0 + 1, fun k hk => ?_⟩
      obtain ⟨k, rfl, hk2⟩ := succ_of hk
      simp only [triglyphref03_check.f]
      rw [hK0 k (by omega)]
      simp only [Option.bind_some]
      rw [if_neg h1]
theorem rck_evCs : ∀ (rest done : List S43) (s : List Int) (d : Nat), okCs rest → (done ++ rest).length * 40 ≤ reachBytes → d ≤ 8 →
    ∃ K, ∀ k, K ≤ k → triglyphref03_check.l1 k (d : Int) (done.length : Int) s (done ++ rest) = some (chCs rest d)
  | [], done, s, d, h, hl, hd => by
    refine ⟨1, fun k hk => ?_⟩
    obtain ⟨k, rfl, _⟩ := succ_of (K := 0) hk
    simp only [triglyphref03_check.l1]
    rw [if_neg (by simp), chCs]
  | ⟨kk, nn, b⟩ :: xs, done, s, d, h, hl, hd => by
    rw [okCs, okC] at h
    obtain ⟨⟨_, _, hbl, hb⟩, hxs⟩ := h
    have hs : done ++ ⟨kk, nn, b⟩ :: xs = (done ++ [⟨kk, nn, b⟩]) ++ xs := by simp
    have hl' := hl
    unfold reachBytes at hl'
    rw [List.length_append, List.length_cons] at hl'
    have hw : wrap64 ((done.length : Int) + 1) = ((done ++ [(⟨kk, nn, b⟩ : S43)]).length : Int) := wrap_next done _ (by omega)
    obtain ⟨K, hK⟩ := rck_evCs xs (done ++ [⟨kk, nn, b⟩]) s d hxs (by rw [← hs]; exact hl) hd
    rw [chCs, chC]
    obtain ⟨K1, hK1⟩ := rck_evB b kk nn d hb hd
    refine ⟨K + K1 + 1, fun k hk => ?_⟩
    obtain ⟨k, rfl, hk2⟩ := succ_of (K := K + K1) hk
    simp only [triglyphref03_check.l1]
    rw [if_pos (by rw [List.length_append, List.length_cons]; omega), if_pos (by omega), rdC_mid, hK1 k (by omega)]
    simp only [Option.bind_some]
    by_cases h0 : chB b kk nn d = 0
    · rw [if_pos h0, if_pos h0, hw, hs]
      exact hK k (by omega)
    · rw [if_neg h0, if_neg h0]
theorem rck_evB : ∀ (b : List S25) (kk nn : Int) (d : Nat), okAs b → d ≤ 8 →
    ∃ K, ∀ k, K ≤ k → triglyphref03_cell.f k kk nn b (d : Int) = some (chB b kk nn d)
  | [], kk, nn, d, h, hd => by
    refine ⟨2, fun k hk => ?_⟩
    obtain ⟨k, rfl, hk2⟩ := succ_of (K := 1) hk
    obtain ⟨k, rfl, _⟩ := succ_of (K := 0) hk2
    rw [rck_cell]
    simp only [triglyphref03_cell.j0]
    rw [if_neg (by simp), if_neg (by simp), chB]
    by_cases h0 : kk = 0
    · rw [if_pos h0, if_pos h0]
    · rw [if_neg h0, if_neg h0]
      by_cases h1 : kk = 1
      · rw [if_pos h1, if_pos h1, rgood_eq]
        simp only [Option.bind_some]
        by_cases h2 : goodI nn = true
        · rw [if_pos h2, if_pos h2]
        · rw [if_neg h2, if_neg h2]
      · rw [if_neg h1, if_neg h1]
  | x :: xs, kk, nn, d, h, hd => by
    rw [okAs] at h
    rw [chB_cons]
    by_cases hc : kk = 2 ∧ nn = 0 ∧ xs.length = 0
    · have hc2 : kk = 2 ∧ nn = 0 ∧ (x :: xs).length = 1 := ⟨hc.1, hc.2.1, by rw [List.length_cons]; omega⟩
      rw [if_pos hc]
      by_cases h8 : 8 ≤ d
      · refine ⟨2, fun k hk => ?_⟩
        obtain ⟨k, rfl, hk2⟩ := succ_of (K := 1) hk
        obtain ⟨k, rfl, _⟩ := succ_of (K := 0) hk2
        rw [rck_cell]
        simp only [triglyphref03_cell.j0]
        rw [decide_eq_true hc2, if_pos rfl, if_pos (by omega), if_pos h8]
      · obtain ⟨K, hK⟩ := rck_evA x (d + 1) h.1 (by omega)
        refine ⟨K + 2, fun k hk => ?_⟩
        obtain ⟨k, rfl, hk2⟩ := succ_of (K := K + 1) hk
        obtain ⟨k, rfl, hk3⟩ := succ_of hk2
        rw [rck_cell]
        simp only [triglyphref03_cell.j0]
        have hw : wrap64 ((d : Int) + 1) = ((d + 1 : Nat) : Int) := by rw [wrap_in (by omega) (by omega)]; omega
        rw [decide_eq_true hc2, if_pos rfl, if_neg (by omega), if_pos (by rw [List.length_cons]; omega), rdA_zero, hw, hK k hk3, if_neg h8]
        rfl
    · have hc2 : ¬ (kk = 2 ∧ nn = 0 ∧ (x :: xs).length = 1) := fun h => hc ⟨h.1, h.2.1, by have := h.2.2; rw [List.length_cons] at this; omega⟩
      refine ⟨2, fun k hk => ?_⟩
      obtain ⟨k, rfl, hk2⟩ := succ_of (K := 1) hk
      obtain ⟨k, rfl, _⟩ := succ_of (K := 0) hk2
      rw [rck_cell]
      simp only [triglyphref03_cell.j0]
      rw [decide_eq_false hc2, if_neg (by simp), if_pos (by rw [List.length_cons]; omega), if_neg hc]
end
theorem rcheck_eq (a : S25) (h : okA a) : ∃ K, ∀ k, K ≤ k → triglyphref03_Check.f k a.f0 a.f1 = some (chA a 0) := by
  obtain ⟨K, hK⟩ := rck_evA a 0 h (by omega)
  refine ⟨K, fun k hk => ?_⟩
  unfold triglyphref03_Check.f
  have := hK k hk
  rw [show ((0 : Nat) : Int) = 0 from rfl] at this
  rw [this]
  rfl
end Go.Proofs.Ytahgfebdjjfkhaa.Pure
