/- What may be, as the reference tells it; how deep an array is, as both tell it. -/
import Derived.Test.YtiegcghapchimaaArr3
import Derived.Test.YtiegcghapchimaaArr2
import Derived.Test.YtiegcghapchimaaPx13
import Derived.Test.YtiegcghapchimaaPx15
import Derived.Test.YtiegcghapchimaaPx6
namespace Go.Proofs.Ytiegcghapchimaa.Pure
open Go.RowKit Go.Proofs.Ytiegcghapchimaa.P Go.Proofs.Ytiegcghapchimaa.Nest Go.Proofs.YtiegcghapchimaaW.PrintWords Go.Proofs.YtiegcghapchimaaW.PrintLast Go.Proofs.YtiegcghapchimaaW.PrintMore
set_option linter.unusedVariables false
set_option linter.unusedSimpArgs false
theorem rck_l0 (d : Nat) (s : List Int) (c : List S39) (R : Int) (K : Nat) (H : ∀ k, K ≤ k → triglyphref03_check.l1 k (d : Int) 0 s c = some R) : ∀ (rest done : List Int), s = done ++ rest → s.length ≤ 8 →
    ∃ K, ∀ k, K ≤ k → triglyphref03_check.l0 k (d : Int) (done.length : Int) s c = some (if rest.any (16384 < ·) = true then 12 else R)
  | [], done, hs, hl => by
    refine ⟨K + 1, fun k hk => ?_⟩
    obtain ⟨k, rfl, hk2⟩ := succ_of hk
    simp only [triglyphref03_check.l0]
    rw [if_neg (by rw [hs]; simp), H k hk2]
    simp
  | x :: rest, done, hs, hl => by
    have hlen : (s.length : Int) = done.length + 1 + rest.length := by rw [hs]; simp; omega
    by_cases hx : 16384 < x
    · refine ⟨1, fun k hk => ?_⟩
      obtain ⟨k, rfl, _⟩ := succ_of (K := 0) hk
      simp only [triglyphref03_check.l0]
      rw [if_pos (by omega), if_pos (by omega), show rd s (done.length : Int) = x by rw [hs, rd_mid], if_pos (by omega)]
      simp [hx]
    · obtain ⟨K2, hK2⟩ := rck_l0 d s c R K H rest (done ++ [x]) (by rw [hs]; simp) hl
      refine ⟨K2 + 1, fun k hk => ?_⟩
      obtain ⟨k, rfl, hk2⟩ := succ_of hk
      simp only [triglyphref03_check.l0]
      rw [if_pos (by omega), if_pos (by omega), show rd s (done.length : Int) = x by rw [hs, rd_mid], if_neg (by omega), wrap_next _ x (by omega), hK2 k hk2]
      simp [hx]
theorem rck_cell (d : Nat) (kk nn : Int) (b : List S25) (k : Nat) : triglyphref03_cell.f (k + 1) kk nn b (d : Int) = triglyphref03_cell.j0 k (d : Int) (decide (kk = 2 ∧ nn = 0 ∧ b.length = 1)) kk nn b := by
  simp only [triglyphref03_cell.f]
  by_cases h1 : kk = 2
  · rw [if_pos h1]
    by_cases h2 : nn = 0
    · rw [if_pos h2]
      congr 1
      by_cases h3 : b.length = 1
      · simp [h1, h2, h3]
      · have h4 : ¬ ((b.length : Int) = 1) := by omega
        simp [h1, h2, h3, h4]
    · rw [if_neg h2]
      simp [h2]
  · rw [if_neg h1]
    simp [h1]
mutual
theorem rck_evA : ∀ (a : S25) (d : Nat), okA a → d ≤ 8 → ∃ K, ∀ k, K ≤ k → triglyphref03_check.f k a.f0 a.f1 (d : Int) = some (chA a d)
  | ⟨s, c⟩, d, h, hd => by
    rw [okA] at h
    obtain ⟨_, hc, hcs⟩ := h
    obtain ⟨K0, hK0⟩ := rsize_eq s
    obtain ⟨K1, hK1⟩ := rck_evCs c [] s d hcs (by simpa using hc) hd
    rw [chA]
    by_cases h1 : (sizeS s).2 = 0
    · obtain ⟨K2, hK2⟩ := rck_l0 d s c (chCs c d) K1 (fun k hk => by simpa using hK1 k hk) s [] rfl (sizeS_len h1)
      rw [if_pos h1]
      refine ⟨K0 + K2 + 1, fun k hk => ?_⟩
      obtain ⟨k, rfl, hk2⟩ := succ_of hk
      simp only [triglyphref03_check.f]
      rw [hK0 k (by omega)]
      simp only [Option.bind_some]
      rw [if_pos h1]
      by_cases h2 : (sizeS s).1 = (c.length : Int)
      · rw [if_pos h2, if_pos h2]
        simpa using hK2 k (by omega)
      · rw [if_neg h2, if_neg h2]
    · rw [if_neg h1]
      refine ⟨K0 + 1, fun k hk => ?_⟩
      obtain ⟨k, rfl, hk2⟩ := succ_of hk
      simp only [triglyphref03_check.f]
      rw [hK0 k (by omega)]
      simp only [Option.bind_some]
      rw [if_neg h1]
theorem rck_evCs : ∀ (rest done : List S39) (s : List Int) (d : Nat), okCs rest → (done ++ rest).length * 40 ≤ reachBytes → d ≤ 8 →
    ∃ K, ∀ k, K ≤ k → triglyphref03_check.l1 k (d : Int) (done.length : Int) s (done ++ rest) = some (chCs rest d)
  | [], done, s, d, h, hl, hd => by
    refine ⟨1, fun k hk => ?_⟩
    obtain ⟨k, rfl, _⟩ := succ_of (K := 0) hk
    simp only [triglyphref03_check.l1]
    rw [if_neg (by simp), chCs]
  | ⟨kk, nn, b⟩ :: xs, done, s, d, h, hl, hd => by
    rw [okCs, okC] at h
    obtain ⟨⟨_, _, hbl, hb⟩, hxs⟩ := h
    have hs : done ++ ⟨kk, nn, b⟩ :: xs = (done ++ [⟨kk, nn, b⟩]) ++ xs := by simp
    have hl' := hl
    unfold reachBytes at hl'
    rw [List.length_append, List.length_cons] at hl'
    have hw : wrap64 ((done.length : Int) + 1) = ((done ++ [(⟨kk, nn, b⟩ : S39)]).length : Int) := wrap_next done _ (by omega)
    obtain ⟨K, hK⟩ := rck_evCs xs (done ++ [⟨kk, nn, b⟩]) s d hxs (by rw [← hs]; exact hl) hd
    rw [chCs, chC]
    obtain ⟨K1, hK1⟩ := rck_evB b kk nn d hb hd
    refine ⟨K + K1 + 1, fun k hk => ?_⟩
    obtain ⟨k, rfl, hk2⟩ := succ_of (K := K + K1) hk
    simp only [triglyphref03_check.l1]
    rw [if_pos (by rw [List.length_append, List.length_cons]; omega), if_pos (by omega), rdC_mid, hK1 k (by omega)]
    simp only [Option.bind_some]
    by_cases h0 : chB b kk nn d = 0
    · rw [if_pos h0, if_pos h0, hw, hs]
      exact hK k (by omega)
    · rw [if_neg h0, if_neg h0]
theorem rck_evB : ∀ (b : List S25) (kk nn : Int) (d : Nat), okAs b → d ≤ 8 →
    ∃ K, ∀ k, K ≤ k → triglyphref03_cell.f k kk nn b (d : Int) = some (chB b kk nn d)
  | [], kk, nn, d, h, hd => by
    refine ⟨2, fun k hk => ?_⟩
    obtain ⟨k, rfl, hk2⟩ := succ_of (K := 1) hk
    obtain ⟨k, rfl, _⟩ := succ_of (K := 0) hk2
    rw [rck_cell]
    simp only [triglyphref03_cell.j0]
    rw [if_neg (by simp), if_neg (by simp), chB]
    by_cases h0 : kk = 0
    · rw [if_pos h0, if_pos h0]
    · rw [if_neg h0, if_neg h0]
      by_cases h1 : kk = 1
      · rw [if_pos h1, if_pos h1, rgood_eq]
        simp only [Option.bind_some]
        by_cases h2 : goodI nn = true
        · rw [if_pos h2, if_pos h2]
        · rw [if_neg h2, if_neg h2]
      · rw [if_neg h1, if_neg h1]
  | x :: xs, kk, nn, d, h, hd => by
    rw [okAs] at h
    rw [chB_cons]
    by_cases hc : kk = 2 ∧ nn = 0 ∧ xs.length = 0
    · have hc2 : kk = 2 ∧ nn = 0 ∧ (x :: xs).length = 1 := ⟨hc.1, hc.2.1, by rw [List.length_cons]; omega⟩
      rw [if_pos hc]
      by_cases h8 : 8 ≤ d
      · refine ⟨2, fun k hk => ?_⟩
        obtain ⟨k, rfl, hk2⟩ := succ_of (K := 1) hk
        obtain ⟨k, rfl, _⟩ := succ_of (K := 0) hk2
        rw [rck_cell]
        simp only [triglyphref03_cell.j0]
        rw [decide_eq_true hc2, if_pos rfl, if_pos (by omega), if_pos h8]
      · obtain ⟨K, hK⟩ := rck_evA x (d + 1) h.1 (by omega)
        refine ⟨K + 2, fun k hk => ?_⟩
        obtain ⟨k, rfl, hk2⟩ := succ_of (K := K + 1) hk
        obtain ⟨k, rfl, hk3⟩ := succ_of hk2
        rw [rck_cell]
        simp only [triglyphref03_cell.j0]
        have hw : wrap64 ((d : Int) + 1) = ((d + 1 : Nat) : Int) := by rw [wrap_in (by omega) (by omega)]; omega
        rw [decide_eq_true hc2, if_pos rfl, if_neg (by omega), if_pos (by rw [List.length_cons]; omega), rdA_zero, hw, hK k hk3, if_neg h8]
        rfl
    · have hc2 : ¬ (kk = 2 ∧ nn = 0 ∧ (x :: xs).length = 1) := fun h => hc ⟨h.1, h.2.1, by have := h.2.2; rw [List.length_cons] at this; omega⟩
      refine ⟨2, fun k hk => ?_⟩
      obtain ⟨k, rfl, hk2⟩ := succ_of (K := 1) hk
      obtain ⟨k, rfl, _⟩ := succ_of (K := 0) hk2
      rw [rck_cell]
      simp only [triglyphref03_cell.j0]
      rw [decide_eq_false hc2, if_neg (by simp), if_pos (by rw [List.length_cons]; omega), if_neg hc]
end
theorem rcheck_eq (a : S25) (h : okA a) : ∃ K, ∀ k, K ≤ k → triglyphref03_Check.f k a.f0 a.f1 = some (chA a 0) := by
  obtain ⟨K, hK⟩ := rck_evA a 0 h (by omega)
  refine ⟨K, fun k hk => ?_⟩
  unfold triglyphref03_Check.f
  have := hK k hk
  rw [show ((0 : Nat) : Int) = 0 from rfl] at this
  rw [this]
  rfl
mutual
def deA : S25 → Int
  | ⟨_, c⟩ => deCs c 0
def deCs : List S39 → Int → Int
  | [], m => m
  | x :: xs, m => deCs xs (if m < deC x then deC x else m)
def deC : S39 → Int
  | ⟨_, _, b⟩ => deB b
def deB : List S25 → Int
  | [] => 0
  | x :: _ => 1 + deA x
end
mutual
theorem deA_bd : ∀ (a : S25) (d : Nat), smA a d → 0 ≤ deA a ∧ deA a ≤ d
  | ⟨s, c⟩, d, h => by
    rw [smA] at h
    rw [deA]
    exact deCs_bd c 0 d h.2.2 (by omega) (by omega)
theorem deCs_bd : ∀ (c : List S39) (m : Int) (d : Nat), smCs c d → 0 ≤ m → m ≤ d → 0 ≤ deCs c m ∧ deCs c m ≤ d
  | [], m, d, h, h0, h1 => by rw [deCs]; exact ⟨h0, h1⟩
  | ⟨kk, nn, b⟩ :: xs, m, d, h, h0, h1 => by
    rw [smCs, smC] at h
    rw [deCs, deC]
    have := deB_bd b d h.1.2
    exact deCs_bd xs _ d h.2 (by split <;> omega) (by split <;> omega)
theorem deB_bd : ∀ (b : List S25) (d : Nat), smB b d → 0 ≤ deB b ∧ deB b ≤ d
  | [], d, h => by rw [deB]; omega
  | x :: xs, d, h => by
    rw [smB] at h
    obtain ⟨⟨e, rfl, hx⟩, _⟩ := h
    rw [deB]
    have := deA_bd x e hx
    omega
end
mutual
theorem de_evA : ∀ (a : S25) (d : Nat), okA a → smA a d → d ≤ 100 → ∃ K, ∀ k, K ≤ k → arr_Deep.f k a.f0 a.f1 = some (deA a)
  | ⟨s, c⟩, d, h, hm, hd => by
    rw [okA] at h
    rw [smA] at hm
    obtain ⟨_, hc, hcs⟩ := h
    obtain ⟨K1, hK1⟩ := de_evCs c [] 0 d hcs (by simpa using hc) hm.2.2 hd (by omega)
    rw [deA]
    refine ⟨K1 + 1, fun k hk => ?_⟩
    obtain ⟨k, rfl, hk2⟩ := succ_of hk
    simp only [arr_Deep.f]
    simpa using hK1 k hk2
theorem de_evCs : ∀ (rest done : List S39) (m : Int) (d : Nat), okCs rest → (done ++ rest).length * 40 ≤ reachBytes → smCs rest d → d ≤ 100 → 0 ≤ m →
    ∃ K, ∀ k, K ≤ k → arr_Deep.l0 k m (done ++ rest) ((done ++ rest).length : Int) (done.length : Int) = some (deCs rest m)
  | [], done, m, d, h, hl, hm, hd, h0 => by
    refine ⟨1, fun k hk => ?_⟩
    obtain ⟨k, rfl, _⟩ := succ_of (K := 0) hk
    simp only [arr_Deep.l0]
    rw [if_neg (by simp), deCs]
  | ⟨kk, nn, []⟩ :: xs, done, m, d, h, hl, hm, hd, h0 => by
    rw [okCs] at h
    rw [smCs] at hm
    have hs : done ++ (⟨kk, nn, []⟩ : S39) :: xs = (done ++ [⟨kk, nn, []⟩]) ++ xs := by simp
    have hl' := hl
    unfold reachBytes at hl'
    rw [List.length_append, List.length_cons] at hl'
    have hw : wrap64 ((done.length : Int) + 1) = ((done ++ [(⟨kk, nn, []⟩ : S39)]).length : Int) := wrap_next done _ (by omega)
    rw [deCs, deC, deB, if_neg (by omega)]
    obtain ⟨K, hK⟩ := de_evCs xs (done ++ [⟨kk, nn, []⟩]) m d h.2 (by rw [← hs]; exact hl) hm.2 hd h0
    refine ⟨K + 1, fun k hk => ?_⟩
    obtain ⟨k, rfl, hk2⟩ := succ_of hk
    simp only [arr_Deep.l0]
    rw [if_pos (by rw [List.length_append, List.length_cons]; omega), if_pos (by omega), if_pos (by rw [List.length_append, List.length_cons]; omega), rdC_mid, if_neg (by simp), hw, hs]
    exact hK k hk2
  | ⟨kk, nn, x :: b⟩ :: xs, done, m, d, h, hl, hm, hd, h0 => by
    rw [okCs, okC, okAs] at h
    rw [smCs, smC, smB] at hm
    obtain ⟨e, rfl, hx⟩ := hm.1.2.1
    have hbd := deA_bd x e hx
    have hs : done ++ (⟨kk, nn, x :: b⟩ : S39) :: xs = (done ++ [⟨kk, nn, x :: b⟩]) ++ xs := by simp
    have hl' := hl
    unfold reachBytes at hl'
    rw [List.length_append, List.length_cons] at hl'
    have hw : wrap64 ((done.length : Int) + 1) = ((done ++ [(⟨kk, nn, x :: b⟩ : S39)]).length : Int) := wrap_next done _ (by omega)
    rw [deCs, deC, deB]
    obtain ⟨K0, hK0⟩ := de_evA x e h.1.2.2.2.1 hx (by omega)
    obtain ⟨K, hK⟩ := de_evCs xs (done ++ [⟨kk, nn, x :: b⟩]) (if m < 1 + deA x then 1 + deA x else m) (e + 1) h.2 (by rw [← hs]; exact hl) hm.2 hd (by split <;> omega)
    refine ⟨K0 + K + 1, fun k hk => ?_⟩
    obtain ⟨k, rfl, hk2⟩ := succ_of hk
    simp only [arr_Deep.l0]
    rw [if_pos (by rw [List.length_append, List.length_cons]; omega), if_pos (by omega), if_pos (by rw [List.length_append, List.length_cons]; omega), rdC_mid, if_pos (by rw [List.length_cons]; omega), if_pos (by rw [List.length_cons]; omega)]
    simp only
    rw [rdA_zero, hK0 k (by omega)]
    simp only [Option.bind_some]
    rw [wrap_in (show -9223372036854775808 ≤ 1 + deA x by omega) (by omega), hw, hs, show mx m (1 + deA x) = if m < 1 + deA x then 1 + deA x else m from rfl]
    exact hK k (by omega)
end
theorem deep_eq (a : S25) (h : okA a) (hm : smA a 16) : ∃ K, ∀ k, K ≤ k → arr_Deep.f k a.f0 a.f1 = some (deA a) := de_evA a 16 h hm (by omega)
end Go.Proofs.Ytiegcghapchimaa.Pure
