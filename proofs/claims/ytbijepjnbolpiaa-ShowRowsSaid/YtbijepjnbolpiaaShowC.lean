/- The package and the reference come to the same text of any array that may be and is light. Plain facts. -/
import Derived.Test.YtbijepjnbolpiaaShowR
import Derived.Test.YtbijepjnbolpiaaArr3L
import Derived.Test.YtbijepjnbolpiaaArr4
import Derived.Test.YtbijepjnbolpiaaPx3
import Derived.Test.YtbijepjnbolpiaaPx4
import Derived.Test.YtbijepjnbolpiaaPx5
import Derived.Test.YtbijepjnbolpiaaPx9
namespace Go.Proofs.Ytbijepjnbolpiaa.Pure
open Go.RowKit Go.Proofs.Ytbijepjnbolpiaa.P Go.Proofs.Ytbijepjnbolpiaa.Nest Go.Proofs.YtbijepjnbolpiaaW.PrintWords Go.Proofs.YtbijepjnbolpiaaW.PrintLast Go.Proofs.YtbijepjnbolpiaaW.PrintMore
set_option linter.unusedVariables false
set_option linter.unusedSimpArgs false
mutual
def liA : S25 → Prop
  | ⟨s, c⟩ => pm (s.take 10) ≤ 2000 ∧ liCs c
def liCs : List S40 → Prop
  | [] => True
  | x :: xs => liC x ∧ liCs xs
def liC : S40 → Prop
  | ⟨_, _, b⟩ => liB b
def liB : List S25 → Prop
  | [] => True
  | x :: xs => xs = [] → liA x
end
mutual
def msA : S25 → Nat
  | ⟨s, c⟩ => c.length + msCs c
def msCs : List S40 → Nat
  | [] => 0
  | x :: xs => msC x + msCs xs
def msC : S40 → Nat
  | ⟨_, _, b⟩ => msB b
def msB : List S25 → Nat
  | [] => 0
  | x :: xs => 1 + msA x + msB xs
end
mutual
theorem ms_wA : ∀ (a : S25) (most : Int) (deep : Nat), wA a most deep ≤ most → (msA a : Int) ≤ wA a most deep
  | ⟨s, c⟩, most, deep, h => by
    rw [wA] at h ⊢
    rw [msA]
    have := ms_wCs c ((c.length : Int) + (s.length : Int)) most deep h
    push_cast
    omega
theorem ms_wCs : ∀ (c : List S40) (n most : Int) (deep : Nat), wCs c n most deep ≤ most → n + (msCs c : Int) ≤ wCs c n most deep
  | [], n, most, deep, h => by rw [wCs, msCs]; simp
  | x :: xs, n, most, deep, h => by
    rw [wCs] at h ⊢
    rw [msCs]
    split
    · rename_i hn
      rw [if_pos hn] at h
      have h2 := wCs_ge xs (wC x n most deep) most deep
      have a := ms_wC x n most deep (by omega)
      have b := ms_wCs xs _ most deep h
      push_cast
      omega
    · rename_i hn
      rw [if_neg hn] at h
      omega
theorem ms_wC : ∀ (x : S40) (n most : Int) (deep : Nat), wC x n most deep ≤ most → n + (msC x : Int) ≤ wC x n most deep
  | ⟨_, _, b⟩, n, most, deep, h => by
    rw [wC] at h ⊢
    rw [msC]
    exact ms_wB b n most deep h
theorem ms_wB : ∀ (b : List S25) (n most : Int) (deep : Nat), wB b n most deep ≤ most → n + (msB b : Int) ≤ wB b n most deep
  | [], n, most, deep, h => by rw [wB_none, msB]; simp
  | x :: xs, n, most, deep, h => by
    rw [wB_cons] at h ⊢
    rw [msB]
    split
    · rename_i hn
      rw [if_pos hn] at h
      cases deep with
      | zero => simp only at h; omega
      | succ d =>
        simp only at h ⊢
        have h2 := wB_ge xs (n + 1 + wA x (most - n) d) most (d + 1)
        have h3 := wA_ge x (most - n) d
        have a := ms_wA x (most - n) d (by omega)
        have b := ms_wB xs _ most (d + 1) h
        push_cast
        omega
    · rename_i hn
      rw [if_neg hn] at h
      omega
end
theorem i64_of {n : Int} (h : (Lit.int .i64 n).wf = true) : -9223372036854775808 ≤ n ∧ n ≤ 9223372036854775807 := by
  unfold Lit.wf at h
  rw [Bool.and_eq_true] at h
  exact ⟨of_decide_eq_true (p := (-9223372036854775808 : Int) ≤ n) h.1, of_decide_eq_true (p := n ≤ 9223372036854775807) h.2⟩
theorem minus_size (d : Int) : (minusB d).size ≤ 2 := by
  unfold minusB
  split
  · exact Nat.le_refl _
  · split <;> decide
theorem arr_parts {s : List Int} {c : List S40} {dp : Nat} (h : chA ⟨s, c⟩ dp = 0) : (sizeS s).2 = 0 ∧ (sizeS s).1 = (c.length : Int) ∧ chCs c dp = 0 := by
  rw [chA] at h
  by_cases h1 : (sizeS s).2 = 0
  · rw [if_pos h1] at h
    by_cases h2 : (sizeS s).1 = (c.length : Int)
    · rw [if_pos h2] at h
      split at h
      · cases h
      · exact ⟨h1, h2, h⟩
    · rw [if_neg h2] at h; cases h
  · rw [if_neg h1] at h; exact absurd h h1
theorem shape_nn {s : List Int} (h : (sizeS s).2 = 0) : ∀ x ∈ s, 0 ≤ x := by
  unfold sizeS at h
  split at h
  · cases h
  split at h
  · cases h
  · rename_i hn
    intro x hx
    rcases Int.lt_or_le x 0 with hl | hl
    · exact absurd (List.any_eq_true.2 ⟨x, hx, by simpa using hl⟩) hn
    · exact hl
theorem fit_of (d : Int) {s : List Int} {c : List S40} {dp : Nat} (h : chA ⟨s, c⟩ dp = 0) (hl : pm (s.take 10) ≤ 2000) (ht : tot (c.map (txS d)) ≤ 1000000000) : Fit d s c := by
  obtain ⟨h1, h2, _⟩ := arr_parts h
  have h8 := sizeS_len h1
  rw [List.take_of_length_le (by omega)] at hl
  refine ⟨shape_nn h1, h8, ?_, hl, ht⟩
  rw [← h2, sizeS_pm (shape_nn h1) h8 hl]
theorem good_id (n : Int) : runes_Good.f n = some (goodI n) := by
  unfold runes_Good.f goodI
  repeat' split
  all_goals (congr 1; first | (apply Bool.eq_iff_iff.2; simp; omega) | (symm; simp; omega))
mutual
theorem evA (d : Int) : ∀ (a : S25) (dp : Nat), okA a → chA a dp = 0 → liA a → msA a ≤ 1000 → Fit d a.f0 a.f1 ∧ (∀ x ∈ a.f1, GoC d x ∧ RfC d x) ∧ (arrS d a).size ≤ 200000 * (1 + msA a)
  | ⟨s, c⟩, dp, hk, h, hl, hm => by
    rw [liA] at hl
    rw [msA] at hm
    rw [okA] at hk
    obtain ⟨h1, h2⟩ := evCs d c dp hk.2.2 (arr_parts h).2.2 hl.2 (by omega)
    have hF := fit_of d h hl.1 (by have : tot (c.map (txS d)) ≤ 30 * c.length + 200000 * msCs c := h2; omega)
    refine ⟨hF, h1, ?_⟩
    have h3 := lay_size s (c.map (txS d)) hF.nn hF.rk (by rw [hF.ln]; simp)
    have h4 : ((s.length * s.length : Nat) : Int) ≤ 64 := by
      have := Nat.mul_le_mul hF.rk hF.rk
      omega
    have h5 := Int.mul_le_mul h4 hF.wd (by have := pm_pos s; omega) (by omega)
    have h6 : tot (c.map (txS d)) ≤ 30 * c.length + 200000 * msCs c := h2
    rw [arrS, cellsS_map, msA]
    omega
theorem evCs (d : Int) : ∀ (c : List S40) (dp : Nat), okCs c → chCs c dp = 0 → liCs c → msCs c ≤ 1000 → (∀ x ∈ c, GoC d x ∧ RfC d x) ∧ sumB ((c.map (txS d)).map (·.2)) ≤ 30 * c.length + 200000 * msCs c
  | [], dp, hk, h, hl, hm => ⟨fun x hx => (by cases hx), by simp [sumB]⟩
  | x :: xs, dp, hk, h, hl, hm => by
    rw [okCs] at hk
    rw [liCs] at hl
    rw [msCs] at hm
    have hx0 : chC x dp = 0 := by
      rw [chCs] at h
      by_cases h0 : chC x dp = 0
      · exact h0
      · rw [if_neg h0] at h; exact h
    have hxs : chCs xs dp = 0 := by rw [chCs, if_pos hx0] at h; exact h
    obtain ⟨a1, a2, a3⟩ := evC d x dp hk.1 hx0 hl.1 (by omega)
    obtain ⟨b1, b2⟩ := evCs d xs dp hk.2 hxs hl.2 (by omega)
    refine ⟨fun y hy => ?_, ?_⟩
    · rcases List.mem_cons.1 hy with rfl | hy
      · exact ⟨a1, a2⟩
      · exact b1 y hy
    · rw [List.map_cons, List.map_cons, sumB, msCs, List.length_cons]
      omega
theorem evC (d : Int) : ∀ (x : S40) (dp : Nat), okC x → chC x dp = 0 → liC x → msC x ≤ 1000 → GoC d x ∧ RfC d x ∧ (txS d x).2.size ≤ 30 + 200000 * msC x
  | ⟨k, n, b⟩, dp, hk, h, hl, hm => by
    rw [okC] at hk
    rw [chC] at h
    rw [liC] at hl
    rw [msC] at hm
    obtain ⟨n0, n1⟩ := i64_of hk.2.1
    have hB := evB d b k n dp hk.2.2.2 h hl hm
    have hms := minus_size d
    have hmin : show_minus.f d = some (minusB d) := by unfold show_minus.f minusB; (repeat' split) <;> rfl
    by_cases k0 : k = 0
    · subst k0
      refine ⟨⟨1, fun q hq => ?_⟩, ?_, ?_⟩
      · obtain ⟨q, rfl, _⟩ := succ_of (K := 0) hq
        simp only [show_cell.f]
        rw [if_pos True.intro, hmin]
        simp only [Option.bind_some]
        rw [number_eq n _ n0 n1 (by omega), txS]
        rfl
      · obtain ⟨K, hK⟩ := rnumber_eq n (minusB d) n0 n1 (by omega)
        refine ⟨K + 1, fun q hq => ?_⟩
        obtain ⟨q, rfl, hq2⟩ := succ_of hq
        simp only [triglyphref27_cell.f]
        have hK' := hK q hq2
        rw [if_neg (by decide), if_neg (by decide), txS]
        simp only [if_pos True.intro]
        by_cases d0 : d = 0
        · have hm0 : minusB d = ⟨#[194, 175]⟩ := by unfold minusB; rw [if_pos d0]
          rw [hm0] at hK' ⊢
          rw [if_pos d0, if_neg (by omega), hK']; rfl
        · rw [if_neg d0]
          by_cases d1 : d = 1
          · have hm0 : minusB d = ⟨#[95]⟩ := by unfold minusB; rw [if_neg d0, if_pos d1]
            rw [hm0] at hK' ⊢
            rw [if_pos d1, hK']; rfl
          · have hm0 : minusB d = ⟨#[45]⟩ := by unfold minusB; rw [if_neg d0, if_neg d1]
            rw [hm0] at hK' ⊢
            rw [if_neg d1, hK']; rfl
      · rw [txS]
        simp only [if_pos True.intro]
        have := num_size n (minusB d) (by omega)
        omega
    · by_cases k1 : k = 1
      · subst k1
        have hg : goodI n = true ∧ b = [] := by
          cases b with
          | nil =>
            rw [chB] at h
            rw [if_neg (by decide), if_pos rfl] at h
            split at h
            · rename_i hg; exact ⟨hg, rfl⟩
            · cases h
          | cons y ys => rw [chB_cons, if_neg (by omega)] at h; cases h
        obtain ⟨hg, rfl⟩ := hg
        have hg2 := hg
        unfold goodI at hg2
        have hg3 := of_decide_eq_true hg2
        refine ⟨⟨1, fun q hq => ?_⟩, ?_, ?_⟩
        · obtain ⟨q, rfl, _⟩ := succ_of (K := 0) hq
          simp only [show_cell.f]
          rw [if_neg (by decide), if_pos True.intro]
          unfold runes_Write.f
          rw [if_pos (show [n].length = 1 from rfl), show rd [n] 0 = n from rfl, good_id, hg]
          simp only [Option.bind_some]
          rw [if_pos True.intro, put_eq n hg3.1 hg3.2.1, txS]
          rfl
        · obtain ⟨K, hK⟩ := rput_eq n hg3.1 hg3.2.1
          refine ⟨K + 1, fun q hq => ?_⟩
          obtain ⟨q, rfl, hq2⟩ := succ_of hq
          simp only [triglyphref27_cell.f]
          rw [if_pos True.intro, hK q hq2, txS]
          rfl
        · rw [txS]
          simp only [if_neg k0, if_pos True.intro]
          rw [strOfNums_size]
          have := putL_len n
          omega
      · obtain ⟨x, hx, h2, hA, hS⟩ := hB k0 k1
        subst hx
        subst h2
        obtain ⟨hF, hC, _⟩ := hA
        have hsz : (arrS d x).size ≤ 2000000000 := by
          have := hF.size
          obtain ⟨s, c⟩ := x
          rw [arrS, cellsS_map]
          exact this
        have e1 : (1 : Nat) + (arrS d x).size ≤ 9223372036854775807 := by omega
        have hbx : (boxS d [x]).size = (arrS d x).size + 2 := by
          rw [boxS, ba_size, ba_size]
          show 1 + _ + 1 = _
          omega
        have e2 : ((⟨#[91]⟩ : ByteArray) ++ arrS d x).size + 1 ≤ 9223372036854775807 := by
          rw [ba_size]
          show 1 + _ + 1 ≤ _
          omega
        refine ⟨?_, ?_, ?_⟩
        · obtain ⟨K, hK⟩ := g_arr d x.f0 x.f1 hF (fun y hy => (hC y hy).1)
          refine ⟨K + 1, fun q hq => ?_⟩
          obtain ⟨q, rfl, hq2⟩ := succ_of hq
          simp only [show_cell.f]
          rw [if_neg k0, if_neg k1, if_pos (by simp), show rd_T25 [x] 0 = x from rfl, hK q hq2]
          simp only [Option.bind_some]
          have hw : lay x.f0 (x.f1.map (txS d)) = arrS d x := by
            obtain ⟨s, c⟩ := x
            rw [arrS, cellsS_map]
          rw [hw, if_pos e1, if_pos e2, txS]
          simp only [if_neg k0, if_neg k1]
          rw [boxS]
        · obtain ⟨K, hK⟩ := r_arr d x.f0 x.f1 hF (fun y hy => (hC y hy).2)
          refine ⟨K + 1, fun q hq => ?_⟩
          obtain ⟨q, rfl, hq2⟩ := succ_of hq
          simp only [triglyphref27_cell.f]
          rw [if_neg (by decide), if_pos True.intro, if_pos (by simp), show rd_T25 [x] 0 = x from rfl, hK q hq2]
          simp only [Option.bind_some]
          have hw : lay x.f0 (x.f1.map (txS d)) = arrS d x := by
            obtain ⟨s, c⟩ := x
            rw [arrS, cellsS_map]
          rw [hw, if_pos e1, if_pos e2, txS]
          simp only [if_neg k0, if_neg k1]
          rw [boxS]
        · rw [txS]
          simp only [if_neg k0, if_neg k1]
          rw [hbx, msC, msB, msB]
          omega
theorem evB (d : Int) : ∀ (b : List S25) (k n : Int) (dp : Nat), okAs b → chB b k n dp = 0 → liB b → msB b ≤ 1000 → k ≠ 0 → k ≠ 1 → ∃ x, b = [x] ∧ k = 2 ∧ (Fit d x.f0 x.f1 ∧ (∀ y ∈ x.f1, GoC d y ∧ RfC d y) ∧ True) ∧ (arrS d x).size ≤ 200000 * (1 + msA x)
  | [], k, n, dp, hk, h, hl, hm, k0, k1 => by
    rw [chB, if_neg k0, if_neg k1] at h
    cases h
  | x :: xs, k, n, dp, hk, h, hl, hm, k0, k1 => by
    rw [chB_cons] at h
    by_cases hc : k = 2 ∧ n = 0 ∧ xs.length = 0
    · rw [if_pos hc] at h
      obtain ⟨hc1, hc2, hc3⟩ := hc
      obtain rfl := List.eq_nil_of_length_eq_zero hc3
      split at h
      · cases h
      · rw [okAs] at hk
        rw [liB] at hl
        rw [msB, msB] at hm
        obtain ⟨a1, a2, a3⟩ := evA d x (dp + 1) hk.1 h (hl rfl) (by omega)
        exact ⟨x, rfl, hc1, ⟨a1, a2, True.intro⟩, a3⟩
    · rw [if_neg hc] at h; cases h
end
end Go.Proofs.Ytbijepjnbolpiaa.Pure
