/- What a value looks like, as one function of the value; the package and the reference come to it. Plain facts. -/
import Derived.Test.YtbijepjnbolpiaaShowS
import Derived.Test.YtbijepjnbolpiaaArr3
namespace Go.Proofs.Ytbijepjnbolpiaa.Pure
open Go.RowKit Go.Proofs.Ytbijepjnbolpiaa.P Go.Proofs.Ytbijepjnbolpiaa.Nest Go.Proofs.YtbijepjnbolpiaaW.PrintWords Go.Proofs.YtbijepjnbolpiaaW.PrintLast Go.Proofs.YtbijepjnbolpiaaW.PrintMore
set_option linter.unusedVariables false
set_option linter.unusedSimpArgs false
def minusB (d : Int) : ByteArray := if d = 0 then ⟨#[194, 175]⟩ else if d = 1 then ⟨#[95]⟩ else ⟨#[45]⟩
def chk {α : Type} (k : Nat) : Nat → List α → List (List α)
  | 0, _ => []
  | n + 1, L => L.take k :: chk k n (L.drop k)
theorem chk_len {α : Type} (k : Nat) : ∀ (n : Nat) (L : List α), (chk k n L).length = n
  | 0, _ => rfl
  | n + 1, L => by rw [chk, List.length_cons, chk_len]
theorem chk_get {α : Type} (k : Nat) : ∀ (n : Nat) (L : List α) (i : Nat) (h : i < n), (chk k n L)[i]'(by rw [chk_len]; exact h) = (L.drop (i * k)).take k
  | 0, _, i, h => by omega
  | n + 1, L, 0, h => by simp [chk]
  | n + 1, L, i + 1, h => by
    simp only [chk, List.getElem_cons_succ]
    rw [chk_get k n _ i (by omega), List.drop_drop, Nat.add_mul, Nat.one_mul, Nat.add_comm]
abbrev TX := Bool × ByteArray
def sep1 (L : List TX) : ByteArray := if L.all (·.1) = true then nilB else ⟨#[32]⟩
def lay : List Int → List TX → ByteArray
  | [], L => (L.headD (false, nilB)).2
  | n :: s, L => match s with
    | [] => jn (sep1 L) (L.map (·.2))
    | _ :: _ => jn (nlB s.length) ((chk (L.length / n.toNat) n.toNat L).map (lay s))
theorem lay_one (n : Int) (L : List TX) : lay [n] L = jn (sep1 L) (L.map (·.2)) := rfl
theorem lay_two (n m : Int) (s : List Int) (L : List TX) : lay (n :: m :: s) L = jn (nlB (m :: s).length) ((chk (L.length / n.toNat) n.toNat L).map (lay (m :: s))) := rfl
def pm : List Int → Int
  | [] => 1
  | d :: l => (if d ≤ 1 then 1 else d) * pm l
def pr : List Int → Int
  | [] => 1
  | d :: l => d * pr l
theorem pm_pos : ∀ l, 1 ≤ pm l
  | [] => Int.le_refl _
  | d :: l => by
    have h := pm_pos l
    rw [pm]
    split
    · omega
    · have := Int.mul_le_mul (show (1 : Int) ≤ d by omega) h (by omega) (by omega); omega
theorem pr_le : ∀ l : List Int, (∀ x ∈ l, 0 ≤ x) → 0 ≤ pr l ∧ pr l ≤ pm l
  | [], _ => ⟨by decide, Int.le_refl _⟩
  | d :: l, h => by
    obtain ⟨h0, h1⟩ := pr_le l (fun x hx => h x (List.mem_cons_of_mem _ hx))
    have hd := h d List.mem_cons_self
    rw [pr, pm]
    refine ⟨Int.mul_nonneg hd h0, ?_⟩
    split
    · rcases (by omega : d = 0 ∨ d = 1) with rfl | rfl
      · have := pm_pos l; omega
      · omega
    · exact Int.mul_le_mul_of_nonneg_left h1 hd
theorem pm_tail {d : Int} {l : List Int} (h : pm (d :: l) ≤ 2000) : pm l ≤ 2000 ∧ d ≤ 2000 := by
  rw [pm] at h
  have hp := pm_pos l
  split at h
  · exact ⟨by omega, by omega⟩
  · have h1 := Int.mul_le_mul (show (1 : Int) ≤ d by omega) (Int.le_refl (pm l)) (by omega) (by omega)
    have h2 := Int.mul_le_mul (Int.le_refl d) hp (by omega) (by omega)
    exact ⟨by omega, by omega⟩
theorem sizeP_pm : ∀ (l : List Int) (n : Int), 1 ≤ n → (∀ x ∈ l, 1 ≤ x) → n * pm l ≤ 2000 → sizeP n l = (n * pr l, 0)
  | [], n, h0, _, h => by rw [sizeP, pr, Int.mul_one]
  | d :: l, n, h0, hx, h => by
    have hd := hx d List.mem_cons_self
    have he : (if d ≤ 1 then 1 else d) = d := by split <;> omega
    rw [pm, he, ← Int.mul_assoc] at h
    have hn : 1 ≤ n * d := by have := Int.mul_le_mul h0 hd (by omega) (by omega); omega
    have hp := Int.mul_le_mul (Int.le_refl (n * d)) (pm_pos l) (by omega) (by omega)
    rw [sizeP, if_neg (by omega), pr, ← Int.mul_assoc]
    exact sizeP_pm l (n * d) hn (fun x h => hx x (List.mem_cons_of_mem _ h)) h
theorem pr_zero : ∀ l : List Int, (0 : Int) ∈ l → pr l = 0
  | [], h => by cases h
  | d :: l, h => by
    rw [pr]
    rcases List.mem_cons.1 h with h | h
    · rw [← h, Int.zero_mul]
    · rw [pr_zero l h, Int.mul_zero]
theorem sizeS_pm {l : List Int} (h0 : ∀ x ∈ l, 0 ≤ x) (h8 : l.length ≤ 8) (h : pm l ≤ 2000) : sizeS l = (pr l, 0) := by
  unfold sizeS
  rw [if_neg (by omega), if_neg]
  · by_cases hz : (0 : Int) ∈ l
    · rw [if_pos (List.any_eq_true.2 ⟨0, hz, by simp⟩), pr_zero l hz]
    · rw [if_neg (by
        intro he
        obtain ⟨x, hx, hq⟩ := List.any_eq_true.1 he
        simp at hq
        subst hq
        exact hz hx)]
      rw [sizeP_pm l 1 (by omega) (fun x hx => by
        have h1 := h0 x hx
        have h2 : x ≠ 0 := fun e => hz (e ▸ hx)
        omega) (by omega), Int.one_mul]
  · intro he
    obtain ⟨x, hx, hq⟩ := List.any_eq_true.1 he
    have := h0 x hx
    simp at hq
    omega
def tot (L : List TX) : Nat := sumB (L.map (·.2))
theorem tot_take_drop (k : Nat) (L : List TX) : tot (L.take k) + tot (L.drop k) = tot L := by
  unfold tot
  rw [← sumB_app, ← List.map_append, List.take_append_drop]
theorem le_mulQ {a b : Int} (ha : 0 ≤ a) (hb : 1 ≤ b) : a ≤ a * b := by
  have := Int.mul_le_mul_of_nonneg_left hb ha
  rwa [Int.mul_one] at this
theorem lay_size : ∀ (s : List Int) (L : List TX), (∀ x ∈ s, 0 ≤ x) → s.length ≤ 8 → pr s = L.length → ((lay s L).size : Int) ≤ tot L + (s.length * s.length : Nat) * pm s
  | [], L, _, _, h => by
    rw [lay]
    cases L with
    | nil => simp [nilB, tot, sumB, ByteArray.size]
    | cons x L => simp [tot, sumB]; omega
  | [n], L, h0, _, h => by
    have hn := h0 n List.mem_cons_self
    rw [pr, pr, Int.mul_one] at h
    rw [lay_one]
    have h1 := jn_size (sep1 L) (L.map (·.2))
    have h2 : (sep1 L).size ≤ 1 := by
      unfold sep1
      split
      · exact Nat.zero_le _
      · exact Nat.le_refl _
    rw [List.length_map] at h1
    have h3 : L.length * (sep1 L).size ≤ L.length * 1 := Nat.mul_le_mul_left _ h2
    have h4 : (L.length : Int) ≤ pm [n] := by
      rw [pm, pm, Int.mul_one]
      split <;> omega
    unfold tot
    simp
    omega
  | n :: m :: s, L, h0, h8, h => by
    have hn := h0 n List.mem_cons_self
    have ih := lay_size (m :: s)
    obtain ⟨N, rfl⟩ := Int.eq_ofNat_of_zero_le hn
    have hp := pr_le (m :: s) (fun x hx => h0 x (List.mem_cons_of_mem _ hx))
    have hpm := pm_pos (m :: s)
    obtain ⟨p, hpe⟩ := Int.eq_ofNat_of_zero_le hp.1
    rw [pr, hpe] at h
    have hl : L.length = N * p := by exact_mod_cast h.symm
    rw [lay_two, Int.toNat_natCast, pm]
    have h1 := jn_size (nlB (m :: s).length) ((chk (L.length / N) N L).map (lay (m :: s)))
    rw [nlB_size, List.length_map, chk_len] at h1
    have key : ∀ (j : Nat) (L' : List TX), L'.length = j * p → (sumB ((chk p j L').map (lay (m :: s))) : Int) ≤ tot L' + j * (((m :: s).length * (m :: s).length : Nat) * pm (m :: s)) := by
      intro j
      induction j with
      | zero => intro L' _; simp [chk, sumB]
      | succ j ihj =>
        intro L' hL
        rw [Nat.add_mul, Nat.one_mul] at hL
        rw [chk, List.map_cons, sumB]
        have a := ih (L'.take p) (fun x hx => h0 x (List.mem_cons_of_mem _ hx)) (by simp at h8 ⊢; omega) (by rw [hpe, List.length_take]; omega)
        have b := ihj (L'.drop p) (by rw [List.length_drop]; omega)
        have c := tot_take_drop p L'
        have e : ((j + 1 : Nat) : Int) * (((m :: s).length * (m :: s).length : Nat) * pm (m :: s)) = (j : Int) * (((m :: s).length * (m :: s).length : Nat) * pm (m :: s)) + (((m :: s).length * (m :: s).length : Nat) * pm (m :: s)) := by
          rw [show ((j + 1 : Nat) : Int) = (j : Int) + 1 by omega, Int.add_mul, Int.one_mul]
        rw [e]
        omega
    rcases Nat.eq_zero_or_pos N with hz | hz
    · subst hz
      have : (jn (nlB (m :: s).length) ((chk (L.length / 0) 0 L).map (lay (m :: s)))).size = 0 := by simp [chk, jn, nilB, ByteArray.size]
      rw [this]
      have h3 : (0 : Int) ≤ (((Int.ofNat 0 :: m :: s).length * (Int.ofNat 0 :: m :: s).length : Nat) : Int) * ((if ((0 : Nat) : Int) ≤ 1 then 1 else ((0 : Nat) : Int)) * pm (m :: s)) := Int.mul_nonneg (by omega) (by rw [if_pos (by omega)]; omega)
      have h4 : (0 : Int) ≤ tot L := by omega
      exact Int.add_nonneg h4 h3
    · have hk : L.length / N = p := by rw [hl, Nat.mul_div_cancel_left _ hz]
      rw [hk] at h1 ⊢
      have h2 := key N L hl
      have he : (if ((N : Nat) : Int) ≤ 1 then 1 else ((N : Nat) : Int)) = (N : Int) := by split <;> omega
      rw [he]
      have hr : (((m :: s).length + 1) * ((m :: s).length + 1) : Nat) = (m :: s).length * (m :: s).length + (m :: s).length + ((m :: s).length + 1) := by rw [Nat.add_mul, Nat.mul_add]; omega
      have e0 : ((N :: m :: s : List Int).length : Nat) = (m :: s).length + 1 := rfl
      generalize hr0 : (m :: s).length = r at *
      generalize pm (m :: s) = q at *
      have e1 : (((r + 1) * (r + 1) : Nat) : Int) * ((N : Int) * q) = (N : Int) * ((r * r : Nat) * q) + (r : Int) * ((N : Int) * q) + ((r + 1 : Nat) : Int) * ((N : Int) * q) := by
        rw [hr]
        push_cast
        rw [Int.add_mul, Int.add_mul]
        congr 1
        congr 1
        rw [← Int.mul_assoc, ← Int.mul_assoc, Int.mul_comm (N : Int) ((r : Int) * r)]
      have h5 : ((N * r : Nat) : Int) ≤ (r : Int) * ((N : Int) * q) := by
        push_cast
        rw [Int.mul_comm (N : Int) r]
        exact Int.mul_le_mul_of_nonneg_left (le_mulQ (by omega) hpm) (by omega)
      have h6 : (0 : Int) ≤ ((r + 1 : Nat) : Int) * ((N : Int) * q) := Int.mul_nonneg (by omega) (Int.mul_nonneg (by omega) (by omega))
      have e2 : ((N : Int) :: m :: s).length = r + 1 := by rw [← hr0]; rfl
      rw [e2, e1]
      omega
end Go.Proofs.Ytbijepjnbolpiaa.Pure
