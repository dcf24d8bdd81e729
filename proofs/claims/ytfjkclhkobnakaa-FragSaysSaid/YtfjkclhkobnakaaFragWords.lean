/- For which primitives a dialect has a word: the package's answer is the chapter's, for every number; and the package works. -/
import Derived.Test.YtfjkclhkobnakaaPx5
import Derived.Test.YtfjkclhkobnakaaPx7
import Derived.Test.YtfjkclhkobnakaaPx8
import Derived.Test.YtfjkclhkobnakaaPx9
namespace Go.Proofs.Ytfjkclhkobnakaa.Pure
open Go.RowKit Go.Proofs.Ytfjkclhkobnakaa.P Go.Proofs.YtfjkclhkobnakaaW.PrintWords Go.Proofs.YtfjkclhkobnakaaW.PrintLast Go.Proofs.YtfjkclhkobnakaaW.PrintMore
set_option linter.unusedVariables false
set_option linter.unusedSimpArgs false
theorem succ_of {K k : Nat} (h : K + 1 ≤ k) : ∃ m, k = m + 1 ∧ K ≤ m := ⟨k - 1, by omega, by omega⟩
theorem works_eq : ∀ k, 60 ≤ k → triglyphlaw24_works.f k = some true := by
  intro k hk
  have h : triglyphlaw24_works.f 60 = some true := by kernel_rfl
  exact at_rounds triglyphlaw24_works.mono hk h
theorem empty_list : (⟨#[]⟩ : ByteArray).toList = ([] : List UInt8) := by kernel_rfl
/-- A word there is, and it is no function of two arguments with a number above 54. -/
def lowD (d : Int) (i : Nat) : Bool :=
  match triglyphref24_word.f (i : Int) with
  | some t => !t.toList.isEmpty && (match triglyphref20_Dyad.f 60 d t with | some m => decide (m ≤ 54) | none => false)
  | none => false
theorem low0 : (List.range 58).all (lowD 0) = true := by kernel_rfl
theorem low1 : (List.range 58).all (lowD 1) = true := by kernel_rfl
theorem low2 : (List.range 58).all (lowD 2) = true := by kernel_rfl
theorem last_word : triglyphref24_word.f 58 = some (⟨#[]⟩ : ByteArray) := by kernel_rfl
theorem word_high (d op : Int) (hl : (List.range 58).all (lowD d) = true) (ho : 54 < op) : ∀ j : Nat, j ≤ 58 → ∃ K, ∀ k, K ≤ k → triglyphref24_Word.l0 k d op ((58 - j : Nat) : Int) = some (⟨#[]⟩ : ByteArray)
  | 0, _ => by
    refine ⟨1, fun k hk => ?_⟩
    obtain ⟨k, rfl, _⟩ := succ_of hk
    simp only [triglyphref24_Word.l0]
    rw [show ((58 - 0 : Nat) : Int) = 58 from rfl, last_word, if_pos (by decide)]
    simp only [Option.bind_some]
    rw [if_pos empty_list]
  | j + 1, hj => by
    obtain ⟨K, hK⟩ := word_high d op hl ho j (by omega)
    refine ⟨K + 62, fun k hk => ?_⟩
    obtain ⟨k1, rfl, h1⟩ := succ_of (show (K + 61) + 1 ≤ k by omega)
    obtain ⟨k2, rfl, h2⟩ := succ_of h1
    have hi : 58 - (j + 1) < 58 := by omega
    have hd := List.all_eq_true.1 hl (58 - (j + 1)) (List.mem_range.2 hi)
    have hn := hK k2 (by omega)
    rw [show ((58 - j : Nat) : Int) = ((58 - (j + 1) : Nat) : Int) + 1 by omega] at hn
    generalize hx : ((58 - (j + 1) : Nat) : Int) = x at hn
    have hx2 : 0 ≤ x ∧ x < 58 := by omega
    unfold lowD at hd
    rw [hx] at hd
    cases hw : triglyphref24_word.f x with
    | none => rw [hw] at hd; cases hd
    | some t =>
      rw [hw] at hd
      simp only [Bool.and_eq_true, Bool.not_eq_true'] at hd
      cases hm : triglyphref20_Dyad.f 60 d t with
      | none => rw [hm] at hd; simp at hd
      | some m =>
        rw [hm] at hd
        have hm54 : m ≤ 54 := by simpa using hd.2
        have ht : ¬ t.toList = ([] : List UInt8) := by
          intro e
          rw [e] at hd
          simp at hd
        have hm2 : triglyphref20_Dyad.f (k2 + 1) d t = some m := at_rounds (g := fun k => triglyphref20_Dyad.f k d t) (fun k => triglyphref20_Dyad.mono _ _ k) (show 60 ≤ k2 + 1 by omega) hm
        have hw64 : wrap64 (x + 1) = x + 1 := by unfold wrap64; omega
        simp only [triglyphref24_Word.l0]
        rw [if_pos (by omega), hw]
        simp only [Option.bind_some]
        rw [if_neg ht, if_neg (by omega), if_pos (by omega), hm2]
        simp only [Option.bind_some, triglyphref24_Word.j1]
        rw [if_neg (by simp; omega), hw64]
        exact hn
/-- What the law looks at, at one dialect and number, but for the package's works. -/
def agree (d op : Int) : Bool :=
  match triglyphref24_Word.f 200 d op, frag_Says.f 2 d op with
  | some t, some b => b == (if d = 1 ∧ (op = 10 ∨ op = 45) then true else if t.toList = ([] : List UInt8) then false else if op = 19 then false else if op = 54 then false else if op = 53 then d == 2 else true)
  | _, _ => false
theorem agree0 : (List.range 54).all (fun i => agree 0 ((i : Int) + 1)) = true := by kernel_rfl
theorem agree1 : (List.range 54).all (fun i => agree 1 ((i : Int) + 1)) = true := by kernel_rfl
theorem agree2 : (List.range 54).all (fun i => agree 2 ((i : Int) + 1)) = true := by kernel_rfl
theorem says_of (k : Nat) (d op : Int) (t : ByteArray) (b : Bool) (hk : 63 ≤ k) (hs : frag_Says.f 2 d op = some b)
    (he : b = (if d = 1 ∧ (op = 10 ∨ op = 45) then true else if t.toList = ([] : List UInt8) then false else if op = 19 then false else if op = 54 then false else if op = 53 then d == 2 else true)) :
    (if t.toList = ([] : List UInt8) then (triglyphlaw24_FragSays.j0 k op d false) else (if op = 19 then (triglyphlaw24_FragSays.j0 k op d false) else (if op = 54 then (triglyphlaw24_FragSays.j0 k op d false) else (if op = 53 then (triglyphlaw24_FragSays.j0 k op d (d == 2)) else (triglyphlaw24_FragSays.j0 k op d true))))) = some true := by
  have key : ∀ v : Bool, (b = if d = 1 ∧ (op = 10 ∨ op = 45) then true else v) → triglyphlaw24_FragSays.j0 k op d v = some true := by
    intro v hv
    obtain ⟨k1, rfl, h1⟩ := succ_of (show 62 + 1 ≤ k by omega)
    obtain ⟨k2, rfl, h2⟩ := succ_of (show 61 + 1 ≤ k1 by omega)
    have hs2 : frag_Says.f k2 d op = some b := at_rounds (g := fun k => frag_Says.f k d op) (fun k => frag_Says.mono _ _ k) (show 2 ≤ k2 by omega) hs
    have hw := works_eq k2 (by omega)
    simp only [triglyphlaw24_FragSays.j0, triglyphlaw24_FragSays.j1, hs2, hw, Option.bind_some]
    by_cases c1 : d = 1
    · rw [if_pos c1]
      by_cases c2 : op = 10
      · rw [if_pos ⟨c1, .inl c2⟩] at hv
        subst hv
        rw [if_pos c2]; rfl
      · rw [if_neg c2]
        by_cases c3 : op = 45
        · rw [if_pos ⟨c1, .inr c3⟩] at hv
          subst hv
          rw [if_pos (by simpa using c3)]; rfl
        · rw [if_neg (fun q => by rcases q.2 with q | q <;> omega)] at hv
          subst hv
          rw [if_neg (by simpa using c3)]
          cases b <;> rfl
    · rw [if_neg (fun q => c1 q.1)] at hv
      subst hv
      rw [if_neg c1]
      cases b <;> rfl
  by_cases e0 : t.toList = ([] : List UInt8)
  · rw [if_pos e0] at he ⊢
    exact key _ he
  · rw [if_neg e0] at he ⊢
    by_cases e1 : op = 19
    · rw [if_pos e1] at he ⊢
      exact key _ he
    · rw [if_neg e1] at he ⊢
      by_cases e2 : op = 54
      · rw [if_pos e2] at he ⊢
        exact key _ he
      · rw [if_neg e2] at he ⊢
        by_cases e3 : op = 53
        · rw [if_pos e3] at he ⊢
          exact key _ he
        · rw [if_neg e3] at he ⊢
          exact key _ he
theorem says_low (d op : Int) (h : op < 1 ∨ 54 < op) : frag_Says.f 2 d op = some false := by
  unfold frag_Says.f
  simp only [frag_Says.j0]
  rcases h with h | h
  · rw [if_neg (by omega), if_neg (by omega), if_pos h]
    rfl
  · rw [if_neg (by omega), if_neg (by omega), if_neg (by omega), if_pos (by omega)]
    rfl
theorem law_at (d op : Int) (hl : (List.range 58).all (lowD d) = true) (ha : (List.range 54).all (fun i => agree d ((i : Int) + 1)) = true) :
    ∃ k, ((triglyphref24_Word.f k d op).bind fun t => (if t.toList = ([] : List UInt8) then (triglyphlaw24_FragSays.j0 k op d false) else (if op = 19 then (triglyphlaw24_FragSays.j0 k op d false) else (if op = 54 then (triglyphlaw24_FragSays.j0 k op d false) else (if op = 53 then (triglyphlaw24_FragSays.j0 k op d (d == 2)) else (triglyphlaw24_FragSays.j0 k op d true)))))) = some true := by
  by_cases h1 : op < 1
  · refine ⟨200, ?_⟩
    unfold triglyphref24_Word.f
    rw [if_pos h1]
    exact says_of 200 d op _ false (by omega) (says_low d op (.inl h1)) (by rw [if_neg (fun q => by rcases q.2 with q | q <;> omega), if_pos empty_list])
  · by_cases h2 : 54 < op
    · obtain ⟨K, hK⟩ := word_high d op hl h2 58 (Nat.le_refl _)
      refine ⟨K + 200, ?_⟩
      unfold triglyphref24_Word.f
      rw [if_neg h1, show (0 : Int) = ((58 - 58 : Nat) : Int) from rfl, hK (K + 200) (by omega)]
      exact says_of (K + 200) d op _ false (by omega) (says_low d op (.inr h2)) (by rw [if_neg (fun q => by rcases q.2 with q | q <;> omega), if_pos empty_list])
    · have hi := List.all_eq_true.1 ha (op - 1).toNat (List.mem_range.2 (by omega))
      rw [show (((op - 1).toNat : Nat) : Int) + 1 = op by omega] at hi
      unfold agree at hi
      cases hw : triglyphref24_Word.f 200 d op with
      | none => rw [hw] at hi; simp at hi
      | some t =>
        cases hs : frag_Says.f 2 d op with
        | none => rw [hw, hs] at hi; simp at hi
        | some b =>
          rw [hw, hs] at hi
          refine ⟨200, ?_⟩
          rw [hw]
          exact says_of 200 d op t b (by omega) hs (by simpa using hi)
end Go.Proofs.Ytfjkclhkobnakaa.Pure
