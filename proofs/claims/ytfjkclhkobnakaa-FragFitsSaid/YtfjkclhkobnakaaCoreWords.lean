/- What names are, and which arrays can be written: the package's answer, and the reference's. -/
import Derived.Test.YtfjkclhkobnakaaArr3
import Derived.Test.YtfjkclhkobnakaaArr4
import Derived.Test.YtfjkclhkobnakaaPx11
import Derived.Test.YtfjkclhkobnakaaPx12
import Derived.Test.YtfjkclhkobnakaaPx4
import Derived.Test.YtfjkclhkobnakaaPx5
namespace Go.Proofs.Ytfjkclhkobnakaa.Pure
open Go.RowKit Go.Proofs.Ytfjkclhkobnakaa.P Go.Proofs.Ytfjkclhkobnakaa.Nest Go.Proofs.YtfjkclhkobnakaaW.PrintWords Go.Proofs.YtfjkclhkobnakaaW.PrintLast Go.Proofs.YtfjkclhkobnakaaW.PrintMore
set_option linter.unusedVariables false
set_option linter.unusedSimpArgs false
def goodB (i b : Int) : Bool := (decide (97 ≤ b) && decide (b ≤ 119)) || (decide (i ≠ 0) && (decide (48 ≤ b) && decide (b ≤ 57)))
def allG (a : ByteArray) : Nat → Int → Bool
  | 0, _ => true
  | m + 1, i => goodB i (bt a i) && allG a m (i + 1)
def nameV (a : ByteArray) : Bool := allG a a.size 0 && (decide (0 < (a.size : Int)) && decide ((a.size : Int) ≤ 8))
theorem name_l0 (a : ByteArray) (hm : a.size ≤ maxLen) : ∀ (m : Nat) (i : Int), 0 ≤ i → i + m = a.size → ∃ K, ∀ k, K ≤ k → core_Name.l0 k a (a.size : Int) i = some (allG a m i && (decide (0 < (a.size : Int)) && decide ((a.size : Int) ≤ 8)))
  | 0, i, h0, h1 => by
    refine ⟨1, fun k hk => ?_⟩
    obtain ⟨k, rfl, _⟩ := succ_of hk
    simp only [core_Name.l0]
    rw [if_neg (by omega)]
    by_cases h : (a.size : Int) > 0
    · rw [if_pos h, allG, Bool.true_and, decide_eq_true (show 0 < (a.size : Int) from h), Bool.true_and]
    · rw [if_neg h, allG, Bool.true_and, decide_eq_false (show ¬ 0 < (a.size : Int) from h), Bool.false_and]
  | m + 1, i, h0, h1 => by
    obtain ⟨K, hK⟩ := name_l0 a hm m (i + 1) (by omega) (by omega)
    refine ⟨K + 1, fun k hk => ?_⟩
    obtain ⟨k, rfl, hk2⟩ := succ_of hk
    have hn := hK k hk2
    have hw : wrap64 (i + 1) = i + 1 := wrap_in (by omega) (by unfold maxLen at hm; omega)
    simp only [core_Name.l0]
    rw [if_pos (by omega), if_pos h0, if_pos (by omega), hw, hn]
    rw [allG]
    generalize bt a i = b
    unfold goodB
    by_cases c1 : b ≥ 97
    · rw [if_pos c1]
      by_cases c2 : b ≤ 119
      · rw [if_pos c2]; simp [c2, show 97 ≤ b from c1]
      · rw [if_neg c2]
        by_cases c3 : i = 0
        · rw [if_pos c3]; simp [c2, c3]
        · rw [if_neg c3, if_neg (by omega), if_pos (by omega)]; simp [c2, show ¬ b ≤ 57 by omega]
    · rw [if_neg c1]
      by_cases c3 : i = 0
      · rw [if_pos c3]; simp [show ¬ 97 ≤ b by omega, c3]
      · rw [if_neg c3]
        by_cases c4 : b < 48
        · rw [if_pos c4]; simp [show ¬ 97 ≤ b by omega, show ¬ 48 ≤ b by omega]
        · rw [if_neg c4]
          by_cases c5 : b > 57
          · rw [if_pos c5]; simp [show ¬ 97 ≤ b by omega, show ¬ b ≤ 57 by omega]
          · rw [if_neg c5]; simp [c3, show 48 ≤ b by omega, show b ≤ 57 by omega]
theorem name_eq (a : ByteArray) (hm : a.size ≤ maxLen) : ∃ K, ∀ k, K ≤ k → core_Name.f k a = some (nameV a) := by
  obtain ⟨K, hK⟩ := name_l0 a hm a.size 0 (by omega) (by omega)
  exact ⟨K, fun k hk => by unfold core_Name.f; exact hK k hk⟩
theorem rname_l0 (a : ByteArray) (hm : a.size ≤ maxLen) : ∀ (m : Nat) (i : Int), 0 ≤ i → i + m = a.size → ∃ K, ∀ k, K ≤ k → triglyphref10_Name.l0 k a i = some (allG a m i)
  | 0, i, h0, h1 => by
    refine ⟨1, fun k hk => ?_⟩
    obtain ⟨k, rfl, _⟩ := succ_of hk
    simp only [triglyphref10_Name.l0]
    rw [if_neg (by omega)]
    rfl
  | m + 1, i, h0, h1 => by
    obtain ⟨K, hK⟩ := rname_l0 a hm m (i + 1) (by omega) (by omega)
    refine ⟨K + 1, fun k hk => ?_⟩
    obtain ⟨k, rfl, hk2⟩ := succ_of hk
    have hn := hK k hk2
    have hw : wrap64 (i + 1) = i + 1 := wrap_in (by omega) (by unfold maxLen at hm; omega)
    simp only [triglyphref10_Name.l0]
    rw [if_pos (by omega), if_pos h0, hw, hn]
    rw [allG]
    generalize bt a i = b
    unfold goodB
    by_cases c1 : b ≥ 48
    · rw [if_pos c1]
      by_cases c2 : b < 97
      · rw [if_pos c2]
        by_cases c3 : i = 0
        · rw [if_pos c3]; simp [show ¬ 97 ≤ b by omega, c3]
        · rw [if_neg c3]
          by_cases c4 : b ≤ 57
          · rw [if_pos c4]; simp [c3, c4, show 48 ≤ b from c1]
          · rw [if_neg c4]; simp [show ¬ 97 ≤ b by omega, c4]
      · rw [if_neg c2]
        by_cases c5 : b > 119
        · rw [if_pos c5]
          by_cases c3 : i = 0
          · rw [if_pos c3]; simp [show ¬ b ≤ 119 by omega, c3]
          · rw [if_neg c3, if_neg (by omega)]; simp [show ¬ b ≤ 119 by omega, show ¬ b ≤ 57 by omega]
        · rw [if_neg c5]; simp [show 97 ≤ b by omega, show b ≤ 119 by omega]
    · rw [if_neg c1, if_pos (by omega)]
      by_cases c3 : i = 0
      · rw [if_pos c3]; simp [show ¬ 97 ≤ b by omega, show ¬ 48 ≤ b by omega]
      · rw [if_neg c3]; simp [show ¬ 97 ≤ b by omega, show ¬ 48 ≤ b by omega]
theorem rname_eq (a : ByteArray) (hm : a.size ≤ maxLen) : ∃ K, ∀ k, K ≤ k → triglyphref10_Name.f k a = some (nameV a) := by
  obtain ⟨K, hK⟩ := rname_l0 a hm a.size 0 (by omega) (by omega)
  refine ⟨K + 1, fun k hk => ?_⟩
  obtain ⟨k, rfl, hk2⟩ := succ_of hk
  have h := hK k hk2
  unfold triglyphref10_Name.f nameV
  simp only [triglyphref10_Name.j0]
  by_cases h1 : (a.size : Int) < 1
  · rw [if_pos h1, if_pos True.intro, decide_eq_false (show ¬ 0 < (a.size : Int) by omega), Bool.false_and, Bool.and_false]
  · rw [if_neg h1]
    by_cases h2 : (a.size : Int) > 8
    · rw [if_pos (decide_eq_true h2)]; simp [show ¬ (a.size : Int) ≤ 8 by omega]
    · rw [if_neg (by simpa using h2), h, decide_eq_true (show 0 < (a.size : Int) by omega), decide_eq_true (show (a.size : Int) ≤ 8 by omega), Bool.true_and, Bool.and_true]
theorem lit_eq (a : S25) (h : okA a) : ∃ K, ∀ k, K ≤ k → core_Literal.f k a.f0 a.f1 = some (core_Literal.litV (chA a 0) a.f0 a.f1) := by
  obtain ⟨K, hK⟩ := check_eq a h
  refine ⟨K, fun k hk => ?_⟩
  unfold core_Literal.f
  rw [hK k hk]
  rfl
theorem rlit_l0 (s : List Int) (c : List S57) (hc : c.length ≤ 9000000000000000000) : ∀ (rest done : List S57), c = done ++ rest → ∃ K, ∀ k, K ≤ k → triglyphref10_Literal.l0 k (done.length : Int) s c = some (rest.all (fun x => !core_Literal.litB (c.getD 0 z57).f0 x))
  | [], done, e => by
    refine ⟨1, fun k hk => ?_⟩
    obtain ⟨k, rfl, _⟩ := succ_of hk
    simp only [triglyphref10_Literal.l0]
    rw [if_neg (by rw [e]; simp)]
    rfl
  | x :: rest, done, e => by
    obtain ⟨K, hK⟩ := rlit_l0 s c hc rest (done ++ [x]) (by simp [e])
    refine ⟨K + 2, fun k hk => ?_⟩
    obtain ⟨k1, rfl, hk1⟩ := succ_of hk
    obtain ⟨k, rfl, hk2⟩ := succ_of hk1
    have hn := hK k hk2
    have hlen : (c.length : Int) = done.length + 1 + rest.length := by rw [e]; simp; omega
    have hw := wrap_next done x (by have : done.length ≤ c.length := by rw [e]; simp
                                    omega)
    have hx : rd_T57 c (done.length : Int) = x := by rw [e]; exact rdC_mid _ _ _
    have h0 : rd_T57 c 0 = c.getD 0 z57 := by simp [rd_T57]
    simp only [triglyphref10_Literal.l0]
    rw [if_pos (by omega), if_pos (by omega), if_pos (by omega), hx, h0]
    simp only [triglyphref10_Literal.j3]
    rw [hw, hn, List.all_cons]
    generalize (c.getD 0 z57).f0 = k0
    unfold core_Literal.litB
    obtain ⟨x0, x1, x2⟩ := x
    dsimp only
    by_cases c1 : x0 = k0
    · rw [if_pos c1]
      by_cases c2 : x0 = 2
      · rw [if_pos (by simpa using c2)]; simp [c2]
      · rw [if_neg (by simpa using c2)]
        by_cases c3 : x0 = 1
        · rw [if_pos c3]
          by_cases c4 : x1 < 32
          · rw [if_pos c4]; simp [c3, c4]
          · rw [if_neg c4]
            by_cases c5 : x1 = 127
            · rw [if_pos c5]; simp [c3, c5]
            · rw [if_neg c5, ← c1]; simp [c2, c3, c4, c5]
        · rw [if_neg c3, ← c1]; simp [c2, c3]
    · rw [if_neg c1, if_pos True.intro]; simp [c1]
theorem rlit_eq (a : S25) (h : okA a) : ∃ K, ∀ k, K ≤ k → triglyphref10_Literal.f k a.f0 a.f1 = some (core_Literal.litV (chA a 0) a.f0 a.f1) := by
  obtain ⟨K1, h1⟩ := rcheck_eq a h
  obtain ⟨s, c⟩ := a
  have hcl : c.length ≤ 9000000000000000000 := by
    rw [okA] at h
    have := h.2.1
    unfold reachBytes at this
    omega
  obtain ⟨K2, h2⟩ := rlit_l0 s c hcl c [] rfl
  refine ⟨K1 + K2 + 3, fun k hk => ?_⟩
  have e1 := h1 k (by omega)
  dsimp only at e1 ⊢
  unfold triglyphref10_Literal.f
  rw [e1]
  obtain ⟨k1, rfl, hk1⟩ := succ_of (show (K1 + K2 + 2) + 1 ≤ k by omega)
  obtain ⟨k2, rfl, hk2⟩ := succ_of hk1
  have e2 := h2 k2 (by omega)
  simp only [Option.bind_some, triglyphref10_Literal.j0, triglyphref10_Literal.j1]
  unfold core_Literal.litV
  by_cases c0 : chA ⟨s, c⟩ 0 = 0
  · rw [if_pos c0]
    by_cases c1 : (s.length : Int) > 1
    · rw [if_pos (decide_eq_true c1), if_neg (by omega)]
    · rw [if_neg (by simpa using c1)]
      have hsz : sizeS s = ((c.length : Int), 0) := by
        rw [chA] at c0
        by_cases d1 : (sizeS s).2 = 0
        · rw [if_pos d1] at c0
          by_cases d2 : (sizeS s).1 = (c.length : Int)
          · exact Prod.ext d2 d1
          · rw [if_neg d2] at c0; cases c0
        · rw [if_neg d1] at c0; exact absurd c0 d1
      by_cases c2 : (s.length : Int) = 1
      · rw [if_pos c2, if_pos (by omega)]
        obtain ⟨d, rfl⟩ : ∃ d, s = [d] := by
          match s, c2 with
          | [d], _ => exact ⟨d, rfl⟩
        have hd : d = 1 ↔ (c.length : Int) = 1 := by
          unfold sizeS at hsz
          rw [if_neg (by simp)] at hsz
          by_cases d1 : d < 0
          · rw [if_pos (by simpa using d1)] at hsz
            have := congrArg Prod.snd hsz
            simp at this
          · rw [if_neg (by simpa using d1)] at hsz
            by_cases d2 : d = 0
            · rw [if_pos (by simpa using d2)] at hsz
              have := congrArg Prod.fst hsz
              simp only at this
              omega
            · rw [if_neg (by simpa using d2), sizeP] at hsz
              by_cases d3 : 1 * d > 16384
              · rw [if_pos d3] at hsz
                have := congrArg Prod.snd hsz
                simp at this
              · rw [if_neg d3, sizeP] at hsz
                have := congrArg Prod.fst hsz
                simp only at this
                omega
        have hr : rd [d] 0 = d := rfl
        rw [hr]
        by_cases c3 : d = 1
        · rw [if_pos (by simpa using c3), if_neg (fun q => q.2.2 ⟨c2, hd.1 c3⟩)]
        · rw [if_neg (by simpa using c3), if_pos ⟨c0, c1, fun q => c3 (hd.2 q.2)⟩]
          exact e2
      · rw [if_neg c2, if_neg (by decide), if_pos ⟨c0, c1, fun q => c2 q.1⟩]
        exact e2
  · rw [if_neg c0, if_pos True.intro, if_neg (fun q => c0 q.1)]
end Go.Proofs.Ytfjkclhkobnakaa.Pure
