/- What a value looks like: texts put together, numbers, signs; what the package and the reference make of them. Plain facts. -/
import Derived.Test.YteamkcgkhcalhaaArr1
import Derived.Lib.Join
import Derived.Lib.Repeat
import Derived.Lib.EndianBits
import Derived.Laws.BitsLemmas
import Derived.Test.YteamkcgkhcalhaaPx1
import Derived.Test.YteamkcgkhcalhaaPx2
import Derived.Test.YteamkcgkhcalhaaPx3
namespace Go.Proofs.Yteamkcgkhcalhaa.Pure
open Go.RowKit Go.Proofs.Yteamkcgkhcalhaa.P Go.Proofs.Yteamkcgkhcalhaa.Nest Go.Proofs.YteamkcgkhcalhaaW.PrintWords Go.Proofs.YteamkcgkhcalhaaW.PrintLast Go.Proofs.YteamkcgkhcalhaaW.PrintMore
set_option linter.unusedVariables false
set_option linter.unusedSimpArgs false
abbrev nilB : ByteArray := ⟨#[]⟩
theorem ba_ext {a b : ByteArray} (h : a.data.toList = b.data.toList) : a = b := by
  cases a; cases b
  simp only [ByteArray.mk.injEq]
  exact Array.toList_inj.1 h
theorem ba_app (a b : ByteArray) : (a ++ b).data.toList = a.data.toList ++ b.data.toList := by simp [ByteArray.data_append]
theorem ba_assoc (a b c : ByteArray) : a ++ b ++ c = a ++ (b ++ c) := ba_ext (by simp [ba_app])
theorem nil_ba (a : ByteArray) : nilB ++ a = a := ba_ext (by simp [ba_app])
theorem ba_nil (a : ByteArray) : a ++ nilB = a := ba_ext (by simp [ba_app])
theorem ba_size (a b : ByteArray) : (a ++ b).size = a.size + b.size := ByteArray.size_append
def numS (n : Int) (m : ByteArray) : ByteArray := if n < 0 then m ++ spell_digits.d 20 (-n) else spell_digits.d 20 n
theorem u64_id {n : Int} (h0 : 0 ≤ n) (h1 : n ≤ 18446744073709551615) : IntKind.u64.wrap n = n := by
  unfold IntKind.wrap
  simp only [IntKind.bits, IntKind.signed]
  simp
  omega
theorem number_eq (n : Int) (m : ByteArray) (h0 : -9223372036854775808 ≤ n) (h1 : n ≤ 9223372036854775807) (hm : m.size ≤ 140737488355328) : spell_Number.f n m = some (numS n m) := by
  unfold spell_Number.f numS
  by_cases hn : n < 0
  · rw [if_pos hn, if_pos hn]
    have e : IntKind.u64.wrap (-(IntKind.u64.wrap n)) = -n := by
      unfold IntKind.wrap
      simp only [IntKind.bits, IntKind.signed]
      simp
      omega
    rw [e]
    unfold spell_digits.f
    rw [if_pos (by omega)]
    simp only [Option.bind_some]
    rw [if_pos (by have := spell_digits.le 20 (-n); omega)]
  · rw [if_neg hn, if_neg hn, u64_id (by omega) (by omega)]
    unfold spell_digits.f
    rw [if_pos (by omega)]
    rfl
theorem enc_digit {m : Int} (h0 : 0 ≤ m) (h1 : m < 10) : strOfNums [(wrap64 (48 + m)) % 256] = Utf8.encode (48 + m) := by
  rw [spell_digits.enc m h0 h1, wrap_in (by omega) (by omega)]
  unfold strOfNums
  have : (48 + m) % 256 = 48 + m := by omega
  rw [this]
  rfl
theorem tm_abs (x : Int) : (if x.tmod 10 < 0 then -(x.tmod 10) else x.tmod 10) = (x.natAbs : Int) % 10 ∧ (x.tdiv 10).natAbs = x.natAbs / 10 ∧ -10 < x.tmod 10 ∧ x.tmod 10 < 10 := by
  rcases Int.natAbs_eq x with h | h
  · rw [h, Int.tmod_eq_emod_of_nonneg (by omega), Int.tdiv_eq_ediv_of_nonneg (by omega)]
    refine ⟨?_, ?_, by omega, by omega⟩
    · rw [if_neg (by omega)]; simp
    · simp; omega
  · rw [h, Int.neg_tmod, Int.neg_tdiv, Int.tmod_eq_emod_of_nonneg (by omega), Int.tdiv_eq_ediv_of_nonneg (by omega)]
    refine ⟨?_, ?_, by omega, by omega⟩
    · split
      · simp
      · simp; omega
    · simp; omega
theorem rnum_end (n : Int) (m s : ByteArray) (hm : m.size ≤ 140737488355328) (hs : s.size ≤ 100) (h : s ≠ nilB) : ∀ k, 2 ≤ k → triglyphref16_Number.l0 k n m s 0 = some (if n < 0 then m ++ s else s) := by
  intro k hk
  obtain ⟨k, rfl, hk2⟩ := succ_of (K := 1) hk
  obtain ⟨k, rfl, _⟩ := succ_of (K := 0) hk2
  have e : (s.toList == ([] : List UInt8)) = false := by
    rw [ByteArray.toList_eq]
    cases hq : s.data.toList with
    | nil => exact absurd (ba_ext (b := nilB) hq) h
    | cons a l => rfl
  simp only [triglyphref16_Number.l0, triglyphref16_Number.j1]
  rw [if_pos True.intro, e, if_neg (by decide)]
  split
  · rw [if_pos (by omega)]
  · rfl
theorem rnum_loop (n : Int) (m : ByteArray) (hm : m.size ≤ 140737488355328) : ∀ (j : Nat) (x : Int) (s : ByteArray), 0 < j → x.natAbs < 10 ^ j → -9223372036854775808 ≤ x → x ≤ 9223372036854775807 → s.size + j ≤ 100 → (x ≠ 0 ∨ s = nilB) →
    ∃ K, ∀ k, K ≤ k → triglyphref16_Number.l0 k n m s x = some (if n < 0 then m ++ (spell_digits.d j (x.natAbs : Int) ++ s) else spell_digits.d j (x.natAbs : Int) ++ s) := by
  intro j
  induction j with
  | zero => intro x s h; omega
  | succ j ih =>
    intro x s _ h1 h2 h3 hs hx
    obtain ⟨t1, t2, t3, t4⟩ := tm_abs x
    have hdig : ∀ k, triglyphref16_Number.l0 (k + 2) n m s x = triglyphref16_Number.l0 k n m (Utf8.encode (48 + (x.natAbs : Int) % 10) ++ s) (Int.tdiv x 10) := by
      intro k
      have hq : (x.tdiv 10).natAbs ≤ 922337203685477580 := by omega
      have e1 : wrap64 (Int.tdiv x 10) = Int.tdiv x 10 := wrap_in (by omega) (by omega)
      have hb : triglyphref16_Number.l0 (k + 2) n m s x = triglyphref16_Number.j1 (k + 1) n m s x true := by
        simp only [triglyphref16_Number.l0]
        by_cases h0 : x = 0
        · rw [if_pos h0]
          rcases hx with hx | hx
          · exact absurd h0 hx
          · subst hx
            rw [ByteArray.toList_eq]
            rfl
        · rw [if_neg h0]
      rw [hb]
      simp only [triglyphref16_Number.j1]
      rw [if_pos True.intro]
      split at t1
      · rename_i hneg
        rw [if_pos hneg, wrap_in (show -9223372036854775808 ≤ -(x.tmod 10) by omega) (by omega), t1]
        simp only [Option.bind_some]
        rw [enc_digit (by omega) (by omega), if_pos (by rw [spell_digits.one]; omega), e1]
      · rename_i hneg
        rw [if_neg hneg, t1]
        simp only [Option.bind_some]
        rw [enc_digit (by omega) (by omega), if_pos (by rw [spell_digits.one]; omega), e1]
    have hs1 : (Utf8.encode (48 + (x.natAbs : Int) % 10) ++ s).size + j ≤ 100 := by rw [ba_size, spell_digits.one]; omega
    have hne : Utf8.encode (48 + (x.natAbs : Int) % 10) ++ s ≠ nilB := by
      intro h
      have := congrArg ByteArray.size h
      rw [ba_size, spell_digits.one] at this
      have h0 : nilB.size = 0 := rfl
      omega
    rw [spell_digits.d]
    by_cases hc : (x.natAbs : Int) < 10
    · rw [if_pos hc]
      have h0 : Int.tdiv x 10 = 0 := by omega
      refine ⟨4, fun k hk => ?_⟩
      obtain ⟨k, rfl, hk2⟩ := succ_of (K := 3) hk
      obtain ⟨k, rfl, hk3⟩ := succ_of (K := 2) hk2
      rw [hdig, h0, rnum_end n m _ hm (by omega) hne k hk3]
      simp only [nil_ba]
    · rw [if_neg hc]
      have hj : 0 < j := by
        rcases Nat.eq_zero_or_pos j with hz | hz
        · subst hz; omega
        · exact hz
      obtain ⟨K, hK⟩ := ih (Int.tdiv x 10) (Utf8.encode (48 + (x.natAbs : Int) % 10) ++ s) hj (by rw [Nat.pow_succ] at h1; omega) (by omega) (by omega) hs1 (.inl (by omega))
      refine ⟨K + 2, fun k hk => ?_⟩
      obtain ⟨k, rfl, hk2⟩ := succ_of (K := K + 1) hk
      obtain ⟨k, rfl, hk3⟩ := succ_of (K := K) hk2
      rw [hdig, hK k hk3, t2]
      simp only [ba_assoc, Int.natCast_ediv]
      rfl
theorem rnumber_eq (n : Int) (m : ByteArray) (h0 : -9223372036854775808 ≤ n) (h1 : n ≤ 9223372036854775807) (hm : m.size ≤ 140737488355328) : ∃ K, ∀ k, K ≤ k → triglyphref16_Number.f k n m = some (numS n m) := by
  have hp : (10 : Nat) ^ 20 = 100000000000000000000 := by decide
  obtain ⟨K, hK⟩ := rnum_loop n m hm 20 n nilB (by decide) (by omega) h0 h1 (by decide) (.inr rfl)
  refine ⟨K, fun k hk => ?_⟩
  unfold triglyphref16_Number.f numS
  rw [hK k hk]
  simp only [ba_nil]
  by_cases hn : n < 0
  · rw [if_pos hn, if_pos hn, show ((n.natAbs : Int)) = -n by omega]
  · rw [if_neg hn, if_neg hn, show ((n.natAbs : Int)) = n by omega]
end Go.Proofs.Yteamkcgkhcalhaa.Pure
