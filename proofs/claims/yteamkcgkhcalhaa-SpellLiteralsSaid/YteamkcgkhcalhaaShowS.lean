/- What a value looks like: texts put together, numbers, signs; what the package and the reference make of them. Plain facts. -/
import Derived.Test.YteamkcgkhcalhaaArr1
import Derived.Lib.Join
import Derived.Lib.Repeat
import Derived.Lib.EndianBits
import Derived.Laws.BitsLemmas
import Derived.Test.YteamkcgkhcalhaaPx1
import Derived.Test.YteamkcgkhcalhaaPx2
import Derived.Test.YteamkcgkhcalhaaPx3
import Derived.Test.YteamkcgkhcalhaaPx6
import Derived.Test.YteamkcgkhcalhaaPx7
namespace Go.Proofs.Yteamkcgkhcalhaa.Pure
open Go.RowKit Go.Proofs.Yteamkcgkhcalhaa.P Go.Proofs.Yteamkcgkhcalhaa.Nest Go.Proofs.YteamkcgkhcalhaaW.PrintWords Go.Proofs.YteamkcgkhcalhaaW.PrintLast Go.Proofs.YteamkcgkhcalhaaW.PrintMore
set_option linter.unusedVariables false
set_option linter.unusedSimpArgs false
abbrev nilB : ByteArray := ⟨#[]⟩
theorem ba_ext {a b : ByteArray} (h : a.data.toList = b.data.toList) : a = b := by
  cases a; cases b
  simp only [ByteArray.mk.injEq]
  exact Array.toList_inj.1 h
theorem ba_app (a b : ByteArray) : (a ++ b).data.toList = a.data.toList ++ b.data.toList := by simp [ByteArray.data_append]
theorem ba_assoc (a b c : ByteArray) : a ++ b ++ c = a ++ (b ++ c) := ba_ext (by simp [ba_app])
theorem nil_ba (a : ByteArray) : nilB ++ a = a := ba_ext (by simp [ba_app])
theorem ba_nil (a : ByteArray) : a ++ nilB = a := ba_ext (by simp [ba_app])
theorem ba_size (a b : ByteArray) : (a ++ b).size = a.size + b.size := ByteArray.size_append
def jt (sep : ByteArray) : List ByteArray → ByteArray
  | [] => nilB
  | y :: ys => (sep ++ y) ++ jt sep ys
def jn (sep : ByteArray) : List ByteArray → ByteArray
  | [] => nilB
  | x :: xs => x ++ jt sep xs
theorem jt_list (sep : ByteArray) : ∀ l : List ByteArray, (jt sep l).data.toList = Lib.joinTail sep.data.toList (l.map (·.data.toList))
  | [] => rfl
  | y :: ys => by
    rw [jt, ba_app, ba_app, jt_list sep ys]
    simp [Lib.joinTail]
theorem join_jn (sep : ByteArray) (l : List ByteArray) : strings_Join.v l sep = jn sep l := by
  apply ba_ext
  unfold strings_Join.v
  simp only
  cases l with
  | nil => rfl
  | cons x xs => rw [List.map_cons, Lib.join_cons, jn, ba_app, jt_list]
def sumB : List ByteArray → Nat
  | [] => 0
  | x :: xs => x.size + sumB xs
theorem jt_size (sep : ByteArray) : ∀ l : List ByteArray, (jt sep l).size = sumB l + l.length * sep.size
  | [] => by show nilB.size = 0 + 0 * sep.size; rw [Nat.zero_mul]; rfl
  | y :: ys => by
    rw [jt, ba_size, ba_size, jt_size sep ys, sumB, List.length_cons, Nat.add_mul]
    omega
theorem jn_size (sep : ByteArray) : ∀ l : List ByteArray, (jn sep l).size ≤ sumB l + l.length * sep.size
  | [] => Nat.zero_le _
  | x :: xs => by
    rw [jn, ba_size, jt_size, sumB, List.length_cons, Nat.add_mul]
    omega
theorem jn_snoc (sep : ByteArray) (x : ByteArray) (xs ys : List ByteArray) : jn sep (x :: xs ++ ys) = jn sep (x :: xs) ++ jt sep ys := by
  have h : ∀ a b : List ByteArray, jt sep (a ++ b) = jt sep a ++ jt sep b := by
    intro a b
    induction a with
    | nil => rw [List.nil_append, jt, nil_ba]
    | cons y a ih => rw [List.cons_append, jt, jt, ih]; simp only [ba_assoc]
  rw [List.cons_append, jn, jn, h, ba_assoc]
def numS (n : Int) (m : ByteArray) : ByteArray := if n < 0 then m ++ spell_digits.d 20 (-n) else spell_digits.d 20 n
theorem num_size (n : Int) (m : ByteArray) (h : m.size ≤ 10) : (numS n m).size ≤ 30 := by
  unfold numS
  split
  · rw [ba_size]; have := spell_digits.le 20 (-n); omega
  · have := spell_digits.le 20 n; omega
theorem u64_id {n : Int} (h0 : 0 ≤ n) (h1 : n ≤ 18446744073709551615) : IntKind.u64.wrap n = n := by
  unfold IntKind.wrap
  simp only [IntKind.bits, IntKind.signed]
  simp
  omega
theorem number_eq (n : Int) (m : ByteArray) (h0 : -9223372036854775808 ≤ n) (h1 : n ≤ 9223372036854775807) (hm : m.size ≤ 140737488355328) : spell_Number.f n m = some (numS n m) := by
  unfold spell_Number.f numS
  by_cases hn : n < 0
  · rw [if_pos hn, if_pos hn]
    have e : IntKind.u64.wrap (-(IntKind.u64.wrap n)) = -n := by
      unfold IntKind.wrap
      simp only [IntKind.bits, IntKind.signed]
      simp
      omega
    rw [e]
    unfold spell_digits.f
    rw [if_pos (by omega)]
    simp only [Option.bind_some]
    rw [if_pos (by have := spell_digits.le 20 (-n); omega)]
  · rw [if_neg hn, if_neg hn, u64_id (by omega) (by omega)]
    unfold spell_digits.f
    rw [if_pos (by omega)]
    rfl
theorem enc_digit {m : Int} (h0 : 0 ≤ m) (h1 : m < 10) : strOfNums [(wrap64 (48 + m)) % 256] = Utf8.encode (48 + m) := by
  rw [spell_digits.enc m h0 h1, wrap_in (by omega) (by omega)]
  unfold strOfNums
  have : (48 + m) % 256 = 48 + m := by omega
  rw [this]
  rfl
theorem tm_abs (x : Int) : (if x.tmod 10 < 0 then -(x.tmod 10) else x.tmod 10) = (x.natAbs : Int) % 10 ∧ (x.tdiv 10).natAbs = x.natAbs / 10 ∧ -10 < x.tmod 10 ∧ x.tmod 10 < 10 := by
  rcases Int.natAbs_eq x with h | h
  · rw [h, Int.tmod_eq_emod_of_nonneg (by omega), Int.tdiv_eq_ediv_of_nonneg (by omega)]
    refine ⟨?_, ?_, by omega, by omega⟩
    · rw [if_neg (by omega)]; simp
    · simp; omega
  · rw [h, Int.neg_tmod, Int.neg_tdiv, Int.tmod_eq_emod_of_nonneg (by omega), Int.tdiv_eq_ediv_of_nonneg (by omega)]
    refine ⟨?_, ?_, by omega, by omega⟩
    · split
      · simp
      · simp; omega
    · simp; omega
theorem rnum_end (n : Int) (m s : ByteArray) (hm : m.size ≤ 140737488355328) (hs : s.size ≤ 100) (h : s ≠ nilB) : ∀ k, 2 ≤ k → triglyphref16_Number.l0 k n m s 0 = some (if n < 0 then m ++ s else s) := by
  intro k hk
  obtain ⟨k, rfl, hk2⟩ := succ_of (K := 1) hk
  obtain ⟨k, rfl, _⟩ := succ_of (K := 0) hk2
  have e : (s.toList == ([] : List UInt8)) = false := by
    rw [ByteArray.toList_eq]
    cases hq : s.data.toList with
    | nil => exact absurd (ba_ext (b := nilB) hq) h
    | cons a l => rfl
  simp only [triglyphref16_Number.l0, triglyphref16_Number.j1]
  rw [if_pos True.intro, e, if_neg (by decide)]
  split
  · rw [if_pos (by omega)]
  · rfl
theorem rnum_loop (n : Int) (m : ByteArray) (hm : m.size ≤ 140737488355328) : ∀ (j : Nat) (x : Int) (s : ByteArray), 0 < j → x.natAbs < 10 ^ j → -9223372036854775808 ≤ x → x ≤ 9223372036854775807 → s.size + j ≤ 100 → (x ≠ 0 ∨ s = nilB) →
    ∃ K, ∀ k, K ≤ k → triglyphref16_Number.l0 k n m s x = some (if n < 0 then m ++ (spell_digits.d j (x.natAbs : Int) ++ s) else spell_digits.d j (x.natAbs : Int) ++ s) := by
  intro j
  induction j with
  | zero => intro x s h; omega
  | succ j ih =>
    intro x s _ h1 h2 h3 hs hx
    obtain ⟨t1, t2, t3, t4⟩ := tm_abs x
    have hdig : ∀ k, triglyphref16_Number.l0 (k + 2) n m s x = triglyphref16_Number.l0 k n m (Utf8.encode (48 + (x.natAbs : Int) % 10) ++ s) (Int.tdiv x 10) := by
      intro k
      have hq : (x.tdiv 10).natAbs ≤ 922337203685477580 := by omega
      have e1 : wrap64 (Int.tdiv x 10) = Int.tdiv x 10 := wrap_in (by omega) (by omega)
      have hb : triglyphref16_Number.l0 (k + 2) n m s x = triglyphref16_Number.j1 (k + 1) n m s x true := by
        simp only [triglyphref16_Number.l0]
        by_cases h0 : x = 0
        · rw [if_pos h0]
          rcases hx with hx | hx
          · exact absurd h0 hx
          · subst hx
            rw [ByteArray.toList_eq]
            rfl
        · rw [if_neg h0]
      rw [hb]
      simp only [triglyphref16_Number.j1]
      rw [if_pos True.intro]
      split at t1
      · rename_i hneg
        rw [if_pos hneg, wrap_in (show -9223372036854775808 ≤ -(x.tmod 10) by omega) (by omega), t1]
        simp only [Option.bind_some]
        rw [enc_digit (by omega) (by omega), if_pos (by rw [spell_digits.one]; omega), e1]
      · rename_i hneg
        rw [if_neg hneg, t1]
        simp only [Option.bind_some]
        rw [enc_digit (by omega) (by omega), if_pos (by rw [spell_digits.one]; omega), e1]
    have hs1 : (Utf8.encode (48 + (x.natAbs : Int) % 10) ++ s).size + j ≤ 100 := by rw [ba_size, spell_digits.one]; omega
    have hne : Utf8.encode (48 + (x.natAbs : Int) % 10) ++ s ≠ nilB := by
      intro h
      have := congrArg ByteArray.size h
      rw [ba_size, spell_digits.one] at this
      have h0 : nilB.size = 0 := rfl
      omega
    rw [spell_digits.d]
    by_cases hc : (x.natAbs : Int) < 10
    · rw [if_pos hc]
      have h0 : Int.tdiv x 10 = 0 := by omega
      refine ⟨4, fun k hk => ?_⟩
      obtain ⟨k, rfl, hk2⟩ := succ_of (K := 3) hk
      obtain ⟨k, rfl, hk3⟩ := succ_of (K := 2) hk2
      rw [hdig, h0, rnum_end n m _ hm (by omega) hne k hk3]
      simp only [nil_ba]
    · rw [if_neg hc]
      have hj : 0 < j := by
        rcases Nat.eq_zero_or_pos j with hz | hz
        · subst hz; omega
        · exact hz
      obtain ⟨K, hK⟩ := ih (Int.tdiv x 10) (Utf8.encode (48 + (x.natAbs : Int) % 10) ++ s) hj (by rw [Nat.pow_succ] at h1; omega) (by omega) (by omega) hs1 (.inl (by omega))
      refine ⟨K + 2, fun k hk => ?_⟩
      obtain ⟨k, rfl, hk2⟩ := succ_of (K := K + 1) hk
      obtain ⟨k, rfl, hk3⟩ := succ_of (K := K) hk2
      rw [hdig, hK k hk3, t2]
      simp only [ba_assoc, Int.natCast_ediv]
      rfl
theorem rnumber_eq (n : Int) (m : ByteArray) (h0 : -9223372036854775808 ≤ n) (h1 : n ≤ 9223372036854775807) (hm : m.size ≤ 140737488355328) : ∃ K, ∀ k, K ≤ k → triglyphref16_Number.f k n m = some (numS n m) := by
  have hp : (10 : Nat) ^ 20 = 100000000000000000000 := by decide
  obtain ⟨K, hK⟩ := rnum_loop n m hm 20 n nilB (by decide) (by omega) h0 h1 (by decide) (.inr rfl)
  refine ⟨K, fun k hk => ?_⟩
  unfold triglyphref16_Number.f numS
  rw [hK k hk]
  simp only [ba_nil]
  by_cases hn : n < 0
  · rw [if_pos hn, if_pos hn, show ((n.natAbs : Int)) = -n by omega]
  · rw [if_neg hn, if_neg hn, show ((n.natAbs : Int)) = n by omega]
def putL (a : Int) : List Int := if a < 128 then [a] else if a < 2048 then [192 + a / 64, 128 + a % 64] else if a < 65536 then [224 + a / 4096, 128 + a / 64 % 64, 128 + a % 64] else [240 + a / 262144, 128 + a / 4096 % 64, 128 + a / 64 % 64, 128 + a % 64]
theorem putL_len (a : Int) : (putL a).length ≤ 4 := by unfold putL; (repeat' split) <;> simp
theorem wraps_i64 (n : Int) (h0 : 0 ≤ n) (h1 : n < 2 ^ 63) : IntKind.i64.wrap n = n := by rw [IntKind.wrap_i64]; omega
theorem and63 (a : Int) (h0 : 0 ≤ a) (h1 : a ≤ 1114111) : Go.bits .and .i64 a 63 = a % 64 := by
  have h := bits_mask .i64 63 (by decide) wraps_i64 6 (by decide) a h0 (by omega)
  rw [show ((2 : Int) ^ 6 - 1) = 63 from by decide, show ((2 : Int) ^ 6) = 64 from by decide] at h
  exact h
theorem or_hi (i : Nat) (x y : Int) (hi : i ≤ 6) (h0 : 0 ≤ x) (h1 : x < 2 ^ i) (h2 : 0 ≤ y) (h3 : y ≤ 255) (h4 : y % 2 ^ i = 0) : Go.bits .or .i64 y x = y + x := by
  have hp : (2 : Int) ^ i ≤ 64 := by
    have : (2 : Nat) ^ i ≤ 2 ^ 6 := Nat.pow_le_pow_right (by decide) hi
    have h6 : (2 : Nat) ^ 6 = 64 := by decide
    have e : ((2 ^ i : Nat) : Int) = (2 : Int) ^ i := by simp
    omega
  have h := bits_join_low .i64 63 (by decide) wraps_i64 i x y h0 h1 (by omega) h2 h4 (by omega)
  have hc : Go.bits .or .i64 y x = Go.bits .or .i64 x y := by
    obtain ⟨a, rfl⟩ := Int.eq_ofNat_of_zero_le h0
    obtain ⟨b, rfl⟩ := Int.eq_ofNat_of_zero_le h2
    rw [(bits_nat .i64 63 (by decide) wraps_i64 b a (by omega) (by omega)).2, (bits_nat .i64 63 (by decide) wraps_i64 a b (by omega) (by omega)).2, Nat.or_comm]
  rw [hc, h, Int.add_comm]
theorem put_eq (a : Int) (h0 : 0 ≤ a) (h1 : a ≤ 1114111) : runes_put.f [] a = some (putL a) := by
  unfold runes_put.f putL
  by_cases c1 : a < 128
  · rw [if_pos c1, if_pos c1, if_pos (by simp)]
    simp only [List.nil_append]
    rw [show a % 256 = a by omega]
  · rw [if_neg c1, if_neg c1]
    have e0 := and63 a h0 h1
    have f0 : (Go.bits .or .i64 128 (Go.bits .and .i64 a 63)) % 256 = 128 + a % 64 := by rw [e0, or_hi 6 _ _ (by decide) (by omega) (by omega) (by omega) (by omega) (by decide)]; omega
    by_cases c2 : a < 2048
    · rw [if_pos c2, if_pos c2]
      simp only [Option.bind_some]
      rw [if_pos (by simp), f0, or_hi 6 _ 192 (by decide) (by omega) (by omega) (by omega) (by omega) (by decide)]
      simp only [List.nil_append]
      rw [show (192 + a / 64) % 256 = 192 + a / 64 by omega]
    · rw [if_neg c2, if_neg c2]
      have f1 : (Go.bits .or .i64 128 (Go.bits .and .i64 (a / 64) 63)) % 256 = 128 + a / 64 % 64 := by rw [and63 _ (by omega) (by omega), or_hi 6 _ _ (by decide) (by omega) (by omega) (by omega) (by omega) (by decide)]; omega
      by_cases c3 : a < 65536
      · rw [if_pos c3, if_pos c3]
        simp only [Option.bind_some]
        rw [if_pos (by simp), f0, f1, or_hi 5 _ 224 (by decide) (by omega) (by omega) (by omega) (by omega) (by decide)]
        simp only [List.nil_append]
        rw [show (224 + a / 4096) % 256 = 224 + a / 4096 by omega]
      · rw [if_neg c3, if_neg c3]
        have f2 : (Go.bits .or .i64 128 (Go.bits .and .i64 (a / 4096) 63)) % 256 = 128 + a / 4096 % 64 := by rw [and63 _ (by omega) (by omega), or_hi 6 _ _ (by decide) (by omega) (by omega) (by omega) (by omega) (by decide)]; omega
        simp only [Option.bind_some]
        rw [if_pos (by simp), f0, f1, f2, or_hi 4 _ 240 (by decide) (by omega) (by omega) (by omega) (by omega) (by decide)]
        simp only [List.nil_append]
        rw [show (240 + a / 262144) % 256 = 240 + a / 262144 by omega]
theorem rput_step (k : Nat) (x w : Int) (l : List Int) (j : Int) (h0 : 0 ≤ x) (h1 : x ≤ 2000000) (hj : 0 < j) (hl : j < l.length) (hl2 : l.length ≤ 4) : triglyphref02_Put.l0 (k + 1) x w l j = triglyphref02_Put.l0 k (x / 64) w (l.set j.toNat (128 + x % 64)) (j - 1) := by
  simp only [triglyphref02_Put.l0]
  rw [if_pos (by omega), if_pos (by omega), if_pos hl, Int.tdiv_eq_ediv_of_nonneg h0, Int.tmod_eq_emod_of_nonneg h0, wrap_in (show -9223372036854775808 ≤ x / 64 by omega) (by omega), wrap_in (show -9223372036854775808 ≤ 128 + x % 64 by omega) (by omega), wrap_in (show -9223372036854775808 ≤ j - 1 by omega) (by omega), show (128 + x % 64) % 256 = 128 + x % 64 by omega]
theorem rput_eq (a : Int) (h0 : 0 ≤ a) (h1 : a ≤ 1114111) : ∃ K, ∀ k, K ≤ k → triglyphref02_Put.f k a = some (putL a) := by
  refine ⟨4, fun k hk => ?_⟩
  obtain ⟨k, rfl, hk1⟩ := succ_of (K := 3) hk
  obtain ⟨k, rfl, hk2⟩ := succ_of (K := 2) hk1
  obtain ⟨k, rfl, hk3⟩ := succ_of (K := 1) hk2
  obtain ⟨k, rfl, _⟩ := succ_of (K := 0) hk3
  have w : ∀ x : Int, 0 ≤ x → x ≤ 2000000 → wrap64 x = x := fun x h h' => wrap_in (by omega) (by omega)
  have d1 : a / 64 / 64 = a / 4096 := by omega
  have d2 : a / 4096 / 64 = a / 262144 := by omega
  unfold triglyphref02_Put.f triglyphref02_width.f putL
  by_cases c1 : a < 128
  · rw [if_pos c1, if_pos c1]
    simp only [Option.bind_some]
    rw [if_pos (by decide), if_pos (by decide), w (1 - 1) (by omega) (by omega)]
    simp only [triglyphref02_Put.l0]
    rw [if_neg (by decide), if_pos True.intro, if_pos (by decide)]
    show some [a % 256] = _
    rw [show a % 256 = a by omega]
  · rw [if_neg c1, if_neg c1]
    by_cases c2 : a < 2048
    · rw [if_pos c2, if_pos c2]
      simp only [Option.bind_some]
      rw [if_pos (by decide), if_pos (by decide), w (2 - 1) (by omega) (by omega), rput_step _ _ _ _ _ (by omega) (by omega) (by decide) (by decide) (by decide)]
      simp only [triglyphref02_Put.l0]
      rw [if_neg (by decide), if_neg (by decide), if_pos True.intro, if_pos (by simp), w (192 + a / 64) (by omega) (by omega), show (192 + a / 64) % 256 = 192 + a / 64 by omega]
      rfl
    · rw [if_neg c2, if_neg c2]
      by_cases c3 : a < 65536
      · rw [if_pos c3, if_pos c3]
        simp only [Option.bind_some]
        rw [if_pos (by decide), if_pos (by decide), w (3 - 1) (by omega) (by omega), rput_step _ _ _ _ _ (by omega) (by omega) (by decide) (by decide) (by decide), rput_step _ _ _ _ _ (by omega) (by omega) (by decide) (by simp) (by simp), d1]
        simp only [triglyphref02_Put.l0]
        rw [if_neg (by decide), if_neg (by decide), if_neg (by decide), if_pos True.intro, if_pos (by simp), w (224 + a / 4096) (by omega) (by omega), show (224 + a / 4096) % 256 = 224 + a / 4096 by omega]
        rfl
      · rw [if_neg c3, if_neg c3]
        simp only [Option.bind_some]
        rw [if_pos (by decide), if_pos (by decide), w (4 - 1) (by omega) (by omega), rput_step _ _ _ _ _ (by omega) (by omega) (by decide) (by decide) (by decide), rput_step _ _ _ _ _ (by omega) (by omega) (by decide) (by simp) (by simp), rput_step _ _ _ _ _ (by omega) (by omega) (by decide) (by simp) (by simp), d1, d2]
        simp only [triglyphref02_Put.l0]
        rw [if_neg (by decide), if_neg (by decide), if_neg (by decide), if_neg (by decide), if_pos (by simp), w (240 + a / 262144) (by omega) (by omega), show (240 + a / 262144) % 256 = 240 + a / 262144 by omega]
        rfl
end Go.Proofs.Yteamkcgkhcalhaa.Pure
