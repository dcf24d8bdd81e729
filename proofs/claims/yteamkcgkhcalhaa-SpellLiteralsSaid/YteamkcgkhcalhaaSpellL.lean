/- An array as a text: what the package and the reference make of it. Plain facts. -/
import Derived.Test.YteamkcgkhcalhaaShowS
import Derived.Test.YteamkcgkhcalhaaCoreWords
import Derived.Test.YteamkcgkhcalhaaPx11
import Derived.Test.YteamkcgkhcalhaaPx2
import Derived.Test.YteamkcgkhcalhaaPx3
import Derived.Test.YteamkcgkhcalhaaPx4
import Derived.Test.YteamkcgkhcalhaaPx6
namespace Go.Proofs.Yteamkcgkhcalhaa.Pure
open Go.RowKit Go.Proofs.Yteamkcgkhcalhaa.P Go.Proofs.Yteamkcgkhcalhaa.Nest Go.Proofs.YteamkcgkhcalhaaW.PrintWords Go.Proofs.YteamkcgkhcalhaaW.PrintLast Go.Proofs.YteamkcgkhcalhaaW.PrintMore
set_option linter.unusedVariables false
set_option linter.unusedSimpArgs false
abbrev SC_ := S60
theorem i64s {x : Int} (h : (Lit.int .i64 x).wf = true) : -9223372036854775808 ≤ x ∧ x ≤ 9223372036854775807 := by
  have h1 : (decide (IntKind.i64.min ≤ x) && decide (x ≤ IntKind.i64.max)) = true := h
  have h2 : IntKind.i64.min = -9223372036854775808 := rfl
  have h3 : IntKind.i64.max = 9223372036854775807 := rfl
  rw [h2, h3] at h1
  simpa using h1
theorem chCs_mem : ∀ {c : List SC_} {d : Nat}, chCs c d = 0 → ∀ x ∈ c, chC x d = 0
  | [], _, _, x, hx => by cases hx
  | y :: ys, d, h, x, hx => by
    rw [chCs] at h
    split at h
    · rename_i h0
      rcases List.mem_cons.1 hx with rfl | hx
      · exact h0
      · exact chCs_mem h x hx
    · rename_i h0; exact absurd h h0
theorem good_id (n : Int) : runes_Good.f n = some (goodI n) := by
  unfold runes_Good.f goodI
  repeat' split
  all_goals (congr 1; first | (apply Bool.eq_iff_iff.2; simp; omega) | (symm; simp; omega))
theorem lit_sign {x : SC_} {k0 : Int} (h : chC x 0 = 0) (hb : core_Literal.litB k0 x = false) : x.f0 = k0 ∧ (x.f0 = 0 ∨ (x.f0 = 1 ∧ goodI x.f1 = true)) := by
  obtain ⟨k, n, b⟩ := x
  have hb1 : k ≠ 2 ∧ k = k0 := by
    unfold core_Literal.litB at hb
    simp only [Bool.or_eq_false_iff] at hb
    exact ⟨by simpa using hb.1, by simpa using hb.2.1⟩
  refine ⟨hb1.2, ?_⟩
  rw [chC] at h
  cases b with
  | nil =>
    rw [chB] at h
    split at h
    · rename_i h0; exact .inl h0
    · split at h
      · rename_i h0
        split at h
        · rename_i hg; exact .inr ⟨h0, hg⟩
        · cases h
      · cases h
  | cons y ys =>
    rw [chB_cons] at h
    split at h
    · rename_i h0; exact absurd h0.1 hb1.1
    · cases h
theorem arr_chCs {s : List Int} {c : List SC_} (h : chA ⟨s, c⟩ 0 = 0) : chCs c 0 = 0 := by
  rw [chA] at h
  by_cases h1 : (sizeS s).2 = 0
  · rw [if_pos h1] at h
    by_cases h2 : (sizeS s).1 = (c.length : Int)
    · rw [if_pos h2] at h
      split at h
      · cases h
      · exact h
    · rw [if_neg h2] at h; cases h
  · rw [if_neg h1] at h; exact absurd h h1
theorem lit_parts {s : List Int} {c : List SC_} (h : core_Literal.litV (chA ⟨s, c⟩ 0) s c = true) : ∀ x ∈ c, x.f0 = (c.getD 0 z60).f0 ∧ (x.f0 = 0 ∨ (x.f0 = 1 ∧ goodI x.f1 = true)) := by
  unfold core_Literal.litV at h
  split at h
  · rename_i hc
    intro x hx
    have h1 := List.all_eq_true.1 h x hx
    exact lit_sign (chCs_mem (arr_chCs hc.1) x hx) (by simpa using h1)
  · cases h
theorem put_byte (n : Int) (h0 : 0 ≤ n) (h1 : n ≤ 1114111) (c : Nat) (hc : c < 128) : (strOfNums (putL n)).toList = [UInt8.ofNat c] ↔ n = (c : Int) := by
  rw [ByteArray.toList_eq, strOfNums_data]
  unfold putL
  split
  · rename_i hn
    simp only [List.map_cons, List.map_nil, List.cons.injEq, and_true]
    constructor
    · intro h
      have := congrArg UInt8.toNat h
      simp only [UInt8.toNat_ofNat'] at this
      omega
    · intro h
      subst h
      simp
  · rename_i hn
    constructor
    · intro h
      have := congrArg List.length h
      (repeat' split at this) <;> simp at this
    · intro h
      omega
def sgS (q : ByteArray) (n : Int) : ByteArray := if q.toList = [39] then (if n = 39 then ⟨#[39, 39]⟩ else strOfNums (putL n)) else if n = 34 ∨ n = 92 then (⟨#[92]⟩ : ByteArray) ++ strOfNums (putL n) else strOfNums (putL n)
theorem put_size (n : Int) : (strOfNums (putL n)).size ≤ 4 := by rw [strOfNums_size]; exact putL_len n
theorem sgS_size (q : ByteArray) (n : Int) : (sgS q n).size ≤ 5 := by
  have := put_size n
  unfold sgS
  split
  · split
    · decide
    · omega
  · split
    · rw [ba_size]; show 1 + _ ≤ 5; omega
    · omega
section
variable (l0 l1 l2 : List ByteArray) (m3 m4 m5 m6 m7 m8 m q : ByteArray) (t1 t2 t3 : Bool)
theorem sign_eq (n : Int) (h0 : 0 ≤ n) (h1 : n ≤ 1114111) (k : Nat) : spell_sign.f (k + 1) (strOfNums (putL n)) l0 l1 l2 m3 m4 m5 m6 m7 m8 m q t1 t2 t3 = some (sgS q n) := by
  have hp := put_size n
  have b39 : (strOfNums (putL n)).toList = ([39] : List UInt8) ↔ n = 39 := put_byte n h0 h1 39 (by decide)
  have b34 : (strOfNums (putL n)).toList = ([34] : List UInt8) ↔ n = 34 := put_byte n h0 h1 34 (by decide)
  have b92 : (strOfNums (putL n)).toList = ([92] : List UInt8) ↔ n = 92 := put_byte n h0 h1 92 (by decide)
  unfold spell_sign.f sgS
  by_cases hq : q.toList = [39]
  · rw [if_pos hq, if_pos hq]
    simp only [spell_sign.j0]
    by_cases hn : n = 39
    · rw [if_pos hn, if_pos (beq_iff_eq.2 (b39.2 hn))]
    · rw [if_neg hn, if_neg (fun h => hn (b39.1 (beq_iff_eq.1 h))), if_pos hq]
  · rw [if_neg hq, if_neg hq]
    simp only [spell_sign.j0]
    rw [if_neg (by decide), if_neg hq]
    by_cases hn : n = 34
    · rw [if_pos (b34.2 hn), if_pos (by omega), if_pos (.inl hn)]
    · rw [if_neg (fun h => hn (b34.1 h))]
      by_cases hn2 : n = 92
      · rw [if_pos (b92.2 hn2), if_pos (by omega), if_pos (.inr hn2)]
      · rw [if_neg (fun h => hn2 (b92.1 h)), if_neg (by omega)]
theorem sumB_le (b : Nat) : ∀ l : List ByteArray, (∀ x ∈ l, x.size ≤ b) → sumB l ≤ b * l.length
  | [], _ => Nat.zero_le _
  | x :: xs, h => by
    have h1 := sumB_le b xs (fun y hy => h y (List.mem_cons_of_mem _ hy))
    have h2 := h x List.mem_cons_self
    rw [sumB, List.length_cons, Nat.mul_add]
    omega
theorem join_f (sep : ByteArray) (hs : sep.size ≤ 1) (l : List ByteArray) (hl : l.length ≤ 10000) (h : ∀ x ∈ l, x.size ≤ 100) : strings_Join.f l sep = some (jn sep l) := by
  have h1 := sumB_le 100 l h
  have h2 := jn_size sep l
  have h3 : l.length * sep.size ≤ l.length * 1 := Nat.mul_le_mul_left _ hs
  unfold strings_Join.f
  rw [join_jn, if_pos ⟨by omega, by omega⟩]
theorem sl1_eq (c : List SC_) (hc : c.length ≤ 4000) (hq : q.size ≤ 10) : ∀ (rest done : List SC_) (acc : List ByteArray), c = done ++ rest → (∀ x ∈ rest, goodI x.f1 = true) → acc.length = done.length → (∀ x ∈ acc, x.size ≤ 100) →
    ∃ K, ∀ k, K ≤ k → spell_Literal.l1 k acc c (c.length : Int) (done.length : Int) l0 l1 l2 m3 m4 m5 m6 m7 m8 m q t1 t2 t3 = some ((q ++ jn nilB (acc ++ rest.map (fun x => sgS q x.f1))) ++ q, 0)
  | [], done, acc, hd, hg, ha, hz => by
    refine ⟨1, fun k hk => ?_⟩
    obtain ⟨k, rfl, _⟩ := succ_of (K := 0) hk
    have hl : c.length = done.length := by rw [hd]; simp
    simp only [spell_Literal.l1]
    have hj := join_f nilB (by decide) acc (by omega) hz
    have h1 := sumB_le 100 acc hz
    have h2 := jn_size nilB acc
    have h3 : acc.length * nilB.size = 0 := by show acc.length * 0 = 0; simp
    rw [if_neg (by omega), hj, Option.bind_some, if_pos (by omega), if_pos (by rw [ba_size]; omega), List.map_nil, List.append_nil]
  | x :: rest, done, acc, hd, hg, ha, hz => by
    have hx := hg x List.mem_cons_self
    have hx2 := hx
    unfold goodI at hx2
    have hx3 := of_decide_eq_true hx2
    obtain ⟨K, hK⟩ := sl1_eq c hc hq rest (done ++ [x]) (acc ++ [sgS q x.f1]) (by rw [hd]; simp) (fun y hy => hg y (List.mem_cons_of_mem _ hy)) (by simp [ha]) (fun y hy => by
      rcases List.mem_append.1 hy with hy | hy
      · exact hz y hy
      · rw [List.mem_singleton.1 hy]; have := sgS_size q x.f1; omega)
    refine ⟨K + 2, fun k hk => ?_⟩
    obtain ⟨k, rfl, hk2⟩ := succ_of (K := K + 1) hk
    have hl : c.length = done.length + rest.length + 1 := by rw [hd]; simp; omega
    have hr : rd_T60 c (done.length : Int) = x := by rw [hd]; exact rdC_mid done x rest
    simp only [spell_Literal.l1]
    obtain ⟨k, rfl, hk3⟩ := succ_of (K := K) hk2
    rw [if_pos (by omega), if_pos (by omega), if_pos (by omega), hr]
    unfold runes_Write.f
    rw [if_pos (show [x.f1].length = 1 from rfl), show rd [x.f1] 0 = x.f1 from rfl, good_id, hx]
    simp only [Option.bind_some]
    rw [if_pos True.intro, put_eq x.f1 hx3.1 hx3.2.1]
    simp only [Option.bind_some]
    rw [sign_eq l0 l1 l2 m3 m4 m5 m6 m7 m8 m q t1 t2 t3 x.f1 hx3.1 hx3.2.1 k, Option.bind_some, if_pos (by omega), wrap_next done x (by omega), hK _ (by omega), List.append_assoc]
    rfl
theorem rj3 (c : List SC_) (s0 : List Int) (s : ByteArray) (hs : s.size ≤ 1000000) (i n : Int) (k : Nat) (hput : triglyphref02_Put.f k n = some (putL n)) :
    triglyphref16_Literal.j3 (k + 1) s i n (if q.toList = [39] then n == 39 else false) s0 c l0 l1 l2 m3 m4 m5 m6 m7 m8 m q t1 t2 t3 = triglyphref16_Literal.l1 k (s ++ sgS q n) (wrap64 (i + 1)) s0 c l0 l1 l2 m3 m4 m5 m6 m7 m8 m q t1 t2 t3 := by
  have hp := put_size n
  simp only [triglyphref16_Literal.j3]
  by_cases hq : q.toList = [39]
  · have e : sgS q n = if n = 39 then ⟨#[39, 39]⟩ else strOfNums (putL n) := by unfold sgS; rw [if_pos hq]
    rw [if_pos hq, e]
    by_cases hn : n = 39
    · subst hn
      rw [if_pos (by decide), if_pos (by omega), if_pos hq, hput, Option.bind_some, if_pos (by rw [ba_size]; show s.size + 1 + _ ≤ _; omega), if_pos rfl, ba_assoc]
      rfl
    · rw [if_neg (by simpa using hn), if_pos hq, hput, Option.bind_some, if_pos (by omega), if_neg hn]
  · rw [if_neg hq, if_neg (by decide), if_neg hq]
    unfold sgS
    rw [if_neg hq]
    by_cases hn : n = 34
    · rw [if_pos hn, if_pos (by omega), hput, Option.bind_some, if_pos (by rw [ba_size]; show s.size + 1 + _ ≤ _; omega), if_pos (.inl hn), ba_assoc]
    · rw [if_neg hn]
      by_cases hn2 : n = 92
      · rw [if_pos hn2, if_pos (by omega), hput, Option.bind_some, if_pos (by rw [ba_size]; show s.size + 1 + _ ≤ _; omega), if_pos (.inr hn2), ba_assoc]
      · rw [if_neg hn2, hput, Option.bind_some, if_pos (by omega), if_neg (by omega)]
theorem jn_nil_cons (x : ByteArray) (xs : List ByteArray) : jn nilB (x :: xs) = x ++ jn nilB xs := by
  have h : ∀ l : List ByteArray, jt nilB l = jn nilB l := by
    intro l
    induction l with
    | nil => rfl
    | cons y ys ih => rw [jt, jn, nil_ba]
  rw [jn, h]
theorem rl1_eq (c : List SC_) (s0 : List Int) (hc : c.length ≤ 4000) (hq : q.size ≤ 10) : ∀ (rest done : List SC_) (s : ByteArray), c = done ++ rest → (∀ x ∈ rest, goodI x.f1 = true) → s.size ≤ 5 * done.length →
    ∃ K, ∀ k, K ≤ k → triglyphref16_Literal.l1 k s (done.length : Int) s0 c l0 l1 l2 m3 m4 m5 m6 m7 m8 m q t1 t2 t3 = some ((q ++ (s ++ jn nilB (rest.map (fun x => sgS q x.f1)))) ++ q, 0)
  | [], done, s, hd, hg, hs => by
    refine ⟨1, fun k hk => ?_⟩
    obtain ⟨k, rfl, _⟩ := succ_of (K := 0) hk
    have hl : c.length = done.length := by rw [hd]; simp
    simp only [triglyphref16_Literal.l1]
    rw [if_neg (by omega), if_pos (by omega), if_pos (by rw [ba_size]; omega), List.map_nil, show jn nilB [] = nilB from rfl, ba_nil]
  | x :: rest, done, s, hd, hg, hs => by
    have hx := hg x List.mem_cons_self
    have hx2 := hx
    unfold goodI at hx2
    have hx3 := of_decide_eq_true hx2
    have hl : c.length = done.length + rest.length + 1 := by rw [hd]; simp; omega
    obtain ⟨K, hK⟩ := rl1_eq c s0 hc hq rest (done ++ [x]) (s ++ sgS q x.f1) (by rw [hd]; simp) (fun y hy => hg y (List.mem_cons_of_mem _ hy)) (by rw [ba_size]; have := sgS_size q x.f1; simp; omega)
    obtain ⟨K1, hK1⟩ := rput_eq x.f1 hx3.1 hx3.2.1
    refine ⟨K + K1 + 2, fun k hk => ?_⟩
    obtain ⟨k, rfl, hk2⟩ := succ_of (K := K + K1 + 1) hk
    obtain ⟨k, rfl, hk3⟩ := succ_of (K := K + K1) hk2
    have hr : rd_T60 c (done.length : Int) = x := by rw [hd]; exact rdC_mid done x rest
    have h3 := rj3 l0 l1 l2 m3 m4 m5 m6 m7 m8 m q t1 t2 t3 c s0 s (by omega) (done.length : Int) x.f1 k (hK1 k (by omega))
    simp only [triglyphref16_Literal.l1]
    rw [if_pos (by omega), if_pos (by omega), hr]
    have h4 : ∀ b : Bool, b = (if q.toList = [39] then x.f1 == 39 else false) → triglyphref16_Literal.j3 (k + 1) s (done.length : Int) x.f1 b s0 c l0 l1 l2 m3 m4 m5 m6 m7 m8 m q t1 t2 t3 = some ((q ++ (s ++ jn nilB ((x :: rest).map (fun x => sgS q x.f1)))) ++ q, 0) := by
      intro b hb
      rw [hb, h3, wrap_next done x (by omega), hK k (by omega), List.map_cons, jn_nil_cons]
      simp only [ba_assoc]
    split
    · rename_i hq1
      exact h4 _ (by rw [if_pos hq1])
    · rename_i hq1
      exact h4 _ (by rw [if_neg hq1])
abbrev spB : ByteArray := ⟨#[32]⟩
theorem sl0_eq (c : List SC_) (hc : c.length ≤ 4000) (hm : m.size ≤ 10) : ∀ (rest done : List SC_) (acc : List ByteArray), c = done ++ rest → (∀ x ∈ rest, okC x) → acc.length = done.length → (∀ x ∈ acc, x.size ≤ 100) →
    ∃ K, ∀ k, K ≤ k → spell_Literal.l0 k acc c (c.length : Int) (done.length : Int) l0 l1 l2 m3 m4 m5 m6 m7 m8 m q t1 t2 t3 = some (jn spB (acc ++ rest.map (fun x => numS x.f1 m)), 0)
  | [], done, acc, hd, hg, ha, hz => by
    refine ⟨1, fun k hk => ?_⟩
    obtain ⟨k, rfl, _⟩ := succ_of (K := 0) hk
    have hl : c.length = done.length := by rw [hd]; simp
    simp only [spell_Literal.l0]
    rw [if_neg (by omega), join_f spB (by decide) acc (by omega) hz, Option.bind_some, List.map_nil, List.append_nil]
  | x :: rest, done, acc, hd, hg, ha, hz => by
    have hx := hg x List.mem_cons_self
    obtain ⟨i0, i1⟩ : -9223372036854775808 ≤ x.f1 ∧ x.f1 ≤ 9223372036854775807 := by
      cases x
      rw [okC] at hx
      exact i64s hx.2.1
    obtain ⟨K, hK⟩ := sl0_eq c hc hm rest (done ++ [x]) (acc ++ [numS x.f1 m]) (by rw [hd]; simp) (fun y hy => hg y (List.mem_cons_of_mem _ hy)) (by simp [ha]) (fun y hy => by
      rcases List.mem_append.1 hy with hy | hy
      · exact hz y hy
      · rw [List.mem_singleton.1 hy]; have := num_size x.f1 m hm; omega)
    refine ⟨K + 1, fun k hk => ?_⟩
    obtain ⟨k, rfl, hk2⟩ := succ_of (K := K) hk
    have hl : c.length = done.length + rest.length + 1 := by rw [hd]; simp; omega
    have hr : rd_T60 c (done.length : Int) = x := by rw [hd]; exact rdC_mid done x rest
    simp only [spell_Literal.l0]
    rw [if_pos (by omega), if_pos (by omega), if_pos (by omega), hr, number_eq x.f1 m i0 i1 (by omega), Option.bind_some, if_pos (by omega), wrap_next done x (by omega), hK _ (by omega), List.append_assoc]
    rfl
theorem rl0_eq (c : List SC_) (s0 : List Int) (hc : c.length ≤ 4000) (hm : m.size ≤ 10) : ∀ (rest done : List SC_), c = done ++ rest → (∀ x ∈ c, okC x) →
    ∃ K, ∀ k, K ≤ k → triglyphref16_Literal.l0 k (jn spB (done.map (fun x => numS x.f1 m))) (done.length : Int) s0 c l0 l1 l2 m3 m4 m5 m6 m7 m8 m q t1 t2 t3 = some (jn spB (c.map (fun x => numS x.f1 m)), 0)
  | [], done, hd, hg => by
    refine ⟨1, fun k hk => ?_⟩
    obtain ⟨k, rfl, _⟩ := succ_of (K := 0) hk
    have hl : c.length = done.length := by rw [hd]; simp
    simp only [triglyphref16_Literal.l0]
    rw [if_neg (by omega), hd, List.append_nil]
  | x :: rest, done, hd, hg => by
    have hx := hg x (by rw [hd]; simp)
    obtain ⟨i0, i1⟩ : -9223372036854775808 ≤ x.f1 ∧ x.f1 ≤ 9223372036854775807 := by
      cases x
      rw [okC] at hx
      exact i64s hx.2.1
    obtain ⟨K, hK⟩ := rl0_eq c s0 hc hm rest (done ++ [x]) (by rw [hd]; simp) hg
    obtain ⟨K1, hK1⟩ := rnumber_eq x.f1 m i0 i1 (by omega)
    refine ⟨K + K1 + 1, fun k hk => ?_⟩
    obtain ⟨k, rfl, hk2⟩ := succ_of (K := K + K1) hk
    have hl : c.length = done.length + rest.length + 1 := by rw [hd]; simp; omega
    have hr : rd_T60 c (done.length : Int) = x := by rw [hd]; exact rdC_mid done x rest
    have hsz : (jn spB (done.map (fun x => numS x.f1 m))).size ≤ 1000000 := by
      have h1 := sumB_le 30 (done.map (fun x => numS x.f1 m)) (fun y hy => by
        obtain ⟨z, _, rfl⟩ := List.mem_map.1 hy
        exact num_size z.f1 m hm)
      have h2 := jn_size spB (done.map (fun x => numS x.f1 m))
      rw [List.length_map] at h1 h2
      have h3 : done.length * spB.size = done.length := by show done.length * 1 = _; simp
      omega
    have hn := num_size x.f1 m hm
    simp only [triglyphref16_Literal.l0]
    rw [if_pos (by omega)]
    have hgo : ∀ s, s = jn spB ((done ++ [x]).map (fun x => numS x.f1 m)) → triglyphref16_Literal.l0 k s (wrap64 ((done.length : Int) + 1)) s0 c l0 l1 l2 m3 m4 m5 m6 m7 m8 m q t1 t2 t3 = some (jn spB (c.map (fun x => numS x.f1 m)), 0) := by
      intro s hs
      rw [hs, wrap_next done x (by omega)]
      exact hK k (by omega)
    cases done with
    | nil =>
      rw [if_neg (by simp), if_pos (by simp), show rd_T60 c (([] : List SC_).length : Int) = x from hr, hK1 k (by omega), Option.bind_some, if_pos (by omega)]
      refine hgo _ ?_
      show jn spB [] ++ _ = jn spB [numS x.f1 m]
      rw [show jn spB [] = nilB from rfl, nil_ba, jn, show jt spB [] = nilB from rfl, ba_nil]
    | cons y ys =>
      rw [if_pos (by simp), if_pos (by omega), if_pos (by omega), hr, hK1 k (by omega), Option.bind_some, if_pos (by rw [ba_size]; show _ + 1 + _ ≤ _; omega)]
      refine hgo _ ?_
      rw [List.map_append, List.map_cons, jn_snoc, List.map_cons, List.map_nil, jt, show jt spB [] = nilB from rfl, ba_nil, ba_assoc]
/-- What an array is as a text. -/
def litS (a : S28) : ByteArray × Int :=
  if core_Literal.litV (chA a 0) a.f0 a.f1 = true then (if 0 < a.f1.length ∧ (a.f1.getD 0 z60).f0 = 0 then (jn spB (a.f1.map (fun x => numS x.f1 m)), 0) else ((q ++ jn nilB (a.f1.map (fun x => sgS q x.f1))) ++ q, 0)) else (nilB, 1)
theorem lit_both (a : S28) (h : okA a) (hc : a.f1.length ≤ 4000) (hm : m.size ≤ 10) (hq : q.size ≤ 10) : ∃ K, ∀ k, K ≤ k → spell_Literal.f k a.f0 a.f1 l0 l1 l2 m3 m4 m5 m6 m7 m8 m q t1 t2 t3 = some (litS m q a) ∧ triglyphref16_Literal.f k a.f0 a.f1 l0 l1 l2 m3 m4 m5 m6 m7 m8 m q t1 t2 t3 = some (litS m q a) := by
  obtain ⟨K1, h1⟩ := lit_eq a h
  obtain ⟨K2, h2⟩ := rlit_eq a h
  obtain ⟨s, c⟩ := a
  rw [okA] at h
  have hok : ∀ x ∈ c, okC x := okCs_iff.1 h.2.2
  dsimp only at h1 h2 hc ⊢
  unfold litS
  dsimp only
  cases hv : core_Literal.litV (chA ⟨s, c⟩ 0) s c with
  | false =>
    refine ⟨K1 + K2, fun k hk => ?_⟩
    unfold spell_Literal.f triglyphref16_Literal.f
    rw [h1 k (by omega), h2 k (by omega), hv]
    simp only [Option.bind_some]
    exact ⟨rfl, rfl⟩
  | true =>
    have hp := lit_parts hv
    have e0 : (rd_T60 c 0) = c.getD 0 z60 := rfl
    by_cases h0 : 0 < c.length ∧ (c.getD 0 z60).f0 = 0
    · obtain ⟨K3, h3⟩ := sl0_eq l0 l1 l2 m3 m4 m5 m6 m7 m8 m q t1 t2 t3 c hc hm c [] [] rfl hok rfl (fun _ hx => by cases hx)
      obtain ⟨K4, h4⟩ := rl0_eq l0 l1 l2 m3 m4 m5 m6 m7 m8 m q t1 t2 t3 c s hc hm c [] rfl hok
      refine ⟨K1 + K2 + K3 + K4 + 1, fun k hk => ?_⟩
      obtain ⟨k, rfl, hk2⟩ := succ_of (K := K1 + K2 + K3 + K4) hk
      unfold spell_Literal.f triglyphref16_Literal.f
      rw [h1 _ (by omega), h2 _ (by omega), hv]
      simp only [Option.bind_some]
      rw [if_pos True.intro, if_pos True.intro, if_pos True.intro, if_pos h0, if_pos (by omega), if_pos (by omega), if_pos (by omega), if_pos (by omega), e0, h0.2]
      simp only [spell_Literal.j0, triglyphref16_Literal.j0]
      rw [if_pos (by decide), if_pos (by decide)]
      exact ⟨h3 k (by omega), h4 k (by omega)⟩
    · have hgd : ∀ x ∈ c, goodI x.f1 = true := by
        intro x hx
        obtain ⟨e1, e2⟩ := hp x hx
        have hl : 0 < c.length := List.length_pos_of_mem hx
        rcases e2 with e2 | e2
        · exact absurd ⟨hl, by rw [← e1]; exact e2⟩ h0
        · exact e2.2
      obtain ⟨K3, h3⟩ := sl1_eq l0 l1 l2 m3 m4 m5 m6 m7 m8 m q t1 t2 t3 c hc hq c [] [] rfl hgd rfl (fun _ hx => by cases hx)
      obtain ⟨K4, h4⟩ := rl1_eq l0 l1 l2 m3 m4 m5 m6 m7 m8 m q t1 t2 t3 c s hc hq c [] nilB rfl hgd (by decide)
      have hsp : ∀ k, K1 + K2 + K3 + K4 ≤ k → ∀ b : Bool, b = false → spell_Literal.j0 (k + 1) [] b s c l0 l1 l2 m3 m4 m5 m6 m7 m8 m q t1 t2 t3 = some ((q ++ jn nilB (c.map (fun x => sgS q x.f1))) ++ q, 0) ∧ triglyphref16_Literal.j0 (k + 1) nilB b s c l0 l1 l2 m3 m4 m5 m6 m7 m8 m q t1 t2 t3 = some ((q ++ jn nilB (c.map (fun x => sgS q x.f1))) ++ q, 0) := by
        intro k hk b hb
        subst hb
        simp only [spell_Literal.j0, triglyphref16_Literal.j0]
        rw [if_neg (by decide), if_neg (by decide)]
        refine ⟨h3 k (by omega), ?_⟩
        have := h4 k (by omega)
        rw [nil_ba] at this
        exact this
      refine ⟨K1 + K2 + K3 + K4 + 1, fun k hk => ?_⟩
      obtain ⟨k, rfl, hk2⟩ := succ_of (K := K1 + K2 + K3 + K4) hk
      unfold spell_Literal.f triglyphref16_Literal.f
      rw [h1 _ (by omega), h2 _ (by omega), hv]
      simp only [Option.bind_some]
      rw [if_pos True.intro, if_pos True.intro, if_pos True.intro, if_neg h0]
      by_cases hl : 0 < c.length
      · rw [if_pos (by omega), if_pos (by omega), if_pos (by omega), if_pos (by omega), e0]
        exact hsp k hk2 _ (beq_eq_false_iff_ne.2 (fun e => h0 ⟨hl, e⟩))
      · rw [if_neg (by omega), if_neg (by omega)]
        exact hsp k hk2 _ rfl
end
end Go.Proofs.Yteamkcgkhcalhaa.Pure
