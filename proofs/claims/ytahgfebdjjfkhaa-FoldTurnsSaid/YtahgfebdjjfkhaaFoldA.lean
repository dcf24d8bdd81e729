/- Folds: what a row of cells comes to; what is handed in. -/
import Derived.Test.YtahgfebdjjfkhaaAtom1C
import Derived.Test.YtahgfebdjjfkhaaArr5
import Derived.Test.YtahgfebdjjfkhaaArr9
import Derived.Test.YtahgfebdjjfkhaaPx3
import Derived.Test.YtahgfebdjjfkhaaPx6
import Derived.Test.YtahgfebdjjfkhaaPx8
import Derived.Test.YtahgfebdjjfkhaaArr3L
import Derived.Test.YtahgfebdjjfkhaaArr4
import Derived.Test.YtahgfebdjjfkhaaPx1
import Derived.Test.YtahgfebdjjfkhaaPx10
import Derived.Test.YtahgfebdjjfkhaaArr67
import Derived.Test.YtahgfebdjjfkhaaPx4
import Derived.Test.YtahgfebdjjfkhaaPx9
namespace Go.Proofs.Ytahgfebdjjfkhaa.Pure
open Go.RowKit Go.Proofs.Ytahgfebdjjfkhaa.P Go.Proofs.Ytahgfebdjjfkhaa.Nest Go.Proofs.YtahgfebdjjfkhaaW.PrintWords Go.Proofs.YtahgfebdjjfkhaaW.PrintLast Go.Proofs.YtahgfebdjjfkhaaW.PrintMore
set_option linter.unusedVariables false
set_option linter.unusedSimpArgs false
def ofS (op : Int) (t : Bool) (x y : S43) : Int × Int := if t = true then celS op y x else celS op x y
theorem of_eq {op : Int} {t : Bool} {x y : S43} (hx : I64 x.f1) (hy : I64 y.f1) {k : Nat} (hk : 8 ≤ k) : fold_F_of.f k op t x.f0 x.f1 x.f2 y.f0 y.f1 y.f2 = some (0, (ofS op t x y).1, [], (ofS op t x y).2) := by
  unfold fold_F_of.f ofS
  cases t with
  | false => rw [if_neg (by decide), if_neg (by decide), acel_eq hx hy hk]; rfl
  | true => rw [if_pos rfl, if_pos rfl, acel_eq hy hx hk]; rfl
theorem ofS_i64 {op : Int} {t : Bool} {x y : S43} (hx : I64 x.f1) (hy : I64 y.f1) : I64 (ofS op t x y).1 := by
  unfold ofS
  split
  · exact celS_i64 hy hx
  · exact celS_i64 hx hy
def numsS : List S43 → Option (List Int)
  | [] => some []
  | x :: r => if x.f0 = 0 then (numsS r).map (x.f1 :: ·) else none
theorem nums_l0 : ∀ (rest done : List S43) (acc : List Int) (k : Nat), (done ++ rest).length ≤ 9000000000000000000 → acc.length = done.length → rest.length < k →
    fold_numbers.l0 k (acc ++ List.replicate rest.length 0) (done ++ rest) ((done ++ rest).length : Int) (done.length : Int) = some (match numsS rest with | some l => (acc ++ l, 0) | none => ([], 5))
  | [], done, acc, k, hl, ha, hk => by
    obtain ⟨k, rfl⟩ : ∃ m, k = m + 1 := ⟨k - 1, by simp at hk; omega⟩
    simp only [fold_numbers.l0]
    rw [if_neg (by simp)]
    simp [numsS]
  | x :: rest, done, acc, k, hl, ha, hk => by
    obtain ⟨k, rfl⟩ : ∃ m, k = m + 1 := ⟨k - 1, by simp at hk; omega⟩
    have hlen : ((done ++ x :: rest).length : Int) = done.length + 1 + rest.length := by simp; omega
    have hl2 : done.length + 1 + rest.length ≤ 9000000000000000000 := by simp at hl; omega
    have hs : done ++ x :: rest = (done ++ [x]) ++ rest := by simp
    have hal : ((acc ++ List.replicate (x :: rest).length 0).length : Int) = done.length + 1 + rest.length := by simp; omega
    simp only [fold_numbers.l0]
    rw [if_pos (by omega), if_pos (by omega), if_pos (by omega), rdC_mid, numsS]
    by_cases h0 : x.f0 = 0
    · rw [if_pos h0, if_pos h0, if_pos (by rw [hal]; omega)]
      have h1 : (acc ++ List.replicate (x :: rest).length 0).set ((done.length : Int).toNat) x.f1 = (acc ++ [x.f1]) ++ List.replicate rest.length 0 := by
        rw [Int.toNat_natCast, ← ha, List.length_cons, List.replicate_succ]
        simp [List.set_append]
      rw [h1, wrap_next done x (by omega), hs, nums_l0 rest (done ++ [x]) (acc ++ [x.f1]) k (by rw [← hs]; exact hl) (by simp [ha]) (by simp at hk; omega)]
      cases numsS rest <;> simp
    · rw [if_neg h0, if_neg h0]
theorem numbers_eq {l : List S43} (hl : l.length ≤ 35184372088832) {k : Nat} (hk : l.length < k) : fold_numbers.f k l = some (match numsS l with | some l => (l, 0) | none => ([], 5)) := by
  unfold fold_numbers.f
  rw [if_pos (by omega), if_pos (by rw [Int.toNat_natCast]; exact hl), Int.toNat_natCast]
  have h := nums_l0 l [] [] k (by simpa using Nat.le_trans hl (by decide)) rfl hk
  simpa using h
def runR (op : Int) (t : Bool) (l : List S43) : Nat → S43 → S43 × Int
  | 0, c => (c, 0)
  | i + 1, c => if (ofS op t (l.getD i z43) c).2 = 0 then runR op t l i (numC (ofS op t (l.getD i z43) c).1) else (z43, (ofS op t (l.getD i z43) c).2)
def rowS (op : Int) (t : Bool) (l : List S43) : S43 × Int :=
  if l.length = 1 then (l.getD 0 z43, 0)
  else if l.length = 0 then (if op = 21 ∨ op = 22 then (z43, 0) else if op = 23 then (numC 1, 0) else (z43, 5))
  else if op = 21 ∨ op = 23 then (match numsS l with | some ns => (numC (fit (if op = 23 then pr ns else ns.sum)).1, (fit (if op = 23 then pr ns else ns.sum)).2) | none => (z43, 5))
  else runR op t l (l.length - 1) (l.getD (l.length - 1) z43)
theorem numsS_mem : ∀ {l : List S43} {ns : List Int}, numsS l = some ns → ns.length = l.length ∧ ((∀ x ∈ l, I64 x.f1) → ∀ n ∈ ns, I64 n)
  | [], ns, h => by
    rw [numsS] at h
    rw [← Option.some.inj h]
    exact ⟨rfl, fun _ n hn => by cases hn⟩
  | x :: r, ns, h => by
    rw [numsS] at h
    split at h
    · obtain ⟨m, hm, rfl⟩ := Option.map_eq_some_iff.1 h
      obtain ⟨h1, h2⟩ := numsS_mem hm
      refine ⟨by simp [h1], fun hx n hn => ?_⟩
      rcases List.mem_cons.1 hn with rfl | hn
      · exact hx x List.mem_cons_self
      · exact h2 (fun y hy => hx y (List.mem_cons_of_mem _ hy)) n hn
    · cases h
theorem getD_mem {l : List S43} {i : Nat} (h : i < l.length) : l.getD i z43 ∈ l := by
  rw [List.getD_eq_getElem?_getD, List.getElem?_eq_getElem h]
  exact List.getElem_mem h
theorem rdC_nat (l : List S43) (i : Nat) : rd_T43 l (i : Int) = l.getD i z43 := by unfold rd_T43; rw [Int.toNat_natCast]
theorem run_eq (op : Int) (t : Bool) (l : List S43) (hI : ∀ x ∈ l, I64 x.f1) {k : Nat} (hk : 8 ≤ k) : ∀ (i : Nat) (c : S43), i ≤ l.length → I64 c.f1 →
    fold_F_row.lp k op t l i c = some ((runR op t l i c).1.f0, (runR op t l i c).1.f1, (runR op t l i c).1.f2, (runR op t l i c).2)
  | 0, c, _, _ => rfl
  | i + 1, c, hi, hc => by
    have hm := hI _ (getD_mem (l := l) (i := i) (by omega))
    rw [fold_F_row.lp, rdC_nat, of_eq hm hc hk, Option.bind_some, runR]
    dsimp only
    by_cases h0 : (ofS op t (l.getD i z43) c).2 = 0
    · rw [if_pos h0, if_pos h0]
      exact run_eq op t l hI hk i (numC _) (by omega) (ofS_i64 hm hc)
    · rw [if_neg h0, if_neg h0]
      rfl
theorem row_eq (op : Int) (t : Bool) (l : List S43) (hI : ∀ x ∈ l, I64 x.f1) (hl : l.length ≤ 17592186044416) : ∃ K, ∀ k, K ≤ k →
    fold_F_row.f k op t l = some ((rowS op t l).1.f0, (rowS op t l).1.f1, (rowS op t l).1.f2, (rowS op t l).2) := by
  refine ⟨l.length + 8, fun k hk => ?_⟩
  unfold fold_F_row.f rowS
  by_cases h1 : l.length = 1
  · rw [if_pos h1, if_pos h1, show rd_T43 l 0 = l.getD 0 z43 from rdC_nat l 0]
  rw [if_neg h1, if_neg h1]
  by_cases h0 : l.length = 0
  · rw [if_pos h0, if_pos h0]
    by_cases o1 : op = 21 ∨ op = 22
    · rw [if_pos o1, if_pos o1]
      rfl
    · rw [if_neg o1, if_neg o1]
      by_cases o2 : op = 23
      · rw [if_pos o2, if_pos o2]
        rfl
      · rw [if_neg o2, if_neg o2]
        rfl
  rw [if_neg h0, if_neg h0]
  by_cases o1 : op = 21 ∨ op = 23
  · rw [if_pos o1, if_pos o1, numbers_eq (by omega) (by omega), Option.bind_some]
    cases hn : numsS l with
    | none => dsimp only; rw [if_neg (by decide)]; rfl
    | some ns =>
      obtain ⟨hn1, hn2⟩ := numsS_mem hn
      have hn3 := hn2 hI
      dsimp only
      rw [if_pos rfl]
      by_cases o2 : op = 23
      · rw [if_pos o2, if_pos o2, prod_eq (by omega) hn3 (by omega)]
        rfl
      · rw [if_neg o2, if_neg o2, sum_eq (by omega) hn3]
        rfl
  · rw [if_neg o1, if_neg o1, rdC_nat]
    exact run_eq op t l hI (by omega) _ _ (by omega) (hI _ (getD_mem (by omega)))
theorem is_eq (op : Int) : atomic_Is.f op = some (decide (21 ≤ op ∧ op ≤ 32)) := by
  unfold atomic_Is.f
  by_cases h : op ≥ 21
  · rw [if_pos h]
    congr 1
    apply Bool.eq_iff_iff.2
    simp
    omega
  · rw [if_neg h]
    congr 1
    apply Bool.eq_iff_iff.2
    simp
    omega
def chkS (op : Int) (a : S25) : Int := if chA a 0 = 0 then (if 21 ≤ op ∧ op ≤ 32 then 0 else 1) else chA a 0
theorem checked_eq (op : Int) (t : Bool) (a : S25) (h : okA a) : ∃ K, ∀ k, K ≤ k → fold_F_checked.f k op t [a] = some (chkS op a) := by
  obtain ⟨K, hK⟩ := check_eq a h
  refine ⟨K + 2, fun k hk => ?_⟩
  obtain ⟨k, rfl, hk2⟩ := succ_of (K := K + 1) hk
  obtain ⟨k, rfl, hk3⟩ := succ_of hk2
  unfold fold_F_checked.f chkS
  simp only [fold_F_checked.l0]
  rw [if_pos (by simp), if_pos (by omega), if_pos (by simp), show rd_T25 [a] 0 = a from rdA_zero a [], hK (k + 1) (by omega), Option.bind_some]
  by_cases h0 : chA a 0 = 0
  · rw [if_pos h0, if_pos h0, if_neg (by simp [wrap64]), is_eq, Option.bind_some]
    by_cases h1 : 21 ≤ op ∧ op ≤ 32
    · rw [if_pos (by simpa using h1), if_pos h1]
    · rw [if_neg (by simpa using h1), if_neg h1]
  · rw [if_neg h0, if_neg h0]
end Go.Proofs.Ytahgfebdjjfkhaa.Pure
namespace Go.Proofs.Ytahgfebdjjfkhaa.Pure
open Go.RowKit Go.Proofs.Ytahgfebdjjfkhaa.P Go.Proofs.Ytahgfebdjjfkhaa.Nest Go.Proofs.YtahgfebdjjfkhaaW.PrintWords Go.Proofs.YtahgfebdjjfkhaaW.PrintLast Go.Proofs.YtahgfebdjjfkhaaW.PrintMore
set_option linter.unusedVariables false
set_option linter.unusedSimpArgs false
theorem okC_i64 {x : S43} (h : okC x) : I64 x.f1 := by
  cases x
  rw [okC] at h
  exact i64_of h.2.1
def lightS8 (a : S25) : Bool := decide (wA a 300 16 ≤ 300)
theorem light_eq (a : S25) (h : okA a) : ∃ K, ∀ k, K ≤ k → triglyphlaw08_light.f k a.f0 a.f1 = some (lightS8 a) := by
  obtain ⟨K, hK⟩ := weight_eq a 300 h (by omega) (by omega)
  refine ⟨K, fun k hk => ?_⟩
  unfold triglyphlaw08_light.f
  rw [hK k hk]
  rfl
theorem works_eq : ∀ k, 60 ≤ k → triglyphlaw08_works.f k = some true := by
  intro k hk
  have h : triglyphlaw08_works.f 60 = some true := by kernel_rfl
  exact at_rounds triglyphlaw08_works.mono hk h
end Go.Proofs.Ytahgfebdjjfkhaa.Pure
namespace Go.Proofs.Ytahgfebdjjfkhaa.Pure
open Go.RowKit Go.Proofs.Ytahgfebdjjfkhaa.P Go.Proofs.Ytahgfebdjjfkhaa.Nest Go.Proofs.YtahgfebdjjfkhaaW.PrintWords Go.Proofs.YtahgfebdjjfkhaaW.PrintLast Go.Proofs.YtahgfebdjjfkhaaW.PrintMore
set_option linter.unusedVariables false
set_option linter.unusedSimpArgs false
def lineL (c : List S43) (T : Nat) : Nat → Nat → List S43
  | 0, _ => []
  | n + 1, a => c.getD a z43 :: lineL c T n (a + T)
theorem lineL_len (c : List S43) (T : Nat) : ∀ n a, (lineL c T n a).length = n
  | 0, _ => rfl
  | n + 1, a => by rw [lineL, List.length_cons, lineL_len c T n]
theorem lineL_get (c : List S43) (T : Nat) : ∀ n a m, m < n → (lineL c T n a)[m]? = some (c.getD (a + m * T) z43)
  | 0, _, _, h => by omega
  | n + 1, a, 0, _ => by rw [lineL]; simp
  | n + 1, a, m + 1, h => by
    rw [lineL, List.getElem?_cons_succ, lineL_get c T n (a + T) m (by omega), Nat.succ_mul]
    congr 2
    omega
theorem getD_i64 {c : List S43} (h : ∀ x ∈ c, I64 x.f1) (i : Nat) : I64 (c.getD i z43).f1 := by
  by_cases hi : i < c.length
  · exact h _ (getD_mem hi)
  · rw [List.getD_eq_getElem?_getD, List.getElem?_eq_none (by omega)]
    exact ⟨by decide, by decide⟩
theorem lineL_i64 {c : List S43} (h : ∀ x ∈ c, I64 x.f1) (T : Nat) : ∀ n a, ∀ x ∈ lineL c T n a, I64 x.f1
  | 0, _, x, hx => by cases hx
  | n + 1, a, x, hx => by
    rw [lineL] at hx
    rcases List.mem_cons.1 hx with rfl | hx
    · exact getD_i64 h _
    · exact lineL_i64 h T n _ x hx
theorem line_l0 (c : List S43) (hc : c.length ≤ 16384) (T G a : Nat) (hG : G ≤ 20000) : ∀ (n i : Nat) (acc : List S43), i + n = G → acc.length = i → (∀ m, m < G → a + m * T < c.length) → ∀ k, n < k →
    fold_line.l0 k c (a : Int) (T : Int) acc (G : Int) (i : Int) = some (acc ++ lineL c T n (a + i * T))
  | 0, i, acc, hi, ha, hb, k, hk => by
    obtain ⟨k, rfl⟩ : ∃ m, k = m + 1 := ⟨k - 1, by omega⟩
    simp only [fold_line.l0]
    rw [if_neg (by omega), lineL, List.append_nil]
  | n + 1, i, acc, hi, ha, hb, k, hk => by
    obtain ⟨k, rfl⟩ : ∃ m, k = m + 1 := ⟨k - 1, by omega⟩
    have h1 := hb i (by omega)
    have e1 : wrap64 ((i : Int) * (T : Int)) = ((i * T : Nat) : Int) := by rw [Int.natCast_mul, wrap_in (by rw [← Int.natCast_mul]; omega) (by rw [← Int.natCast_mul]; omega)]
    have e2 : wrap64 ((a : Int) + ((i * T : Nat) : Int)) = ((a + i * T : Nat) : Int) := by rw [wrap_in (by omega) (by omega)]; omega
    simp only [fold_line.l0]
    rw [if_pos (by omega), e1, e2, if_pos (by omega), if_pos (by omega), if_pos (by omega), rdC_nat, etaC, show wrap64 ((i : Int) + 1) = ((i + 1 : Nat) : Int) by rw [wrap_in (by omega) (by omega)]; omega, line_l0 c hc T G a hG n (i + 1) _ (by omega) (by simp [ha]) hb k (by omega), lineL, List.append_assoc, Nat.succ_mul, Nat.add_assoc]
    rfl
theorem line_eq (c : List S43) (hc : c.length ≤ 16384) (T G a : Nat) (hG : G ≤ 20000) (hb : ∀ m, m < G → a + m * T < c.length) {k : Nat} (hk : G < k) : fold_line.f k c (a : Int) (T : Int) (G : Int) = some (lineL c T G a) := by
  unfold fold_line.f
  rw [if_pos (by omega), if_pos (by omega)]
  have := line_l0 c hc T G a hG G 0 [] (by omega) rfl hb k hk
  simpa using this
theorem wrap_nat {n : Nat} (h : n ≤ 1000000000000) : wrap64 ((n : Nat) : Int) = (n : Int) := wrap_in (by omega) (by omega)
theorem wrap_addN {a b : Nat} (h : a + b ≤ 1000000000000) : wrap64 ((a : Int) + (b : Int)) = ((a + b : Nat) : Int) := by rw [← Int.natCast_add]; exact wrap_nat h
theorem wrap_mulN {a b : Nat} (h : a * b ≤ 1000000000000) : wrap64 ((a : Int) * (b : Int)) = ((a * b : Nat) : Int) := by rw [← Int.natCast_mul]; exact wrap_nat h
def goR : List (S43 × Int) → List S43 → Int × List S43
  | [], acc => (0, acc)
  | p :: r, acc => if p.2 = 0 then goR r (acc ++ [p.1]) else (p.2, [])
theorem goR_append : ∀ (p q : List (S43 × Int)) (acc : List S43), goR (p ++ q) acc = if (goR p acc).1 = 0 then goR q (goR p acc).2 else ((goR p acc).1, [])
  | [], q, acc => by rw [List.nil_append, goR, if_pos rfl]
  | x :: r, q, acc => by
    rw [List.cons_append, goR, goR]
    by_cases h : x.2 = 0
    · rw [if_pos h, if_pos h]
      exact goR_append r q _
    · rw [if_neg h, if_neg h, if_neg h]
theorem goR_len : ∀ (p : List (S43 × Int)) (acc : List S43), (goR p acc).1 = 0 → (goR p acc).2.length = acc.length + p.length
  | [], acc, _ => rfl
  | x :: r, acc, h => by
    rw [goR] at h ⊢
    by_cases h0 : x.2 = 0
    · rw [if_pos h0] at h ⊢
      rw [goR_len r _ h]
      simp
      omega
    · rw [if_neg h0] at h
      exact absurd h h0
theorem goR_ok : ∀ (p : List (S43 × Int)) (acc : List S43), (∀ x ∈ p, okC x.1) → (∀ x ∈ acc, okC x) → ∀ x ∈ (goR p acc).2, okC x
  | [], acc, _, h => h
  | y :: r, acc, hp, h => by
    rw [goR]
    split
    · refine goR_ok r _ (fun x hx => hp x (List.mem_cons_of_mem _ hx)) (fun x hx => ?_)
      rcases List.mem_append.1 hx with hx | hx
      · exact h x hx
      · rw [List.mem_singleton.1 hx]; exact hp y List.mem_cons_self
    · intro x hx
      cases hx
section
variable (op : Int) (t : Bool) (c : List S43) (T G : Nat)
def rwJ (i : Nat) : Nat → Nat → List (S43 × Int)
  | 0, _ => []
  | n + 1, j => rowS op t (lineL c T G (i * T * G + j)) :: rwJ i n (j + 1)
def rwI : Nat → Nat → List (S43 × Int)
  | 0, _ => []
  | n + 1, i => rwJ op t c T G i T 0 ++ rwI n (i + 1)
theorem rwJ_len (i : Nat) : ∀ n j, (rwJ op t c T G i n j).length = n
  | 0, _ => rfl
  | n + 1, j => by rw [rwJ, List.length_cons, rwJ_len i n]
theorem rwI_len : ∀ n i, (rwI op t c T G n i).length = n * T
  | 0, _ => by rw [rwI, Nat.zero_mul]; rfl
  | n + 1, i => by rw [rwI, List.length_append, rwJ_len, rwI_len n, Nat.succ_mul, Nat.add_comm]
theorem idx_lt {O T G i j m : Nat} (hi : i < O) (hj : j < T) (hm : m < G) : i * T * G + j + m * T < O * T * G := by
  have h1 : (i + 1) * (T * G) ≤ O * (T * G) := Nat.mul_le_mul_right _ hi
  have h2 : (m + 1) * T ≤ G * T := Nat.mul_le_mul_right _ hm
  rw [Nat.succ_mul] at h1 h2
  rw [Nat.mul_assoc, Nat.mul_assoc, Nat.mul_comm T G] at *
  omega
theorem lj_eqR (hI : ∀ x ∈ c, I64 x.f1) (hc : c.length ≤ 16384) (hG : G ≤ 20000) {O : Nat} (hO : O * T ≤ 20000) (hO0 : O ≤ 20000) (hT0 : T ≤ 20000) (hl : O * T * G = c.length) (i : Nat) (hi : i < O) : ∀ (n j : Nat) (acc : List S43), j + n = T → acc.length + n ≤ 100000000 →
    ∃ K, ∀ k, K ≤ k → fold_Red.lj k op t c (T : Int) (G : Int) i n j acc = some (goR (rwJ op t c T G i n j) acc)
  | 0, j, acc, _, _ => ⟨0, fun k _ => rfl⟩
  | n + 1, j, acc, hj, ha => by
    obtain ⟨K1, h1⟩ := row_eq op t (lineL c T G (i * T * G + j)) (lineL_i64 hI T G _) (by rw [lineL_len]; omega)
    obtain ⟨K2, h2⟩ := lj_eqR hI hc hG hO hO0 hT0 hl i hi n (j + 1) (acc ++ [(rowS op t (lineL c T G (i * T * G + j))).1]) (by omega) (by simp; omega)
    refine ⟨K1 + K2 + G + 1, fun k hk => ?_⟩
    have hiT : i * T ≤ O * T := Nat.mul_le_mul_right _ (by omega)
    have hiG : i * T * G ≤ 20000 * 20000 := Nat.mul_le_mul (by omega) hG
    have hq : i * T * G ≤ 400000000 := Nat.le_trans hiG (by decide)
    have b1 : i * T ≤ 1000000000000 := Nat.le_trans hiT (Nat.le_trans hO (by decide))
    have b2 : i * T * G ≤ 1000000000000 := Nat.le_trans hq (by decide)
    have b3 : i * T * G + j ≤ 1000000000000 := Nat.le_trans (Nat.add_le_add hq (show j ≤ 20000 by omega)) (by decide)
    have b4 : G < k := by omega
    have b5 : K1 ≤ k := by omega
    have b6 : K2 ≤ k := by omega
    have b7 : acc.length < 3518437208883 := by omega
    rw [fold_Red.lj, wrap_mulN b1, wrap_mulN b2, wrap_addN b3, line_eq c hc T G _ hG (fun m hm => by rw [← hl]; exact idx_lt hi (by omega) hm) b4, Option.bind_some, h1 k b5, Option.bind_some]
    dsimp only
    rw [rwJ, goR]
    by_cases h0 : (rowS op t (lineL c T G (i * T * G + j))).2 = 0
    · rw [if_pos h0, if_pos h0, if_pos b7, etaC]
      exact h2 k b6
    · rw [if_neg h0, if_neg h0]
theorem li_eqR (hI : ∀ x ∈ c, I64 x.f1) (hc : c.length ≤ 16384) (hG : G ≤ 20000) {O : Nat} (hO : O * T ≤ 20000) (hO0 : O ≤ 20000) (hT0 : T ≤ 20000) (hl : O * T * G = c.length) : ∀ (n i : Nat) (acc : List S43), i + n = O → acc.length + n * T ≤ 1000000 →
    ∃ K, ∀ k, K ≤ k → fold_Red.li k op t c (T : Int) (G : Int) n i acc = some (goR (rwI op t c T G n i) acc)
  | 0, i, acc, _, _ => ⟨0, fun k _ => rfl⟩
  | n + 1, i, acc, hi, ha => by
    rw [Nat.succ_mul] at ha
    obtain ⟨K1, h1⟩ := lj_eqR op t c T G hI hc hG hO hO0 hT0 hl i (by omega) T 0 acc (by omega) (by omega)
    by_cases h0 : (goR (rwJ op t c T G i T 0) acc).1 = 0
    · obtain ⟨K2, h2⟩ := li_eqR hI hc hG hO hO0 hT0 hl n (i + 1) (goR (rwJ op t c T G i T 0) acc).2 (by omega) (by rw [goR_len _ _ h0, rwJ_len]; omega)
      refine ⟨K1 + K2, fun k hk => ?_⟩
      rw [fold_Red.li, Int.toNat_natCast, h1 k (by omega), Option.bind_some, rwI, goR_append, if_pos h0, if_pos h0]
      exact h2 k (by omega)
    · refine ⟨K1, fun k hk => ?_⟩
      rw [fold_Red.li, Int.toNat_natCast, h1 k (by omega), Option.bind_some, rwI, goR_append, if_neg h0, if_neg h0]
end
def nrS : Int → Nat → List Int → Bool
  | _, 0, _ => true
  | _, _ + 1, [] => true
  | n, m + 1, d :: r => if d > 400 then false else if d > 1 then (if n * d > 4000 then false else nrS (n * d) m r) else (if n > 4000 then false else nrS n m r)
theorem nr_l0 (s : List Int) (c : List S43) (hs : s.length ≤ 1000) : ∀ (rest done : List Int) (n : Int) (m : Nat), s = done ++ rest → done.length + m = 20 → 1 ≤ n → n ≤ 4000 →
    ∃ K, ∀ k, K ≤ k → triglyphlaw08_narrow.l0 k n (done.length : Int) s c = some (nrS n m rest)
  | [], done, n, m, hd, hm, h1, h2 => by
    refine ⟨2, fun k hk => ?_⟩
    obtain ⟨k, rfl, hk2⟩ := succ_of (K := 1) hk
    have hl : s.length = done.length := by rw [hd]; simp
    simp only [triglyphlaw08_narrow.l0]
    obtain ⟨k, rfl, _⟩ := succ_of (K := 0) hk2
    rw [if_neg (by omega)]
    simp only [triglyphlaw08_narrow.j1]
    rw [if_neg (by decide)]
    cases m <;> rfl
  | d :: rest, done, n, 0, hd, hm, h1, h2 => by
    refine ⟨2, fun k hk => ?_⟩
    obtain ⟨k, rfl, hk2⟩ := succ_of (K := 1) hk
    have hl : s.length = done.length + rest.length + 1 := by rw [hd]; simp; omega
    simp only [triglyphlaw08_narrow.l0]
    obtain ⟨k, rfl, _⟩ := succ_of (K := 0) hk2
    rw [if_pos (by omega), decide_eq_false (by omega)]
    simp only [triglyphlaw08_narrow.j1]
    rw [if_neg (by decide), nrS]
  | d :: rest, done, n, m + 1, hd, hm, h1, h2 => by
    have hl : s.length = done.length + rest.length + 1 := by rw [hd]; simp; omega
    have hr : rd s (done.length : Int) = d := by rw [hd]; exact rd_mid done d rest
    have hu : ∀ k, triglyphlaw08_narrow.l0 (k + 2) n (done.length : Int) s c = (if d > 400 then some false else if d > 1 then (if wrap64 (n * d) > 4000 then some false else triglyphlaw08_narrow.l0 k (wrap64 (n * d)) (wrap64 ((done.length : Int) + 1)) s c) else (if n > 4000 then some false else triglyphlaw08_narrow.l0 k n (wrap64 ((done.length : Int) + 1)) s c)) := by
      intro k
      simp only [triglyphlaw08_narrow.l0]
      rw [if_pos (by omega), decide_eq_true (by omega)]
      simp only [triglyphlaw08_narrow.j1]
      rw [if_pos True.intro, if_pos (by omega), if_pos (by omega), hr]
    have hw : wrap64 ((done.length : Int) + 1) = ((done ++ [d]).length : Int) := wrap_next done d (by omega)
    rw [nrS]
    by_cases c1 : d > 400
    · refine ⟨2, fun k hk => ?_⟩
      obtain ⟨k, rfl, hk2⟩ := succ_of (K := 1) hk
      obtain ⟨k, rfl, _⟩ := succ_of (K := 0) hk2
      rw [hu, if_pos c1, if_pos c1]
    rw [if_neg c1]
    by_cases c2 : d > 1
    · rw [if_pos c2]
      have hb : 0 ≤ n * d ∧ n * d ≤ 1600000 := by
        have a1 : n * d ≤ 4000 * d := Int.mul_le_mul_of_nonneg_right h2 (by omega)
        have a2 : 0 ≤ n * d := Int.mul_nonneg (by omega) (by omega)
        omega
      have hb1 : 1 ≤ n * d := by
        have : 1 * d ≤ n * d := Int.mul_le_mul_of_nonneg_right h1 (by omega)
        omega
      have e1 : wrap64 (n * d) = n * d := wrap_in (by omega) (by omega)
      by_cases c3 : n * d > 4000
      · refine ⟨2, fun k hk => ?_⟩
        obtain ⟨k, rfl, hk2⟩ := succ_of (K := 1) hk
        obtain ⟨k, rfl, _⟩ := succ_of (K := 0) hk2
        rw [hu, if_neg c1, if_pos c2, e1, if_pos c3, if_pos c3]
      · obtain ⟨K, hK⟩ := nr_l0 s c hs rest (done ++ [d]) (n * d) m (by rw [hd]; simp) (by simp; omega) hb1 (by omega)
        refine ⟨K + 2, fun k hk => ?_⟩
        obtain ⟨k, rfl, hk2⟩ := succ_of (K := K + 1) hk
        obtain ⟨k, rfl, hk3⟩ := succ_of (K := K) hk2
        rw [hu, if_neg c1, if_pos c2, e1, if_neg c3, if_neg c3, hw]
        exact hK k hk3
    · rw [if_neg c2, if_neg (by omega)]
      obtain ⟨K, hK⟩ := nr_l0 s c hs rest (done ++ [d]) n m (by rw [hd]; simp) (by simp; omega) h1 h2
      refine ⟨K + 2, fun k hk => ?_⟩
      obtain ⟨k, rfl, hk2⟩ := succ_of (K := K + 1) hk
      obtain ⟨k, rfl, hk3⟩ := succ_of (K := K) hk2
      rw [hu, if_neg c1, if_neg c2, if_neg (by omega), hw]
      exact hK k hk3
theorem narrow_eq (s : List Int) (c : List S43) (hs : s.length ≤ 1000) : ∃ K, ∀ k, K ≤ k → triglyphlaw08_narrow.f k s c = some (nrS 1 20 s) := by
  obtain ⟨K, hK⟩ := nr_l0 s c hs s [] 1 20 rfl rfl (by decide) (by decide)
  exact ⟨K, fun k hk => hK k hk⟩
def mx (d : Int) : Int := if d > 1 then d else 1
def np : List Int → Int
  | [] => 1
  | d :: r => mx d * np r
theorem mx_pos (d : Int) : 1 ≤ mx d ∧ d ≤ mx d := by unfold mx; split <;> omega
theorem np_pos : ∀ s, 1 ≤ np s
  | [] => by decide
  | d :: r => by
    have := Int.mul_le_mul (mx_pos d).1 (np_pos r) (by omega) (by have := mx_pos d; omega)
    rw [np]
    omega
theorem np_append : ∀ a b, np (a ++ b) = np a * np b
  | [], b => by rw [List.nil_append, np, Int.one_mul]
  | d :: a, b => by rw [List.cons_append, np, np, np_append a b, Int.mul_assoc]
theorem nr_np : ∀ (s : List Int) (n : Int) (m : Nat), s.length ≤ m → 1 ≤ n → n ≤ 4000 → nrS n m s = true → n * np s ≤ 4000
  | [], n, m, _, _, h, _ => by rw [np]; omega
  | d :: r, n, 0, hm, _, _, _ => by simp at hm
  | d :: r, n, m + 1, hm, h1, h2, h => by
    rw [nrS] at h
    split at h
    · cases h
    split at h
    · split at h
      · cases h
      · have hb1 : 1 ≤ n * d := by
          have : 1 * d ≤ n * d := Int.mul_le_mul_of_nonneg_right h1 (by omega)
          omega
        have := nr_np r (n * d) m (by simpa using hm) hb1 (by omega) h
        rw [np, mx, if_pos (by omega), ← Int.mul_assoc]
        exact this
    · split at h
      · cases h
      · have := nr_np r n m (by simpa using hm) h1 h2 h
        rw [np, mx, if_neg (by omega), Int.one_mul]
        exact this
theorem prod_np : ∀ (s : List Int), (∀ d ∈ s, 0 ≤ d) → 0 ≤ prodS s ∧ prodS s ≤ np s
  | [], _ => by decide
  | d :: r, h => by
    obtain ⟨a1, a2⟩ := prod_np r (fun x hx => h x (List.mem_cons_of_mem _ hx))
    have hd := h d List.mem_cons_self
    rw [prodS, np]
    exact ⟨Int.mul_nonneg hd a1, Int.mul_le_mul (mx_pos d).2 a2 a1 (by have := mx_pos d; omega)⟩
theorem wp_prod : ∀ (s : List Int) (x : Int), (∀ d ∈ s, 0 ≤ d) → 0 ≤ x → x * np s ≤ 4000 → fold_lines.wp x s = x * prodS s
  | [], x, _, _, _ => by rw [fold_lines.wp, prodS, Int.mul_one]
  | d :: r, x, h, h0, hb => by
    have hd := h d List.mem_cons_self
    have hx : 0 ≤ x * d := Int.mul_nonneg h0 hd
    have h1 : x * d ≤ x * mx d := Int.mul_le_mul_of_nonneg_left (mx_pos d).2 h0
    have h2 : x * d * np r ≤ x * mx d * np r := Int.mul_le_mul_of_nonneg_right h1 (by have := np_pos r; omega)
    rw [np, ← Int.mul_assoc] at hb
    have h3 : x * d * 1 ≤ x * d * np r := Int.mul_le_mul_of_nonneg_left (np_pos r) hx
    rw [Int.mul_one] at h3
    rw [fold_lines.wp, wrap_in (by omega) (by omega), wp_prod r (x * d) (fun y hy => h y (List.mem_cons_of_mem _ hy)) hx (by omega), prodS, Int.mul_assoc]
theorem size_prod {s : List Int} (h : (sizeS s).2 = 0) : (sizeS s).1 = prodS s ∧ ∀ d ∈ s, 0 ≤ d := by
  have h8 := sizeS_len h
  unfold sizeS at h ⊢
  rw [if_neg (by omega)] at h ⊢
  split at h
  · cases h
  · rename_i hn
    have hnn : ∀ d ∈ s, 0 ≤ d := by
      intro x hx
      rcases Int.lt_or_le x 0 with hl | hl
      · exact absurd (List.any_eq_true.2 ⟨x, hx, by simpa using hl⟩) hn
      · exact hl
    refine ⟨?_, hnn⟩
    rw [if_neg hn]
    split at h
    · rename_i hz
      rw [if_pos hz]
      obtain ⟨x, hx, hx0⟩ := List.any_eq_true.1 hz
      have hx1 : x = 0 := by simpa using hx0
      subst hx1
      clear h hn hz hnn h8
      induction s with
      | nil => cases hx
      | cons y ys ih =>
        rw [prodS]
        rcases List.mem_cons.1 hx with rfl | hx
        · simp
        · rw [← ih hx]; simp
    · rename_i hz
      rw [if_neg hz, sizeP_ok s 1 (by decide) (by decide) (fun d hd => by
        have h0 := hnn d hd
        have h1 : d ≠ 0 := fun e => hz (List.any_eq_true.2 ⟨d, hd, by simpa using e⟩)
        omega) h, Int.one_mul]
theorem numC_ok {n : Int} (h : I64 n) : okC (numC n) := by
  unfold numC
  rw [okC, okAs]
  exact ⟨wf_of ⟨by decide, by decide⟩, wf_of h, by simp, trivial⟩
theorem zC_ok : okC z43 := by
  unfold z43
  rw [okC, okAs]
  exact ⟨by decide, by decide, by simp, trivial⟩
theorem getD_ok {l : List S43} (h : ∀ x ∈ l, okC x) (i : Nat) : okC (l.getD i z43) := by
  by_cases hi : i < l.length
  · exact h _ (getD_mem hi)
  · rw [List.getD_eq_getElem?_getD, List.getElem?_eq_none (by omega)]
    exact zC_ok
theorem runR_ok (op : Int) (t : Bool) (l : List S43) (h : ∀ x ∈ l, okC x) : ∀ (i : Nat) (c : S43), okC c → okC (runR op t l i c).1
  | 0, c, hc => hc
  | i + 1, c, hc => by
    rw [runR]
    split
    · exact runR_ok op t l h i _ (numC_ok (ofS_i64 (okC_i64 (getD_ok h i)) (okC_i64 hc)))
    · exact zC_ok
theorem rowS_ok (op : Int) (t : Bool) (l : List S43) (h : ∀ x ∈ l, okC x) : okC (rowS op t l).1 := by
  unfold rowS
  split
  · exact getD_ok h 0
  split
  · split
    · exact zC_ok
    split
    · exact numC_ok ⟨by decide, by decide⟩
    · exact zC_ok
  split
  · split
    · exact numC_ok (fit_i64 _)
    · exact zC_ok
  · exact runR_ok op t l h _ _ (getD_ok h _)
theorem lineL_ok {c : List S43} (h : ∀ x ∈ c, okC x) (T : Nat) : ∀ n a, ∀ x ∈ lineL c T n a, okC x
  | 0, _, x, hx => by cases hx
  | n + 1, a, x, hx => by
    rw [lineL] at hx
    rcases List.mem_cons.1 hx with rfl | hx
    · exact getD_ok h _
    · exact lineL_ok h T n _ x hx
section
variable (op : Int) (t : Bool) (c : List S43) (T G : Nat)
theorem rwJ_ok (h : ∀ x ∈ c, okC x) (i : Nat) : ∀ n j, ∀ x ∈ rwJ op t c T G i n j, okC x.1
  | 0, _, x, hx => by cases hx
  | n + 1, j, x, hx => by
    rw [rwJ] at hx
    rcases List.mem_cons.1 hx with rfl | hx
    · exact rowS_ok op t _ (lineL_ok h T _ _)
    · exact rwJ_ok h i n (j + 1) x hx
theorem rwI_ok (h : ∀ x ∈ c, okC x) : ∀ n i, ∀ x ∈ rwI op t c T G n i, okC x.1
  | 0, _, x, hx => by cases hx
  | n + 1, i, x, hx => by
    rw [rwI] at hx
    rcases List.mem_append.1 hx with hx | hx
    · exact rwJ_ok op t c T G h i _ _ x hx
    · exact rwI_ok h n (i + 1) x hx
end
/-- What an array folded comes to. -/
def redG (op : Int) (t : Bool) (a : S25) (ax : Nat) : Int × List S43 :=
  goR (rwI op t a.f1 (prodS (a.f0.drop (ax + 1))).toNat (rd a.f0 (ax : Int)).toNat (prodS (a.f0.take ax)).toNat 0) []
def redS (op : Int) (t : Bool) (a : S25) (last : Bool) : List Int × List S43 × Int :=
  if chkS op a = 0 then
    (if a.f0.length = 0 then ((coA a).f0, (coA a).f1, 0)
     else if (sizeS (a.f0.take (fold_Red.ax a.f0 last) ++ a.f0.drop (fold_Red.ax a.f0 last + 1))).2 = 0 then
       (if (redG op t a (fold_Red.ax a.f0 last)).1 = 0 then ((coA ⟨a.f0.take (fold_Red.ax a.f0 last) ++ a.f0.drop (fold_Red.ax a.f0 last + 1), (redG op t a (fold_Red.ax a.f0 last)).2⟩).f0, (coA ⟨a.f0.take (fold_Red.ax a.f0 last) ++ a.f0.drop (fold_Red.ax a.f0 last + 1), (redG op t a (fold_Red.ax a.f0 last)).2⟩).f1, 0)
        else ([], [], (redG op t a (fold_Red.ax a.f0 last)).1))
     else ([], [], (sizeS (a.f0.take (fold_Red.ax a.f0 last) ++ a.f0.drop (fold_Red.ax a.f0 last + 1))).2))
  else ([], [], chkS op a)
theorem chkS_ok {op : Int} {a : S25} (h : chkS op a = 0) : chA a 0 = 0 ∧ 21 ≤ op ∧ op ≤ 32 := by
  unfold chkS at h
  split at h
  · rename_i h0
    split at h
    · rename_i h1; exact ⟨h0, h1⟩
    · cases h
  · rename_i h0; exact absurd h h0
theorem ch_size {a : S25} (h : chA a 0 = 0) : (sizeS a.f0).2 = 0 ∧ (sizeS a.f0).1 = (a.f1.length : Int) := by
  obtain ⟨s, c⟩ := a
  rw [chA] at h
  by_cases h1 : (sizeS s).2 = 0
  · rw [if_pos h1] at h
    by_cases h2 : (sizeS s).1 = (c.length : Int)
    · exact ⟨h1, h2⟩
    · rw [if_neg h2] at h; cases h
  · rw [if_neg h1] at h; exact absurd h h1
theorem ax_lt (s : List Int) (last : Bool) (h : s.length ≠ 0) : fold_Red.ax s last < s.length := by
  unfold fold_Red.ax
  split <;> omega
/-- A shape, taken apart at an axis. -/
structure Axis (s : List Int) (c : List S43) (ax O T G : Nat) : Prop where
  o : prodS (s.take ax) = (O : Int)
  t : prodS (s.drop (ax + 1)) = (T : Int)
  g : rd s (ax : Int) = (G : Int)
  len : O * T * G = c.length
  ot : O * T ≤ 4000
  o1 : O ≤ 4000
  t1 : T ≤ 4000
  g1 : G ≤ 4000
  wo : fold_lines.wp 1 (s.take ax) = (O : Int)
  wt : fold_lines.wp 1 (s.drop (ax + 1)) = (T : Int)
theorem split_at (s : List Int) (ax : Nat) (h : ax < s.length) : s = s.take ax ++ rd s (ax : Int) :: s.drop (ax + 1) := by
  have e : rd s (ax : Int) = s[ax] := by simp [rd, List.getElem?_eq_getElem h]
  rw [e, List.getElem_cons_drop, List.take_append_drop]
theorem prodS_app (a b : List Int) : prodS (a ++ b) = prodS a * prodS b := by
  induction a with
  | nil => rw [List.nil_append, prodS, Int.one_mul]
  | cons d a ih => rw [List.cons_append, prodS, prodS, ih, Int.mul_assoc]
theorem axis_of {s : List Int} {c : List S43} {ax : Nat} (hs : (sizeS s).2 = 0) (hc : (sizeS s).1 = (c.length : Int)) (hn : nrS 1 20 s = true) (hax : ax < s.length) : ∃ O T G, Axis s c ax O T G := by
  obtain ⟨hp, hnn⟩ := size_prod hs
  have h8 := sizeS_len hs
  have hnp : np s ≤ 4000 := by have := nr_np s 1 20 (by omega) (by decide) (by decide) hn; omega
  have e := split_at s ax hax
  generalize hu : s.take ax = u at *
  generalize hv : s.drop (ax + 1) = v at *
  generalize hd : rd s (ax : Int) = d at *
  have hu0 : ∀ x ∈ u, 0 ≤ x := fun x hx => hnn x (by rw [e]; simp [hx])
  have hv0 : ∀ x ∈ v, 0 ≤ x := fun x hx => hnn x (by rw [e]; simp [hx])
  have hd0 : 0 ≤ d := hnn d (by rw [e]; simp)
  have e1 : np s = np u * (mx d * np v) := by rw [e, np_append, np]
  have e2 : prodS s = prodS u * (d * prodS v) := by rw [e, prodS_app, prodS]
  have pu := np_pos u
  have pv := np_pos v
  have pd := mx_pos d
  obtain ⟨u0, u1⟩ := prod_np u hu0
  obtain ⟨v0, v1⟩ := prod_np v hv0
  have b1 : 1 ≤ mx d * np v := by have := Int.mul_le_mul pd.1 pv (by omega) (by omega); omega
  have bu : np u ≤ 4000 := by have := Int.mul_le_mul_of_nonneg_left b1 (show 0 ≤ np u by omega); omega
  have bdv : mx d * np v ≤ 4000 := by have := Int.mul_le_mul_of_nonneg_right pu (show 0 ≤ mx d * np v by omega); omega
  have bd : mx d ≤ 4000 := by have := Int.mul_le_mul_of_nonneg_left pv (show 0 ≤ mx d by omega); omega
  have bv : np v ≤ 4000 := by have := Int.mul_le_mul_of_nonneg_right pd.1 (show 0 ≤ np v by omega); omega
  have buv : np u * np v ≤ 4000 := by
    have h1 : 1 * np v ≤ mx d * np v := Int.mul_le_mul_of_nonneg_right pd.1 (by omega)
    rw [Int.one_mul] at h1
    have := Int.mul_le_mul_of_nonneg_left h1 (show 0 ≤ np u by omega)
    omega
  have bpp : prodS u * prodS v ≤ 4000 := Int.le_trans (Int.mul_le_mul u1 v1 v0 (by omega)) buv
  obtain ⟨O, hO⟩ := Int.eq_ofNat_of_zero_le u0
  obtain ⟨T, hT⟩ := Int.eq_ofNat_of_zero_le v0
  obtain ⟨G, hG⟩ := Int.eq_ofNat_of_zero_le hd0
  refine ⟨O, T, G, by rw [hu]; exact hO, by rw [hv]; exact hT, by rw [hd]; exact hG, ?_, ?_, by omega, by omega, by omega, by rw [hu, wp_prod u 1 hu0 (by decide) (by omega), Int.one_mul, hO], by rw [hv, wp_prod v 1 hv0 (by decide) (by omega), Int.one_mul, hT]⟩
  · have h1 : ((O * T * G : Nat) : Int) = (c.length : Int) := by
      rw [← hc, hp, e2, hO, hT, hG]
      push_cast
      rw [Int.mul_assoc, Int.mul_comm (T : Int)]
    omega
  · have h1 : ((O * T : Nat) : Int) ≤ 4000 := by
      rw [hO, hT] at bpp
      push_cast
      exact bpp
    omega
theorem wf_mem {s : List Int} (h : ∀ y ∈ s, (Lit.int .i64 y).wf = true) (ax : Nat) : ∀ y ∈ s.take ax ++ s.drop (ax + 1), (Lit.int .i64 y).wf = true := by
  intro y hy
  rcases List.mem_append.1 hy with hy | hy
  · exact h y (List.mem_of_mem_take hy)
  · exact h y (List.mem_of_mem_drop hy)
theorem red_eq (op : Int) (t : Bool) (a : S25) (last : Bool) (h : okA a) (hc : a.f1.length ≤ 16384) (hn : nrS 1 20 a.f0 = true) : ∃ K, ∀ k, K ≤ k → fold_Red.f k op t a.f0 a.f1 last = some (redS op t a last) := by
  obtain ⟨K0, h0⟩ := checked_eq op t a h
  by_cases hk : chkS op a = 0
  rotate_left
  · refine ⟨K0, fun k hk2 => ?_⟩
    unfold fold_Red.f redS
    rw [show [(⟨a.f0, a.f1⟩ : S25)] = [a] by rw [etaA], h0 k hk2, Option.bind_some, if_neg hk, if_neg hk]
  obtain ⟨hch, ho1, ho2⟩ := chkS_ok hk
  obtain ⟨hs, hsz⟩ := ch_size hch
  have h8 := sizeS_len hs
  by_cases hl : a.f0.length = 0
  · obtain ⟨K1, h1⟩ := copy_eq a h
    refine ⟨K0 + K1, fun k hk2 => ?_⟩
    unfold fold_Red.f redS
    rw [show [(⟨a.f0, a.f1⟩ : S25)] = [a] by rw [etaA], h0 k (by omega), Option.bind_some, if_pos hk, if_pos hk, if_pos hl, if_pos hl, h1 k (by omega), Option.bind_some]
  have hax := ax_lt a.f0 last hl
  generalize hx : fold_Red.ax a.f0 last = ax at hax
  obtain ⟨O, T, G, A⟩ := axis_of hs hsz hn hax
  generalize hz : a.f0.take ax ++ a.f0.drop (ax + 1) = z
  obtain ⟨K1, h1⟩ := size_eq z
  have hunf : ∀ k, K0 ≤ k → fold_Red.f k op t a.f0 a.f1 last = fold_Red.g k op t a.f0 z a.f1 ax := by
    intro k hk2
    unfold fold_Red.f
    rw [show [(⟨a.f0, a.f1⟩ : S25)] = [a] by rw [etaA], h0 k hk2, Option.bind_some, if_pos hk, if_neg hl, if_pos (by omega), hx, hz]
  by_cases hzs : (sizeS z).2 = 0
  rotate_left
  · refine ⟨K0 + K1, fun k hk2 => ?_⟩
    rw [hunf k (by omega)]
    unfold fold_Red.g redS
    rw [h1 k (by omega), Option.bind_some, if_neg hzs, if_pos hk, if_neg hl, hx, hz, if_neg hzs]
  have hok : ∀ x ∈ a.f1, okC x := by
    obtain ⟨s, c⟩ := a
    rw [okA] at h
    exact okCs_iff.1 h.2.2
  obtain ⟨K2, h2⟩ := li_eqR op t a.f1 T G (fun x hx => okC_i64 (hok x hx)) hc (by have := A.g1; omega) (O := O) (by have := A.ot; omega) (by have := A.o1; omega) (by have := A.t1; omega) A.len O 0 [] (by omega) (by have := A.ot; simp; omega)
  have hG : redG op t a ax = goR (rwI op t a.f1 T G O 0) [] := by
    unfold redG
    rw [A.o, A.t, A.g, Int.toNat_natCast, Int.toNat_natCast, Int.toNat_natCast]
  have hfl : fold_lines.f a.f0 (ax : Int) = some ((O : Int), (T : Int), (G : Int)) := by
    unfold fold_lines.f
    rw [if_pos ⟨by omega, by omega⟩, Int.toNat_natCast, A.wo, A.wt, A.g]
  have hgo : ∀ k, K0 + K1 + K2 ≤ k → fold_Red.f k op t a.f0 a.f1 last = fold_Red.end_ k z (redG op t a ax) := by
    intro k hk2
    rw [hunf k (by omega)]
    unfold fold_Red.g
    rw [h1 k (by omega), Option.bind_some, if_pos hzs, hfl, Option.bind_some]
    dsimp only
    rw [if_pos ⟨by have := A.o1; omega, by have := A.t1; omega⟩, Int.toNat_natCast, h2 k (by omega), Option.bind_some, ← hG]
  have hred : redS op t a last = if (redG op t a ax).1 = 0 then ((coA ⟨z, (redG op t a ax).2⟩).f0, (coA ⟨z, (redG op t a ax).2⟩).f1, 0) else ([], [], (redG op t a ax).1) := by
    unfold redS
    rw [if_pos hk, if_neg hl, hx, hz, if_pos hzs]
  rw [hred]
  by_cases he : (redG op t a ax).1 = 0
  · have hrl : (redG op t a ax).2.length ≤ 4000 := by
      rw [hG] at he ⊢
      rw [goR_len _ _ he, rwI_len]
      have := A.ot
      simp
      omega
    have hro : ∀ x ∈ (redG op t a ax).2, okC x := by
      rw [hG]
      exact goR_ok _ _ (rwI_ok op t a.f1 T G hok O 0) (fun _ hx => by cases hx)
    have hz8 : z.length ≤ 8 := sizeS_len hzs
    have hokz : okA ⟨z, (redG op t a ax).2⟩ := by
      rw [okA]
      refine ⟨⟨by unfold reachBytes; omega, ?_⟩, by unfold reachBytes; omega, okCs_iff.2 hro⟩
      rw [← hz]
      obtain ⟨s, c⟩ := a
      rw [okA] at h
      exact wf_mem h.1.2 ax
    obtain ⟨K3, h3⟩ := copy_eq _ hokz
    refine ⟨K0 + K1 + K2 + K3, fun k hk2 => ?_⟩
    rw [hgo k (by omega)]
    unfold fold_Red.end_
    rw [if_pos he, if_pos he, h3 k (by omega), Option.bind_some]
  · refine ⟨K0 + K1 + K2, fun k hk2 => ?_⟩
    rw [hgo k hk2]
    unfold fold_Red.end_
    rw [if_neg he, if_neg he]
end Go.Proofs.Ytahgfebdjjfkhaa.Pure
namespace Go.Proofs.Ytahgfebdjjfkhaa.Pure
open Go.RowKit Go.Proofs.Ytahgfebdjjfkhaa.P Go.Proofs.Ytahgfebdjjfkhaa.Nest Go.Proofs.YtahgfebdjjfkhaaW.PrintWords Go.Proofs.YtahgfebdjjfkhaaW.PrintLast Go.Proofs.YtahgfebdjjfkhaaW.PrintMore
set_option linter.unusedVariables false
set_option linter.unusedSimpArgs false
def mmS (op a b : Int) : Int := if op = 24 then (if b < a then b else a) else (if a < b then b else a)
theorem mm_comm (op a b : Int) : mmS op a b = mmS op b a := by unfold mmS; (repeat' split) <;> omega
theorem mm_assoc (op a b c : Int) : mmS op (mmS op a b) c = mmS op a (mmS op b c) := by unfold mmS; (repeat' split) <;> omega
theorem of_mm {op : Int} (h : op = 24 ∨ op = 25) (t : Bool) (x y : S43) : ofS op t x y = if x.f0 = 0 ∧ y.f0 = 0 then (mmS op x.f1 y.f1, 0) else (0, 5) := by
  have key : ∀ a b : S43, celS op a b = if a.f0 = 0 ∧ b.f0 = 0 then (mmS op a.f1 b.f1, 0) else (0, 5) := by
    intro a b
    unfold celS
    rw [if_neg (by omega), if_neg (by omega)]
    by_cases h0 : a.f0 = 0 ∧ b.f0 = 0
    · rw [if_pos h0, if_neg (by omega)]
      rcases h with h | h
      · subst h; rfl
      · subst h; rfl
    · rw [if_neg h0, if_pos (by omega)]
  unfold ofS
  split
  · rw [key, mm_comm]
    by_cases h0 : x.f0 = 0 ∧ y.f0 = 0
    · rw [if_pos h0, if_pos ⟨h0.2, h0.1⟩]
    · rw [if_neg h0, if_neg (fun e => h0 ⟨e.2, e.1⟩)]
  · exact key x y
def okN (l : List S43) : Bool := l.all (fun x => decide (x.f0 = 0))
theorem run_mm {op : Int} (h : op = 24 ∨ op = 25) (t : Bool) : ∀ (m tl : List S43) (c : S43), m ≠ [] → runR op t (m ++ tl) m.length c = if c.f0 = 0 ∧ okN m = true then (numC (m.foldr (fun x r => mmS op x.f1 r) c.f1), 0) else (z43, 5) := by
  intro m
  generalize hn : m.length = n
  induction n generalizing m with
  | zero => intro tl c hm; exact absurd (List.eq_nil_of_length_eq_zero hn) hm
  | succ n ih =>
    intro tl c hm
    obtain ⟨m2, x, rfl⟩ : ∃ m2 x, m = m2 ++ [x] := ⟨m.dropLast, m.getLast hm, (List.dropLast_concat_getLast hm).symm⟩
    have hn2 : m2.length = n := by simpa using hn
    rw [runR, show ((m2 ++ [x]) ++ tl).getD n z43 = x by rw [← hn2]; simp, of_mm h]
    have hok : okN (m2 ++ [x]) = (okN m2 && decide (x.f0 = 0)) := by unfold okN; simp
    rw [hok]
    by_cases h0 : x.f0 = 0 ∧ c.f0 = 0
    · rw [if_pos h0, if_pos rfl]
      cases m2 with
      | nil =>
        subst hn2
        rw [List.length_nil, runR, if_pos ⟨h0.2, by rw [h0.1]; rfl⟩]
        rfl
      | cons y ys =>
        rw [List.append_assoc, ih (y :: ys) hn2 ([x] ++ tl) (numC (mmS op x.f1 c.f1)) (by simp), List.foldr_append]
        have e1 : (numC (mmS op x.f1 c.f1)).f0 = 0 := rfl
        have e2 : (numC (mmS op x.f1 c.f1)).f1 = mmS op x.f1 c.f1 := rfl
        rw [e2]
        simp only [e1, h0.1, h0.2, true_and, decide_true, Bool.and_true, List.foldr_cons, List.foldr_nil]
    · rw [if_neg h0, if_neg (by decide : ¬ ((5 : Int) = 0)), if_neg (by
        intro e
        have := e.2
        simp only [Bool.and_eq_true, decide_eq_true_eq] at this
        exact h0 ⟨this.2, e.1⟩)]
theorem fold_swap (op : Int) : ∀ (m : List Int) (a b : Int), mmS op a (m.foldr (fun x r => mmS op x r) b) = mmS op b (m.foldl (fun r x => mmS op x r) a)
  | [], a, b => by rw [List.foldr_nil, List.foldl_nil, mm_comm]
  | y :: m, a, b => by
    rw [List.foldr_cons, List.foldl_cons, ← fold_swap op m (mmS op y a) b, ← mm_assoc, mm_comm op a y]
theorem nums_rev : ∀ (l : List S43), numsS l = if okN l = true then some (l.map (·.f1)) else none
  | [] => rfl
  | x :: r => by
    rw [numsS, nums_rev r]
    unfold okN
    rw [List.all_cons]
    by_cases h : x.f0 = 0
    · rw [if_pos h, decide_eq_true h, Bool.true_and]
      split <;> rfl
    · rw [if_neg h, decide_eq_false h, Bool.false_and, if_neg (by decide)]
theorem okN_rev (l : List S43) : okN l.reverse = okN l := by unfold okN; rw [List.all_reverse]
theorem pr_rev (l : List Int) : pr l.reverse = pr l := by
  have ha : ∀ a b : List Int, pr (a ++ b) = pr a * pr b := by
    intro a b
    unfold pr
    induction a with
    | nil => simp
    | cons x a ih => simp only [List.cons_append, List.foldr_cons, ih, Int.mul_assoc]
  induction l with
  | nil => rfl
  | cons x l ih =>
    rw [List.reverse_cons, ha, ih, Int.mul_comm]
    unfold pr
    simp
theorem sum_rev (l : List Int) : l.reverse.sum = l.sum := by
  induction l with
  | nil => rfl
  | cons x l ih => rw [List.reverse_cons, List.sum_append, ih, List.sum_cons, List.sum_cons, List.sum_nil]; omega
theorem rowS_rev {op : Int} (h : op = 21 ∨ op = 23 ∨ op = 24 ∨ op = 25) (l : List S43) : rowS op true l.reverse = rowS op false l := by
  unfold rowS
  rw [List.length_reverse]
  by_cases h1 : l.length = 1
  · rw [if_pos h1, if_pos h1]
    obtain ⟨x, rfl⟩ := List.length_eq_one_iff.1 h1
    rfl
  rw [if_neg h1, if_neg h1]
  by_cases h0 : l.length = 0
  · rw [if_pos h0, if_pos h0]
  rw [if_neg h0, if_neg h0]
  by_cases h2 : op = 21 ∨ op = 23
  · rw [if_pos h2, if_pos h2, nums_rev, nums_rev, okN_rev, List.map_reverse]
    by_cases hk : okN l = true
    · rw [if_pos hk, if_pos hk]
      dsimp only
      rw [pr_rev, sum_rev]
    · rw [if_neg hk, if_neg hk]
  rw [if_neg h2, if_neg h2]
  have h3 : op = 24 ∨ op = 25 := by omega
  obtain ⟨x, m, y, rfl⟩ : ∃ x m y, l = x :: (m ++ [y]) := by
    cases l with
    | nil => exact absurd rfl h0
    | cons x r =>
      have hr : r ≠ [] := by intro e; subst e; exact h1 rfl
      exact ⟨x, r.dropLast, r.getLast hr, by rw [List.dropLast_concat_getLast]⟩
  have er : (x :: (m ++ [y])).reverse = (y :: m.reverse) ++ [x] := by simp
  have el : x :: (m ++ [y]) = (x :: m) ++ [y] := by simp
  have hlen : (x :: (m ++ [y])).length - 1 = m.length + 1 := by simp
  rw [hlen, er]
  have g1 : ((y :: m.reverse) ++ [x]).getD (m.length + 1) z43 = x := by
    have : m.length + 1 = (y :: m.reverse).length := by simp
    rw [this]
    simp
  have g2 : (x :: (m ++ [y])).getD (m.length + 1) z43 = y := by simp
  rw [g1, g2, el]
  have r1 := run_mm h3 true (y :: m.reverse) [x] x (by simp)
  have r2 := run_mm h3 false (x :: m) [y] y (by simp)
  rw [show (y :: m.reverse).length = m.length + 1 by simp] at r1
  rw [show (x :: m).length = m.length + 1 by simp] at r2
  rw [r1, r2]
  have k1 : okN (y :: m.reverse) = (decide (y.f0 = 0) && okN m) := by
    have : okN (y :: m.reverse) = (decide (y.f0 = 0) && okN m.reverse) := by unfold okN; rw [List.all_cons]
    rw [this, okN_rev]
  have k2 : okN (x :: m) = (decide (x.f0 = 0) && okN m) := by unfold okN; rw [List.all_cons]
  rw [k1, k2]
  have hf : ∀ (q : List S43) (b : Int), q.foldr (fun x r => mmS op x.f1 r) b = (q.map (·.f1)).foldr (fun x r => mmS op x r) b := by
    intro q b
    induction q with
    | nil => rfl
    | cons z q ih => rw [List.foldr_cons, List.map_cons, List.foldr_cons, ih]
  rw [hf, hf, List.map_cons, List.map_cons, List.map_reverse, List.foldr_cons, List.foldr_cons, List.foldr_reverse, fold_swap op (m.map (·.f1)) x.f1 y.f1]
  by_cases hx : x.f0 = 0
  · by_cases hy : y.f0 = 0
    · simp only [hx, hy, decide_true, Bool.true_and, true_and]
    · rw [if_neg (by intro e; have := e.2; simp [hy] at this), if_neg (fun e => hy e.1)]
  · rw [if_neg (fun e => hx e.1), if_neg (by intro e; have := e.2; simp [hx] at this)]
def phi (I D p : Nat) : Nat := p / (D * I) * (D * I) + ((D - 1 - p % (D * I) / I) * I + p % (D * I) % I)
theorem phi_parts (I D q j r : Nat) (hI : r < I) (hD : j < D) : phi I D (q * (D * I) + (j * I + r)) = q * (D * I) + ((D - 1 - j) * I + r) := by
  have h1 : j * I + r < D * I := by
    have : (j + 1) * I ≤ D * I := Nat.mul_le_mul_right _ hD
    rw [Nat.succ_mul] at this
    omega
  unfold phi
  rw [show q * (D * I) + (j * I + r) = (j * I + r) + D * I * q by rw [Nat.mul_comm q, Nat.add_comm], Nat.add_mul_div_left _ _ (by omega), Nat.div_eq_of_lt h1, Nat.add_mul_mod_self_left, Nat.mod_eq_of_lt h1, show j * I + r = r + I * j by rw [Nat.mul_comm j, Nat.add_comm], Nat.add_mul_div_left _ _ (by omega), Nat.div_eq_of_lt hI, Nat.add_mul_mod_self_left, Nat.mod_eq_of_lt hI]
  simp
theorem phi_lt (I D o p : Nat) (hI : 0 < I) (hD : 0 < D) (hp : p < o * (D * I)) : phi I D p < o * (D * I) ∧ phi I D (phi I D p) = p := by
  have hDI : 0 < D * I := Nat.mul_pos hD hI
  have e1 : p = p / (D * I) * (D * I) + (p % (D * I) / I * I + p % (D * I) % I) := by
    rw [Nat.div_add_mod', Nat.div_add_mod']
  have hq : p / (D * I) < o := (Nat.div_lt_iff_lt_mul hDI).2 hp
  have hj : p % (D * I) / I < D := (Nat.div_lt_iff_lt_mul hI).2 (Nat.mod_lt _ hDI)
  have hr : p % (D * I) % I < I := Nat.mod_lt _ hI
  generalize p / (D * I) = q at *
  generalize p % (D * I) / I = j at *
  generalize p % (D * I) % I = r at *
  subst e1
  rw [phi_parts I D q j r hr hj, phi_parts I D q (D - 1 - j) r hr (by omega), show D - 1 - (D - 1 - j) = j by omega]
  refine ⟨?_, rfl⟩
  have h2 : (q + 1) * (D * I) ≤ o * (D * I) := Nat.mul_le_mul_right _ hq
  have h3 : (D - 1 - j + 1) * I ≤ D * I := Nat.mul_le_mul_right _ (by omega)
  rw [Nat.succ_mul] at h2 h3
  omega
theorem hv_snoc : ∀ (l s : List Int) (a d : Int), l.length = s.length → hv (l ++ [a]) (s ++ [d]) = hv l s * d + a
  | [], [], a, d, _ => by simp [hv, prodS]
  | x :: l, e :: s, a, d, h => by
    simp only [List.length_cons] at h
    rw [List.cons_append, List.cons_append, hv, hv, hv_snoc l s a d (by omega), prodS_app]
    simp only [prodS, Int.mul_one, Int.add_mul]
    rw [show x * prodS s * d = x * (prodS s * d) from Int.mul_assoc _ _ _]
    omega
  | [], _ :: _, _, _, h => by simp at h
  | _ :: _, [], _, _, h => by simp at h
def trL (c : List S43) (T G : Nat) : Nat → Nat → List S43
  | 0, _ => []
  | m + 1, i => c.getD (phi T G i) z43 :: trL c T G m (i + 1)
theorem trL_len (c : List S43) (T G : Nat) : ∀ m i, (trL c T G m i).length = m
  | 0, _ => rfl
  | m + 1, i => by rw [trL, List.length_cons, trL_len c T G m]
theorem trL_get (c : List S43) (T G : Nat) : ∀ m i j, j < m → (trL c T G m i).getD j z43 = c.getD (phi T G (i + j)) z43
  | 0, _, _, h => by omega
  | m + 1, i, 0, _ => by rw [trL]; simp
  | m + 1, i, j + 1, h => by
    rw [trL, List.getD_cons_succ, trL_get c T G m (i + 1) j (by omega)]
    congr 2
    omega
def turnL (c : List S43) (T G : Nat) : List S43 := trL c T G c.length 0
theorem turnL_len (c : List S43) (T G : Nat) : (turnL c T G).length = c.length := trL_len _ _ _ _ _
theorem turn_line {c : List S43} {O T G i j : Nat} (hl : O * T * G = c.length) (hi : i < O) (hj : j < T) : lineL (turnL c T G) T G (i * T * G + j) = (lineL c T G (i * T * G + j)).reverse := by
  apply List.ext_getElem?
  intro m
  by_cases hm : m < G
  · rw [lineL_get _ _ _ _ _ hm, List.getElem?_reverse (by rw [lineL_len]; exact hm), lineL_len, lineL_get _ _ _ _ _ (by omega)]
    have hlt : i * T * G + j + m * T < c.length := by rw [← hl]; exact idx_lt hi hj hm
    unfold turnL
    rw [trL_get _ _ _ _ _ _ hlt, Nat.zero_add, show i * T * G + j + m * T = i * (G * T) + (m * T + j) by rw [Nat.mul_assoc, Nat.mul_comm T G]; omega, phi_parts T G i m j hj hm]
    congr 2
    rw [Nat.mul_assoc, Nat.mul_comm T G]
    omega
  · rw [List.getElem?_eq_none (by rw [lineL_len]; omega), List.getElem?_eq_none (by rw [List.length_reverse, lineL_len]; omega)]
theorem rwJ_turn {op : Int} (h : op = 21 ∨ op = 23 ∨ op = 24 ∨ op = 25) {c : List S43} {O T G i : Nat} (hl : O * T * G = c.length) (hi : i < O) : ∀ n j, j + n = T → rwJ op true (turnL c T G) T G i n j = rwJ op false c T G i n j
  | 0, _, _ => rfl
  | n + 1, j, hj => by rw [rwJ, rwJ, turn_line hl hi (by omega), rowS_rev h, rwJ_turn h hl hi n (j + 1) (by omega)]
theorem rwI_turn {op : Int} (h : op = 21 ∨ op = 23 ∨ op = 24 ∨ op = 25) {c : List S43} {O T G : Nat} (hl : O * T * G = c.length) : ∀ n i, i + n = O → rwI op true (turnL c T G) T G n i = rwI op false c T G n i
  | 0, _, _ => rfl
  | n + 1, i, hi => by rw [rwI, rwI, rwJ_turn h hl (by omega) T 0 (by omega), rwI_turn h hl n (i + 1) (by omega)]
theorem turn_mem {c : List S43} {O T G : Nat} (hl : O * T * G = c.length) : ∀ x ∈ turnL c T G, x ∈ c := by
  have h1 : ∀ m i, i + m = c.length → ∀ x ∈ trL c T G m i, x ∈ c := by
    intro m
    induction m with
    | zero => intro i _ x hx; cases hx
    | succ m ih =>
      intro i hi x hx
      rw [trL] at hx
      rcases List.mem_cons.1 hx with rfl | hx
      · apply getD_mem
        have hl2 : O * (G * T) = c.length := by rw [← hl, Nat.mul_assoc, Nat.mul_comm T G]
        have hpos : 0 < O * T * G := by omega
        have hG : 0 < G := Nat.pos_of_mul_pos_left hpos
        have hT : 0 < T := Nat.pos_of_mul_pos_left (Nat.pos_of_mul_pos_right hpos)
        rw [← hl2]
        exact (phi_lt T G O i hT hG (by omega)).1
      · exact ih (i + 1) (by omega) x hx
  exact h1 _ 0 (by omega)
theorem chCs_of {d : Nat} : ∀ {c : List S43}, (∀ x ∈ c, chC x d = 0) → chCs c d = 0
  | [], _ => rfl
  | x :: xs, h => by
    rw [chCs, if_pos (h x List.mem_cons_self)]
    exact chCs_of (fun y hy => h y (List.mem_cons_of_mem _ hy))
theorem chCs_mem : ∀ {c : List S43} {d : Nat}, chCs c d = 0 → ∀ x ∈ c, chC x d = 0
  | [], _, _, x, hx => by cases hx
  | y :: ys, d, h, x, hx => by
    rw [chCs] at h
    split at h
    · rename_i h0
      rcases List.mem_cons.1 hx with rfl | hx
      · exact h0
      · exact chCs_mem h x hx
    · rename_i h0; exact absurd h h0
theorem ch_turn {s : List Int} {c c' : List S43} (h : chA ⟨s, c⟩ 0 = 0) (hl : c'.length = c.length) (hm : ∀ x ∈ c', x ∈ c) : chA ⟨s, c'⟩ 0 = 0 := by
  rw [chA] at h ⊢
  by_cases h1 : (sizeS s).2 = 0
  · rw [if_pos h1] at h ⊢
    by_cases h2 : (sizeS s).1 = (c.length : Int)
    · rw [if_pos h2] at h
      rw [hl, if_pos h2]
      split at h
      · cases h
      · rename_i h3
        rw [if_neg h3]
        exact chCs_of (fun x hx => chCs_mem h x (hm x hx))
    · rw [if_neg h2] at h; cases h
  · rw [if_neg h1] at h; exact absurd h h1
theorem red_turn {op : Int} (h : op = 21 ∨ op = 23 ∨ op = 24 ∨ op = 25) {s : List Int} {c : List S43} {last : Bool} {O T G : Nat} (hch : chA ⟨s, c⟩ 0 = 0) (hs : s.length ≠ 0) (A : Axis s c (fold_Red.ax s last) O T G) : redS op true ⟨s, turnL c T G⟩ last = redS op false ⟨s, c⟩ last := by
  have hb := ch_turn hch (turnL_len c T G) (turn_mem A.len)
  have e1 : chkS op ⟨s, turnL c T G⟩ = 0 := by unfold chkS; rw [if_pos hb, if_pos (by omega)]
  have e2 : chkS op ⟨s, c⟩ = 0 := by unfold chkS; rw [if_pos hch, if_pos (by omega)]
  have e3 : redG op true ⟨s, turnL c T G⟩ (fold_Red.ax s last) = redG op false ⟨s, c⟩ (fold_Red.ax s last) := by
    unfold redG
    dsimp only
    rw [A.o, A.t, A.g, Int.toNat_natCast, Int.toNat_natCast, Int.toNat_natCast, rwI_turn h A.len O 0 (by omega)]
  unfold redS
  dsimp only
  rw [if_pos e1, if_pos e2, if_neg hs, if_neg hs, e3]
theorem rf_ok : ∀ (s : List Int) (n : Int), (∀ d ∈ s, 1 ≤ d) → 0 ≤ n → n < prodS s → within (rf s n) s ∧ hv (rf s n) s = n
  | [], n, _, h0, h1 => by
    rw [prodS] at h1
    rw [rf, within]
    refine ⟨trivial, ?_⟩
    simp only [hv]
    omega
  | d :: s, n, h, h0, h1 => by
    have hs := fun x hx => h x (List.mem_cons_of_mem _ hx)
    have hP := prodS_pos hs
    have hm0 : 0 ≤ n % prodS s := Int.emod_nonneg _ (by omega)
    have hm1 : n % prodS s < prodS s := Int.emod_lt_of_pos _ (by omega)
    obtain ⟨a1, a2⟩ := rf_ok s (n % prodS s) hs hm0 hm1
    rw [prodS] at h1
    rw [rf, within, hv, a2]
    refine ⟨⟨⟨Int.ediv_nonneg h0 (by omega), Int.ediv_lt_of_lt_mul (by omega) h1⟩, a1⟩, ?_⟩
    have := Int.mul_ediv_add_emod n (prodS s)
    rw [Int.mul_comm] at this
    exact this
theorem within_snoc : ∀ {l s : List Int} {a d : Int}, within l s → 0 ≤ a → a < d → within (l ++ [a]) (s ++ [d])
  | [], [], a, d, _, h0, h1 => by
    show (0 ≤ a ∧ a < d) ∧ within [] []
    exact ⟨⟨h0, h1⟩, trivial⟩
  | x :: l, y :: s, a, d, h, h0, h1 => by
    rw [within] at h
    show (0 ≤ x ∧ x < y) ∧ within (l ++ [a]) (s ++ [d])
    exact ⟨h.1, within_snoc h.2 h0 h1⟩
  | [], _ :: _, _, _, h, _, _ => by cases h
  | _ :: _, [], _, _, h, _, _ => by cases h
theorem place_of {s l : List Int} (hs : (sizeS s).2 = 0) (hl : l.length = s.length) (hw : within l s) (hp : prodS s ≤ 16384) : placeS s l = (hv l s, 0) := by
  unfold placeS
  rw [if_pos hs, if_pos hl, plc_of hw (by decide) (by omega)]
  simp
def frm (s at' : List Int) (last : Bool) : List Int := at'.set (fold_Red.ax s last) (wrap64 (wrap64 (rd s (fold_Red.ax s last : Int) - 1) - rd at' (fold_Red.ax s last : Int)))
theorem frm_place {s : List Int} {c : List S43} {last : Bool} {O T G : Nat} (hs : (sizeS s).2 = 0) (hc : (sizeS s).1 = (c.length : Int)) (hc2 : c.length ≤ 16384) (hl : s.length ≠ 0) (A : Axis s c (fold_Red.ax s last) O T G) (i : Nat) (hi : i < c.length) :
    placeS s (frm s (dg s (i : Int)).1 last) = (((phi T G i : Nat) : Int), 0) ∧ phi T G i < c.length := by
  have hpos : 0 < (sizeS s).1 := by omega
  obtain ⟨hp1, hpe, _⟩ := sizeS_ok hs hpos
  have hlen := A.len
  have hOTG : 0 < O * T * G := by omega
  have hG : 0 < G := Nat.pos_of_mul_pos_left hOTG
  have hT : 0 < T := Nat.pos_of_mul_pos_left (Nat.pos_of_mul_pos_right hOTG)
  have hl2 : O * (G * T) = c.length := by rw [← hlen, Nat.mul_assoc, Nat.mul_comm T G]
  have hlt := (phi_lt T G O i hT hG (by omega)).1
  refine ⟨?_, by omega⟩
  have hg := A.g
  have ho := A.o
  have ht := A.t
  have hps : prodS s = (c.length : Int) := by omega
  have hgl : G ≤ c.length := by rw [← hlen]; exact Nat.le_mul_of_pos_left G (Nat.mul_pos (Nat.pos_of_mul_pos_right (Nat.pos_of_mul_pos_right hOTG)) hT)
  have hfl : (frm s (dg s (i : Int)).1 last).length = s.length := by unfold frm; rw [List.length_set, dg_len]
  cases last with
  | false =>
    obtain ⟨d, v, rfl⟩ : ∃ d v, s = d :: v := by
      cases s with
      | nil => exact absurd rfl hl
      | cons d v => exact ⟨d, v, rfl⟩
    have hax : fold_Red.ax (d :: v) false = 0 := rfl
    rw [hax] at hg ho ht
    have hv0 : ∀ x ∈ v, 1 ≤ x := fun x hx => hp1 x (List.mem_cons_of_mem _ hx)
    have hd : d = (G : Int) := hg
    have hpv : prodS v = (T : Int) := ht
    have hO1 : O = 1 := by
      have : (1 : Int) = (O : Int) := ho
      omega
    subst hO1
    have h1 : (i : Int) < (G : Int) * (T : Int) := by
      have : i < G * T := by omega
      rw [← Int.natCast_mul]
      omega
    have hdg : (dg (d :: v) (i : Int)).1 = (i : Int) / prodS v :: rf v ((i : Int) % prodS v) := by
      rw [dg_low _ _ hp1 (by omega) (by rw [hps]; omega), rf]
    have hq0 : 0 ≤ (i : Int) / (T : Int) := Int.ediv_nonneg (by omega) (by omega)
    have hq1 : (i : Int) / (T : Int) < (G : Int) := Int.ediv_lt_of_lt_mul (by omega) h1
    have hf : frm (d :: v) (dg (d :: v) (i : Int)).1 false = ((G : Int) - 1 - (i : Int) / (T : Int)) :: rf v ((i : Int) % (T : Int)) := by
      unfold frm
      rw [hax, hdg, hpv]
      show List.set _ 0 (wrap64 (wrap64 (d - 1) - (i : Int) / (T : Int))) = _
      rw [List.set_cons_zero, hd, wrap_in (x := (G : Int) - 1) (by omega) (by omega), wrap_in (by omega) (by omega)]
    have hm0 : 0 ≤ (i : Int) % (T : Int) := Int.emod_nonneg _ (by omega)
    have hm1 : (i : Int) % (T : Int) < (T : Int) := Int.emod_lt_of_pos _ (by omega)
    obtain ⟨w1, w2⟩ := rf_ok v ((i : Int) % (T : Int)) hv0 hm0 (by rw [hpv]; exact hm1)
    rw [hf] at hfl ⊢
    rw [place_of hs hfl (by rw [within, hd]; exact ⟨⟨by omega, by omega⟩, w1⟩) (by omega), hv, w2, hpv]
    have e : phi T G i = (G - 1 - i / T) * T + i % T := by
      unfold phi
      have hi2 : i < G * T := by omega
      rw [Nat.div_eq_of_lt hi2, Nat.mod_eq_of_lt hi2, Nat.zero_mul, Nat.zero_add]
    have hqn : i / T < G := (Nat.div_lt_iff_lt_mul hT).2 (by omega)
    rw [e, Int.natCast_add, Int.natCast_mul, Int.natCast_emod, Int.natCast_sub (show i / T ≤ G - 1 by omega), Int.natCast_sub (show 1 ≤ G by omega), Int.natCast_ediv]
    rfl
  | true =>
    obtain ⟨u, d, rfl⟩ : ∃ u d, s = u ++ [d] := by
      have hne : s ≠ [] := fun e => hl (by rw [e]; rfl)
      exact ⟨s.dropLast, s.getLast hne, (List.dropLast_concat_getLast hne).symm⟩
    have hax : fold_Red.ax (u ++ [d]) true = u.length := by unfold fold_Red.ax; simp
    rw [hax] at hg ho ht
    have hu0 : ∀ x ∈ u, 1 ≤ x := fun x hx => hp1 x (by simp [hx])
    have hd : d = (G : Int) := by rw [← hg]; exact (rd_mid u d []).symm
    have hpu : prodS u = (O : Int) := by
      rw [← ho]
      simp
    have hT1 : T = 1 := by
      have h2 : prodS ((u ++ [d]).drop (u.length + 1)) = 1 := by
        rw [List.drop_eq_nil_of_le (by simp)]
        rfl
      omega
    subst hT1
    have hiG : i < O * G := by have h9 := hl2; rw [Nat.mul_one] at h9; omega
    have hq0 : 0 ≤ (i : Int) / (G : Int) := Int.ediv_nonneg (by omega) (by omega)
    have hq1 : (i : Int) / (G : Int) < (O : Int) := Int.ediv_lt_of_lt_mul (by omega) (by rw [← Int.natCast_mul]; omega)
    have hm0 : 0 ≤ (i : Int) % (G : Int) := Int.emod_nonneg _ (by omega)
    have hm1 : (i : Int) % (G : Int) < (G : Int) := Int.emod_lt_of_pos _ (by omega)
    have hdg : (dg (u ++ [d]) (i : Int)).1 = rf u ((i : Int) / (G : Int)) ++ [(i : Int) % (G : Int)] := by
      rw [dg_snoc, hd, dg_low u _ hu0 hq0 (by rw [hpu]; exact hq1)]
    have hrl : (rf u ((i : Int) / (G : Int))).length = u.length := by
      have := dg_len (u ++ [d]) (i : Int)
      rw [hdg] at this
      simpa using this
    have hf : frm (u ++ [d]) (dg (u ++ [d]) (i : Int)).1 true = rf u ((i : Int) / (G : Int)) ++ [(G : Int) - 1 - (i : Int) % (G : Int)] := by
      unfold frm
      have r1 : rd (u ++ [d]) (u.length : Int) = (G : Int) := by rw [rd_mid u d []]; exact hd
      have r2 : rd (rf u ((i : Int) / (G : Int)) ++ [(i : Int) % (G : Int)]) (u.length : Int) = (i : Int) % (G : Int) := by rw [← hrl]; exact rd_mid _ _ []
      rw [hax, hdg, r1, r2, wrap_in (x := (G : Int) - 1) (by omega) (by omega), wrap_in (by omega) (by omega)]
      have := set_mid (rf u ((i : Int) / (G : Int))) ((i : Int) % (G : Int)) ((G : Int) - 1 - (i : Int) % (G : Int)) []
      rw [hrl] at this
      exact this
    obtain ⟨w1, w2⟩ := rf_ok u ((i : Int) / (G : Int)) hu0 hq0 (by rw [hpu]; exact hq1)
    rw [hf] at hfl ⊢
    rw [place_of hs hfl (within_snoc w1 (by omega) (by rw [hd]; omega)) (by omega), hv_snoc _ _ _ _ hrl, w2, hd]
    have e : phi 1 G i = i / G * G + (G - 1 - i % G) := by
      unfold phi
      rw [Nat.mul_one, Nat.div_one, Nat.mul_one, Nat.mod_one, Nat.add_zero]
    have hmn : i % G < G := Nat.mod_lt _ hG
    rw [e, Int.natCast_add, Int.natCast_mul, Int.natCast_ediv, Int.natCast_sub (show i % G ≤ G - 1 by omega), Int.natCast_sub (show 1 ≤ G by omega), Int.natCast_emod]
    rfl
end Go.Proofs.Ytahgfebdjjfkhaa.Pure
