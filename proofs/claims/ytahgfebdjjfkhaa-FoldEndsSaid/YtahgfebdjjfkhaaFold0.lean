/- Folds: what a row of cells comes to; what is handed in. -/
import Derived.Test.YtahgfebdjjfkhaaAtomC
import Derived.Test.YtahgfebdjjfkhaaArr5
import Derived.Test.YtahgfebdjjfkhaaArr9
import Derived.Test.YtahgfebdjjfkhaaPx2
import Derived.Test.YtahgfebdjjfkhaaPx5
import Derived.Test.YtahgfebdjjfkhaaPx7
namespace Go.Proofs.Ytahgfebdjjfkhaa.Pure
open Go.RowKit Go.Proofs.Ytahgfebdjjfkhaa.P Go.Proofs.Ytahgfebdjjfkhaa.Nest Go.Proofs.YtahgfebdjjfkhaaW.PrintWords Go.Proofs.YtahgfebdjjfkhaaW.PrintLast Go.Proofs.YtahgfebdjjfkhaaW.PrintMore
set_option linter.unusedVariables false
set_option linter.unusedSimpArgs false
def ofS (op : Int) (t : Bool) (x y : S43) : Int × Int := if t = true then celS op y x else celS op x y
theorem of_eq {op : Int} {t : Bool} {x y : S43} (hx : I64 x.f1) (hy : I64 y.f1) {k : Nat} (hk : 8 ≤ k) : fold_F_of.f k op t x.f0 x.f1 x.f2 y.f0 y.f1 y.f2 = some (0, (ofS op t x y).1, [], (ofS op t x y).2) := by
  unfold fold_F_of.f ofS
  cases t with
  | false => rw [if_neg (by decide), if_neg (by decide), acel_eq hx hy hk]; rfl
  | true => rw [if_pos rfl, if_pos rfl, acel_eq hy hx hk]; rfl
theorem ofS_i64 {op : Int} {t : Bool} {x y : S43} (hx : I64 x.f1) (hy : I64 y.f1) : I64 (ofS op t x y).1 := by
  unfold ofS
  split
  · exact celS_i64 hy hx
  · exact celS_i64 hx hy
def numsS : List S43 → Option (List Int)
  | [] => some []
  | x :: r => if x.f0 = 0 then (numsS r).map (x.f1 :: ·) else none
theorem nums_l0 : ∀ (rest done : List S43) (acc : List Int) (k : Nat), (done ++ rest).length ≤ 9000000000000000000 → acc.length = done.length → rest.length < k →
    fold_numbers.l0 k (acc ++ List.replicate rest.length 0) (done ++ rest) ((done ++ rest).length : Int) (done.length : Int) = some (match numsS rest with | some l => (acc ++ l, 0) | none => ([], 5))
  | [], done, acc, k, hl, ha, hk => by
    obtain ⟨k, rfl⟩ : ∃ m, k = m + 1 := ⟨k - 1, by simp at hk; omega⟩
    simp only [fold_numbers.l0]
    rw [if_neg (by simp)]
    simp [numsS]
  | x :: rest, done, acc, k, hl, ha, hk => by
    obtain ⟨k, rfl⟩ : ∃ m, k = m + 1 := ⟨k - 1, by simp at hk; omega⟩
    have hlen : ((done ++ x :: rest).length : Int) = done.length + 1 + rest.length := by simp; omega
    have hl2 : done.length + 1 + rest.length ≤ 9000000000000000000 := by simp at hl; omega
    have hs : done ++ x :: rest = (done ++ [x]) ++ rest := by simp
    have hal : ((acc ++ List.replicate (x :: rest).length 0).length : Int) = done.length + 1 + rest.length := by simp; omega
    simp only [fold_numbers.l0]
    rw [if_pos (by omega), if_pos (by omega), if_pos (by omega), rdC_mid, numsS]
    by_cases h0 : x.f0 = 0
    · rw [if_pos h0, if_pos h0, if_pos (by rw [hal]; omega)]
      have h1 : (acc ++ List.replicate (x :: rest).length 0).set ((done.length : Int).toNat) x.f1 = (acc ++ [x.f1]) ++ List.replicate rest.length 0 := by
        rw [Int.toNat_natCast, ← ha, List.length_cons, List.replicate_succ]
        simp [List.set_append]
      rw [h1, wrap_next done x (by omega), hs, nums_l0 rest (done ++ [x]) (acc ++ [x.f1]) k (by rw [← hs]; exact hl) (by simp [ha]) (by simp at hk; omega)]
      cases numsS rest <;> simp
    · rw [if_neg h0, if_neg h0]
theorem numbers_eq {l : List S43} (hl : l.length ≤ 35184372088832) {k : Nat} (hk : l.length < k) : fold_numbers.f k l = some (match numsS l with | some l => (l, 0) | none => ([], 5)) := by
  unfold fold_numbers.f
  rw [if_pos (by omega), if_pos (by rw [Int.toNat_natCast]; exact hl), Int.toNat_natCast]
  have h := nums_l0 l [] [] k (by simpa using Nat.le_trans hl (by decide)) rfl hk
  simpa using h
def runR (op : Int) (t : Bool) (l : List S43) : Nat → S43 → S43 × Int
  | 0, c => (c, 0)
  | i + 1, c => if (ofS op t (l.getD i z43) c).2 = 0 then runR op t l i (numC (ofS op t (l.getD i z43) c).1) else (z43, (ofS op t (l.getD i z43) c).2)
def rowS (op : Int) (t : Bool) (l : List S43) : S43 × Int :=
  if l.length = 1 then (l.getD 0 z43, 0)
  else if l.length = 0 then (if op = 21 ∨ op = 22 then (z43, 0) else if op = 23 then (numC 1, 0) else (z43, 5))
  else if op = 21 ∨ op = 23 then (match numsS l with | some ns => (numC (fit (if op = 23 then pr ns else ns.sum)).1, (fit (if op = 23 then pr ns else ns.sum)).2) | none => (z43, 5))
  else runR op t l (l.length - 1) (l.getD (l.length - 1) z43)
theorem numsS_mem : ∀ {l : List S43} {ns : List Int}, numsS l = some ns → ns.length = l.length ∧ ((∀ x ∈ l, I64 x.f1) → ∀ n ∈ ns, I64 n)
  | [], ns, h => by
    rw [numsS] at h
    rw [← Option.some.inj h]
    exact ⟨rfl, fun _ n hn => by cases hn⟩
  | x :: r, ns, h => by
    rw [numsS] at h
    split at h
    · obtain ⟨m, hm, rfl⟩ := Option.map_eq_some_iff.1 h
      obtain ⟨h1, h2⟩ := numsS_mem hm
      refine ⟨by simp [h1], fun hx n hn => ?_⟩
      rcases List.mem_cons.1 hn with rfl | hn
      · exact hx x List.mem_cons_self
      · exact h2 (fun y hy => hx y (List.mem_cons_of_mem _ hy)) n hn
    · cases h
theorem getD_mem {l : List S43} {i : Nat} (h : i < l.length) : l.getD i z43 ∈ l := by
  rw [List.getD_eq_getElem?_getD, List.getElem?_eq_getElem h]
  exact List.getElem_mem h
theorem rdC_nat (l : List S43) (i : Nat) : rd_T43 l (i : Int) = l.getD i z43 := by unfold rd_T43; rw [Int.toNat_natCast]
theorem run_eq (op : Int) (t : Bool) (l : List S43) (hI : ∀ x ∈ l, I64 x.f1) {k : Nat} (hk : 8 ≤ k) : ∀ (i : Nat) (c : S43), i ≤ l.length → I64 c.f1 →
    fold_F_row.lp k op t l i c = some ((runR op t l i c).1.f0, (runR op t l i c).1.f1, (runR op t l i c).1.f2, (runR op t l i c).2)
  | 0, c, _, _ => rfl
  | i + 1, c, hi, hc => by
    have hm := hI _ (getD_mem (l := l) (i := i) (by omega))
    rw [fold_F_row.lp, rdC_nat, of_eq hm hc hk, Option.bind_some, runR]
    dsimp only
    by_cases h0 : (ofS op t (l.getD i z43) c).2 = 0
    · rw [if_pos h0, if_pos h0]
      exact run_eq op t l hI hk i (numC _) (by omega) (ofS_i64 hm hc)
    · rw [if_neg h0, if_neg h0]
      rfl
theorem row_eq (op : Int) (t : Bool) (l : List S43) (hI : ∀ x ∈ l, I64 x.f1) (hl : l.length ≤ 17592186044416) : ∃ K, ∀ k, K ≤ k →
    fold_F_row.f k op t l = some ((rowS op t l).1.f0, (rowS op t l).1.f1, (rowS op t l).1.f2, (rowS op t l).2) := by
  refine ⟨l.length + 8, fun k hk => ?_⟩
  unfold fold_F_row.f rowS
  by_cases h1 : l.length = 1
  · rw [if_pos h1, if_pos h1, show rd_T43 l 0 = l.getD 0 z43 from rdC_nat l 0]
  rw [if_neg h1, if_neg h1]
  by_cases h0 : l.length = 0
  · rw [if_pos h0, if_pos h0]
    by_cases o1 : op = 21 ∨ op = 22
    · rw [if_pos o1, if_pos o1]
      rfl
    · rw [if_neg o1, if_neg o1]
      by_cases o2 : op = 23
      · rw [if_pos o2, if_pos o2]
        rfl
      · rw [if_neg o2, if_neg o2]
        rfl
  rw [if_neg h0, if_neg h0]
  by_cases o1 : op = 21 ∨ op = 23
  · rw [if_pos o1, if_pos o1, numbers_eq (by omega) (by omega), Option.bind_some]
    cases hn : numsS l with
    | none => dsimp only; rw [if_neg (by decide)]; rfl
    | some ns =>
      obtain ⟨hn1, hn2⟩ := numsS_mem hn
      have hn3 := hn2 hI
      dsimp only
      rw [if_pos rfl]
      by_cases o2 : op = 23
      · rw [if_pos o2, if_pos o2, prod_eq (by omega) hn3 (by omega)]
        rfl
      · rw [if_neg o2, if_neg o2, sum_eq (by omega) hn3]
        rfl
  · rw [if_neg o1, if_neg o1, rdC_nat]
    exact run_eq op t l hI (by omega) _ _ (by omega) (hI _ (getD_mem (by omega)))
theorem is_eq (op : Int) : atomic_Is.f op = some (decide (21 ≤ op ∧ op ≤ 32)) := by
  unfold atomic_Is.f
  by_cases h : op ≥ 21
  · rw [if_pos h]
    congr 1
    apply Bool.eq_iff_iff.2
    simp
    omega
  · rw [if_neg h]
    congr 1
    apply Bool.eq_iff_iff.2
    simp
    omega
def chkS (op : Int) (a : S25) : Int := if chA a 0 = 0 then (if 21 ≤ op ∧ op ≤ 32 then 0 else 1) else chA a 0
theorem checked_eq (op : Int) (t : Bool) (a : S25) (h : okA a) : ∃ K, ∀ k, K ≤ k → fold_F_checked.f k op t [a] = some (chkS op a) := by
  obtain ⟨K, hK⟩ := check_eq a h
  refine ⟨K + 2, fun k hk => ?_⟩
  obtain ⟨k, rfl, hk2⟩ := succ_of (K := K + 1) hk
  obtain ⟨k, rfl, hk3⟩ := succ_of hk2
  unfold fold_F_checked.f chkS
  simp only [fold_F_checked.l0]
  rw [if_pos (by simp), if_pos (by omega), if_pos (by simp), show rd_T25 [a] 0 = a from rdA_zero a [], hK (k + 1) (by omega), Option.bind_some]
  by_cases h0 : chA a 0 = 0
  · rw [if_pos h0, if_pos h0, if_neg (by simp [wrap64]), is_eq, Option.bind_some]
    by_cases h1 : 21 ≤ op ∧ op ≤ 32
    · rw [if_pos (by simpa using h1), if_pos h1]
    · rw [if_neg (by simpa using h1), if_neg h1]
  · rw [if_neg h0, if_neg h0]
end Go.Proofs.Ytahgfebdjjfkhaa.Pure
