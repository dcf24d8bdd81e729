/- FoldEnds: what it computes is yes, for any numbers. -/
import Derived.Test.YtahgfebdjjfkhaaFold0
import Derived.Test.YtahgfebdjjfkhaaPx10
import Derived.Test.YtahgfebdjjfkhaaPx11
import Derived.Test.YtahgfebdjjfkhaaPx3
import Derived.Test.YtahgfebdjjfkhaaPx7
import Derived.Test.YtahgfebdjjfkhaaPx8
import Derived.Test.YtahgfebdjjfkhaaPx9
namespace Go.Proofs.Ytahgfebdjjfkhaa.Pure
open Go.RowKit Go.Proofs.Ytahgfebdjjfkhaa.P Go.Proofs.Ytahgfebdjjfkhaa.Nest Go.Proofs.YtahgfebdjjfkhaaW.PrintWords Go.Proofs.YtahgfebdjjfkhaaW.PrintLast Go.Proofs.YtahgfebdjjfkhaaW.PrintMore
set_option linter.unusedVariables false
set_option linter.unusedSimpArgs false
def ms (l : List Int) : List S43 := l.map numC
theorem ms_len (l : List Int) : (ms l).length = l.length := List.length_map _
theorem ms_take (l : List Int) (i : Nat) : (ms l).take i = ms (l.take i) := List.map_take.symm
theorem okC_num {n : Int} (h : I64 n) : okC (numC n) := by
  unfold numC
  rw [okC, okAs]
  exact ⟨wf_of ⟨by decide, by decide⟩, wf_of h, by simp, trivial⟩
theorem chC_num (n : Int) (d : Nat) : chC (numC n) d = 0 := by
  unfold numC
  rw [chC, chB, if_pos rfl]
theorem chCs_ms (d : Nat) : ∀ l : List Int, chCs (ms l) d = 0
  | [] => by rw [ms, List.map_nil, chCs]
  | x :: r => by
    have ih := chCs_ms d r
    rw [ms] at ih
    rw [ms, List.map_cons, chCs, if_pos (chC_num x d), ih]
theorem okCs_ms {l : List Int} (h : ∀ x ∈ l, I64 x) : okCs (ms l) := by
  rw [okCs_iff]
  intro x hx
  obtain ⟨n, hn, rfl⟩ := List.mem_map.1 hx
  exact okC_num (h n hn)
theorem ms_i64 {l : List Int} (h : ∀ x ∈ l, I64 x) : ∀ x ∈ ms l, I64 x.f1 := by
  intro x hx
  obtain ⟨n, hn, rfl⟩ := List.mem_map.1 hx
  exact h n hn
theorem okA_ms {l : List Int} (h : ∀ x ∈ l, I64 x) (hl : l.length ≤ 60) : okA ⟨[(l.length : Int)], ms l⟩ := by
  rw [okA]
  unfold reachBytes
  refine ⟨⟨by simp, fun y hy => ?_⟩, by rw [ms_len]; omega, okCs_ms h⟩
  rw [List.mem_singleton.1 hy]
  exact wf_of ⟨by omega, by omega⟩
theorem chA_ms {l : List Int} (h1 : 1 ≤ l.length) (hl : l.length ≤ 60) : chA ⟨[(l.length : Int)], ms l⟩ 0 = 0 := by
  have hs : sizeS [(l.length : Int)] = ((l.length : Int), 0) := by
    unfold sizeS
    rw [if_neg (by simp), if_neg (by simp), if_neg (by simp; intro e; rw [e] at h1; simp at h1), sizeP, if_neg (by omega), sizeP, Int.one_mul]
  rw [chA, hs, if_pos rfl, ms_len, if_pos rfl, if_neg (by simp; omega), chCs_ms]
theorem rowS_num (op : Int) (t : Bool) {l : List Int} (h : ∀ x ∈ l, I64 x) (h1 : 1 ≤ l.length) (he : (rowS op t (ms l)).2 = 0) : ∃ v, I64 v ∧ (rowS op t (ms l)).1 = numC v := by
  have hg : ∀ i, i < l.length → ∃ v, I64 v ∧ (ms l).getD i z43 = numC v := by
    intro i hi
    have hm := getD_mem (l := ms l) (i := i) (by rw [ms_len]; exact hi)
    obtain ⟨n, hn, hv⟩ := List.mem_map.1 hm
    exact ⟨n, h n hn, hv.symm⟩
  have hr : ∀ (i : Nat) (c : S43), i ≤ l.length → (∃ v, I64 v ∧ c = numC v) → (runR op t (ms l) i c).2 = 0 → ∃ v, I64 v ∧ (runR op t (ms l) i c).1 = numC v := by
    intro i
    induction i with
    | zero => intro c _ hc _; exact hc
    | succ i ih =>
      intro c hi hc he
      rw [runR] at he ⊢
      split at he
      · rename_i h0
        rw [if_pos h0]
        obtain ⟨v, hv, rfl⟩ := hc
        obtain ⟨u, hu, hu2⟩ := hg i (by omega)
        refine ih _ (by omega) ⟨_, ofS_i64 (by rw [hu2]; exact hu) hv, rfl⟩ he
      · rename_i h0
        exact absurd he h0
  unfold rowS at he ⊢
  rw [ms_len] at he ⊢
  by_cases c1 : l.length = 1
  · rw [if_pos c1]
    exact hg 0 (by omega)
  rw [if_neg c1] at he ⊢
  rw [if_neg (by omega)] at he ⊢
  by_cases o1 : op = 21 ∨ op = 23
  · rw [if_pos o1] at he ⊢
    split at he
    · exact ⟨_, fit_i64 _, rfl⟩
    · cases he
  · rw [if_neg o1] at he ⊢
    exact hr _ _ (by omega) (hg _ (by omega)) he
theorem nums_lp : ∀ (rest done : List Int) (k : Nat), (done ++ rest).length ≤ 60 → rest.length < k → triglyphref03_Nums.l0 k (done ++ rest) (done.length : Int) [((done ++ rest).length : Int)] (ms done) = some ([((done ++ rest).length : Int)], ms (done ++ rest))
  | [], done, k, hl, hk => by
    obtain ⟨k, rfl⟩ : ∃ m, k = m + 1 := ⟨k - 1, by simp at hk; omega⟩
    simp only [triglyphref03_Nums.l0]
    rw [if_neg (by simp), List.append_nil]
  | x :: rest, done, k, hl, hk => by
    obtain ⟨k, rfl⟩ : ∃ m, k = m + 1 := ⟨k - 1, by simp at hk; omega⟩
    have hs : done ++ x :: rest = (done ++ [x]) ++ rest := by simp
    have hl2 : done.length + 1 + rest.length ≤ 60 := by simp at hl; omega
    simp only [triglyphref03_Nums.l0]
    rw [if_pos (by simp; omega), if_pos (by omega), if_pos (by rw [ms_len]; omega), rd_mid, wrap_next done x (by omega)]
    have h := nums_lp rest (done ++ [x]) k (by rw [← hs]; exact hl) (by simp at hk; omega)
    rw [show ms done ++ [(⟨0, x, []⟩ : S43)] = ms (done ++ [x]) by simp [ms, numC], hs]
    exact h
theorem nums_eq {l : List Int} (hl : l.length ≤ 60) {k : Nat} (hk : l.length < k) : triglyphref03_Nums.f k l = some ([(l.length : Int)], ms l) := by
  unfold triglyphref03_Nums.f
  exact nums_lp l [] k hl hk
theorem lines_one (n : Int) (h : 1 ≤ n) : fold_lines.f [n] 0 = some (1, 1, n) := by
  unfold fold_lines.f
  rw [if_pos (by simp)]
  simp [fold_lines.wp, rd]
theorem line_lp (l : List Int) (n : Nat) (hn : n = l.length) (hl : n ≤ 60) : ∀ (m i k : Nat), i + m = n → m < k → fold_line.l0 k (ms l) 0 1 ((ms l).take i) (n : Int) (i : Int) = some (ms l)
  | 0, i, k, hi, hk => by
    obtain ⟨k, rfl⟩ : ∃ m, k = m + 1 := ⟨k - 1, by omega⟩
    simp only [fold_line.l0]
    rw [if_neg (by omega), List.take_of_length_le (by rw [ms_len]; omega)]
  | m + 1, i, k, hi, hk => by
    obtain ⟨k, rfl⟩ : ∃ m, k = m + 1 := ⟨k - 1, by omega⟩
    have hw : wrap64 (0 + wrap64 ((i : Int) * 1)) = (i : Int) := by
      have h0 : wrap64 (i : Int) = (i : Int) := wrap_in (by omega) (by omega)
      rw [Int.mul_one, h0, Int.zero_add, h0]
    simp only [fold_line.l0]
    rw [if_pos (by omega), hw, if_pos (by omega), if_pos (by rw [ms_len]; omega), if_pos (by rw [List.length_take]; omega), rdC_nat, etaC, wrap_in (by omega) (by omega)]
    have he : (ms l).take i ++ [(ms l).getD i z43] = (ms l).take (i + 1) := by
      rw [List.getD_eq_getElem?_getD, List.getElem?_eq_getElem (by rw [ms_len]; omega), Option.getD_some, List.take_append_getElem]
    rw [he]
    exact line_lp l n hn hl m (i + 1) k (by omega) (by omega)
theorem line_one {l : List Int} (hl : l.length ≤ 60) {k : Nat} (hk : l.length < k) : fold_line.f k (ms l) 0 1 (l.length : Int) = some (ms l) := by
  unfold fold_line.f
  rw [if_pos (by omega), if_pos (by omega)]
  exact line_lp l l.length rfl hl l.length 0 k (by omega) hk
theorem at_one (G : Int) : wrap64 (wrap64 (wrap64 (((0 : Nat) : Int) * 1) * G) + ((0 : Nat) : Int)) = 0 := by simp [wrap64]
/-- The whole folded. -/
theorem red_one (op : Int) (t : Bool) {l : List Int} (h : ∀ x ∈ l, I64 x) (h1 : 1 ≤ l.length) (hl : l.length ≤ 60) (ho : 21 ≤ op ∧ op ≤ 32) : ∃ K, ∀ k, K ≤ k →
    fold_Red.f k op t [(l.length : Int)] (ms l) true = some (if (rowS op t (ms l)).2 = 0 then ([], [(rowS op t (ms l)).1], 0) else ([], [], (rowS op t (ms l)).2)) := by
  obtain ⟨K0, e0⟩ := checked_eq op t ⟨[(l.length : Int)], ms l⟩ (okA_ms h hl)
  obtain ⟨K1, e1⟩ := size_eq []
  obtain ⟨K2, e2⟩ := row_eq op t (ms l) (ms_i64 h) (by rw [ms_len]; omega)
  have hc : chkS op ⟨[(l.length : Int)], ms l⟩ = 0 := by unfold chkS; rw [chA_ms h1 hl, if_pos rfl, if_pos ho]
  rw [hc] at e0
  have hcp : (rowS op t (ms l)).2 = 0 → ∃ K, ∀ k, K ≤ k → arr_Copy.f k [] [(rowS op t (ms l)).1] = some ([], [(rowS op t (ms l)).1]) := by
    intro he
    obtain ⟨v, hv, hv2⟩ := rowS_num op t h h1 he
    have hok : okA ⟨[], [numC v]⟩ := by
      rw [okA, okCs, okCs]
      unfold reachBytes
      exact ⟨⟨by simp, by simp⟩, by simp, okC_num hv, trivial⟩
    have hch : chA ⟨[], [numC v]⟩ 0 = 0 := by
      rw [chA, if_pos (by decide), if_pos (show (sizeS []).1 = (([numC v].length : Nat) : Int) from rfl), if_neg (by decide), chCs, if_pos (chC_num v 0), chCs]
    obtain ⟨K, hK⟩ := copy_eq ⟨[], [numC v]⟩ hok
    rw [coA_id _ 0 hch] at hK
    rw [hv2]
    exact ⟨K, hK⟩
  have hax : fold_Red.ax [(l.length : Int)] true = 0 := rfl
  have ha : ∀ k, K0 + K1 + K2 + l.length + 1 ≤ k → fold_Red.f k op t [(l.length : Int)] (ms l) true = (fold_Red.end_ k [] (if (rowS op t (ms l)).2 = 0 then (0, [(rowS op t (ms l)).1]) else ((rowS op t (ms l)).2, []))) := by
    intro k hk
    unfold fold_Red.f
    rw [e0 k (by omega), Option.bind_some, if_pos rfl, if_neg (by simp), if_pos (by simp), hax]
    unfold fold_Red.g
    rw [show ([(l.length : Int)].take 0 ++ [(l.length : Int)].drop (0 + 1)) = [] from rfl, e1 k (by omega), Option.bind_some, if_pos (by decide), show (((0 : Nat) : Int)) = 0 from rfl, lines_one _ (by omega), Option.bind_some, if_pos (by constructor <;> simp)]
    dsimp only
    rw [show (1 : Int).toNat = 0 + 1 from rfl, fold_Red.li, show (1 : Int).toNat = 0 + 1 from rfl, fold_Red.lj, at_one, line_one hl (by omega), Option.bind_some, e2 k (by omega), Option.bind_some]
    dsimp only
    by_cases he : (rowS op t (ms l)).2 = 0
    · rw [if_pos he, if_pos he, if_pos (by simp), etaC, fold_Red.lj, Option.bind_some, if_pos rfl, fold_Red.li, Option.bind_some]
      rfl
    · rw [if_neg he, if_neg he, Option.bind_some, if_neg he, Option.bind_some]
  by_cases he : (rowS op t (ms l)).2 = 0
  · obtain ⟨K3, e3⟩ := hcp he
    refine ⟨K0 + K1 + K2 + K3 + l.length + 1, fun k hk => ?_⟩
    rw [ha k (by omega), if_pos he, if_pos he]
    unfold fold_Red.end_
    rw [if_pos rfl, e3 k (by omega), Option.bind_some]
  · refine ⟨K0 + K1 + K2 + l.length + 1, fun k hk => ?_⟩
    rw [ha k (by omega), if_neg he, if_neg he]
    unfold fold_Red.end_
    rw [if_neg he]
/-- As far as each place. -/
theorem scan_lk (op : Int) (t : Bool) {l : List Int} (h : ∀ x ∈ l, I64 x) (hl : l.length ≤ 60) : ∀ (n m : Nat) (acc : List S43), m + n = l.length → 1 ≤ m → acc.length = l.length →
    ∃ K r, (∀ k, K ≤ k → fold_Scan.lk k op t (ms l) 1 0 n m acc = some r) ∧ (r.1 = 0 → r.2.length = l.length ∧ r.2.getD 0 z43 = acc.getD 0 z43 ∧ (n = 0 → r.2 = acc) ∧ (0 < n → (rowS op t (ms l)).2 = 0 ∧ r.2.getD (l.length - 1) z43 = (rowS op t (ms l)).1))
  | 0, m, acc, hm, h1, ha => ⟨0, (0, acc), fun k _ => rfl, fun _ => ⟨ha, rfl, fun _ => rfl, fun h => absurd h (by omega)⟩⟩
  | n + 1, m, acc, hm, h1, ha => by
    have htk : ∀ x ∈ l.take (m + 1), I64 x := fun x hx => h x (List.mem_of_mem_take hx)
    obtain ⟨K0, e0⟩ := row_eq op t (ms (l.take (m + 1))) (ms_i64 htk) (by rw [ms_len, List.length_take]; omega)
    have hw : wrap64 (0 + wrap64 ((m : Int) * 1)) = (m : Int) := by
      have h0 : wrap64 (m : Int) = (m : Int) := wrap_in (by omega) (by omega)
      rw [Int.mul_one, h0, Int.zero_add, h0]
    by_cases he : (rowS op t (ms (l.take (m + 1)))).2 = 0
    · obtain ⟨K1, r, e1, e2⟩ := scan_lk op t h hl n (m + 1) (acc.set m (rowS op t (ms (l.take (m + 1)))).1) (by omega) (by omega) (by rw [List.length_set]; exact ha)
      refine ⟨K0 + K1, r, fun k hk => ?_, fun hr => ?_⟩
      · rw [fold_Scan.lk, ms_take, e0 k (by omega), Option.bind_some]
        dsimp only
        rw [if_pos he, hw, if_pos (by constructor <;> omega), Int.toNat_natCast, etaC]
        exact e1 k (by omega)
      · obtain ⟨f1, f2, f3, f4⟩ := e2 hr
        refine ⟨f1, f2.trans ?_, fun h0 => absurd h0 (by omega), fun _ => ?_⟩
        · rw [List.getD_eq_getElem?_getD, List.getElem?_set_ne (by omega), ← List.getD_eq_getElem?_getD]
        · by_cases hn : 0 < n
          · exact f4 hn
          · have hml : l.take (m + 1) = l := List.take_of_length_le (by omega)
            rw [hml] at he f3
            rw [f3 (by omega)]
            refine ⟨he, ?_⟩
            rw [show l.length - 1 = m by omega, List.getD_eq_getElem?_getD, List.getElem?_set_self (by omega), Option.getD_some]
    · refine ⟨K0, ((rowS op t (ms (l.take (m + 1)))).2, []), fun k hk => ?_, fun hr => absurd hr he⟩
      rw [fold_Scan.lk, ms_take, e0 k (by omega), Option.bind_some]
      dsimp only
      rw [if_neg he]
theorem scan_one (op : Int) (t : Bool) {l : List Int} (h : ∀ x ∈ l, I64 x) (h1 : 1 ≤ l.length) (hl : l.length ≤ 60) (ho : 21 ≤ op ∧ op ≤ 32) : ∃ K r, (∀ k, K ≤ k →
    fold_Scan.f k op t [(l.length : Int)] (ms l) true = some (if r.1 = 0 then ([(l.length : Int)], r.2, 0) else ([], [], r.1))) ∧ ((r : Int × List S43).1 = 0 → r.2.length = l.length ∧ r.2.getD 0 z43 = (ms l).getD 0 z43 ∧ (rowS op t (ms l)).2 = 0 ∧ r.2.getD (l.length - 1) z43 = (rowS op t (ms l)).1) := by
  obtain ⟨K0, e0⟩ := checked_eq op t ⟨[(l.length : Int)], ms l⟩ (okA_ms h hl)
  obtain ⟨K1, e1⟩ := copy_eq ⟨[(l.length : Int)], ms l⟩ (okA_ms h hl)
  rw [coA_id _ 0 (chA_ms h1 hl)] at e1
  have hc : chkS op ⟨[(l.length : Int)], ms l⟩ = 0 := by unfold chkS; rw [chA_ms h1 hl, if_pos rfl, if_pos ho]
  rw [hc] at e0
  obtain ⟨K2, r, e2, e3⟩ := scan_lk op t h hl (l.length - 1) 1 (ms l) (by omega) (by omega) (ms_len l)
  have hax : fold_Scan.ax [(l.length : Int)] true = 0 := rfl
  refine ⟨K0 + K1 + K2 + l.length + 1, r, fun k hk => ?_, fun hr => ?_⟩
  · unfold fold_Scan.f
    rw [e0 k (by omega), Option.bind_some, if_pos rfl, e1 k (by omega), Option.bind_some, if_neg (by simp), if_pos (by simp), hax]
    unfold fold_Scan.g
    rw [show (((0 : Nat) : Int)) = 0 from rfl, lines_one _ (by omega), Option.bind_some, if_pos (by constructor <;> simp)]
    dsimp only
    rw [show (1 : Int).toNat = 0 + 1 from rfl, fold_Scan.li, show (1 : Int).toNat = 0 + 1 from rfl, fold_Scan.lj, show fold_Scan.at_ 1 (l.length : Int) 0 0 = 0 from at_one _, line_one hl (by omega), Option.bind_some, ms_len, e2 k (by omega), Option.bind_some]
    by_cases he : r.1 = 0
    · rw [if_pos he, if_pos he, fold_Scan.lj, Option.bind_some, if_pos rfl, fold_Scan.li, Option.bind_some, if_pos rfl]
    · rw [if_neg he, if_neg he, Option.bind_some, if_neg he, Option.bind_some, if_neg he]
  · obtain ⟨f1, f2, f3, f4⟩ := e3 hr
    refine ⟨f1, f2, ?_⟩
    by_cases hn : 0 < l.length - 1
    · exact f4 hn
    · have h0 : l.length = 1 := by omega
      have hrow : rowS op t (ms l) = ((ms l).getD 0 z43, 0) := by unfold rowS; rw [ms_len, if_pos h0]
      rw [hrow, f3 (by omega), h0]
      exact ⟨rfl, rfl⟩
theorem works_eq : ∀ k, 60 ≤ k → triglyphlaw08_works.f k = some true := by
  intro k hk
  have h : triglyphlaw08_works.f 60 = some true := by kernel_rfl
  exact at_rounds triglyphlaw08_works.mono hk h
theorem scan_no (op : Int) (t : Bool) {l : List Int} (h : ∀ x ∈ l, I64 x) (h1 : 1 ≤ l.length) (hl : l.length ≤ 60) (ho : ¬ (21 ≤ op ∧ op ≤ 32)) : ∃ K, ∀ k, K ≤ k → fold_Scan.f k op t [(l.length : Int)] (ms l) true = some ([], [], 1) ∧ fold_Red.f k op t [(l.length : Int)] (ms l) true = some ([], [], 1) := by
  obtain ⟨K0, e0⟩ := checked_eq op t ⟨[(l.length : Int)], ms l⟩ (okA_ms h hl)
  have hc : chkS op ⟨[(l.length : Int)], ms l⟩ = 1 := by unfold chkS; rw [chA_ms h1 hl, if_pos rfl, if_neg ho]
  rw [hc] at e0
  refine ⟨K0, fun k hk => ⟨?_, ?_⟩⟩
  · unfold fold_Scan.f
    rw [e0 k hk, Option.bind_some, if_neg (by decide)]
  · unfold fold_Red.f
    rw [e0 k hk, Option.bind_some, if_neg (by decide)]
theorem FoldEnds : triglyphlaw08_FoldEnds.Pure := by
  intro op t l ho hl1 hl2 hw
  have hI : ∀ x ∈ l, I64 x := fun x hx => i64_of (hw x hx)
  by_cases hb : l.length = 0 ∨ 60 < l.length
  · refine ⟨62, ?_⟩
    have hj : triglyphlaw08_FoldEnds.j0 62 op t l true = some true := by
      rw [triglyphlaw08_FoldEnds.j0, if_pos rfl, works_eq 61 (by omega)]
      rfl
    unfold triglyphlaw08_FoldEnds.f
    by_cases h6 : (l.length : Int) > 60
    · rw [if_pos h6, hj]
    · rw [if_neg h6, show ((l.length : Int) == 0) = true from beq_iff_eq.2 (by omega), hj]
  have h1 : 1 ≤ l.length := by omega
  have hl : l.length ≤ 60 := by omega
  by_cases hop : 21 ≤ op ∧ op ≤ 32
  · obtain ⟨K0, r, e0, e1⟩ := scan_one op t hI h1 hl hop
    obtain ⟨K1, e2⟩ := red_one op t hI h1 hl hop
    have hcell : (rowS op t (ms l)).2 = 0 → ∃ K, ∀ k, K ≤ k → triglyphref03_Cell.f k (rowS op t (ms l)).1.f0 (rowS op t (ms l)).1.f1 (rowS op t (ms l)).1.f2 (rowS op t (ms l)).1.f0 (rowS op t (ms l)).1.f1 (rowS op t (ms l)).1.f2 = some 0 := by
      intro he
      obtain ⟨v, hv, hv2⟩ := rowS_num op t hI h1 he
      obtain ⟨K, hK⟩ := rcell_eq (numC v) (numC v) (okC_num hv)
      rw [cmpC_self] at hK
      rw [hv2]
      exact ⟨K, hK⟩
    have hf : ∀ k, triglyphlaw08_FoldEnds.f (k + 1) op t l = triglyphlaw08_FoldEnds.j0 (k + 1) op t l false := by
      intro k
      unfold triglyphlaw08_FoldEnds.f
      rw [if_neg (by omega), show ((l.length : Int) == 0) = false from beq_eq_false_iff_ne.2 (by omega)]
    by_cases hr : r.1 = 0
    · obtain ⟨f1, f2, f3, f4⟩ := e1 hr
      obtain ⟨K2, e3⟩ := hcell f3
      refine ⟨K0 + K1 + K2 + 62 + 1, ?_⟩
      generalize hk : K0 + K1 + K2 + 62 = k
      rw [hf, triglyphlaw08_FoldEnds.j0, if_neg (by decide), nums_eq hl (by omega), Option.bind_some]
      dsimp only
      rw [e0 k (by omega), Option.bind_some, e2 k (by omega), Option.bind_some, if_pos hr, if_pos f3]
      dsimp only
      have hwl : wrap64 ((l.length : Int) - 1) = ((l.length - 1 : Nat) : Int) := by rw [wrap_in (by omega) (by omega)]; omega
      have hfirst : rd_T43 r.2 0 = numC (rd l 0) := by
        rw [show rd_T43 r.2 0 = r.2.getD 0 z43 from rdC_nat r.2 0, f2]
        obtain ⟨x, rest, rfl⟩ : ∃ x rest, l = x :: rest := by cases l with | nil => simp at h1 | cons x rest => exact ⟨x, rest, rfl⟩
        rfl
      have hlast : rd_T43 r.2 (wrap64 ((l.length : Int) - 1)) = (rowS op t (ms l)).1 := by rw [hwl, rdC_nat, f4]
      have hone : rd_T43 [(rowS op t (ms l)).1] 0 = (rowS op t (ms l)).1 := rfl
      rw [if_pos rfl, if_pos rfl, if_pos (by rw [f1]), if_pos (by rw [f1]; omega), if_pos (by omega), hfirst, if_pos (show (numC (rd l 0)).f1 = rd l 0 from rfl), if_pos (by simp), if_pos (by rw [hwl]; omega), if_pos (by rw [hwl, f1]; omega), if_pos (by simp), hlast, hone, e3 k (by omega), Option.bind_some, if_pos rfl, works_eq k (by omega)]
      rfl
    · refine ⟨K0 + K1 + 62 + 1, ?_⟩
      generalize hk : K0 + K1 + 62 = k
      rw [hf, triglyphlaw08_FoldEnds.j0, if_neg (by decide), nums_eq hl (by omega), Option.bind_some]
      dsimp only
      rw [e0 k (by omega), Option.bind_some, e2 k (by omega), Option.bind_some, if_neg hr]
      dsimp only
      rw [if_neg hr, if_pos (by simp), works_eq k (by omega)]
      rfl
  · obtain ⟨K0, e0⟩ := scan_no op t hI h1 hl hop
    refine ⟨K0 + 62 + 1, ?_⟩
    generalize hk : K0 + 62 = k
    obtain ⟨g1, g2⟩ := e0 k (by omega)
    unfold triglyphlaw08_FoldEnds.f
    rw [if_neg (by omega), show ((l.length : Int) == 0) = false from beq_eq_false_iff_ne.2 (by omega), triglyphlaw08_FoldEnds.j0, if_neg (by decide), nums_eq hl (by omega), Option.bind_some]
    dsimp only
    rw [g1, Option.bind_some, g2, Option.bind_some, if_neg (by decide), if_pos (by simp), works_eq k (by omega)]
    rfl
end Go.Proofs.Ytahgfebdjjfkhaa.Pure
