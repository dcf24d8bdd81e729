/- Folds: each with each. -/
import Derived.Test.YtahgfebdjjfkhaaFold0
import Derived.Test.YtahgfebdjjfkhaaArr3L
import Derived.Test.YtahgfebdjjfkhaaArr4
import Derived.Test.YtahgfebdjjfkhaaPx1
import Derived.Test.YtahgfebdjjfkhaaPx12
import Derived.Test.YtahgfebdjjfkhaaPx14
import Derived.Test.YtahgfebdjjfkhaaPx2
import Derived.Test.YtahgfebdjjfkhaaPx9
namespace Go.Proofs.Ytahgfebdjjfkhaa.Pure
open Go.RowKit Go.Proofs.Ytahgfebdjjfkhaa.P Go.Proofs.Ytahgfebdjjfkhaa.Nest Go.Proofs.YtahgfebdjjfkhaaW.PrintWords Go.Proofs.YtahgfebdjjfkhaaW.PrintLast Go.Proofs.YtahgfebdjjfkhaaW.PrintMore
set_option linter.unusedVariables false
set_option linter.unusedSimpArgs false
def goS : List (Int × Int) → List S43 → Int × List S43
  | [], acc => (0, acc)
  | p :: r, acc => if p.2 = 0 then goS r (acc ++ [numC p.1]) else (p.2, [])
theorem goS_append : ∀ (p q : List (Int × Int)) (acc : List S43), goS (p ++ q) acc = if (goS p acc).1 = 0 then goS q (goS p acc).2 else ((goS p acc).1, [])
  | [], q, acc => by rw [List.nil_append, goS, if_pos rfl]
  | x :: r, q, acc => by
    rw [List.cons_append, goS, goS]
    by_cases h : x.2 = 0
    · rw [if_pos h, if_pos h]
      exact goS_append r q _
    · rw [if_neg h, if_neg h, if_neg h]
theorem goS_len : ∀ (p : List (Int × Int)) (acc : List S43), (goS p acc).1 = 0 → (goS p acc).2.length = acc.length + p.length
  | [], acc, _ => rfl
  | x :: r, acc, h => by
    rw [goS] at h ⊢
    by_cases h0 : x.2 = 0
    · rw [if_pos h0] at h ⊢
      rw [goS_len r _ h]
      simp
      omega
    · rw [if_neg h0] at h
      exact absurd h h0
theorem goS_ok : ∀ (p : List (Int × Int)) (acc : List S43), (∀ x ∈ p, I64 x.1) → (∀ x ∈ acc, okC x) → ∀ x ∈ (goS p acc).2, okC x
  | [], acc, _, h => h
  | y :: r, acc, hp, h => by
    rw [goS]
    split
    · refine goS_ok r _ (fun x hx => hp x (List.mem_cons_of_mem _ hx)) (fun x hx => ?_)
      rcases List.mem_append.1 hx with hx | hx
      · exact h x hx
      · rw [List.mem_singleton.1 hx]
        unfold numC
        rw [okC, okAs]
        exact ⟨wf_of ⟨by decide, by decide⟩, wf_of (hp y List.mem_cons_self), by simp, trivial⟩
    · intro x hx
      cases hx
theorem okC_i64 {x : S43} (h : okC x) : I64 x.f1 := by
  cases x
  rw [okC] at h
  exact i64_of h.2.1
theorem okA_i64 {a : S25} (h : okA a) : ∀ x ∈ a.f1, I64 x.f1 := by
  cases a
  rw [okA] at h
  exact fun x hx => okC_i64 (okCs_iff.1 h.2.2 x hx)
theorem drop_cons {α : Type} {l : List α} {i : Nat} (d : α) (h : i < l.length) : l.drop i = l.getD i d :: l.drop (i + 1) := by
  rw [List.drop_eq_getElem_cons h, List.getD_eq_getElem?_getD, List.getElem?_eq_getElem h, Option.getD_some]
theorem lj_eq (op : Int) (t : Bool) (x : S43) (l : List S43) (hx : I64 x.f1) (hl : ∀ y ∈ l, I64 y.f1) {k : Nat} (hk : 8 ≤ k) : ∀ (n j : Nat) (acc : List S43), j + n = l.length → acc.length + n ≤ 3518437208883 →
    fold_Outer.lj k op t x l n j acc = some (goS ((l.drop j).map (ofS op t x)) acc)
  | 0, j, acc, hj, _ => by rw [fold_Outer.lj, List.drop_eq_nil_of_le (by omega)]; rfl
  | n + 1, j, acc, hj, ha => by
    rw [fold_Outer.lj, rdC_nat, of_eq hx (hl _ (getD_mem (by omega))) hk, Option.bind_some, drop_cons z43 (by omega), List.map_cons, goS]
    dsimp only
    by_cases h0 : (ofS op t x (l.getD j z43)).2 = 0
    · rw [if_pos h0, if_pos h0, if_pos (by omega)]
      exact lj_eq op t x l hx hl hk n (j + 1) _ (by omega) (by rw [List.length_append]; simp; omega)
    · rw [if_neg h0, if_neg h0]
theorem li_eq (op : Int) (t : Bool) (la l : List S43) (hla : ∀ x ∈ la, I64 x.f1) (hl : ∀ y ∈ l, I64 y.f1) (hlen : l.length ≤ 300) {k : Nat} (hk : 8 ≤ k) : ∀ (n i : Nat) (acc : List S43), i + n = la.length → acc.length + n * 300 ≤ 3518437208883 →
    fold_Outer.li k op t la l n i acc = some (goS ((la.drop i).flatMap fun x => l.map (ofS op t x)) acc)
  | 0, i, acc, hi, _ => by rw [fold_Outer.li, List.drop_eq_nil_of_le (by omega)]; rfl
  | n + 1, i, acc, hi, ha => by
    rw [fold_Outer.li, rdC_nat, lj_eq op t _ l (hla _ (getD_mem (by omega))) hl hk l.length 0 acc (by omega) (by omega), Option.bind_some, List.drop_zero, drop_cons (l := la) z43 (by omega), List.flatMap_cons, goS_append]
    by_cases h0 : (goS (l.map (ofS op t (la.getD i z43))) acc).1 = 0
    · rw [if_pos h0, if_pos h0]
      exact li_eq op t la l hla hl hlen hk n (i + 1) _ (by omega) (by rw [goS_len _ _ h0, List.length_map]; omega)
    · rw [if_neg h0, if_neg h0]
def chk2 (op : Int) (a b : S25) : Int := if chA a 0 = 0 then (if chA b 0 = 0 then (if 21 ≤ op ∧ op ≤ 32 then 0 else 1) else chA b 0) else chA a 0
theorem checked2_eq (op : Int) (t : Bool) (a b : S25) (h : okA a) (g : okA b) : ∃ K, ∀ k, K ≤ k → fold_F_checked.f k op t [a, b] = some (chk2 op a b) := by
  obtain ⟨K, hK⟩ := check_eq a h
  obtain ⟨L, hL⟩ := check_eq b g
  refine ⟨K + L + 3, fun k hk => ?_⟩
  obtain ⟨k, rfl, hk2⟩ := succ_of (K := K + L + 2) hk
  obtain ⟨k, rfl, hk3⟩ := succ_of hk2
  obtain ⟨k, rfl, hk4⟩ := succ_of hk3
  unfold fold_F_checked.f chk2
  simp only [fold_F_checked.l0]
  rw [if_pos (by simp), if_pos (by omega), if_pos (by simp), show rd_T25 [a, b] 0 = a from rdA_zero a [b], hK (k + 1 + 1) (by omega), Option.bind_some]
  by_cases h0 : chA a 0 = 0
  · rw [if_pos h0, if_pos h0, show wrap64 (0 + 1) = 1 by simp [wrap64], if_pos (by simp), if_pos (by omega), if_pos (by simp), show rd_T25 [a, b] 1 = b from rdA_mid [a] b [], hL (k + 1) (by omega), Option.bind_some]
    by_cases g0 : chA b 0 = 0
    · rw [if_pos g0, if_pos g0, show wrap64 (1 + 1) = 2 by simp [wrap64], if_neg (by simp), is_eq, Option.bind_some]
      by_cases h1 : 21 ≤ op ∧ op ≤ 32
      · rw [if_pos (by simpa using h1), if_pos h1]
      · rw [if_neg (by simpa using h1), if_neg h1]
    · rw [if_neg g0, if_neg g0]
  · rw [if_neg h0, if_neg h0]
def prS (op : Int) (t : Bool) (a b : S25) : List (Int × Int) := a.f1.flatMap fun x => b.f1.map (ofS op t x)
def outrS (op : Int) (t : Bool) (a b : S25) : List Int × List S43 × Int :=
  if chk2 op a b = 0 then (if (sizeS (a.f0 ++ b.f0)).2 = 0 then (if (goS (prS op t a b) []).1 = 0 then (a.f0 ++ b.f0, (goS (prS op t a b) []).2, 0) else ([], [], (goS (prS op t a b) []).1)) else ([], [], (sizeS (a.f0 ++ b.f0)).2)) else ([], [], chk2 op a b)
theorem chk2_zero {op : Int} {a b : S25} (h : chk2 op a b = 0) : chA a 0 = 0 ∧ chA b 0 = 0 ∧ 21 ≤ op ∧ op ≤ 32 := by
  unfold chk2 at h
  split at h
  · rename_i h0
    split at h
    · rename_i h1
      split at h
      · rename_i h2
        exact ⟨h0, h1, h2⟩
      · cases h
    · rename_i h1
      exact absurd h h1
  · rename_i h0
    exact absurd h h0
theorem chA_len {a : S25} (h : chA a 0 = 0) : a.f0.length ≤ 8 := by
  cases a
  rw [chA] at h
  split at h
  · rename_i h0
    exact sizeS_len h0
  · rename_i h0
    exact absurd h h0
theorem outer_eq (op : Int) (t : Bool) (a b : S25) (ha : okA a) (hb : okA b) (la : a.f1.length ≤ 300) (lb : b.f1.length ≤ 300) : ∃ K, ∀ k, K ≤ k → fold_Outer.f k op t a.f0 a.f1 b.f0 b.f1 = some (outrS op t a b) := by
  obtain ⟨K0, e0⟩ := checked2_eq op t a b ha hb
  obtain ⟨K1, e1⟩ := size_eq (a.f0 ++ b.f0)
  refine ⟨K0 + K1 + 8, fun k hk => ?_⟩
  unfold fold_Outer.f outrS
  rw [show [(⟨a.f0, a.f1⟩ : S25), ⟨b.f0, b.f1⟩] = [a, b] by rw [etaA, etaA], e0 k (by omega), Option.bind_some]
  by_cases h0 : chk2 op a b = 0
  · obtain ⟨c1, c2, _⟩ := chk2_zero h0
    have := chA_len c1
    have := chA_len c2
    rw [if_pos h0, if_pos h0, if_pos (by omega)]
    unfold fold_Outer.g
    rw [e1 k (by omega), Option.bind_some]
    by_cases h1 : (sizeS (a.f0 ++ b.f0)).2 = 0
    · rw [if_pos h1, if_pos h1, li_eq op t a.f1 b.f1 (okA_i64 ha) (okA_i64 hb) lb (by omega) a.f1.length 0 [] (by omega) (by simp; omega), Option.bind_some, List.drop_zero]
      show (if (goS (prS op t a b) []).1 = 0 then some (a.f0 ++ b.f0, (goS (prS op t a b) []).2, (0 : Int)) else some ([], [], (goS (prS op t a b) []).1)) = _
      split
      · rfl
      · rfl
    · rw [if_neg h1, if_neg h1]
  · rw [if_neg h0, if_neg h0]
theorem light_len {a : S25} (h : wA a 300 16 ≤ 300) : a.f1.length ≤ 300 := by
  have := wA_ge a 300 16
  omega
def lightS8 (a : S25) : Bool := decide (wA a 300 16 ≤ 300)
theorem light_eq (a : S25) (h : okA a) : ∃ K, ∀ k, K ≤ k → triglyphlaw08_light.f k a.f0 a.f1 = some (lightS8 a) := by
  obtain ⟨K, hK⟩ := weight_eq a 300 h (by omega) (by omega)
  refine ⟨K, fun k hk => ?_⟩
  unfold triglyphlaw08_light.f
  rw [hK k hk]
  rfl
theorem works_eq : ∀ k, 60 ≤ k → triglyphlaw08_works.f k = some true := by
  intro k hk
  have h : triglyphlaw08_works.f 60 = some true := by kernel_rfl
  exact at_rounds triglyphlaw08_works.mono hk h
theorem prS_i64 {op : Int} {t : Bool} {a b : S25} (ha : okA a) (hb : okA b) : ∀ x ∈ prS op t a b, I64 x.1 := by
  intro x hx
  unfold prS at hx
  obtain ⟨y, hy, hx⟩ := List.mem_flatMap.1 hx
  obtain ⟨z, hz, rfl⟩ := List.mem_map.1 hx
  exact ofS_i64 (okA_i64 ha y hy) (okA_i64 hb z hz)
theorem prS_len {op : Int} {t : Bool} (b : S25) : ∀ (l : List S43), (l.flatMap fun x => b.f1.map (ofS op t x)).length = l.length * b.f1.length
  | [] => by simp
  | x :: r => by rw [List.flatMap_cons, List.length_append, prS_len b r, List.length_map, List.length_cons, Nat.succ_mul]; omega
theorem outrS_ok (op : Int) (t : Bool) (a b : S25) (ha : okA a) (hb : okA b) (la : a.f1.length ≤ 300) (lb : b.f1.length ≤ 300) : okA ⟨(outrS op t a b).1, (outrS op t a b).2.1⟩ := by
  have hz : okA ⟨[], []⟩ := by rw [okA]; exact ⟨⟨by simp, by simp⟩, by simp, by simp [okCs]⟩
  unfold outrS
  split
  · split
    · rename_i h1
      split
      · rename_i h2
        have hl := goS_len (prS op t a b) [] h2
        have hp : (prS op t a b).length = a.f1.length * b.f1.length := prS_len b a.f1
        have hm : a.f1.length * b.f1.length ≤ 300 * 300 := Nat.mul_le_mul la lb
        have hs := sizeS_len h1
        rw [okA]
        unfold reachBytes
        refine ⟨⟨by show (a.f0 ++ b.f0).length * 8 ≤ _; omega, fun y hy => ?_⟩, by show (goS (prS op t a b) []).2.length * 40 ≤ _; rw [hl, List.length_nil]; omega, okCs_iff.2 (goS_ok _ _ (prS_i64 ha hb) (fun x hx => by cases hx))⟩
        cases a
        cases b
        rw [okA] at ha hb
        rcases List.mem_append.1 hy with hy | hy
        · exact ha.1.2 y hy
        · exact hb.1.2 y hy
      · exact hz
    · exact hz
  · exact hz
theorem rof_eq {op : Int} {t : Bool} {x y : S43} (hx : I64 x.f1) (hy : I64 y.f1) {k : Nat} (hk : 8 ≤ k) : triglyphref08_of.f k op t x.f0 x.f1 x.f2 y.f0 y.f1 y.f2 = some (0, (ofS op t x y).1, [], (ofS op t x y).2) := by
  unfold triglyphref08_of.f ofS
  cases t with
  | false => rw [if_neg (by decide), if_neg (by decide), rcel_eq hx hy hk]; rfl
  | true => rw [if_pos rfl, if_pos rfl, rcel_eq hy hx hk]; rfl
theorem start_eq (op : Int) (a : S25) (h : okA a) : ∃ K, ∀ k, K ≤ k → triglyphref08_start.f k op a.f0 a.f1 = some (chkS op a) := by
  obtain ⟨K, hK⟩ := rcheck_eq a h
  refine ⟨K, fun k hk => ?_⟩
  unfold triglyphref08_start.f chkS
  rw [hK k hk, Option.bind_some]
  by_cases h0 : chA a 0 = 0
  · rw [if_pos h0, if_pos h0]
    by_cases h1 : op < 21
    · rw [if_pos h1, if_neg (by omega)]
    · rw [if_neg h1]
      by_cases h2 : op > 32
      · rw [if_pos h2, if_neg (by omega)]
      · rw [if_neg h2, if_pos (by omega)]
  · rw [if_neg h0, if_neg h0]
theorem rlj_eq (op : Int) (t : Bool) (x : S43) (l : List S43) (hx : I64 x.f1) (hl : ∀ y ∈ l, I64 y.f1) {k : Nat} (hk : 8 ≤ k) : ∀ (n j : Nat) (acc : List S43), j + n = l.length → acc.length + n ≤ 3518437208883 →
    triglyphref08_Outer.lj k op t x l n j acc = some (goS ((l.drop j).map (ofS op t x)) acc)
  | 0, j, acc, hj, _ => by rw [triglyphref08_Outer.lj, List.drop_eq_nil_of_le (by omega)]; rfl
  | n + 1, j, acc, hj, ha => by
    rw [triglyphref08_Outer.lj, rdC_nat, rof_eq hx (hl _ (getD_mem (by omega))) hk, Option.bind_some, drop_cons z43 (by omega), List.map_cons, goS]
    dsimp only
    by_cases h0 : (ofS op t x (l.getD j z43)).2 = 0
    · rw [if_pos h0, if_pos h0, if_pos (by omega)]
      exact rlj_eq op t x l hx hl hk n (j + 1) _ (by omega) (by rw [List.length_append]; simp; omega)
    · rw [if_neg h0, if_neg h0]
theorem rli_eq (op : Int) (t : Bool) (la l : List S43) (hla : ∀ x ∈ la, I64 x.f1) (hl : ∀ y ∈ l, I64 y.f1) (hlen : l.length ≤ 300) {k : Nat} (hk : 8 ≤ k) : ∀ (n i : Nat) (acc : List S43), i + n = la.length → acc.length + n * 300 ≤ 3518437208883 →
    triglyphref08_Outer.li k op t la l n i acc = some (goS ((la.drop i).flatMap fun x => l.map (ofS op t x)) acc)
  | 0, i, acc, hi, _ => by rw [triglyphref08_Outer.li, List.drop_eq_nil_of_le (by omega)]; rfl
  | n + 1, i, acc, hi, ha => by
    rw [triglyphref08_Outer.li, rdC_nat, rlj_eq op t _ l (hla _ (getD_mem (by omega))) hl hk l.length 0 acc (by omega) (by omega), Option.bind_some, List.drop_zero, drop_cons (l := la) z43 (by omega), List.flatMap_cons, goS_append]
    by_cases h0 : (goS (l.map (ofS op t (la.getD i z43))) acc).1 = 0
    · rw [if_pos h0, if_pos h0]
      exact rli_eq op t la l hla hl hlen hk n (i + 1) _ (by omega) (by rw [goS_len _ _ h0, List.length_map]; omega)
    · rw [if_neg h0, if_neg h0]
theorem router_eq (op : Int) (t : Bool) (a b : S25) (ha : okA a) (hb : okA b) (la : a.f1.length ≤ 300) (lb : b.f1.length ≤ 300) : ∃ K, ∀ k, K ≤ k → triglyphref08_Outer.f k op t a.f0 a.f1 b.f0 b.f1 = some (outrS op t a b) := by
  obtain ⟨K0, e0⟩ := rcheck_eq a ha
  obtain ⟨K1, e1⟩ := start_eq op b hb
  obtain ⟨K2, e2⟩ := rsize_eq (a.f0 ++ b.f0)
  have hlen : chA a 0 = 0 → chkS op b = 0 → a.f0.length ≤ 8 ∧ b.f0.length ≤ 8 := by
    intro h1 h2
    unfold chkS at h2
    split at h2
    · rename_i h3
      exact ⟨chA_len h1, chA_len h3⟩
    · rename_i h3
      exact absurd h2 h3
  have hc : chk2 op a b = if chA a 0 = 0 then chkS op b else chA a 0 := rfl
  refine ⟨K0 + K1 + K2 + 8, fun k hk => ?_⟩
  unfold triglyphref08_Outer.f outrS
  rw [e0 k (by omega), Option.bind_some, hc]
  by_cases h0 : chA a 0 = 0
  · rw [if_pos h0, if_pos h0, e1 k (by omega), Option.bind_some]
    by_cases h1 : chkS op b = 0
    · obtain ⟨l1, l2⟩ := hlen h0 h1
      rw [if_pos h1, if_pos h1, if_pos (by omega)]
      unfold triglyphref08_Outer.g
      rw [e2 k (by omega), Option.bind_some]
      by_cases h2 : (sizeS (a.f0 ++ b.f0)).2 = 0
      · rw [if_pos h2, if_pos h2, rli_eq op t a.f1 b.f1 (okA_i64 ha) (okA_i64 hb) lb (by omega) a.f1.length 0 [] (by omega) (by simp; omega), Option.bind_some, List.drop_zero]
        show (if (goS (prS op t a b) []).1 = 0 then some (a.f0 ++ b.f0, (goS (prS op t a b) []).2, (0 : Int)) else some ([], [], (goS (prS op t a b) []).1)) = _
        split
        · rfl
        · rfl
      · rw [if_neg h2, if_neg h2]
    · rw [if_neg h1, if_neg h1]
  · rw [if_neg h0, if_neg h0, if_neg h0]
end Go.Proofs.Ytahgfebdjjfkhaa.Pure
