/- What the functions of package num, and the reference's, compute: plain facts about whole numbers. -/
import Derived.Test.YtahgfebdjjfkhaaArr1
import Derived.Test.YtahgfebdjjfkhaaPx12
import Derived.Test.YtahgfebdjjfkhaaPx13
import Derived.Test.YtahgfebdjjfkhaaPx3
import Derived.Test.YtahgfebdjjfkhaaPx4
import Derived.Test.YtahgfebdjjfkhaaPx6
namespace Go.Proofs.Ytahgfebdjjfkhaa.Pure
open Go.RowKit Go.Proofs.Ytahgfebdjjfkhaa.P Go.Proofs.Ytahgfebdjjfkhaa.Nest Go.Proofs.YtahgfebdjjfkhaaW.PrintWords Go.Proofs.YtahgfebdjjfkhaaW.PrintLast Go.Proofs.YtahgfebdjjfkhaaW.PrintMore
set_option linter.unusedVariables false
set_option linter.unusedSimpArgs false
theorem u64w (x : Int) : IntKind.u64.wrap x = x % 18446744073709551616 := rfl
def I64 (x : Int) : Prop := -9223372036854775808 ≤ x ∧ x ≤ 9223372036854775807
theorem i64_of {x : Int} (h : (Lit.int .i64 x).wf = true) : I64 x := by
  have h1 : (decide (IntKind.i64.min ≤ x) && decide (x ≤ IntKind.i64.max)) = true := h
  have h2 : IntKind.i64.min = -9223372036854775808 := rfl
  have h3 : IntKind.i64.max = 9223372036854775807 := rfl
  rw [h2, h3] at h1
  simpa [I64] using h1
def mg (x : Int) : Int := if x < 0 then -x else x
def ap (l : List Int) : Int := l.foldr (fun x r => mg x * r) 1
def sg (l : List Int) : Bool := l.foldr (fun x r => (decide (x < 0)) != r) false
def pr (l : List Int) : Int := l.foldr (fun x r => x * r) 1
def fit (s : Int) : Int × Int := if s < -9223372036854775808 ∨ 9223372036854775807 < s then (0, 9) else (s, 0)
theorem mg_pos {x : Int} (h : x ≠ 0) : 1 ≤ mg x := by unfold mg; split <;> omega
theorem ap_append (a b : List Int) : ap (a ++ b) = ap a * ap b := by
  induction a with
  | nil => simp [ap]
  | cons x a ih => simp only [ap, List.cons_append, List.foldr_cons] at ih ⊢; rw [ih, Int.mul_assoc]
theorem pr_append (a b : List Int) : pr (a ++ b) = pr a * pr b := by
  induction a with
  | nil => simp [pr]
  | cons x a ih => simp only [pr, List.cons_append, List.foldr_cons] at ih ⊢; rw [ih, Int.mul_assoc]
theorem sg_append (a b : List Int) : sg (a ++ b) = (sg a != sg b) := by
  induction a with
  | nil => simp [sg]
  | cons x a ih => simp only [sg, List.cons_append, List.foldr_cons] at ih ⊢; rw [ih]; cases decide (x < 0) <;> cases List.foldr (fun x r => decide (x < 0) != r) false a <;> cases List.foldr (fun x r => decide (x < 0) != r) false b <;> rfl
theorem pr_ap (l : List Int) : pr l = if sg l = true then -ap l else ap l := by
  induction l with
  | nil => simp [pr, sg, ap]
  | cons x l ih =>
    rw [show pr (x :: l) = x * pr l from rfl, show sg (x :: l) = (decide (x < 0) != sg l) from rfl, show ap (x :: l) = mg x * ap l from rfl, ih]
    generalize sg l = s
    generalize ap l = p
    unfold mg
    by_cases hx : x < 0
    · rw [if_pos hx, decide_eq_true hx]
      cases s <;> simp [Int.neg_mul, Int.mul_neg]
    · rw [if_neg hx, decide_eq_false hx]
      cases s <;> simp [Int.mul_neg]
theorem pr_zero (a b : List Int) : pr (a ++ 0 :: b) = 0 := by
  rw [pr_append]
  simp [pr]
theorem ap_pos {l : List Int} (h : ∀ x ∈ l, x ≠ 0) : 1 ≤ ap l := by
  induction l with
  | nil => simp [ap]
  | cons x l ih =>
    have h1 := ih (fun y hy => h y (List.mem_cons_of_mem _ hy))
    have h2 := mg_pos (h x List.mem_cons_self)
    simp only [ap, List.foldr_cons] at h1 ⊢
    have := Int.mul_le_mul h2 h1 (by omega) (by omega)
    omega
theorem sg1 (x : Int) : sg [x] = decide (x < 0) := by simp [sg]
theorem ap1 (x : Int) : ap [x] = mg x := by simp [ap]
theorem nsize_eq {x : Int} (h : I64 x) : num_size.f x = some (mg x, decide (x < 0)) := by
  obtain ⟨h1, h2⟩ := h
  unfold num_size.f mg
  by_cases hx : x < 0
  · rw [if_pos hx, if_pos hx, u64w, u64w, decide_eq_true hx]
    congr 2
    omega
  · rw [if_neg hx, if_neg hx, u64w, decide_eq_false hx]
    congr 2
    omega
theorem signed_eq {n : Int} (h0 : 0 ≤ n) (h1 : n ≤ 9223372036854775808) (b : Bool) (k : Nat) : num_signed.f (k + 1) n b = some (fit (if b = true then -n else n)) := by
  unfold num_signed.f fit
  simp only [num_signed.j0]
  cases b with
  | true =>
    simp only [if_true]
    rw [decide_eq_true h1, if_pos rfl, if_neg (by omega)]
    simp only [u64w, wrap64]
    congr 2
    omega
  | false =>
    simp only [Bool.false_eq_true, if_false]
    by_cases hm : n ≤ 9223372036854775807
    · rw [if_pos hm, if_neg (by omega)]
      simp only [wrap64]
      congr 2
      omega
    · rw [if_neg hm, if_pos (by omega)]
theorem quo_lt {n m : Int} (hm : 1 ≤ m) (hm2 : m ≤ 9223372036854775808) (h0 : 0 ≤ n) : (n > IntKind.u64.wrap (Int.tdiv 9223372036854775808 m)) ↔ 9223372036854775808 < n * m := by
  rw [Int.tdiv_eq_ediv_of_nonneg (by omega), u64w]
  have hq0 : 0 ≤ 9223372036854775808 / m := Int.ediv_nonneg (by omega) (by omega)
  have hq1 : 9223372036854775808 / m ≤ 9223372036854775808 := Int.ediv_le_self _ (by omega)
  rw [Int.emod_eq_of_lt hq0 (by omega)]
  constructor
  · intro h
    have := Int.lt_mul_of_ediv_lt (show 0 < m by omega) h
    omega
  · intro h
    exact Int.ediv_lt_of_lt_mul (by omega) h
/-- What has been gone through: no nought; its sign; how great it is, or that it is too great. -/
def Inv (done : List Int) (n : Int) (b o : Bool) : Prop :=
  (∀ x ∈ done, x ≠ 0) ∧ b = sg done ∧ 0 ≤ n ∧ (o = false → n = ap done ∧ ap done ≤ 9223372036854775808) ∧ (o = true → 9223372036854775808 < ap done)
theorem mem_mid {a b : List Int} {x : Int} {p : Int → Prop} (h : ∀ y ∈ a ++ x :: b, p y) : p x := h x (by simp)
theorem snoc_ne {done : List Int} {x : Int} (h : ∀ y ∈ done, y ≠ 0) (hx : x ≠ 0) : ∀ y ∈ done ++ [x], y ≠ 0 := by
  intro y hy
  rcases List.mem_append.1 hy with hy | hy
  · exact h y hy
  · rw [List.mem_singleton.1 hy]; exact hx
theorem mg_le {x : Int} (h : I64 x) : mg x ≤ 9223372036854775808 := by
  obtain ⟨h1, h2⟩ := h
  unfold mg
  split <;> omega
theorem over_stays {p m : Int} (hp : 9223372036854775808 < p) (hm : 1 ≤ m) : 9223372036854775808 < p * m := by
  have := Int.mul_le_mul_of_nonneg_left hm (show 0 ≤ p by omega)
  omega
theorem fit_over {l : List Int} (h : 9223372036854775808 < ap l) : fit (pr l) = (0, 9) := by
  unfold fit
  rw [pr_ap, if_pos]
  split <;> omega
theorem prod_loop (rest : List Int) : ∀ (done : List Int) (k : Nat) (n : Int) (b o : Bool), rest.length + 1 < k → (done ++ rest).length ≤ 17592186044416 → (∀ x ∈ done ++ rest, I64 x) → Inv done n b o →
    num_Prod.l0 k (done ++ rest) n b o ((done ++ rest).length : Int) (done.length : Int) = some (fit (pr (done ++ rest))) := by
  induction rest with
  | nil =>
    intro done k n b o hk hl hI ⟨h1, h2, h3, h4, h5⟩
    obtain ⟨k, rfl⟩ : ∃ m, k = m + 1 := ⟨k - 1, by omega⟩
    simp only [num_Prod.l0, List.append_nil]
    rw [if_neg (by omega)]
    cases o with
    | true => rw [if_pos rfl, fit_over (h5 rfl)]
    | false =>
      obtain ⟨k, rfl⟩ : ∃ m, k = m + 1 := ⟨k - 1, by simp at hk; omega⟩
      obtain ⟨rfl, h6⟩ := h4 rfl
      rw [if_neg (by simp), signed_eq h3 h6, pr_ap, h2]
      rfl
  | cons x rest ih =>
    intro done k n b o hk hl hI ⟨h1, h2, h3, h4, h5⟩
    simp only [List.length_cons] at hk
    obtain ⟨k, rfl⟩ : ∃ m, k = m + 1 := ⟨k - 1, by omega⟩
    have hxI := mem_mid hI
    have hlen : ((done ++ x :: rest).length : Int) = done.length + 1 + rest.length := by simp; omega
    have hl' : done.length + 1 + rest.length ≤ 17592186044416 := by simp at hl; omega
    have hw : wrap64 ((done.length : Int) + 1) = ((done ++ [x]).length : Int) := by unfold wrap64; simp; omega
    have hs : done ++ x :: rest = (done ++ [x]) ++ rest := by simp
    simp only [num_Prod.l0]
    rw [if_pos (by omega), if_pos (by omega), if_pos (by omega), rd_mid, nsize_eq hxI]
    simp only [Option.bind_some]
    by_cases hx : x = 0
    · subst hx
      rw [if_pos (by simp [mg]), pr_zero]
      rfl
    · have hm := mg_pos hx
      have hb : (b != decide (x < 0)) = sg (done ++ [x]) := by rw [sg_append, sg1, h2]
      rw [if_neg (by omega), hw, hs]
      cases o with
      | true =>
        rw [if_pos rfl]
        refine ih _ _ _ _ _ (by omega) (by rw [← hs]; exact hl) (by rw [← hs]; exact hI) ⟨snoc_ne h1 hx, hb, h3, by simp, fun _ => ?_⟩
        rw [ap_append, ap1]
        exact over_stays (h5 rfl) hm
      | false =>
        obtain ⟨rfl, h6⟩ := h4 rfl
        rw [if_neg (by simp)]
        by_cases hq : 9223372036854775808 < ap done * mg x
        · rw [if_pos ((quo_lt hm (mg_le hxI) h3).2 hq)]
          refine ih _ _ _ _ _ (by omega) (by rw [← hs]; exact hl) (by rw [← hs]; exact hI) ⟨snoc_ne h1 hx, hb, h3, by simp, fun _ => ?_⟩
          rw [ap_append, ap1]
          exact hq
        · rw [if_neg (fun h => hq ((quo_lt hm (mg_le hxI) h3).1 h))]
          have h7 : 0 ≤ ap done * mg x := Int.mul_nonneg h3 (by omega)
          have h8 : IntKind.u64.wrap (ap done * mg x) = ap done * mg x := by rw [u64w]; omega
          rw [h8]
          refine ih _ _ _ _ _ (by omega) (by rw [← hs]; exact hl) (by rw [← hs]; exact hI) ⟨snoc_ne h1 hx, hb, h7, fun _ => ?_, by simp⟩
          rw [ap_append, ap1]
          exact ⟨rfl, by omega⟩
theorem prod_eq {l : List Int} (hl : l.length ≤ 17592186044416) (hI : ∀ x ∈ l, I64 x) {k : Nat} (hk : l.length + 1 < k) : num_Prod.f k l = some (fit (pr l)) :=
  prod_loop l [] k 1 false false hk hl hI ⟨by simp, rfl, by omega, fun _ => ⟨rfl, by simp [ap]⟩, by simp⟩
theorem mul_eq {a b : Int} (ha : I64 a) (hb : I64 b) {k : Nat} (hk : 4 ≤ k) : num_Mul.f k a b = some (fit (pr [a, b])) := by
  unfold num_Mul.f
  rw [prod_eq (by simp) (by simp; exact ⟨ha, hb⟩) (by simp; omega)]
  rfl
theorem ref_zero (rest : List Int) : ∀ (done : List Int) (k : Nat) (n : Int) (b o : Bool), rest.length < k → (done ++ rest).length ≤ 17592186044416 →
    triglyphref01_Prod.l0 k (done ++ rest) n b o (done.length : Int) = if 0 ∈ rest then some (0, 0) else triglyphref01_Prod.l1 (k - rest.length - 1) (done ++ rest) n b o 0 := by
  induction rest with
  | nil =>
    intro done k n b o hk hl
    obtain ⟨k, rfl⟩ : ∃ m, k = m + 1 := ⟨k - 1, by omega⟩
    simp only [triglyphref01_Prod.l0, List.append_nil]
    rw [if_neg (by omega)]
    simp
  | cons x rest ih =>
    intro done k n b o hk hl
    simp only [List.length_cons] at hk
    obtain ⟨k, rfl⟩ : ∃ m, k = m + 1 := ⟨k - 1, by omega⟩
    have hlen : ((done ++ x :: rest).length : Int) = done.length + 1 + rest.length := by simp; omega
    have hl' : done.length + 1 + rest.length ≤ 17592186044416 := by simp at hl; omega
    have hw : wrap64 ((done.length : Int) + 1) = ((done ++ [x]).length : Int) := by unfold wrap64; simp; omega
    have hs : done ++ x :: rest = (done ++ [x]) ++ rest := by simp
    simp only [triglyphref01_Prod.l0]
    rw [if_pos (by omega), if_pos (by omega), rd_mid]
    by_cases hx : x = 0
    · subst hx
      simp
    · rw [if_neg hx, hw, hs, ih _ _ _ _ _ (by omega) (by rw [← hs]; exact hl)]
      have h1 : (0 ∈ x :: rest) ↔ 0 ∈ rest := by simp [Ne.symm hx]
      have h2 : k + 1 - (x :: rest).length - 1 = k - rest.length - 1 := by simp
      simp only [h1, h2]
theorem ref_mag {x : Int} (h : I64 x) : (if x < 0 then IntKind.u64.wrap (IntKind.u64.wrap (wrap64 (-(wrap64 (x + 1)))) + 1) else IntKind.u64.wrap x) = mg x := by
  obtain ⟨h1, h2⟩ := h
  unfold mg
  by_cases hx : x < 0
  · rw [if_pos hx, if_pos hx]
    simp only [u64w, wrap64]
    omega
  · rw [if_neg hx, if_neg hx, u64w]
    omega
def InvR (done : List Int) (n : Int) (b o : Bool) : Prop :=
  (∀ x ∈ done, x ≠ 0) ∧ b = sg done ∧ 0 ≤ n ∧ n ≤ 9223372036854775808 ∧ (o = false → n = ap done) ∧ (o = true → 9223372036854775808 < ap done)
theorem ref_loop (rest : List Int) : ∀ (done : List Int) (k : Nat) (n : Int) (b o : Bool), rest.length + 1 < k → (done ++ rest).length ≤ 17592186044416 → (∀ x ∈ done ++ rest, I64 x) → (0 ∉ rest) → InvR done n b o →
    triglyphref01_Prod.l1 k (done ++ rest) n b o (done.length : Int) = some (fit (pr (done ++ rest))) := by
  induction rest with
  | nil =>
    intro done k n b o hk hl hI hz ⟨h1, h2, h3, h3', h4, h5⟩
    obtain ⟨k, rfl⟩ : ∃ m, k = m + 1 := ⟨k - 1, by omega⟩
    obtain ⟨k, rfl⟩ : ∃ m, k = m + 1 := ⟨k - 1, by simp at hk; omega⟩
    simp only [triglyphref01_Prod.l1, triglyphref01_Prod.j2, List.append_nil]
    rw [if_neg (by omega)]
    cases o with
    | true => simp only [if_true]; rw [fit_over (h5 rfl)]
    | false =>
      obtain rfl := h4 rfl
      simp only [Bool.false_eq_true, if_false]
      rw [if_neg (by omega), pr_ap, ← h2]
      unfold fit
      by_cases h9 : ap done = 9223372036854775808
      · rw [if_pos h9, h9]
        cases b <;> simp [wrap64, u64w]
      · rw [if_neg h9]
        cases b with
        | true =>
          simp only [if_true, Bool.false_eq_true, if_false]
          rw [if_neg (by omega)]
          simp only [u64w, wrap64]
          congr 2
          have := ap_pos h1
          omega
        | false =>
          simp only [Bool.false_eq_true, if_false]
          rw [if_neg (by omega)]
          simp only [wrap64]
          congr 2
          omega
  | cons x rest ih =>
    intro done k n b o hk hl hI hz ⟨h1, h2, h3, h3', h4, h5⟩
    simp only [List.length_cons] at hk
    obtain ⟨k, rfl⟩ : ∃ m, k = m + 1 := ⟨k - 1, by omega⟩
    have hxI := mem_mid hI
    have hx : x ≠ 0 := by rintro rfl; simp at hz
    have hlen : ((done ++ x :: rest).length : Int) = done.length + 1 + rest.length := by simp; omega
    have hl' : done.length + 1 + rest.length ≤ 17592186044416 := by simp at hl; omega
    have hw : wrap64 ((done.length : Int) + 1) = ((done ++ [x]).length : Int) := by unfold wrap64; simp; omega
    have hs : done ++ x :: rest = (done ++ [x]) ++ rest := by simp
    have hm := mg_pos hx
    have hmle := mg_le hxI
    have hb : (b != decide (x < 0)) = sg (done ++ [x]) := by rw [sg_append, sg1, h2]
    have hmag := ref_mag hxI
    -- one step: by whether it is too great
    have step : ∀ b', b' = sg (done ++ [x]) → (if n > IntKind.u64.wrap (Int.tdiv (9223372036854775808 : Int) (mg x)) then triglyphref01_Prod.l1 k (done ++ x :: rest) (IntKind.u64.wrap (1 * mg x)) b' true (wrap64 ((done.length : Int) + 1)) else triglyphref01_Prod.l1 k (done ++ x :: rest) (IntKind.u64.wrap (n * mg x)) b' o (wrap64 ((done.length : Int) + 1))) = some (fit (pr (done ++ x :: rest))) := by
      intro b' hb'
      rw [hw, hs]
      by_cases hq : 9223372036854775808 < n * mg x
      · rw [if_pos ((quo_lt hm hmle h3).2 hq)]
        have h8 : IntKind.u64.wrap (1 * mg x) = mg x := by rw [u64w]; omega
        rw [h8]
        refine ih _ _ _ _ _ (by omega) (by rw [← hs]; exact hl) (by rw [← hs]; exact hI) (fun h => hz (List.mem_cons_of_mem _ h)) ⟨snoc_ne h1 hx, hb', by omega, hmle, by simp, fun _ => ?_⟩
        rw [ap_append, ap1]
        cases o with
        | true => exact over_stays (h5 rfl) hm
        | false => rw [← h4 rfl]; exact hq
      · rw [if_neg (fun h => hq ((quo_lt hm hmle h3).1 h))]
        have h7 : 0 ≤ n * mg x := Int.mul_nonneg h3 (by omega)
        have h8 : IntKind.u64.wrap (n * mg x) = n * mg x := by rw [u64w]; omega
        rw [h8]
        refine ih _ _ _ _ _ (by omega) (by rw [← hs]; exact hl) (by rw [← hs]; exact hI) (fun h => hz (List.mem_cons_of_mem _ h)) ⟨snoc_ne h1 hx, hb', h7, by omega, fun ho => ?_, fun ho => ?_⟩
        · rw [ap_append, ap1, h4 ho]
        · rw [ap_append, ap1]; exact over_stays (h5 ho) hm
    simp only [triglyphref01_Prod.l1]
    rw [if_pos (by omega), if_pos (by omega), rd_mid]
    by_cases hx0 : x < 0
    · rw [if_pos hx0] at hmag ⊢
      rw [hmag, if_neg (by omega)]
      exact step _ (by rw [← hb, decide_eq_true hx0]; cases b <;> rfl)
    · rw [if_neg hx0] at hmag ⊢
      rw [hmag, if_neg (by omega)]
      exact step _ (by rw [← hb, decide_eq_false hx0]; cases b <;> rfl)
theorem refprod_eq {l : List Int} (hl : l.length ≤ 17592186044416) (hI : ∀ x ∈ l, I64 x) {k : Nat} (hk : 2 * l.length + 3 < k) : triglyphref01_Prod.f k l = some (fit (pr l)) := by
  unfold triglyphref01_Prod.f
  have h := ref_zero l [] k 1 false false (by omega) (by simpa using hl)
  simp only [List.nil_append, List.length_nil] at h
  rw [show ((0 : Nat) : Int) = 0 from rfl] at h
  rw [h]
  by_cases hz : 0 ∈ l
  · rw [if_pos hz]
    obtain ⟨a, b, rfl⟩ := List.append_of_mem hz
    rw [pr_zero]
    rfl
  · rw [if_neg hz]
    have h2 := ref_loop l [] (k - l.length - 1) 1 false false (by omega) (by simpa using hl) (by simpa using hI) hz ⟨by simp, rfl, by omega, by omega, fun _ => rfl, by simp⟩
    simpa using h2
theorem refmul_eq {a b : Int} (ha : I64 a) (hb : I64 b) {k : Nat} (hk : 8 ≤ k) : triglyphref01_Mul.f k a b = some (fit (pr [a, b])) := by
  unfold triglyphref01_Mul.f
  rw [refprod_eq (by simp) (by simp; exact ⟨ha, hb⟩) (by simp; omega)]
  rfl
def res (a b : Int) : Int := if a = 0 then b else if a = -1 ∨ a = 1 then 0 else
  let r := Int.tmod b a
  if r < 0 ∧ 0 < a ∨ 0 < r ∧ a < 0 then r + a else r
theorem tmod_bd {a b : Int} (h : a ≠ 0) : (0 < a → Int.tmod b a < a ∧ -a < Int.tmod b a) ∧ (a < 0 → Int.tmod b a < -a ∧ a < Int.tmod b a) := by
  constructor
  · intro h0
    have := Int.tmod_lt_of_pos b h0
    have := Int.lt_tmod_of_pos b h0
    omega
  · intro h0
    have h1 := Int.tmod_lt_of_pos b (show 0 < -a by omega)
    have h2 := Int.lt_tmod_of_pos b (show 0 < -a by omega)
    rw [Int.tmod_neg] at h1 h2
    omega
theorem res_num {a b : Int} (ha : I64 a) (hb : I64 b) : num_Res.f a b = some (res a b) := by
  obtain ⟨a1, a2⟩ := ha
  unfold num_Res.f res
  by_cases h0 : a = 0
  · rw [if_pos h0, if_pos h0]
  rw [if_neg h0, if_neg h0]
  by_cases h1 : a = -1
  · rw [if_pos h1, if_pos (Or.inl h1)]
  rw [if_neg h1]
  obtain ⟨b1, b2⟩ := tmod_bd (b := b) h0
  by_cases h2 : a = 1
  · subst h2
    rw [if_pos (Or.inr rfl)]
    simp
  rw [if_neg (show ¬ (a = -1 ∨ a = 1) by omega)]
  generalize Int.tmod b a = r at b1 b2
  simp only
  by_cases h3 : r = 0
  · subst h3
    rw [if_pos rfl, if_neg (by omega)]
  rw [if_neg h3]
  by_cases h4 : r < 0 <;> by_cases h5 : a < 0
  · rw [decide_eq_true h4, decide_eq_true h5, if_neg (by simp), if_neg (by omega)]
  · rw [decide_eq_true h4, decide_eq_false h5, if_pos (by rfl), if_pos (by omega)]
    congr 1
    unfold wrap64
    omega
  · rw [decide_eq_false h4, decide_eq_true h5, if_pos (by rfl), if_pos (by omega)]
    congr 1
    unfold wrap64
    omega
  · rw [decide_eq_false h4, decide_eq_false h5, if_neg (by simp), if_neg (by omega)]
theorem res_ref {a b : Int} (ha : I64 a) (hb : I64 b) {k : Nat} (hk : 1 ≤ k) : triglyphref01_Res.f k a b = some (res a b) := by
  obtain ⟨k, rfl⟩ : ∃ m, k = m + 1 := ⟨k - 1, by omega⟩
  obtain ⟨a1, a2⟩ := ha
  unfold triglyphref01_Res.f res
  by_cases h0 : a = 0
  · rw [if_pos h0, if_pos h0]
  rw [if_neg h0, if_neg h0]
  by_cases h1 : a = -1
  · rw [if_pos h1, if_pos (Or.inl h1)]
    simp [triglyphref01_Res.j0]
  rw [if_neg h1]
  obtain ⟨b1, b2⟩ := tmod_bd (b := b) h0
  by_cases h2 : a = 1
  · subst h2
    rw [if_pos (Or.inr rfl)]
    simp [triglyphref01_Res.j0]
  rw [if_neg (by omega)]
  have h2' : (a == 1) = false := by simpa using h2
  simp only [triglyphref01_Res.j0, h2', Bool.false_eq_true, if_false]
  rw [if_neg h0]
  generalize Int.tmod b a = r at b1 b2
  by_cases h4 : r < 0
  · rw [if_pos h4]
    by_cases h5 : a > 0
    · rw [if_pos h5, if_pos (by omega)]
      congr 1
      unfold wrap64
      omega
    · rw [if_neg h5, if_neg (by omega), if_neg (by omega)]
  · rw [if_neg h4]
    by_cases h5 : r > 0
    · rw [if_pos h5]
      by_cases h6 : a < 0
      · rw [if_pos h6, if_pos (by omega)]
        congr 1
        unfold wrap64
        omega
      · rw [if_neg h6, if_neg (by omega)]
    · rw [if_neg h5, if_neg (by omega)]
theorem wide0_eq {x : Int} (h : I64 x) : triglyphref01_wide0.f x = some (x / 4294967296, x % 4294967296) := by
  obtain ⟨h1, h2⟩ := h
  unfold triglyphref01_wide0.f triglyphref01_wide.f
  by_cases h0 : x ≥ 0
  · rw [if_pos h0, Int.tdiv_eq_ediv_of_nonneg h0, Int.tmod_eq_emod_of_nonneg h0]
    congr 2
    unfold wrap64
    omega
  · rw [if_neg h0]
    by_cases h3 : x = -9223372036854775808
    · subst h3
      rfl
    · rw [if_neg h3]
      have hm : Int.tmod x 4294967296 = -((-x) % 4294967296) := by
        have : x = -(-x) := by omega
        rw [this, Int.neg_tmod, Int.tmod_eq_emod_of_nonneg (by omega)]
        simp
      rw [hm]
      by_cases h4 : -((-x) % 4294967296) < 0
      · rw [if_pos h4]
        have h5 : wrap64 (-((-x) % 4294967296) + 4294967296) = x % 4294967296 := by unfold wrap64; omega
        rw [h5]
        have h6 : wrap64 (x - x % 4294967296) = x - x % 4294967296 := by unfold wrap64; omega
        rw [h6]
        have h7 : Int.tdiv (x - x % 4294967296) 4294967296 = x / 4294967296 := by
          have h8 : x - x % 4294967296 = 4294967296 * (x / 4294967296) := by omega
          rw [h8, Int.mul_tdiv_cancel_left _ (by omega)]
        rw [h7]
        simp only [Option.bind_some]
        congr 2
        unfold wrap64
        omega
      · rw [if_neg h4]
        have h5 : -((-x) % 4294967296) = x % 4294967296 := by omega
        rw [h5]
        have h6 : wrap64 (x - x % 4294967296) = x - x % 4294967296 := by unfold wrap64; omega
        rw [h6]
        have h7 : Int.tdiv (x - x % 4294967296) 4294967296 = x / 4294967296 := by
          have h8 : x - x % 4294967296 = 4294967296 * (x / 4294967296) := by omega
          rw [h8, Int.mul_tdiv_cancel_left _ (by omega)]
        rw [h7]
        simp only [Option.bind_some]
        congr 2
        unfold wrap64
        omega
theorem fits_eq {h l : Int} (h0 : 0 ≤ l) (h1 : l < 4294967296) : triglyphref01_fits.f h l = some (fit (h * 4294967296 + l)) := by
  unfold triglyphref01_fits.f fit
  by_cases a : h < -2147483648
  · rw [if_pos a, if_pos (by omega)]
  · rw [if_neg a]
    by_cases b : h > 2147483647
    · rw [if_pos b, if_pos (by omega)]
    · rw [if_neg b, if_neg (by omega)]
      congr 2
      unfold wrap64
      omega
theorem refsum_loop (rest : List Int) : ∀ (done : List Int) (k : Nat) (h l : Int), rest.length < k → (done ++ rest).length ≤ 2147483648 → (∀ x ∈ done ++ rest, I64 x) →
    h * 4294967296 + l = done.sum → -(done.length * 2147483648 : Int) ≤ h → h ≤ (done.length * 2147483648 : Int) → 0 ≤ l → l ≤ (done.length * 4294967295 : Int) →
    triglyphref01_Sum.l0 k (done ++ rest) (done.length : Int) h l = some (fit (done ++ rest).sum) := by
  induction rest with
  | nil =>
    intro done k h l hk hl hI hs h1 h2 h3 h4
    obtain ⟨k, rfl⟩ : ∃ m, k = m + 1 := ⟨k - 1, by omega⟩
    simp only [List.append_nil] at hl ⊢
    simp only [triglyphref01_Sum.l0]
    rw [if_neg (by omega), Int.tdiv_eq_ediv_of_nonneg h3, Int.tmod_eq_emod_of_nonneg h3]
    have e1 : wrap64 (h + wrap64 (l / 4294967296)) = h + l / 4294967296 := by unfold wrap64; omega
    have e2 : (h + l / 4294967296) * 4294967296 + l % 4294967296 = h * 4294967296 + l := by omega
    rw [e1, fits_eq (by omega) (by omega), ← hs, e2]
    rfl
  | cons x rest ih =>
    intro done k h l hk hl hI hs h1 h2 h3 h4
    simp only [List.length_cons] at hk
    obtain ⟨k, rfl⟩ : ∃ m, k = m + 1 := ⟨k - 1, by omega⟩
    have hxI := mem_mid hI
    have hlen : ((done ++ x :: rest).length : Int) = done.length + 1 + rest.length := by simp; omega
    have hl' : done.length + 1 + rest.length ≤ 2147483648 := by simp at hl; omega
    have hw : wrap64 ((done.length : Int) + 1) = ((done ++ [x]).length : Int) := by unfold wrap64; simp; omega
    have hsn : done ++ x :: rest = (done ++ [x]) ++ rest := by simp
    have hdl : ((done ++ [x]).length : Int) = done.length + 1 := by simp
    simp only [triglyphref01_Sum.l0]
    rw [if_pos (by omega), if_pos (by omega), rd_mid, wide0_eq hxI]
    simp only [Option.bind_some]
    obtain ⟨x1, x2⟩ := hxI
    have e1 : wrap64 (h + x / 4294967296) = h + x / 4294967296 := by unfold wrap64; omega
    have e2 : wrap64 (l + x % 4294967296) = l + x % 4294967296 := by unfold wrap64; omega
    rw [e1, e2, hw, hsn]
    refine ih _ _ _ _ (by omega) (by rw [← hsn]; exact hl) (by rw [← hsn]; exact hI) ?_ ?_ ?_ ?_ ?_
    · rw [List.sum_append, ← hs]
      simp
      omega
    all_goals first | omega | (rw [hdl]; omega)
theorem refsum_eq {l : List Int} (hl : l.length ≤ 2147483648) (hI : ∀ x ∈ l, I64 x) {k : Nat} (hk : l.length < k) : triglyphref01_Sum.f k l = some (fit l.sum) :=
  refsum_loop l [] k 0 0 hk (by simpa using hl) (by simpa using hI) (by simp) (by simp) (by simp) (by omega) (by simp)
theorem add_eq {a b : Int} (ha : I64 a) (hb : I64 b) : num_Add.f a b = some (fit (a + b)) := by
  obtain ⟨a1, a2⟩ := ha
  obtain ⟨b1, b2⟩ := hb
  have e1 : 0 < b → wrap64 (9223372036854775807 - b) = 9223372036854775807 - b := fun _ => by unfold wrap64; omega
  have e2 : b < 0 → wrap64 ((-9223372036854775808) - b) = (-9223372036854775808) - b := fun _ => by unfold wrap64; omega
  have e3 : (-9223372036854775808 ≤ a + b ∧ a + b ≤ 9223372036854775807) → wrap64 (a + b) = a + b := fun _ => by unfold wrap64; omega
  unfold num_Add.f fit
  by_cases h1 : b > 0
  · rw [if_pos h1, e1 h1]
    by_cases h2 : a > 9223372036854775807 - b
    · rw [if_pos h2, if_pos (by omega)]
    · rw [if_neg h2, if_neg (by omega), if_neg (by omega), e3 (by omega)]
  · rw [if_neg h1]
    by_cases h2 : b < 0
    · rw [if_pos h2, e2 h2]
      by_cases h3 : a < -9223372036854775808 - b
      · rw [if_pos h3, if_pos (by omega)]
      · rw [if_neg h3, if_neg (by omega), e3 (by omega)]
    · rw [if_neg h2, if_neg (by omega), e3 (by omega)]
theorem sub_eq {a b : Int} (ha : I64 a) (hb : I64 b) : num_Sub.f a b = some (fit (a - b)) := by
  obtain ⟨a1, a2⟩ := ha
  obtain ⟨b1, b2⟩ := hb
  have e1 : b < 0 → wrap64 (9223372036854775807 + b) = 9223372036854775807 + b := fun _ => by unfold wrap64; omega
  have e2 : 0 < b → wrap64 ((-9223372036854775808) + b) = (-9223372036854775808) + b := fun _ => by unfold wrap64; omega
  have e3 : (-9223372036854775808 ≤ a - b ∧ a - b ≤ 9223372036854775807) → wrap64 (a - b) = a - b := fun _ => by unfold wrap64; omega
  unfold num_Sub.f fit
  by_cases h1 : b < 0
  · rw [if_pos h1, e1 h1]
    by_cases h2 : a > 9223372036854775807 + b
    · rw [if_pos h2, if_pos (by omega)]
    · rw [if_neg h2, if_neg (by omega), if_neg (by omega), e3 (by omega)]
  · rw [if_neg h1]
    by_cases h2 : b > 0
    · rw [if_pos h2, e2 h2]
      by_cases h3 : a < -9223372036854775808 + b
      · rw [if_pos h3, if_pos (by omega)]
      · rw [if_neg h3, if_neg (by omega), e3 (by omega)]
    · rw [if_neg h2, if_neg (by omega), e3 (by omega)]
theorem refadd_eq {a b : Int} (ha : I64 a) (hb : I64 b) {k : Nat} (hk : 3 ≤ k) : triglyphref01_Add.f k a b = some (fit (a + b)) := by
  unfold triglyphref01_Add.f
  rw [refsum_eq (by simp) (by simp; exact ⟨ha, hb⟩) (by simp; omega)]
  simp
theorem refsub_eq {a b : Int} (ha : I64 a) (hb : I64 b) {k : Nat} (hk : 3 ≤ k) : triglyphref01_Sub.f k a b = some (fit (a - b)) := by
  have ha' := ha
  obtain ⟨a1, a2⟩ := ha
  obtain ⟨b1, b2⟩ := hb
  unfold triglyphref01_Sub.f
  by_cases h1 : b = -9223372036854775808
  · rw [if_pos h1]
    unfold fit
    by_cases h2 : a ≥ 0
    · rw [if_pos h2, if_pos (by omega)]
    · rw [if_neg h2, if_neg (by omega)]
      congr 2
      unfold wrap64
      omega
  · rw [if_neg h1]
    have e : wrap64 (-b) = -b := by unfold wrap64; omega
    rw [e, refsum_eq (by simp) (by simp; exact ⟨ha', by unfold I64; omega⟩) (by simp; omega)]
    simp [Int.sub_eq_add_neg]
end Go.Proofs.Ytahgfebdjjfkhaa.Pure
