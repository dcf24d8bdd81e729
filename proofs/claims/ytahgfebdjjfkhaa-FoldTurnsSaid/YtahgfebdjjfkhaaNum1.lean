/- What the functions of package num, and the reference's, compute: plain facts about whole numbers. -/
import Derived.Test.YtahgfebdjjfkhaaArr1
import Derived.Test.YtahgfebdjjfkhaaPx4
import Derived.Test.YtahgfebdjjfkhaaPx5
import Derived.Test.YtahgfebdjjfkhaaPx7
namespace Go.Proofs.Ytahgfebdjjfkhaa.Pure
open Go.RowKit Go.Proofs.Ytahgfebdjjfkhaa.P Go.Proofs.Ytahgfebdjjfkhaa.Nest Go.Proofs.YtahgfebdjjfkhaaW.PrintWords Go.Proofs.YtahgfebdjjfkhaaW.PrintLast Go.Proofs.YtahgfebdjjfkhaaW.PrintMore
set_option linter.unusedVariables false
set_option linter.unusedSimpArgs false
theorem u64w (x : Int) : IntKind.u64.wrap x = x % 18446744073709551616 := rfl
def I64 (x : Int) : Prop := -9223372036854775808 ≤ x ∧ x ≤ 9223372036854775807
theorem i64_of {x : Int} (h : (Lit.int .i64 x).wf = true) : I64 x := by
  have h1 : (decide (IntKind.i64.min ≤ x) && decide (x ≤ IntKind.i64.max)) = true := h
  have h2 : IntKind.i64.min = -9223372036854775808 := rfl
  have h3 : IntKind.i64.max = 9223372036854775807 := rfl
  rw [h2, h3] at h1
  simpa [I64] using h1
def mg (x : Int) : Int := if x < 0 then -x else x
def ap (l : List Int) : Int := l.foldr (fun x r => mg x * r) 1
def sg (l : List Int) : Bool := l.foldr (fun x r => (decide (x < 0)) != r) false
def pr (l : List Int) : Int := l.foldr (fun x r => x * r) 1
def fit (s : Int) : Int × Int := if s < -9223372036854775808 ∨ 9223372036854775807 < s then (0, 9) else (s, 0)
theorem mg_pos {x : Int} (h : x ≠ 0) : 1 ≤ mg x := by unfold mg; split <;> omega
theorem ap_append (a b : List Int) : ap (a ++ b) = ap a * ap b := by
  induction a with
  | nil => simp [ap]
  | cons x a ih => simp only [ap, List.cons_append, List.foldr_cons] at ih ⊢; rw [ih, Int.mul_assoc]
theorem pr_append (a b : List Int) : pr (a ++ b) = pr a * pr b := by
  induction a with
  | nil => simp [pr]
  | cons x a ih => simp only [pr, List.cons_append, List.foldr_cons] at ih ⊢; rw [ih, Int.mul_assoc]
theorem sg_append (a b : List Int) : sg (a ++ b) = (sg a != sg b) := by
  induction a with
  | nil => simp [sg]
  | cons x a ih => simp only [sg, List.cons_append, List.foldr_cons] at ih ⊢; rw [ih]; cases decide (x < 0) <;> cases List.foldr (fun x r => decide (x < 0) != r) false a <;> cases List.foldr (fun x r => decide (x < 0) != r) false b <;> rfl
theorem pr_ap (l : List Int) : pr l = if sg l = true then -ap l else ap l := by
  induction l with
  | nil => simp [pr, sg, ap]
  | cons x l ih =>
    rw [show pr (x :: l) = x * pr l from rfl, show sg (x :: l) = (decide (x < 0) != sg l) from rfl, show ap (x :: l) = mg x * ap l from rfl, ih]
    generalize sg l = s
    generalize ap l = p
    unfold mg
    by_cases hx : x < 0
    · rw [if_pos hx, decide_eq_true hx]
      cases s <;> simp [Int.neg_mul, Int.mul_neg]
    · rw [if_neg hx, decide_eq_false hx]
      cases s <;> simp [Int.mul_neg]
theorem pr_zero (a b : List Int) : pr (a ++ 0 :: b) = 0 := by
  rw [pr_append]
  simp [pr]
theorem sg1 (x : Int) : sg [x] = decide (x < 0) := by simp [sg]
theorem ap1 (x : Int) : ap [x] = mg x := by simp [ap]
theorem nsize_eq {x : Int} (h : I64 x) : num_size.f x = some (mg x, decide (x < 0)) := by
  obtain ⟨h1, h2⟩ := h
  unfold num_size.f mg
  by_cases hx : x < 0
  · rw [if_pos hx, if_pos hx, u64w, u64w, decide_eq_true hx]
    congr 2
    omega
  · rw [if_neg hx, if_neg hx, u64w, decide_eq_false hx]
    congr 2
    omega
theorem signed_eq {n : Int} (h0 : 0 ≤ n) (h1 : n ≤ 9223372036854775808) (b : Bool) (k : Nat) : num_signed.f (k + 1) n b = some (fit (if b = true then -n else n)) := by
  unfold num_signed.f fit
  simp only [num_signed.j0]
  cases b with
  | true =>
    simp only [if_true]
    rw [decide_eq_true h1, if_pos rfl, if_neg (by omega)]
    simp only [u64w, wrap64]
    congr 2
    omega
  | false =>
    simp only [Bool.false_eq_true, if_false]
    by_cases hm : n ≤ 9223372036854775807
    · rw [if_pos hm, if_neg (by omega)]
      simp only [wrap64]
      congr 2
      omega
    · rw [if_neg hm, if_pos (by omega)]
theorem quo_lt {n m : Int} (hm : 1 ≤ m) (hm2 : m ≤ 9223372036854775808) (h0 : 0 ≤ n) : (n > IntKind.u64.wrap (Int.tdiv 9223372036854775808 m)) ↔ 9223372036854775808 < n * m := by
  rw [Int.tdiv_eq_ediv_of_nonneg (by omega), u64w]
  have hq0 : 0 ≤ 9223372036854775808 / m := Int.ediv_nonneg (by omega) (by omega)
  have hq1 : 9223372036854775808 / m ≤ 9223372036854775808 := Int.ediv_le_self _ (by omega)
  rw [Int.emod_eq_of_lt hq0 (by omega)]
  constructor
  · intro h
    have := Int.lt_mul_of_ediv_lt (show 0 < m by omega) h
    omega
  · intro h
    exact Int.ediv_lt_of_lt_mul (by omega) h
/-- What has been gone through: no nought; its sign; how great it is, or that it is too great. -/
def Inv (done : List Int) (n : Int) (b o : Bool) : Prop :=
  (∀ x ∈ done, x ≠ 0) ∧ b = sg done ∧ 0 ≤ n ∧ (o = false → n = ap done ∧ ap done ≤ 9223372036854775808) ∧ (o = true → 9223372036854775808 < ap done)
theorem mem_mid {a b : List Int} {x : Int} {p : Int → Prop} (h : ∀ y ∈ a ++ x :: b, p y) : p x := h x (by simp)
theorem snoc_ne {done : List Int} {x : Int} (h : ∀ y ∈ done, y ≠ 0) (hx : x ≠ 0) : ∀ y ∈ done ++ [x], y ≠ 0 := by
  intro y hy
  rcases List.mem_append.1 hy with hy | hy
  · exact h y hy
  · rw [List.mem_singleton.1 hy]; exact hx
theorem mg_le {x : Int} (h : I64 x) : mg x ≤ 9223372036854775808 := by
  obtain ⟨h1, h2⟩ := h
  unfold mg
  split <;> omega
theorem over_stays {p m : Int} (hp : 9223372036854775808 < p) (hm : 1 ≤ m) : 9223372036854775808 < p * m := by
  have := Int.mul_le_mul_of_nonneg_left hm (show 0 ≤ p by omega)
  omega
theorem fit_over {l : List Int} (h : 9223372036854775808 < ap l) : fit (pr l) = (0, 9) := by
  unfold fit
  rw [pr_ap, if_pos]
  split <;> omega
theorem prod_loop (rest : List Int) : ∀ (done : List Int) (k : Nat) (n : Int) (b o : Bool), rest.length + 1 < k → (done ++ rest).length ≤ 17592186044416 → (∀ x ∈ done ++ rest, I64 x) → Inv done n b o →
    num_Prod.l0 k (done ++ rest) n b o ((done ++ rest).length : Int) (done.length : Int) = some (fit (pr (done ++ rest))) := by
  induction rest with
  | nil =>
    intro done k n b o hk hl hI ⟨h1, h2, h3, h4, h5⟩
    obtain ⟨k, rfl⟩ : ∃ m, k = m + 1 := ⟨k - 1, by omega⟩
    simp only [num_Prod.l0, List.append_nil]
    rw [if_neg (by omega)]
    cases o with
    | true => rw [if_pos rfl, fit_over (h5 rfl)]
    | false =>
      obtain ⟨k, rfl⟩ : ∃ m, k = m + 1 := ⟨k - 1, by simp at hk; omega⟩
      obtain ⟨rfl, h6⟩ := h4 rfl
      rw [if_neg (by simp), signed_eq h3 h6, pr_ap, h2]
      rfl
  | cons x rest ih =>
    intro done k n b o hk hl hI ⟨h1, h2, h3, h4, h5⟩
    simp only [List.length_cons] at hk
    obtain ⟨k, rfl⟩ : ∃ m, k = m + 1 := ⟨k - 1, by omega⟩
    have hxI := mem_mid hI
    have hlen : ((done ++ x :: rest).length : Int) = done.length + 1 + rest.length := by simp; omega
    have hl' : done.length + 1 + rest.length ≤ 17592186044416 := by simp at hl; omega
    have hw : wrap64 ((done.length : Int) + 1) = ((done ++ [x]).length : Int) := by unfold wrap64; simp; omega
    have hs : done ++ x :: rest = (done ++ [x]) ++ rest := by simp
    simp only [num_Prod.l0]
    rw [if_pos (by omega), if_pos (by omega), if_pos (by omega), rd_mid, nsize_eq hxI]
    simp only [Option.bind_some]
    by_cases hx : x = 0
    · subst hx
      rw [if_pos (by simp [mg]), pr_zero]
      rfl
    · have hm := mg_pos hx
      have hb : (b != decide (x < 0)) = sg (done ++ [x]) := by rw [sg_append, sg1, h2]
      rw [if_neg (by omega), hw, hs]
      cases o with
      | true =>
        rw [if_pos rfl]
        refine ih _ _ _ _ _ (by omega) (by rw [← hs]; exact hl) (by rw [← hs]; exact hI) ⟨snoc_ne h1 hx, hb, h3, by simp, fun _ => ?_⟩
        rw [ap_append, ap1]
        exact over_stays (h5 rfl) hm
      | false =>
        obtain ⟨rfl, h6⟩ := h4 rfl
        rw [if_neg (by simp)]
        by_cases hq : 9223372036854775808 < ap done * mg x
        · rw [if_pos ((quo_lt hm (mg_le hxI) h3).2 hq)]
          refine ih _ _ _ _ _ (by omega) (by rw [← hs]; exact hl) (by rw [← hs]; exact hI) ⟨snoc_ne h1 hx, hb, h3, by simp, fun _ => ?_⟩
          rw [ap_append, ap1]
          exact hq
        · rw [if_neg (fun h => hq ((quo_lt hm (mg_le hxI) h3).1 h))]
          have h7 : 0 ≤ ap done * mg x := Int.mul_nonneg h3 (by omega)
          have h8 : IntKind.u64.wrap (ap done * mg x) = ap done * mg x := by rw [u64w]; omega
          rw [h8]
          refine ih _ _ _ _ _ (by omega) (by rw [← hs]; exact hl) (by rw [← hs]; exact hI) ⟨snoc_ne h1 hx, hb, h7, fun _ => ?_, by simp⟩
          rw [ap_append, ap1]
          exact ⟨rfl, by omega⟩
theorem prod_eq {l : List Int} (hl : l.length ≤ 17592186044416) (hI : ∀ x ∈ l, I64 x) {k : Nat} (hk : l.length + 1 < k) : num_Prod.f k l = some (fit (pr l)) :=
  prod_loop l [] k 1 false false hk hl hI ⟨by simp, rfl, by omega, fun _ => ⟨rfl, by simp [ap]⟩, by simp⟩
theorem mul_eq {a b : Int} (ha : I64 a) (hb : I64 b) {k : Nat} (hk : 4 ≤ k) : num_Mul.f k a b = some (fit (pr [a, b])) := by
  unfold num_Mul.f
  rw [prod_eq (by simp) (by simp; exact ⟨ha, hb⟩) (by simp; omega)]
  rfl
def res (a b : Int) : Int := if a = 0 then b else if a = -1 ∨ a = 1 then 0 else
  let r := Int.tmod b a
  if r < 0 ∧ 0 < a ∨ 0 < r ∧ a < 0 then r + a else r
theorem tmod_bd {a b : Int} (h : a ≠ 0) : (0 < a → Int.tmod b a < a ∧ -a < Int.tmod b a) ∧ (a < 0 → Int.tmod b a < -a ∧ a < Int.tmod b a) := by
  constructor
  · intro h0
    have := Int.tmod_lt_of_pos b h0
    have := Int.lt_tmod_of_pos b h0
    omega
  · intro h0
    have h1 := Int.tmod_lt_of_pos b (show 0 < -a by omega)
    have h2 := Int.lt_tmod_of_pos b (show 0 < -a by omega)
    rw [Int.tmod_neg] at h1 h2
    omega
theorem res_num {a b : Int} (ha : I64 a) (hb : I64 b) : num_Res.f a b = some (res a b) := by
  obtain ⟨a1, a2⟩ := ha
  unfold num_Res.f res
  by_cases h0 : a = 0
  · rw [if_pos h0, if_pos h0]
  rw [if_neg h0, if_neg h0]
  by_cases h1 : a = -1
  · rw [if_pos h1, if_pos (Or.inl h1)]
  rw [if_neg h1]
  obtain ⟨b1, b2⟩ := tmod_bd (b := b) h0
  by_cases h2 : a = 1
  · subst h2
    rw [if_pos (Or.inr rfl)]
    simp
  rw [if_neg (show ¬ (a = -1 ∨ a = 1) by omega)]
  generalize Int.tmod b a = r at b1 b2
  simp only
  by_cases h3 : r = 0
  · subst h3
    rw [if_pos rfl, if_neg (by omega)]
  rw [if_neg h3]
  by_cases h4 : r < 0 <;> by_cases h5 : a < 0
  · rw [decide_eq_true h4, decide_eq_true h5, if_neg (by simp), if_neg (by omega)]
  · rw [decide_eq_true h4, decide_eq_false h5, if_pos (by rfl), if_pos (by omega)]
    congr 1
    unfold wrap64
    omega
  · rw [decide_eq_false h4, decide_eq_true h5, if_pos (by rfl), if_pos (by omega)]
    congr 1
    unfold wrap64
    omega
  · rw [decide_eq_false h4, decide_eq_false h5, if_neg (by simp), if_neg (by omega)]
theorem sum_eq {l : List Int} (hl : l.length ≤ 17592186044416) (hI : ∀ x ∈ l, I64 x) : num_Sum.f l = some (fit l.sum) := by
  have hc : (l.all fun x => decide (-9223372036854775808 ≤ x) && decide (x ≤ 9223372036854775807)) = true := by
    rw [List.all_eq_true]
    intro x hx
    have h := hI x hx
    unfold I64 at h
    simpa using h
  exact if_pos ⟨hl, hc⟩
theorem add_eq {a b : Int} (ha : I64 a) (hb : I64 b) : num_Add.f a b = some (fit (a + b)) := by
  obtain ⟨a1, a2⟩ := ha
  obtain ⟨b1, b2⟩ := hb
  have e1 : 0 < b → wrap64 (9223372036854775807 - b) = 9223372036854775807 - b := fun _ => by unfold wrap64; omega
  have e2 : b < 0 → wrap64 ((-9223372036854775808) - b) = (-9223372036854775808) - b := fun _ => by unfold wrap64; omega
  have e3 : (-9223372036854775808 ≤ a + b ∧ a + b ≤ 9223372036854775807) → wrap64 (a + b) = a + b := fun _ => by unfold wrap64; omega
  unfold num_Add.f fit
  by_cases h1 : b > 0
  · rw [if_pos h1, e1 h1]
    by_cases h2 : a > 9223372036854775807 - b
    · rw [if_pos h2, if_pos (by omega)]
    · rw [if_neg h2, if_neg (by omega), if_neg (by omega), e3 (by omega)]
  · rw [if_neg h1]
    by_cases h2 : b < 0
    · rw [if_pos h2, e2 h2]
      by_cases h3 : a < -9223372036854775808 - b
      · rw [if_pos h3, if_pos (by omega)]
      · rw [if_neg h3, if_neg (by omega), e3 (by omega)]
    · rw [if_neg h2, if_neg (by omega), e3 (by omega)]
theorem sub_eq {a b : Int} (ha : I64 a) (hb : I64 b) : num_Sub.f a b = some (fit (a - b)) := by
  obtain ⟨a1, a2⟩ := ha
  obtain ⟨b1, b2⟩ := hb
  have e1 : b < 0 → wrap64 (9223372036854775807 + b) = 9223372036854775807 + b := fun _ => by unfold wrap64; omega
  have e2 : 0 < b → wrap64 ((-9223372036854775808) + b) = (-9223372036854775808) + b := fun _ => by unfold wrap64; omega
  have e3 : (-9223372036854775808 ≤ a - b ∧ a - b ≤ 9223372036854775807) → wrap64 (a - b) = a - b := fun _ => by unfold wrap64; omega
  unfold num_Sub.f fit
  by_cases h1 : b < 0
  · rw [if_pos h1, e1 h1]
    by_cases h2 : a > 9223372036854775807 + b
    · rw [if_pos h2, if_pos (by omega)]
    · rw [if_neg h2, if_neg (by omega), if_neg (by omega), e3 (by omega)]
  · rw [if_neg h1]
    by_cases h2 : b > 0
    · rw [if_pos h2, e2 h2]
      by_cases h3 : a < -9223372036854775808 + b
      · rw [if_pos h3, if_pos (by omega)]
      · rw [if_neg h3, if_neg (by omega), e3 (by omega)]
    · rw [if_neg h2, if_neg (by omega), e3 (by omega)]
end Go.Proofs.Ytahgfebdjjfkhaa.Pure
