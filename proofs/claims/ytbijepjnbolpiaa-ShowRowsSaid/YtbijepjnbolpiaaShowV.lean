/- The package and the reference come to the same text of an array whose cells' texts they come to. Plain facts. -/
import Derived.Test.YtbijepjnbolpiaaShowE
import Derived.Test.YtbijepjnbolpiaaPx4
import Derived.Test.YtbijepjnbolpiaaPx5
namespace Go.Proofs.Ytbijepjnbolpiaa.Pure
open Go.RowKit Go.Proofs.Ytbijepjnbolpiaa.P Go.Proofs.Ytbijepjnbolpiaa.Nest Go.Proofs.YtbijepjnbolpiaaW.PrintWords Go.Proofs.YtbijepjnbolpiaaW.PrintLast Go.Proofs.YtbijepjnbolpiaaW.PrintMore
set_option linter.unusedVariables false
set_option linter.unusedSimpArgs false
mutual
def arrS (d : Int) : S25 → ByteArray
  | ⟨s, c⟩ => lay s (cellsS d c)
def cellsS (d : Int) : List S40 → List TX
  | [] => []
  | x :: xs => txS d x :: cellsS d xs
def txS (d : Int) : S40 → TX
  | ⟨k, n, b⟩ => (k == 1, if k = 0 then numS n (minusB d) else if k = 1 then strOfNums (putL n) else boxS d b)
def boxS (d : Int) : List S25 → ByteArray
  | [] => nilB
  | x :: _ => ((⟨#[91]⟩ : ByteArray) ++ arrS d x) ++ ⟨#[93]⟩
end
theorem cellsS_map (d : Int) : ∀ c, cellsS d c = c.map (txS d)
  | [] => by rw [cellsS]; rfl
  | x :: c => by rw [cellsS, cellsS_map d c]; rfl
theorem txS_one (d : Int) (x : S40) : (txS d x).1 = (x.f0 == 1) := by
  obtain ⟨k, n, b⟩ := x
  rw [txS]
def GoC (d : Int) (x : S40) : Prop := ∃ K, ∀ k, K ≤ k → show_cell.f k d x.f0 x.f1 x.f2 = some (txS d x).2
theorem rdC_at (c : List S40) (i : Nat) (h : i < c.length) : rd_T40 c (i : Int) = c[i] := by simp [rd_T40, h]
theorem sumB_le : ∀ (W : List ByteArray) (M : Nat), (∀ x ∈ W, x.size ≤ M) → sumB W ≤ W.length * M
  | [], M, _ => Nat.zero_le _
  | x :: W, M, h => by
    have a := h x List.mem_cons_self
    have b := sumB_le W M (fun y hy => h y (List.mem_cons_of_mem _ hy))
    rw [sumB, List.length_cons, Nat.add_mul, Nat.one_mul]
    omega
theorem sumB_take (W : List ByteArray) (i : Nat) : sumB (W.take i) ≤ sumB W := by
  have := sumB_app (W.take i) (W.drop i)
  rw [List.take_append_drop] at this
  omega
theorem take_succ_get {α : Type} (W : List α) (i : Nat) (h : i < W.length) : W.take (i + 1) = W.take i ++ [W[i]] := by simp
theorem signs_ev (c : List S40) (hl : c.length ≤ 1000000) : ∃ K, ∀ k, K ≤ k → show_signs.f k c = some (c.all (fun x => x.f0 == 1)) := by
  have h : ∀ (m i : Nat), i + m = c.length → ∃ K, ∀ k, K ≤ k → show_signs.l0 k c (c.length : Int) (i : Int) = some ((c.drop i).all (fun x => x.f0 == 1)) := by
    intro m
    induction m with
    | zero =>
      intro i hi
      refine ⟨1, fun k hk => ?_⟩
      obtain ⟨k, rfl, _⟩ := succ_of (K := 0) hk
      simp only [show_signs.l0]
      rw [if_neg (by omega), List.drop_of_length_le (by omega)]
      rfl
    | succ m ih =>
      intro i hi
      obtain ⟨K, hK⟩ := ih (i + 1) (by omega)
      refine ⟨K + 1, fun k hk => ?_⟩
      obtain ⟨k, rfl, hk2⟩ := succ_of hk
      simp only [show_signs.l0]
      rw [if_pos (by omega), if_pos (by omega), if_pos (by omega), rdC_at c i (by omega), wrap_in (by omega) (by omega), List.drop_eq_getElem_cons (by omega : i < c.length), List.all_cons]
      have := hK k hk2
      rw [show (((i + 1 : Nat)) : Int) = (i : Int) + 1 by omega] at this
      rw [this]
      by_cases h1 : c[i].f0 = 1
      · rw [if_pos h1, h1]; rfl
      · rw [if_neg h1]
        have : (c[i].f0 == 1) = false := by simpa using h1
        rw [this]; rfl
  obtain ⟨K, hK⟩ := h c.length 0 (by omega)
  refine ⟨K, fun k hk => ?_⟩
  unfold show_signs.f
  simpa using hK k hk
theorem join_ev (l : List ByteArray) (sep : ByteArray) (h1 : l.length ≤ 1000000) (h2 : sumB l + l.length * sep.size ≤ 140737488355328) : strings_Join.f l sep = some (jn sep l) := by
  unfold strings_Join.f
  have h := jn_size sep l
  rw [join_jn, if_pos ⟨by omega, by omega⟩]
theorem sep1_all (d : Int) (c : List S40) : sep1 (c.map (txS d)) = if c.all (fun x => x.f0 == 1) = true then nilB else ⟨#[32]⟩ := by
  unfold sep1
  rw [List.all_map, show ((fun x : TX => x.1) ∘ txS d) = (fun x => x.f0 == 1) from funext (txS_one d)]
theorem g_l0 (d : Int) (s : List Int) (c : List S40) (hl : c.length ≤ 20000) (hs : tot (c.map (txS d)) ≤ 1000000000) (H : ∀ x ∈ c, GoC d x) : ∀ (m i : Nat), i + m = c.length →
    ∃ K, ∀ k, K ≤ k → show_array.l0 k d (((c.map (txS d)).map (·.2)).take i) c (c.length : Int) (i : Int) s c = some (jn (sep1 (c.map (txS d))) ((c.map (txS d)).map (·.2))) := by
  intro m
  induction m with
  | zero =>
    intro i hi
    obtain ⟨K, hK⟩ := signs_ev c (by omega)
    refine ⟨K + 1, fun k hk => ?_⟩
    obtain ⟨k, rfl, hk2⟩ := succ_of hk
    simp only [show_array.l0]
    rw [if_neg (by omega), hK k hk2, List.take_of_length_le (by simp; omega)]
    simp only [Option.bind_some]
    have hz : ∀ sp : ByteArray, sp.size ≤ 1 → strings_Join.f ((c.map (txS d)).map (·.2)) sp = some (jn sp ((c.map (txS d)).map (·.2))) := by
      intro sp hsp
      refine join_ev _ _ (by simp; omega) ?_
      have : ((c.map (txS d)).map (·.2)).length * sp.size ≤ ((c.map (txS d)).map (·.2)).length * 1 := Nat.mul_le_mul_left _ hsp
      have h2 : ((c.map (txS d)).map (·.2)).length = c.length := by simp
      unfold tot at hs
      omega
    rw [sep1_all]
    by_cases h1 : c.all (fun x => x.f0 == 1) = true
    · rw [if_pos h1, if_pos h1]
      have := hz nilB (Nat.zero_le _)
      rw [this]; rfl
    · rw [if_neg h1, if_neg h1]
      have := hz ⟨#[32]⟩ (Nat.le_refl _)
      rw [this]; rfl
  | succ m ih =>
    intro i hi
    have hlt : i < c.length := by omega
    obtain ⟨K1, hK1⟩ := H c[i] (List.getElem_mem _)
    obtain ⟨K, hK⟩ := ih (i + 1) (by omega)
    refine ⟨K + K1 + 1, fun k hk => ?_⟩
    obtain ⟨k, rfl, hk2⟩ := succ_of hk
    simp only [show_array.l0]
    rw [if_pos (by omega), if_pos (by omega), if_pos (by omega), rdC_at c i hlt, hK1 k (by omega)]
    simp only [Option.bind_some]
    rw [if_pos (by rw [List.length_take]; omega), wrap_in (by omega) (by omega)]
    have := hK k (by omega)
    rw [take_succ_get _ i (by simp; omega)] at this
    simpa using this
theorem g_l1 (d : Int) (N p : Nat) (t : List Int) (c : List S40) (W : List ByteArray) (hW : W.length = N) (hc : c.length = N * p) (hN : N ≤ 2000) (hp : c.length ≤ 2000) (ht : t.length ≤ 7) (hJ : sumB W ≤ 100000000000000)
    (H : ∀ (i : Nat) (h : i < N), ∃ K, ∀ k, K ≤ k → show_array.f k d t ((c.drop (i * p)).take p) = some (W[i]'(by omega))) : ∀ (m i : Nat), i + m = N →
    ∃ K, ∀ k, K ≤ k → show_array.l1 k d (W.take i) (N : Int) (N : Int) (i : Int) ((N : Int) :: t) c = some (jn (nlB t.length) W) := by
  intro m
  induction m with
  | zero =>
    intro i hi
    refine ⟨1, fun k hk => ?_⟩
    obtain ⟨k, rfl, hk2⟩ := succ_of (K := 0) hk
    simp only [show_array.l1]
    rw [if_neg (by omega), List.take_of_length_le (by omega), wrap_in (by rw [List.length_cons]; omega) (by rw [List.length_cons]; omega), show (((N : Int) :: t).length : Int) - 1 = (t.length : Int) by rw [List.length_cons]; omega, rep_nl _ (by omega)]
    simp only [Option.bind_some]
    rw [join_ev W _ (by omega) (by rw [nlB_size]; have : W.length * t.length ≤ 2000 * 7 := Nat.mul_le_mul (by omega) ht; omega)]
    rfl
  | succ m ih =>
    intro i hi
    have hlt : i < N := by omega
    obtain ⟨K1, hK1⟩ := H i hlt
    obtain ⟨K, hK⟩ := ih (i + 1) (by omega)
    have hq : (c.length : Int) / (N : Int) = (p : Int) := by
      rw [hc, Int.natCast_mul, Int.mul_ediv_cancel_left _ (by omega)]
    have hip : (i + 1) * p ≤ N * p := Nat.mul_le_mul_right _ (by omega)
    have hip2 : (i + 1) * p = i * p + p := by rw [Nat.add_mul, Nat.one_mul]
    have e1 : (i : Int) * (p : Int) = ((i * p : Nat) : Int) := by push_cast; rfl
    have e2 : ((i : Int) + 1) * (p : Int) = ((i * p + p : Nat) : Int) := by rw [Int.add_mul, Int.one_mul]; push_cast; rfl
    refine ⟨K + K1 + 1, fun k hk => ?_⟩
    obtain ⟨k, rfl, hk2⟩ := succ_of hk
    simp only [show_array.l1]
    rw [if_pos (by omega), if_neg (by omega), if_pos (by rw [List.length_cons]; omega), hq, wrap_in (show -9223372036854775808 ≤ (p : Int) by omega) (by have : p ≤ N * p := Nat.le_mul_of_pos_left p (by omega); omega), e1, wrap_in (show -9223372036854775808 ≤ (i : Int) + 1 by omega) (by omega), e2, wrap_in (show -9223372036854775808 ≤ ((i * p : Nat) : Int) by omega) (by omega), wrap_in (show -9223372036854775808 ≤ ((i * p + p : Nat) : Int) by omega) (by omega), if_pos (by omega), if_pos (by omega), if_pos (by omega), Int.toNat_natCast, Int.toNat_natCast, List.drop_take, show i * p + p - i * p = p by omega]
    have h2 := hK1 k (by omega)
    rw [show ((N : Int) :: t).drop 1 = t from rfl, h2]
    simp only [Option.bind_some]
    rw [if_pos (by rw [List.length_take]; omega)]
    have := hK k (by omega)
    rw [take_succ_get _ i (by omega), show (((i + 1 : Nat)) : Int) = (i : Int) + 1 by omega] at this
    exact this
/-- What is asked of an array's shape and cells. -/
structure Fit (d : Int) (s : List Int) (c : List S40) : Prop where
  nn : ∀ x ∈ s, 0 ≤ x
  rk : s.length ≤ 8
  ln : pr s = c.length
  wd : pm s ≤ 2000
  tt : tot (c.map (txS d)) ≤ 1000000000
theorem Fit.len {d : Int} {s : List Int} {c : List S40} (h : Fit d s c) : c.length ≤ 2000 := by
  have := pr_le s h.nn
  have := h.ln
  have := h.wd
  omega
theorem Fit.parts {d : Int} {n : Int} {t : List Int} {c : List S40} (h : Fit d (n :: t) c) : ∃ N p : Nat, n = (N : Int) ∧ pr t = (p : Int) ∧ c.length = N * p ∧ N ≤ 2000 ∧ (∀ i, i < N → Fit d t ((c.drop (i * p)).take p)) := by
  have hn := h.nn n List.mem_cons_self
  have ht : ∀ x ∈ t, 0 ≤ x := fun x hx => h.nn x (List.mem_cons_of_mem _ hx)
  obtain ⟨N, rfl⟩ := Int.eq_ofNat_of_zero_le hn
  obtain ⟨p, hp⟩ := Int.eq_ofNat_of_zero_le (pr_le t ht).1
  have hl := h.ln
  rw [pr, hp] at hl
  have hl2 : c.length = N * p := by exact_mod_cast hl.symm
  have hw := pm_tail h.wd
  refine ⟨N, p, rfl, hp, hl2, by omega, fun i hi => ⟨ht, by have := h.rk; rw [List.length_cons] at this; omega, ?_, hw.1, ?_⟩⟩
  · have hip : (i + 1) * p ≤ N * p := Nat.mul_le_mul_right _ (by omega)
    rw [Nat.add_mul, Nat.one_mul] at hip
    rw [hp, List.length_take, List.length_drop]
    omega
  · have h1 := tot_take_drop (i * p) (c.map (txS d))
    have h2 := tot_take_drop p ((c.map (txS d)).drop (i * p))
    rw [List.map_take, List.map_drop]
    have := h.tt
    omega
theorem Fit.size {d : Int} {s : List Int} {c : List S40} (h : Fit d s c) : (lay s (c.map (txS d))).size ≤ 2000000000 := by
  have h1 := lay_size s (c.map (txS d)) h.nn h.rk (by rw [h.ln]; simp)
  have h2 : ((s.length * s.length : Nat) : Int) ≤ 64 := by
    have := Nat.mul_le_mul h.rk h.rk
    omega
  have h3 := Int.mul_le_mul h2 h.wd (by have := pm_pos s; omega) (by omega)
  have := h.tt
  omega
theorem g_arr (d : Int) : ∀ (s : List Int) (c : List S40), Fit d s c → (∀ x ∈ c, GoC d x) → ∃ K, ∀ k, K ≤ k → show_array.f k d s c = some (lay s (c.map (txS d)))
  | [], c, h, H => by
    have hl : c.length = 1 := by have := h.ln; rw [pr] at this; omega
    obtain ⟨x, rfl⟩ := List.length_eq_one_iff.1 hl
    obtain ⟨K, hK⟩ := H x (List.mem_singleton.2 rfl)
    refine ⟨K + 1, fun k hk => ?_⟩
    obtain ⟨k, rfl, hk2⟩ := succ_of hk
    simp only [show_array.f]
    rw [if_pos (by simp), if_pos (by simp), show rd_T40 [x] 0 = x from rfl, hK k hk2]
    rfl
  | [n], c, h, H => by
    obtain ⟨K, hK⟩ := g_l0 d [n] c (by have := h.len; omega) h.tt H c.length 0 (by omega)
    refine ⟨K + 1, fun k hk => ?_⟩
    obtain ⟨k, rfl, hk2⟩ := succ_of hk
    simp only [show_array.f]
    rw [if_neg (by simp), if_pos (by simp), lay_one]
    simpa using hK k hk2
  | n :: m :: t, c, h, H => by
    obtain ⟨N, p, rfl, hp, hl, hN, hF⟩ := h.parts
    have hlen := h.len
    have hW : ((chk p N (c.map (txS d))).map (lay (m :: t))).length = N := by rw [List.length_map, chk_len]
    have hg : ∀ (i : Nat) (hi : i < N), ((chk p N (c.map (txS d))).map (lay (m :: t)))[i]'(by rw [hW]; exact hi) = lay (m :: t) (((c.drop (i * p)).take p).map (txS d)) := by
      intro i hi
      rw [List.getElem_map, chk_get _ _ _ _ hi, List.map_take, List.map_drop]
    have hS : sumB ((chk p N (c.map (txS d))).map (lay (m :: t))) ≤ N * 2000000000 := by
      have := sumB_le ((chk p N (c.map (txS d))).map (lay (m :: t))) 2000000000 (by
        intro x hx
        obtain ⟨i, hi, rfl⟩ := List.getElem_of_mem hx
        rw [hW] at hi
        rw [hg i hi]
        exact (hF i hi).size)
      rwa [hW] at this
    obtain ⟨K, hK⟩ := g_l1 d N p (m :: t) c _ hW hl hN hlen (by have := h.rk; simp at this ⊢; omega) (by have : N * 2000000000 ≤ 2000 * 2000000000 := Nat.mul_le_mul_right _ hN; omega) (by
      intro i hi
      rw [hg i hi]
      exact g_arr d (m :: t) _ (hF i hi) (fun x hx => H x (List.mem_of_mem_drop (List.mem_of_mem_take hx)))) N 0 (by omega)
    refine ⟨K + 1, fun k hk => ?_⟩
    obtain ⟨k, rfl, hk2⟩ := succ_of hk
    simp only [show_array.f]
    rw [if_neg (by simp; omega), if_neg (by simp; omega), if_pos (by simp; omega), lay_two, show rd ((N : Int) :: m :: t) 0 = (N : Int) from rfl, Int.toNat_natCast, List.length_map, hl]
    have := hK k hk2
    rcases Nat.eq_zero_or_pos N with hz | hz
    · subst hz
      simpa [chk] using this
    · rw [Nat.mul_div_cancel_left _ hz]
      simpa using this
end Go.Proofs.Ytbijepjnbolpiaa.Pure
