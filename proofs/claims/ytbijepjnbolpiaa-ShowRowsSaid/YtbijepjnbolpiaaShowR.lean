/- The reference's text of an array whose cells' texts it comes to. Plain facts. -/
import Derived.Test.YtbijepjnbolpiaaShowV
import Derived.Lib.Hide
import Derived.Test.YtbijepjnbolpiaaPx8
import Derived.Test.YtbijepjnbolpiaaPx9
namespace Go.Proofs.Ytbijepjnbolpiaa.Pure
open Go.RowKit Go.Proofs.Ytbijepjnbolpiaa.P Go.Proofs.Ytbijepjnbolpiaa.Nest Go.Proofs.YtbijepjnbolpiaaW.PrintWords Go.Proofs.YtbijepjnbolpiaaW.PrintLast Go.Proofs.YtbijepjnbolpiaaW.PrintMore
set_option linter.unusedVariables false
set_option linter.unusedSimpArgs false
def RfC (d : Int) (x : S40) : Prop := ∃ K, ∀ k, K ≤ k → triglyphref27_cell.f k d x.f0 x.f1 x.f2 = some (txS d x).2
theorem item_ev (n : Int) (t : List Int) (c : List S40) (N p i : Nat) (hs : sizeS t = ((p : Int), 0)) (hc : c.length = N * p) (hl : c.length ≤ 2000) (ht : t.length ≤ 7) (hi : i < N) :
    ∃ K, ∀ k, K ≤ k → triglyphref05_Item.f k (n :: t) c (i : Int) = some (t, (c.drop (i * p)).take p) := by
  obtain ⟨K, hK⟩ := rsize_eq t
  have hip : (i + 1) * p ≤ N * p := Nat.mul_le_mul_right _ (by omega)
  have hip2 : (i + 1) * p = i * p + p := by rw [Nat.add_mul, Nat.one_mul]
  have e1 : (i : Int) * (p : Int) = ((i * p : Nat) : Int) := by push_cast; rfl
  refine ⟨K, fun k hk => ?_⟩
  unfold triglyphref05_Item.f
  rw [if_pos (by rw [List.length_cons]; omega), show (n :: t).drop 1 = t from rfl, hK k hk, hs]
  simp only [Option.bind_some]
  rw [if_pos (by simp; omega), e1, wrap_in (show -9223372036854775808 ≤ ((i * p : Nat) : Int) by omega) (by omega), if_pos (by omega), wrap_in (show -9223372036854775808 ≤ ((i * p : Nat) : Int) + (p : Int) by omega) (by omega), if_pos (by omega), if_pos (by omega),
    if_pos (by rw [List.length_drop, List.length_take]; simp; omega)]
  rw [Int.toNat_natCast, show (((i * p : Nat) : Int) + (p : Int)).toNat = i * p + p by omega, List.drop_take, show i * p + p - i * p = p by omega]
  simp
theorem r_l2 (d : Int) (btw : ByteArray) (N p : Nat) (t : List Int) (c : List S40) (W : List ByteArray) (hW : W.length = N) (hs : sizeS t = ((p : Int), 0)) (hc : c.length = N * p) (hN : N ≤ 2000) (hl : c.length ≤ 2000) (ht : t.length ≤ 7) (hb : btw.size ≤ 10) (hJ : sumB W ≤ 100000000000000)
    (H : ∀ (i : Nat) (h : i < N), ∃ K, ∀ k, K ≤ k → triglyphref27_text.f k d t ((c.drop (i * p)).take p) = some (W[i]'(by omega))) : ∀ (m i : Nat), i + m = N →
    ∃ K, ∀ k, K ≤ k → triglyphref27_text.l2 k d btw (jn btw (W.take i)) (i : Int) ((N : Int) :: t) c = some (jn btw W) := by
  intro m
  induction m with
  | zero =>
    intro i hi
    refine ⟨1, fun k hk => ?_⟩
    obtain ⟨k, rfl, hk2⟩ := succ_of (K := 0) hk
    simp only [triglyphref27_text.l2]
    rw [if_pos (by rw [List.length_cons]; omega), show rd ((N : Int) :: t) 0 = (N : Int) from rfl, if_neg (by omega), List.take_of_length_le (by omega)]
  | succ m ih =>
    intro i hi
    have hlt : i < N := by omega
    obtain ⟨K1, hK1⟩ := H i hlt
    obtain ⟨K2, hK2⟩ := item_ev (N : Int) t c N p i hs hc hl ht hlt
    obtain ⟨K, hK⟩ := ih (i + 1) (by omega)
    have hsz : (jn btw (W.take i)).size ≤ 100000000000000 + 20000 := by
      have h1 := jn_size btw (W.take i)
      have h2 := sumB_take W i
      have h3 : (W.take i).length * btw.size ≤ 2000 * 10 := Nat.mul_le_mul (by rw [List.length_take]; omega) hb
      omega
    have hwi : (W[i]'(by omega)).size ≤ 100000000000000 := by
      have h1 := sumB_take W (i + 1)
      rw [take_succ_get _ i (by omega), sumB_app] at h1
      simp only [sumB] at h1
      omega
    refine ⟨K + K1 + K2 + 1, fun k hk => ?_⟩
    obtain ⟨k, rfl, hk2⟩ := succ_of hk
    simp only [triglyphref27_text.l2]
    rw [if_pos (by rw [List.length_cons]; omega), show rd ((N : Int) :: t) 0 = (N : Int) from rfl, if_pos (by omega)]
    have h3 := hK k (by omega)
    rw [show (((i + 1 : Nat)) : Int) = (i : Int) + 1 by omega] at h3
    have hw : Hid (wrap64 ((i : Int) + 1) = (i : Int) + 1) := Lib.hid (wrap_in (by omega) (by omega))
    rcases Nat.eq_zero_or_pos i with hz | hz
    · subst hz
      rw [if_neg (by omega), hK2 k (by omega)]
      simp only [Option.bind_some]
      rw [hK1 k (by omega)]
      simp only [Option.bind_some]
      rw [if_pos (by show (jn btw (W.take 0)).size + _ ≤ _; omega), hw.out]
      have e : jn btw (W.take (0 + 1)) = jn btw (W.take 0) ++ W[0]'(by omega) := by
        rw [take_succ_get _ 0 (by omega)]
        simp only [List.take_zero, List.nil_append, jn, jt, ba_nil, nil_ba]
      rw [← e]
      exact h3
    · rw [if_pos (by omega), if_pos (by omega), hK2 k (by omega)]
      simp only [Option.bind_some]
      rw [hK1 k (by omega)]
      simp only [Option.bind_some]
      rw [if_pos (by rw [ba_size]; omega), hw.out]
      have e : jn btw (W.take (i + 1)) = jn btw (W.take i) ++ btw ++ W[i]'(by omega) := by
        rw [take_succ_get _ i (by omega)]
        obtain ⟨x, xs, hx⟩ : ∃ x xs, W.take i = x :: xs := by
          cases hq : W.take i with
          | nil => have := congrArg List.length hq; rw [List.length_take, List.length_nil] at this; omega
          | cons x xs => exact ⟨x, xs, rfl⟩
        rw [hx, jn_snoc]
        simp only [jt, ba_nil, ba_assoc]
      rw [← e]
      exact h3
theorem r_j2 (d : Int) (btw : ByteArray) (s : List Int) (c : List S40) (R : ByteArray) (h : ∃ K, ∀ k, K ≤ k → triglyphref27_text.l2 k d btw nilB 0 s c = some R) : ∃ K, ∀ k, K ≤ k → triglyphref27_text.j2 k d btw s c = some R := by
  obtain ⟨K, hK⟩ := h
  refine ⟨K + 1, fun k hk => ?_⟩
  obtain ⟨k, rfl, hk2⟩ := succ_of hk
  simp only [triglyphref27_text.j2]
  exact hK k hk2
theorem r_l0 (d : Int) (s : List Int) (c : List S40) (hl : c.length ≤ 2000) (R : ByteArray) (h : ∃ K, ∀ k, K ≤ k → triglyphref27_text.j2 k d (if c.all (fun x => x.f0 == 1) = true then nilB else ⟨#[32]⟩) s c = some R) : ∀ (m i : Nat) (b : Bool), i + m = c.length → b = (c.take i).all (fun x => x.f0 == 1) →
    ∃ K, ∀ k, K ≤ k → triglyphref27_text.l0 k d ⟨#[32]⟩ b (i : Int) s c = some R := by
  intro m
  induction m with
  | zero =>
    intro i b hi hb
    obtain ⟨K, hK⟩ := h
    rw [List.take_of_length_le (by omega)] at hb
    refine ⟨K + 1, fun k hk => ?_⟩
    obtain ⟨k, rfl, hk2⟩ := succ_of hk
    simp only [triglyphref27_text.l0]
    rw [if_neg (by omega)]
    have := hK k hk2
    rw [← hb] at this
    split <;> rename_i hq
    · rw [if_pos hq] at this; exact this
    · rw [if_neg hq] at this; exact this
  | succ m ih =>
    intro i b hi hb
    have hlt : i < c.length := by omega
    obtain ⟨K, hK⟩ := ih (i + 1) (b && (c[i].f0 == 1)) (by omega) (by rw [take_succ_get _ i hlt, List.all_append, hb]; simp)
    refine ⟨K + 1, fun k hk => ?_⟩
    obtain ⟨k, rfl, hk2⟩ := succ_of hk
    simp only [triglyphref27_text.l0]
    have h3 := hK k hk2
    rw [show (((i + 1 : Nat)) : Int) = (i : Int) + 1 by omega] at h3
    rw [if_pos (by omega), rdC_at c i hlt, wrap_in (by omega) (by omega)]
    cases b with
    | true => rw [if_pos rfl, if_pos (by omega)]; simpa using h3
    | false => rw [if_neg (by decide)]; simpa using h3
theorem r_l1 (d : Int) (s : List Int) (c : List S40) (r : Nat) (hr : s.length = r + 1) (h8 : r ≤ 7) (R : ByteArray) (h : ∃ K, ∀ k, K ≤ k → triglyphref27_text.j2 k d (nlB r) s c = some R) : ∀ (m i : Nat), i + m = r →
    ∃ K, ∀ k, K ≤ k → triglyphref27_text.l1 k d (nlB i) ((i : Int) + 1) s c = some R := by
  intro m
  induction m with
  | zero =>
    intro i hi
    obtain ⟨K, hK⟩ := h
    refine ⟨K + 1, fun k hk => ?_⟩
    obtain ⟨k, rfl, hk2⟩ := succ_of hk
    simp only [triglyphref27_text.l1]
    rw [if_neg (by omega), show i = r by omega]
    exact hK k hk2
  | succ m ih =>
    intro i hi
    obtain ⟨K, hK⟩ := ih (i + 1) (by omega)
    refine ⟨K + 1, fun k hk => ?_⟩
    obtain ⟨k, rfl, hk2⟩ := succ_of hk
    simp only [triglyphref27_text.l1]
    rw [if_pos (by omega), if_pos (by rw [nlB_size]; omega), wrap_in (by omega) (by omega)]
    have := hK k hk2
    rw [show (((i + 1 : Nat)) : Int) = (i : Int) + 1 by omega] at this
    exact this
theorem lay_ones (L : List TX) : (chk 1 L.length L).map (lay []) = L.map (·.2) := by
  apply List.ext_getElem
  · simp [chk_len]
  · intro i h1 h2
    have h3 : i < L.length := by simpa using h2
    rw [List.getElem_map, chk_get _ _ _ _ h3, List.getElem_map, Nat.mul_one, List.drop_eq_getElem_cons h3]
    rfl
theorem r_arr (d : Int) : ∀ (s : List Int) (c : List S40), Fit d s c → (∀ x ∈ c, RfC d x) → ∃ K, ∀ k, K ≤ k → triglyphref27_text.f k d s c = some (lay s (c.map (txS d)))
  | [], c, h, H => by
    have hl : c.length = 1 := by have := h.ln; rw [pr] at this; omega
    obtain ⟨x, rfl⟩ := List.length_eq_one_iff.1 hl
    obtain ⟨K, hK⟩ := H x (List.mem_singleton.2 rfl)
    refine ⟨K + 1, fun k hk => ?_⟩
    obtain ⟨k, rfl, hk2⟩ := succ_of hk
    simp only [triglyphref27_text.f]
    rw [if_pos (by simp), if_pos (by simp), show rd_T40 [x] 0 = x from rfl, hK k hk2]
    rfl
  | n :: t, c, h, H => by
    obtain ⟨N, p, rfl, hp, hl, hN, hF⟩ := h.parts
    have hlen := h.len
    have h8 : t.length ≤ 7 := by have := h.rk; simp at this ⊢; omega
    have htn : ∀ x ∈ t, 0 ≤ x := fun x hx => h.nn x (List.mem_cons_of_mem _ hx)
    have hsz : sizeS t = ((p : Int), 0) := by rw [sizeS_pm htn (by omega) (pm_tail h.wd).1, hp]
    have hW : ((chk p N (c.map (txS d))).map (lay t)).length = N := by rw [List.length_map, chk_len]
    have hg : ∀ (i : Nat) (hi : i < N), ((chk p N (c.map (txS d))).map (lay t))[i]'(by rw [hW]; exact hi) = lay t (((c.drop (i * p)).take p).map (txS d)) := by
      intro i hi
      rw [List.getElem_map, chk_get _ _ _ _ hi, List.map_take, List.map_drop]
    have hS : sumB ((chk p N (c.map (txS d))).map (lay t)) ≤ N * 2000000000 := by
      have := sumB_le ((chk p N (c.map (txS d))).map (lay t)) 2000000000 (by
        intro x hx
        obtain ⟨i, hi, rfl⟩ := List.getElem_of_mem hx
        rw [hW] at hi
        rw [hg i hi]
        exact (hF i hi).size)
      rwa [hW] at this
    have hl2 : ∀ btw : ByteArray, btw.size ≤ 10 → ∃ K, ∀ k, K ≤ k → triglyphref27_text.l2 k d btw nilB 0 ((N : Int) :: t) c = some (jn btw ((chk p N (c.map (txS d))).map (lay t))) := by
      intro btw hb
      have := r_l2 d btw N p t c _ hW hsz hl hN hlen h8 hb (by have : N * 2000000000 ≤ 2000 * 2000000000 := Nat.mul_le_mul_right _ hN; omega) (by
        intro i hi
        rw [hg i hi]
        exact r_arr d t _ (hF i hi) (fun x hx => H x (List.mem_of_mem_drop (List.mem_of_mem_take hx)))) N 0 (by omega)
      rw [List.take_zero] at this
      exact this
    cases t with
    | nil =>
      have hp1 : p = 1 := by rw [pr] at hp; omega
      subst hp1
      rw [Nat.mul_one] at hl
      have hLn : (c.map (txS d)).length = N := by rw [List.length_map, hl]
      have e := lay_ones (c.map (txS d))
      rw [hLn] at e
      rw [e] at hl2
      obtain ⟨K, hK⟩ := r_l0 d [(N : Int)] c hlen _ (r_j2 d _ _ c _ (hl2 (sep1 (c.map (txS d))) (by rw [sep1_all]; split <;> decide)) |> fun h => by rw [← sep1_all d c]; exact h) c.length 0 true (by omega) (by simp)
      refine ⟨K + 1, fun k hk => ?_⟩
      obtain ⟨k, rfl, hk2⟩ := succ_of hk
      simp only [triglyphref27_text.f]
      rw [if_neg (by simp), if_pos (by simp), lay_one]
      exact hK k hk2
    | cons m t =>
      obtain ⟨K, hK⟩ := r_l1 d ((N : Int) :: m :: t) c (m :: t).length rfl h8 _ (r_j2 d _ _ c _ (hl2 (nlB (m :: t).length) (by rw [nlB_size]; omega))) (m :: t).length 0 (by omega)
      refine ⟨K + 1, fun k hk => ?_⟩
      obtain ⟨k, rfl, hk2⟩ := succ_of hk
      simp only [triglyphref27_text.f]
      rw [if_neg (by simp; omega), if_neg (by simp; omega), lay_two, Int.toNat_natCast, List.length_map, hl]
      have := hK k hk2
      rcases Nat.eq_zero_or_pos N with hz | hz
      · subst hz
        simpa [chk, nlB] using this
      · rw [Nat.mul_div_cancel_left _ hz]
        simpa [nlB] using this
end Go.Proofs.Ytbijepjnbolpiaa.Pure
