/- The law ShowRows, of what its function comes to. -/
import Derived.Test.YtbijepjnbolpiaaShowL
import Derived.Test.YtbijepjnbolpiaaStaShowRows
import Derived.Test.YtbijepjnbolpiaaPx10
import Derived.Test.YtbijepjnbolpiaaPx5
import Derived.Test.YtbijepjnbolpiaaPx6
namespace Go.Proofs.Ytbijepjnbolpiaa.Pure
open Go.RowKit Go.Proofs.Ytbijepjnbolpiaa.P Go.Proofs.Ytbijepjnbolpiaa.Nest Go.Proofs.YtbijepjnbolpiaaW.PrintWords Go.Proofs.YtbijepjnbolpiaaW.PrintLast Go.Proofs.YtbijepjnbolpiaaW.PrintMore
set_option linter.unusedVariables false
set_option linter.unusedSimpArgs false
def mkC (z : Int) : S40 := ⟨0, z, []⟩
theorem rnums_l0 (s : List Int) (l : List Int) (hl : l.length ≤ 16384) : ∀ (m i : Nat), i + m = l.length → ∃ K, ∀ k, K ≤ k → triglyphref03_Nums.l0 k l (i : Int) s ((l.take i).map mkC) = some (s, l.map mkC) := by
  intro m
  induction m with
  | zero =>
    intro i hi
    refine ⟨1, fun k hk => ?_⟩
    obtain ⟨k, rfl, _⟩ := succ_of (K := 0) hk
    simp only [triglyphref03_Nums.l0]
    rw [if_neg (by omega), List.take_of_length_le (by omega)]
  | succ m ih =>
    intro i hi
    obtain ⟨K, hK⟩ := ih (i + 1) (by omega)
    have hlt : i < l.length := by omega
    refine ⟨K + 1, fun k hk => ?_⟩
    obtain ⟨k, rfl, hk2⟩ := succ_of hk
    simp only [triglyphref03_Nums.l0]
    have := hK k hk2
    rw [take_succ_get _ i hlt, List.map_append, show (((i + 1 : Nat)) : Int) = (i : Int) + 1 by omega] at this
    rw [if_pos (by omega), if_pos (by omega), if_pos (by rw [List.length_map, List.length_take]; omega), wrap_in (by omega) (by omega), show rd l (i : Int) = l[i] by simp [rd, hlt]]
    exact this
theorem rnums_eq (l : List Int) (hl : l.length ≤ 16384) : ∃ K, ∀ k, K ≤ k → triglyphref03_Nums.f k l = some ([(l.length : Int)], l.map mkC) := by
  obtain ⟨K, hK⟩ := rnums_l0 [(l.length : Int)] l hl l.length 0 (by omega)
  exact ⟨K, fun k hk => by unfold triglyphref03_Nums.f; simpa using hK k hk⟩
theorem ch_mk : ∀ (l : List Int) (d : Nat), chCs (l.map mkC) d = 0
  | [], d => by rw [List.map_nil, chCs]
  | x :: l, d => by
    have h : chC (mkC x) d = 0 := by rw [mkC, chC, chB, if_pos rfl]
    rw [List.map_cons, chCs, if_pos h, ch_mk l d]
theorem w_mk : ∀ (l : List Int) (n most : Int) (deep : Nat), wCs (l.map mkC) n most deep = n
  | [], n, most, deep => by rw [List.map_nil, wCs]
  | x :: l, n, most, deep => by
    have h : wC (mkC x) n most deep = n := by rw [mkC, wC, wB_none]
    rw [List.map_cons, wCs, h, w_mk l n most deep]
    split <;> rfl
theorem li_mk : ∀ (l : List Int), liCs (l.map mkC)
  | [] => by rw [List.map_nil, liCs]; trivial
  | x :: l => by
    rw [List.map_cons, liCs, mkC, liC, liB]
    exact ⟨trivial, li_mk l⟩
theorem ok_mk : ∀ (l : List Int), (∀ z ∈ l, (Lit.int .i64 z).wf = true) → okCs (l.map mkC)
  | [], h => by rw [List.map_nil, okCs]; trivial
  | x :: l, h => by
    rw [List.map_cons, okCs, mkC, okC, okAs]
    refine ⟨⟨by decide, h x List.mem_cons_self, by decide, trivial⟩, ok_mk l (fun z hz => h z (List.mem_cons_of_mem _ hz))⟩
/-- Numbers in a shape, as an array that may be and is light. -/
theorem nums_show (d : Int) (hd : ¬ (d < 0 ∨ d > 2)) (s : List Int) (l : List Int) (h0 : ∀ x ∈ s, 0 ≤ x ∧ x ≤ 400) (h8 : s.length ≤ 8) (hp : pm s ≤ 2000) (hl : pr s = l.length) (h4 : l.length ≤ 400) (hw : ∀ z ∈ l, (Lit.int .i64 z).wf = true) :
    (∃ K, ∀ k, K ≤ k → show_Show.f k d s (l.map mkC) = some (arrS d ⟨s, l.map mkC⟩, 0)) ∧ (arrS d ⟨s, l.map mkC⟩).size ≤ 2000000000 := by
  have hn : ∀ x ∈ s, 0 ≤ x := fun x hx => (h0 x hx).1
  have hz := sizeS_pm hn h8 hp
  have hok : okA ⟨s, l.map mkC⟩ := by
    rw [okA]
    unfold reachBytes
    refine ⟨⟨by omega, fun y hy => ?_⟩, by rw [List.length_map]; omega, ok_mk l hw⟩
    obtain ⟨a, b⟩ := h0 y hy
    unfold Lit.wf
    rw [Bool.and_eq_true]
    exact ⟨decide_eq_true (show (-9223372036854775808 : Int) ≤ y by omega), decide_eq_true (show y ≤ 9223372036854775807 by omega)⟩
  have hli : liA ⟨s, l.map mkC⟩ := by
    rw [liA, List.take_of_length_le (by omega)]
    exact ⟨hp, li_mk l⟩
  have hwt : wA ⟨s, l.map mkC⟩ 1000 16 ≤ 1000 := by
    rw [wA, w_mk, List.length_map]
    omega
  have hch : chA ⟨s, l.map mkC⟩ 0 = 0 := by
    have hany : s.any (16384 < ·) = false := by
      rw [List.any_eq_false]
      intro x hx
      have := (h0 x hx).2
      simp
      omega
    rw [chA, hz]
    simp only
    rw [if_pos True.intro, if_pos (by rw [List.length_map]; exact hl), hany, if_neg (by decide), ch_mk]
  obtain ⟨K, hK⟩ := show_eq d ⟨s, l.map mkC⟩ hok hli hwt
  refine ⟨⟨K, fun k hk => ?_⟩, ?_⟩
  · have := hK k hk
    unfold showS at this
    rw [if_neg hd, if_pos hch] at this
    exact this
  · have hF := (light_parts d ⟨s, l.map mkC⟩ hok hli hwt hch).1.size
    rw [arrS, cellsS_map]
    exact hF
theorem sr_works (d : Int) (rows : List (List Int)) : ∀ k, 81 ≤ k → triglyphlaw27_ShowRows.j0 k d rows true = some true := by
  intro k hk
  obtain ⟨k, rfl, hk2⟩ := succ_of (K := 80) hk
  simp only [triglyphlaw27_ShowRows.j0]
  rw [if_pos True.intro, works_eq k hk2]
  rfl
theorem rdL_at (rows : List (List Int)) (i : Nat) (h : i < rows.length) : rd_L10 rows (i : Int) = rows[i] := by simp [rd_L10, h]
theorem sr_l0 (d : Int) (hd : ¬ (d < 0 ∨ d > 2)) (rows : List (List Int)) (n : Nat) (hr : rows.length ≤ 20) (hr0 : 0 < rows.length) (hn : n ≤ 20) (hw : ∀ y ∈ rows, ∀ z ∈ y, (Lit.int .i64 z).wf = true) : ∀ (m i : Nat), i + m = rows.length → (∀ y ∈ rows.take i, y.length = n) →
    ∃ K, triglyphlaw27_ShowRows.l0 K rows d (n : Int) (jn (nlB 1) ((rows.take i).map fun r => arrS d ⟨[(n : Int)], r.map mkC⟩)) (i : Int) [(rows.length : Int), (n : Int)] ((rows.take i).flatten.map mkC) = some true := by
  intro m
  induction m with
  | zero =>
    intro i hi hrow
    rw [List.take_of_length_le (by omega)] at hrow ⊢
    have hfl : rows.flatten.length = rows.length * n := by
      clear hi hr hr0 hw
      induction rows with
      | nil => simp
      | cons y rows ih =>
        rw [List.flatten_cons, List.length_append, ih (fun z hz => hrow z (List.mem_cons_of_mem _ hz)), hrow y List.mem_cons_self, List.length_cons, Nat.add_mul]
        omega
    have hmul : rows.length * n ≤ 20 * 20 := Nat.mul_le_mul hr hn
    have hprod : ∀ a b : Int, 0 ≤ a → a ≤ 20 → 0 ≤ b → b ≤ 20 → (if a ≤ 1 then 1 else a) * ((if b ≤ 1 then 1 else b) * 1) ≤ 2000 := by
      intro a b h1 h2 h3 h4
      have h5 : (if a ≤ 1 then 1 else a) ≤ 20 := by split <;> omega
      have h6 : 0 ≤ (if a ≤ 1 then 1 else a) := by split <;> omega
      have h7 : (if b ≤ 1 then 1 else b) * 1 ≤ 20 := by split <;> omega
      have h8 : 0 ≤ (if b ≤ 1 then 1 else b) * 1 := by split <;> omega
      have := Int.mul_le_mul h5 h7 h8 (by omega)
      omega
    obtain ⟨⟨K, hK⟩, _⟩ := nums_show d hd [(rows.length : Int), (n : Int)] rows.flatten (by
      intro x hx
      rcases List.mem_cons.1 hx with rfl | hx
      · omega
      · rw [List.mem_singleton.1 hx]; omega) (by simp) (by rw [pm, pm, pm]; exact hprod _ _ (by omega) (by omega) (by omega) (by omega)) (by rw [pr, pr, pr, hfl, Int.mul_one]; push_cast; rfl) (by omega) (by
      intro z hz
      obtain ⟨y, hy, hzy⟩ := List.mem_flatten.1 hz
      exact hw y hy z hzy)
    refine ⟨K + 81, ?_⟩
    obtain ⟨k, hk⟩ : ∃ k, K + 81 = k + 1 := ⟨K + 80, rfl⟩
    rw [hk]
    simp only [triglyphlaw27_ShowRows.l0]
    rw [if_neg (by omega), hK k (by omega)]
    simp only [Option.bind_some]
    have e : arrS d ⟨[(rows.length : Int), (n : Int)], rows.flatten.map mkC⟩ = jn (nlB 1) (rows.map fun r => arrS d ⟨[(n : Int)], r.map mkC⟩) := by
      rw [arrS, cellsS_map, lay_two, Int.toNat_natCast, List.length_map, List.length_map, hfl, Nat.mul_div_cancel_left _ hr0]
      have hch : ∀ (R : List (List Int)), (∀ y ∈ R, y.length = n) → (chk n R.length ((R.flatten.map mkC).map (txS d))).map (lay [(n : Int)]) = R.map fun r => arrS d ⟨[(n : Int)], r.map mkC⟩ := by
        intro R
        induction R with
        | nil => intro _; rfl
        | cons y R ih =>
          intro hy
          have hy1 := hy y List.mem_cons_self
          rw [List.flatten_cons, List.map_append, List.map_append, List.length_cons, chk, List.take_left' (by simp [hy1]), List.drop_left' (by simp [hy1]), List.map_cons, List.map_cons, ih (fun z hz => hy z (List.mem_cons_of_mem _ hz)), arrS, cellsS_map]
      rw [hch rows hrow]
      rfl
    rw [e, works_eq k (by omega)]
    simp
  | succ m ih =>
    intro i hi hrow
    have hlt : i < rows.length := by omega
    by_cases hc : rows[i].length = n
    · obtain ⟨K, hK⟩ := ih (i + 1) (by omega) (by
        rw [take_succ_get _ i hlt]
        intro y hy
        rcases List.mem_append.1 hy with hy | hy
        · exact hrow y hy
        · rw [List.mem_singleton.1 hy]; exact hc)
      obtain ⟨K1, hK1⟩ := rnums_eq rows[i] (by omega)
      obtain ⟨⟨K2, hK2⟩, hs2⟩ := nums_show d hd [(n : Int)] rows[i] (by
        intro x hx
        rw [List.mem_singleton.1 hx]
        omega) (by simp) (by rw [pm, pm]; split <;> omega) (by rw [pr, pr, hc]; omega) (by omega) (hw _ (List.getElem_mem _))
      have hacc : (jn (nlB 1) ((rows.take i).map fun r => arrS d ⟨[(n : Int)], r.map mkC⟩)).size ≤ 40000000100 := by
        have h1 := jn_size (nlB 1) ((rows.take i).map fun r => arrS d ⟨[(n : Int)], r.map mkC⟩)
        have h2 := sumB_le ((rows.take i).map fun r => arrS d ⟨[(n : Int)], r.map mkC⟩) 2000000000 (by
          intro x hx
          obtain ⟨y, hy, rfl⟩ := List.mem_map.1 hx
          have hyn := hrow y hy
          exact (nums_show d hd [(n : Int)] y (by
            intro x hx
            rw [List.mem_singleton.1 hx]
            omega) (by simp) (by rw [pm, pm]; split <;> omega) (by rw [pr, pr, hyn]; omega) (by omega) (hw _ (List.mem_of_mem_take hy))).2)
        rw [List.length_map, List.length_take] at h1 h2
        rw [nlB_size] at h1
        have h3 : min i rows.length * 2000000000 ≤ 20 * 2000000000 := Nat.mul_le_mul_right _ (by omega)
        omega
      have hcells : ((rows.take i).flatten.map mkC).length ≤ 400 := by
        rw [List.length_map]
        have : ∀ (R : List (List Int)), (∀ y ∈ R, y.length = n) → R.flatten.length = R.length * n := by
          intro R
          induction R with
          | nil => intro _; simp
          | cons y R ih =>
            intro hy
            rw [List.flatten_cons, List.length_append, ih (fun z hz => hy z (List.mem_cons_of_mem _ hz)), hy y List.mem_cons_self, List.length_cons, Nat.add_mul]
            omega
        rw [this _ hrow, List.length_take]
        have := Nat.mul_le_mul (show min i rows.length ≤ 20 by omega) hn
        omega
      refine ⟨K + K1 + K2 + 1, ?_⟩
      simp only [triglyphlaw27_ShowRows.l0]
      rw [if_pos (by omega), if_pos (by omega), rdL_at rows i hlt, if_pos (by omega), hK1 _ (by omega)]
      simp only [Option.bind_some]
      have hcl2 : (rows[i].map mkC).length ≤ 20 := by rw [List.length_map]; omega
      rw [if_pos (by omega)]
      rw [show ((rows[i].length : Int)) = (n : Int) by omega, hK2 _ (by omega)]
      simp only [Option.bind_some]
      rw [if_pos True.intro]
      have hT := at_rounds (g := fun q => triglyphlaw27_ShowRows.l0 q rows d (n : Int) (jn (nlB 1) ((rows.take (i + 1)).map fun r => arrS d ⟨[(n : Int)], r.map mkC⟩)) ((i + 1 : Nat) : Int) [(rows.length : Int), (n : Int)] ((rows.take (i + 1)).flatten.map mkC)) (fun q => (triglyphlaw27_ShowRows.mono_l q).2 _ _ _ _ _ _ _) (show K ≤ K + K1 + K2 by omega) hK
      rw [take_succ_get _ i hlt, List.flatten_append, List.map_append, List.map_append] at hT
      simp only [List.flatten_cons, List.flatten_nil, List.append_nil, List.map_cons, List.map_nil] at hT
      have hw1 : wrap64 ((i : Int) + 1) = ((i + 1 : Nat) : Int) := by rw [wrap_in (by omega) (by omega)]; omega
      rw [hw1]
      clear hw1
      rcases Nat.eq_zero_or_pos i with hz | hz
      · subst hz
        rw [if_neg (by omega), if_pos (by omega)]
        have e : jn (nlB 1) (((rows.take 0).map fun r => arrS d ⟨[(n : Int)], r.map mkC⟩) ++ [arrS d ⟨[(n : Int)], rows[0].map mkC⟩]) = jn (nlB 1) ((rows.take 0).map fun r => arrS d ⟨[(n : Int)], r.map mkC⟩) ++ arrS d ⟨[(n : Int)], rows[0].map mkC⟩ := by
          simp only [List.take_zero, List.map_nil, List.nil_append, jn, jt, ba_nil, nil_ba]
        rw [e] at hT
        exact hT
      · rw [if_pos (by omega), if_pos (by omega), if_pos (by rw [ba_size]; show _ + 1 + _ ≤ _; omega)]
        have e : jn (nlB 1) (((rows.take i).map fun r => arrS d ⟨[(n : Int)], r.map mkC⟩) ++ [arrS d ⟨[(n : Int)], rows[i].map mkC⟩]) = jn (nlB 1) ((rows.take i).map fun r => arrS d ⟨[(n : Int)], r.map mkC⟩) ++ ⟨#[10]⟩ ++ arrS d ⟨[(n : Int)], rows[i].map mkC⟩ := by
          obtain ⟨x, xs, hx⟩ : ∃ x xs, ((rows.take i).map fun r => arrS d ⟨[(n : Int)], r.map mkC⟩) = x :: xs := by
            cases hq : ((rows.take i).map fun r => arrS d ⟨[(n : Int)], r.map mkC⟩) with
            | nil => have := congrArg List.length hq; rw [List.length_map, List.length_take, List.length_nil] at this; omega
            | cons x xs => exact ⟨x, xs, rfl⟩
          rw [hx, jn_snoc]
          simp only [jt, ba_nil, ba_assoc]
          rfl
        rw [e] at hT
        exact hT
    · obtain ⟨k, hk80, hk⟩ : ∃ k, 80 ≤ k ∧ 81 = k + 1 := ⟨80, by omega, rfl⟩
      refine ⟨81, ?_⟩
      rw [hk]
      simp only [triglyphlaw27_ShowRows.l0]
      rw [if_pos (by omega), if_pos (by omega), rdL_at rows i hlt, if_neg (by omega), works_eq _ (by omega)]
      rfl
theorem ShowRows : ShowRows.Pure := by
  intro d0 rows hd0 hr hw
  have hw2 : ∀ y ∈ rows, ∀ z ∈ y, (Lit.int .i64 z).wf = true := fun y hy => (hw y hy).2
  have hu : 0 ≤ d0 ∧ d0 ≤ 255 := by
    unfold Lit.wf at hd0
    rw [Bool.and_eq_true] at hd0
    exact ⟨of_decide_eq_true (p := (0 : Int) ≤ d0) hd0.1, of_decide_eq_true (p := d0 ≤ 255) hd0.2⟩
  have hmod : Int.tmod (wrap64 d0) 3 = d0 % 3 := by rw [wrap_in (by omega) (by omega), Int.tmod_eq_emod_of_nonneg hu.1]
  by_cases h0 : rows.length = 0
  · refine ⟨81, ?_⟩
    unfold triglyphlaw27_ShowRows.f
    rw [if_pos (by omega), sr_works _ _ _ (by omega)]
  · by_cases h20 : rows.length > 20
    · refine ⟨81, ?_⟩
      unfold triglyphlaw27_ShowRows.f
      rw [if_neg (by omega), if_pos (by omega), sr_works _ _ _ (by omega)]
    · have hrd := rdL_at rows 0 (by omega)
      by_cases hn : rows[0].length > 20
      · refine ⟨81, ?_⟩
        unfold triglyphlaw27_ShowRows.f
        rw [if_neg (by omega), if_neg (by omega), if_pos (by omega)]
        have hd2 : decide (((rd_L10 rows 0).length : Int) > 20) = true := decide_eq_true (by rw [show (0 : Int) = ((0 : Nat) : Int) from rfl, hrd]; omega)
        rw [hd2, sr_works _ _ _ (by omega)]
      · obtain ⟨K, hK⟩ := sr_l0 (d0 % 3) (by omega) rows rows[0].length (by omega) (by omega) (by omega) hw2 rows.length 0 (by omega) (by simp)
        refine ⟨K + 1, ?_⟩
        unfold triglyphlaw27_ShowRows.f
        rw [if_neg (by omega), if_neg (by omega), if_pos (by omega)]
        have hd2 : decide (((rd_L10 rows 0).length : Int) > 20) = false := decide_eq_false (by rw [show (0 : Int) = ((0 : Nat) : Int) from rfl, hrd]; omega)
        rw [hd2]
        simp only [triglyphlaw27_ShowRows.j0]
        rw [if_neg (by decide), if_pos (by omega), hmod]
        have hrd2 : rd_L10 rows 0 = rows[0] := hrd
        rw [hrd2]
        simpa [jn] using hK
end Go.Proofs.Ytbijepjnbolpiaa.Pure
