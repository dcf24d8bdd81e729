/- ArrMakes: what it computes is yes, for every list and number. -/
import Derived.Test.YtlnphoeogpfjkaaStaArrMakes
import Derived.Test.YtlnphoeogpfjkaaArrWorks
import Derived.Test.YtlnphoeogpfjkaaArr3
import Derived.Test.YtlnphoeogpfjkaaArr5
import Derived.Test.YtlnphoeogpfjkaaPx11
import Derived.Test.YtlnphoeogpfjkaaPx12
import Derived.Test.YtlnphoeogpfjkaaPx3
import Derived.Test.YtlnphoeogpfjkaaPx7
namespace Go.Proofs.Ytlnphoeogpfjkaa.Pure
open Go.RowKit Go.Proofs.Ytlnphoeogpfjkaa.P Go.Proofs.Ytlnphoeogpfjkaa.Nest Go.Proofs.YtlnphoeogpfjkaaW.PrintWords Go.Proofs.YtlnphoeogpfjkaaW.PrintLast Go.Proofs.YtlnphoeogpfjkaaW.PrintMore
def cellsOf (kk : Int) (l : List Int) : List S28 := l.map fun x => ⟨kk, x, []⟩
theorem nums_l0 (s : List Int) : ∀ (rest done : List Int), (done ++ rest).length ≤ 16384 → ∃ K, ∀ k, K ≤ k → arr_Nums.l0 k (done ++ rest) ((done ++ rest).length : Int) (done.length : Int) s (cellsOf 0 done) = some (s, cellsOf 0 (done ++ rest))
  | [], done, hl => by
    refine ⟨1, fun k hk => ?_⟩
    obtain ⟨k, rfl, _⟩ := succ_of (K := 0) hk
    simp only [arr_Nums.l0]
    rw [if_neg (by simp)]
    simp
  | x :: rest, done, hl => by
    have hs : done ++ x :: rest = (done ++ [x]) ++ rest := by simp
    have hl' := hl
    rw [List.length_append, List.length_cons] at hl'
    obtain ⟨K, hK⟩ := nums_l0 s rest (done ++ [x]) (by rw [← hs]; exact hl)
    refine ⟨K + 1, fun k hk => ?_⟩
    obtain ⟨k, rfl, hk2⟩ := succ_of hk
    simp only [arr_Nums.l0]
    rw [if_pos (by rw [List.length_append, List.length_cons]; omega), if_pos (by omega), if_pos (by rw [List.length_append, List.length_cons]; omega), if_pos (by simp [cellsOf]; omega), rd_mid, wrap_next _ x (by omega), hs]
    have := hK k hk2
    simpa [cellsOf] using this
theorem text_l0 (s : List Int) : ∀ (rest done : List Int), (done ++ rest).length ≤ 16384 → ∃ K, ∀ k, K ≤ k → arr_Text.l0 k (done ++ rest) ((done ++ rest).length : Int) (done.length : Int) s (cellsOf 1 done) = some (s, cellsOf 1 (done ++ rest))
  | [], done, hl => by
    refine ⟨1, fun k hk => ?_⟩
    obtain ⟨k, rfl, _⟩ := succ_of (K := 0) hk
    simp only [arr_Text.l0]
    rw [if_neg (by simp)]
    simp
  | x :: rest, done, hl => by
    have hs : done ++ x :: rest = (done ++ [x]) ++ rest := by simp
    have hl' := hl
    rw [List.length_append, List.length_cons] at hl'
    obtain ⟨K, hK⟩ := text_l0 s rest (done ++ [x]) (by rw [← hs]; exact hl)
    refine ⟨K + 1, fun k hk => ?_⟩
    obtain ⟨k, rfl, hk2⟩ := succ_of hk
    simp only [arr_Text.l0]
    rw [if_pos (by rw [List.length_append, List.length_cons]; omega), if_pos (by omega), if_pos (by rw [List.length_append, List.length_cons]; omega), if_pos (by simp [cellsOf]; omega), rd_mid, wrap_next _ x (by omega), hs]
    have := hK k hk2
    simpa [cellsOf] using this
theorem rnums_l0 (s : List Int) : ∀ (rest done : List Int), (done ++ rest).length ≤ 16384 → ∃ K, ∀ k, K ≤ k → triglyphref03_Nums.l0 k (done ++ rest) (done.length : Int) s (cellsOf 0 done) = some (s, cellsOf 0 (done ++ rest))
  | [], done, hl => by
    refine ⟨1, fun k hk => ?_⟩
    obtain ⟨k, rfl, _⟩ := succ_of (K := 0) hk
    simp only [triglyphref03_Nums.l0]
    rw [if_neg (by simp)]
    simp
  | x :: rest, done, hl => by
    have hs : done ++ x :: rest = (done ++ [x]) ++ rest := by simp
    have hl' := hl
    rw [List.length_append, List.length_cons] at hl'
    obtain ⟨K, hK⟩ := rnums_l0 s rest (done ++ [x]) (by rw [← hs]; exact hl)
    refine ⟨K + 1, fun k hk => ?_⟩
    obtain ⟨k, rfl, hk2⟩ := succ_of hk
    simp only [triglyphref03_Nums.l0]
    rw [if_pos (by rw [List.length_append, List.length_cons]; omega), if_pos (by omega), if_pos (by simp [cellsOf]; omega), rd_mid, wrap_next _ x (by omega), hs]
    have := hK k hk2
    simpa [cellsOf] using this
def shapeT (l : List Int) : List Int := if (l.length : Int) = 1 then [] else [(l.length : Int)]
theorem rtext_l0 : ∀ (rest done : List Int), (done ++ rest).length ≤ 16384 → ∃ K, ∀ k, K ≤ k → triglyphref03_Text.l0 k (done ++ rest) (done.length : Int) (cellsOf 1 done) = some (shapeT (done ++ rest), cellsOf 1 (done ++ rest))
  | [], done, hl => by
    refine ⟨1, fun k hk => ?_⟩
    obtain ⟨k, rfl, _⟩ := succ_of (K := 0) hk
    simp only [triglyphref03_Text.l0]
    rw [if_neg (by simp), List.append_nil]
    unfold shapeT
    split <;> rfl
  | x :: rest, done, hl => by
    have hs : done ++ x :: rest = (done ++ [x]) ++ rest := by simp
    have hl' := hl
    rw [List.length_append, List.length_cons] at hl'
    obtain ⟨K, hK⟩ := rtext_l0 rest (done ++ [x]) (by rw [← hs]; exact hl)
    refine ⟨K + 1, fun k hk => ?_⟩
    obtain ⟨k, rfl, hk2⟩ := succ_of hk
    simp only [triglyphref03_Text.l0]
    rw [if_pos (by rw [List.length_append, List.length_cons]; omega), if_pos (by omega), if_pos (by simp [cellsOf]; omega), rd_mid, wrap_next _ x (by omega), hs]
    have := hK k hk2
    simpa [cellsOf] using this
theorem nums_eq (l : List Int) (h : l.length ≤ 16384) : ∃ K, ∀ k, K ≤ k → arr_Nums.f k l = some ([(l.length : Int)], cellsOf 0 l) := by
  obtain ⟨K, hK⟩ := nums_l0 [(l.length : Int)] l [] (by simpa using h)
  exact ⟨K, fun k hk => by unfold arr_Nums.f; simpa [cellsOf] using hK k hk⟩
theorem rnums_eq (l : List Int) (h : l.length ≤ 16384) : ∃ K, ∀ k, K ≤ k → triglyphref03_Nums.f k l = some ([(l.length : Int)], cellsOf 0 l) := by
  obtain ⟨K, hK⟩ := rnums_l0 [(l.length : Int)] l [] (by simpa using h)
  exact ⟨K, fun k hk => by unfold triglyphref03_Nums.f; simpa [cellsOf] using hK k hk⟩
theorem text_eq (l : List Int) (h : l.length ≤ 16384) : ∃ K, ∀ k, K ≤ k → arr_Text.f k l = some (shapeT l, cellsOf 1 l) := by
  obtain ⟨K, hK⟩ := text_l0 (shapeT l) l [] (by simpa using h)
  refine ⟨K + 1, fun k hk => ?_⟩
  obtain ⟨k, rfl, hk2⟩ := succ_of hk
  have h5 := hK k hk2
  unfold arr_Text.f
  unfold shapeT at h5 ⊢
  split
  · rename_i h1
    simp only [h1, if_true] at h5
    simp only [arr_Text.j0]
    simpa [cellsOf, h1] using h5
  · rename_i h1
    simp only [h1, if_false] at h5
    simp only [arr_Text.j0]
    simpa [cellsOf, h1] using h5
theorem rtext_eq (l : List Int) (h : l.length ≤ 16384) : ∃ K, ∀ k, K ≤ k → triglyphref03_Text.f k l = some (shapeT l, cellsOf 1 l) := by
  obtain ⟨K, hK⟩ := rtext_l0 l [] (by simpa using h)
  exact ⟨K, fun k hk => by unfold triglyphref03_Text.f; simpa [cellsOf] using hK k hk⟩
theorem wf_len {n : Nat} (h : n ≤ 16384) : (Lit.int .i64 (n : Int)).wf = true := by
  have e1 : IntKind.i64.min = -9223372036854775808 := by decide
  have e2 : IntKind.i64.max = 9223372036854775807 := by decide
  simp [Lit.wf]
  omega
theorem okCs_of {kk : Int} (hk : (Lit.int .i64 kk).wf = true) : ∀ {l : List Int}, (∀ y ∈ l, (Lit.int .i64 y).wf = true) → okCs (cellsOf kk l)
  | [], _ => by simp [cellsOf, okCs]
  | x :: l, h => by
    have := okCs_of hk (l := l) (fun y hy => h y (List.mem_cons_of_mem _ hy))
    unfold cellsOf at this ⊢
    rw [List.map_cons, okCs, okC]
    exact ⟨⟨hk, h x List.mem_cons_self, by simp, by simp [okAs]⟩, this⟩
theorem okA_of {s : List Int} {kk : Int} {l : List Int} (hs : s.length ≤ 8) (hy : ∀ y ∈ s, (Lit.int .i64 y).wf = true) (hk : (Lit.int .i64 kk).wf = true) (hl : l.length ≤ 16384) (h : ∀ y ∈ l, (Lit.int .i64 y).wf = true) : okA ⟨s, cellsOf kk l⟩ := by
  rw [okA]
  refine ⟨⟨?_, hy⟩, ?_, okCs_of hk h⟩
  · unfold reachBytes; omega
  · unfold reachBytes; simp [cellsOf]; omega
theorem chCs_nums (d : Nat) : ∀ l : List Int, chCs (cellsOf 0 l) d = 0
  | [] => by simp [cellsOf, chCs]
  | x :: l => by
    have := chCs_nums d l
    unfold cellsOf at this ⊢
    rw [List.map_cons, chCs, chC, chB]
    simpa using this
theorem size_one (n : Nat) (h : n ≤ 16384) : sizeS [(n : Int)] = ((n : Int), 0) := by
  unfold sizeS
  rw [if_neg (by simp), if_neg (by simp)]
  split
  · rename_i h0
    have : n = 0 := by simpa using h0
    rw [this]
    rfl
  · rw [sizeP, if_neg (by omega), sizeP, Int.one_mul]
theorem chA_nums (l : List Int) (h : l.length ≤ 16384) : chA ⟨[(l.length : Int)], cellsOf 0 l⟩ 0 = 0 := by
  rw [chA, size_one _ h]
  simp only
  rw [if_pos True.intro, if_pos (by simp [cellsOf]), if_neg (by simp; omega), chCs_nums]
theorem chA_atom (n : Int) : chA ⟨[], [⟨0, n, []⟩]⟩ 0 = 0 := by
  rw [chA]
  have h1 := chCs_nums 0 [n]
  simp only [cellsOf, List.map_cons, List.map_nil] at h1
  simp [sizeS, sizeP, h1]
theorem ArrMakes : ArrMakes.Pure := by
  intro l n hl hy hn
  by_cases hb : l.length ≤ 16384
  · obtain ⟨K1, h1⟩ := nums_eq l hb
    obtain ⟨K2, h2⟩ := text_eq l hb
    obtain ⟨K3, h3⟩ := rnums_eq l hb
    obtain ⟨K4, h4⟩ := rtext_eq l hb
    have o1 : okA ⟨[], cellsOf 0 [n]⟩ := okA_of (by simp) (by simp) (by rfl) (by simp) (by simpa using hn)
    have o2 : okA ⟨[(l.length : Int)], cellsOf 0 l⟩ := okA_of (by simp) (by simpa using wf_len hb) (by rfl) hb hy
    have o3 : okA ⟨shapeT l, cellsOf 1 l⟩ := okA_of (by unfold shapeT; split <;> simp) (by unfold shapeT; split <;> simp; exact wf_len hb) (by rfl) hb hy
    obtain ⟨K5, h5⟩ := rsame_eq ⟨[], cellsOf 0 [n]⟩ ⟨[], cellsOf 0 [n]⟩ o1
    obtain ⟨K6, h6⟩ := rsame_eq ⟨[(l.length : Int)], cellsOf 0 l⟩ ⟨[(l.length : Int)], cellsOf 0 l⟩ o2
    obtain ⟨K7, h7⟩ := rsame_eq ⟨shapeT l, cellsOf 1 l⟩ ⟨shapeT l, cellsOf 1 l⟩ o3
    obtain ⟨K8, h8⟩ := check_eq ⟨[], cellsOf 0 [n]⟩ o1
    obtain ⟨K9, h9⟩ := check_eq ⟨[(l.length : Int)], cellsOf 0 l⟩ o2
    refine ⟨K1 + K2 + K3 + K4 + K5 + K6 + K7 + K8 + K9 + 40 + 1, ?_⟩
    generalize hk : K1 + K2 + K3 + K4 + K5 + K6 + K7 + K8 + K9 + 40 = k
    have e1 := h1 (k + 1) (by omega)
    have e2 := h2 (k + 1) (by omega)
    have e3 := h3 (k + 1) (by omega)
    have e4 := h4 (k + 1) (by omega)
    have e5 := h5 (k + 1) (by omega)
    have e6 := h6 (k + 1) (by omega)
    have e7 := h7 (k + 1) (by omega)
    have e8 := h8 k (by omega)
    have e9 := h9 k (by omega)
    rw [cmpA_self] at e5 e6 e7
    have w9 := chA_nums l hb
    have w8 : chA ⟨[], cellsOf 0 [n]⟩ 0 = 0 := chA_atom n
    simp only [w8, w9] at e5 e6 e7 e8 e9
    have e5' : triglyphref03_Same.f (k + 1) [] [⟨0, n, []⟩] [] [⟨0, n, []⟩] = some true := e5
    have e8' : arr_Check.f k [] [⟨0, n, []⟩] = some 0 := e8
    unfold triglyphlaw03_ArrMakes.f arr_Atom.f triglyphref03_Atom.f
    rw [if_neg (by omega), e1, e2, e3, e4]
    simp only [Option.bind_some, e5', e6, e7, if_true]
    simp [triglyphlaw03_ArrMakes.j0, e8', e9, works_eq k (by omega)]
  · refine ⟨40, ?_⟩
    unfold triglyphlaw03_ArrMakes.f
    rw [if_pos (by omega), works_eq _ (by omega)]
    rfl
end Go.Proofs.Ytlnphoeogpfjkaa.Pure
