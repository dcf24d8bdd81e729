/- An array's cells, over and over, in a shape: both packages tell the same. -/
import Derived.Test.YtiegcghapchimaaLay0
import Derived.Test.YtiegcghapchimaaPx14
import Derived.Test.YtiegcghapchimaaPx3
import Derived.Test.YtiegcghapchimaaPx7
import Derived.Test.YtiegcghapchimaaPx8
import Derived.Test.YtiegcghapchimaaPx9
namespace Go.Proofs.Ytiegcghapchimaa.Pure
open Go.RowKit Go.Proofs.Ytiegcghapchimaa.P Go.Proofs.Ytiegcghapchimaa.Nest Go.Proofs.YtiegcghapchimaaW.PrintWords Go.Proofs.YtiegcghapchimaaW.PrintLast Go.Proofs.YtiegcghapchimaaW.PrintMore
set_option linter.unusedVariables false
set_option linter.unusedSimpArgs false
def badS (c : List S39) : Bool := c.any fun x => decide (x.f0 ≠ 0 ∨ x.f1 < 0)
def axes (c : List S39) : List Int := c.map fun x => x.f1
def finW (l : List Int) : List Int × Int := if 8 < l.length then ([], 6) else if l.any (16384 < ·) = true then ([], 12) else (l, 0)
def wantS (s : List Int) (c : List S39) : List Int × Int := if 1 < s.length then ([], 6) else if badS c = true then ([], 5) else finW (axes c)
theorem max_l0 : ∀ (rest done : List Int) (m : Int), (done ++ rest).length ≤ 100 → ∃ t K, (16384 < t ↔ 16384 < m ∨ rest.any (16384 < ·) = true) ∧ ∀ k, K ≤ k → slices_Max_int_int.l0 k (done ++ rest) m (done.length : Int) = some t
  | [], done, m, hl => by
    refine ⟨m, 1, by simp, fun k hk => ?_⟩
    obtain ⟨k, rfl, _⟩ := succ_of (K := 0) hk
    simp only [slices_Max_int_int.l0]
    rw [if_neg (by simp)]
  | x :: rest, done, m, hl => by
    have hs : done ++ x :: rest = (done ++ [x]) ++ rest := by simp
    obtain ⟨t, K, ht, hK⟩ := max_l0 rest (done ++ [x]) (mx m x) (by rw [← hs]; exact hl)
    rw [List.length_append, List.length_cons] at hl
    refine ⟨t, K + 1, ?_, fun k hk => ?_⟩
    · rw [ht, List.any_cons, Bool.or_eq_true, decide_eq_true_iff, ← or_assoc]
      have : (16384 < mx m x) ↔ (16384 < m ∨ 16384 < x) := by unfold mx; split <;> omega
      rw [this]
    · obtain ⟨k, rfl, hk2⟩ := succ_of hk
      simp only [slices_Max_int_int.l0]
      rw [if_pos (by simp; omega), if_pos (by omega), rd_mid, wrap_next done x (by omega), hs]
      exact hK k hk2
theorem max_eq (l : List Int) (hl : l.length ≤ 20) : ∃ t K, (16384 < t ↔ l.any (16384 < ·) = true) ∧ ∀ k, K ≤ k → slices_Max_int_int.f k (l ++ [0]) = some t := by
  obtain ⟨x, r, hx⟩ : ∃ x r, l ++ [0] = x :: r := by cases l with | nil => exact ⟨0, [], rfl⟩ | cons a b => exact ⟨a, b ++ [0], rfl⟩
  have hn : (x :: r).length = l.length + 1 := by rw [← hx]; simp
  obtain ⟨t, K, ht, hK⟩ := max_l0 r [x] x (by show (x :: r).length ≤ 100; omega)
  refine ⟨t, K, ?_, fun k hk => ?_⟩
  · rw [ht]
    have : (x :: r).any (16384 < ·) = l.any (16384 < ·) := by rw [← hx, List.any_append]; simp
    rw [← this, List.any_cons, Bool.or_eq_true, decide_eq_true_iff]
  · unfold slices_Max_int_int.f
    rw [hx, if_neg (by omega), if_pos (by omega), show rd (x :: r) 0 = x from rfl]
    exact hK k hk
theorem wa_end (acc : List Int) (hl : acc.length ≤ 17592186044414) (C : List S39) (i : Int) (hi : (C.length : Int) ≤ i) (acc' : List Int) (ha : acc'.length = acc.length) (hb : acc'.any (16384 < ·) = acc.any (16384 < ·)) (he : acc.any (16384 < ·) = false → acc' = acc) :
    ∃ K, ∀ k, K ≤ k → layout_wanted.l0 k acc' C (C.length : Int) i = some (finW acc) := by
  by_cases h8 : 8 < acc.length
  · refine ⟨1, fun k hk => ?_⟩
    obtain ⟨k, rfl, _⟩ := succ_of (K := 0) hk
    simp only [layout_wanted.l0, finW]
    rw [if_neg (by omega), if_pos (by omega), if_pos h8]
  · obtain ⟨t, K, ht, hK⟩ := max_eq acc' (by omega)
    refine ⟨K + 1, fun k hk => ?_⟩
    obtain ⟨k, rfl, hk2⟩ := succ_of hk
    simp only [layout_wanted.l0, finW]
    rw [if_neg (by omega), if_neg (by omega), if_pos (by omega), if_neg h8, hK k hk2]
    simp only [Option.bind_some]
    rw [hb] at ht
    by_cases h9 : acc.any (16384 < ·) = true
    · rw [if_pos (by have := ht.2 h9; omega), if_pos h9]
    · rw [if_neg (by intro hc; exact h9 (ht.1 (by omega))), if_neg h9, he (by simpa using h9)]
def cap (x : Int) : Int := mn x 16385
theorem cap_any (l : List Int) : (l.map cap).any (16384 < ·) = l.any (16384 < ·) := by
  rw [List.any_map]
  congr 1
  funext x
  simp only [Function.comp]
  congr 1
  unfold cap mn
  split <;> (apply propext; omega)
theorem cap_same {l : List Int} (h : l.any (16384 < ·) = false) : l.map cap = l := by
  rw [List.any_eq_false] at h
  conv => rhs; rw [← List.map_id l]
  refine List.map_congr_left fun x hx => ?_
  have := h x hx
  simp only [decide_eq_true_iff] at this
  unfold cap mn
  rw [if_neg (by omega)]
  rfl
theorem wa_l0 : ∀ (rest done : List S39) (acc : List Int), (done ++ rest).length * 40 ≤ reachBytes → acc.length = done.length →
    ∃ K, ∀ k, K ≤ k → layout_wanted.l0 k (acc.map cap) (done ++ rest) ((done ++ rest).length : Int) (done.length : Int) = some (if badS rest = true then ([], 5) else finW (acc ++ axes rest))
  | [], done, acc, hl, ha => by
    unfold reachBytes at hl
    rw [List.length_append, List.length_nil] at hl
    obtain ⟨K, hK⟩ := wa_end acc (by omega) (done ++ []) (done.length : Int) (by simp) (acc.map cap) (by simp) (cap_any acc) cap_same
    refine ⟨K, fun k hk => ?_⟩
    rw [hK k hk]
    simp [badS, axes]
  | x :: rest, done, acc, hl, ha => by
    have hs : done ++ x :: rest = (done ++ [x]) ++ rest := by simp
    have hl' := hl
    unfold reachBytes at hl'
    rw [List.length_append, List.length_cons] at hl'
    have h1 : (done.length : Int) < ((done ++ x :: rest).length : Int) := by simp; omega
    by_cases hb : x.f0 = 0
    · by_cases hn : x.f1 < 0
      · refine ⟨1, fun k hk => ?_⟩
        obtain ⟨k, rfl, _⟩ := succ_of (K := 0) hk
        simp only [layout_wanted.l0]
        rw [if_pos h1, if_pos (by omega), if_pos h1, rdC_mid, if_pos hb, if_pos hn]
        simp [badS, hn]
      · obtain ⟨K, hK⟩ := wa_l0 rest (done ++ [x]) (acc ++ [x.f1]) (by rw [← hs]; exact hl) (by simp [ha])
        refine ⟨K + 1, fun k hk => ?_⟩
        obtain ⟨k, rfl, hk2⟩ := succ_of hk
        simp only [layout_wanted.l0]
        rw [if_pos h1, if_pos (by omega), if_pos h1, rdC_mid, if_pos hb, if_neg hn, if_pos (by simp; omega), wrap_next done x (by omega), hs]
        have := hK k hk2
        rw [List.map_append] at this
        rw [show acc.map cap ++ [mn x.f1 16385] = acc.map cap ++ [x.f1].map cap from rfl, this]
        simp [badS, axes, hb, hn]
    · refine ⟨1, fun k hk => ?_⟩
      obtain ⟨k, rfl, _⟩ := succ_of (K := 0) hk
      simp only [layout_wanted.l0]
      rw [if_pos h1, if_pos (by omega), if_pos h1, rdC_mid, if_neg hb]
      simp [badS, hb]
theorem want_eq (s : List Int) (c : List S39) (hc : c.length * 40 ≤ reachBytes) : ∃ K, ∀ k, K ≤ k → layout_wanted.f k s c = some (wantS s c) := by
  unfold wantS
  by_cases h1 : 1 < s.length
  · refine ⟨0, fun k _ => ?_⟩
    unfold layout_wanted.f
    rw [if_pos (by omega), if_pos h1]
  · obtain ⟨K, hK⟩ := wa_l0 c [] [] (by simpa using hc) rfl
    refine ⟨K, fun k hk => ?_⟩
    unfold layout_wanted.f
    unfold reachBytes at hc
    rw [if_neg (by omega), if_neg h1, if_pos (by omega), if_pos (by simp; omega)]
    simpa using hK k hk
def cyc (c : List S39) : Int → Nat → List S39
  | _, 0 => []
  | i, m + 1 => rd_T39 c (Int.tmod i (c.length : Int)) :: cyc c (i + 1) m
theorem cyc_len (c : List S39) : ∀ (m : Nat) (i : Int), (cyc c i m).length = m
  | 0, i => rfl
  | m + 1, i => by rw [cyc, List.length_cons, cyc_len c m]
theorem tmod_in {i : Int} {n : Nat} (h0 : 0 ≤ i) (hn : 0 < n) : 0 ≤ Int.tmod i (n : Int) ∧ Int.tmod i (n : Int) < (n : Int) := by
  rw [Int.tmod_eq_emod_of_nonneg h0]
  exact ⟨Int.emod_nonneg _ (by omega), Int.emod_lt_of_pos _ (by omega)⟩
theorem cyc_mem (c : List S39) (hc : 0 < c.length) : ∀ (m : Nat) (i : Int), 0 ≤ i → ∀ x ∈ cyc c i m, x ∈ c
  | 0, i, _, x, hx => by cases hx
  | m + 1, i, h0, x, hx => by
    rw [cyc] at hx
    rcases List.mem_cons.1 hx with rfl | hx
    · exact rdC_mem (tmod_in h0 hc).1 (tmod_in h0 hc).2
    · exact cyc_mem c hc m (i + 1) (by omega) x hx
theorem rs_l1 (s : List Int) (c : List S39) (sh : List Int) (R : List Int × List S39 × Int) : ∀ (m : Nat) (i : Int) (acc : List S39), 0 ≤ i → i + m ≤ 16384 → (m ≠ 0 → 0 < c.length) → (acc.length : Int) = i →
    (∃ K, ∀ k, K ≤ k → ((arr_Copy.f k sh (acc ++ cyc c i m)).bind fun bt => (some (bt.1, bt.2, (0 : Int)))) = some R) →
    ∃ K, ∀ k, K ≤ k → layout_Reshape.l1 k (i + m) i s c sh acc = some R
  | 0, i, acc, h0, h1, hm, ha, ⟨K, hK⟩ => by
    refine ⟨K + 1, fun k hk => ?_⟩
    obtain ⟨k, rfl, hk2⟩ := succ_of hk
    simp only [layout_Reshape.l1]
    rw [if_neg (by omega)]
    simpa [cyc] using hK k hk2
  | m + 1, i, acc, h0, h1, hm, ha, H => by
    have hc := hm (by omega)
    have ht := tmod_in h0 hc
    obtain ⟨K, hK⟩ := rs_l1 s c sh R m (i + 1) (acc ++ [rd_T39 c (Int.tmod i (c.length : Int))]) (by omega) (by omega) (fun _ => hc) (by simp; omega) (by simpa [cyc] using H)
    refine ⟨K + 1, fun k hk => ?_⟩
    obtain ⟨k, rfl, hk2⟩ := succ_of hk
    simp only [layout_Reshape.l1]
    rw [if_pos (by omega), if_neg (by omega), if_pos ht.1, if_pos ht.2, if_pos (by omega), etaC, wrap_in (by omega) (by omega), show i + ((m + 1 : Nat) : Int) = i + 1 + (m : Int) by omega]
    exact hK k hk2
def resE (l : List Int) (c : List S39) : List Int × List S39 × Int :=
  if (sizeS l).2 = 0 then (if 0 < (sizeS l).1 ∧ c.length = 0 then ([], [], 7) else (l, cyc c 0 (sizeS l).1.toNat, 0)) else ([], [], (sizeS l).2)
def resS (s a : S25) : List Int × List S39 × Int :=
  if chA s 0 = 0 then (if chA a 0 = 0 then (if (wantS s.f0 s.f1).2 = 0 then resE (wantS s.f0 s.f1).1 a.f1 else ([], [], (wantS s.f0 s.f1).2)) else ([], [], chA a 0)) else ([], [], chA s 0)
theorem coCs_all {c : List S39} {d : Nat} (h : ∀ x ∈ c, chC x d = 0) : coCs c = c := coCs_id c d (chCs_all.2 h)
theorem want_ok {s : List Int} {c : List S39} (h : (wantS s c).2 = 0) : (wantS s c).1 = axes c ∧ (axes c).length ≤ 8 ∧ (∀ x ∈ axes c, 0 ≤ x ∧ x ≤ 16384) := by
  unfold wantS at h ⊢
  split at h
  · cases h
  split at h
  · cases h
  rename_i h1 hb
  rw [if_neg h1, if_neg hb]
  unfold finW at h ⊢
  split at h
  · cases h
  split at h
  · cases h
  rename_i h2 h3
  rw [if_neg h2, if_neg h3]
  refine ⟨rfl, by omega, fun x hx => ⟨?_, ?_⟩⟩
  · obtain ⟨y, hy, rfl⟩ := List.mem_map.1 hx
    rcases Int.lt_or_le y.f1 0 with hn | hn
    · exact absurd (List.any_eq_true.2 ⟨y, hy, by simp [hn]⟩) hb
    · exact hn
  · rcases Int.lt_or_le 16384 x with hn | hn
    · exact absurd (List.any_eq_true.2 ⟨x, hx, by simpa using hn⟩) h3
    · exact hn
theorem cyc_copy {a : S25} (ha : okA a) (hc : chA a 0 = 0) {l : List Int} (hl : l.length ≤ 20) (hb : ∀ x ∈ l, 0 ≤ x ∧ x ≤ 16385) {m : Nat} (hm : m ≤ 16384) (h : m ≠ 0 → 0 < a.f1.length) :
    okA ⟨l, cyc a.f1 0 m⟩ ∧ ∃ K, ∀ k, K ≤ k → arr_Copy.f k l (cyc a.f1 0 m) = some (l, cyc a.f1 0 m) := by
  obtain ⟨s, c⟩ := a
  simp only at h ⊢
  have hall := okA_cells ha
  have hch := chCs_all.1 (chA_parts hc).2.2.2
  have hmem : ∀ x ∈ cyc c 0 m, x ∈ c := by
    intro x hx
    cases m with
    | zero => cases hx
    | succ m => exact cyc_mem c (h (by omega)) _ 0 (by omega) x hx
  have hok : okA ⟨l, cyc c 0 m⟩ := okA_of hl hb (by rw [cyc_len]; exact hm) (fun x hx => hall x (hmem x hx))
  refine ⟨hok, ?_⟩
  obtain ⟨K, hK⟩ := copy_eq _ hok
  refine ⟨K, fun k hk => ?_⟩
  rw [hK k hk]
  simp only [coA]
  rw [coCs_all (d := 0) (fun x hx => hch x (hmem x hx))]
theorem res_eq (s a : S25) (hs : okA s) (ha : okA a) : ∃ K, ∀ k, K ≤ k → layout_Reshape.f k s.f0 s.f1 a.f0 a.f1 = some (resS s a) := by
  obtain ⟨K1, h1⟩ := check_eq s hs
  obtain ⟨K2, h2⟩ := check_eq a ha
  have hR : ∃ K, chA a 0 = 0 → ∀ k, K ≤ k → layout_Reshape.l0 k [s, a] 2 2 s.f0 s.f1 a.f0 a.f1 = some (if (wantS s.f0 s.f1).2 = 0 then resE (wantS s.f0 s.f1).1 a.f1 else ([], [], (wantS s.f0 s.f1).2)) := by
    by_cases hca : chA a 0 = 0
    case neg => exact ⟨0, fun h => absurd h hca⟩
    obtain ⟨K3, h3⟩ := want_eq s.f0 s.f1 (by obtain ⟨p, q⟩ := s; rw [okA] at hs; exact hs.2.1)
    by_cases hw : (wantS s.f0 s.f1).2 = 0
    · obtain ⟨e1, e2, e3⟩ := want_ok hw
      obtain ⟨K4, h4⟩ := size_eq (wantS s.f0 s.f1).1
      have hbd := sizeS_bd (wantS s.f0 s.f1).1
      generalize hl : (wantS s.f0 s.f1).1 = l at *
      rw [if_pos hw]
      unfold resE
      by_cases hz : (sizeS l).2 = 0
      · rw [if_pos hz]
        by_cases h7 : 0 < (sizeS l).1 ∧ a.f1.length = 0
        · rw [if_pos h7]
          refine ⟨K3 + K4 + 3, fun _ k hk => ?_⟩
          obtain ⟨k, rfl, hk2⟩ := succ_of (K := K3 + K4 + 2) hk
          obtain ⟨k, rfl, hk3⟩ := succ_of (K := K3 + K4 + 1) hk2
          simp only [layout_Reshape.l0]
          rw [if_neg (by omega), h3 _ (by omega)]
          simp only [Option.bind_some]
          rw [if_pos hw, hl, h4 _ (by omega)]
          simp only [Option.bind_some]
          rw [if_pos hz, if_pos h7.1]
          simp [layout_Reshape.j1, h7.2]
        · rw [if_neg h7]
          obtain ⟨hok, K5, h5⟩ := cyc_copy ha hca (l := l) (m := (sizeS l).1.toNat) (by rw [e1]; omega) (fun x hx => by have := e3 x (by rw [← e1]; exact hx); omega) (by omega) (fun hm => by omega)
          obtain ⟨K6, h6⟩ := rs_l1 a.f0 a.f1 l (l, cyc a.f1 0 (sizeS l).1.toNat, 0) (sizeS l).1.toNat 0 [] (by omega) (by omega) (fun hm => by omega) (by simp) ⟨K5, fun k hk => by simp only [List.nil_append]; rw [h5 k hk]; rfl⟩
          refine ⟨K3 + K4 + K6 + 3, fun _ k hk => ?_⟩
          obtain ⟨k, rfl, hk2⟩ := succ_of (K := K3 + K4 + K6 + 2) hk
          obtain ⟨k, rfl, hk3⟩ := succ_of (K := K3 + K4 + K6 + 1) hk2
          have h6' := h6 k (by omega)
          rw [show (0 : Int) + ((sizeS l).1.toNat : Int) = (sizeS l).1 by omega] at h6'
          simp only [layout_Reshape.l0]
          rw [if_neg (by omega), h3 _ (by omega)]
          simp only [Option.bind_some]
          rw [if_pos hw, hl, h4 _ (by omega)]
          simp only [Option.bind_some]
          rw [if_pos hz]
          by_cases hp : (sizeS l).1 > 0
          · rw [if_pos hp]
            have hne : ((a.f1.length : Int) == 0) = false := by simp; intro hc; exact h7 ⟨hp, by simp [hc]⟩
            simp only [layout_Reshape.j1, hne]
            rw [if_neg (by decide), h6']
          · rw [if_neg hp]
            simp only [layout_Reshape.j1]
            rw [if_neg (by decide), h6']
      · rw [if_neg hz]
        refine ⟨K3 + K4 + 1, fun _ k hk => ?_⟩
        obtain ⟨k, rfl, hk2⟩ := succ_of (K := K3 + K4) hk
        simp only [layout_Reshape.l0]
        rw [if_neg (by omega), h3 _ (by omega)]
        simp only [Option.bind_some]
        rw [if_pos hw, hl, h4 _ (by omega)]
        simp only [Option.bind_some]
        rw [if_neg hz]
    · rw [if_neg hw]
      refine ⟨K3 + 1, fun _ k hk => ?_⟩
      obtain ⟨k, rfl, hk2⟩ := succ_of (K := K3) hk
      simp only [layout_Reshape.l0]
      rw [if_neg (by omega), h3 _ (by omega)]
      simp only [Option.bind_some]
      rw [if_neg hw]
  obtain ⟨K3, h3⟩ := hR
  refine ⟨K1 + K2 + K3 + 3, fun k hk => ?_⟩
  unfold layout_Reshape.f resS
  simp only [Option.bind_some, etaA, List.length_cons, List.length_nil]
  rw [show (((0 + 1 + 1 : Nat)) : Int) = 2 from rfl]
  obtain ⟨k, rfl, hk2⟩ := succ_of (K := K1 + K2 + K3 + 2) hk
  obtain ⟨k, rfl, hk3⟩ := succ_of (K := K1 + K2 + K3 + 1) hk2
  have e0 : rd_T25 [s, a] 0 = s := rfl
  have e1 : rd_T25 [s, a] 1 = a := rfl
  have w1 : wrap64 (0 + 1) = 1 := wrap_in (by omega) (by omega)
  have w2 : wrap64 (1 + 1) = 2 := wrap_in (by omega) (by omega)
  rw [layout_Reshape.l0, if_pos (by omega), if_pos (by omega), if_pos (by simp), e0, h1 _ (by omega), w1]
  simp only [Option.bind_some]
  by_cases c1 : chA s 0 = 0
  · rw [if_pos c1, if_pos c1, layout_Reshape.l0, if_pos (by omega), if_pos (by omega), if_pos (by simp), e1, h2 _ (by omega), w2]
    simp only [Option.bind_some]
    by_cases c2 : chA a 0 = 0
    · rw [if_pos c2, if_pos c2]
      exact h3 c2 k (by omega)
    · rw [if_neg c2, if_neg c2]
  · rw [if_neg c1, if_neg c1]
end Go.Proofs.Ytiegcghapchimaa.Pure
