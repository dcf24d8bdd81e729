/- Functions of one argument that look at shapes, of an array that may be. -/
import Derived.Test.YtiegcghapchimaaLayT
import Derived.Test.YtiegcghapchimaaPx3
import Derived.Test.YtiegcghapchimaaPx4
import Derived.Test.YtiegcghapchimaaPx6
import Derived.Test.YtiegcghapchimaaPx7
namespace Go.Proofs.Ytiegcghapchimaa.Pure
open Go.RowKit Go.Proofs.Ytiegcghapchimaa.P Go.Proofs.Ytiegcghapchimaa.Nest Go.Proofs.YtiegcghapchimaaW.PrintWords Go.Proofs.YtiegcghapchimaaW.PrintLast Go.Proofs.YtiegcghapchimaaW.PrintMore
set_option linter.unusedVariables false
set_option linter.unusedSimpArgs false
def numC (l : List Int) : List S39 := l.map fun d => ⟨0, d, []⟩
def upC : Int → Nat → List S39
  | _, 0 => []
  | i, m + 1 => ⟨0, i, []⟩ :: upC (i + 1) m
theorem io_l0 (n : Int) (sh : List Int) (hn : n ≤ 16384) : ∀ (m : Nat) (i : Int) (acc : List S39), i + m = n → 0 ≤ i → (acc.length : Int) = i →
    ∃ K, ∀ k, K ≤ k → layout_iota0.l0 k n i sh acc = some (sh, acc ++ upC i m, 0)
  | 0, i, acc, h, h0, ha => by
    refine ⟨1, fun k hk => ?_⟩
    obtain ⟨k, rfl, _⟩ := succ_of (K := 0) hk
    simp only [layout_iota0.l0]
    rw [if_neg (by omega)]
    simp [upC]
  | m + 1, i, acc, h, h0, ha => by
    obtain ⟨K, hK⟩ := io_l0 n sh hn m (i + 1) (acc ++ [⟨0, i, []⟩]) (by omega) (by omega) (by simp; omega)
    refine ⟨K + 1, fun k hk => ?_⟩
    obtain ⟨k, rfl, hk2⟩ := succ_of hk
    simp only [layout_iota0.l0]
    rw [if_pos (by omega), if_pos (by omega), wrap_in (by omega) (by omega), hK k hk2]
    simp [upC]
theorem ms_l0 (sh : List Int) : ∀ (rest done : List Int) (acc : List S39), (done ++ rest).length ≤ 8 → acc.length = done.length →
    ∃ K, ∀ k, K ≤ k → layout_Mo.l0 k (done ++ rest) ((done ++ rest).length : Int) (done.length : Int) sh acc = some (sh, acc ++ numC rest, 0)
  | [], done, acc, hl, ha => by
    refine ⟨1, fun k hk => ?_⟩
    obtain ⟨k, rfl, _⟩ := succ_of (K := 0) hk
    simp only [layout_Mo.l0]
    rw [if_neg (by simp)]
    simp [numC]
  | x :: rest, done, acc, hl, ha => by
    have hs : done ++ x :: rest = (done ++ [x]) ++ rest := by simp
    obtain ⟨K, hK⟩ := ms_l0 sh rest (done ++ [x]) (acc ++ [⟨0, x, []⟩]) (by rw [← hs]; exact hl) (by simp [ha])
    rw [List.length_append, List.length_cons] at hl
    refine ⟨K + 1, fun k hk => ?_⟩
    obtain ⟨k, rfl, hk2⟩ := succ_of hk
    simp only [layout_Mo.l0]
    rw [if_pos (by simp; omega), if_pos (by omega), if_pos (by simp; omega), if_pos (by omega), rd_mid, wrap_next done x (by omega), hs, hK k hk2]
    simp [numC]
abbrev RM := List Int × List S39 × Int
def noE (e : Int) : RM := ([], [], e)
def iotaS (a : S25) : RM :=
  if 0 < a.f0.length then noE 6 else if (rd_T39 a.f1 0).f0 = 0 ∧ ¬ (rd_T39 a.f1 0).f1 < 0 then (if (rd_T39 a.f1 0).f1 > 16384 then noE 12 else ([(rd_T39 a.f1 0).f1], upC 0 (rd_T39 a.f1 0).f1.toNat, 0)) else noE 5
def openS (a : S25) : RM :=
  if 0 < a.f0.length then noE 6 else if (rd_T39 a.f1 0).f0 = 2 then ((rd_T25 (rd_T39 a.f1 0).f2 0).f0, (rd_T25 (rd_T39 a.f1 0).f2 0).f1, 0) else (a.f0, a.f1, 0)
def firstS (a : S25) : RM :=
  if a.f0.length = 0 then (a.f0, a.f1, 0) else if rd a.f0 0 = 0 then noE 8 else (a.f0.drop 1, a.f1.take ((a.f1.length : Int) / rd a.f0 0).toNat, 0)
def tallyS (s : List Int) : Int := if s.length = 0 then 1 else rd s 0
def revF : List Int → List S39 → List S39
  | [], c => c
  | d :: r, c => tnS [] d r c
def revL (s : List Int) (c : List S39) : List S39 := match s.reverse with
  | [] => c
  | d :: p => tnS p.reverse d [] c
def moS (op : Int) (a : S25) : RM :=
  if op = 5 then iotaS a else if op = 6 then ([(a.f0.length : Int)], numC a.f0, 0) else if op = 7 then ([], [⟨0, tallyS a.f0, []⟩], 0) else if op = 8 then ([(a.f1.length : Int)], a.f1, 0)
  else if op = 9 then (a.f0, revF a.f0 a.f1, 0) else if op = 10 then (a.f0, revL a.f0 a.f1, 0) else if op = 11 then (a.f0.reverse, flS a.f0 a.f1, 0)
  else if op = 15 then (if deA a ≥ 8 then noE 15 else ([], [⟨2, 0, [a]⟩], 0)) else if op = 16 then openS a else if op = 17 then firstS a
  else if op = 18 then (if 8 ≤ a.f0.length then noE 6 else (1 :: a.f0, a.f1, 0)) else noE 1
theorem rank0 {c : List S39} {s : List Int} (hs : s.length = 0) (h : (sizeS s).1 = (c.length : Int)) : c.length = 1 := by
  have : s = [] := List.eq_nil_of_length_eq_zero hs
  subst this
  have : (sizeS []).1 = 1 := rfl
  omega
theorem iota_eq {s : List Int} {c : List S39} (hc : (sizeS s).1 = (c.length : Int)) : ∃ K, ∀ k, K ≤ k → layout_iota0.f k s c = some (iotaS ⟨s, c⟩) := by
  unfold iotaS
  simp only
  by_cases h0 : 0 < s.length
  · refine ⟨0, fun k _ => ?_⟩
    unfold layout_iota0.f
    rw [if_pos (by omega), if_pos h0]
    rfl
  · have h1 := rank0 (by omega) hc
    by_cases hx : (rd_T39 c 0).f0 = 0
    · by_cases hn : (rd_T39 c 0).f1 < 0
      · refine ⟨1, fun k hk => ?_⟩
        obtain ⟨k, rfl, _⟩ := succ_of (K := 0) hk
        unfold layout_iota0.f
        rw [if_neg (by omega), if_pos (by omega), if_pos hx, decide_eq_true hn]
        simp only [layout_iota0.j0, if_true]
        rw [if_neg h0, if_neg (show ¬ ((rd_T39 c 0).f0 = 0 ∧ ¬ (rd_T39 c 0).f1 < 0) by omega)]
        rfl
      · by_cases hb : (rd_T39 c 0).f1 > 16384
        · refine ⟨1, fun k hk => ?_⟩
          obtain ⟨k, rfl, _⟩ := succ_of (K := 0) hk
          unfold layout_iota0.f
          rw [if_neg (by omega), if_pos (by omega), if_pos hx, decide_eq_false hn]
          simp only [layout_iota0.j0, Bool.false_eq_true, if_false]
          rw [if_pos (show 0 < (c.length : Int) by omega), if_pos hb, if_neg h0, if_pos ⟨hx, hn⟩, if_pos hb]
          rfl
        · obtain ⟨K, hK⟩ := io_l0 (rd_T39 c 0).f1 [(rd_T39 c 0).f1] (by omega) (rd_T39 c 0).f1.toNat 0 [] (by omega) (by omega) rfl
          refine ⟨K + 1, fun k hk => ?_⟩
          obtain ⟨k, rfl, hk2⟩ := succ_of hk
          unfold layout_iota0.f
          rw [if_neg (by omega), if_pos (by omega), if_pos hx, decide_eq_false hn]
          simp only [layout_iota0.j0, Bool.false_eq_true, if_false]
          rw [if_pos (show 0 < (c.length : Int) by omega), if_neg hb, if_neg h0, if_pos ⟨hx, hn⟩, if_neg hb]
          simp only [Option.bind_some, List.length_singleton]
          rw [if_pos (by decide), show rd [(rd_T39 c 0).f1] 0 = (rd_T39 c 0).f1 from rfl]
          exact hK k hk2
    · refine ⟨1, fun k hk => ?_⟩
      obtain ⟨k, rfl, _⟩ := succ_of (K := 0) hk
      unfold layout_iota0.f
      rw [if_neg (by omega), if_pos (by omega), if_neg hx]
      simp only [layout_iota0.j0, if_true]
      rw [if_neg h0, if_neg (show ¬ ((rd_T39 c 0).f0 = 0 ∧ ¬ (rd_T39 c 0).f1 < 0) by omega)]
      rfl
theorem open_eq {s : List Int} {c : List S39} (hc : (sizeS s).1 = (c.length : Int)) (hch : ∀ x ∈ c, chC x 0 = 0) : layout_open.f s c = some (openS ⟨s, c⟩) := by
  unfold layout_open.f openS
  simp only
  by_cases h0 : 0 < s.length
  · rw [if_pos (by omega), if_pos h0]
    rfl
  · have h1 := rank0 (by omega) hc
    rw [if_neg (by omega), if_neg h0, if_pos (by omega)]
    have hm := hch _ (rdC_mem (c := c) (i := 0) (by omega) (by omega))
    generalize rd_T39 c 0 = x at *
    obtain ⟨kk, nn, b⟩ := x
    by_cases h2 : kk = 2
    · rw [if_pos h2, if_pos h2]
      rw [chC] at hm
      subst h2
      cases b with
      | nil => rw [chB] at hm; simp at hm
      | cons y ys => rw [if_pos (by simp)]
    · rw [if_neg h2, if_neg h2]
theorem sizeS_one {d : Int} {r : List Int} (h : (sizeS (d :: r)).2 = 0) : 0 ≤ d := sizeS_nonneg h d List.mem_cons_self
theorem first_eq {s : List Int} {c : List S39} (h : (sizeS s).2 = 0) (hc : (sizeS s).1 = (c.length : Int)) : layout_first.f s c = some (firstS ⟨s, c⟩) := by
  unfold layout_first.f firstS
  simp only
  by_cases h0 : s.length = 0
  · rw [if_pos (by omega), if_pos h0]
  · rw [if_neg (by omega), if_neg h0, if_pos (by omega)]
    by_cases h1 : rd s 0 = 0
    · rw [if_pos h1, if_pos h1]
      rfl
    · have hb := sizeS_bd s
      have hp : 0 ≤ rd s 0 := by
        obtain ⟨d, r, rfl⟩ : ∃ d r, s = d :: r := by cases s with | nil => exact absurd rfl h0 | cons a b => exact ⟨a, b, rfl⟩
        exact sizeS_one h
      have q0 : 0 ≤ (c.length : Int) / rd s 0 := Int.ediv_nonneg (by omega) hp
      have q1 : (c.length : Int) / rd s 0 ≤ (c.length : Int) := Int.ediv_le_self _ (by omega)
      generalize (c.length : Int) / rd s 0 = q at *
      rw [if_neg h1, if_neg h1, if_pos (by omega), wrap_in (by omega) (by omega), if_pos q0, if_pos q1]
theorem revF_eq {s : List Int} {c : List S39} (h : (sizeS s).2 = 0) (hc : (sizeS s).1 = (c.length : Int)) : ∃ K, ∀ k, K ≤ k → layout_turned.f k s c 0 = some (s, revF s c) := by
  cases s with
  | nil => exact ⟨0, fun k _ => by unfold layout_turned.f; rw [if_pos (by simp)]; rfl⟩
  | cons d r => exact turned_eq (p := []) h hc
theorem revL_eq {s : List Int} {c : List S39} (h : (sizeS s).2 = 0) (hc : (sizeS s).1 = (c.length : Int)) : ∃ K, ∀ k, K ≤ k → layout_turned.f k s c (wrap64 ((s.length : Int) - 1)) = some (s, revL s c) := by
  rcases List.eq_nil_or_concat s with rfl | ⟨p, d, rfl⟩
  · exact ⟨0, fun k _ => by unfold layout_turned.f; rw [if_pos (by simp)]; rfl⟩
  · rw [List.concat_eq_append] at h hc ⊢
    have hl := sizeS_len h
    rw [List.length_append, List.length_singleton] at hl
    obtain ⟨K, hK⟩ := turned_eq (p := p) (d := d) (r := []) h hc
    refine ⟨K, fun k hk => ?_⟩
    have hn : ((p ++ [d]).length : Int) = (p.length : Int) + 1 := by simp
    rw [hn, wrap_in (by omega) (by omega), show (p.length : Int) + 1 - 1 = (p.length : Int) by omega, hK k hk]
    simp [revL]
theorem mo_eq (op : Int) (a : S25) (h : okA a) (hm : op = 15 → smA a 16) : ∃ K, ∀ k, K ≤ k → layout_Mo.f k op a.f0 a.f1 = some (if chA a 0 = 0 then moS op a else noE (chA a 0)) := by
  obtain ⟨K1, h1⟩ := check_eq a h
  by_cases hc : chA a 0 = 0
  case neg =>
    refine ⟨K1, fun k hk => ?_⟩
    unfold layout_Mo.f
    rw [h1 k hk]
    simp only [Option.bind_some]
    rw [if_neg hc, if_neg hc]
    rfl
  rw [if_pos hc]
  obtain ⟨K2, h2⟩ := copy_eq a h
  rw [coA_id a 0 hc] at h2
  have hD : ∃ K, op = 15 → ∀ k, K ≤ k → arr_Deep.f k a.f0 a.f1 = some (deA a) := by
    by_cases ho : op = 15
    · obtain ⟨K, hK⟩ := deep_eq a h (hm ho)
      exact ⟨K, fun _ => hK⟩
    · exact ⟨0, fun h => absurd h ho⟩
  obtain ⟨K3, h3⟩ := hD
  obtain ⟨s, c⟩ := a
  obtain ⟨p1, p2, p3, p4⟩ := chA_parts hc
  have p4' := chCs_all.1 p4
  have hl := sizeS_len p1
  simp only at h1 h2 h3 ⊢
  obtain ⟨K4, h4⟩ := iota_eq (s := s) (c := c) p2
  obtain ⟨K5, h5⟩ := ms_l0 [(s.length : Int)] s [] [] (by simpa using hl) rfl
  obtain ⟨K6, h6⟩ := revF_eq p1 p2
  obtain ⟨K7, h7⟩ := revL_eq p1 p2
  obtain ⟨K8, h8⟩ := flipped_eq p1 p2 p3
  have h9 := open_eq (s := s) (c := c) p2 p4'
  have h10 := first_eq p1 p2
  refine ⟨K1 + K2 + K3 + K4 + K5 + K6 + K7 + K8, fun k hk => ?_⟩
  unfold layout_Mo.f moS
  simp only
  rw [h1 k (by omega)]
  simp only [Option.bind_some]
  rw [if_pos hc, h2 k (by omega)]
  simp only [Option.bind_some]
  by_cases o5 : op = 5
  · rw [if_pos o5, if_pos o5, h4 k (by omega)]
    rfl
  rw [if_neg o5, if_neg o5]
  by_cases o6 : op = 6
  · rw [if_pos o6, if_pos o6]
    have := h5 k (by omega)
    simpa using this
  rw [if_neg o6, if_neg o6]
  by_cases o7 : op = 7
  · rw [if_pos o7, if_pos o7]
    unfold layout_tally.f arr_Atom.f tallyS
    by_cases h0 : s.length = 0
    · rw [if_pos (by omega), if_pos h0]
      rfl
    · rw [if_neg (by omega), if_neg h0, if_pos (by omega)]
      rfl
  rw [if_neg o7, if_neg o7]
  by_cases o8 : op = 8
  · rw [if_pos o8, if_pos o8]
  rw [if_neg o8, if_neg o8]
  by_cases o9 : op = 9
  · rw [if_pos o9, if_pos o9, h6 k (by omega)]
    rfl
  rw [if_neg o9, if_neg o9]
  by_cases o10 : op = 10
  · rw [if_pos o10, if_pos o10, h7 k (by omega)]
    rfl
  rw [if_neg o10, if_neg o10]
  by_cases o11 : op = 11
  · rw [if_pos o11, if_pos o11, h8 k (by omega)]
    rfl
  rw [if_neg o11, if_neg o11]
  by_cases o15 : op = 15
  · rw [if_pos o15, if_pos o15, h3 o15 k (by omega)]
    simp only [Option.bind_some]
    split <;> rfl
  rw [if_neg o15, if_neg o15]
  by_cases o16 : op = 16
  · rw [if_pos o16, if_pos o16, h9]
    rfl
  rw [if_neg o16, if_neg o16]
  by_cases o17 : op = 17
  · rw [if_pos o17, if_pos o17, h10]
    rfl
  rw [if_neg o17, if_neg o17]
  by_cases o18 : op = 18
  · rw [if_pos o18, if_pos o18]
    by_cases h0 : 8 ≤ s.length
    · rw [if_pos (by omega), if_pos h0]
      rfl
    · rw [if_neg (by omega), if_neg h0, if_pos (by simp; omega)]
      rfl
  rw [if_neg o18, if_neg o18]
  rfl
theorem deCs_ge : ∀ (c : List S39) (m : Int), m ≤ deCs c m
  | [], m => by rw [deCs]; omega
  | x :: c, m => by
    rw [deCs]
    have hm : m ≤ (if m < deC x then deC x else m) := by split <;> omega
    exact Int.le_trans hm (deCs_ge c _)
theorem deA_nn : ∀ (a : S25), 0 ≤ deA a
  | ⟨s, c⟩ => by rw [deA]; exact deCs_ge c 0
mutual
theorem dA : ∀ (a : S25) (d : Nat), chA a d = 0 → d ≤ 8 → (d : Int) + deA a ≤ 8
  | ⟨s, c⟩, d, h, hd => by
    rw [deA]
    exact dCs c 0 d (chA_parts h).2.2.2 hd (by omega)
theorem dCs : ∀ (c : List S39) (m : Int) (d : Nat), chCs c d = 0 → d ≤ 8 → (d : Int) + m ≤ 8 → (d : Int) + deCs c m ≤ 8
  | [], m, d, h, hd, hm => by rw [deCs]; exact hm
  | ⟨k, n, b⟩ :: c, m, d, h, hd, hm => by
    rw [chCs] at h
    by_cases hx : chC ⟨k, n, b⟩ d = 0
    · rw [if_pos hx] at h
      rw [deCs]
      rw [chC] at hx
      have hb := dB b k n d hx hd
      refine dCs c _ d h hd ?_
      rw [deC]
      split <;> omega
    · rw [if_neg hx] at h
      exact absurd h hx
theorem dB : ∀ (b : List S25) (k n : Int) (d : Nat), chB b k n d = 0 → d ≤ 8 → (d : Int) + deB b ≤ 8
  | [], k, n, d, h, hd => by rw [deB]; omega
  | y :: ys, k, n, d, h, hd => by
    rw [chB_cons] at h
    split at h
    · split at h
      · cases h
      · rw [deB]
        have := dA y (d + 1) h (by omega)
        omega
    · cases h
end
mutual
theorem sA : ∀ (a : S25) (d d' : Nat), chA a d = 0 → (d' : Int) + deA a ≤ 8 → chA a d' = 0
  | ⟨s, c⟩, d, d', h, hd => by
    obtain ⟨h1, h2, h3, h4⟩ := chA_parts h
    rw [deA] at hd
    exact chA_of h1 h2 h3 (sCs c 0 d d' h4 hd)
theorem sCs : ∀ (c : List S39) (m : Int) (d d' : Nat), chCs c d = 0 → (d' : Int) + deCs c m ≤ 8 → chCs c d' = 0
  | [], m, d, d', h, hd => by rw [chCs]
  | ⟨k, n, b⟩ :: c, m, d, d', h, hd => by
    rw [chCs] at h ⊢
    by_cases hx : chC ⟨k, n, b⟩ d = 0
    · rw [if_pos hx] at h
      rw [deCs] at hd
      have hg := deCs_ge c (if m < deC ⟨k, n, b⟩ then deC ⟨k, n, b⟩ else m)
      have hm : deC ⟨k, n, b⟩ ≤ (if m < deC ⟨k, n, b⟩ then deC ⟨k, n, b⟩ else m) := by split <;> omega
      have hx' : chC ⟨k, n, b⟩ d' = 0 := by
        rw [chC] at hx ⊢
        rw [deC] at hm
        exact sB b k n d d' hx (by rw [deC] at hg hd; omega)
      rw [if_pos hx']
      exact sCs c _ d d' h hd
    · rw [if_neg hx] at h
      exact absurd h hx
theorem sB : ∀ (b : List S25) (k n : Int) (d d' : Nat), chB b k n d = 0 → (d' : Int) + deB b ≤ 8 → chB b k n d' = 0
  | [], k, n, d, d', h, hd => by rw [chB] at h ⊢; exact h
  | y :: ys, k, n, d, d', h, hd => by
    rw [chB_cons] at h ⊢
    rw [deB] at hd
    by_cases hc : k = 2 ∧ n = 0 ∧ ys.length = 0
    · rw [if_pos hc] at h ⊢
      split at h
      · cases h
      · have h0 : 0 ≤ deA y := deA_nn y
        rw [if_neg (by omega)]
        exact sA y (d + 1) (d' + 1) h (by omega)
    · rw [if_neg hc] at h
      cases h
end
theorem any_false {l : List Int} {p : Int → Bool} (h : ∀ x ∈ l, p x = false) : l.any p = false := by
  rw [List.any_eq_false]
  intro x hx
  rw [h x hx]
  decide
theorem sizeS_zero {l : List Int} (hl : l.length ≤ 8) (h0 : ∀ x ∈ l, 0 ≤ x) (hz : 0 ∈ l) : sizeS l = (0, 0) := by
  unfold sizeS
  rw [if_neg (by omega), any_false (p := fun x => decide (x < 0)) (fun x hx => decide_eq_false (by have := h0 x hx; omega)), if_neg (by decide), if_pos (List.any_eq_true.2 ⟨0, hz, by simp⟩)]
theorem sizeP_all : ∀ (l : List Int) (n : Int), (∀ x ∈ l, 1 ≤ x) → 1 ≤ n → n * prodS l ≤ 16384 → sizeP n l = (n * prodS l, 0)
  | [], n, _, _, _ => by simp [sizeP, prodS]
  | d :: l, n, h, h1, hb => by
    have hd := h d List.mem_cons_self
    have hp := prodS_pos (s := l) (fun x hx => h x (List.mem_cons_of_mem _ hx))
    rw [prodS, ← Int.mul_assoc] at hb ⊢
    have hn : 1 ≤ n * d := by have := le_mulR (a := n) (b := d) (by omega) hd; omega
    have := le_mulR (a := n * d) (b := prodS l) (by omega) hp
    rw [sizeP, if_neg (by omega), sizeP_all l (n * d) (fun x hx => h x (List.mem_cons_of_mem _ hx)) hn hb]
theorem sizeS_all {l : List Int} (hl : l.length ≤ 8) (h1 : ∀ x ∈ l, 1 ≤ x) (hb : prodS l ≤ 16384) : sizeS l = (prodS l, 0) := by
  unfold sizeS
  rw [if_neg (by omega), any_false (p := fun x => decide (x < 0)) (fun x hx => decide_eq_false (by have := h1 x hx; omega)), if_neg (by decide), any_false (p := fun x => decide (x = 0)) (fun x hx => decide_eq_false (by have := h1 x hx; omega)), if_neg (by decide), sizeP_all l 1 h1 (by omega) (by omega), Int.one_mul]
theorem sizeS_cases {l : List Int} (h : (sizeS l).2 = 0) : l.length ≤ 8 ∧ (∀ x ∈ l, 0 ≤ x) ∧ ((0 ∈ l ∧ (sizeS l).1 = 0) ∨ ((∀ x ∈ l, 1 ≤ x) ∧ (sizeS l).1 = prodS l ∧ prodS l ≤ 16384)) := by
  have hl := sizeS_len h
  have h0 := sizeS_nonneg h
  refine ⟨hl, h0, ?_⟩
  by_cases hz : (0 : Int) ∈ l
  · exact .inl ⟨hz, by rw [sizeS_zero hl h0 hz]⟩
  · have h1 : ∀ x ∈ l, 1 ≤ x := fun x hx => by
      have := h0 x hx
      rcases Int.lt_or_le 0 x with hp | hp
      · omega
      · exact absurd (show (0 : Int) ∈ l by rw [show (0 : Int) = x by omega]; exact hx) hz
    have hp := sizeS_pos h h1
    have hb := sizeS_bd l
    exact .inr ⟨h1, hp, by omega⟩
theorem sizeS_sing {n : Int} (h0 : 0 ≤ n) (h1 : n ≤ 16384) : sizeS [n] = (n, 0) := by
  by_cases hz : n = 0
  · subst hz
    exact sizeS_zero (by simp) (by simp) (by simp)
  · have := sizeS_all (l := [n]) (by simp) (by simp; omega) (by simp [prodS]; omega)
    rw [this]
    simp [prodS]
theorem sizeS_rev {l : List Int} (h : (sizeS l).2 = 0) : sizeS l.reverse = sizeS l := by
  obtain ⟨hl, h0, hc | ⟨h1, hp, hb⟩⟩ := sizeS_cases h
  · rw [sizeS_zero (l := l.reverse) (by simpa using hl) (fun x hx => h0 x (List.mem_reverse.1 hx)) (List.mem_reverse.2 hc.1), sizeS_zero hl h0 hc.1]
  · rw [sizeS_all (l := l.reverse) (by simpa using hl) (fun x hx => h1 x (List.mem_reverse.1 hx)) (by rw [prodS_rev]; exact hb), sizeS_all hl h1 hb, prodS_rev]
theorem sizeS_tail {d : Int} {r : List Int} (h : (sizeS (d :: r)).2 = 0) (hd : d ≠ 0) : (sizeS r).2 = 0 ∧ d * (sizeS r).1 = (sizeS (d :: r)).1 := by
  obtain ⟨hl, h0, hc⟩ := sizeS_cases h
  rw [List.length_cons] at hl
  have h0r : ∀ x ∈ r, 0 ≤ x := fun x hx => h0 x (List.mem_cons_of_mem _ hx)
  have hd0 := h0 d List.mem_cons_self
  rcases hc with ⟨hz, e⟩ | ⟨h1, hp, hb⟩
  · have hzr : (0 : Int) ∈ r := by
      rcases List.mem_cons.1 hz with h | h
      · exact absurd h.symm hd
      · exact h
    rw [sizeS_zero (by omega) h0r hzr, e]
    simp
  · have h1r : ∀ x ∈ r, 1 ≤ x := fun x hx => h1 x (List.mem_cons_of_mem _ hx)
    have hpr := prodS_pos h1r
    rw [prodS] at hb hp
    have := le_mulR (a := prodS r) (b := d) (by omega) (by omega)
    rw [Int.mul_comm] at this
    rw [sizeS_all (l := r) (by omega) h1r (by omega), hp]
    simp
theorem sizeS_one_cons {s : List Int} (h : (sizeS s).2 = 0) (hl : s.length < 8) : sizeS (1 :: s) = sizeS s := by
  obtain ⟨_, h0, hc | ⟨h1, hp, hb⟩⟩ := sizeS_cases h
  · rw [sizeS_zero (l := 1 :: s) (by simp; omega) (by intro x hx; rcases List.mem_cons.1 hx with rfl | hx; omega; exact h0 x hx) (List.mem_cons_of_mem _ hc.1), sizeS_zero (by omega) h0 hc.1]
  · rw [sizeS_all (l := 1 :: s) (by simp; omega) (by intro x hx; rcases List.mem_cons.1 hx with rfl | hx; omega; exact h1 x hx) (by rw [prodS]; omega), sizeS_all (by omega) h1 hb, prodS, Int.one_mul]
def va (s : List Int) (c : List S39) : Prop := okA ⟨s, c⟩ ∧ chA ⟨s, c⟩ 0 = 0
theorem va_of {s : List Int} {c : List S39} (h1 : (sizeS s).2 = 0) (h2 : (sizeS s).1 = (c.length : Int)) (h3 : ∀ d ∈ s, d ≤ 16384) (h4 : ∀ x ∈ c, okC x ∧ chC x 0 = 0) : va s c := by
  have hb := sizeS_bd s
  refine ⟨okA_of (by have := sizeS_len h1; omega) (fun x hx => ⟨sizeS_nonneg h1 x hx, by have := h3 x hx; omega⟩) (by omega) (fun x hx => (h4 x hx).1), chA_of h1 h2 ?_ (chCs_all.2 fun x hx => (h4 x hx).2)⟩
  exact any_false (fun x hx => decide_eq_false (by have := h3 x hx; omega))
theorem num_ok {n : Int} (h0 : 0 ≤ n) (h1 : n ≤ 16385) : okC ⟨0, n, []⟩ ∧ chC ⟨0, n, []⟩ 0 = 0 := by
  constructor
  · rw [okC, okAs]
    exact ⟨wf_small (by omega) (by omega), wf_small h0 h1, by simp, trivial⟩
  · rw [chC, chB, if_pos rfl]
theorem upC_len : ∀ (m : Nat) (i : Int), (upC i m).length = m
  | 0, i => rfl
  | m + 1, i => by rw [upC, List.length_cons, upC_len m]
theorem upC_ok : ∀ (m : Nat) (i : Int), 0 ≤ i → i + m ≤ 16385 → ∀ x ∈ upC i m, okC x ∧ chC x 0 = 0
  | 0, i, _, _, x, hx => by cases hx
  | m + 1, i, h0, h1, x, hx => by
    rw [upC] at hx
    rcases List.mem_cons.1 hx with rfl | hx
    · exact num_ok h0 (by omega)
    · exact upC_ok m (i + 1) (by omega) (by omega) x hx
theorem cells_ok {s : List Int} {c : List S39} (h : va s c) : ∀ x ∈ c, okC x ∧ chC x 0 = 0 := fun x hx => ⟨okA_cells h.1 x hx, chCs_all.1 (chA_parts h.2).2.2.2 x hx⟩
theorem revF_va {s : List Int} {c : List S39} (h : va s c) : va s (revF s c) ∧ revF s (revF s c) = c := by
  obtain ⟨p1, p2, p3, p4⟩ := chA_parts h.2
  cases s with
  | nil => exact ⟨h, rfl⟩
  | cons d r =>
    obtain ⟨t1, t2, t3⟩ := tnS_len (p := []) p1 p2
    exact ⟨va_of p1 (by rw [revF, t1]; exact p2) (small_dims p3) (fun x hx => cells_ok h x (t2 x hx)), t3⟩
theorem revL_va {s : List Int} {c : List S39} (h : va s c) : va s (revL s c) ∧ revL s (revL s c) = c := by
  obtain ⟨p1, p2, p3, p4⟩ := chA_parts h.2
  rcases List.eq_nil_or_concat s with rfl | ⟨p, d, rfl⟩
  · exact ⟨h, rfl⟩
  · rw [List.concat_eq_append] at h p1 p2 p3 ⊢
    obtain ⟨t1, t2, t3⟩ := tnS_len (p := p) (d := d) (r := []) p1 p2
    have e : ∀ c', revL (p ++ [d]) c' = tnS p d [] c' := fun c' => by simp [revL]
    rw [e, e]
    exact ⟨va_of p1 (by rw [t1]; exact p2) (small_dims p3) (fun x hx => cells_ok h x (t2 x hx)), t3⟩
theorem flS_va {s : List Int} {c : List S39} (h : va s c) : va s.reverse (flS s c) ∧ flS s.reverse (flS s c) = c := by
  obtain ⟨p1, p2, p3, p4⟩ := chA_parts h.2
  obtain ⟨t1, t2, t3⟩ := flS_len p1 p2
  have hr := sizeS_rev p1
  exact ⟨va_of (by rw [hr]; exact p1) (by rw [hr, t1]; exact p2) (fun d hd => small_dims p3 d (List.mem_reverse.1 hd)) (fun x hx => cells_ok h x (t2 x hx)), t3⟩
theorem box_va {a : S25} (h : okA a) (hc : chA a 0 = 0) (hd : deA a < 8) : va [] [⟨2, 0, [a]⟩] := by
  refine va_of rfl rfl (by simp) ?_
  intro x hx
  rw [List.mem_singleton] at hx
  subst hx
  constructor
  · rw [okC, okAs, okAs]
    exact ⟨wf_small (by omega) (by omega), wf_small (by omega) (by omega), by simp [reachBytes], h, trivial⟩
  · rw [chC, chB_cons, if_pos ⟨rfl, rfl, rfl⟩, if_neg (by omega)]
    exact sA a 0 1 hc (by omega)
theorem open_va {s : List Int} {c : List S39} (h : va s c) (he : (openS ⟨s, c⟩).2.2 = 0) : va (openS ⟨s, c⟩).1 (openS ⟨s, c⟩).2.1 := by
  obtain ⟨p1, p2, p3, p4⟩ := chA_parts h.2
  unfold openS at he ⊢
  simp only at he ⊢
  by_cases h0 : 0 < s.length
  · rw [if_pos h0] at he; cases he
  · rw [if_neg h0]
    have hm := cells_ok h _ (rdC_mem (c := c) (i := 0) (by omega) (by have := rank0 (s := s) (by omega) p2; omega))
    generalize rd_T39 c 0 = x at *
    by_cases h2 : x.f0 = 2
    · rw [if_pos h2]
      obtain ⟨k, n, b⟩ := x
      simp only at h2 ⊢
      subst h2
      obtain ⟨m1, m2⟩ := hm
      rw [okC] at m1
      rw [chC] at m2
      cases b with
      | nil => rw [chB] at m2; simp at m2
      | cons y ys =>
        rw [chB_cons] at m2
        rw [okAs] at m1
        split at m2
        · rw [if_neg (by omega)] at m2
          have hdp := dA y 1 m2 (by omega)
          have e : rd_T25 (y :: ys) 0 = y := rfl
          rw [e]
          show okA ⟨y.f0, y.f1⟩ ∧ chA ⟨y.f0, y.f1⟩ 0 = 0
          rw [etaA]
          exact ⟨m1.2.2.2.1, sA y 1 0 m2 (by have := deA_nn y; omega)⟩
        · cases m2
    · rw [if_neg h2]; exact h
theorem first_va {s : List Int} {c : List S39} (h : va s c) (he : (firstS ⟨s, c⟩).2.2 = 0) : va (firstS ⟨s, c⟩).1 (firstS ⟨s, c⟩).2.1 := by
  obtain ⟨p1, p2, p3, p4⟩ := chA_parts h.2
  unfold firstS at he ⊢
  simp only at he ⊢
  by_cases h0 : s.length = 0
  · rw [if_pos h0]; exact h
  · rw [if_neg h0] at he ⊢
    by_cases h1 : rd s 0 = 0
    · rw [if_pos h1] at he; cases he
    · rw [if_neg h1]
      obtain ⟨d, r, rfl⟩ : ∃ d r, s = d :: r := by cases s with | nil => exact absurd rfl h0 | cons a b => exact ⟨a, b, rfl⟩
      rw [show rd (d :: r) 0 = d from rfl] at h1 ⊢
      have hd0 := sizeS_one p1
      obtain ⟨q1, q2⟩ := sizeS_tail p1 h1
      have hq : (c.length : Int) / d = (sizeS r).1 := by rw [← p2, ← q2]; exact Int.mul_ediv_cancel_left _ h1
      have hb := sizeS_bd r
      rw [hq]
      simp only [List.drop_one, List.tail_cons]
      have hle : (sizeS r).1 ≤ (c.length : Int) := by rw [← p2, ← q2, Int.mul_comm]; exact le_mulR hb.1 (by omega)
      exact va_of q1 (by rw [List.length_take]; omega) (fun x hx => small_dims p3 x (List.mem_cons_of_mem _ hx)) (fun x hx => cells_ok h x (List.mem_of_mem_take hx))
theorem mo_va {op : Int} {s : List Int} {c : List S39} (h : va s c) (he : (moS op ⟨s, c⟩).2.2 = 0) : va (moS op ⟨s, c⟩).1 (moS op ⟨s, c⟩).2.1 := by
  obtain ⟨p1, p2, p3, p4⟩ := chA_parts h.2
  have hb := sizeS_bd s
  have hl := sizeS_len p1
  unfold moS at he ⊢
  simp only at he ⊢
  by_cases o5 : op = 5
  · rw [if_pos o5] at he ⊢
    unfold iotaS at he ⊢
    simp only at he ⊢
    by_cases h0 : 0 < s.length
    · rw [if_pos h0] at he; cases he
    rw [if_neg h0] at he ⊢
    by_cases h1 : (rd_T39 c 0).f0 = 0 ∧ ¬ (rd_T39 c 0).f1 < 0
    · rw [if_pos h1] at he ⊢
      by_cases h2 : (rd_T39 c 0).f1 > 16384
      · rw [if_pos h2] at he; cases he
      rw [if_neg h2]
      generalize (rd_T39 c 0).f1 = n at *
      have hs := sizeS_sing (n := n) (by omega) (by omega)
      exact va_of (by rw [hs]) (by rw [hs, upC_len]; simp only; omega) (by simp; omega) (upC_ok _ 0 (by omega) (by omega))
    · rw [if_neg h1] at he; cases he
  rw [if_neg o5] at he ⊢
  by_cases o6 : op = 6
  · rw [if_pos o6]
    have hs := sizeS_sing (n := (s.length : Int)) (by omega) (by omega)
    refine va_of (by rw [hs]) (by rw [hs]; simp [numC]) (by simp; omega) ?_
    intro x hx
    obtain ⟨d, hd, rfl⟩ := List.mem_map.1 hx
    exact num_ok (sizeS_nonneg p1 d hd) (by have := small_dims p3 d hd; omega)
  rw [if_neg o6] at he ⊢
  by_cases o7 : op = 7
  · rw [if_pos o7]
    refine va_of rfl rfl (by simp) ?_
    intro x hx
    rw [List.mem_singleton] at hx
    subst hx
    unfold tallyS
    split
    · exact num_ok (by omega) (by omega)
    · rename_i h0
      obtain ⟨d, r, rfl⟩ : ∃ d r, s = d :: r := by cases s with | nil => exact absurd rfl h0 | cons a b => exact ⟨a, b, rfl⟩
      rw [show rd (d :: r) 0 = d from rfl]
      exact num_ok (sizeS_one p1) (by have := small_dims p3 d List.mem_cons_self; omega)
  rw [if_neg o7] at he ⊢
  by_cases o8 : op = 8
  · rw [if_pos o8]
    have hs := sizeS_sing (n := (c.length : Int)) (by omega) (by omega)
    exact va_of (by rw [hs]) (by rw [hs]) (by simp; omega) (cells_ok h)
  rw [if_neg o8] at he ⊢
  by_cases o9 : op = 9
  · rw [if_pos o9]; exact (revF_va h).1
  rw [if_neg o9] at he ⊢
  by_cases o10 : op = 10
  · rw [if_pos o10]; exact (revL_va h).1
  rw [if_neg o10] at he ⊢
  by_cases o11 : op = 11
  · rw [if_pos o11]; exact (flS_va h).1
  rw [if_neg o11] at he ⊢
  by_cases o15 : op = 15
  · rw [if_pos o15] at he ⊢
    by_cases hd : deA ⟨s, c⟩ ≥ 8
    · rw [if_pos hd] at he; cases he
    · rw [if_neg hd]; exact box_va h.1 h.2 (by omega)
  rw [if_neg o15] at he ⊢
  by_cases o16 : op = 16
  · rw [if_pos o16] at he ⊢; exact open_va h he
  rw [if_neg o16] at he ⊢
  by_cases o17 : op = 17
  · rw [if_pos o17] at he ⊢; exact first_va h he
  rw [if_neg o17] at he ⊢
  by_cases o18 : op = 18
  · rw [if_pos o18] at he ⊢
    by_cases h8 : 8 ≤ s.length
    · rw [if_pos h8] at he; cases he
    · rw [if_neg h8]
      have hs := sizeS_one_cons p1 (by omega)
      exact va_of (by rw [hs]; exact p1) (by rw [hs]; exact p2) (by intro x hx; rcases List.mem_cons.1 hx with rfl | hx; omega; exact small_dims p3 x hx) (cells_ok h)
  rw [if_neg o18] at he
  cases he
end Go.Proofs.Ytiegcghapchimaa.Pure
