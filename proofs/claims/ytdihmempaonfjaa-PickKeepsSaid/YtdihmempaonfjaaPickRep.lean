/- An array repeated along an axis by one number all over: by ones it is itself, by noughts it has no cell left. -/
import Derived.Test.YtdihmempaonfjaaLay0
import Derived.Test.YtdihmempaonfjaaArr6
import Derived.Test.YtdihmempaonfjaaPx5
import Derived.Test.YtdihmempaonfjaaPx6
namespace Go.Proofs.Ytdihmempaonfjaa.Pure
open Go.RowKit Go.Proofs.Ytdihmempaonfjaa.P Go.Proofs.Ytdihmempaonfjaa.Nest Go.Proofs.YtdihmempaonfjaaW.PrintWords Go.Proofs.YtdihmempaonfjaaW.PrintLast Go.Proofs.YtdihmempaonfjaaW.PrintMore
set_option linter.unusedVariables false
set_option linter.unusedSimpArgs false
def one1 (c : Int) : List S45 := [⟨0, c, []⟩]
theorem rd_rep (n i : Nat) (c : Int) (h : i < n) : rd (List.replicate n c) (i : Int) = c := by
  unfold rd
  rw [Int.toNat_natCast, List.getD_eq_getElem?_getD, List.getElem?_replicate, if_pos h]
  rfl
theorem tm_l1 (c : Int) (hc : c = 0 ∨ c = 1) (n : Nat) (hn : n ≤ 16384) : ∀ (m i : Nat), i + m = n → ∃ K, ∀ k, K ≤ k → pick_times.l1 k (List.replicate i c ++ List.replicate m 0) ((i : Int) * c) (n : Int) (i : Int) [] (one1 c) = some (List.replicate n c, 0)
  | 0, i, h => by
    refine ⟨1, fun k hk => ?_⟩
    obtain ⟨k, rfl, _⟩ := succ_of (K := 0) hk
    simp only [pick_times.l1]
    rw [if_neg (by omega), List.replicate_zero, List.append_nil, show i = n by omega]
  | m + 1, i, h => by
    obtain ⟨K, hK⟩ := tm_l1 c hc n hn m (i + 1) (by omega)
    have hbd : 0 ≤ (i : Int) * c ∧ (i : Int) * c ≤ i := by rcases hc with rfl | rfl <;> omega
    have hc2 : c ≤ 16384 - (i : Int) * c := by rcases hc with rfl | rfl <;> omega
    have hc3 : 0 ≤ c ∧ c ≤ 1 := by rcases hc with rfl | rfl <;> omega
    refine ⟨K + 1, fun k hk => ?_⟩
    obtain ⟨k, rfl, hk2⟩ := succ_of hk
    have e : (List.replicate i c ++ List.replicate (m + 1) 0).set i c = List.replicate (i + 1) c ++ List.replicate m 0 := by
      rw [List.set_append_right _ _ (by simp)]
      simp only [List.length_replicate, Nat.sub_self, List.replicate_succ, List.set_cons_zero]
      rw [← List.replicate_succ, List.replicate_succ', List.append_assoc]
      rfl
    have e2 : rd (List.replicate (i + 1) c ++ List.replicate m 0) (i : Int) = c := by
      rw [List.replicate_succ', List.append_assoc]
      have := rd_mid (List.replicate i c) c (List.replicate m 0)
      simpa using this
    simp only [pick_times.l1]
    rw [if_pos (by omega), if_pos (by simp [one1]), if_neg (by simp), show (rd_T45 (one1 c) 0).f1 = c from rfl, wrap_in (x := 16384 - (i : Int) * c) (by omega) (by omega), if_neg (by omega), if_pos (by omega), if_pos (by simp; omega)]
    simp only [Option.bind_some, Int.toNat_natCast]
    rw [e, e2, wrap_in (x := (i : Int) * c + c) (by omega) (by omega), wrap_in (x := (i : Int) + 1) (by omega) (by omega)]
    have := hK k hk2
    rw [show (((i + 1 : Nat) : Int)) = (i : Int) + 1 by omega, Int.add_mul, Int.one_mul] at this
    exact this
theorem times_eq (c : Int) (hc : c = 0 ∨ c = 1) (n : Nat) (hn : n ≤ 16384) : ∃ K, ∀ k, K ≤ k → pick_times.f k [] (one1 c) (n : Int) = some (List.replicate n c, 0) := by
  obtain ⟨K, hK⟩ := tm_l1 c hc n hn n 0 (by omega)
  refine ⟨K + 3, fun k hk => ?_⟩
  obtain ⟨k, rfl, h2⟩ := succ_of (show (K + 2) + 1 ≤ k by omega)
  obtain ⟨k, rfl, h3⟩ := succ_of (show (K + 1) + 1 ≤ k by omega)
  have hc3 : 0 ≤ c ∧ c ≤ 1 := by rcases hc with rfl | rfl <;> omega
  unfold pick_times.f
  rw [if_neg (by simp)]
  simp only [pick_times.l0]
  rw [show ((one1 c).length : Int) = 1 from rfl, if_pos (by omega), if_pos (by omega), if_pos (by omega), show (rd_T45 (one1 c) 0).f0 = 0 from rfl, if_pos rfl, show (rd_T45 (one1 c) 0).f1 = c from rfl, if_neg (by omega), show wrap64 (0 + 1) = 1 from wrap_in (by omega) (by omega), if_neg (by omega), if_neg (by simp), if_pos (by omega), if_pos (by omega)]
  simp only [Option.bind_some, List.length_replicate, Int.toNat_natCast]
  have := hK k (by omega)
  simpa using this
def outS (c : Int) (cs : List S45) (q : Nat) : List S45 := if c = 1 then cs.take q else []
theorem take_drop_app {α : Type} (l : List α) (a b : Nat) (h : a ≤ b) : l.take a ++ (l.take b).drop a = l.take b := by
  have h2 := List.take_append_drop a (l.take b)
  rw [List.take_take, Nat.min_eq_left h] at h2
  exact h2
section
variable {c : Int} {D I : Nat} {s s' : List Int} {cs : List S45} {R : List Int × List S45 × Int}
theorem rp_l3 (hc : c = 0 ∨ c = 1) (hl : cs.length ≤ 16384) (hDI : D * I ≤ 16384) (hI : I ≤ 16384) (hD : D ≤ 16384) (at' : Nat) (hat : at' + D * I ≤ cs.length)
    (h2 : ∃ K, ∀ k, K ≤ k → pick_repeated.l2 k (List.replicate D c) (I : Int) ((at' + D * I : Nat) : Int) s cs s' (outS c cs (at' + D * I)) = some R) : ∀ (m i : Nat), i + m = D →
    ∃ K, ∀ k, K ≤ k → pick_repeated.l3 k (List.replicate D c) (I : Int) (at' : Int) (D : Int) (i : Int) s cs s' (outS c cs (at' + i * I)) = some R
  | 0, i, h => by
    obtain ⟨K, hK⟩ := h2
    obtain rfl : i = D := by omega
    refine ⟨K + 1, fun k hk => ?_⟩
    obtain ⟨k, rfl, hk2⟩ := succ_of hk
    simp only [pick_repeated.l3, List.length_replicate]
    have e1 : ((i * I : Nat) : Int) = (i : Int) * (I : Int) := Int.natCast_mul i I
    rw [if_neg (by omega), wrap_in (x := (i : Int) * (I : Int)) (by omega) (by omega), wrap_in (by omega) (by omega)]
    have := hK k hk2
    rw [show ((at' + i * I : Nat) : Int) = (at' : Int) + (i : Int) * (I : Int) by omega] at this
    exact this
  | m + 1, i, h => by
    obtain ⟨K, hK⟩ := rp_l3 hc hl hDI hI hD at' hat h2 m (i + 1) (by omega)
    have e1 : ((i * I : Nat) : Int) = (i : Int) * (I : Int) := Int.natCast_mul i I
    have e2 : (i + 1) * I = i * I + I := Nat.succ_mul i I
    have e3 : ((i : Int) + 1) * (I : Int) = ((i * I + I : Nat) : Int) := by rw [← e2, Int.natCast_mul]; simp
    have e4 : (i + 1) * I ≤ D * I := Nat.mul_le_mul_right _ (by omega)
    refine ⟨K + 3, fun k hk => ?_⟩
    obtain ⟨k, rfl, h1⟩ := succ_of (show (K + 2) + 1 ≤ k by omega)
    obtain ⟨k, rfl, h3⟩ := succ_of (show (K + 1) + 1 ≤ k by omega)
    simp only [pick_repeated.l3, List.length_replicate]
    rw [if_pos (by omega), if_pos (by omega), if_pos (by omega), rd_rep D i c (by omega)]
    have hn := fun j (hj : K ≤ j) => hK j hj
    rw [show (((i + 1 : Nat)) : Int) = (i : Int) + 1 by omega] at hn
    rcases hc with rfl | rfl
    · simp only [pick_repeated.l4]
      rw [if_neg (by omega), wrap_in (x := (i : Int) + 1) (by omega) (by omega)]
      have := hn k (by omega)
      simpa [outS] using this
    · obtain ⟨k, rfl, h4⟩ := succ_of h3
      simp only [pick_repeated.l4]
      rw [if_pos (by omega), wrap_in (x := (i : Int) * (I : Int)) (by omega) (by omega), wrap_in (x := (i : Int) + 1) (by omega) (by omega), e3, wrap_in (x := ((i * I + I : Nat) : Int)) (by omega) (by omega), ← e1, wrap_in (x := (at' : Int) + ((i * I : Nat) : Int)) (by omega) (by omega), wrap_in (x := (at' : Int) + ((i * I + I : Nat) : Int)) (by omega) (by omega),
        if_pos (by omega), if_pos (by omega), if_pos (by omega)]
      simp only [Option.bind_some]
      rw [show ((at' : Int) + ((i * I + I : Nat) : Int)).toNat = at' + (i + 1) * I by omega, show ((at' : Int) + ((i * I : Nat) : Int)).toNat = at' + i * I by omega]
      have happ : outS 1 cs (at' + i * I) ++ (cs.take (at' + (i + 1) * I)).drop (at' + i * I) = outS 1 cs (at' + (i + 1) * I) := by
        unfold outS
        rw [if_pos rfl, if_pos rfl]
        exact take_drop_app _ _ _ (by omega)
      have hlen : (outS 1 cs (at' + i * I)).length + ((cs.take (at' + (i + 1) * I)).drop (at' + i * I)).length = (outS 1 cs (at' + (i + 1) * I)).length := by rw [← happ, List.length_append]
      have hl2 : (outS 1 cs (at' + (i + 1) * I)).length ≤ 16384 := by
        unfold outS
        rw [if_pos rfl, List.length_take]
        omega
      rw [if_pos (by omega), happ, show wrap64 (0 + 1) = 1 from wrap_in (by omega) (by omega), if_neg (by omega)]
      exact hn k h4
theorem rp_l2 (hc : c = 0 ∨ c = 1) (hl : cs.length ≤ 16384) (hDI : 1 ≤ D * I) (P : Nat) (hcs : cs.length = P * (D * I)) (hI : I ≤ 16384) (hD : D ≤ 16384) : ∀ (m b : Nat), b + m = P →
    ∃ K, ∀ k, K ≤ k → pick_repeated.l2 k (List.replicate D c) (I : Int) ((b * (D * I) : Nat) : Int) s cs s' (outS c cs (b * (D * I))) = some (s', outS c cs cs.length, 0)
  | 0, b, h => by
    obtain rfl : b = P := by omega
    refine ⟨1, fun k hk => ?_⟩
    obtain ⟨k, rfl, _⟩ := succ_of (K := 0) hk
    simp only [pick_repeated.l2]
    rw [if_neg (by omega), ← hcs]
  | m + 1, b, h => by
    obtain ⟨K, hK⟩ := rp_l2 hc hl hDI P hcs hI hD m (b + 1) (by omega)
    have e1 : (b + 1) * (D * I) = b * (D * I) + D * I := Nat.succ_mul _ _
    have e2 : (b + 1) * (D * I) ≤ P * (D * I) := Nat.mul_le_mul_right _ (by omega)
    rw [e1] at hK
    obtain ⟨K2, hK2⟩ := rp_l3 (s := s) (s' := s') hc hl (by omega) hI hD (b * (D * I)) (by omega) ⟨K, hK⟩ D 0 (by omega)
    refine ⟨K2 + 1, fun k hk => ?_⟩
    obtain ⟨k, rfl, hk2⟩ := succ_of hk
    simp only [pick_repeated.l2, List.length_replicate]
    rw [if_pos (by omega)]
    have := hK2 k hk2
    rw [Nat.zero_mul, Nat.add_zero] at this
    exact this
end
def wprod : Int → List Int → Int
  | n, [] => n
  | n, d :: r => wprod (wrap64 (n * d)) r
theorem prodS_append (a b : List Int) : prodS (a ++ b) = prodS a * prodS b := by
  induction a with
  | nil => simp [prodS]
  | cons x a ih => rw [List.cons_append, prodS, prodS, ih, Int.mul_assoc]
theorem wprod_eq : ∀ (r : List Int) (n : Int), (∀ d ∈ r, 1 ≤ d) → 1 ≤ n → n * prodS r ≤ 16384 → wprod n r = n * prodS r
  | [], n, _, _, _ => by simp [wprod, prodS]
  | d :: r, n, h, hn, hb => by
    have hd := h d List.mem_cons_self
    have hr := prodS_pos (s := r) (fun x hx => h x (List.mem_cons_of_mem _ hx))
    rw [prodS, ← Int.mul_assoc] at hb ⊢
    have h1 : 1 ≤ n * d := by have := Int.mul_le_mul hn hd (by omega) (by omega); omega
    have h2 : n * d ≤ n * d * prodS r := le_mulR (by omega) hr
    rw [wprod, wrap_in (by omega) (by omega)]
    exact wprod_eq r (n * d) (fun x hx => h x (List.mem_cons_of_mem _ hx)) h1 hb
theorem axis_bd {p : List Int} {d : Int} {r : List Int} {n : Int} (h : ∀ x ∈ p ++ d :: r, 1 ≤ x) (he : n = prodS (p ++ d :: r)) : 0 < (prodS r).toNat ∧ 0 < d.toNat ∧ n = (((prodS p).toNat * (d.toNat * (prodS r).toNat) : Nat) : Int) ∧ 0 < (prodS p).toNat := by
  have h1 := prodS_pos (s := p) (fun x hx => h x (List.mem_append_left _ hx))
  have h2 := prodS_pos (s := r) (fun x hx => h x (List.mem_append_right _ (List.mem_cons_of_mem _ hx)))
  have h3 := h d (List.mem_append_right _ List.mem_cons_self)
  refine ⟨by omega, by omega, ?_, by omega⟩
  rw [he, prodS_append, prodS, Int.natCast_mul, Int.natCast_mul, Int.toNat_of_nonneg (by omega), Int.toNat_of_nonneg (by omega), Int.toNat_of_nonneg (by omega)]
theorem rp_l1 (l : List Int) (s s' : List Int) (cs : List S45) (R : List Int × List S45 × Int) : ∀ (rest done : List Int) (n : Int), (done ++ rest).length ≤ 8 →
    (∃ K, ∀ k, K ≤ k → pick_repeated.l2 k l (wprod n rest) 0 s cs s' [] = some R) →
    ∃ K, ∀ k, K ≤ k → pick_repeated.l1 k l n (done ++ rest) ((done ++ rest).length : Int) (done.length : Int) s cs s' = some R
  | [], done, n, hl, ⟨K, hK⟩ => by
    refine ⟨K + 1, fun k hk => ?_⟩
    obtain ⟨k, rfl, hk2⟩ := succ_of hk
    simp only [pick_repeated.l1]
    rw [if_neg (by simp)]
    exact hK k hk2
  | x :: rest, done, n, hl, H => by
    have hs : done ++ x :: rest = (done ++ [x]) ++ rest := by simp
    obtain ⟨K, hK⟩ := rp_l1 l s s' cs R rest (done ++ [x]) (wrap64 (n * x)) (by rw [← hs]; exact hl) H
    rw [List.length_append, List.length_cons] at hl
    refine ⟨K + 1, fun k hk => ?_⟩
    obtain ⟨k, rfl, hk2⟩ := succ_of hk
    simp only [pick_repeated.l1]
    rw [if_pos (by simp; omega), if_pos (by omega), if_pos (by simp; omega), rd_mid, wrap_next done x (by omega), hs]
    exact hK k hk2
theorem rp_l0 (c : Int) (hc : c = 0 ∨ c = 1) (D : Nat) (hD : D ≤ 16384) (p r s : List Int) (hp : p.length ≤ 8) (cs : List S45) (R : List Int × List S45 × Int)
    (H : ∃ K, ∀ k, K ≤ k → pick_repeated.l0 k (p.length : Int) (List.replicate D c) (D : Int) (D : Int) s cs (p ++ ((D : Int) * c) :: r) = some R) : ∀ (m i : Nat), i + m = D →
    ∃ K, ∀ k, K ≤ k → pick_repeated.l0 k (p.length : Int) (List.replicate D c) (D : Int) (i : Int) s cs (p ++ ((i : Int) * c) :: r) = some R
  | 0, i, h => by
    obtain rfl : i = D := by omega
    exact H
  | m + 1, i, h => by
    obtain ⟨K, hK⟩ := rp_l0 c hc D hD p r s hp cs R H m (i + 1) (by omega)
    have hbd : 0 ≤ (i : Int) * c ∧ (i : Int) * c ≤ i := by rcases hc with rfl | rfl <;> omega
    have hc3 : 0 ≤ c ∧ c ≤ 1 := by rcases hc with rfl | rfl <;> omega
    refine ⟨K + 1, fun k hk => ?_⟩
    obtain ⟨k, rfl, hk2⟩ := succ_of hk
    simp only [pick_repeated.l0, List.length_replicate, Int.toNat_natCast]
    rw [if_pos (by omega), if_pos (by omega), if_pos (by omega), if_pos (by omega), if_pos (by rw [List.length_append, List.length_cons]; omega), rd_mid, rd_rep D i c (by omega), set_mid, wrap_in (x := (i : Int) * c + c) (by omega) (by omega), wrap_in (x := (i : Int) + 1) (by omega) (by omega)]
    have := hK k hk2
    rw [show (((i + 1 : Nat) : Int)) = (i : Int) + 1 by omega, Int.add_mul, Int.one_mul] at this
    exact this
/-- An array repeated by c all over, c one or nought, along the axis behind p. -/
theorem rep_j0 {p : List Int} {d : Int} {r : List Int} {cs : List S45} (c : Int) (hc : c = 0 ∨ c = 1) (h : (sizeS (p ++ d :: r)).2 = 0) (hcs : (sizeS (p ++ d :: r)).1 = (cs.length : Int)) (hsm : (p ++ d :: r).any (16384 < ·) = false) :
    ∃ K, ∀ k, K ≤ k → pick_repeated.j0 k (p.length : Int) [] (one1 c) (p ++ d :: r) cs = some (p ++ (d * c) :: r, outS c cs cs.length, 0) := by
  have hlen := sizeS_len h
  have hlen' := hlen
  rw [List.length_append, List.length_cons] at hlen'
  have hb := sizeS_bd (p ++ d :: r)
  have hnn := sizeS_nonneg h
  have hd0 := hnn d (List.mem_append_right _ List.mem_cons_self)
  have hd1 : d ≤ 16384 := by
    have := List.any_eq_false.1 hsm d (List.mem_append_right _ List.mem_cons_self)
    simp only [decide_eq_true_iff] at this
    omega
  obtain ⟨D, rfl⟩ : ∃ D : Nat, d = (D : Int) := ⟨d.toNat, by omega⟩
  have hs' : (sizeS (p ++ ((D : Int) * c) :: r)).2 = 0 := by
    rcases hc with rfl | rfl
    · have hl8 : ¬ 8 < (p ++ ((D : Int) * 0) :: r).length := by rw [List.length_append, List.length_cons]; omega
      have hneg : ¬ (p ++ ((D : Int) * 0) :: r).any (· < 0) = true := by
        intro q
        obtain ⟨x, hx, hx2⟩ := List.any_eq_true.1 q
        simp only [decide_eq_true_iff] at hx2
        rcases List.mem_append.1 hx with hx | hx
        · have := hnn x (List.mem_append_left _ hx); omega
        · rcases List.mem_cons.1 hx with rfl | hx
          · omega
          · have := hnn x (List.mem_append_right _ (List.mem_cons_of_mem _ hx)); omega
      have hz : (p ++ ((D : Int) * 0) :: r).any (· = 0) = true := List.any_eq_true.2 ⟨_, List.mem_append_right _ List.mem_cons_self, by simp⟩
      unfold sizeS
      rw [if_neg hl8, if_neg hneg, if_pos hz]
    · rw [Int.mul_one]; exact h
  have H2 : ∃ K, ∀ k, K ≤ k → pick_repeated.l2 k (List.replicate D c) (wprod 1 r) 0 (p ++ (D : Int) :: r) cs (p ++ ((D : Int) * c) :: r) [] = some (p ++ ((D : Int) * c) :: r, outS c cs cs.length, 0) := by
    by_cases hn : cs = []
    · subst hn
      refine ⟨1, fun k hk => ?_⟩
      obtain ⟨k, rfl, _⟩ := succ_of (K := 0) hk
      simp [pick_repeated.l2, outS]
    · have hpos : 0 < (sizeS (p ++ (D : Int) :: r)).1 := by
        rw [hcs]
        have : cs.length ≠ 0 := fun h => hn (List.eq_nil_of_length_eq_zero h)
        omega
      obtain ⟨g1, g2, _⟩ := sizeS_ok h hpos
      obtain ⟨i1, i2, i3, i4⟩ := axis_bd g1 g2
      rw [hcs, Int.toNat_natCast] at i3
      have hcl : cs.length = (prodS p).toNat * (D * (prodS r).toNat) := by exact_mod_cast i3
      have hDI : D * (prodS r).toNat ≤ cs.length := by rw [hcl]; exact Nat.le_mul_of_pos_left _ i4
      have hrp := prodS_pos (s := r) (fun x hx => g1 x (List.mem_append_right _ (List.mem_cons_of_mem _ hx)))
      rw [Int.toNat_natCast] at i2
      have hI2 : (prodS r).toNat ≤ D * (prodS r).toNat := Nat.le_mul_of_pos_left _ i2
      have hw : wprod 1 r = ((prodS r).toNat : Int) := by rw [wprod_eq r 1 (fun x hx => g1 x (List.mem_append_right _ (List.mem_cons_of_mem _ hx))) (by omega) (by omega)]; omega
      obtain ⟨K, hK⟩ := rp_l2 (c := c) (D := D) (I := (prodS r).toNat) (s := p ++ (D : Int) :: r) (s' := p ++ ((D : Int) * c) :: r) hc (by omega) (by omega) (prodS p).toNat hcl (by omega) (by omega) (prodS p).toNat 0 (by omega)
      refine ⟨K, fun k hk => ?_⟩
      have := hK k hk
      rw [hw]
      simpa [outS] using this
  obtain ⟨K1, h1⟩ := rp_l1 (List.replicate D c) (p ++ (D : Int) :: r) (p ++ ((D : Int) * c) :: r) cs _ r [] 1 (by simp; omega) H2
  obtain ⟨K2, h2⟩ := size_eq (p ++ ((D : Int) * c) :: r)
  obtain ⟨K3, h3⟩ := rp_l0 c hc D (by omega) p r (p ++ (D : Int) :: r) (by omega) cs (p ++ ((D : Int) * c) :: r, outS c cs cs.length, 0) ⟨K1 + K2 + 1, fun k hk => by
    obtain ⟨k, rfl, hk2⟩ := succ_of hk
    simp only [pick_repeated.l0]
    rw [if_neg (by omega), h2 k (by omega)]
    simp only [Option.bind_some]
    rw [if_pos hs', wrap_in (x := (p.length : Int) + 1) (by omega) (by omega), if_pos (by omega), if_pos (by rw [List.length_append, List.length_cons]; omega), show ((p.length : Int) + 1).toNat = p.length + 1 by omega, show (p ++ (D : Int) :: r).drop (p.length + 1) = r by rw [List.drop_append]; simp]
    have := h1 k (by omega)
    simpa using this⟩ D 0 (by omega)
  obtain ⟨K4, h4⟩ := times_eq c hc D (by omega)
  refine ⟨K3 + K4 + 1, fun k hk => ?_⟩
  obtain ⟨k, rfl, hk2⟩ := succ_of hk
  simp only [pick_repeated.j0]
  rw [if_pos (by omega), if_pos (by rw [List.length_append, List.length_cons]; omega), rd_mid, h4 k (by omega)]
  simp only [Option.bind_some, List.nil_append, List.length_replicate, List.length_nil, Nat.zero_add, Int.toNat_natCast]
  rw [if_pos trivial, if_pos (by rw [List.length_append, List.length_cons]; omega), if_pos (by rw [List.length_append, List.length_cons]; omega), set_mid]
  have := h3 k (by omega)
  simpa using this
end Go.Proofs.Ytdihmempaonfjaa.Pure
