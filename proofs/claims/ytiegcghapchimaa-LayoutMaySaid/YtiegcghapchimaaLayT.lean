/- An array turned round along an axis. -/
import Derived.Test.YtiegcghapchimaaLay0
import Derived.Test.YtiegcghapchimaaArr7
import Derived.Test.YtiegcghapchimaaPx4
import Derived.Test.YtiegcghapchimaaPx5
namespace Go.Proofs.Ytiegcghapchimaa.Pure
open Go.RowKit Go.Proofs.Ytiegcghapchimaa.P Go.Proofs.Ytiegcghapchimaa.Nest Go.Proofs.YtiegcghapchimaaW.PrintWords Go.Proofs.YtiegcghapchimaaW.PrintLast Go.Proofs.YtiegcghapchimaaW.PrintMore
set_option linter.unusedVariables false
set_option linter.unusedSimpArgs false
/-- So many pieces of a list, the last first. -/
def chunks (I : Nat) (c : List S39) : Nat → List S39
  | 0 => []
  | i + 1 => (c.drop (i * I)).take I ++ chunks I c i
def tn (I D : Nat) : Nat → List S39 → List S39
  | 0, _ => []
  | o + 1, c => chunks I c D ++ tn I D o (c.drop (D * I))
theorem chunks_len (I : Nat) (c : List S39) : ∀ m, m * I ≤ c.length → (chunks I c m).length = m * I
  | 0, _ => by simp [chunks]
  | m + 1, h => by
    rw [Nat.succ_mul] at h ⊢
    rw [chunks, List.length_append, List.length_take, List.length_drop, chunks_len I c m (by omega)]
    omega
theorem chunks_get (I : Nat) (hI : 0 < I) (c : List S39) : ∀ m p, m * I ≤ c.length → p < m * I → (chunks I c m)[p]? = c[(m - 1 - p / I) * I + p % I]?
  | 0, p, _, hp => by simp at hp
  | m + 1, p, h, hp => by
    rw [Nat.succ_mul] at h hp
    rw [chunks, List.getElem?_append, List.length_take, List.length_drop]
    by_cases hpI : p < I
    · rw [if_pos (by omega), List.getElem?_take_of_lt hpI, List.getElem?_drop, Nat.div_eq_of_lt hpI, Nat.mod_eq_of_lt hpI]
      simp
    · have h1 : (p - I) / I = p / I - 1 := div_less hI (by omega)
      have h2 : (p - I) % I = p % I := (Nat.mod_eq_sub_mod (by omega)).symm
      have h3 : 1 ≤ p / I := (Nat.one_le_div_iff hI).2 (by omega)
      have h4 : p / I ≤ m := Nat.le_of_lt_succ ((Nat.div_lt_iff_lt_mul hI).2 (by rw [Nat.succ_mul]; exact hp))
      rw [if_neg (by omega), show min I (c.length - m * I) = I by omega, chunks_get I hI c m (p - I) (by omega) (by omega), h1, h2, show m - 1 - (p / I - 1) = m + 1 - 1 - p / I by omega]
theorem tn_len (I D : Nat) : ∀ o (c : List S39), o * (D * I) ≤ c.length → (tn I D o c).length = o * (D * I)
  | 0, c, _ => by simp [tn]
  | o + 1, c, h => by
    rw [Nat.succ_mul] at h ⊢
    rw [tn, List.length_append, chunks_len I c D (by omega), tn_len I D o _ (by rw [List.length_drop]; omega)]
    omega
/-- Where the cell at a place of what is turned comes from. -/
def phi (I D p : Nat) : Nat := p / (D * I) * (D * I) + ((D - 1 - p % (D * I) / I) * I + p % (D * I) % I)
theorem tn_get (I D : Nat) (hI : 0 < I) (hD : 0 < D) : ∀ o (c : List S39) p, o * (D * I) ≤ c.length → p < o * (D * I) → (tn I D o c)[p]? = c[phi I D p]?
  | 0, c, p, _, hp => by simp at hp
  | o + 1, c, p, h, hp => by
    have hDI : 0 < D * I := Nat.mul_pos hD hI
    rw [Nat.succ_mul] at h hp
    rw [tn, List.getElem?_append, chunks_len I c D (by omega)]
    by_cases hq : p < D * I
    · rw [if_pos hq, chunks_get I hI c D p (by omega) hq, phi, Nat.div_eq_of_lt hq, Nat.mod_eq_of_lt hq]
      simp
    · have h1 : (p - D * I) / (D * I) = p / (D * I) - 1 := div_less hDI (by omega)
      have h2 : (p - D * I) % (D * I) = p % (D * I) := (Nat.mod_eq_sub_mod (by omega)).symm
      have h3 : 1 ≤ p / (D * I) := (Nat.one_le_div_iff hDI).2 (by omega)
      rw [if_neg hq, tn_get I D hI hD o _ _ (by rw [List.length_drop]; omega) (by omega), List.getElem?_drop]
      congr 1
      unfold phi
      rw [h1, h2, Nat.sub_mul, Nat.one_mul]
      have : D * I ≤ p / (D * I) * (D * I) := Nat.le_mul_of_pos_left _ h3
      omega
theorem phi_parts (I D q j r : Nat) (hI : r < I) (hD : j < D) : phi I D (q * (D * I) + (j * I + r)) = q * (D * I) + ((D - 1 - j) * I + r) := by
  have h1 : j * I + r < D * I := by
    have : (j + 1) * I ≤ D * I := Nat.mul_le_mul_right _ hD
    rw [Nat.succ_mul] at this
    omega
  unfold phi
  rw [show q * (D * I) + (j * I + r) = (j * I + r) + D * I * q by rw [Nat.mul_comm q, Nat.add_comm], Nat.add_mul_div_left _ _ (by omega), Nat.div_eq_of_lt h1, Nat.add_mul_mod_self_left, Nat.mod_eq_of_lt h1, show j * I + r = r + I * j by rw [Nat.mul_comm j, Nat.add_comm], Nat.add_mul_div_left _ _ (by omega), Nat.div_eq_of_lt hI, Nat.add_mul_mod_self_left, Nat.mod_eq_of_lt hI]
  simp
theorem phi_lt (I D o p : Nat) (hI : 0 < I) (hD : 0 < D) (hp : p < o * (D * I)) : phi I D p < o * (D * I) ∧ phi I D (phi I D p) = p := by
  have hDI : 0 < D * I := Nat.mul_pos hD hI
  have e1 : p = p / (D * I) * (D * I) + (p % (D * I) / I * I + p % (D * I) % I) := by
    rw [Nat.div_add_mod', Nat.div_add_mod']
  have hq : p / (D * I) < o := (Nat.div_lt_iff_lt_mul hDI).2 hp
  have hj : p % (D * I) / I < D := (Nat.div_lt_iff_lt_mul hI).2 (Nat.mod_lt _ hDI)
  have hr : p % (D * I) % I < I := Nat.mod_lt _ hI
  generalize p / (D * I) = q at *
  generalize p % (D * I) / I = j at *
  generalize p % (D * I) % I = r at *
  subst e1
  rw [phi_parts I D q j r hr hj, phi_parts I D q (D - 1 - j) r hr (by omega), show D - 1 - (D - 1 - j) = j by omega]
  refine ⟨?_, rfl⟩
  have h2 : (q + 1) * (D * I) ≤ o * (D * I) := Nat.mul_le_mul_right _ hq
  have h3 : (D - 1 - j + 1) * I ≤ D * I := Nat.mul_le_mul_right _ (by omega)
  rw [Nat.succ_mul] at h2 h3
  omega
theorem tn_twice (I D o : Nat) (hI : 0 < I) (hD : 0 < D) (c : List S39) (h : c.length = o * (D * I)) : tn I D o (tn I D o c) = c := by
  have hl := tn_len I D o c (by omega)
  apply List.ext_getElem?
  intro p
  rcases Nat.lt_or_ge p (o * (D * I)) with hp | hp
  · obtain ⟨h1, h2⟩ := phi_lt I D o p hI hD hp
    rw [tn_get I D hI hD o _ p (by omega) hp, tn_get I D hI hD o _ _ (by omega) h1, h2]
  · rw [List.getElem?_eq_none (by rw [tn_len I D o _ (by omega)]; exact hp), List.getElem?_eq_none (by omega)]
theorem tn_mem (I D o : Nat) (hI : 0 < I) (hD : 0 < D) (c : List S39) (h : c.length = o * (D * I)) : ∀ x ∈ tn I D o c, x ∈ c := by
  intro x hx
  obtain ⟨p, hp⟩ := List.mem_iff_getElem?.1 hx
  have hlt : p < o * (D * I) := by
    rcases Nat.lt_or_ge p (o * (D * I)) with h1 | h1
    · exact h1
    · rw [List.getElem?_eq_none (by rw [tn_len I D o _ (by omega)]; exact h1)] at hp; cases hp
  rw [tn_get I D hI hD o c p (by omega) hlt] at hp
  exact List.mem_of_getElem? hp
theorem tu_l2 (I D : Nat) (hI : 0 < I) (s : List Int) (c : List S39) (at' : Nat) (R : List Int × List S39) (hc : c.length ≤ 16384) (hD : D * I ≤ 16384) : ∀ (m : Nat) (acc : List S39), m ≤ D → at' + m * I ≤ c.length → acc.length + m * I ≤ 40000 →
    (∃ K, ∀ k, K ≤ k → layout_turned.l1 k (I : Int) (D : Int) (acc ++ chunks I (c.drop at') m) ((at' + D * I : Nat) : Int) s c = some R) →
    ∃ K, ∀ k, K ≤ k → layout_turned.l2 k (I : Int) (D : Int) acc (at' : Int) ((m : Int) - 1) s c = some R
  | 0, acc, hm, h, ha, ⟨K, hK⟩ => by
    refine ⟨K + 1, fun k hk => ?_⟩
    obtain ⟨k, rfl, hk2⟩ := succ_of hk
    simp only [layout_turned.l2]
    have hw : wrap64 ((at' : Int) + wrap64 ((D : Int) * (I : Int))) = ((at' + D * I : Nat) : Int) := by
      rw [← Int.natCast_mul, wrap_in (x := ((D * I : Nat) : Int)) (by omega) (by omega), wrap_in (by omega) (by omega)]
      simp
    rw [if_neg (by omega), hw]
    simpa [chunks] using hK k hk2
  | m + 1, acc, hm, h, ha, H => by
    rw [Nat.succ_mul] at h ha
    have hmI : m * I ≤ D * I := Nat.mul_le_mul_right _ (by omega)
    have hm1 : ((m + 1 : Nat) : Int) - 1 = (m : Int) := by omega
    have e1 : wrap64 ((at' : Int) + wrap64 ((m : Int) * (I : Int))) = ((at' + m * I : Nat) : Int) := by
      rw [← Int.natCast_mul, wrap_in (x := ((m * I : Nat) : Int)) (by omega) (by omega), wrap_in (by omega) (by omega)]
      simp
    have hD2 : D ≤ 16384 := Nat.le_trans (Nat.le_mul_of_pos_right D hI) hD
    have e2 : wrap64 ((at' : Int) + wrap64 (wrap64 ((m : Int) + 1) * (I : Int))) = ((at' + m * I + I : Nat) : Int) := by
      rw [wrap_in (x := (m : Int) + 1) (by omega) (by omega), Int.add_mul, Int.one_mul, ← Int.natCast_mul, wrap_in (x := ((m * I : Nat) : Int) + (I : Int)) (by omega) (by omega), wrap_in (by omega) (by omega)]
      simp; omega
    obtain ⟨K, hK⟩ := tu_l2 I D hI s c at' R hc hD m (acc ++ ((c.drop at').drop (m * I)).take I) (by omega) (by omega) (by rw [List.length_append, List.length_take]; omega) (by
      obtain ⟨K, hK⟩ := H
      exact ⟨K, fun k hk => by rw [List.append_assoc]; exact hK k hk⟩)
    refine ⟨K + 1, fun k hk => ?_⟩
    obtain ⟨k, rfl, hk2⟩ := succ_of hk
    simp only [layout_turned.l2]
    rw [hm1, if_pos (by omega), e1, e2, if_pos (by omega), if_pos (by omega), if_pos (by omega)]
    simp only [Option.bind_some, Int.toNat_natCast]
    have hy : (c.take (at' + m * I + I)).drop (at' + m * I) = ((c.drop at').drop (m * I)).take I := by
      rw [List.drop_take, List.drop_drop, show at' + m * I + I - (at' + m * I) = I by omega]
    rw [hy, if_pos (by rw [List.length_take]; omega)]
    rw [wrap_in (by omega) (by omega)]
    exact hK k hk2
theorem tu_l1 (I D : Nat) (hI : 0 < I) (hD0 : 0 < D) (s : List Int) (c : List S39) (hc : c.length ≤ 16384) (hD : D * I ≤ 16384) : ∀ (o at' : Nat) (acc : List S39), c.length = at' + o * (D * I) → acc.length + o * (D * I) ≤ 20000 →
    ∃ K, ∀ k, K ≤ k → layout_turned.l1 k (I : Int) (D : Int) acc (at' : Int) s c = some (s, acc ++ tn I D o (c.drop at'))
  | 0, at', acc, h, ha => by
    refine ⟨1, fun k hk => ?_⟩
    obtain ⟨k, rfl, _⟩ := succ_of (K := 0) hk
    simp only [layout_turned.l1]
    rw [if_neg (by omega)]
    simp [tn]
  | o + 1, at', acc, h, ha => by
    have hDI : 0 < D * I := Nat.mul_pos hD0 hI
    rw [Nat.succ_mul] at h ha
    have hD1 : D ≤ D * I := Nat.le_mul_of_pos_right D hI
    obtain ⟨K1, h1⟩ := tu_l1 I D hI hD0 s c hc hD o (at' + D * I) (acc ++ chunks I (c.drop at') D) (by omega) (by rw [List.length_append, chunks_len I _ D (by rw [List.length_drop]; omega)]; omega)
    obtain ⟨K2, h2⟩ := tu_l2 I D hI s c at' (s, acc ++ tn I D (o + 1) (c.drop at')) hc hD D acc (Nat.le_refl _) (by omega) (by omega) ⟨K1, fun k hk => by rw [h1 k hk, tn, List.append_assoc, List.drop_drop]⟩
    refine ⟨K2 + 1, fun k hk => ?_⟩
    obtain ⟨k, rfl, hk2⟩ := succ_of hk
    simp only [layout_turned.l1]
    rw [if_pos (by omega), wrap_in (by omega) (by omega)]
    exact h2 k hk2
def wprod : Int → List Int → Int
  | n, [] => n
  | n, d :: r => wprod (wrap64 (n * d)) r
theorem prodS_append (a b : List Int) : prodS (a ++ b) = prodS a * prodS b := by
  induction a with
  | nil => simp [prodS]
  | cons x a ih => rw [List.cons_append, prodS, prodS, ih, Int.mul_assoc]
theorem wprod_eq : ∀ (r : List Int) (n : Int), (∀ d ∈ r, 1 ≤ d) → 1 ≤ n → n * prodS r ≤ 16384 → wprod n r = n * prodS r
  | [], n, _, _, _ => by simp [wprod, prodS]
  | d :: r, n, h, hn, hb => by
    have hd := h d List.mem_cons_self
    have hr := prodS_pos (s := r) (fun x hx => h x (List.mem_cons_of_mem _ hx))
    rw [prodS, ← Int.mul_assoc] at hb ⊢
    have h1 : 1 ≤ n * d := by have := Int.mul_le_mul hn hd (by omega) (by omega); omega
    have h2 : n * d ≤ n * d * prodS r := le_mulR (by omega) hr
    rw [wprod, wrap_in (by omega) (by omega)]
    exact wprod_eq r (n * d) (fun x hx => h x (List.mem_cons_of_mem _ hx)) h1 hb
theorem tu_l0 (s : List Int) (c : List S39) (ax : Nat) (d : Int) (hd : rd s (ax : Int) = d) (hax : ax < s.length) (R : List Int × List S39) : ∀ (rest done : List Int) (n : Int), (done ++ rest).length ≤ 8 →
    (∃ K, ∀ k, K ≤ k → layout_turned.l1 k (wprod n rest) d [] 0 s c = some R) →
    ∃ K, ∀ k, K ≤ k → layout_turned.l0 k (ax : Int) n (done ++ rest) ((done ++ rest).length : Int) (done.length : Int) s c = some R
  | [], done, n, hl, ⟨K, hK⟩ => by
    refine ⟨K + 1, fun k hk => ?_⟩
    obtain ⟨k, rfl, hk2⟩ := succ_of hk
    simp only [layout_turned.l0]
    rw [if_neg (by simp), if_pos (by omega), if_pos (by omega), hd]
    exact hK k hk2
  | x :: rest, done, n, hl, H => by
    have hs : done ++ x :: rest = (done ++ [x]) ++ rest := by simp
    obtain ⟨K, hK⟩ := tu_l0 s c ax d hd hax R rest (done ++ [x]) (wrap64 (n * x)) (by rw [← hs]; exact hl) H
    rw [List.length_append, List.length_cons] at hl
    refine ⟨K + 1, fun k hk => ?_⟩
    obtain ⟨k, rfl, hk2⟩ := succ_of hk
    simp only [layout_turned.l0]
    rw [if_pos (by simp; omega), if_pos (by omega), if_pos (by simp; omega), rd_mid, wrap_next done x (by omega), hs]
    exact hK k hk2
/-- What an axis makes of the cells: ahead of it, along it, behind it. -/
def tnS (p : List Int) (d : Int) (r : List Int) (c : List S39) : List S39 := if c = [] then [] else tn (prodS r).toNat d.toNat (prodS p).toNat c
theorem axis_bd {p : List Int} {d : Int} {r : List Int} {n : Int} (h : ∀ x ∈ p ++ d :: r, 1 ≤ x) (he : n = prodS (p ++ d :: r)) : 0 < (prodS r).toNat ∧ 0 < d.toNat ∧ n = (((prodS p).toNat * (d.toNat * (prodS r).toNat) : Nat) : Int) ∧ 0 < (prodS p).toNat := by
  have h1 := prodS_pos (s := p) (fun x hx => h x (List.mem_append_left _ hx))
  have h2 := prodS_pos (s := r) (fun x hx => h x (List.mem_append_right _ (List.mem_cons_of_mem _ hx)))
  have h3 := h d (List.mem_append_right _ List.mem_cons_self)
  refine ⟨by omega, by omega, ?_, by omega⟩
  rw [he, prodS_append, prodS, Int.natCast_mul, Int.natCast_mul, Int.toNat_of_nonneg (by omega), Int.toNat_of_nonneg (by omega), Int.toNat_of_nonneg (by omega)]
theorem turned_eq {p : List Int} {d : Int} {r : List Int} {c : List S39} (h : (sizeS (p ++ d :: r)).2 = 0) (hc : (sizeS (p ++ d :: r)).1 = (c.length : Int)) :
    ∃ K, ∀ k, K ≤ k → layout_turned.f k (p ++ d :: r) c (p.length : Int) = some (p ++ d :: r, tnS p d r c) := by
  have hlen := sizeS_len h
  have hb := sizeS_bd (p ++ d :: r)
  have hd : rd (p ++ d :: r) (p.length : Int) = d := rd_mid p d r
  have hlen' := hlen
  rw [List.length_append, List.length_cons] at hlen'
  have hH : ∃ K, ∀ k, K ≤ k → layout_turned.l1 k (wprod 1 r) d [] 0 (p ++ d :: r) c = some (p ++ d :: r, tnS p d r c) := by
    by_cases hn : c = []
    · subst hn
      refine ⟨1, fun k hk => ?_⟩
      obtain ⟨k, rfl, _⟩ := succ_of (K := 0) hk
      simp [layout_turned.l1, tnS]
    · have hpos : 0 < (sizeS (p ++ d :: r)).1 := by
        rw [hc]
        have : c.length ≠ 0 := fun h => hn (List.eq_nil_of_length_eq_zero h)
        omega
      obtain ⟨g1, g2, _⟩ := sizeS_ok h hpos
      obtain ⟨i1, i2, i3, i4⟩ := axis_bd g1 g2
      rw [hc] at i3
      have hcl : c.length = (prodS p).toNat * (d.toNat * (prodS r).toNat) := by exact_mod_cast i3
      have hDI : d.toNat * (prodS r).toNat ≤ c.length := by rw [hcl]; exact Nat.le_mul_of_pos_left _ i4
      have hrp := prodS_pos (s := r) (fun x hx => g1 x (List.mem_append_right _ (List.mem_cons_of_mem _ hx)))
      have hI2 : (prodS r).toNat ≤ d.toNat * (prodS r).toNat := Nat.le_mul_of_pos_left _ i2
      have hw : wprod 1 r = prodS r := by rw [wprod_eq r 1 (fun x hx => g1 x (List.mem_append_right _ (List.mem_cons_of_mem _ hx))) (by omega) (by omega)]; omega
      obtain ⟨K, hK⟩ := tu_l1 (prodS r).toNat d.toNat i1 i2 (p ++ d :: r) c (by omega) (by omega) (prodS p).toNat 0 [] (by omega) (by simp; omega)
      refine ⟨K, fun k hk => ?_⟩
      have := hK k hk
      rw [Int.toNat_of_nonneg (by omega), Int.toNat_of_nonneg (by omega)] at this
      rw [hw, tnS, if_neg hn]
      simpa using this
  obtain ⟨K, hK⟩ := tu_l0 (p ++ d :: r) c p.length d hd (by simp) _ r [] 1 (by simp; omega) hH
  refine ⟨K, fun k hk => ?_⟩
  have hK2 := hK k hk
  replace hK := hK2
  unfold layout_turned.f
  clear h hc hb hd hH hK2 hlen
  have hw : wrap64 ((p.length : Int) + 1) = ((p.length + 1 : Nat) : Int) := by rw [wrap_in (by omega) (by omega)]; simp
  rw [if_neg (by rw [List.length_append, List.length_cons]; omega), hw, if_pos (by omega), if_pos (by rw [List.length_append, List.length_cons]; omega)]
  simp only [Option.bind_some, Int.toNat_natCast]
  rw [show (p ++ d :: r).drop (p.length + 1) = r by rw [List.drop_append]; simp]
  exact hK
theorem tnS_len {p : List Int} {d : Int} {r : List Int} {c : List S39} (h : (sizeS (p ++ d :: r)).2 = 0) (hc : (sizeS (p ++ d :: r)).1 = (c.length : Int)) :
    (tnS p d r c).length = c.length ∧ (∀ x ∈ tnS p d r c, x ∈ c) ∧ tnS p d r (tnS p d r c) = c := by
  by_cases hn : c = []
  · subst hn
    simp [tnS]
  · have hpos : 0 < (sizeS (p ++ d :: r)).1 := by
      rw [hc]
      have : c.length ≠ 0 := fun h => hn (List.eq_nil_of_length_eq_zero h)
      omega
    obtain ⟨g1, g2, _⟩ := sizeS_ok h hpos
    obtain ⟨i1, i2, i3, i4⟩ := axis_bd g1 g2
    rw [hc] at i3
    have hcl : c.length = (prodS p).toNat * (d.toNat * (prodS r).toNat) := by exact_mod_cast i3
    have hl := tn_len (prodS r).toNat d.toNat (prodS p).toNat c (by omega)
    have hne : tn (prodS r).toNat d.toNat (prodS p).toNat c ≠ [] := by
      intro he
      rw [he] at hl
      exact hn (List.eq_nil_of_length_eq_zero (by rw [hcl, ← hl]; rfl))
    refine ⟨?_, ?_, ?_⟩
    · rw [tnS, if_neg hn, hl, hcl]
    · rw [tnS, if_neg hn]; exact tn_mem _ _ _ i1 i2 c hcl
    · rw [tnS, tnS, if_neg hn, if_neg hne]; exact tn_twice _ _ _ i1 i2 c hcl
theorem rv_l0 (n : Nat) : ∀ (mid a b : List Int), mid.length = n → (a ++ mid ++ b).length ≤ 100 →
    ∃ K, ∀ k, K ≤ k → slices_Reverse_int_int.l0 k (a ++ mid ++ b) (a.length : Int) ((a.length : Int) + (mid.length : Int) - 1) = some (a ++ mid.reverse ++ b) := by
  induction n using Nat.strongRecOn with
  | _ n ih =>
    intro mid a b hn hl
    rcases mid with _ | ⟨x, t⟩
    · refine ⟨1, fun k hk => ?_⟩
      obtain ⟨k, rfl, _⟩ := succ_of (K := 0) hk
      simp only [slices_Reverse_int_int.l0]
      rw [if_neg (by simp only [List.length_nil]; omega)]
      simp
    · rcases List.eq_nil_or_concat t with rfl | ⟨m', y, rfl⟩
      · refine ⟨1, fun k hk => ?_⟩
        obtain ⟨k, rfl, _⟩ := succ_of (K := 0) hk
        simp only [slices_Reverse_int_int.l0]
        rw [if_neg (by simp)]
        simp
      · rw [List.concat_eq_append] at hn hl ⊢
        simp only [List.length_cons, List.length_append, List.length_nil] at hn hl
        have e1 : a ++ x :: (m' ++ [y]) ++ b = a ++ x :: (m' ++ y :: b) := by simp
        have e2 : a ++ x :: (m' ++ [y]) ++ b = (a ++ x :: m') ++ y :: b := by simp
        have hj : (a.length : Int) + ((x :: (m' ++ [y])).length : Int) - 1 = ((a ++ x :: m').length : Int) := by simp; omega
        obtain ⟨K, hK⟩ := ih m'.length (by omega) m' (a ++ [y]) (x :: b) rfl (by simp; omega)
        refine ⟨K + 1, fun k hk => ?_⟩
        obtain ⟨k, rfl, hk2⟩ := succ_of hk
        have r1 : rd (a ++ x :: (m' ++ [y]) ++ b) (a.length : Int) = x := by rw [e1, rd_mid]
        have r2 : rd (a ++ x :: (m' ++ [y]) ++ b) ((a ++ x :: m').length : Int) = y := by rw [e2, rd_mid]
        have s1 : ((a ++ x :: (m' ++ [y]) ++ b).set a.length y).set (a ++ x :: m').length x = (a ++ [y]) ++ m' ++ (x :: b) := by
          rw [e1, set_mid, show a ++ y :: (m' ++ y :: b) = (a ++ y :: m') ++ y :: b by simp, show (a ++ x :: m').length = (a ++ y :: m').length by simp, set_mid]
          simp
        simp only [slices_Reverse_int_int.l0]
        rw [hj, if_pos (by simp; omega), if_pos (by omega), if_pos (by simp; omega), if_pos (by omega), if_pos (by simp; omega), r1, r2]
        simp only [Int.toNat_natCast]
        rw [s1, wrap_in (by omega) (by omega), wrap_in (by simp; omega) (by simp; omega)]
        have := hK k hk2
        rw [show ((a ++ [y]).length : Int) = (a.length : Int) + 1 by simp, show (a.length : Int) + 1 + (m'.length : Int) - 1 = ((a ++ x :: m').length : Int) - 1 by simp; omega] at this
        rw [this]
        simp
theorem rev_eq (l : List Int) (hl : l.length ≤ 100) : ∃ K, ∀ k, K ≤ k → slices_Reverse_int_int.f k l = some l.reverse := by
  obtain ⟨K, hK⟩ := rv_l0 l.length l [] [] rfl (by simpa using hl)
  refine ⟨K, fun k hk => ?_⟩
  unfold slices_Reverse_int_int.f
  rw [wrap_in (by omega) (by omega)]
  simpa using hK k hk
def dr : List Int → Int → List Int
  | [], _ => []
  | d :: s, n => n % d :: dr s (n / d)
def inc : List Int → List Int → List Int
  | a :: r, d :: s => if a + 1 < d then (a + 1) :: r else 0 :: inc r s
  | r, _ => r
theorem dr_len : ∀ (s : List Int) (n : Int), (dr s n).length = s.length
  | [], _ => rfl
  | d :: s, n => by rw [dr, List.length_cons, dr_len s, List.length_cons]
theorem dr_in : ∀ {s : List Int} {n : Int}, (∀ d ∈ s, 1 ≤ d) → within (dr s n) s
  | [], n, _ => by rw [dr, within]; trivial
  | d :: s, n, h => by
    have hd := h d List.mem_cons_self
    rw [dr, within]
    exact ⟨⟨Int.emod_nonneg _ (by omega), Int.emod_lt_of_pos _ (by omega)⟩, dr_in (fun x hx => h x (List.mem_cons_of_mem _ hx))⟩
theorem dr_inc : ∀ {s : List Int} {n : Int}, (∀ d ∈ s, 1 ≤ d) → 0 ≤ n → inc (dr s n) s = dr s (n + 1)
  | [], n, _, _ => by simp [dr, inc]
  | d :: s, n, h, h0 => by
    have hd := h d List.mem_cons_self
    have e1 := Int.emod_add_mul_ediv n d
    have e2 := Int.emod_add_mul_ediv (n + 1) d
    have b1 := Int.emod_nonneg n (show d ≠ 0 by omega)
    have b2 := Int.emod_lt_of_pos n (show 0 < d by omega)
    rw [dr, dr, inc]
    by_cases hc : n % d + 1 < d
    · have hq : (n + 1) / d = n / d := by
        rw [← e1, show n % d + d * (n / d) + 1 = (n % d + 1) + d * (n / d) by omega, Int.add_mul_ediv_left _ _ (by omega), Int.ediv_eq_zero_of_lt (by omega) hc, Int.zero_add, e1]
      have hm : (n + 1) % d = n % d + 1 := by
        rw [← e1, show n % d + d * (n / d) + 1 = (n % d + 1) + d * (n / d) by omega, Int.add_mul_emod_self_left, Int.emod_eq_of_lt (by omega) hc, e1]
      rw [if_pos hc, hq, hm]
    · have hx : n % d + 1 = d := by omega
      have hn : n + 1 = d * (n / d + 1) := by rw [Int.mul_add, Int.mul_one]; omega
      have hm : (n + 1) % d = 0 := by rw [hn]; exact Int.mul_emod_right _ _
      have hq : (n + 1) / d = n / d + 1 := by rw [hn]; exact Int.mul_ediv_cancel_left _ (by omega)
      rw [if_neg hc, hm, hq, dr_inc (fun x hx => h x (List.mem_cons_of_mem _ hx)) (Int.ediv_nonneg h0 (by omega))]
theorem dr_zero : ∀ (s : List Int), dr s 0 = List.replicate s.length 0
  | [] => rfl
  | d :: s => by rw [dr, Int.zero_emod, Int.zero_ediv, dr_zero s, List.length_cons, List.replicate_succ]
theorem dr_dg : ∀ (s : List Int) (n : Int), dr s n = (dg s.reverse n).1.reverse
  | [], n => rfl
  | d :: s, n => by rw [dr, List.reverse_cons, dg_snoc, dr_dg s]; simp
theorem prodS_rev (s : List Int) : prodS s.reverse = prodS s := by
  induction s with
  | nil => rfl
  | cons d s ih => rw [List.reverse_cons, prodS_app, ih, prodS, prodS, prodS, Int.mul_one, Int.mul_comm]
where
  prodS_app (a b : List Int) : prodS (a ++ b) = prodS a * prodS b := by
    induction a with
    | nil => simp [prodS]
    | cons x a ih => rw [List.cons_append, prodS, prodS, ih, Int.mul_assoc]
theorem hv_snoc : ∀ (l s : List Int) (a d : Int), l.length = s.length → hv (l ++ [a]) (s ++ [d]) = hv l s * d + a
  | [], [], a, d, _ => by simp [hv, prodS]
  | x :: l, e :: s, a, d, h => by
    simp only [List.length_cons] at h
    rw [List.cons_append, List.cons_append, hv, hv, hv_snoc l s a d (by omega), prodS_rev.prodS_app]
    simp only [prodS, Int.mul_one, Int.add_mul]
    rw [show x * prodS s * d = x * (prodS s * d) from Int.mul_assoc _ _ _]
    omega
  | [], _ :: _, _, _, h => by simp at h
  | _ :: _, [], _, _, h => by simp at h
theorem dr_hv : ∀ {l s : List Int}, within l s → dr s (hv l.reverse s.reverse) = l
  | [], [], _ => rfl
  | a :: l, d :: s, h => by
    have hh := h
    rw [within] at h
    have hp := within_pos hh d List.mem_cons_self
    rw [List.reverse_cons, List.reverse_cons, hv_snoc _ _ _ _ (by simp [within_len h.2]), dr, show hv l.reverse s.reverse * d + a = a + d * hv l.reverse s.reverse by rw [Int.mul_comm]; omega, Int.add_mul_emod_self_left, Int.emod_eq_of_lt h.1.1 h.1.2, Int.add_mul_ediv_left _ _ (by omega), Int.ediv_eq_zero_of_lt h.1.1 h.1.2, Int.zero_add, dr_hv h.2]
where
  snoc : ∀ {l s : List Int} {a d : Int}, within l s → (0 ≤ a ∧ a < d) → within (l ++ [a]) (s ++ [d])
    | [], [], a, d, _, h => by simp [within, h]
    | x :: l, e :: s, a, d, h, h2 => by
      rw [within] at h
      rw [List.cons_append, List.cons_append, within]
      exact ⟨h.1, snoc h.2 h2⟩
def flC (s : List Int) (c : List S39) : Int → Nat → List S39
  | _, 0 => []
  | i, m + 1 => rd_T39 c (hv (dr s i) s) :: flC s c (i + 1) m
def flS (s : List Int) (c : List S39) : List S39 := flC s c 0 c.length
theorem flC_len (s : List Int) (c : List S39) : ∀ (m : Nat) (i : Int), (flC s c i m).length = m
  | 0, i => rfl
  | m + 1, i => by rw [flC, List.length_cons, flC_len s c m]
theorem flC_get (s : List Int) (c : List S39) : ∀ (m : Nat) (i : Int) (j : Nat), j < m → (flC s c i m)[j]? = some (rd_T39 c (hv (dr s (i + j)) s))
  | m + 1, i, 0, _ => by rw [flC]; simp
  | m + 1, i, j + 1, h => by
    rw [flC, List.getElem?_cons_succ, flC_get s c m (i + 1) j (by omega), show i + 1 + (j : Int) = i + ((j + 1 : Nat) : Int) by omega]
theorem fl_l1 (at' s sr' : List Int) (c acc : List S39) (X i : Int) (R : List Int × List S39) (hs : s.length ≤ 8) (hat : at'.length = s.length) (hacc : acc.length ≤ 16384) : ∀ (sr sd rr rn : List Int) (n : Int), s = sd ++ sr → at'.reverse = rn ++ rr → sd.length = rn.length → within rr sr → 0 ≤ n → (n + 1) * prodS sr ≤ (c.length : Int) → c.length ≤ 16384 →
    (∃ K, ∀ k, K ≤ k → layout_flipped.l2 k at' ((s.length : Int) - 1) X i s c sr' (acc ++ [rd_T39 c (n * prodS sr + hv rr sr)]) = some R) →
    ∃ K, ∀ k, K ≤ k → layout_flipped.l1 k at' n X i (at'.length : Int) (sd.length : Int) s c sr' acc = some R
  | [], sd, rr, rn, n, h1, h2, h3, h4, h5, h6, h7, ⟨K, hK⟩ => by
    have hr : rr = [] := by cases rr with | nil => rfl | cons a b => cases h4
    subst hr
    rw [List.append_nil] at h1
    subst h1
    simp only [prodS, hv, Int.mul_one, Int.add_zero] at h6 hK
    refine ⟨K + 1, fun k hk => ?_⟩
    obtain ⟨k, rfl, hk2⟩ := succ_of hk
    simp only [layout_flipped.l1]
    rw [if_neg (by omega), if_pos h5, if_pos (by omega), if_pos (by omega), etaC, hat, wrap_in (by omega) (by omega)]
    exact hK k hk2
  | d :: sr, sd, rr, rn, n, h1, h2, h3, h4, h5, h6, h7, H => by
    obtain ⟨a, rr, rfl⟩ : ∃ a r, rr = a :: r := by cases rr with | nil => cases h4 | cons a b => exact ⟨a, b, rfl⟩
    rw [within] at h4
    have hlen : rr.length = sr.length := within_len h4.2
    have hsl : s.length = sd.length + 1 + sr.length := by rw [h1]; simp; omega
    have hpos := prodS_pos (within_pos h4.2)
    rw [prodS, ← Int.mul_assoc] at h6
    have hnd : (n * d + a + 1) * prodS sr ≤ (n + 1) * d * prodS sr := Int.mul_le_mul_of_nonneg_right (by rw [Int.add_mul]; omega) (by omega)
    have hn0 : 0 ≤ n * d := Int.mul_nonneg h5 (by omega)
    have hb : n * d + a + 1 ≤ (n * d + a + 1) * prodS sr := le_mulR (by omega) hpos
    have hndd : n * d ≤ 16384 := by omega
    obtain ⟨K, hK⟩ := fl_l1 at' s sr' c acc X i R hs hat hacc sr (sd ++ [d]) rr (rn ++ [a]) (n * d + a) (by rw [h1]; simp) (by rw [h2]; simp) (by simp [h3]) h4.2 (by omega) (by omega) h7 (by
      rw [prodS, hv] at H
      rw [Int.add_mul, Int.mul_assoc, Int.add_assoc]
      exact H)
    have hra : rd at' (wrap64 (wrap64 ((at'.length : Int) - 1) - (sd.length : Int))) = a := by
      have e : at' = rr.reverse ++ a :: rn.reverse := by
        have := congrArg List.reverse h2
        rw [List.reverse_reverse] at this
        rw [this]; simp
      rw [wrap_in (x := (at'.length : Int) - 1) (by omega) (by omega), wrap_in (by omega) (by omega), show (at'.length : Int) - 1 - (sd.length : Int) = (rr.reverse.length : Int) by simp; omega]
      conv => lhs; rw [e]
      exact rd_mid _ _ _
    have hrs : rd s (sd.length : Int) = d := by rw [h1, rd_mid]
    refine ⟨K + 1, fun k hk => ?_⟩
    obtain ⟨k, rfl, hk2⟩ := succ_of hk
    simp only [layout_flipped.l1]
    rw [hra, hrs, if_pos (by omega), if_pos (by omega), if_pos (by omega)]
    rw [wrap_in (x := (at'.length : Int) - 1) (by omega) (by omega), wrap_in (x := (at'.length : Int) - 1 - (sd.length : Int)) (by omega) (by omega), if_pos (by omega), if_pos (by omega)]
    rw [wrap_in (x := n * d) (by omega) (by omega), wrap_in (x := n * d + a) (by omega) (by omega), wrap_next sd d (by omega)]
    exact hK k hk2
theorem fl_l2 (s : List Int) (c acc : List S39) (X i : Int) (R : List Int × List S39) (hs : s.length ≤ 8) (hi : 0 ≤ i ∧ i ≤ 16384) (hsm : ∀ d ∈ s, d ≤ 16384) : ∀ (sr sd rr : List Int), s = sd ++ sr → within rr sr →
    (∃ K, ∀ k, K ≤ k → layout_flipped.l0 k ((inc rr sr).reverse ++ List.replicate sd.length 0) X (i + 1) s c s.reverse acc = some R) →
    ∃ K, ∀ k, K ≤ k → layout_flipped.l2 k (rr.reverse ++ List.replicate sd.length 0) ((sr.length : Int) - 1) X i s c s.reverse acc = some R
  | [], sd, rr, h1, h2, ⟨K, hK⟩ => by
    have hr : rr = [] := by cases rr with | nil => rfl | cons a b => cases h2
    subst hr
    refine ⟨K + 1, fun k hk => ?_⟩
    obtain ⟨k, rfl, hk2⟩ := succ_of hk
    simp only [layout_flipped.l2]
    rw [if_neg (by simp), wrap_in (by omega) (by omega)]
    simpa [inc] using hK k hk2
  | d :: sr, sd, rr, h1, h2, H => by
    obtain ⟨a, rr, rfl⟩ : ∃ a r, rr = a :: r := by cases rr with | nil => cases h2 | cons a b => exact ⟨a, b, rfl⟩
    rw [within] at h2
    have hlen : rr.length = sr.length := within_len h2.2
    have hsl : s.length = sd.length + 1 + sr.length := by rw [h1]; simp; omega
    have hd16 := hsm d (by rw [h1]; simp)
    have e1 : (a :: rr).reverse ++ List.replicate sd.length 0 = rr.reverse ++ a :: List.replicate sd.length 0 := by simp
    have hx : (((d :: sr).length : Nat) : Int) - 1 = (rr.reverse.length : Int) := by simp; omega
    have e2 : s.reverse = sr.reverse ++ d :: sd.reverse := by rw [h1]; simp
    have r1 : rd (rr.reverse ++ a :: List.replicate sd.length 0) (rr.reverse.length : Int) = a := rd_mid _ _ _
    have r2 : rd s.reverse (rr.reverse.length : Int) = d := by rw [e2, show (rr.reverse.length : Int) = (sr.reverse.length : Int) by simp [hlen], rd_mid]
    have r3 : rd (rr.reverse ++ (a + 1) :: List.replicate sd.length 0) (rr.reverse.length : Int) = a + 1 := rd_mid _ _ _
    rw [inc] at H
    by_cases hc : a + 1 < d
    · rw [if_pos hc] at H
      obtain ⟨K, hK⟩ := H
      refine ⟨K + 1, fun k hk => ?_⟩
      obtain ⟨k, rfl, hk2⟩ := succ_of hk
      simp only [layout_flipped.l2]
      rw [hx, e1, r1, if_pos (by omega), if_pos (by omega), if_pos (by simp; omega), wrap_in (x := a + 1) (by omega) (by omega)]
      simp only [Option.bind_some, Int.toNat_natCast]
      rw [set_mid, if_pos (by simp; omega), r3, r2, if_pos hc, wrap_in (by omega) (by omega)]
      have := hK k hk2
      rw [List.reverse_cons, List.append_assoc] at this
      exact this
    · rw [if_neg hc] at H
      have e3 : ∀ L : List Int, (0 :: L).reverse ++ List.replicate sd.length 0 = L.reverse ++ List.replicate (sd ++ [d]).length 0 := by
        intro L
        rw [List.reverse_cons, List.append_assoc, List.length_append, List.length_singleton, List.replicate_succ]; rfl
      rw [e3] at H
      obtain ⟨K, hK⟩ := fl_l2 s c acc X i R hs hi hsm sr (sd ++ [d]) rr (by rw [h1]; simp) h2.2 H
      refine ⟨K + 1, fun k hk => ?_⟩
      obtain ⟨k, rfl, hk2⟩ := succ_of hk
      simp only [layout_flipped.l2]
      rw [hx, e1, r1, if_pos (by omega), if_pos (by omega), if_pos (by simp; omega), wrap_in (x := a + 1) (by omega) (by omega)]
      simp only [Option.bind_some, Int.toNat_natCast]
      rw [set_mid, if_pos (by simp; omega), r3, r2, if_neg hc, set_mid, wrap_in (by simp; omega) (by simp; omega)]
      have := hK k hk2
      rw [List.length_append, List.length_singleton, List.replicate_succ] at this
      rw [show (rr.reverse.length : Int) - 1 = (sr.length : Int) - 1 by simp [hlen]]
      exact this
theorem fl_l0 (s : List Int) (c : List S39) (hp : ∀ d ∈ s, 1 ≤ d) (hs : s.length ≤ 8) (hc : (c.length : Int) = prodS s) (hc2 : c.length ≤ 16384) (hsm : ∀ d ∈ s, d ≤ 16384) : ∀ (m : Nat) (i : Nat) (acc : List S39), i + m = c.length → acc.length = i →
    ∃ K, ∀ k, K ≤ k → layout_flipped.l0 k (dr s (i : Int)).reverse (c.length : Int) (i : Int) s c s.reverse acc = some (s.reverse, acc ++ flC s c (i : Int) m)
  | 0, i, acc, h, ha => by
    refine ⟨1, fun k hk => ?_⟩
    obtain ⟨k, rfl, _⟩ := succ_of (K := 0) hk
    simp only [layout_flipped.l0]
    rw [if_neg (by omega)]
    simp [flC]
  | m + 1, i, acc, h, ha => by
    have hw := dr_in (n := (i : Int)) hp
    obtain ⟨K, hK⟩ := fl_l0 s c hp hs hc hc2 hsm m (i + 1) (acc ++ [rd_T39 c (hv (dr s (i : Int)) s)]) (by omega) (by simp [ha])
    obtain ⟨K2, h2⟩ := fl_l2 s c (acc ++ [rd_T39 c (hv (dr s (i : Int)) s)]) (c.length : Int) (i : Int) (s.reverse, acc ++ flC s c (i : Int) (m + 1)) hs ⟨by omega, by omega⟩ hsm s [] (dr s (i : Int)) rfl hw ⟨K, fun k hk => by
      rw [dr_inc hp (by omega)]
      have := hK k hk
      rw [List.append_assoc, List.singleton_append] at this
      rw [flC, List.length_nil, List.replicate_zero, List.append_nil]
      rw [show ((i + 1 : Nat) : Int) = (i : Int) + 1 by omega] at this
      exact this⟩
    obtain ⟨K3, h3⟩ := fl_l1 (dr s (i : Int)).reverse s s.reverse c acc (c.length : Int) (i : Int) (s.reverse, acc ++ flC s c (i : Int) (m + 1)) hs (by simp [dr_len]) (by omega) s [] (dr s (i : Int)) [] 0 rfl (by simp) rfl hw (by omega) (by omega) hc2 ⟨K2, fun k hk => by
      have := h2 k hk
      rw [List.length_nil, List.replicate_zero, List.append_nil] at this
      rw [Int.zero_mul, Int.zero_add]
      exact this⟩
    refine ⟨K3 + 1, fun k hk => ?_⟩
    obtain ⟨k, rfl, hk2⟩ := succ_of hk
    simp only [layout_flipped.l0]
    rw [if_pos (by omega)]
    exact h3 k hk2
theorem small_dims {s : List Int} (h : s.any (16384 < ·) = false) : ∀ d ∈ s, d ≤ 16384 := by
  intro d hd
  rw [List.any_eq_false] at h
  have := h d hd
  simpa using this
theorem flipped_eq {s : List Int} {c : List S39} (h : (sizeS s).2 = 0) (hc : (sizeS s).1 = (c.length : Int)) (hsm : s.any (16384 < ·) = false) :
    ∃ K, ∀ k, K ≤ k → layout_flipped.f k s c = some (s.reverse, flS s c) := by
  have hlen := sizeS_len h
  have hb := sizeS_bd s
  obtain ⟨K1, h1⟩ := rev_eq s (by omega)
  have hH : ∃ K, ∀ k, K ≤ k → layout_flipped.l0 k (List.replicate s.length 0) (c.length : Int) 0 s c s.reverse [] = some (s.reverse, flS s c) := by
    by_cases hn : c = []
    · subst hn
      refine ⟨1, fun k hk => ?_⟩
      obtain ⟨k, rfl, _⟩ := succ_of (K := 0) hk
      simp [layout_flipped.l0, flS, flC]
    · have hpos : 0 < (sizeS s).1 := by
        rw [hc]
        have : c.length ≠ 0 := fun h => hn (List.eq_nil_of_length_eq_zero h)
        omega
      obtain ⟨g1, g2, _⟩ := sizeS_ok h hpos
      obtain ⟨K, hK⟩ := fl_l0 s c g1 hlen (by omega) (by omega) (small_dims hsm) c.length 0 [] (by omega) rfl
      refine ⟨K, fun k hk => ?_⟩
      have := hK k hk
      rw [show ((0 : Nat) : Int) = 0 from rfl, dr_zero, List.reverse_replicate] at this
      rw [this]
      rfl
  obtain ⟨K2, h2⟩ := hH
  refine ⟨K1 + K2, fun k hk => ?_⟩
  unfold layout_flipped.f slices_Clone_int_int.f
  rw [if_pos (by omega)]
  simp only [Option.bind_some]
  rw [h1 k (by omega)]
  simp only [Option.bind_some, Int.toNat_natCast]
  rw [if_pos (by omega), if_pos (by omega)]
  exact h2 k (by omega)
theorem rdC_get {c : List S39} {i : Int} (h0 : 0 ≤ i) (h1 : i < c.length) : c[i.toNat]? = some (rd_T39 c i) := by
  unfold rd_T39
  rw [List.getD_eq_getElem?_getD, List.getElem?_eq_getElem (by omega)]
  rfl
theorem flS_len {s : List Int} {c : List S39} (h : (sizeS s).2 = 0) (hc : (sizeS s).1 = (c.length : Int)) :
    (flS s c).length = c.length ∧ (∀ x ∈ flS s c, x ∈ c) ∧ flS s.reverse (flS s c) = c := by
  have hl : (flS s c).length = c.length := flC_len s c _ _
  by_cases hn : c = []
  · subst hn
    simp [flS, flC]
  · have hpos : 0 < (sizeS s).1 := by
      rw [hc]
      have : c.length ≠ 0 := fun h => hn (List.eq_nil_of_length_eq_zero h)
      omega
    obtain ⟨g1, g2, _⟩ := sizeS_ok h hpos
    have hP : prodS s = (c.length : Int) := by omega
    have g1r : ∀ d ∈ s.reverse, 1 ≤ d := fun d hd => g1 d (List.mem_reverse.1 hd)
    have hget : ∀ j : Nat, j < c.length → (flS s c)[j]? = some (rd_T39 c (hv (dr s (j : Int)) s)) := by
      intro j hj
      have := flC_get s c c.length 0 j hj
      rw [Int.zero_add] at this
      exact this
    have hin : ∀ (n : Int), 0 ≤ hv (dr s n) s ∧ hv (dr s n) s < (c.length : Int) := fun n => by rw [← hP]; exact (hv_of (dr_in g1)).1
    refine ⟨hl, ?_, ?_⟩
    · intro x hx
      obtain ⟨j, hj⟩ := List.mem_iff_getElem?.1 hx
      have hjl : j < c.length := by
        rcases Nat.lt_or_ge j c.length with h | h
        · exact h
        · rw [List.getElem?_eq_none (by omega)] at hj; cases hj
      rw [hget j hjl] at hj
      injection hj with hj
      subst hj
      exact rdC_mem (hin _).1 (hin _).2
    · apply List.ext_getElem?
      intro j
      rcases Nat.lt_or_ge j c.length with hj | hj
      · have e1 := flC_get s.reverse (flS s c) (flS s c).length 0 j (by omega)
        rw [Int.zero_add] at e1
        have hv1 : 0 ≤ hv (dr s.reverse (j : Int)) s.reverse ∧ hv (dr s.reverse (j : Int)) s.reverse < (c.length : Int) := by
          rw [← hP, ← prodS_rev]; exact (hv_of (dr_in g1r)).1
        have hdr : dr s.reverse (j : Int) = (rf s (j : Int)).reverse := by rw [dr_dg, List.reverse_reverse, dg_low s _ g1 (by omega) (by omega)]
        obtain ⟨w1, w2⟩ := rf_of (n := (j : Int)) g1 (by omega) (by omega)
        generalize hvv : hv (dr s.reverse (j : Int)) s.reverse = v at *
        have e2 := hget v.toNat (by omega)
        rw [Int.toNat_of_nonneg hv1.1] at e2
        have e3 : hv (dr s v) s = (j : Int) := by rw [← hvv, hdr, dr_hv w1, w2]
        have e4 := rdC_get (c := flS s c) hv1.1 (by omega)
        rw [e2, e3] at e4
        injection e4 with e4
        unfold flS at e1 ⊢
        unfold flS at e4
        rw [e1, ← e4]
        have := rdC_get (c := c) (i := (j : Int)) (by omega) (by omega)
        simpa using this.symm
      · rw [List.getElem?_eq_none (by unfold flS; rw [flC_len, flC_len]; exact hj), List.getElem?_eq_none hj]
end Go.Proofs.Ytiegcghapchimaa.Pure
