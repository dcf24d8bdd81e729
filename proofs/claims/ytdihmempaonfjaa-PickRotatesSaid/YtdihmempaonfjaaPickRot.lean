/- An array rotated along an axis: its blocks rotated, each for itself; twice is once, by both together. -/
import Derived.Test.YtdihmempaonfjaaLay0
import Derived.Test.YtdihmempaonfjaaArr6
import Derived.Test.YtdihmempaonfjaaPx6
namespace Go.Proofs.Ytdihmempaonfjaa.Pure
open Go.RowKit Go.Proofs.Ytdihmempaonfjaa.P Go.Proofs.Ytdihmempaonfjaa.Nest Go.Proofs.YtdihmempaonfjaaW.PrintWords Go.Proofs.YtdihmempaonfjaaW.PrintLast Go.Proofs.YtdihmempaonfjaaW.PrintMore
set_option linter.unusedVariables false
set_option linter.unusedSimpArgs false
theorem take_drop_app {α : Type} (l : List α) (a b : Nat) (h : a ≤ b) : l.take a ++ (l.take b).drop a = l.take b := by
  have h2 := List.take_append_drop a (l.take b)
  rw [List.take_take, Nat.min_eq_left h] at h2
  exact h2
def wprod : Int → List Int → Int
  | n, [] => n
  | n, d :: r => wprod (wrap64 (n * d)) r
theorem prodS_append (a b : List Int) : prodS (a ++ b) = prodS a * prodS b := by
  induction a with
  | nil => simp [prodS]
  | cons x a ih => rw [List.cons_append, prodS, prodS, ih, Int.mul_assoc]
theorem wprod_eq : ∀ (r : List Int) (n : Int), (∀ d ∈ r, 1 ≤ d) → 1 ≤ n → n * prodS r ≤ 16384 → wprod n r = n * prodS r
  | [], n, _, _, _ => by simp [wprod, prodS]
  | d :: r, n, h, hn, hb => by
    have hd := h d List.mem_cons_self
    have hr := prodS_pos (s := r) (fun x hx => h x (List.mem_cons_of_mem _ hx))
    rw [prodS, ← Int.mul_assoc] at hb ⊢
    have h1 : 1 ≤ n * d := by have := Int.mul_le_mul hn hd (by omega) (by omega); omega
    have h2 : n * d ≤ n * d * prodS r := le_mulR (by omega) hr
    rw [wprod, wrap_in (by omega) (by omega)]
    exact wprod_eq r (n * d) (fun x hx => h x (List.mem_cons_of_mem _ hx)) h1 hb
theorem axis_bd {p : List Int} {d : Int} {r : List Int} {n : Int} (h : ∀ x ∈ p ++ d :: r, 1 ≤ x) (he : n = prodS (p ++ d :: r)) : 0 < (prodS r).toNat ∧ 0 < d.toNat ∧ n = (((prodS p).toNat * (d.toNat * (prodS r).toNat) : Nat) : Int) ∧ 0 < (prodS p).toNat := by
  have h1 := prodS_pos (s := p) (fun x hx => h x (List.mem_append_left _ hx))
  have h2 := prodS_pos (s := r) (fun x hx => h x (List.mem_append_right _ (List.mem_cons_of_mem _ hx)))
  have h3 := h d (List.mem_append_right _ List.mem_cons_self)
  refine ⟨by omega, by omega, ?_, by omega⟩
  rw [he, prodS_append, prodS, Int.natCast_mul, Int.natCast_mul, Int.toNat_of_nonneg (by omega), Int.toNat_of_nonneg (by omega), Int.toNat_of_nonneg (by omega)]
section
variable {α : Type}
def rot1 (r : Nat) (x : List α) : List α := x.drop r ++ x.take r
def blk (B : Nat) (l : List α) (b : Nat) : List α := (l.take (b * B + B)).drop (b * B)
def rotP (B r : Nat) (l : List α) : Nat → List α
  | 0 => []
  | b + 1 => (rotP B r l b ++ (blk B l b).drop r) ++ (blk B l b).take r
theorem rot1_app (x y : List α) : rot1 x.length (x ++ y) = y ++ x := by
  unfold rot1
  rw [List.drop_left, List.take_left]
theorem rot1_rot1 (x : List α) {r s : Nat} (hr : r ≤ x.length) (hs : s ≤ x.length) : rot1 s (rot1 r x) = rot1 (if r + s < x.length then r + s else r + s - x.length) x := by
  have e := List.take_append_drop r x
  have l1 : (x.take r).length = r := by rw [List.length_take]; omega
  have l2 : (x.drop r).length = x.length - r := List.length_drop
  by_cases h : r + s < x.length
  · rw [if_pos h]
    have e2 := List.take_append_drop s (x.drop r)
    have l3 : ((x.drop r).take s).length = s := by rw [List.length_take]; omega
    have a1 : rot1 r x = (x.drop r).take s ++ ((x.drop r).drop s ++ x.take r) := by rw [← List.append_assoc, e2]; rfl
    have a2 : x = (x.take r ++ (x.drop r).take s) ++ (x.drop r).drop s := by rw [List.append_assoc, e2, e]
    have a3 := rot1_app ((x.drop r).take s) ((x.drop r).drop s ++ x.take r)
    rw [l3, ← a1] at a3
    have a4 := rot1_app (x.take r ++ (x.drop r).take s) ((x.drop r).drop s)
    rw [List.length_append, l1, l3, ← a2] at a4
    rw [a3, a4, List.append_assoc]
  · rw [if_neg h]
    have ht : r + s - x.length ≤ r := by omega
    have e2 := List.take_append_drop (r + s - x.length) (x.take r)
    have l3 : ((x.take r).take (r + s - x.length)).length = r + s - x.length := by rw [List.length_take]; omega
    have a1 : rot1 r x = (x.drop r ++ (x.take r).take (r + s - x.length)) ++ (x.take r).drop (r + s - x.length) := by rw [List.append_assoc, e2]; rfl
    have a2 : x = (x.take r).take (r + s - x.length) ++ ((x.take r).drop (r + s - x.length) ++ x.drop r) := by rw [← List.append_assoc, e2, e]
    have a3 := rot1_app (x.drop r ++ (x.take r).take (r + s - x.length)) ((x.take r).drop (r + s - x.length))
    rw [List.length_append, l2, l3, show x.length - r + (r + s - x.length) = s by omega, ← a1] at a3
    have a4 := rot1_app ((x.take r).take (r + s - x.length)) ((x.take r).drop (r + s - x.length) ++ x.drop r)
    rw [l3, ← a2] at a4
    rw [a3, a4, List.append_assoc]
theorem blk_len {B b P : Nat} {l : List α} (h : l.length = P * B) (hb : b < P) : (blk B l b).length = B := by
  have : (b + 1) * B ≤ P * B := Nat.mul_le_mul_right _ hb
  rw [Nat.succ_mul] at this
  unfold blk
  rw [List.length_drop, List.length_take]
  omega
theorem rotP_len {B r P : Nat} {l : List α} (h : l.length = P * B) (hr : r ≤ B) : ∀ b, b ≤ P → (rotP B r l b).length = b * B
  | 0, _ => by simp [rotP]
  | b + 1, hb => by
    have h1 := rotP_len h hr b (by omega)
    have h2 := blk_len h (show b < P by omega)
    rw [rotP, List.length_append, List.length_append, List.length_drop, List.length_take, h1, h2, Nat.succ_mul]
    omega
theorem rotP_blk {B r P : Nat} {l : List α} (h : l.length = P * B) (hr : r ≤ B) : ∀ n, n ≤ P → ∀ b, b < n → blk B (rotP B r l n) b = rot1 r (blk B l b)
  | 0, _, b, hb => by omega
  | n + 1, hn, b, hb => by
    have h1 := rotP_len h hr n (by omega)
    have h3 := rotP_len h hr (n + 1) hn
    have e : rotP B r l (n + 1) = rotP B r l n ++ rot1 r (blk B l n) := by rw [rotP, List.append_assoc]; rfl
    by_cases hbn : b = n
    · subst hbn
      have h4 : (rotP B r l (b + 1)).take (b * B + B) = rotP B r l (b + 1) := List.take_of_length_le (by rw [h3, Nat.succ_mul]; omega)
      unfold blk
      rw [h4, e]
      have := List.drop_left (l₁ := rotP B r l b) (l₂ := rot1 r (blk B l b))
      rw [h1] at this
      exact this
    · have ih := rotP_blk h hr n (by omega) b (by omega)
      have h5 : (b + 1) * B ≤ n * B := Nat.mul_le_mul_right _ (by omega)
      rw [Nat.succ_mul] at h5
      rw [← ih]
      unfold blk
      rw [e, List.take_append_of_le_length (by rw [h1]; exact h5)]
theorem rotP_rotP {B r s P : Nat} {l : List α} (h : l.length = P * B) (hr : r ≤ B) (hs : s ≤ B) : ∀ b, b ≤ P → rotP B s (rotP B r l P) b = rotP B (if r + s < B then r + s else r + s - B) l b
  | 0, _ => rfl
  | b + 1, hb => by
    have h2 := blk_len h (show b < P by omega)
    have ih := rotP_rotP h hr hs b (by omega)
    have e1 := rotP_blk h hr P (Nat.le_refl _) b (by omega)
    have e2 := rot1_rot1 (blk B l b) (r := r) (s := s) (by omega) (by omega)
    rw [h2] at e2
    rw [rotP, rotP, ih, e1, List.append_assoc, List.append_assoc]
    exact congrArg (_ ++ ·) e2
theorem rotP_zero {B : Nat} {l : List α} : ∀ b, rotP B 0 l b = l.take (b * B)
  | 0 => by simp [rotP]
  | b + 1 => by
    rw [rotP, rotP_zero b, List.drop_zero, List.take_zero, List.append_nil, Nat.succ_mul]
    exact take_drop_app _ _ _ (by omega)
theorem rotP_mem {B r : Nat} {l : List α} {x : α} : ∀ b, x ∈ rotP B r l b → x ∈ l
  | 0, h => by cases h
  | b + 1, h => by
    rw [rotP, List.mem_append, List.mem_append] at h
    rcases h with (h | h) | h
    · exact rotP_mem b h
    · exact List.mem_of_mem_take (List.mem_of_mem_drop (List.mem_of_mem_drop h))
    · exact List.mem_of_mem_take (List.mem_of_mem_drop (List.mem_of_mem_take h))
end
theorem emod_of {n d q x : Int} (h : n = x + d * q) (h0 : 0 ≤ x) (h1 : x < d) : n % d = x := by
  rw [h, Int.add_mul_emod_self_left]
  exact Int.emod_eq_of_lt h0 h1
theorem ro_l1 {B I D P r : Nat} (hB : B = D * I) (hpos : 0 < B) (hr : r ≤ D) (s s' : List Int) (cs : List S45) (hcs : cs.length = P * B) (hl : cs.length ≤ 16384) : ∀ (m b : Nat), b + m = P →
    ∃ K, ∀ k, K ≤ k → pick_rotated.l1 k (I : Int) (D : Int) (r : Int) ((b * B : Nat) : Int) s cs s' (rotP B (r * I) cs b) = some (s', rotP B (r * I) cs P)
  | 0, b, h => by
    obtain rfl : b = P := by omega
    refine ⟨1, fun k hk => ?_⟩
    obtain ⟨k, rfl, _⟩ := succ_of (K := 0) hk
    simp only [pick_rotated.l1]
    rw [if_neg (by omega)]
  | m + 1, b, h => by
    obtain ⟨K, hK⟩ := ro_l1 hB hpos hr s s' cs hcs hl m (b + 1) (by omega)
    have e1 : (b + 1) * B = b * B + B := Nat.succ_mul _ _
    have e2 : (b + 1) * B ≤ P * B := Nat.mul_le_mul_right _ (by omega)
    have e3 : ((D * I : Nat) : Int) = (D : Int) * (I : Int) := Int.natCast_mul D I
    have e4 : ((r * I : Nat) : Int) = (r : Int) * (I : Int) := Int.natCast_mul r I
    have e5 : r * I ≤ D * I := Nat.mul_le_mul_right _ hr
    have hb := blk_len hcs (show b < P by omega)
    have hrl := rotP_len (r := r * I) hcs (by omega) b (by omega)
    refine ⟨K + 1, fun k hk => ?_⟩
    obtain ⟨k, rfl, hk2⟩ := succ_of hk
    simp only [pick_rotated.l1]
    rw [if_pos (by omega), if_pos (by omega), wrap_in (x := (D : Int) * (I : Int)) (by omega) (by omega), wrap_in (x := (r : Int) * (I : Int)) (by omega) (by omega), wrap_in (x := ((b * B : Nat) : Int) + (D : Int) * (I : Int)) (by omega) (by omega), if_pos (by omega), if_pos (by omega)]
    simp only [Option.bind_some]
    rw [show (((b * B : Nat) : Int) + (D : Int) * (I : Int)).toNat = b * B + B by omega, show (((b * B : Nat) : Int)).toNat = b * B by omega, show ((r : Int) * (I : Int)).toNat = r * I by omega]
    rw [show (cs.take (b * B + B)).drop (b * B) = blk B cs b from rfl, if_pos (by omega), if_pos (by rw [hb]; omega), if_pos (by rw [List.length_drop, hrl, hb]; omega), if_pos (by rw [List.length_append, List.length_drop, List.length_take, hrl, hb]; omega)]
    have := hK k hk2
    rw [e1, show ((b * B + B : Nat) : Int) = ((b * B : Nat) : Int) + (D : Int) * (I : Int) by omega] at this
    exact this
theorem ro_l0 (n ax : Int) (s : List Int) (cs : List S45) (y : List Int) (R : List Int × List S45) : ∀ (rest done : List Int) (w : Int), y = done ++ rest → y.length ≤ 8 →
    (∃ K, ∀ k, K ≤ k → pick_rotated.l0 k n ax (wprod w rest) y (y.length : Int) (y.length : Int) s cs = some R) →
    ∃ K, ∀ k, K ≤ k → pick_rotated.l0 k n ax w y (y.length : Int) (done.length : Int) s cs = some R
  | [], done, w, hy, hl, H => by
    subst hy
    simpa [wprod] using H
  | x :: rest, done, w, hy, hl, H => by
    obtain ⟨K, hK⟩ := ro_l0 n ax s cs y R rest (done ++ [x]) (wrap64 (w * x)) (by rw [hy]; simp) hl H
    have hl2 := hl
    rw [hy, List.length_append, List.length_cons] at hl2
    have hy2 : y.length = done.length + (rest.length + 1) := by rw [hy, List.length_append, List.length_cons]
    have hrd : rd y (done.length : Int) = x := by rw [hy]; exact rd_mid done x rest
    refine ⟨K + 1, fun k hk => ?_⟩
    obtain ⟨k, rfl, hk2⟩ := succ_of hk
    simp only [pick_rotated.l0]
    rw [if_pos (by omega), if_pos (by omega), if_pos (by omega), hrd, wrap_next done x (by omega)]
    exact hK k hk2
def rotC (p : List Int) (d : Int) (r : List Int) (n : Int) (cs : List S45) : List S45 :=
  if cs = [] then [] else rotP (d.toNat * (prodS r).toNat) ((n % d).toNat * (prodS r).toNat) cs (prodS p).toNat
theorem rot_eq {p : List Int} {d : Int} {r : List Int} {cs : List S45} (n : Int) (hn : -9223372036854775808 ≤ n ∧ n ≤ 9223372036854775807) (h : (sizeS (p ++ d :: r)).2 = 0) (hcs : (sizeS (p ++ d :: r)).1 = (cs.length : Int)) (hsm : (p ++ d :: r).any (16384 < ·) = false) :
    ∃ K, ∀ k, K ≤ k → pick_rotated.f k n (p ++ d :: r) cs (p.length : Int) = some (p ++ d :: r, rotC p d r n cs) := by
  by_cases hn0 : cs = []
  · subst hn0
    refine ⟨1, fun k hk => ?_⟩
    obtain ⟨k, rfl, _⟩ := succ_of (K := 0) hk
    unfold pick_rotated.f rotC
    rw [if_pos (by simp)]
    simp only [pick_rotated.j0]
    rw [if_pos trivial, if_pos trivial]
  · have hlen := sizeS_len h
    have hlen' := hlen
    rw [List.length_append, List.length_cons] at hlen'
    have hb := sizeS_bd (p ++ d :: r)
    have hpos : 0 < (sizeS (p ++ d :: r)).1 := by
      rw [hcs]
      have : cs.length ≠ 0 := fun h => hn0 (List.eq_nil_of_length_eq_zero h)
      omega
    obtain ⟨g1, g2, _⟩ := sizeS_ok h hpos
    obtain ⟨i1, i2, i3, i4⟩ := axis_bd g1 g2
    have hd1 := g1 d (List.mem_append_right _ List.mem_cons_self)
    have hd2 : d ≤ 16384 := by
      have := List.any_eq_false.1 hsm d (List.mem_append_right _ List.mem_cons_self)
      simp only [decide_eq_true_iff] at this
      omega
    rw [hcs] at i3
    have hcl : cs.length = (prodS p).toNat * (d.toNat * (prodS r).toNat) := by exact_mod_cast i3
    have hrp := prodS_pos (s := r) (fun x hx => g1 x (List.mem_append_right _ (List.mem_cons_of_mem _ hx)))
    have hBle : d.toNat * (prodS r).toNat ≤ cs.length := by rw [hcl]; exact Nat.le_mul_of_pos_left _ i4
    have hBpos : 0 < d.toNat * (prodS r).toNat := Nat.mul_pos i2 i1
    have hI2 : (prodS r).toNat ≤ d.toNat * (prodS r).toNat := Nat.le_mul_of_pos_left _ i2
    have hw : wprod 1 r = ((prodS r).toNat : Int) := by rw [wprod_eq r 1 (fun x hx => g1 x (List.mem_append_right _ (List.mem_cons_of_mem _ hx))) (by omega) (by omega)]; omega
    have t1 := Int.tmod_lt_of_pos n (show (0 : Int) < d by omega)
    have t2 := Int.lt_tmod_of_pos n (show (0 : Int) < d by omega)
    have t3 := Int.tmod_add_mul_tdiv n d
    have hm0 := Int.emod_nonneg n (show d ≠ 0 by omega)
    have hm1 := Int.emod_lt_of_pos n (show 0 < d by omega)
    have hrd : rd (p ++ d :: r) (p.length : Int) = d := rd_mid p d r
    obtain ⟨K1, h1⟩ := ro_l1 (B := d.toNat * (prodS r).toNat) (I := (prodS r).toNat) (D := d.toNat) (P := (prodS p).toNat) (r := (n % d).toNat) rfl hBpos (by omega) (p ++ d :: r) (p ++ d :: r) cs hcl (by omega) (prodS p).toNat 0 (by omega)
    have hj2 : ∀ k, K1 ≤ k → pick_rotated.j2 (k + 1) ((prodS r).toNat : Int) d (n % d) (p ++ d :: r) cs = some (p ++ d :: r, rotC p d r n cs) := by
      intro k hk
      simp only [pick_rotated.j2]
      have := h1 k hk
      unfold rotC
      rw [if_neg hn0]
      rw [show ((d.toNat : Nat) : Int) = d by omega, show (((n % d).toNat : Nat) : Int) = n % d by omega] at this
      simpa [rotP] using this
    obtain ⟨K2, h2⟩ := ro_l0 n (p.length : Int) (p ++ d :: r) cs r (p ++ d :: r, rotC p d r n cs) r [] 1 rfl (by omega) ⟨K1 + 2, fun k hk => by
      obtain ⟨k, rfl, hk2⟩ := succ_of (show (K1 + 1) + 1 ≤ k by omega)
      obtain ⟨k, rfl, hk3⟩ := succ_of hk2
      simp only [pick_rotated.l0]
      rw [if_neg (by omega), if_pos (by omega), if_pos (by rw [List.length_append, List.length_cons]; omega), hrd, if_neg (by omega), hw]
      by_cases ht : Int.tmod n d < 0
      · rw [if_pos ht, wrap_in (by omega) (by omega)]
        have e : n % d = Int.tmod n d + d := emod_of (q := n.tdiv d - 1) (by rw [Int.mul_sub, Int.mul_one]; omega) (by omega) (by omega)
        rw [← e]
        exact hj2 k hk3
      · rw [if_neg ht]
        have e : n % d = Int.tmod n d := emod_of (q := n.tdiv d) (by omega) (by omega) (by omega)
        rw [← e]
        exact hj2 k hk3⟩
    refine ⟨K2 + 1, fun k hk => ?_⟩
    obtain ⟨k, rfl, hk2⟩ := succ_of hk
    unfold pick_rotated.f
    rw [if_neg (by intro q; exact hn0 (List.eq_nil_of_length_eq_zero (by omega))), show (((p ++ d :: r).length : Int) == 0) = false by rw [List.length_append, List.length_cons]; simp; omega]
    simp only [pick_rotated.j0]
    rw [if_neg (by decide), wrap_in (x := (p.length : Int) + 1) (by omega) (by omega), if_pos (by omega), if_pos (by rw [List.length_append, List.length_cons]; omega), show ((p.length : Int) + 1).toNat = p.length + 1 by omega, show (p ++ d :: r).drop (p.length + 1) = r by rw [List.drop_append]; simp]
    simp only [Option.bind_some]
    exact h2 k hk2
end Go.Proofs.Ytdihmempaonfjaa.Pure
