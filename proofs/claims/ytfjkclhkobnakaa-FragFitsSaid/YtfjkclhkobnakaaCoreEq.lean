/- (Over triglyphref10_Check and core_Check.) Whether a program may be: the package's checker, which counts as it goes, answers as the reference, which counts first. Plain facts about trees. -/
import Derived.Test.YtfjkclhkobnakaaNestNode
import Derived.Test.YtfjkclhkobnakaaCoreWords
import Derived.Test.YtfjkclhkobnakaaPx13
import Derived.Test.YtfjkclhkobnakaaPx14
import Derived.Test.YtfjkclhkobnakaaPx4
import Derived.Test.YtfjkclhkobnakaaPx6
namespace Go.Proofs.Ytfjkclhkobnakaa.Pure
open Go.RowKit Go.Proofs.Ytfjkclhkobnakaa.P Go.Proofs.Ytfjkclhkobnakaa.Nest Go.Proofs.YtfjkclhkobnakaaW.PrintWords Go.Proofs.YtfjkclhkobnakaaW.PrintLast Go.Proofs.YtfjkclhkobnakaaW.PrintMore
set_option linter.unusedVariables false
set_option linter.unusedSimpArgs false
mutual
def szN : S28 → Int
  | ⟨_, _, _, _, ks, _⟩ => 1 + szNs ks
def szNs : List S28 → Int
  | [] => 0
  | x :: xs => szN x + szNs xs
end
mutual
def dpN : S28 → Int
  | ⟨_, _, _, _, ks, _⟩ => dpNs ks
def dpNs : List S28 → Int
  | [] => 0
  | x :: xs => max (1 + dpN x) (dpNs xs)
end
mutual
theorem szN_pos : ∀ x, 1 ≤ szN x
  | ⟨_, _, _, _, ks, _⟩ => by rw [szN]; have := szNs_pos ks; omega
theorem szNs_pos : ∀ l, 0 ≤ szNs l
  | [] => by rw [szNs]; omega
  | x :: xs => by rw [szNs]; have := szN_pos x; have := szNs_pos xs; omega
end
mutual
theorem dpN_pos : ∀ x, 0 ≤ dpN x
  | ⟨_, _, _, _, ks, _⟩ => by rw [dpN]; exact dpNs_pos ks
theorem dpNs_pos : ∀ l, 0 ≤ dpNs l
  | [] => by rw [dpNs]; omega
  | x :: xs => by rw [dpNs]; have := dpNs_pos xs; omega
end
/-- What a part of the checker's way comes to: yes, and so many nodes more, if it may be and they are not too many nor too deep; else no. -/
def Fit (b : Bool) (nd d s p : Int) (u u1 : CkU) (res : Option (Bool × Int × CkU)) : Prop :=
  if b = true ∧ nd + s ≤ 2048 ∧ d + p ≤ 24 then res = some (true, nd + s, u1) else ∃ nd' u', res = some (false, nd', u') ∧ nd ≤ nd' ∧ nd' ≤ 2049 ∧ u'.isSome = u.isSome
theorem Fit.no {nd d s p : Int} {u u1 : CkU} {res : Option (Bool × Int × CkU)} {b : Bool} (hb : ¬ (b = true ∧ nd + s ≤ 2048 ∧ d + p ≤ 24)) {nd' : Int} {u' : CkU} (h : res = some (false, nd', u')) (h1 : nd ≤ nd') (h2 : nd' ≤ 2049) (h3 : u'.isSome = u.isSome) : Fit b nd d s p u u1 res := by
  unfold Fit
  rw [if_neg hb]
  exact ⟨nd', u', h, h1, h2, h3⟩
theorem Fit.yes {nd d s p : Int} {u u1 : CkU} {res : Option (Bool × Int × CkU)} {b : Bool} (hb : b = true ∧ nd + s ≤ 2048 ∧ d + p ≤ 24) (h : res = some (true, nd + s, u1)) : Fit b nd d s p u u1 res := by
  unfold Fit
  rw [if_pos hb]
  exact h
theorem Fit.seq {b1 b2 : Bool} {nd d s1 p1 s2 p2 : Int} {u u1 u2 : CkU} {r1 : Option (Bool × Int × CkU)} {g : Int → CkU → Option (Bool × Int × CkU)} (h1 : Fit b1 nd d s1 p1 u u1 r1) (hs1 : 0 ≤ s1) (hs2 : 0 ≤ s2) (hu : u1.isSome = u.isSome)
    (h2 : nd + s1 ≤ 2048 → Fit b2 (nd + s1) d s2 p2 u1 u2 (g (nd + s1) u1)) :
    Fit (b1 && b2) nd d (s1 + s2) (max p1 p2) u u2 (r1.bind fun r => if r.1 = true then g r.2.1 r.2.2 else some r) := by
  by_cases c1 : b1 = true ∧ nd + s1 ≤ 2048 ∧ d + p1 ≤ 24
  · have e1 := h1
    unfold Fit at e1
    rw [if_pos c1] at e1
    rw [e1, Option.bind_some]
    simp only [if_true]
    have e2 := h2 c1.2.1
    by_cases c2 : b2 = true ∧ nd + s1 + s2 ≤ 2048 ∧ d + p2 ≤ 24
    · unfold Fit at e2
      rw [if_pos c2] at e2
      exact Fit.yes ⟨by rw [c1.1, c2.1]; rfl, by omega, by omega⟩ (by rw [e2]; congr 3; omega)
    · unfold Fit at e2
      rw [if_neg c2] at e2
      obtain ⟨nd', u', e, q1, q2, q3⟩ := e2
      exact Fit.no (fun q => c2 ⟨by have := q.1; simp only [Bool.and_eq_true] at this; exact this.2, by omega, by omega⟩) e (by omega) q2 (q3.trans hu)
  · have e1 := h1
    unfold Fit at e1
    rw [if_neg c1] at e1
    obtain ⟨nd', u', e, q1, q2, q3⟩ := e1
    refine Fit.no (fun q => c1 ⟨by have := q.1; simp only [Bool.and_eq_true] at this; exact this.1, by omega, by omega⟩) (nd' := nd') (u' := u') ?_ q1 q2 q3
    rw [e, Option.bind_some]
    rfl
/-- A node that is counted, then what is below it, one deeper. -/
theorem Fit.count {b : Bool} {nd d s p : Int} {u u1 : CkU} {rest : Option (Bool × Int × CkU)} (hi : ckInb nd d) (hs : 0 ≤ s) (hp : 0 ≤ p) (h : ckCb nd d = true → Fit b (nd + 1) d s p u u1 rest) :
    Fit b nd d (1 + s) p u u1 (if ckCb nd d = false then some (false, nd + 1, u) else rest) := by
  obtain ⟨h0, h1, h2, h3⟩ := hi
  cases hc : ckCb nd d with
  | false =>
    rw [if_pos rfl]
    refine Fit.no (fun q => ?_) rfl (by omega) (by omega) rfl
    unfold ckCb at hc
    rw [decide_eq_true (show nd + 1 ≤ 2048 by omega), decide_eq_true (show d ≤ 24 by omega)] at hc
    cases hc
  | true =>
    rw [if_neg (by decide)]
    have e := h hc
    unfold Fit at e ⊢
    by_cases c : b = true ∧ nd + 1 + s ≤ 2048 ∧ d + p ≤ 24
    · rw [if_pos c] at e
      rw [if_pos ⟨c.1, by omega, c.2.2⟩, e]
      congr 3
      omega
    · rw [if_neg c] at e
      rw [if_neg (fun q => c ⟨q.1, by omega, q.2.2⟩)]
      obtain ⟨nd', u', e1, q1, q2, q3⟩ := e
      exact ⟨nd', u', e1, by omega, q2, q3⟩
theorem Fit.deeper {b : Bool} {nd d s p : Int} {u u1 : CkU} {res : Option (Bool × Int × CkU)} (h : Fit b nd (d + 1) s p u u1 res) : Fit b nd d s (1 + p) u u1 res := by
  unfold Fit at h ⊢
  by_cases c : b = true ∧ nd + s ≤ 2048 ∧ d + 1 + p ≤ 24
  · rw [if_pos c] at h
    rw [if_pos ⟨c.1, c.2.1, by omega⟩]
    exact h
  · rw [if_neg c] at h
    rw [if_neg (fun q => c ⟨q.1, q.2.1, by omega⟩)]
    exact h
theorem sh_rf (x : S28) (kids : Int) (op name lit : Bool) : ckSh x kids op name lit = rfSh x kids op name lit := rfl
theorem sc_rf (op : Int) : ckSc op = (decide (op ≥ 21) && decide (op ≤ 32)) := rfl
def orU (u : CkU) (l r : Bool) : CkU := u.map (fun q => (q.1 || l, q.2 || r))
theorem orU_some (u : CkU) (l r : Bool) : (orU u l r).isSome = u.isSome := by cases u <;> rfl
mutual
def usN (kind : Int) : S28 → Bool
  | ⟨k, _, _, _, ks, _⟩ => if k = kind then true else if k = 22 then false else if k = 23 then false else usNs kind ks
def usNs (kind : Int) : List S28 → Bool
  | [] => false
  | x :: xs => usN kind x || usNs kind xs
end
theorem us_of {kind : Int} {x : S28} : usN kind x = if x.f0 = kind then true else if x.f0 = 22 then false else if x.f0 = 23 then false else usNs kind x.f4 := by obtain ⟨a, b, c, d, e, f⟩ := x; rw [usN]
/-- Expressions: the reference's answers, and the checker's. -/
def AgE (x : S28) : Prop := ∃ (K : Nat) (bi bo : Bool), ∀ k, K ≤ k →
  rexF k x true = some bi ∧ rexF k x false = some bo ∧
  ∀ nd d u, ckInb nd d → Fit (if u.isSome then bi else bo) nd d (szN x) (dpN x) u (orU u (usN 3 x) (usN 4 x)) (exF k x nd d u)
/-- Functions that count themselves (own = 1), or that were counted (own = 0). -/
def AgF (own : Int) (f : Nat → S28 → Option Bool) (g : Nat → S28 → Int → Int → CkU → Option (Bool × Int × CkU)) (x : S28) : Prop := ∃ (K : Nat) (b : Bool), (b = true → usN 3 x = false ∧ usN 4 x = false) ∧ ∀ k, K ≤ k →
  f k x = some b ∧ ∀ nd d u, ckInb nd d → (own = 0 → d ≤ 24) → Fit b nd d (szN x - 1 + own) (dpN x) u u (g k x nd d u)
/-- That its uses can be told. -/
def AgU (x : S28) : Prop := ∃ K, ∀ k, K ≤ k → triglyphref10_Uses.f k x.f0 x.f1 x.f2 x.f3.f0 x.f3.f1 x.f4 x.f5 3 = some (usN 3 x) ∧ triglyphref10_Uses.f k x.f0 x.f1 x.f2 x.f3.f0 x.f3.f1 x.f4 x.f5 4 = some (usN 4 x)
theorem prim_len {x : S28} {lo hi : Int} (h : rfP x lo hi = true) : x.f4 = [] := by
  unfold rfP rfSh at h
  simp only [Bool.and_eq_true] at h
  exact List.eq_nil_of_length_eq_zero (rf_len (m := 0) h.2.1)
theorem sh_one {x : S28} {a b c : Bool} (h : rfSh x 1 a b c = true) : x.f4 = [rd_T28 x.f4 0] := by
  unfold rfSh at h
  have := rf_len (m := 1) h
  match hx : x.f4, this with
  | [y], _ => rfl
theorem sz_of {x : S28} : szN x = 1 + szNs x.f4 := by obtain ⟨a, b, c, d, e, f⟩ := x; rw [szN]
theorem dp_of {x : S28} : dpN x = dpNs x.f4 := by obtain ⟨a, b, c, d, e, f⟩ := x; rw [dpN]
/-- What is counted and then answered at once. -/
theorem Fit.leaf {b v : Bool} {nd d s p : Int} {u : CkU} (hi : ckInb nd d) (hb : b = (v)) (h1 : b = true → s = 1 ∧ p = 0) (hs : 1 ≤ s) (hp : 0 ≤ p) : Fit b nd d s p u u (some (ckCb nd d && v, nd + 1, u)) := by
  subst hb
  obtain ⟨h0, h2, h3, h4⟩ := hi
  by_cases c : b = true ∧ nd + s ≤ 2048 ∧ d + p ≤ 24
  · obtain ⟨rfl, rfl⟩ := h1 c.1
    refine Fit.yes c ?_
    have hc : ckCb nd d = true := by unfold ckCb; rw [decide_eq_true (by omega), decide_eq_true (by omega)]; rfl
    rw [hc, c.1]
    rfl
  · refine Fit.no c (nd' := nd + 1) (u' := u) ?_ (by omega) (by omega) rfl
    cases hb : b with
    | false => rw [Bool.and_false]
    | true =>
      obtain ⟨rfl, rfl⟩ := h1 hb
      have hc : ckCb nd d = false := by
        unfold ckCb
        by_cases q : nd + 1 ≤ 2048
        · rw [decide_eq_false (show ¬ d ≤ 24 by intro q2; exact c ⟨hb, by omega, by omega⟩), Bool.and_false]
        · rw [decide_eq_false q, Bool.false_and]
      rw [hc, Bool.false_and]
/-- What may stand between items. -/
theorem bt_fit (y : S28) (nd d : Int) (u : CkU) (hi : ckInb nd d) : Fit (rfP y 21 32) nd d (szN y) (dpN y) u u (some (ckBt nd d y u)) := by
  unfold ckBt
  refine Fit.leaf hi ?_ (fun h => ?_) (szN_pos y) (dpN_pos y)
  · unfold rfP
    rw [sh_rf, sc_rf]
  · rw [sz_of, dp_of, prim_len h]
    exact ⟨rfl, rfl⟩
theorem orU_ff (u : CkU) : orU u false false = u := by
  cases u with
  | none => rfl
  | some q => simp [orU]
theorem sz_one {x y : S28} (h : x.f4 = [y]) : szN x = 1 + szN y ∧ dpN x = 1 + dpN y := by
  rw [sz_of, dp_of, h]
  simp only [szNs, dpNs]
  have := dpN_pos y
  exact ⟨by omega, by omega⟩
theorem be_fit (x : S28) (nd d : Int) (u : CkU) (hi : ckInb nd d) : Fit (rfT x) nd d (szN x) (dpN x) u u (beF x nd d u) := by
  unfold beF rfT
  rw [if_neg (not_not_intro hi)]
  by_cases c : x.f0 = 35
  · rw [if_pos c, if_pos c]
    cases hs : rfSh x 1 false false false with
    | false =>
      refine Fit.no (by simp) (nd' := nd + 1) (u' := u) ?_ (by omega) (by have := hi.2.1; omega) rfl
      rw [sh_rf, hs]
      cases ckCb nd d <;> rfl
    | true =>
      have hk := sh_one hs
      obtain ⟨e1, e2⟩ := sz_one hk
      rw [e1, e2, Bool.true_and, sh_rf, hs]
      have key := Fit.count (b := rfP (rfKid x 0) 21 32) (nd := nd) (d := d) (s := szN (rfKid x 0)) (p := 1 + dpN (rfKid x 0)) (u := u) (u1 := u) (rest := some (ckBt (nd + 1) (d + 1) (rfKid x 0) u)) hi (by have := szN_pos (rfKid x 0); omega) (by have := dpN_pos (rfKid x 0); omega) (fun hc => by
        have h2 := cb_in hi hc
        exact (bt_fit (rfKid x 0) (nd + 1) (d + 1) u ⟨h2.1.1, h2.1.2.1, by have := h2.1.2.2.1; omega, by have := h2.2; omega⟩).deeper)
      cases hc : ckCb nd d with
      | false => rw [hc, if_pos rfl] at key; exact key
      | true => rw [hc, if_neg (by decide)] at key; exact key
  · rw [if_neg c, if_neg c]
    exact bt_fit x nd d u hi
theorem us_prim {x : S28} {lo hi : Int} (h : rfP x lo hi = true) : usN 3 x = false ∧ usN 4 x = false := by
  have hk := prim_len h
  unfold rfP at h
  simp only [Bool.and_eq_true, beq_iff_eq] at h
  rw [us_of, us_of, h.1, hk]
  exact ⟨rfl, rfl⟩
theorem us_between {x : S28} (h : rfT x = true) : usN 3 x = false ∧ usN 4 x = false := by
  unfold rfT at h
  by_cases c : x.f0 = 35
  · rw [if_pos c] at h
    simp only [Bool.and_eq_true] at h
    have hk := sh_one h.1
    have hu := us_prim h.2
    rw [us_of, us_of, c, hk]
    simp only [usNs]
    exact ⟨by simpa using hu.1, by simpa using hu.2⟩
  · rw [if_neg c] at h
    exact us_prim h
theorem tw_ag (x : S28) (hla : x.f0 = 23 → AgF 0 rlaF laF x) : AgF 1 rtwF twF x := by
  by_cases c23 : x.f0 = 23
  · obtain ⟨K, b, hu, hK⟩ := hla c23
    refine ⟨K + 1, b, fun _ => by rw [us_of, us_of, c23]; exact ⟨rfl, rfl⟩, fun k hk => ?_⟩
    obtain ⟨k, rfl, hk2⟩ := succ_of hk
    obtain ⟨h1, h2⟩ := hK k hk2
    refine ⟨by rw [rtwF, if_pos c23]; exact h1, fun nd d u hi _ => ?_⟩
    rw [twF, if_neg (not_not_intro hi), show szN x - 1 + 1 = 1 + (szN x - 1 + 0) by omega]
    refine Fit.count hi (by have := szN_pos x; omega) (dpN_pos x) (fun hc => ?_)
    rw [if_neg (by omega), if_pos c23]
    have h3 := cb_in hi hc
    exact h2 (nd + 1) d u h3.1 (fun _ => h3.2)
  · refine ⟨1, rfP x 21 32 || rfP x 41 54, fun h => ?_, fun k hk => ?_⟩
    · simp only [Bool.or_eq_true] at h
      rcases h with h | h <;> exact us_prim h
    · obtain ⟨k, rfl, hk2⟩ := succ_of hk
      refine ⟨by rw [rtwF, if_neg c23], fun nd d u hi _ => ?_⟩
      rw [twF, if_neg (not_not_intro hi)]
      by_cases c21 : x.f0 = 21
      · rw [if_pos c21]
        have hv : (rfP x 21 32 || rfP x 41 54) = (ckSh x 0 true false false && (ckSc x.f1 || (decide (x.f1 ≥ 41) && decide (x.f1 ≤ 54)))) := by
          unfold rfP
          rw [sh_rf, sc_rf, c21]
          cases rfSh x 0 true false false <;> simp
        have key := Fit.leaf (b := (rfP x 21 32 || rfP x 41 54)) (u := u) hi hv (s := szN x - 1 + 1) (p := dpN x) (fun h => by
          simp only [Bool.or_eq_true] at h
          have hk : x.f4 = [] := by rcases h with h | h <;> exact prim_len h
          rw [sz_of, dp_of, hk]
          exact ⟨rfl, rfl⟩) (by have := szN_pos x; omega) (dpN_pos x)
        cases hc : ckCb nd d with
        | false => rw [hc, Bool.false_and] at key; rw [if_pos rfl]; exact key
        | true => rw [hc, Bool.true_and] at key; rw [if_neg (by decide)]; exact key
      · rw [if_neg c21, if_neg c23]
        have hb : (rfP x 21 32 || rfP x 41 54) = false := by unfold rfP; simp [c21]
        rw [hb]
        refine Fit.no (by simp) (nd' := nd + 1) (u' := u) ?_ (by omega) (by have := hi.2.1; omega) rfl
        cases ckCb nd d <;> rfl
theorem la_ag (x : S28) (hx : x.f0 = 22 ∨ x.f0 = 23) (hk : rfSh x 1 false false false = true → AgE (rfKid x 0) ∧ AgU (rfKid x 0)) : AgF 0 rlaF laF x := by
  have hus : usN 3 x = false ∧ usN 4 x = false := by
    rcases hx with c | c <;> rw [us_of, us_of, c] <;> exact ⟨rfl, rfl⟩
  cases hs : rfSh x 1 false false false with
  | false =>
    refine ⟨1, false, (fun h => by cases h), fun k hk => ?_⟩
    obtain ⟨k, rfl, _⟩ := succ_of hk
    refine ⟨by rw [rlaF, if_pos hs], fun nd d u hi hd => ?_⟩
    rw [laF, if_neg (not_not_intro ⟨hi, hd rfl⟩), sh_rf, if_pos hs]
    exact Fit.no (by simp) rfl (Int.le_refl _) (by have := hi.2.1; omega) rfl
  | true =>
    obtain ⟨⟨K1, bi, bo, h1⟩, K2, h2⟩ := hk hs
    have hkid : x.f4 = [rfKid x 0] := sh_one hs
    obtain ⟨e1, e2⟩ := sz_one hkid
    refine ⟨K1 + K2 + 1, bi && (if x.f0 = 22 then !usN 3 (rfKid x 0) else (usN 3 (rfKid x 0) && usN 4 (rfKid x 0))), fun _ => hus, fun k hk => ?_⟩
    obtain ⟨k, rfl, hk2⟩ := succ_of hk
    obtain ⟨q1, q2, q3⟩ := h1 k (by omega)
    obtain ⟨q4, q5⟩ := h2 k (by omega)
    constructor
    · rw [rlaF, if_neg (by rw [hs]; decide), q1, Option.bind_some]
      cases bi with
      | false => rw [if_pos rfl, Bool.false_and]
      | true =>
        rw [if_neg (by decide), q4, Option.bind_some, Bool.true_and]
        by_cases c : x.f0 = 22
        · rw [if_pos c, if_pos c]
        · rw [if_neg c, if_neg c]
          cases hl : usN 3 (rfKid x 0) with
          | false => rw [if_neg (by decide)]; rfl
          | true => rw [if_pos rfl, q5]; rfl
    · intro nd d u hi hd
      have hd24 := hd rfl
      rw [laF, if_neg (not_not_intro ⟨hi, hd24⟩), sh_rf, if_neg (show ¬ rfSh x 1 false false false = false by rw [hs]; decide)]
      have hf := q3 nd (d + 1) (some (false, false)) ⟨hi.1, hi.2.1, by have := hi.2.2.1; omega, by omega⟩
      rw [show (if (some (false, false) : CkU).isSome = true then bi else bo) = bi from rfl] at hf
      rw [show szN x - 1 + 0 = szN (rfKid x 0) by omega, e2]
      have hpos := szN_pos (rfKid x 0)
      by_cases c : bi = true ∧ nd + szN (rfKid x 0) ≤ 2048 ∧ d + 1 + dpN (rfKid x 0) ≤ 24
      · unfold Fit at hf
        rw [if_pos c] at hf
        rw [hf, Option.bind_some]
        simp only [orU, Option.map_some]
        rw [if_neg (show ¬ nd + szN (rfKid x 0) < nd by omega), c.1]
        simp only [Bool.false_or, Bool.true_and]
        by_cases c2 : (if x.f0 = 22 then !usN 3 (rfKid x 0) else (usN 3 (rfKid x 0) && usN 4 (rfKid x 0))) = true
        · rw [c2]
          exact Fit.yes ⟨rfl, c.2.1, by omega⟩ rfl
        · rw [Bool.eq_false_iff.2 c2]
          exact Fit.no (by simp) rfl (by omega) (by omega) rfl
      · unfold Fit at hf
        rw [if_neg c] at hf
        obtain ⟨nd', u', e, r1, r2, r3⟩ := hf
        rw [e, Option.bind_some]
        cases u' with
        | none => cases r3
        | some q =>
          simp only
          rw [if_neg (show ¬ nd' < nd by omega)]
          refine Fit.no (fun q => c ⟨by have := q.1; simp only [Bool.and_eq_true] at this; exact this.1, q.2.1, by omega⟩) (nd' := nd') (u' := u) ?_ r1 r2 rfl
          by_cases c2 : x.f0 = 22
          · rw [if_pos c2, Bool.false_and]
          · rw [if_neg c2, Bool.false_and]
theorem tw_kind {k : Nat} {x : S28} (h : rtwF k x = some true) : x.f0 = 23 ∨ x.f0 = 21 := by
  cases k with
  | zero => simp [rtwF] at h
  | succ k =>
    rw [rtwF] at h
    by_cases c : x.f0 = 23
    · exact .inl c
    · rw [if_neg c] at h
      have := Option.some.inj h
      unfold rfP at this
      simp only [Bool.or_eq_true, Bool.and_eq_true, beq_iff_eq] at this
      rcases this with q | q
      · exact .inr q.1
      · exact .inr q.1
theorem tu_ag (x : S28) (hx : x.f0 = 35) (hk : rfSh x 1 false false false = true → AgF 1 rtwF twF (rfKid x 0)) : AgF 0 rtuF tuF x := by
  cases hs : rfSh x 1 false false false with
  | false =>
    refine ⟨1, false, (fun h => by cases h), fun k hk => ?_⟩
    obtain ⟨k, rfl, _⟩ := succ_of hk
    refine ⟨by rw [rtuF, if_pos hs], fun nd d u hi hd => ?_⟩
    rw [tuF, if_neg (not_not_intro ⟨hi, hd rfl⟩), sh_rf, if_pos hs]
    exact Fit.no (by simp) rfl (Int.le_refl _) (by have := hi.2.1; omega) rfl
  | true =>
    obtain ⟨K, b, hu, hK⟩ := hk hs
    have hkid : x.f4 = [rfKid x 0] := sh_one hs
    obtain ⟨e1, e2⟩ := sz_one hkid
    refine ⟨K + 1, b && (((rfKid x 0).f0 == 23) || (((rfKid x 0).f1 != 52) && ((rfKid x 0).f1 != 53))), fun h => ?_, fun k hk => ?_⟩
    · simp only [Bool.and_eq_true] at h
      have hu2 := hu h.1
      rw [us_of, us_of, hx, hkid]
      simp only [usNs]
      exact ⟨by simpa using hu2.1, by simpa using hu2.2⟩
    · obtain ⟨k, rfl, hk2⟩ := succ_of hk
      obtain ⟨q1, q2⟩ := hK k hk2
      constructor
      · rw [rtuF, if_neg (show ¬ rfSh x 1 false false false = false by rw [hs]; decide), q1, Option.bind_some]
        cases b with
        | false => rw [if_pos rfl, Bool.false_and]
        | true => rw [if_neg (by decide), Bool.true_and]
      · intro nd d u hi hd
        have hd24 := hd rfl
        rw [tuF, if_neg (not_not_intro ⟨hi, hd24⟩), sh_rf, if_neg (show ¬ rfSh x 1 false false false = false by rw [hs]; decide)]
        have hi2 : ckInb nd (d + 1) := ⟨hi.1, hi.2.1, by have := hi.2.2.1; omega, by omega⟩
        have hf := (q2 nd (d + 1) u hi2 (fun e => by cases e)).deeper
        rw [show szN (rfKid x 0) - 1 + 1 = szN (rfKid x 0) by omega] at hf
        rw [show szN x - 1 + 0 = szN (rfKid x 0) by omega, e2]
        by_cases c : (((rfKid x 0).f0 != 21) || (((rfKid x 0).f1 != 52) && ((rfKid x 0).f1 != 53))) = true
        · rw [if_pos c]
          have hb : (b && (((rfKid x 0).f0 == 23) || (((rfKid x 0).f1 != 52) && ((rfKid x 0).f1 != 53)))) = b := by
            cases b with
            | false => rfl
            | true =>
              have hk2 := tw_kind q1
              rw [Bool.true_and]
              rcases hk2 with e | e
              · rw [e]; rfl
              · rw [e] at c ⊢; simpa using c
          rw [hb]
          exact hf
        · rw [if_neg c]
          refine Fit.no (fun q => c ?_) rfl (Int.le_refl _) (by have := hi.2.1; omega) rfl
          have q := q.1
          simp only [Bool.and_eq_true, Bool.or_eq_true] at q ⊢
          rcases q.2 with e | e
          · exact .inl (by have : (rfKid x 0).f0 = 23 := by simpa using e
                           rw [this]; rfl)
          · exact .inr e
theorem mo_ag (x : S28) (hla : x.f0 = 22 → AgF 0 rlaF laF x) (htu : x.f0 = 35 → AgF 0 rtuF tuF x) (hmo : rfSh x 1 true false false = true → AgF 1 rmoF moF (rfKid x 0)) : AgF 1 rmoF moF x := by
  have hs1 : szN x - 1 + 1 = 1 + (szN x - 1) := by omega
  have hp0 := szN_pos x
  have hp1 := dpN_pos x
  by_cases c21 : x.f0 = 21
  · refine ⟨1, rfP x 1 19, fun h => us_prim h, fun k hk => ?_⟩
    obtain ⟨k, rfl, _⟩ := succ_of hk
    refine ⟨by rw [rmoF, if_pos c21], fun nd d u hi _ => ?_⟩
    rw [moF, if_neg (not_not_intro hi), if_pos c21]
    have hv : rfP x 1 19 = (ckSh x 0 true false false && (decide (x.f1 ≥ 1) && decide (x.f1 ≤ 19))) := by unfold rfP; rw [sh_rf, c21]; rfl
    have key := Fit.leaf (b := rfP x 1 19) (u := u) hi hv (s := szN x - 1 + 1) (p := dpN x) (fun h => by
      have hk := prim_len h
      rw [sz_of, dp_of, hk]
      exact ⟨rfl, rfl⟩) (by omega) hp1
    cases hc : ckCb nd d with
    | false => rw [hc, Bool.false_and] at key; rw [if_pos rfl]; exact key
    | true => rw [hc, Bool.true_and] at key; rw [if_neg (by decide)]; exact key
  by_cases c22 : x.f0 = 22
  · obtain ⟨K, b, hu, hK⟩ := hla c22
    refine ⟨K + 1, b, hu, fun k hk => ?_⟩
    obtain ⟨k, rfl, hk2⟩ := succ_of hk
    obtain ⟨h1, h2⟩ := hK k hk2
    refine ⟨by rw [rmoF, if_neg c21, if_pos c22]; exact h1, fun nd d u hi _ => ?_⟩
    rw [moF, if_neg (not_not_intro hi), hs1]
    refine Fit.count hi (by omega) hp1 (fun hc => ?_)
    rw [if_neg c21, if_pos c22]
    have h3 := cb_in hi hc
    have h4 := h2 (nd + 1) d u h3.1 (fun _ => h3.2)
    rwa [show szN x - 1 + 0 = szN x - 1 by omega] at h4
  by_cases c30 : x.f0 = 31 ∨ x.f0 = 32 ∨ x.f0 = 33 ∨ x.f0 = 34
  · refine ⟨1, rfSh x 1 false false false && rfT (rfKid x 0), fun h => ?_, fun k hk => ?_⟩
    · simp only [Bool.and_eq_true] at h
      have hkid : x.f4 = [rfKid x 0] := sh_one h.1
      have hu := us_between h.2
      rw [us_of, us_of, hkid]
      simp only [usNs, hu.1, hu.2]
      rw [if_neg (by omega), if_neg (by omega), if_neg (by omega), if_neg (by omega)]
      exact ⟨rfl, rfl⟩
    · obtain ⟨k, rfl, _⟩ := succ_of hk
      refine ⟨by rw [rmoF, if_neg c21, if_neg c22, if_pos c30], fun nd d u hi _ => ?_⟩
      rw [moF, if_neg (not_not_intro hi), hs1]
      refine Fit.count hi (by omega) hp1 (fun hc => ?_)
      rw [if_neg c21, if_neg c22, if_pos c30, sh_rf]
      have h3 := cb_in hi hc
      cases hs : rfSh x 1 false false false with
      | false => exact Fit.no (by simp) rfl (Int.le_refl _) (by have := h3.1.2.1; omega) rfl
      | true =>
        have hkid : x.f4 = [rfKid x 0] := sh_one hs
        obtain ⟨e1, e2⟩ := sz_one hkid
        rw [if_pos rfl, Bool.true_and, e2, show szN x - 1 = szN (rfKid x 0) by omega]
        exact (be_fit (rfKid x 0) (nd + 1) (d + 1) u ⟨h3.1.1, h3.1.2.1, by have := h3.1.2.2.1; omega, by have := h3.2; omega⟩).deeper
  by_cases c35 : x.f0 = 35
  · obtain ⟨K, b, hu, hK⟩ := htu c35
    refine ⟨K + 1, b, hu, fun k hk => ?_⟩
    obtain ⟨k, rfl, hk2⟩ := succ_of hk
    obtain ⟨h1, h2⟩ := hK k hk2
    refine ⟨by rw [rmoF, if_neg c21, if_neg c22, if_neg c30, if_pos c35]; exact h1, fun nd d u hi _ => ?_⟩
    rw [moF, if_neg (not_not_intro hi), hs1]
    refine Fit.count hi (by omega) hp1 (fun hc => ?_)
    rw [if_neg c21, if_neg c22, if_neg c30, if_pos c35]
    have h3 := cb_in hi hc
    have h4 := h2 (nd + 1) d u h3.1 (fun _ => h3.2)
    rwa [show szN x - 1 + 0 = szN x - 1 by omega] at h4
  by_cases c26 : x.f0 = 26
  · cases hs : rfSh x 1 true false false with
    | false =>
      refine ⟨1, false, (fun h => by cases h), fun k hk => ?_⟩
      obtain ⟨k, rfl, _⟩ := succ_of hk
      refine ⟨by rw [rmoF, if_neg c21, if_neg c22, if_neg c30, if_neg c35, if_pos c26, hs]; rfl, fun nd d u hi _ => ?_⟩
      rw [moF, if_neg (not_not_intro hi), hs1]
      refine Fit.count hi (by omega) hp1 (fun hc => ?_)
      rw [if_neg c21, if_neg c22, if_neg c30, if_neg c35, if_pos c26, sh_rf, hs]
      have h3 := cb_in hi hc
      exact Fit.no (by simp) rfl (Int.le_refl _) (by have := h3.1.2.1; omega) rfl
    | true =>
      obtain ⟨K, b, hu, hK⟩ := hmo hs
      have hkid : x.f4 = [rfKid x 0] := sh_one hs
      obtain ⟨e1, e2⟩ := sz_one hkid
      cases hg : (decide (x.f1 ≥ 0) && (decide (x.f1 ≤ 4096) && ((rfKid x 0).f0 == 22))) with
      | false =>
        refine ⟨1, false, (fun h => by cases h), fun k hk => ?_⟩
        obtain ⟨k, rfl, _⟩ := succ_of hk
        refine ⟨by rw [rmoF, if_neg c21, if_neg c22, if_neg c30, if_neg c35, if_pos c26, hs, hg]; rfl, fun nd d u hi _ => ?_⟩
        rw [moF, if_neg (not_not_intro hi), hs1]
        refine Fit.count hi (by omega) hp1 (fun hc => ?_)
        rw [if_neg c21, if_neg c22, if_neg c30, if_neg c35, if_pos c26, sh_rf, hs, hg]
        have h3 := cb_in hi hc
        exact Fit.no (by simp) rfl (Int.le_refl _) (by have := h3.1.2.1; omega) rfl
      | true =>
        have hk22 : (rfKid x 0).f0 = 22 := by
          simp only [Bool.and_eq_true] at hg
          simpa using hg.2.2
        refine ⟨K + 1, b, fun _ => ?_, fun k hk => ?_⟩
        · have hu : usN 3 (rfKid x 0) = false ∧ usN 4 (rfKid x 0) = false := by
            rw [us_of (x := rfKid x 0), us_of (x := rfKid x 0), hk22]
            exact ⟨rfl, rfl⟩
          rw [us_of (x := x), us_of (x := x), hkid, c26]
          simp only [usNs, hu.1, hu.2]
          exact ⟨rfl, rfl⟩
        · obtain ⟨k, rfl, hk2⟩ := succ_of hk
          have h1 := (hK (k + 1) (by omega)).1
          obtain ⟨_, h2⟩ := hK k hk2
          rw [rmoF, if_neg (by omega), if_pos hk22] at h1
          refine ⟨by rw [rmoF, if_neg c21, if_neg c22, if_neg c30, if_neg c35, if_pos c26, hs, if_pos rfl, hg, if_pos rfl]; exact h1, fun nd d u hi _ => ?_⟩
          rw [moF, if_neg (not_not_intro hi), hs1]
          refine Fit.count hi (by omega) hp1 (fun hc => ?_)
          rw [if_neg c21, if_neg c22, if_neg c30, if_neg c35, if_pos c26, sh_rf, hs, if_pos rfl, hg, if_pos rfl]
          have h3 := cb_in hi hc
          have h4 := (h2 (nd + 1) (d + 1) u ⟨h3.1.1, h3.1.2.1, by have := h3.1.2.2.1; omega, by have := h3.2; omega⟩ (fun e => by cases e)).deeper
          rw [e2, show szN x - 1 = szN (rfKid x 0) - 1 + 1 by omega]
          exact h4
  · refine ⟨1, false, (fun h => by cases h), fun k hk => ?_⟩
    obtain ⟨k, rfl, _⟩ := succ_of hk
    refine ⟨by rw [rmoF, if_neg c21, if_neg c22, if_neg c30, if_neg c35, if_neg c26], fun nd d u hi _ => ?_⟩
    rw [moF, if_neg (not_not_intro hi), hs1]
    refine Fit.count hi (by omega) hp1 (fun hc => ?_)
    rw [if_neg c21, if_neg c22, if_neg c30, if_neg c35, if_neg c26]
    have h3 := cb_in hi hc
    exact Fit.no (by simp) rfl (Int.le_refl _) (by have := h3.1.2.1; omega) rfl
theorem dy_ag (x : S28) (htw : AgF 1 rtwF twF x) (htu : x.f0 = 35 → AgF 0 rtuF tuF x) : AgF 1 rdyF dyF x := by
  have hs1 : szN x - 1 + 1 = 1 + (szN x - 1) := by omega
  have hp0 := szN_pos x
  have hp1 := dpN_pos x
  by_cases c25 : x.f0 = 25
  · refine ⟨1, rfSh x 1 false false false && rfT (rfKid x 0), fun h => ?_, fun k hk => ?_⟩
    · simp only [Bool.and_eq_true] at h
      have hkid : x.f4 = [rfKid x 0] := sh_one h.1
      have hu := us_between h.2
      rw [us_of (x := x), us_of (x := x), hkid, c25]
      simp only [usNs, hu.1, hu.2]
      exact ⟨rfl, rfl⟩
    · obtain ⟨k, rfl, _⟩ := succ_of hk
      refine ⟨by rw [rdyF, if_pos c25], fun nd d u hi _ => ?_⟩
      rw [dyF, if_neg (not_not_intro hi), if_pos c25, hs1]
      have key := Fit.count (b := rfSh x 1 false false false && rfT (rfKid x 0)) (s := szN x - 1) (p := dpN x) (u := u) (u1 := u) (rest := if ckSh x 1 false false false = true then beF (ckKid x 0) (nd + 1) (d + 1) u else some (false, nd + 1, u)) hi (by omega) hp1 (fun hc => by
        have h3 := cb_in hi hc
        rw [sh_rf]
        cases hs : rfSh x 1 false false false with
        | false => exact Fit.no (by simp) rfl (Int.le_refl _) (by have := h3.1.2.1; omega) rfl
        | true =>
          have hkid : x.f4 = [rfKid x 0] := sh_one hs
          obtain ⟨e1, e2⟩ := sz_one hkid
          rw [if_pos rfl, Bool.true_and, e2, show szN x - 1 = szN (rfKid x 0) by omega]
          exact (be_fit (rfKid x 0) (nd + 1) (d + 1) u ⟨h3.1.1, h3.1.2.1, by have := h3.1.2.2.1; omega, by have := h3.2; omega⟩).deeper)
      cases hc : ckCb nd d with
      | false => rw [hc, if_pos rfl] at key; exact key
      | true => rw [hc, if_neg (by decide)] at key; rw [if_pos rfl]; exact key
  by_cases c35 : x.f0 = 35
  · obtain ⟨K, b, hu, hK⟩ := htu c35
    refine ⟨K + 1, b, hu, fun k hk => ?_⟩
    obtain ⟨k, rfl, hk2⟩ := succ_of hk
    obtain ⟨h1, h2⟩ := hK k hk2
    refine ⟨by rw [rdyF, if_neg c25, if_pos c35]; exact h1, fun nd d u hi _ => ?_⟩
    rw [dyF, if_neg (not_not_intro hi), if_neg c25, if_pos c35, hs1]
    have key := Fit.count (b := b) (s := szN x - 1) (p := dpN x) (u := u) (u1 := u) (rest := tuF k x (nd + 1) d u) hi (by omega) hp1 (fun hc => by
      have h3 := cb_in hi hc
      have h4 := h2 (nd + 1) d u h3.1 (fun _ => h3.2)
      rwa [show szN x - 1 + 0 = szN x - 1 by omega] at h4)
    cases hc : ckCb nd d with
    | false => rw [hc, if_pos rfl] at key; exact key
    | true => rw [hc, if_neg (by decide)] at key; rw [if_pos rfl]; exact key
  · obtain ⟨K, b, hu, hK⟩ := htw
    refine ⟨K + 1, b, hu, fun k hk => ?_⟩
    obtain ⟨k, rfl, hk2⟩ := succ_of hk
    obtain ⟨h1, h2⟩ := hK k hk2
    refine ⟨by rw [rdyF, if_neg c25, if_neg c35]; exact h1, fun nd d u hi h0 => ?_⟩
    rw [dyF, if_neg (not_not_intro hi), if_neg c25, if_neg c35]
    exact h2 nd d u hi h0
theorem sh_two {x : S28} {a b c : Bool} (h : rfSh x 2 a b c = true) : x.f4 = [rfKid x 0, rfKid x 1] := by
  unfold rfSh at h
  have := rf_len (m := 2) h
  unfold rfKid
  match hx : x.f4, this with
  | [y, z], _ => rfl
theorem sh_three {x : S28} {a b c : Bool} (h : rfSh x 3 a b c = true) : x.f4 = [rfKid x 0, rfKid x 1, rfKid x 2] := by
  unfold rfSh at h
  have := rf_len (m := 3) h
  unfold rfKid
  match hx : x.f4, this with
  | [y, z, v], _ => rfl
theorem sh_none {x : S28} {a b c : Bool} (h : rfSh x 0 a b c = true) : x.f4 = [] := by
  unfold rfSh at h
  exact List.eq_nil_of_length_eq_zero (rf_len (m := 0) h)
theorem ex_ag (x : S28) (hok : okN x)
    (h5 : rfSh x 2 false false false = true → AgF 1 rmoF moF (rfKid x 0) ∧ AgE (rfKid x 1))
    (h6 : rfSh x 3 false false false = true → AgF 1 rdyF dyF (rfKid x 0) ∧ AgE (rfKid x 1) ∧ AgE (rfKid x 2)) : AgE x := by
  have hp0 := szN_pos x
  have hp1 := dpN_pos x
  have hs1 : szN x = 1 + (szN x - 1) := by omega
  have okl : okA x.f3 ∧ x.f2.size ≤ maxLen := by
    obtain ⟨a, b, n, l, ks, p⟩ := x
    rw [okN] at hok
    refine ⟨hok.2.2.2.1, Nat.le_trans hok.2.2.1 (by unfold reachBytes maxLen; omega)⟩
  have same : ∀ (b : Bool) (u : CkU), (if u.isSome = true then b else b) = b := by intro b u; cases u <;> rfl
  by_cases c1 : x.f0 = 1
  · obtain ⟨K1, k1⟩ := lit_eq x.f3 okl.1
    obtain ⟨K2, k2⟩ := rlit_eq x.f3 okl.1
    refine ⟨K1 + K2 + 1, rfSh x 0 false false true && core_Literal.litV (chA x.f3 0) x.f3.f0 x.f3.f1, rfSh x 0 false false true && core_Literal.litV (chA x.f3 0) x.f3.f0 x.f3.f1, fun k hk => ?_⟩
    obtain ⟨k, rfl, hk2⟩ := succ_of hk
    have e1 := k1 k (by omega)
    have e2 := k2 k (by omega)
    have er : ∀ i, rexF (k + 1) x i = some (rfSh x 0 false false true && core_Literal.litV (chA x.f3 0) x.f3.f0 x.f3.f1) := by
      intro i
      rw [rexF, if_pos c1, e2]
      cases rfSh x 0 false false true <;> rfl
    refine ⟨er true, er false, fun nd d u hi => ?_⟩
    rw [same, exF.eq_def]
    dsimp only
    rw [if_neg (not_not_intro hi), hs1]
    refine Fit.count hi (by omega) hp1 (fun hc => ?_)
    have h3 := cb_in hi hc
    rw [if_pos c1, sh_rf, e1]
    cases hs : rfSh x 0 false false true with
    | false => exact Fit.no (by simp) rfl (Int.le_refl _) (by have := h3.1.2.1; omega) rfl
    | true =>
      have hk0 := sh_none hs
      rw [if_pos rfl, Option.bind_some, Bool.true_and, us_of (x := x), us_of (x := x), hk0, c1, show szN x - 1 = 0 by rw [sz_of, hk0, szNs]; omega, show dpN x = 0 by rw [dp_of, hk0, dpNs]]
      simp only [usNs]
      rw [show (if (1 : Int) = 3 then true else if (1 : Int) = 22 then false else if (1 : Int) = 23 then false else false) = false from rfl, show (if (1 : Int) = 4 then true else if (1 : Int) = 22 then false else if (1 : Int) = 23 then false else false) = false from rfl, orU_ff]
      cases hb : core_Literal.litV (chA x.f3 0) x.f3.f0 x.f3.f1 with
      | false => exact Fit.no (by simp) rfl (Int.le_refl _) (by have := h3.1.2.1; omega) rfl
      | true => exact Fit.yes ⟨rfl, by have := h3.1.2.1; omega, by have := h3.2; omega⟩ (by rw [Int.add_zero])
  by_cases c2 : x.f0 = 2
  · obtain ⟨K1, k1⟩ := name_eq x.f2 okl.2
    obtain ⟨K2, k2⟩ := rname_eq x.f2 okl.2
    refine ⟨K1 + K2 + 1, rfSh x 0 false true false && nameV x.f2, rfSh x 0 false true false && nameV x.f2, fun k hk => ?_⟩
    obtain ⟨k, rfl, hk2⟩ := succ_of hk
    have e1 := k1 k (by omega)
    have e2 := k2 k (by omega)
    have er : ∀ i, rexF (k + 1) x i = some (rfSh x 0 false true false && nameV x.f2) := by
      intro i
      rw [rexF, if_neg c1, if_pos c2, e2]
      cases rfSh x 0 false true false <;> rfl
    refine ⟨er true, er false, fun nd d u hi => ?_⟩
    rw [same, exF.eq_def]
    dsimp only
    rw [if_neg (not_not_intro hi), hs1]
    refine Fit.count hi (by omega) hp1 (fun hc => ?_)
    have h3 := cb_in hi hc
    rw [if_neg c1, if_pos c2, sh_rf, e1]
    cases hs : rfSh x 0 false true false with
    | false => exact Fit.no (by simp) rfl (Int.le_refl _) (by have := h3.1.2.1; omega) rfl
    | true =>
      have hk0 := sh_none hs
      rw [if_pos rfl, Option.bind_some, Bool.true_and, us_of (x := x), us_of (x := x), hk0, c2, show szN x - 1 = 0 by rw [sz_of, hk0, szNs]; omega, show dpN x = 0 by rw [dp_of, hk0, dpNs]]
      simp only [usNs]
      rw [show (if (2 : Int) = 3 then true else if (2 : Int) = 22 then false else if (2 : Int) = 23 then false else false) = false from rfl, show (if (2 : Int) = 4 then true else if (2 : Int) = 22 then false else if (2 : Int) = 23 then false else false) = false from rfl, orU_ff]
      cases hb : nameV x.f2 with
      | false => exact Fit.no (by simp) rfl (Int.le_refl _) (by have := h3.1.2.1; omega) rfl
      | true => exact Fit.yes ⟨rfl, by have := h3.1.2.1; omega, by have := h3.2; omega⟩ (by rw [Int.add_zero])
  by_cases c34 : x.f0 = 3 ∨ x.f0 = 4
  · refine ⟨1, rfSh x 0 false false false, false, fun k hk => ?_⟩
    obtain ⟨k, rfl, _⟩ := succ_of hk
    refine ⟨by rw [rexF, if_neg c1, if_neg c2, if_pos c34, Bool.true_and], by rw [rexF, if_neg c1, if_neg c2, if_pos c34, Bool.false_and], fun nd d u hi => ?_⟩
    rw [exF.eq_def]
    dsimp only
    rw [if_neg (not_not_intro hi), hs1]
    refine Fit.count hi (by omega) hp1 (fun hc => ?_)
    have h3 := cb_in hi hc
    rw [if_neg c1, if_neg c2, if_pos c34, sh_rf]
    cases u with
    | none => exact Fit.no (by simp) rfl (Int.le_refl _) (by have := h3.1.2.1; omega) rfl
    | some q =>
      dsimp only
      rw [show (if (some q : CkU).isSome = true then rfSh x 0 false false false else false) = rfSh x 0 false false false from rfl]
      cases hs : rfSh x 0 false false false with
      | false => exact Fit.no (by simp) rfl (Int.le_refl _) (by have := h3.1.2.1; omega) rfl
      | true =>
        have hk0 := sh_none hs
        rw [if_pos rfl, show szN x - 1 = 0 by rw [sz_of, hk0, szNs]; omega, show dpN x = 0 by rw [dp_of, hk0, dpNs]]
        refine Fit.yes ⟨rfl, by have := h3.1.2.1; omega, by have := h3.2; omega⟩ ?_
        rw [Int.add_zero, us_of (x := x), us_of (x := x), hk0]
        obtain ⟨q1, q2⟩ := q
        rcases c34 with c | c
        · rw [c]
          simp [ckSetU, orU, usNs]
        · rw [c]
          simp [ckSetU, orU, usNs]
  by_cases c5 : x.f0 = 5
  · cases hs : rfSh x 2 false false false with
    | false =>
      refine ⟨1, false, false, fun k hk => ?_⟩
      obtain ⟨k, rfl, _⟩ := succ_of hk
      have er : ∀ i, rexF (k + 1) x i = some false := by intro i; rw [rexF, if_neg c1, if_neg c2, if_neg c34, if_pos c5, hs]; rfl
      refine ⟨er true, er false, fun nd d u hi => ?_⟩
      rw [same, exF.eq_def]
      dsimp only
      rw [if_neg (not_not_intro hi), hs1]
      refine Fit.count hi (by omega) hp1 (fun hc => ?_)
      have h3 := cb_in hi hc
      rw [if_neg c1, if_neg c2, if_neg c34, if_pos c5, sh_rf, hs]
      exact Fit.no (by simp) rfl (Int.le_refl _) (by have := h3.1.2.1; omega) rfl
    | true =>
      obtain ⟨⟨K1, b, hu, k1⟩, ⟨K2, bi, bo, k2⟩⟩ := h5 hs
      have hk := sh_two hs
      have hz := szN_pos (rfKid x 0)
      have hz1 := szN_pos (rfKid x 1)
      refine ⟨K1 + K2 + 1, b && bi, b && bo, fun k hk3 => ?_⟩
      obtain ⟨k, rfl, hk2⟩ := succ_of hk3
      obtain ⟨e1, e2⟩ := k1 k (by omega)
      obtain ⟨f1, f2, f3⟩ := k2 k (by omega)
      have er : ∀ i v, rexF k (rfKid x 1) i = some v → rexF (k + 1) x i = some (b && v) := by
        intro i v hv
        rw [rexF, if_neg c1, if_neg c2, if_neg c34, if_pos c5, hs, if_pos rfl, e1, Option.bind_some, hv]
        cases b <;> rfl
      refine ⟨er true bi f1, er false bo f2, fun nd d u hi => ?_⟩
      rw [show (if u.isSome = true then (b && bi) else (b && bo)) = (b && (if u.isSome = true then bi else bo)) by cases u <;> rfl, exF.eq_def]
      dsimp only
      rw [if_neg (not_not_intro hi), hs1]
      refine Fit.count hi (by omega) hp1 (fun hc => ?_)
      have h3 := cb_in hi hc
      rw [if_neg c1, if_neg c2, if_neg c34, if_pos c5, sh_rf, hs, if_pos rfl]
      have hi2 : ckInb (nd + 1) (d + 1) := ⟨h3.1.1, h3.1.2.1, by have := h3.1.2.2.1; omega, by have := h3.2; omega⟩
      have hm := e2 (nd + 1) (d + 1) u hi2 (fun e => by cases e)
      rw [show szN (rfKid x 0) - 1 + 1 = szN (rfKid x 0) by omega] at hm
      have key := (Fit.seq (g := fun n v => exF k (rfKid x 1) n (d + 1) v) hm (by omega) (by omega) rfl (fun hle => f3 (nd + 1 + szN (rfKid x 0)) (d + 1) u ⟨by have := h3.1.1; omega, hle, hi2.2.2⟩)).deeper
      rw [show szN x - 1 = szN (rfKid x 0) + szN (rfKid x 1) by rw [sz_of, hk]; simp only [szNs]; omega, show dpN x = 1 + max (dpN (rfKid x 0)) (dpN (rfKid x 1)) by rw [dp_of, hk]; simp only [dpNs]; have := dpN_pos (rfKid x 1); omega]
      by_cases cb : b = true
      · have hu2 := hu cb
        rw [us_of (x := x), us_of (x := x), hk, c5]
        simp only [usNs, hu2.1, hu2.2, Bool.false_or, Bool.or_false]
        exact key
      · rw [Bool.eq_false_iff.2 cb] at key ⊢
        rw [Bool.false_and] at key ⊢
        unfold Fit at key ⊢
        rw [if_neg (by simp)] at key ⊢
        exact key
  by_cases c6 : x.f0 = 6
  · cases hs : rfSh x 3 false false false with
    | false =>
      refine ⟨1, false, false, fun k hk => ?_⟩
      obtain ⟨k, rfl, _⟩ := succ_of hk
      have er : ∀ i, rexF (k + 1) x i = some false := by intro i; rw [rexF, if_neg c1, if_neg c2, if_neg c34, if_neg c5, if_pos c6, hs]; rfl
      refine ⟨er true, er false, fun nd d u hi => ?_⟩
      rw [same, exF.eq_def]
      dsimp only
      rw [if_neg (not_not_intro hi), hs1]
      refine Fit.count hi (by omega) hp1 (fun hc => ?_)
      have h3 := cb_in hi hc
      rw [if_neg c1, if_neg c2, if_neg c34, if_neg c5, if_pos c6, sh_rf, hs]
      exact Fit.no (by simp) rfl (Int.le_refl _) (by have := h3.1.2.1; omega) rfl
    | true =>
      obtain ⟨⟨K1, b, hu, k1⟩, ⟨K2, bi, bo, k2⟩, ⟨K3, ci, co, k3⟩⟩ := h6 hs
      have hk := sh_three hs
      have hz := szN_pos (rfKid x 0)
      have hz1 := szN_pos (rfKid x 1)
      have hz2 := szN_pos (rfKid x 2)
      refine ⟨K1 + K2 + K3 + 1, b && (bi && ci), b && (bo && co), fun k hk3 => ?_⟩
      obtain ⟨k, rfl, hk2⟩ := succ_of hk3
      obtain ⟨e1, e2⟩ := k1 k (by omega)
      obtain ⟨f1, f2, f3⟩ := k2 k (by omega)
      obtain ⟨g1, g2, g3⟩ := k3 k (by omega)
      have er : ∀ i v z, rexF k (rfKid x 1) i = some v → rexF k (rfKid x 2) i = some z → rexF (k + 1) x i = some (b && (v && z)) := by
        intro i v z hv hz
        rw [rexF, if_neg c1, if_neg c2, if_neg c34, if_neg c5, if_pos c6, hs, if_pos rfl, e1, Option.bind_some, hv, Option.bind_some, hz]
        cases b <;> cases v <;> rfl
      refine ⟨er true bi ci f1 g1, er false bo co f2 g2, fun nd d u hi => ?_⟩
      rw [show (if u.isSome = true then (b && (bi && ci)) else (b && (bo && co))) = (b && ((if u.isSome = true then bi else bo) && (if u.isSome = true then ci else co))) by cases u <;> rfl, exF.eq_def]
      dsimp only
      rw [if_neg (not_not_intro hi), hs1]
      refine Fit.count hi (by omega) hp1 (fun hc => ?_)
      have h3 := cb_in hi hc
      rw [if_neg c1, if_neg c2, if_neg c34, if_neg c5, if_pos c6, sh_rf, hs, if_pos rfl]
      have hi2 : ckInb (nd + 1) (d + 1) := ⟨h3.1.1, h3.1.2.1, by have := h3.1.2.2.1; omega, by have := h3.2; omega⟩
      have hm := e2 (nd + 1) (d + 1) u hi2 (fun e => by cases e)
      rw [show szN (rfKid x 0) - 1 + 1 = szN (rfKid x 0) by omega] at hm
      have key := (Fit.seq (g := fun n v => (exF k (rfKid x 1) n (d + 1) v).bind fun s => if s.1 = true then exF k (rfKid x 2) s.2.1 (d + 1) s.2.2 else some s) hm (by omega) (show 0 ≤ szN (rfKid x 1) + szN (rfKid x 2) by omega) rfl (fun hle =>
        Fit.seq (g := fun n v => exF k (rfKid x 2) n (d + 1) v) (f3 (nd + 1 + szN (rfKid x 0)) (d + 1) u ⟨by have := h3.1.1; omega, hle, hi2.2.2⟩) (by omega) (by omega) (orU_some _ _ _) (fun hle2 => by
          have h9 := g3 (nd + 1 + szN (rfKid x 0) + szN (rfKid x 1)) (d + 1) (orU u (usN 3 (rfKid x 1)) (usN 4 (rfKid x 1))) ⟨by have := h3.1.1; omega, hle2, hi2.2.2⟩
          rw [orU_some] at h9
          exact h9))).deeper
      rw [show szN x - 1 = szN (rfKid x 0) + (szN (rfKid x 1) + szN (rfKid x 2)) by rw [sz_of, hk]; simp only [szNs]; omega, show dpN x = 1 + max (dpN (rfKid x 0)) (max (dpN (rfKid x 1)) (dpN (rfKid x 2))) by rw [dp_of, hk]; simp only [dpNs]; have := dpN_pos (rfKid x 2); omega]
      by_cases cb : b = true
      · have hu2 := hu cb
        rw [us_of (x := x), us_of (x := x), hk, c6]
        simp only [usNs, hu2.1, hu2.2, Bool.false_or, Bool.or_false]
        rw [show orU (orU u (usN 3 (rfKid x 1)) (usN 4 (rfKid x 1))) (usN 3 (rfKid x 2)) (usN 4 (rfKid x 2)) = orU u (usN 3 (rfKid x 1) || usN 3 (rfKid x 2)) (usN 4 (rfKid x 1) || usN 4 (rfKid x 2)) by cases u <;> simp [orU, Bool.or_assoc]] at key
        exact key
      · rw [Bool.eq_false_iff.2 cb] at key ⊢
        rw [Bool.false_and] at key ⊢
        unfold Fit at key ⊢
        rw [if_neg (by simp)] at key ⊢
        exact key
  · refine ⟨1, false, false, fun k hk => ?_⟩
    obtain ⟨k, rfl, _⟩ := succ_of hk
    have er : ∀ i, rexF (k + 1) x i = some false := by intro i; rw [rexF, if_neg c1, if_neg c2, if_neg c34, if_neg c5, if_neg c6]
    refine ⟨er true, er false, fun nd d u hi => ?_⟩
    rw [same, exF.eq_def]
    dsimp only
    rw [if_neg (not_not_intro hi), hs1]
    refine Fit.count hi (by omega) hp1 (fun hc => ?_)
    have h3 := cb_in hi hc
    rw [if_neg c1, if_neg c2, if_neg c34, if_neg c5, if_neg c6]
    exact Fit.no (by simp) rfl (Int.le_refl _) (by have := h3.1.2.1; omega) rfl
end Go.Proofs.Ytfjkclhkobnakaa.Pure
