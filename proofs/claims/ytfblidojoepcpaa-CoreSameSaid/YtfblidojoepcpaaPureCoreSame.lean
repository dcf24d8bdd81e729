/- CoreSame: what it computes is yes, for every two programs. -/
import Derived.Test.YtfblidojoepcpaaStaCoreSame
import Derived.Test.YtfblidojoepcpaaNestNode
import Derived.Test.YtfblidojoepcpaaArr3L
import Derived.Test.YtfblidojoepcpaaArr5
import Derived.Test.YtfblidojoepcpaaCoreWorks
import Derived.Test.YtfblidojoepcpaaPx10
import Derived.Test.YtfblidojoepcpaaPx2
import Derived.Test.YtfblidojoepcpaaPx6
import Derived.Test.YtfblidojoepcpaaPx9
namespace Go.Proofs.Ytfblidojoepcpaa.Pure
open Go.RowKit Go.Proofs.Ytfblidojoepcpaa.P Go.Proofs.Ytfblidojoepcpaa.Nest Go.Proofs.YtfblidojoepcpaaW.PrintWords Go.Proofs.YtfblidojoepcpaaW.PrintLast Go.Proofs.YtfblidojoepcpaaW.PrintMore
set_option linter.unusedVariables false
set_option linter.unusedSimpArgs false
theorem rdN_mid (a : List S34) (x : S34) (b : List S34) : rd_T34 (a ++ x :: b) (a.length : Int) = x := by simp [rd_T34]
theorem okN_len {x : S34} (h : okN x) : x.f4.length ≤ 9000000000000000000 := by
  obtain ⟨a, b, n, l, ks, p⟩ := x
  rw [okN] at h
  have := h.2.2.2.2.1.1
  unfold reachBytes at this
  show ks.length ≤ _
  omega
mutual
def wN : S34 → Int → Nat → Int
  | ⟨_, _, _, l, ks, _⟩, most, deep => wNs ks (1 + wA l most 16) most deep
def wNs : List S34 → Int → Int → Nat → Int
  | [], n, _, _ => n
  | x :: xs, n, most, deep => if n ≤ most then (match deep with
    | 0 => most + 1
    | d + 1 => wNs xs (n + wN x (most - n) d) most (d + 1)) else n
end
theorem wNs_none (n most : Int) (deep : Nat) : wNs [] n most deep = n := by rw [wNs.eq_def]
theorem wNs_cons (x : S34) (xs : List S34) (n most : Int) (deep : Nat) : wNs (x :: xs) n most deep = if n ≤ most then (match deep with | 0 => most + 1 | d + 1 => wNs xs (n + wN x (most - n) d) most (d + 1)) else n := by rw [wNs.eq_def]
mutual
theorem wN_bd : ∀ (x : S34) (most : Int) (deep : Nat), okN x → 0 ≤ most → most ≤ 4000 → 1 ≤ wN x most deep ∧ wN x most deep ≤ 50000000000000 + 5000 * (deep : Int)
  | ⟨_, _, _, l, ks, _⟩, most, deep, h, h0, h1 => by
    rw [okN] at h
    rw [wN]
    have hb := wA_bd l most 16 h.2.2.2.1 h0 h1
    have := wNs_bd ks (1 + wA l most 16) most deep h.2.2.2.2.1.2 h0 h1 (by omega) (by omega)
    exact ⟨by omega, this.2⟩
theorem wNs_bd : ∀ (l : List S34) (n most : Int) (deep : Nat), okNs l → 0 ≤ most → most ≤ 4000 → 0 ≤ n → n ≤ 50000000000000 + 5000 * (deep : Int) → n ≤ wNs l n most deep ∧ wNs l n most deep ≤ 50000000000000 + 5000 * (deep : Int)
  | [], n, most, deep, _, _, _, h2, h3 => by rw [wNs_none]; exact ⟨Int.le_refl _, h3⟩
  | x :: xs, n, most, deep, h, h0, h1, h2, h3 => by
    rw [okNs] at h
    rw [wNs_cons]
    split
    · cases deep with
      | zero => simp only; omega
      | succ d =>
        simp only
        obtain ⟨a, b⟩ := wN_bd x (most - n) d h.1 (by omega) (by omega)
        obtain ⟨c, e⟩ := wNs_bd xs (n + wN x (most - n) d) most (d + 1) h.2 h0 h1 (by omega) (by omega)
        exact ⟨by omega, e⟩
    · exact ⟨Int.le_refl _, h3⟩
end
def WnE (y : S34) : Prop := ∀ (most : Int) (deep : Nat), 0 ≤ most → most ≤ 4000 → deep ≤ 40 → ∃ K, ∀ k, K ≤ k → triglyphref10_weight.f k y.f0 y.f1 y.f2 y.f3.f0 y.f3.f1 y.f4 y.f5 most (deep : Int) = some (wN y most deep)
theorem wn_l0 (most : Int) (deep : Nat) (h0 : 0 ≤ most) (h1 : most ≤ 4000) (hd : deep ≤ 40) (x0 x1 : Int) (x2 : ByteArray) (x3 : List Int) (x4 : List S52) (x6 : Int) (rest : List S34) : ∀ (done : List S34) (n : Int), okNs rest → (∀ y ∈ rest, WnE y) → 0 ≤ n → n ≤ 50000000000000 + 5000 * (deep : Int) → (done ++ rest).length ≤ 9000000000000000000 →
    ∃ K, ∀ k, K ≤ k → triglyphref10_weight.l0 k most (deep : Int) n (done.length : Int) x0 x1 x2 x3 x4 (done ++ rest) x6 = some (wNs rest n most deep) := by
  induction rest with
  | nil =>
    intro done n _ _ h2 h3 hl
    refine ⟨2, fun k hk => ?_⟩
    obtain ⟨k, rfl, hk2⟩ := succ_of hk
    obtain ⟨k, rfl, _⟩ := succ_of hk2
    simp only [triglyphref10_weight.l0, List.append_nil]
    rw [if_neg (by omega), triglyphref10_weight.j1, if_neg (by decide), wNs_none]
  | cons y rest ih =>
    intro done n hok hy h2 h3 hl
    have hs : done ++ y :: rest = (done ++ [y]) ++ rest := by simp
    have hlen : ((done ++ y :: rest).length : Int) = done.length + 1 + rest.length := by simp; omega
    have hl2 : done.length + 1 + rest.length ≤ 9000000000000000000 := by simp at hl; omega
    rw [okNs] at hok
    rw [wNs_cons]
    by_cases c : n ≤ most
    · rw [if_pos c]
      cases deep with
      | zero =>
        refine ⟨2, fun k hk => ?_⟩
        obtain ⟨k, rfl, hk2⟩ := succ_of hk
        obtain ⟨k, rfl, _⟩ := succ_of hk2
        simp only [triglyphref10_weight.l0]
        rw [if_pos (by omega), triglyphref10_weight.j1, if_pos (decide_eq_true c), if_pos (by omega), wrap_in (by omega) (by omega)]
      | succ d =>
        simp only
        obtain ⟨a, b⟩ := wN_bd y (most - n) d hok.1 (by omega) (by omega)
        obtain ⟨K1, k1⟩ := hy y List.mem_cons_self (most - n) d (by omega) (by omega) (by omega)
        obtain ⟨K, hK⟩ := ih (done ++ [y]) (n + wN y (most - n) d) hok.2 (fun z hz => hy z (List.mem_cons_of_mem _ hz)) (by omega) (by omega) (by rw [← hs]; exact hl)
        refine ⟨K1 + K + 2, fun k hk => ?_⟩
        obtain ⟨k, rfl, hk2⟩ := succ_of hk
        obtain ⟨k, rfl, hk3⟩ := succ_of hk2
        simp only [triglyphref10_weight.l0]
        rw [if_pos (by omega), triglyphref10_weight.j1, if_pos (decide_eq_true c), if_neg (by omega), if_pos (by omega), if_pos (by omega), rdN_mid, wrap_in (show -9223372036854775808 ≤ most - n by omega) (by omega), wrap_in (show -9223372036854775808 ≤ ((d + 1 : Nat) : Int) - 1 by omega) (by omega), show (((d + 1 : Nat) : Int) - 1) = (d : Int) by omega, k1 k (by omega), Option.bind_some, wrap_in (by omega) (by omega), wrap_next _ y (by omega), hs]
        exact hK k (by omega)
    · rw [if_neg c]
      refine ⟨2, fun k hk => ?_⟩
      obtain ⟨k, rfl, hk2⟩ := succ_of hk
      obtain ⟨k, rfl, _⟩ := succ_of hk2
      simp only [triglyphref10_weight.l0]
      rw [if_pos (by omega), triglyphref10_weight.j1, if_neg (by simpa using c)]
mutual
theorem wn_ev : ∀ x : S34, okN x → WnE x
  | ⟨a, b, n, l, ks, p⟩, h => by
    intro most deep h0 h1 hd
    have hlen := okN_len h
    rw [okN] at h
    obtain ⟨K1, k1⟩ := weight_eq l most h.2.2.2.1 h0 h1
    have hb := wA_bd l most 16 h.2.2.2.1 h0 h1
    obtain ⟨K, hK⟩ := wn_l0 most deep h0 h1 hd a b n l.f0 l.f1 p ks [] (1 + wA l most 16) h.2.2.2.2.1.2 (wn_evs ks h.2.2.2.2.1.2) (by omega) (by omega) (by simpa using hlen)
    refine ⟨K1 + K + 1, fun k hk => ?_⟩
    obtain ⟨k, rfl, hk2⟩ := succ_of hk
    rw [triglyphref10_weight.f, wN]
    simp only
    rw [k1 k (by omega), Option.bind_some, wrap_in (by omega) (by omega)]
    exact hK k (by omega)
theorem wn_evs : ∀ l : List S34, okNs l → ∀ y ∈ l, WnE y
  | [], _, _, hy => nomatch hy
  | x :: xs, h, y, hy => by
    rw [okNs] at h
    rcases List.mem_cons.1 hy with e | hy
    · rw [e]; exact wn_ev x h.1
    · exact wn_evs xs h.2 y hy
end
theorem light_ev (x : S34) (h : okN x) : ∃ (K : Nat) (b : Bool), ∀ k, K ≤ k → triglyphlaw10_light.f k x.f0 x.f1 x.f2 x.f3.f0 x.f3.f1 x.f4 x.f5 = some b := by
  obtain ⟨K, hK⟩ := wn_ev x h 3000 40 (by omega) (by omega) (by omega)
  refine ⟨K, decide (wN x 3000 40 ≤ 3000), fun k hk => ?_⟩
  unfold triglyphlaw10_light.f triglyphref10_Weight.f
  rw [show (40 : Int) = ((40 : Nat) : Int) from rfl, hK k hk]
  rfl
theorem rs_l0 (x0 x1 : Int) (x2 : ByteArray) (x3 : List Int) (x4 : List S52) (x6 : Int) (y0 y1 : Int) (y2 : ByteArray) (y3 : List Int) (y4 : List S52) (y6 : Int) (rest : List S34) : ∀ (done bdone brest : List S34),
    (∀ x ∈ rest, ∀ y : S34, ∃ K, ∀ k, K ≤ k → triglyphref10_Same.f k x.f0 x.f1 x.f2 x.f3.f0 x.f3.f1 x.f4 x.f5 y.f0 y.f1 y.f2 y.f3.f0 y.f3.f1 y.f4 y.f5 = some (core_Same.v x y)) → done.length = bdone.length → rest.length = brest.length → (done ++ rest).length ≤ 9000000000000000000 →
    ∃ K, ∀ k, K ≤ k → triglyphref10_Same.l0 k (done.length : Int) x0 x1 x2 x3 x4 (done ++ rest) x6 y0 y1 y2 y3 y4 (bdone ++ brest) y6 = some (core_Same.vs rest brest) := by
  induction rest with
  | nil =>
    intro done bdone brest _ _ hb hl
    refine ⟨1, fun k hk => ?_⟩
    obtain ⟨k, rfl, _⟩ := succ_of hk
    simp only [triglyphref10_Same.l0, List.append_nil]
    rw [if_neg (by omega), core_Same.vs]
  | cons x rest ih =>
    intro done bdone brest hx hd hb hl
    obtain ⟨y, brest, rfl⟩ : ∃ y b, brest = y :: b := by
      cases brest with
      | nil => simp at hb
      | cons y b => exact ⟨y, b, rfl⟩
    have hs : done ++ x :: rest = (done ++ [x]) ++ rest := by simp
    have hs2 : bdone ++ y :: brest = (bdone ++ [y]) ++ brest := by simp
    have hlen : ((done ++ x :: rest).length : Int) = done.length + 1 + rest.length := by simp; omega
    have hlen2 : ((bdone ++ y :: brest).length : Int) = bdone.length + 1 + brest.length := by simp; omega
    have hl2 : done.length + 1 + rest.length ≤ 9000000000000000000 := by simp at hl; omega
    have hb2 : rest.length = brest.length := by simpa using hb
    obtain ⟨K1, h1⟩ := hx x List.mem_cons_self y
    obtain ⟨K, hK⟩ := ih (done ++ [x]) (bdone ++ [y]) brest (fun z hz => hx z (List.mem_cons_of_mem _ hz)) (by simp [hd]) hb2 (by rw [← hs]; exact hl)
    refine ⟨K1 + K + 1, fun k hk => ?_⟩
    obtain ⟨k, rfl, hk2⟩ := succ_of hk
    simp only [triglyphref10_Same.l0]
    rw [if_pos (by omega), if_pos (by omega), if_pos (by omega), rdN_mid, show (done.length : Int) = (bdone.length : Int) by omega, rdN_mid, h1 k (by omega), Option.bind_some, core_Same.vs]
    cases core_Same.v x y with
    | false => rw [if_neg (by decide)]; rfl
    | true =>
      rw [if_pos rfl, ← show (done.length : Int) = (bdone.length : Int) by omega, wrap_next _ x (by omega), hs, hs2, Bool.true_and]
      exact hK k (by omega)
mutual
theorem rs_ev : ∀ x : S34, okN x → ∀ y : S34, ∃ K, ∀ k, K ≤ k → triglyphref10_Same.f k x.f0 x.f1 x.f2 x.f3.f0 x.f3.f1 x.f4 x.f5 y.f0 y.f1 y.f2 y.f3.f0 y.f3.f1 y.f4 y.f5 = some (core_Same.v x y)
  | ⟨a, b, n, l, ks, p⟩, h, ⟨a', b', n', l', ks', p'⟩ => by
    have hlen := okN_len h
    rw [okN] at h
    obtain ⟨K1, k1⟩ := rcmp_eq l l' h.2.2.2.1
    have j0t : ∀ k, triglyphref10_Same.j0 (k + 1) true a b n l.f0 l.f1 ks p a' b' n' l'.f0 l'.f1 ks' p' = some false := fun k => by rw [triglyphref10_Same.j0, if_pos rfl]
    have j0f : ∀ k, triglyphref10_Same.j0 (k + 1) false a b n l.f0 l.f1 ks p a' b' n' l'.f0 l'.f1 ks' p' = triglyphref10_Same.l0 k 0 a b n l.f0 l.f1 ks p a' b' n' l'.f0 l'.f1 ks' p' := fun k => by rw [triglyphref10_Same.j0, if_neg (by decide)]
    have hkids := rs_evs ks h.2.2.2.2.1.2
    by_cases c0 : a = a'
    rotate_left
    · refine ⟨2, fun k hk => ?_⟩
      obtain ⟨k, rfl, hk2⟩ := succ_of hk
      obtain ⟨k, rfl, _⟩ := succ_of hk2
      dsimp only
      rw [triglyphref10_Same.f, if_neg c0, j0t, core_Same.v, show (a == a') = false by simpa using c0, Bool.false_and]
    by_cases c1 : b = b'
    rotate_left
    · refine ⟨2, fun k hk => ?_⟩
      obtain ⟨k, rfl, hk2⟩ := succ_of hk
      obtain ⟨k, rfl, _⟩ := succ_of hk2
      dsimp only
      rw [triglyphref10_Same.f, if_pos c0, if_neg c1, j0t, core_Same.v]
      dsimp only
      rw [show (b == b') = false by simpa using c1, Bool.false_and, Bool.and_false]
    by_cases c2 : n.toList = n'.toList
    rotate_left
    · refine ⟨2, fun k hk => ?_⟩
      obtain ⟨k, rfl, hk2⟩ := succ_of hk
      obtain ⟨k, rfl, _⟩ := succ_of hk2
      dsimp only
      rw [triglyphref10_Same.f, if_pos c0, if_pos c1, if_neg c2, j0t, core_Same.v]
      dsimp only
      rw [decide_eq_false c2, Bool.false_and, Bool.and_false, Bool.and_false]
    by_cases c3 : (ks.length : Int) = (ks'.length : Int)
    rotate_left
    · refine ⟨2, fun k hk => ?_⟩
      obtain ⟨k, rfl, hk2⟩ := succ_of hk
      obtain ⟨k, rfl, _⟩ := succ_of hk2
      dsimp only
      rw [triglyphref10_Same.f, if_pos c0, if_pos c1, if_pos c2, if_neg c3, j0t, core_Same.v]
      dsimp only
      rw [show ((ks.length : Int) == (ks'.length : Int)) = false by simpa using c3, Bool.false_and, Bool.and_false, Bool.and_false, Bool.and_false, Bool.and_false]
    obtain ⟨K2, k2⟩ := rs_l0 a b n l.f0 l.f1 p a' b' n' l'.f0 l'.f1 p' ks [] [] ks' hkids rfl (by omega) (by simpa using hlen)
    rw [List.nil_append, List.nil_append] at k2
    refine ⟨K1 + K2 + 2, fun k hk => ?_⟩
    obtain ⟨k, rfl, hk2⟩ := succ_of hk
    obtain ⟨k, rfl, hk3⟩ := succ_of hk2
    dsimp only
    rw [triglyphref10_Same.f, if_pos c0, if_pos c1, if_pos c2, if_pos c3, k1 (k + 1) (by omega), Option.bind_some, core_Same.v]
    dsimp only
    rw [show (a == a') = true by simpa using c0, show (b == b') = true by simpa using c1, decide_eq_true c2, show ((ks.length : Int) == (ks'.length : Int)) = true by simpa using c3, Bool.true_and, Bool.true_and, Bool.true_and, Bool.true_and]
    by_cases c4 : cmpA l l' = 0
    · rw [show (cmpA l l' != 0) = false by simpa using c4, show (cmpA l l' == 0) = true by simpa using c4, j0f, Bool.true_and]
      exact k2 k (by omega)
    · rw [show (cmpA l l' != 0) = true by simpa using c4, show (cmpA l l' == 0) = false by simpa using c4, j0t, Bool.false_and]
theorem rs_evs : ∀ l : List S34, okNs l → ∀ x ∈ l, ∀ y : S34, ∃ K, ∀ k, K ≤ k → triglyphref10_Same.f k x.f0 x.f1 x.f2 x.f3.f0 x.f3.f1 x.f4 x.f5 y.f0 y.f1 y.f2 y.f3.f0 y.f3.f1 y.f4 y.f5 = some (core_Same.v x y)
  | [], _, _, hx => nomatch hx
  | z :: zs, h, x, hx => by
    rw [okNs] at h
    rcases List.mem_cons.1 hx with e | hx
    · rw [e]; exact rs_ev z h.1
    · exact rs_evs zs h.2 x hx
end
theorem etaN (x : S34) : (⟨x.f0, x.f1, x.f2, ⟨x.f3.f0, x.f3.f1⟩, x.f4, x.f5⟩ : S34) = x := by obtain ⟨a, b, n, ⟨l1, l2⟩, ks, p⟩ := x; rfl
mutual
def bareS : S34 → S34
  | ⟨a, b, n, l, ks, _⟩ => ⟨a, b, n, l, bareSs ks, 0⟩
def bareSs : List S34 → List S34
  | [] => []
  | x :: xs => bareS x :: bareSs xs
end
theorem bareSs_map : ∀ l : List S34, bareSs l = l.map bareS
  | [] => by rw [bareSs]; rfl
  | x :: xs => by rw [bareSs, bareSs_map xs]; rfl
def BaE (x : S34) : Prop := ∃ K, ∀ k, K ≤ k → triglyphref10_Bare.f k x.f0 x.f1 x.f2 x.f3.f0 x.f3.f1 x.f4 x.f5 = some ((bareS x).f0, (bareS x).f1, (bareS x).f2, (bareS x).f3.f0, (bareS x).f3.f1, (bareS x).f4, (bareS x).f5)
theorem ba_l0 (x0 x1 : Int) (x2 : ByteArray) (x3 : List Int) (x4 : List S52) (x6 : Int) (y0 y1 : Int) (y2 : ByteArray) (y3 : List Int) (y4 : List S52) (y6 : Int) (rest : List S34) : ∀ (done : List S34), (∀ y ∈ rest, BaE y) → (done ++ rest).length ≤ 1256584717458 →
    ∃ K, ∀ k, K ≤ k → triglyphref10_Bare.l0 k (done.length : Int) x0 x1 x2 x3 x4 (done ++ rest) x6 y0 y1 y2 y3 y4 (done.map bareS) y6 = some (y0, y1, y2, y3, y4, (done ++ rest).map bareS, y6) := by
  induction rest with
  | nil =>
    intro done _ hl
    refine ⟨1, fun k hk => ?_⟩
    obtain ⟨k, rfl, _⟩ := succ_of hk
    simp only [triglyphref10_Bare.l0, List.append_nil]
    rw [if_neg (by omega)]
  | cons y rest ih =>
    intro done hy hl
    have hs : done ++ y :: rest = (done ++ [y]) ++ rest := by simp
    have hlen : ((done ++ y :: rest).length : Int) = done.length + 1 + rest.length := by simp; omega
    have hl2 : done.length + 1 + rest.length ≤ 1256584717458 := by simp at hl; omega
    obtain ⟨K1, h1⟩ := hy y List.mem_cons_self
    obtain ⟨K, hK⟩ := ih (done ++ [y]) (fun z hz => hy z (List.mem_cons_of_mem _ hz)) (by rw [← hs]; exact hl)
    refine ⟨K1 + K + 1, fun k hk => ?_⟩
    obtain ⟨k, rfl, hk2⟩ := succ_of hk
    simp only [triglyphref10_Bare.l0]
    rw [if_pos (by omega), if_pos (by omega), rdN_mid, h1 k (by omega), Option.bind_some, if_pos (by rw [List.length_map]; omega), wrap_next _ y (by omega), hs]
    have e : done.map bareS ++ [bareS y] = (done ++ [y]).map bareS := by simp
    dsimp only
    rw [etaN]
    exact (congrArg (fun l => triglyphref10_Bare.l0 k ((done ++ [y]).length : Int) x0 x1 x2 x3 x4 (done ++ [y] ++ rest) x6 y0 y1 y2 y3 y4 l y6) e).trans (hK k (by omega))
mutual
theorem ba_ev : ∀ x : S34, okN x → BaE x
  | ⟨a, b, n, l, ks, p⟩, h => by
    rw [okN] at h
    have hr := h.2.2.2.2.1.1
    unfold reachBytes at hr
    obtain ⟨K, hK⟩ := ba_l0 a b n l.f0 l.f1 p a b n l.f0 l.f1 0 ks [] (ba_evs ks h.2.2.2.2.1.2) (by rw [List.nil_append]; omega)
    refine ⟨K + 1, fun k hk => ?_⟩
    obtain ⟨k, rfl, hk2⟩ := succ_of hk
    rw [triglyphref10_Bare.f, bareS, bareSs_map]
    exact hK k hk2
theorem ba_evs : ∀ l : List S34, okNs l → ∀ y ∈ l, BaE y
  | [], _, _, hy => nomatch hy
  | x :: xs, h, y, hy => by
    rw [okNs] at h
    rcases List.mem_cons.1 hy with e | hy
    · rw [e]; exact ba_ev x h.1
    · exact ba_evs xs h.2 y hy
end
theorem CoreSame : CoreSame.Pure := by
  intro a1 a2 a3 s1 b1 ks1 p1 d1 d2 d3 s2 b2 ks2 p2 hx hy
  obtain ⟨L1, l1, k1⟩ := light_ev ⟨a1, a2, a3, ⟨s1, b1⟩, ks1, p1⟩ hx
  obtain ⟨L2, l2, k2⟩ := light_ev ⟨d1, d2, d3, ⟨s2, b2⟩, ks2, p2⟩ hy
  dsimp only at k1 k2
  have jt : ∀ k, 40 ≤ k → triglyphlaw10_CoreSame.j0 (k + 1) true a1 a2 a3 s1 b1 ks1 p1 d1 d2 d3 s2 b2 ks2 p2 = some true := fun k hk => by
    rw [triglyphlaw10_CoreSame.j0, if_pos rfl, works_eq k hk]; rfl
  cases l1 with
  | false =>
    refine ⟨L1 + 41, ?_⟩
    unfold triglyphlaw10_CoreSame.f
    rw [k1 _ (by omega), Option.bind_some, if_neg (by decide)]
    exact jt _ (by omega)
  | true =>
  cases l2 with
  | false =>
    refine ⟨L1 + L2 + 41, ?_⟩
    unfold triglyphlaw10_CoreSame.f
    rw [k1 _ (by omega), Option.bind_some, if_pos rfl, k2 _ (by omega), Option.bind_some]
    exact jt _ (by omega)
  | true =>
  obtain ⟨K1, h1⟩ := rs_ev ⟨a1, a2, a3, ⟨s1, b1⟩, ks1, p1⟩ hx ⟨d1, d2, d3, ⟨s2, b2⟩, ks2, p2⟩
  obtain ⟨K2, h2⟩ := rs_ev ⟨a1, a2, a3, ⟨s1, b1⟩, ks1, p1⟩ hx (bareS ⟨a1, a2, a3, ⟨s1, b1⟩, ks1, p1⟩)
  obtain ⟨K3, h3⟩ := ba_ev ⟨a1, a2, a3, ⟨s1, b1⟩, ks1, p1⟩ hx
  dsimp only at h1 h2 h3
  refine ⟨L1 + L2 + K1 + K2 + K3 + 41, ?_⟩
  unfold triglyphlaw10_CoreSame.f
  rw [k1 _ (by omega), Option.bind_some, if_pos rfl, k2 _ (by omega), Option.bind_some]
  show triglyphlaw10_CoreSame.j0 (L1 + L2 + K1 + K2 + K3 + 40 + 1) false _ _ _ _ _ _ _ _ _ _ _ _ _ _ = _
  have e1 := h1 (L1 + L2 + K1 + K2 + K3 + 40) (by omega)
  have e2 := h2 (L1 + L2 + K1 + K2 + K3 + 40) (by omega)
  have e3 := h3 (L1 + L2 + K1 + K2 + K3 + 40) (by omega)
  rw [triglyphlaw10_CoreSame.j0, if_neg (by decide), show ∀ a b c d e f g a' b' c' d' e' f' g', core_Same.f a b c d e f g a' b' c' d' e' f' g' = some (core_Same.v ⟨a, b, c, ⟨d, e⟩, f, g⟩ ⟨a', b', c', ⟨d', e'⟩, f', g'⟩) from fun _ _ _ _ _ _ _ _ _ _ _ _ _ _ => rfl, Option.bind_some, e1, Option.bind_some, if_pos (by simp), e3, Option.bind_some,
    show ∀ a b c d e f g a' b' c' d' e' f' g', core_Same.f a b c d e f g a' b' c' d' e' f' g' = some (core_Same.v ⟨a, b, c, ⟨d, e⟩, f, g⟩ ⟨a', b', c', ⟨d', e'⟩, f', g'⟩) from fun _ _ _ _ _ _ _ _ _ _ _ _ _ _ => rfl, Option.bind_some, Option.bind_some]
  dsimp only
  rw [e2, Option.bind_some, etaN, if_pos (by simp), works_eq _ (by omega)]
  rfl
end Go.Proofs.Ytfblidojoepcpaa.Pure
