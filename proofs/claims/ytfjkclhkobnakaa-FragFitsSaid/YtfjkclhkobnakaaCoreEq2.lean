/- (Over triglyphref10_Check, core_Check, triglyphlaw10_light.) Whether a program may be: the package and the reference come to the same answer for every light program; what is light comes to an answer for every program. Plain facts about trees. -/
import Derived.Test.YtfjkclhkobnakaaCoreEq
import Derived.Test.YtfjkclhkobnakaaArr3L
import Derived.Test.YtfjkclhkobnakaaPx13
import Derived.Test.YtfjkclhkobnakaaPx14
import Derived.Test.YtfjkclhkobnakaaPx2
import Derived.Test.YtfjkclhkobnakaaPx6
import Derived.Test.YtfjkclhkobnakaaPx9
namespace Go.Proofs.Ytfjkclhkobnakaa.Pure
open Go.RowKit Go.Proofs.Ytfjkclhkobnakaa.P Go.Proofs.Ytfjkclhkobnakaa.Nest Go.Proofs.YtfjkclhkobnakaaW.PrintWords Go.Proofs.YtfjkclhkobnakaaW.PrintLast Go.Proofs.YtfjkclhkobnakaaW.PrintMore
set_option linter.unusedVariables false
set_option linter.unusedSimpArgs false
theorem rdN_mid (a : List S28) (x : S28) (b : List S28) : rd_T28 (a ++ x :: b) (a.length : Int) = x := by simp [rd_T28]
theorem okN_len {x : S28} (h : okN x) : x.f4.length ≤ 9000000000000000000 := by
  obtain ⟨a, b, n, l, ks, p⟩ := x
  rw [okN] at h
  have := h.2.2.2.2.1.1
  unfold reachBytes at this
  show ks.length ≤ _
  omega
theorem okN_kid {x y : S28} (h : okN x) (hy : y ∈ x.f4) : okN y := by
  obtain ⟨a, b, n, l, ks, p⟩ := x
  rw [okN] at h
  exact okNs_iff.1 h.2.2.2.2.1.2 y hy
theorem sz_mem {y : S28} : ∀ {l : List S28}, y ∈ l → szN y ≤ szNs l
  | x :: xs, h => by
    rw [szNs]
    have h1 := szN_pos x
    have h2 := szNs_pos xs
    rcases List.mem_cons.1 h with rfl | h
    · omega
    · have := sz_mem h; omega
theorem szNs_len : ∀ (l : List S28), (l.length : Int) ≤ szNs l
  | [] => by rw [szNs]; simp
  | x :: xs => by
    rw [szNs, List.length_cons]
    have := szN_pos x
    have := szNs_len xs
    omega
mutual
theorem dp_sz : ∀ x : S28, dpN x < szN x
  | ⟨_, _, _, _, ks, _⟩ => by rw [dpN, szN]; have := dps_szs ks; omega
theorem dps_szs : ∀ l : List S28, dpNs l ≤ szNs l
  | [] => by rw [dpNs, szNs]; omega
  | x :: xs => by rw [dpNs, szNs]; have := dp_sz x; have := dps_szs xs; have := szNs_pos xs; have := szN_pos x; omega
end
def UsE (kind : Int) (y : S28) : Prop := ∃ K, ∀ k, K ≤ k → triglyphref10_Uses.f k y.f0 y.f1 y.f2 y.f3.f0 y.f3.f1 y.f4 y.f5 kind = some (usN kind y)
theorem us_l0 (kind : Int) (x0 x1 : Int) (x2 : ByteArray) (x3 : List Int) (x4 : List S57) (x6 : Int) (rest : List S28) : ∀ (done : List S28), (∀ y ∈ rest, UsE kind y) → (done ++ rest).length ≤ 9000000000000000000 →
    ∃ K, ∀ k, K ≤ k → triglyphref10_Uses.l0 k kind (done.length : Int) x0 x1 x2 x3 x4 (done ++ rest) x6 = some (usNs kind rest) := by
  induction rest with
  | nil =>
    intro done _ hl
    refine ⟨1, fun k hk => ?_⟩
    obtain ⟨k, rfl, _⟩ := succ_of hk
    simp only [triglyphref10_Uses.l0, List.append_nil]
    rw [if_neg (by omega), usNs]
  | cons y rest ih =>
    intro done hy hl
    have hs : done ++ y :: rest = (done ++ [y]) ++ rest := by simp
    have hlen : ((done ++ y :: rest).length : Int) = done.length + 1 + rest.length := by simp; omega
    have hl2 : done.length + 1 + rest.length ≤ 9000000000000000000 := by simp at hl; omega
    obtain ⟨K1, h1⟩ := hy y List.mem_cons_self
    obtain ⟨K, hK⟩ := ih (done ++ [y]) (fun z hz => hy z (List.mem_cons_of_mem _ hz)) (by rw [← hs]; exact hl)
    refine ⟨K1 + K + 1, fun k hk => ?_⟩
    obtain ⟨k, rfl, hk2⟩ := succ_of hk
    simp only [triglyphref10_Uses.l0]
    rw [if_pos (by omega), if_pos (by omega), rdN_mid, h1 k (by omega), Option.bind_some, usNs]
    cases hu : usN kind y with
    | true => rw [if_pos rfl]; rfl
    | false =>
      rw [if_neg (by decide), wrap_next _ y (by omega), hs, hK k (by omega)]
      rfl
mutual
theorem us_ev (kind : Int) : ∀ x : S28, okN x → UsE kind x
  | ⟨a, b, n, l, ks, p⟩, h => by
    have hlen := okN_len h
    rw [okN] at h
    obtain ⟨K, hK⟩ := us_l0 kind a b n l.f0 l.f1 p ks [] (us_evs kind ks h.2.2.2.2.1.2) (by simpa using hlen)
    refine ⟨K + 2, fun k hk => ?_⟩
    obtain ⟨k, rfl, hk2⟩ := succ_of hk
    obtain ⟨k, rfl, hk3⟩ := succ_of hk2
    have e := hK k hk3
    rw [List.nil_append] at e
    rw [triglyphref10_Uses.f, usN]
    by_cases c : a = kind
    · rw [if_pos c, if_pos c]
    · rw [if_neg c, if_neg c]
      by_cases c2 : a = 22
      · rw [if_pos c2, if_pos c2, triglyphref10_Uses.j0, if_pos rfl]
      · rw [if_neg c2, if_neg c2, triglyphref10_Uses.j0]
        by_cases c3 : a = 23
        · rw [if_pos c3, if_pos (by simpa using c3)]
        · rw [if_neg c3, if_neg (by simpa using c3)]
          exact e
theorem us_evs (kind : Int) : ∀ l : List S28, okNs l → ∀ y ∈ l, UsE kind y
  | [], _, _, hy => nomatch hy
  | x :: xs, h, y, hy => by
    rw [okNs] at h
    rcases List.mem_cons.1 hy with e | hy
    · rw [e]; exact us_ev kind x h.1
    · exact us_evs kind xs h.2 y hy
end
theorem us_ag {x : S28} (h : okN x) : AgU x := by
  obtain ⟨K1, h1⟩ := us_ev 3 x h
  obtain ⟨K2, h2⟩ := us_ev 4 x h
  exact ⟨K1 + K2, fun k hk => ⟨h1 k (by omega), h2 k (by omega)⟩⟩
theorem all_ag : ∀ (n : Nat) (x : S28), szN x ≤ n → okN x → AgE x ∧ AgF 1 rtwF twF x ∧ AgF 1 rmoF moF x ∧ AgF 1 rdyF dyF x
  | 0, x, h, _ => by have := szN_pos x; omega
  | n + 1, x, h, hok => by
    have kid : ∀ y ∈ x.f4, AgE y ∧ AgF 1 rtwF twF y ∧ AgF 1 rmoF moF y ∧ AgF 1 rdyF dyF y := fun y hy =>
      all_ag n y (by have := sz_mem hy; have := sz_of (x := x); omega) (okN_kid hok hy)
    have one : ∀ {a b c : Bool}, rfSh x 1 a b c = true → rfKid x 0 ∈ x.f4 := fun h => by
      have e := sh_one h
      have : rfKid x 0 ∈ [rfKid x 0] := List.mem_singleton.2 rfl
      rw [e]
      exact this
    have hla : x.f0 = 22 ∨ x.f0 = 23 → AgF 0 rlaF laF x := fun hx => la_ag x hx (fun hs => ⟨(kid _ (one hs)).1, us_ag (okN_kid hok (one hs))⟩)
    have htu : x.f0 = 35 → AgF 0 rtuF tuF x := fun hx => tu_ag x hx (fun hs => (kid _ (one hs)).2.1)
    have htw := tw_ag x (fun h => hla (.inr h))
    refine ⟨ex_ag x hok (fun hs => ?_) (fun hs => ?_), htw, mo_ag x (fun h => hla (.inl h)) htu (fun hs => (kid _ (one hs)).2.2.1), dy_ag x htw htu⟩
    · have e := sh_two hs
      exact ⟨(kid (rfKid x 0) (by rw [e]; exact List.mem_cons_self)).2.2.1, (kid (rfKid x 1) (by rw [e]; exact List.mem_cons_of_mem _ List.mem_cons_self)).1⟩
    · have e := sh_three hs
      exact ⟨(kid (rfKid x 0) (by rw [e]; exact List.mem_cons_self)).2.2.2, (kid (rfKid x 1) (by rw [e]; exact List.mem_cons_of_mem _ List.mem_cons_self)).1, (kid (rfKid x 2) (by rw [e]; exact List.mem_cons_of_mem _ (List.mem_cons_of_mem _ List.mem_cons_self))).1⟩
theorem ex_all {x : S28} (h : okN x) : AgE x := (all_ag (szN x).toNat x (by have := szN_pos x; omega) h).1
def SzE (y : S28) : Prop := ∃ K, ∀ k, K ≤ k → triglyphref10_Size.f k y.f0 y.f1 y.f2 y.f3.f0 y.f3.f1 y.f4 y.f5 = some (szN y) ∧ triglyphref10_Deep.f k y.f0 y.f1 y.f2 y.f3.f0 y.f3.f1 y.f4 y.f5 = some (dpN y)
theorem sz_l0 (x0 x1 : Int) (x2 : ByteArray) (x3 : List Int) (x4 : List S57) (x6 : Int) (rest : List S28) : ∀ (done : List S28) (n : Int), (∀ y ∈ rest, SzE y) → 0 ≤ n → n + szNs rest ≤ 7000 → (done ++ rest).length ≤ 7000 →
    ∃ K, ∀ k, K ≤ k → triglyphref10_Size.l0 k n (done.length : Int) x0 x1 x2 x3 x4 (done ++ rest) x6 = some (n + szNs rest) := by
  induction rest with
  | nil =>
    intro done n _ _ _ hl
    refine ⟨1, fun k hk => ?_⟩
    obtain ⟨k, rfl, _⟩ := succ_of hk
    simp only [triglyphref10_Size.l0, List.append_nil]
    rw [if_neg (by omega), szNs, Int.add_zero]
  | cons y rest ih =>
    intro done n hy h0 h1 hl
    have hs : done ++ y :: rest = (done ++ [y]) ++ rest := by simp
    have hlen : ((done ++ y :: rest).length : Int) = done.length + 1 + rest.length := by simp; omega
    have hl2 : done.length + 1 + rest.length ≤ 7000 := by simp at hl; omega
    rw [szNs] at h1 ⊢
    have hp := szN_pos y
    have hp2 := szNs_pos rest
    obtain ⟨K1, h2⟩ := hy y List.mem_cons_self
    obtain ⟨K, hK⟩ := ih (done ++ [y]) (n + szN y) (fun z hz => hy z (List.mem_cons_of_mem _ hz)) (by omega) (by omega) (by rw [← hs]; exact hl)
    refine ⟨K1 + K + 1, fun k hk => ?_⟩
    obtain ⟨k, rfl, hk2⟩ := succ_of hk
    simp only [triglyphref10_Size.l0]
    rw [if_pos (by omega), if_pos (by omega), rdN_mid, (h2 k (by omega)).1, Option.bind_some, wrap_in (by omega) (by omega), wrap_next _ y (by omega), hs, hK k (by omega)]
    congr 1
    omega
theorem dp_l0 (x0 x1 : Int) (x2 : ByteArray) (x3 : List Int) (x4 : List S57) (x6 : Int) (rest : List S28) : ∀ (done : List S28) (n : Int), (∀ y ∈ rest, SzE y) → 0 ≤ n → szNs rest ≤ 7000 → (done ++ rest).length ≤ 7000 →
    ∃ K, ∀ k, K ≤ k → triglyphref10_Deep.l0 k n (done.length : Int) x0 x1 x2 x3 x4 (done ++ rest) x6 = some (max n (dpNs rest)) := by
  induction rest with
  | nil =>
    intro done n _ h0 _ hl
    refine ⟨1, fun k hk => ?_⟩
    obtain ⟨k, rfl, _⟩ := succ_of hk
    simp only [triglyphref10_Deep.l0, List.append_nil]
    rw [if_neg (by omega), dpNs, Int.max_eq_left h0]
  | cons y rest ih =>
    intro done n hy h0 h1 hl
    have hs : done ++ y :: rest = (done ++ [y]) ++ rest := by simp
    have hlen : ((done ++ y :: rest).length : Int) = done.length + 1 + rest.length := by simp; omega
    have hl2 : done.length + 1 + rest.length ≤ 7000 := by simp at hl; omega
    rw [szNs] at h1
    rw [dpNs]
    have hp := szN_pos y
    have hd := dpN_pos y
    have hd2 := dp_sz y
    have hp2 := szNs_pos rest
    obtain ⟨K1, h2⟩ := hy y List.mem_cons_self
    obtain ⟨K, hK⟩ := ih (done ++ [y]) (max n (1 + dpN y)) (fun z hz => hy z (List.mem_cons_of_mem _ hz)) (by omega) (by omega) (by rw [← hs]; exact hl)
    refine ⟨K1 + K + 1, fun k hk => ?_⟩
    obtain ⟨k, rfl, hk2⟩ := succ_of hk
    simp only [triglyphref10_Deep.l0]
    rw [if_pos (by omega), if_pos (by omega), rdN_mid, (h2 k (by omega)).2, Option.bind_some, wrap_in (show -9223372036854775808 ≤ 1 + dpN y by omega) (by omega), wrap_next _ y (by omega), hs]
    have e := hK k (by omega)
    by_cases c : 1 + dpN y > n
    · rw [if_pos c]
      rw [Int.max_eq_right (by omega)] at e
      rw [e]
      congr 1
      omega
    · rw [if_neg c]
      rw [Int.max_eq_left (by omega)] at e
      rw [e]
      congr 1
      omega
mutual
theorem sz_ev : ∀ x : S28, szN x ≤ 6000 → SzE x
  | ⟨a, b, n, l, ks, p⟩, h => by
    rw [szN] at h
    have hl := szNs_len ks
    have hk := sz_evs ks (by omega)
    obtain ⟨K, hK⟩ := sz_l0 a b n l.f0 l.f1 p ks [] 1 hk (by omega) (by omega) (by rw [List.nil_append]; omega)
    obtain ⟨K2, hK2⟩ := dp_l0 a b n l.f0 l.f1 p ks [] 0 hk (by omega) (by omega) (by rw [List.nil_append]; omega)
    refine ⟨K + K2 + 1, fun k hk => ?_⟩
    obtain ⟨k, rfl, hk2⟩ := succ_of hk
    rw [szN, dpN, triglyphref10_Size.f, triglyphref10_Deep.f]
    have e2 := hK2 k (by omega)
    rw [Int.max_eq_right (dpNs_pos ks)] at e2
    exact ⟨hK k (by omega), e2⟩
theorem sz_evs : ∀ l : List S28, szNs l ≤ 6000 → ∀ y ∈ l, SzE y
  | [], _, _, hy => nomatch hy
  | x :: xs, h, y, hy => by
    rw [szNs] at h
    have := szN_pos x
    have := szNs_pos xs
    rcases List.mem_cons.1 hy with e | hy
    · rw [e]; exact sz_ev x (by omega)
    · exact sz_evs xs (by omega) y hy
end
mutual
def wN : S28 → Int → Nat → Int
  | ⟨_, _, _, l, ks, _⟩, most, deep => wNs ks (1 + wA l most 16) most deep
def wNs : List S28 → Int → Int → Nat → Int
  | [], n, _, _ => n
  | x :: xs, n, most, deep => if n ≤ most then (match deep with
    | 0 => most + 1
    | d + 1 => wNs xs (n + wN x (most - n) d) most (d + 1)) else n
end
theorem wNs_none (n most : Int) (deep : Nat) : wNs [] n most deep = n := by rw [wNs.eq_def]
theorem wNs_cons (x : S28) (xs : List S28) (n most : Int) (deep : Nat) : wNs (x :: xs) n most deep = if n ≤ most then (match deep with | 0 => most + 1 | d + 1 => wNs xs (n + wN x (most - n) d) most (d + 1)) else n := by rw [wNs.eq_def]
mutual
theorem wN_bd : ∀ (x : S28) (most : Int) (deep : Nat), okN x → 0 ≤ most → most ≤ 4000 → 1 ≤ wN x most deep ∧ wN x most deep ≤ 50000000000000 + 5000 * (deep : Int)
  | ⟨_, _, _, l, ks, _⟩, most, deep, h, h0, h1 => by
    rw [okN] at h
    rw [wN]
    have hb := wA_bd l most 16 h.2.2.2.1 h0 h1
    have := wNs_bd ks (1 + wA l most 16) most deep h.2.2.2.2.1.2 h0 h1 (by omega) (by omega)
    exact ⟨by omega, this.2⟩
theorem wNs_bd : ∀ (l : List S28) (n most : Int) (deep : Nat), okNs l → 0 ≤ most → most ≤ 4000 → 0 ≤ n → n ≤ 50000000000000 + 5000 * (deep : Int) → n ≤ wNs l n most deep ∧ wNs l n most deep ≤ 50000000000000 + 5000 * (deep : Int)
  | [], n, most, deep, _, _, _, h2, h3 => by rw [wNs_none]; exact ⟨Int.le_refl _, h3⟩
  | x :: xs, n, most, deep, h, h0, h1, h2, h3 => by
    rw [okNs] at h
    rw [wNs_cons]
    split
    · cases deep with
      | zero => simp only; omega
      | succ d =>
        simp only
        obtain ⟨a, b⟩ := wN_bd x (most - n) d h.1 (by omega) (by omega)
        obtain ⟨c, e⟩ := wNs_bd xs (n + wN x (most - n) d) most (d + 1) h.2 h0 h1 (by omega) (by omega)
        exact ⟨by omega, e⟩
    · exact ⟨Int.le_refl _, h3⟩
end
theorem wNs_sz : ∀ (l : List S28) (n most : Int) (deep : Nat), okNs l → 0 ≤ most → most ≤ 4000 → 0 ≤ n → (∀ y ∈ l, ∀ m d, 0 ≤ m → m ≤ 4000 → wN y m d ≤ m → szN y ≤ wN y m d) → wNs l n most deep ≤ most → n + szNs l ≤ wNs l n most deep
  | [], n, most, deep, _, _, _, _, _, _ => by rw [wNs_none, szNs]; omega
  | x :: xs, n, most, deep, h, h0, h1, h2, hk, hle => by
    rw [okNs] at h
    rw [wNs_cons] at hle ⊢
    by_cases c : n ≤ most
    · rw [if_pos c] at hle ⊢
      cases deep with
      | zero => simp only at hle; omega
      | succ d =>
        simp only at hle ⊢
        obtain ⟨a, b⟩ := wN_bd x (most - n) d h.1 (by omega) (by omega)
        have hm : (n + wN x (most - n) d) ≤ wNs xs (n + wN x (most - n) d) most (d + 1) := by
          by_cases cc : n + wN x (most - n) d ≤ 50000000000000 + 5000 * ((d + 1 : Nat) : Int)
          · exact (wNs_bd xs _ most (d + 1) h.2 h0 h1 (by omega) cc).1
          · omega
        have := hk x List.mem_cons_self (most - n) d (by omega) (by omega) (by omega)
        have := wNs_sz xs (n + wN x (most - n) d) most (d + 1) h.2 h0 h1 (by omega) (fun y hy => hk y (List.mem_cons_of_mem _ hy)) hle
        rw [szNs]
        omega
    · rw [if_neg c] at hle
      omega
mutual
theorem wN_sz : ∀ (x : S28), okN x → ∀ (most : Int) (deep : Nat), 0 ≤ most → most ≤ 4000 → wN x most deep ≤ most → szN x ≤ wN x most deep
  | ⟨_, _, _, l, ks, _⟩, h, most, deep, h0, h1, hle => by
    rw [okN] at h
    rw [wN] at hle ⊢
    have hb := wA_bd l most 16 h.2.2.2.1 h0 h1
    have := wNs_sz ks (1 + wA l most 16) most deep h.2.2.2.2.1.2 h0 h1 (by omega) (wN_szs ks h.2.2.2.2.1.2) hle
    rw [szN]
    omega
theorem wN_szs : ∀ (l : List S28), okNs l → ∀ y ∈ l, ∀ (m : Int) (d : Nat), 0 ≤ m → m ≤ 4000 → wN y m d ≤ m → szN y ≤ wN y m d
  | [], _, _, hy => nomatch hy
  | x :: xs, h, y, hy => by
    rw [okNs] at h
    rcases List.mem_cons.1 hy with e | hy
    · rw [e]; exact wN_sz x h.1
    · exact wN_szs xs h.2 y hy
end
def WnE (y : S28) : Prop := ∀ (most : Int) (deep : Nat), 0 ≤ most → most ≤ 4000 → deep ≤ 40 → ∃ K, ∀ k, K ≤ k → triglyphref10_weight.f k y.f0 y.f1 y.f2 y.f3.f0 y.f3.f1 y.f4 y.f5 most (deep : Int) = some (wN y most deep)
theorem wn_l0 (most : Int) (deep : Nat) (h0 : 0 ≤ most) (h1 : most ≤ 4000) (hd : deep ≤ 40) (x0 x1 : Int) (x2 : ByteArray) (x3 : List Int) (x4 : List S57) (x6 : Int) (rest : List S28) : ∀ (done : List S28) (n : Int), okNs rest → (∀ y ∈ rest, WnE y) → 0 ≤ n → n ≤ 50000000000000 + 5000 * (deep : Int) → (done ++ rest).length ≤ 9000000000000000000 →
    ∃ K, ∀ k, K ≤ k → triglyphref10_weight.l0 k most (deep : Int) n (done.length : Int) x0 x1 x2 x3 x4 (done ++ rest) x6 = some (wNs rest n most deep) := by
  induction rest with
  | nil =>
    intro done n _ _ h2 h3 hl
    refine ⟨2, fun k hk => ?_⟩
    obtain ⟨k, rfl, hk2⟩ := succ_of hk
    obtain ⟨k, rfl, _⟩ := succ_of hk2
    simp only [triglyphref10_weight.l0, List.append_nil]
    rw [if_neg (by omega), triglyphref10_weight.j1, if_neg (by decide), wNs_none]
  | cons y rest ih =>
    intro done n hok hy h2 h3 hl
    have hs : done ++ y :: rest = (done ++ [y]) ++ rest := by simp
    have hlen : ((done ++ y :: rest).length : Int) = done.length + 1 + rest.length := by simp; omega
    have hl2 : done.length + 1 + rest.length ≤ 9000000000000000000 := by simp at hl; omega
    rw [okNs] at hok
    rw [wNs_cons]
    by_cases c : n ≤ most
    · rw [if_pos c]
      cases deep with
      | zero =>
        refine ⟨2, fun k hk => ?_⟩
        obtain ⟨k, rfl, hk2⟩ := succ_of hk
        obtain ⟨k, rfl, _⟩ := succ_of hk2
        simp only [triglyphref10_weight.l0]
        rw [if_pos (by omega), triglyphref10_weight.j1, if_pos (decide_eq_true c), if_pos (by omega), wrap_in (by omega) (by omega)]
      | succ d =>
        simp only
        obtain ⟨a, b⟩ := wN_bd y (most - n) d hok.1 (by omega) (by omega)
        obtain ⟨K1, k1⟩ := hy y List.mem_cons_self (most - n) d (by omega) (by omega) (by omega)
        obtain ⟨K, hK⟩ := ih (done ++ [y]) (n + wN y (most - n) d) hok.2 (fun z hz => hy z (List.mem_cons_of_mem _ hz)) (by omega) (by omega) (by rw [← hs]; exact hl)
        refine ⟨K1 + K + 2, fun k hk => ?_⟩
        obtain ⟨k, rfl, hk2⟩ := succ_of hk
        obtain ⟨k, rfl, hk3⟩ := succ_of hk2
        simp only [triglyphref10_weight.l0]
        rw [if_pos (by omega), triglyphref10_weight.j1, if_pos (decide_eq_true c), if_neg (by omega), if_pos (by omega), if_pos (by omega), rdN_mid, wrap_in (show -9223372036854775808 ≤ most - n by omega) (by omega), wrap_in (show -9223372036854775808 ≤ ((d + 1 : Nat) : Int) - 1 by omega) (by omega), show (((d + 1 : Nat) : Int) - 1) = (d : Int) by omega, k1 k (by omega), Option.bind_some, wrap_in (by omega) (by omega), wrap_next _ y (by omega), hs]
        exact hK k (by omega)
    · rw [if_neg c]
      refine ⟨2, fun k hk => ?_⟩
      obtain ⟨k, rfl, hk2⟩ := succ_of hk
      obtain ⟨k, rfl, _⟩ := succ_of hk2
      simp only [triglyphref10_weight.l0]
      rw [if_pos (by omega), triglyphref10_weight.j1, if_neg (by simpa using c)]
mutual
theorem wn_ev : ∀ x : S28, okN x → WnE x
  | ⟨a, b, n, l, ks, p⟩, h => by
    intro most deep h0 h1 hd
    have hlen := okN_len h
    rw [okN] at h
    obtain ⟨K1, k1⟩ := weight_eq l most h.2.2.2.1 h0 h1
    have hb := wA_bd l most 16 h.2.2.2.1 h0 h1
    obtain ⟨K, hK⟩ := wn_l0 most deep h0 h1 hd a b n l.f0 l.f1 p ks [] (1 + wA l most 16) h.2.2.2.2.1.2 (wn_evs ks h.2.2.2.2.1.2) (by omega) (by omega) (by simpa using hlen)
    refine ⟨K1 + K + 1, fun k hk => ?_⟩
    obtain ⟨k, rfl, hk2⟩ := succ_of hk
    rw [triglyphref10_weight.f, wN]
    simp only
    rw [k1 k (by omega), Option.bind_some, wrap_in (by omega) (by omega)]
    exact hK k (by omega)
theorem wn_evs : ∀ l : List S28, okNs l → ∀ y ∈ l, WnE y
  | [], _, _, hy => nomatch hy
  | x :: xs, h, y, hy => by
    rw [okNs] at h
    rcases List.mem_cons.1 hy with e | hy
    · rw [e]; exact wn_ev x h.1
    · exact wn_evs xs h.2 y hy
end
theorem light_eq (x : S28) (h : okN x) : ∃ (K : Nat) (b : Bool), (b = true → szN x ≤ 3000) ∧ ∀ k, K ≤ k → triglyphlaw24_light.f k x.f0 x.f1 x.f2 x.f3.f0 x.f3.f1 x.f4 x.f5 = some b := by
  obtain ⟨K, hK⟩ := wn_ev x h 3000 40 (by omega) (by omega) (by omega)
  refine ⟨K, decide (wN x 3000 40 ≤ 3000), fun hb => ?_, fun k hk => ?_⟩
  · have h1 := of_decide_eq_true hb
    have := wN_sz x h 3000 40 (by omega) (by omega) h1
    omega
  · unfold triglyphlaw24_light.f triglyphref10_Weight.f
    rw [show (40 : Int) = ((40 : Nat) : Int) from rfl, hK k hk]
    rfl
/-- The package's check, and the reference's, of a program of no more than so many nodes. -/
theorem chkN_eq (x : S28) (h : okN x) (hz : szN x ≤ 6000) : ∃ (K : Nat) (b : Bool), (∀ k, K ≤ k → rexF k x false = some b) ∧ ∀ k, K ≤ k →
    core_Check.f k x.f0 x.f1 x.f2 x.f3.f0 x.f3.f1 x.f4 x.f5 = some (if b = true ∧ szN x ≤ 2048 ∧ dpN x ≤ 24 then 0 else 1) ∧
    triglyphref10_Check.f k x.f0 x.f1 x.f2 x.f3.f0 x.f3.f1 x.f4 x.f5 = some (if b = true ∧ szN x ≤ 2048 ∧ dpN x ≤ 24 then 0 else 1) := by
  obtain ⟨K1, bi, bo, h1⟩ := ex_all h
  obtain ⟨K2, h2⟩ := sz_ev x hz
  refine ⟨K1 + K2, bo, fun k hk => (h1 k (by omega)).2.1, fun k hk => ?_⟩
  obtain ⟨_, q2, q3⟩ := h1 k (by omega)
  obtain ⟨r1, r2⟩ := h2 k (by omega)
  have q4 := q3 0 0 none ⟨by omega, by omega, by omega, by omega⟩
  have ex : (⟨x.f0, x.f1, x.f2, ⟨x.f3.f0, x.f3.f1⟩, x.f4, x.f5⟩ : S28) = x := by obtain ⟨a, b, n, ⟨l1, l2⟩, ks, p⟩ := x; rfl
  constructor
  · unfold core_Check.f
    rw [ex]
    unfold Fit at q4
    rw [show (if (none : CkU).isSome = true then bi else bo) = bo from rfl] at q4
    by_cases c : bo = true ∧ szN x ≤ 2048 ∧ dpN x ≤ 24
    · rw [if_pos ⟨c.1, by omega, by omega⟩] at q4
      rw [q4, if_pos c]
      rfl
    · rw [if_neg (fun q => c ⟨q.1, by omega, by omega⟩)] at q4
      obtain ⟨nd', u', e, _⟩ := q4
      rw [e, if_neg c]
      rfl
  · unfold triglyphref10_Check.f
    rw [ex, r1, Option.bind_some, r2, Option.bind_some, q2, Option.bind_some]
    by_cases c1 : szN x > 2048
    · rw [if_pos c1, if_neg (by omega)]
    · rw [if_neg c1]
      by_cases c2 : dpN x > 24
      · rw [if_pos c2, if_neg (by omega)]
      · rw [if_neg c2]
        cases bo with
        | true => rw [if_pos rfl, if_pos ⟨rfl, by omega, by omega⟩]
        | false => rw [if_neg (by decide), if_neg (by simp)]
end Go.Proofs.Ytfjkclhkobnakaa.Pure
