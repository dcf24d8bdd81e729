/- FragParts: what it computes is yes, for every dialect and every program. -/
import Derived.Test.YtfjkclhkobnakaaStaFragParts
import Derived.Test.YtfjkclhkobnakaaFragEq
import Derived.Test.YtfjkclhkobnakaaPx14
import Derived.Test.YtfjkclhkobnakaaPx7
namespace Go.Proofs.Ytfjkclhkobnakaa.Pure
open Go.RowKit Go.Proofs.Ytfjkclhkobnakaa.P Go.Proofs.Ytfjkclhkobnakaa.Nest Go.Proofs.YtfjkclhkobnakaaW.PrintWords Go.Proofs.YtfjkclhkobnakaaW.PrintLast Go.Proofs.YtfjkclhkobnakaaW.PrintMore
set_option linter.unusedVariables false
set_option linter.unusedSimpArgs false
def FtC (d : Int) (y : S28) : Prop := ∃ K, ∀ k, K ≤ k → frag_Fits.f k d y.f0 y.f1 y.f2 y.f3.f0 y.f3.f1 y.f4 y.f5 = some (0, 0, 0)
theorem fparts_l0 (d : Int) (x0 x1 : Int) (x2 : ByteArray) (x3 : List Int) (x4 : List S57) (x6 : Int) (rest : List S28) : ∀ (done : List S28), (∀ y ∈ rest, FtC d y) → (done ++ rest).length ≤ 4000 →
    ∃ K, ∀ k, K ≤ k → triglyphlaw24_FragParts.l0 k d (done.length : Int) x0 x1 x2 x3 x4 (done ++ rest) x6 = some true := by
  induction rest with
  | nil =>
    intro done _ hl
    refine ⟨61, fun k hk => ?_⟩
    obtain ⟨k, rfl, hk2⟩ := succ_of hk
    simp only [triglyphlaw24_FragParts.l0, List.append_nil]
    rw [if_neg (by omega), fworks_eq k (by omega)]
    rfl
  | cons y rest ih =>
    intro done hy hl
    have hs : done ++ y :: rest = (done ++ [y]) ++ rest := by simp
    have hlen : ((done ++ y :: rest).length : Int) = done.length + 1 + rest.length := by simp; omega
    have hl2 : done.length + 1 + rest.length ≤ 4000 := by simp at hl; omega
    obtain ⟨K1, h1⟩ := hy y List.mem_cons_self
    obtain ⟨K, hK⟩ := ih (done ++ [y]) (fun z hz => hy z (List.mem_cons_of_mem _ hz)) (by rw [← hs]; exact hl)
    refine ⟨K1 + K + 1, fun k hk => ?_⟩
    obtain ⟨k, rfl, hk2⟩ := succ_of hk
    simp only [triglyphlaw24_FragParts.l0]
    rw [if_pos (by omega), if_pos (by omega), rdN_mid, h1 k (by omega), Option.bind_some, if_pos rfl, wrap_next _ y (by omega), hs]
    exact hK k (by omega)
theorem fits_of {d : Int} (hd : d = 0 ∨ d = 1 ∨ d = 2) {x : S28} (h : okN x) (hz : szN x ≤ 2048) (hp : dpN x ≤ 24) (he : ∃ K, ∀ k, K ≤ k → rexF k x false = some true) {a : FgT} (ha : NdA d x a) : ∃ K, ∀ k, K ≤ k → frag_Fits.f k d x.f0 x.f1 x.f2 x.f3.f0 x.f3.f1 x.f4 x.f5 = some a := by
  obtain ⟨K1, b, h1, h2⟩ := chkN_eq x h (by omega)
  obtain ⟨K2, h3⟩ := he
  obtain ⟨_, K3, h4⟩ := ha
  have e := h1 (K1 + K2) (by omega)
  rw [h3 (K1 + K2) (by omega)] at e
  have hb : b = true := (Option.some.inj e).symm
  refine ⟨K1 + K3, fun k hk => ?_⟩
  have e1 := (h2 k (by omega)).1
  rw [if_pos ⟨hb, hz, hp⟩] at e1
  unfold frag_Fits.f
  rw [if_neg (by omega), if_neg (by omega), e1, Option.bind_some, if_pos rfl]
  have e4 := h4 k (by omega) z3 good_z
  rw [comb_z] at e4
  have ex : (⟨x.f0, x.f1, x.f2, ⟨x.f3.f0, x.f3.f1⟩, x.f4, x.f5⟩ : S28) = x := by obtain ⟨a, b, n, ⟨l1, l2⟩, ks, p⟩ := x; rfl
  rw [ex]
  exact e4
/-- What a program that may be is made of: expressions that may be. -/
theorem fkids {x : S28} (hk : x.f0 = 5 ∨ x.f0 = 6) (he : ∃ K, ∀ k, K ≤ k → rexF k x false = some true) : ∃ y ys, x.f4 = y :: ys ∧ ∀ z ∈ ys, ∃ K, ∀ k, K ≤ k → rexF k z false = some true := by
  obtain ⟨K, hK⟩ := he
  rcases hk with c | c
  · have hs : rfSh x 2 false false false = true := by
      have e := hK (K + 1) (by omega)
      rw [rexF, if_neg (by omega), if_neg (by omega), if_neg (by omega), if_pos c] at e
      refine Decidable.byContradiction (fun h => ?_)
      rw [if_neg h] at e
      cases e
    have e4 := sh_two hs
    refine ⟨_, _, e4, fun z hz2 => ?_⟩
    rw [List.mem_singleton] at hz2
    refine ⟨K, fun j hj => ?_⟩
    have e := hK (j + 1) (by omega)
    rw [rexF, if_neg (by omega), if_neg (by omega), if_neg (by omega), if_pos c, if_pos hs] at e
    obtain ⟨b, _, e2⟩ := Option.bind_eq_some_iff.1 e
    cases b with
    | false => rw [if_neg (by decide)] at e2; cases e2
    | true => rw [if_pos rfl] at e2; rw [hz2]; exact e2
  · have hs : rfSh x 3 false false false = true := by
      have e := hK (K + 1) (by omega)
      rw [rexF, if_neg (by omega), if_neg (by omega), if_neg (by omega), if_neg (by omega), if_pos c] at e
      refine Decidable.byContradiction (fun h => ?_)
      rw [if_neg h] at e
      cases e
    have e4 := sh_three hs
    refine ⟨_, _, e4, fun z hz2 => ⟨K, fun j hj => ?_⟩⟩
    have e := hK (j + 1) (by omega)
    rw [rexF, if_neg (by omega), if_neg (by omega), if_neg (by omega), if_neg (by omega), if_pos c, if_pos hs] at e
    obtain ⟨b, _, e2⟩ := Option.bind_eq_some_iff.1 e
    cases b with
    | false => rw [if_neg (by decide)] at e2; cases e2
    | true =>
      rw [if_pos rfl] at e2
      obtain ⟨b2, q1, q2⟩ := Option.bind_eq_some_iff.1 e2
      cases b2 with
      | false => rw [if_neg (by decide)] at q2; cases q2
      | true =>
        rw [if_pos rfl] at q2
        rcases List.mem_cons.1 hz2 with e | hz2
        · rw [e]; exact q1
        · rw [List.mem_singleton] at hz2
          rw [hz2]; exact q2
theorem FragParts : FragParts.Pure := by
  intro a0 x0 x1 x2 s c ks p hr hok
  have hr : 0 ≤ a0 ∧ a0 < 256 := by
    have e1 : IntKind.u8.min = 0 := by decide
    have e2 : IntKind.u8.max = 255 := by decide
    simp [Lit.wf, e1, e2] at hr
    omega
  have hw : wrap64 a0 = a0 := by unfold wrap64; omega
  have hdd : Int.tmod (wrap64 a0) 3 = a0 % 3 := by rw [hw, Int.tmod_eq_emod_of_nonneg hr.1]
  have hd : a0 % 3 = 0 ∨ a0 % 3 = 1 ∨ a0 % 3 = 2 := by omega
  obtain ⟨K1, b, hb, k1⟩ := light_eq ⟨x0, x1, x2, ⟨s, c⟩, ks, p⟩ hok
  have stop : (∃ K, ∀ k, K ≤ k → triglyphlaw24_FragParts.f k a0 x0 x1 x2 s c ks p = triglyphlaw24_FragParts.j0 k (a0 % 3) true x0 x1 x2 s c ks p) → ∃ k, triglyphlaw24_FragParts.f k a0 x0 x1 x2 s c ks p = some true := by
    rintro ⟨K, hK⟩
    refine ⟨K + 61, ?_⟩
    rw [hK (K + 61) (by omega), triglyphlaw24_FragParts.j0, if_pos rfl, fworks_eq (K + 60) (by omega)]
    rfl
  cases b with
  | false =>
    refine stop ⟨K1, fun k hk => ?_⟩
    have e1 := k1 k (by omega)
    dsimp only at e1
    unfold triglyphlaw24_FragParts.f
    rw [e1, Option.bind_some, if_neg (by decide), hdd]
  | true =>
    have hz := hb rfl
    obtain ⟨K2, b2, h2, k2⟩ := chkN_eq ⟨x0, x1, x2, ⟨s, c⟩, ks, p⟩ hok (by omega)
    by_cases cc : b2 = true ∧ szN ⟨x0, x1, x2, ⟨s, c⟩, ks, p⟩ ≤ 2048 ∧ dpN ⟨x0, x1, x2, ⟨s, c⟩, ks, p⟩ ≤ 24
    rotate_left
    · refine stop ⟨K1 + K2, fun k hk => ?_⟩
      have e1 := k1 k (by omega)
      have e2 := (k2 k (by omega)).2
      rw [if_neg cc] at e2
      dsimp only at e1 e2
      unfold triglyphlaw24_FragParts.f
      rw [e1, Option.bind_some, if_pos rfl, e2, Option.bind_some, if_neg (by decide), hdd]
    have he : ∃ K, ∀ k, K ≤ k → rexF k ⟨x0, x1, x2, ⟨s, c⟩, ks, p⟩ false = some true := ⟨K2, fun k hk => by rw [h2 k hk, cc.1]⟩
    have hwf : wfN ⟨x0, x1, x2, ⟨s, c⟩, ks, p⟩ := (wf_all K2).1 _ _ (by rw [h2 K2 (Nat.le_refl _), cc.1])
    obtain ⟨a, ha⟩ := node_ev hd _ hwf
    obtain ⟨K3, k3⟩ := fits_of hd hok cc.2.1 cc.2.2 he ha
    dsimp only at k3
    by_cases c56 : x0 = 5 ∨ x0 = 6
    rotate_left
    · refine stop ⟨K1 + K2, fun k hk => ?_⟩
      have e1 := k1 k (by omega)
      have e2 := (k2 k (by omega)).2
      rw [if_pos cc] at e2
      dsimp only at e1 e2
      unfold triglyphlaw24_FragParts.f
      rw [e1, Option.bind_some, if_pos rfl, e2, Option.bind_some, if_pos rfl, if_neg (by omega), if_neg (by omega), hdd]
    have ef : ∀ k, K1 + K2 + K3 ≤ k → triglyphlaw24_FragParts.f k a0 x0 x1 x2 s c ks p = triglyphlaw24_FragParts.j0 k (a0 % 3) (a.1 != 0) x0 x1 x2 s c ks p := by
      intro k hk
      have e1 := k1 k (by omega)
      have e2 := (k2 k (by omega)).2
      have e3 := k3 k (by omega)
      rw [if_pos cc] at e2
      dsimp only at e1 e2
      unfold triglyphlaw24_FragParts.f
      rw [e1, Option.bind_some, if_pos rfl, e2, Option.bind_some, if_pos rfl, hdd, e3, Option.bind_some]
      by_cases c5 : x0 = 5
      · rw [if_pos c5]
      · rw [if_neg c5, if_pos (by omega)]
    by_cases ca : a.1 = 0
    rotate_left
    · refine stop ⟨K1 + K2 + K3, fun k hk => ?_⟩
      rw [ef k hk, show (a.1 != 0) = true by simpa using ca]
    obtain ⟨y, ys, e4, hys⟩ := fkids (x := ⟨x0, x1, x2, ⟨s, c⟩, ks, p⟩) c56 he
    dsimp only at e4
    subst e4
    have hl := szNs_len (y :: ys)
    have hsz := cc.2.1
    rw [szN] at hsz
    obtain ⟨K4, k4⟩ := fparts_l0 (a0 % 3) x0 x1 x2 s c p ys [y] (fun z hz2 => by
      have hm : z ∈ (⟨x0, x1, x2, ⟨s, c⟩, y :: ys, p⟩ : S28).f4 := List.mem_cons_of_mem _ hz2
      have h5 := sz_mem hm
      have h6 := dp_mem hm
      have h7 := sz_of (x := (⟨x0, x1, x2, ⟨s, c⟩, y :: ys, p⟩ : S28))
      have h8 := dp_of (x := (⟨x0, x1, x2, ⟨s, c⟩, y :: ys, p⟩ : S28))
      have h9 := cc.2.1
      have h10 := cc.2.2
      exact fits_of hd (okN_kid hok hm) (by omega) (by omega) (hys z hz2) (node_parts hd hwf ha ca hm)) (by rw [List.singleton_append]; omega)
    refine ⟨K1 + K2 + K3 + K4 + 1, ?_⟩
    rw [ef _ (by omega), show (a.1 != 0) = false by simpa using ca, triglyphlaw24_FragParts.j0, if_neg (by decide)]
    exact k4 _ (by omega)
end Go.Proofs.Ytfjkclhkobnakaa.Pure
