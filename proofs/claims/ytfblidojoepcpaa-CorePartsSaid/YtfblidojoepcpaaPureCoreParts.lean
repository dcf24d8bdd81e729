/- CoreParts: what it computes is yes, for every program. -/
import Derived.Test.YtfblidojoepcpaaStaCoreParts
import Derived.Test.YtfblidojoepcpaaCoreEq2
import Derived.Test.YtfblidojoepcpaaCoreWorks
import Derived.Test.YtfblidojoepcpaaPx13
import Derived.Test.YtfblidojoepcpaaPx5
namespace Go.Proofs.Ytfblidojoepcpaa.Pure
open Go.RowKit Go.Proofs.Ytfblidojoepcpaa.P Go.Proofs.Ytfblidojoepcpaa.Nest Go.Proofs.YtfblidojoepcpaaW.PrintWords Go.Proofs.YtfblidojoepcpaaW.PrintLast Go.Proofs.YtfblidojoepcpaaW.PrintMore
def OkC (y : S34) : Prop := ∃ K, ∀ k, K ≤ k → core_Check.f k y.f0 y.f1 y.f2 y.f3.f0 y.f3.f1 y.f4 y.f5 = some 0
theorem parts_l0 (x0 x1 : Int) (x2 : ByteArray) (x3 : List Int) (x4 : List S52) (x6 : Int) (rest : List S34) : ∀ (done : List S34), (∀ y ∈ rest, OkC y) → (done ++ rest).length ≤ 4000 →
    ∃ K, ∀ k, K ≤ k → triglyphlaw10_CoreParts.l0 k (done.length : Int) x0 x1 x2 x3 x4 (done ++ rest) x6 = some true := by
  induction rest with
  | nil =>
    intro done _ hl
    refine ⟨41, fun k hk => ?_⟩
    obtain ⟨k, rfl, hk2⟩ := succ_of hk
    simp only [triglyphlaw10_CoreParts.l0, List.append_nil]
    rw [if_neg (by omega), works_eq k (by omega)]
    rfl
  | cons y rest ih =>
    intro done hy hl
    have hs : done ++ y :: rest = (done ++ [y]) ++ rest := by simp
    have hlen : ((done ++ y :: rest).length : Int) = done.length + 1 + rest.length := by simp; omega
    have hl2 : done.length + 1 + rest.length ≤ 4000 := by simp at hl; omega
    obtain ⟨K1, h1⟩ := hy y List.mem_cons_self
    obtain ⟨K, hK⟩ := ih (done ++ [y]) (fun z hz => hy z (List.mem_cons_of_mem _ hz)) (by rw [← hs]; exact hl)
    refine ⟨K1 + K + 1, fun k hk => ?_⟩
    obtain ⟨k, rfl, hk2⟩ := succ_of hk
    simp only [triglyphlaw10_CoreParts.l0]
    rw [if_pos (by omega), if_pos (by omega), rdN_mid, h1 k (by omega), Option.bind_some, if_pos rfl, wrap_next _ y (by omega), hs]
    exact hK k (by omega)
/-- What a program that may be is made of: expressions that may be. -/
theorem kid_ok {x y : S34} (hok : okN x) (hz : szN x ≤ 2048) (hd : dpN x ≤ 24) (hy : y ∈ x.f4) (he : ∃ k, ∀ j, k ≤ j → rexF j y false = some true) : OkC y := by
  have h1 := sz_mem hy
  have h2 := dp_mem hy
  have h3 := sz_of (x := x)
  have h4 := dp_of (x := x)
  obtain ⟨K, b, hb, hK⟩ := chkN_eq y (okN_kid hok hy) (by omega)
  obtain ⟨k, hk⟩ := he
  have e1 := hk (k + K) (by omega)
  rw [hb (k + K) (by omega)] at e1
  have e2 : b = true := Option.some.inj e1
  refine ⟨K, fun j hj => ?_⟩
  rw [(hK j hj).1, if_pos ⟨e2, by omega, by omega⟩]
theorem parts_kids {x : S34} (hok : okN x) (hz : szN x ≤ 2048) (hd : dpN x ≤ 24) (hk : x.f0 = 5 ∨ x.f0 = 6) (he : ∃ K, ∀ k, K ≤ k → rexF k x false = some true) : ∃ y ys, x.f4 = y :: ys ∧ ∀ z ∈ ys, OkC z := by
  obtain ⟨K, hK⟩ := he
  rcases hk with c | c
  · have hs : rfSh x 2 false false false = true := by
      have e := hK (K + 1) (by omega)
      rw [rexF, if_neg (by omega), if_neg (by omega), if_neg (by omega), if_pos c] at e
      refine Decidable.byContradiction (fun h => ?_)
      rw [if_neg h] at e
      cases e
    have e4 := sh_two hs
    refine ⟨_, _, e4, fun z hz2 => ?_⟩
    have hm : z ∈ x.f4 := by rw [e4]; exact List.mem_cons_of_mem _ hz2
    rw [List.mem_singleton] at hz2
    refine kid_ok hok hz hd hm ⟨K, fun j hj => ?_⟩
    have e := hK (j + 1) (by omega)
    rw [rexF, if_neg (by omega), if_neg (by omega), if_neg (by omega), if_pos c, if_pos hs] at e
    obtain ⟨b, _, e2⟩ := Option.bind_eq_some_iff.1 e
    cases b with
    | false => rw [if_neg (by decide)] at e2; cases e2
    | true => rw [if_pos rfl] at e2; rw [hz2]; exact e2
  · have hs : rfSh x 3 false false false = true := by
      have e := hK (K + 1) (by omega)
      rw [rexF, if_neg (by omega), if_neg (by omega), if_neg (by omega), if_neg (by omega), if_pos c] at e
      refine Decidable.byContradiction (fun h => ?_)
      rw [if_neg h] at e
      cases e
    have e4 := sh_three hs
    refine ⟨_, _, e4, fun z hz2 => ?_⟩
    have hm : z ∈ x.f4 := by rw [e4]; exact List.mem_cons_of_mem _ hz2
    refine kid_ok hok hz hd hm ⟨K, fun j hj => ?_⟩
    have e := hK (j + 1) (by omega)
    rw [rexF, if_neg (by omega), if_neg (by omega), if_neg (by omega), if_neg (by omega), if_pos c, if_pos hs] at e
    obtain ⟨b, _, e2⟩ := Option.bind_eq_some_iff.1 e
    cases b with
    | false => rw [if_neg (by decide)] at e2; cases e2
    | true =>
      rw [if_pos rfl] at e2
      obtain ⟨b2, q1, q2⟩ := Option.bind_eq_some_iff.1 e2
      cases b2 with
      | false => rw [if_neg (by decide)] at q2; cases q2
      | true =>
        rw [if_pos rfl] at q2
        rcases List.mem_cons.1 hz2 with e | hz2
        · rw [e]; exact q1
        · rw [List.mem_singleton] at hz2
          rw [hz2]; exact q2
theorem CoreParts : CoreParts.Pure := by
  intro a0 a1 a2 s c ks p hok
  obtain ⟨K1, b, hb, k1⟩ := light_eq ⟨a0, a1, a2, ⟨s, c⟩, ks, p⟩ hok
  have stop : (∃ K, ∀ k, K ≤ k → triglyphlaw10_CoreParts.f k a0 a1 a2 s c ks p = triglyphlaw10_CoreParts.j0 k true a0 a1 a2 s c ks p) → ∃ k, triglyphlaw10_CoreParts.f k a0 a1 a2 s c ks p = some true := by
    rintro ⟨K, hK⟩
    refine ⟨K + 41, ?_⟩
    rw [hK (K + 41) (by omega), triglyphlaw10_CoreParts.j0, if_pos rfl, works_eq (K + 40) (by omega)]
    rfl
  cases b with
  | false =>
    refine stop ⟨K1, fun k hk => ?_⟩
    have e1 := k1 k (by omega)
    dsimp only at e1
    unfold triglyphlaw10_CoreParts.f
    rw [e1, Option.bind_some, if_neg (by decide)]
  | true =>
    have hz := hb rfl
    obtain ⟨K2, b2, h2, k2⟩ := chkN_eq ⟨a0, a1, a2, ⟨s, c⟩, ks, p⟩ hok hz
    by_cases cc : b2 = true ∧ szN ⟨a0, a1, a2, ⟨s, c⟩, ks, p⟩ ≤ 2048 ∧ dpN ⟨a0, a1, a2, ⟨s, c⟩, ks, p⟩ ≤ 24
    · have ef : ∀ k, K1 + K2 ≤ k → triglyphlaw10_CoreParts.f k a0 a1 a2 s c ks p = if a0 = 5 then triglyphlaw10_CoreParts.j0 k false a0 a1 a2 s c ks p else triglyphlaw10_CoreParts.j0 k (a0 != 6) a0 a1 a2 s c ks p := by
        intro k hk
        have e1 := k1 k (by omega)
        have e2 := (k2 k (by omega)).2
        rw [if_pos cc] at e2
        dsimp only at e1 e2
        unfold triglyphlaw10_CoreParts.f
        rw [e1, Option.bind_some, if_pos rfl, e2, Option.bind_some, if_pos rfl]
      by_cases c56 : a0 = 5 ∨ a0 = 6
      · obtain ⟨y, ys, e4, hys⟩ := parts_kids hok cc.2.1 cc.2.2 c56 ⟨K2, fun k hk => by rw [h2 k hk, cc.1]⟩
        dsimp only at e4
        subst e4
        have hl := szNs_len (y :: ys)
        have hsz := cc.2.1
        rw [szN] at hsz
        obtain ⟨K3, k3⟩ := parts_l0 a0 a1 a2 s c p ys [y] hys (by rw [List.singleton_append]; omega)
        refine ⟨K1 + K2 + K3 + 1, ?_⟩
        rw [ef _ (by omega)]
        have ej : triglyphlaw10_CoreParts.j0 (K1 + K2 + K3 + 1) false a0 a1 a2 s c (y :: ys) p = some true := by
          rw [triglyphlaw10_CoreParts.j0, if_neg (by decide)]
          exact k3 _ (by omega)
        by_cases c5 : a0 = 5
        · rw [if_pos c5]; exact ej
        · have c6 : a0 = 6 := by omega
          rw [if_neg c5, show (a0 != 6) = false by simp [c6]]
          exact ej
      · refine stop ⟨K1 + K2, fun k hk => ?_⟩
        rw [ef k hk, if_neg (by omega), show (a0 != 6) = true by simp; omega]
    · refine stop ⟨K1 + K2, fun k hk => ?_⟩
      have e1 := k1 k (by omega)
      have e2 := (k2 k (by omega)).2
      rw [if_neg cc] at e2
      dsimp only at e1 e2
      unfold triglyphlaw10_CoreParts.f
      rw [e1, Option.bind_some, if_pos rfl, e2, Option.bind_some, if_neg (by decide)]
end Go.Proofs.Ytfblidojoepcpaa.Pure
