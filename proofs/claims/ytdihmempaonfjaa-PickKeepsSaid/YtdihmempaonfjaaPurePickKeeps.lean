/- PickKeeps: what it computes is yes, for any array. -/
import Derived.Test.YtdihmempaonfjaaStaPickKeeps
import Derived.Test.YtdihmempaonfjaaPickRep
import Derived.Test.YtdihmempaonfjaaPx13
import Derived.Test.YtdihmempaonfjaaPx14
import Derived.Test.YtdihmempaonfjaaPx3
import Derived.Test.YtdihmempaonfjaaPx6
import Derived.Test.YtdihmempaonfjaaPx8
namespace Go.Proofs.Ytdihmempaonfjaa.Pure
open Go.RowKit Go.Proofs.Ytdihmempaonfjaa.P Go.Proofs.Ytdihmempaonfjaa.Nest Go.Proofs.YtdihmempaonfjaaW.PrintWords Go.Proofs.YtdihmempaonfjaaW.PrintLast Go.Proofs.YtdihmempaonfjaaW.PrintMore
set_option linter.unusedVariables false
set_option linter.unusedSimpArgs false
theorem one_ok {c : Int} (hc : c = 0 ∨ c = 1) : okA ⟨[], one1 c⟩ ∧ chA ⟨[], one1 c⟩ 0 = 0 := by
  constructor
  · refine okA_of (by simp) (by simp) (by simp [one1]) (fun x hx => ?_)
    obtain rfl := List.mem_singleton.1 hx
    rw [okC, okAs]
    exact ⟨by decide, wf_small (by rcases hc with rfl | rfl <;> omega) (by rcases hc with rfl | rfl <;> omega), by simp, trivial⟩
  · refine chA_of (by decide) (by rw [show ((one1 c).length : Int) = 1 from rfl]; decide) (by decide) ?_
    unfold one1
    rw [chCs, chC, chB, if_pos rfl, if_pos rfl, chCs]
theorem dy_rep (op : Int) (ho : op = 50 ∨ op = 51) {c : Int} (hc : c = 0 ∨ c = 1) {s : List Int} {cs : List S45} (hok : okA ⟨s, cs⟩) (hch : chA ⟨s, cs⟩ 0 = 0) (R : List Int × List S45 × Int)
    (H : ∃ K, ∀ k, K ≤ k → pick_repeated.f k [] (one1 c) s cs (op == 51) = some R) : ∃ K, ∀ k, K ≤ k → pick_Dy.f k op [] (one1 c) s cs = some R := by
  obtain ⟨o1, o2⟩ := one_ok hc
  obtain ⟨K1, h1⟩ := check_eq ⟨[], one1 c⟩ o1
  obtain ⟨K2, h2⟩ := check_eq ⟨s, cs⟩ hok
  obtain ⟨K3, h3⟩ := copy_eq ⟨[], one1 c⟩ o1
  obtain ⟨K4, h4⟩ := copy_eq ⟨s, cs⟩ hok
  rw [o2] at h1
  rw [hch] at h2
  rw [coA_id _ 0 o2] at h3
  rw [coA_id _ 0 hch] at h4
  obtain ⟨K5, h5⟩ := H
  dsimp only at h1 h2 h3 h4
  refine ⟨K1 + K2 + K3 + K4 + K5 + 5, fun k hk => ?_⟩
  obtain ⟨k, rfl⟩ : ∃ j, k = j + 5 := ⟨k - 5, by omega⟩
  have w1 : wrap64 (0 + 1) = 1 := wrap_in (by omega) (by omega)
  have w2 : wrap64 (1 + 1) = 2 := wrap_in (by omega) (by omega)
  have g0 : rd_T25 [(⟨[], one1 c⟩ : S25), ⟨s, cs⟩] 0 = ⟨[], one1 c⟩ := rfl
  have g1 : rd_T25 [(⟨[], one1 c⟩ : S25), ⟨s, cs⟩] 1 = ⟨s, cs⟩ := rfl
  unfold pick_Dy.f
  simp only [Option.bind_some]
  rw [show ((([(⟨[], one1 c⟩ : S25), ⟨s, cs⟩] : List S25).length : Nat) : Int) = 2 from rfl]
  have q0 : ∀ (i : Nat), ((([(⟨[], one1 c⟩ : S25), ⟨s, cs⟩] : List S25).length : Nat) : Int) = 2 := fun _ => rfl
  rw [pick_Dy.l0, q0 0, if_pos (by decide), if_pos (by decide), if_pos (by decide), g0, h1 (k + 4) (by omega)]
  simp only [Option.bind_some]
  rw [if_pos trivial, w1, pick_Dy.l0, q0 0, if_pos (by decide), if_pos (by decide), if_pos (by decide), g1, h2 (k + 3) (by omega)]
  simp only [Option.bind_some]
  rw [if_pos trivial, w2, pick_Dy.l0, if_neg (by decide), h3 (k + 2) (by omega)]
  simp only [Option.bind_some]
  rw [h4 (k + 2) (by omega)]
  simp only [Option.bind_some]
  have e : ∀ b, (some (R.1, R.2.1, R.2.2) : Option (List Int × List S45 × Int)) = b → some R = b := fun b h => h
  rcases ho with rfl | rfl
  · rw [if_neg (by decide)]
    simp only [pick_Dy.j1]
    rw [if_neg (by decide), if_neg (by decide), if_neg (by decide), if_pos trivial]
    simp only [pick_Dy.j2]
    rw [if_pos (by decide), h5 k (by omega)]
    rfl
  · rw [if_neg (by decide)]
    simp only [pick_Dy.j1]
    rw [if_neg (by decide), if_neg (by decide), if_neg (by decide), if_neg (by decide)]
    simp only [pick_Dy.j2]
    rw [if_pos (by decide), h5 k (by omega)]
    rfl
theorem listed_of {s : List Int} (cs : List S45) (hs : s ≠ []) : pick_listed.f s cs = some (s, cs) := by
  unfold pick_listed.f
  rw [if_neg (by intro h; exact hs (List.eq_nil_of_length_eq_zero (by omega)))]
theorem outS_one (cs : List S45) : outS 1 cs cs.length = cs := by
  unfold outS
  rw [if_pos rfl, List.take_length]
/-- An array with an axis: repeated by ones, or noughts. -/
theorem keeps_of {s : List Int} {cs : List S45} (hs : s ≠ []) (hok : okA ⟨s, cs⟩) (hch : chA ⟨s, cs⟩ 0 = 0) :
    (∃ K, ∀ k, K ≤ k → pick_Dy.f k 50 [] (one1 1) s cs = some (s, cs, 0)) ∧ (∃ K, ∀ k, K ≤ k → pick_Dy.f k 51 [] (one1 1) s cs = some (s, cs, 0)) ∧
    ∃ r, r.length + 1 = s.length ∧ ∃ K, ∀ k, K ≤ k → pick_Dy.f k 50 [] (one1 0) s cs = some (0 :: r, [], 0) := by
  obtain ⟨p1, p2, p3, _⟩ := chA_parts hch
  obtain ⟨d, r, rfl⟩ : ∃ d r, s = d :: r := by cases s with | nil => exact absurd rfl hs | cons d r => exact ⟨d, r, rfl⟩
  refine ⟨?_, ?_, r, rfl, ?_⟩
  · obtain ⟨K, hK⟩ := rep_j0 (p := []) (d := d) (r := r) (cs := cs) 1 (.inr rfl) p1 p2 p3
    refine dy_rep 50 (.inl rfl) (.inr rfl) hok hch _ ⟨K, fun k hk => ?_⟩
    unfold pick_repeated.f
    rw [listed_of cs hs]
    simp only [Option.bind_some]
    rw [if_neg (by decide)]
    have := hK k hk
    rw [outS_one] at this
    simpa using this
  · obtain ⟨q, d', hq⟩ : ∃ q d', d :: r = q ++ [d'] := ⟨(d :: r).dropLast, (d :: r).getLast hs, (List.dropLast_concat_getLast hs).symm⟩
    have hl := sizeS_len p1
    rw [hq] at p1 p2 p3 hl hok hch hs ⊢
    obtain ⟨K, hK⟩ := rep_j0 (p := q) (d := d') (r := []) (cs := cs) 1 (.inr rfl) p1 p2 p3
    refine dy_rep 51 (.inr rfl) (.inr rfl) hok hch _ ⟨K, fun k hk => ?_⟩
    unfold pick_repeated.f
    rw [listed_of cs hs]
    simp only [Option.bind_some]
    rw [if_pos (by decide), List.length_append] at *
    have := hK k hk
    rw [outS_one, Int.mul_one] at this
    rw [show wrap64 (((q.length + [d'].length : Nat) : Int) - 1) = (q.length : Int) by rw [List.length_singleton, wrap_in (by omega) (by simp at hl; omega)]; omega]
    exact this
  · obtain ⟨K, hK⟩ := rep_j0 (p := []) (d := d) (r := r) (cs := cs) 0 (.inl rfl) p1 p2 p3
    refine dy_rep 50 (.inl rfl) (.inl rfl) hok hch _ ⟨K, fun k hk => ?_⟩
    unfold pick_repeated.f
    rw [listed_of cs hs]
    simp only [Option.bind_some]
    rw [if_neg (by decide)]
    have := hK k hk
    simpa [outS] using this
theorem PickKeeps : PickKeeps.Pure := by
  intro s cs hok
  obtain ⟨K1, h1⟩ := light_eq ⟨s, cs⟩ hok
  obtain ⟨K2, h2⟩ := rcheck_eq ⟨s, cs⟩ hok
  dsimp only at h1 h2
  by_cases hl : lightS3 ⟨s, cs⟩ = true
  case neg =>
    refine ⟨K1 + 90, ?_⟩
    unfold triglyphlaw06_PickKeeps.f
    rw [h1 _ (by omega)]
    simp only [Option.bind_some]
    rw [if_neg hl, works_eq _ (by omega)]
    rfl
  by_cases hc : chA ⟨s, cs⟩ 0 = 0
  case neg =>
    refine ⟨K1 + K2 + 90, ?_⟩
    unfold triglyphlaw06_PickKeeps.f
    rw [h1 _ (by omega)]
    simp only [Option.bind_some]
    rw [if_pos hl, h2 _ (by omega)]
    simp only [Option.bind_some]
    rw [if_neg hc, works_eq _ (by omega)]
    rfl
  have hlist : ∃ s1, triglyphref06_Listed.f s cs = some (s1, cs) ∧ s1 ≠ [] ∧ okA ⟨s1, cs⟩ ∧ chA ⟨s1, cs⟩ 0 = 0 := by
    unfold triglyphref06_Listed.f
    by_cases h0 : (s.length : Int) = 0
    · obtain rfl : s = [] := List.eq_nil_of_length_eq_zero (by omega)
      obtain ⟨q1, q2, q3, q4⟩ := chA_parts hc
      have hb := sizeS_bd []
      refine ⟨[1], by rw [if_pos h0], by simp, okA_of (by simp) (by simp) (by omega) (okA_cells hok), chA_of (by decide) ?_ (by decide) q4⟩
      rw [← q2]
      decide
    · exact ⟨s, by rw [if_neg h0], fun h => h0 (by rw [h]; rfl), hok, hc⟩
  obtain ⟨s1, e1, e2, e3, e4⟩ := hlist
  obtain ⟨⟨K3, h3⟩, ⟨K4, h4⟩, r, hr, K5, h5⟩ := keeps_of e2 e3 e4
  obtain ⟨K6, h6⟩ := rsame_eq ⟨s1, cs⟩ ⟨s1, cs⟩ e3
  rw [cmpA_self] at h6
  dsimp only at h6
  refine ⟨K1 + K2 + K3 + K4 + K5 + K6 + 90, ?_⟩
  have at1 : triglyphref03_Atom.f 1 = some ([], one1 1) := rfl
  have at0 : triglyphref03_Atom.f 0 = some ([], one1 0) := rfl
  unfold triglyphlaw06_PickKeeps.f
  rw [h1 _ (by omega)]
  simp only [Option.bind_some]
  rw [if_pos hl, h2 _ (by omega)]
  simp only [Option.bind_some]
  rw [if_pos hc, e1]
  simp only [Option.bind_some, at1, at0]
  rw [h3 _ (by omega)]
  simp only [Option.bind_some]
  rw [h4 _ (by omega)]
  simp only [Option.bind_some]
  rw [h5 _ (by omega)]
  simp only [Option.bind_some]
  rw [if_pos True.intro, if_pos True.intro, if_pos True.intro, h6 _ (by omega)]
  simp only [Option.bind_some]
  rw [if_pos (by decide), if_pos (by decide), if_pos (by rw [List.length_cons]; omega), if_pos (by rw [List.length_cons]; omega), if_pos (by rfl), works_eq _ (by omega)]
  rfl
end Go.Proofs.Ytdihmempaonfjaa.Pure
