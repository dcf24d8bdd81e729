/- PickRotates: what it computes is yes, for any array and any numbers. -/
import Derived.Test.YtdihmempaonfjaaStaPickRotates
import Derived.Test.YtdihmempaonfjaaPickRot2
import Derived.Test.YtdihmempaonfjaaPx13
import Derived.Test.YtdihmempaonfjaaPx6
import Derived.Test.YtdihmempaonfjaaPx7
import Derived.Test.YtdihmempaonfjaaPx8
namespace Go.Proofs.Ytdihmempaonfjaa.Pure
open Go.RowKit Go.Proofs.Ytdihmempaonfjaa.P Go.Proofs.Ytdihmempaonfjaa.Nest Go.Proofs.YtdihmempaonfjaaW.PrintWords Go.Proofs.YtdihmempaonfjaaW.PrintLast Go.Proofs.YtdihmempaonfjaaW.PrintMore
set_option linter.unusedVariables false
set_option linter.unusedSimpArgs false
/-- What may be, rotated, may be; what rotates it tells, by a function of the number. -/
theorem rot_all (last : Bool) {s : List Int} {cs : List S45} (hok : okA ⟨s, cs⟩) (hch : chA ⟨s, cs⟩ 0 = 0) : ∃ F : Int → List S45 → List S45,
    (∀ n, -9223372036854775808 ≤ n ∧ n ≤ 9223372036854775807 → ∃ K, ∀ k, K ≤ k → pick_Dy.f k (if last = true then 45 else 44) [] (one1 n) s cs = some (s, F n cs, 0)) ∧
    (∀ m n, -9223372036854775808 ≤ n ∧ n ≤ 9223372036854775807 → ∃ K, ∀ k, K ≤ k → pick_Dy.f k (if last = true then 45 else 44) [] (one1 n) s (F m cs) = some (s, F (m + n) cs, 0)) ∧
    (∀ m, okA ⟨s, F m cs⟩) ∧
    (s ≠ [] → F (rd s (if last = true then (s.length : Int) - 1 else 0)) cs = cs) := by
  obtain ⟨p1, p2, p3, p4⟩ := chA_parts hch
  have hb := sizeS_bd s
  have hlen := sizeS_len p1
  have hnn := sizeS_nonneg p1
  have ho : (if last = true then (45 : Int) else 44) = 44 ∨ (if last = true then (45 : Int) else 44) = 45 := by cases last <;> simp
  by_cases hs : s = []
  · subst hs
    have key : ∀ n, ∃ K, ∀ k, K ≤ k → pick_rotated.f k n [] cs (if (if last = true then (45 : Int) else 44) = 44 then 0 else wrap64 (((([] : List Int).length : Nat) : Int) - 1)) = some ([], cs) := by
      intro n
      refine ⟨1, fun k hk => ?_⟩
      obtain ⟨k, rfl, _⟩ := succ_of (K := 0) hk
      unfold pick_rotated.f
      split
      · rw [pick_rotated.j0, if_pos rfl]
      · rw [show (((([] : List Int).length : Nat) : Int) == 0) = true from rfl, pick_rotated.j0, if_pos rfl]
    refine ⟨fun _ c => c, fun n hn => dy_rot _ ho hn hok hch _ (key n), fun m n hn => dy_rot _ ho hn hok hch _ (key n), fun _ => hok, fun h => absurd rfl h⟩
  · obtain ⟨p, d, r, rfl, ha, hb2⟩ := axis_of hs last
    have hax : (if (if last = true then (45 : Int) else 44) = 44 then 0 else wrap64 (((p ++ d :: r).length : Int) - 1)) = (p.length : Int) := by
      cases last with
      | true => rw [if_neg (by decide), wrap_in (by omega) (by omega)]; have := ha rfl; omega
      | false => rw [if_pos (by decide)]; have := hb2 rfl; omega
    have hax2 : (if last = true then ((p ++ d :: r).length : Int) - 1 else 0) = (p.length : Int) := by
      cases last with
      | true => rw [if_pos rfl]; have := ha rfl; omega
      | false => rw [if_neg (by decide)]; have := hb2 rfl; omega
    have hcl : cs.length ≤ 16384 := by omega
    have hval : ∀ m, okA ⟨p ++ d :: r, rotC p d r m cs⟩ ∧ chA ⟨p ++ d :: r, rotC p d r m cs⟩ 0 = 0 := by
      intro m
      have hl := (rotC_two (m := m) (n := 0) p1 p2).1
      have hc := okA_cells hok
      have hc2 := chCs_all.1 p4
      refine ⟨okA_of (by omega) (fun x hx => ⟨hnn x hx, ?_⟩) (by omega) (fun x hx => hc x (rotC_mem hx)), chA_of p1 (by rw [p2, hl]) p3 (chCs_all.2 fun x hx => hc2 x (rotC_mem hx))⟩
      have := List.any_eq_false.1 p3 x hx
      simp only [decide_eq_true_iff] at this
      omega
    refine ⟨rotC p d r, fun n hn => ?_, fun m n hn => ?_, fun m => (hval m).1, fun _ => ?_⟩
    · have := rot_eq n hn p1 p2 p3
      rw [← hax] at this
      exact dy_rot _ ho hn hok hch _ this
    · have := rot_eq n hn p1 (cs := rotC p d r m cs) (by rw [p2, (rotC_two (m := m) (n := 0) p1 p2).1]) p3
      rw [← hax, (rotC_two (m := m) (n := n) p1 p2).2] at this
      exact dy_rot _ ho hn (hval m).1 (hval m).2 _ this
    · rw [hax2, rd_mid]
      exact rotC_turn p1 p2
theorem PickRotates : PickRotates.Pure := by
  intro s cs m n last hok hm hn
  obtain ⟨K1, h1⟩ := light_eq ⟨s, cs⟩ hok
  obtain ⟨K2, h2⟩ := rcheck_eq ⟨s, cs⟩ hok
  dsimp only at h1 h2
  by_cases hl : lightS3 ⟨s, cs⟩ = true
  case neg =>
    refine ⟨K1 + 90, ?_⟩
    unfold triglyphlaw06_PickRotates.f
    rw [h1 _ (by omega)]
    simp only [Option.bind_some]
    rw [if_neg hl, works_eq _ (by omega)]
    rfl
  by_cases hc : chA ⟨s, cs⟩ 0 = 0
  case neg =>
    refine ⟨K1 + K2 + 90, ?_⟩
    unfold triglyphlaw06_PickRotates.f
    rw [h1 _ (by omega)]
    simp only [Option.bind_some]
    rw [if_pos hl, h2 _ (by omega)]
    simp only [Option.bind_some]
    rw [if_neg hc, works_eq _ (by omega)]
    rfl
  have b32 : ∀ {x : Int}, (Lit.int .i32 x).wf = true → -2147483648 ≤ x ∧ x ≤ 2147483647 := by
    intro x hx
    unfold Lit.wf at hx
    rw [Bool.and_eq_true] at hx
    exact ⟨of_decide_eq_true hx.1, of_decide_eq_true hx.2⟩
  have bm := b32 hm
  have bn := b32 hn
  obtain ⟨F, f1, f2, f3, f4⟩ := rot_all last hok hc
  have at' : ∀ x, triglyphref03_Atom.f x = some ([], one1 x) := fun _ => rfl
  have wm : wrap64 m = m := wrap_in (by omega) (by omega)
  have wn : wrap64 n = n := wrap_in (by omega) (by omega)
  have wmn : wrap64 (m + n) = m + n := wrap_in (by omega) (by omega)
  obtain ⟨K3, h3⟩ := f1 m (by omega)
  obtain ⟨K4, h4⟩ := f2 m n (by omega)
  obtain ⟨K5, h5⟩ := f1 (m + n) (by omega)
  obtain ⟨K6, h6⟩ := rsame_eq ⟨s, F (m + n) cs⟩ ⟨s, F (m + n) cs⟩ (f3 _)
  obtain ⟨K7, h7⟩ := rsame_eq ⟨s, cs⟩ ⟨s, cs⟩ hok
  rw [cmpA_self] at h6 h7
  dsimp only at h6 h7
  have hlen := sizeS_len (chA_parts hc).1
  have hnn := sizeS_nonneg (chA_parts hc).1
  have hsm := (chA_parts hc).2.2.1
  have hrd : ∀ i : Int, -9223372036854775808 ≤ rd s i ∧ rd s i ≤ 9223372036854775807 := by
    intro i
    unfold rd
    rw [List.getD_eq_getElem?_getD]
    cases hx : s[i.toNat]? with
    | none => exact ⟨by decide, by decide⟩
    | some x =>
      have hx2 := List.mem_of_getElem? hx
      have a := hnn x hx2
      have b := List.any_eq_false.1 hsm x hx2
      simp only [decide_eq_true_iff] at b
      simp only [Option.getD_some]
      omega
  cases last with
  | true =>
    rw [if_pos rfl] at h3 h4 h5
    obtain ⟨K8, h8⟩ := f1 (rd s ((s.length : Int) - 1)) (hrd _)
    rw [if_pos rfl] at h8 f4
    refine ⟨K1 + K2 + K3 + K4 + K5 + K6 + K7 + K8 + 90, ?_⟩
    unfold triglyphlaw06_PickRotates.f
    rw [h1 _ (by omega)]
    simp only [Option.bind_some]
    rw [if_pos hl, h2 _ (by omega)]
    simp only [Option.bind_some, at', wm, wn, wmn]
    rw [if_pos hc, if_pos True.intro, h3 _ (by omega)]
    simp only [Option.bind_some]
    rw [h4 _ (by omega)]
    simp only [Option.bind_some]
    rw [h5 _ (by omega)]
    simp only [Option.bind_some]
    rw [if_pos True.intro, if_pos True.intro, if_pos True.intro, h6 _ (by omega)]
    simp only [Option.bind_some]
    rw [if_pos (by decide)]
    by_cases hs : (s.length : Int) = 0
    · rw [if_pos hs, if_pos (by decide), works_eq _ (by omega)]
      rfl
    · have w : wrap64 ((s.length : Int) - 1) = (s.length : Int) - 1 := wrap_in (by omega) (by omega)
      rw [if_neg hs, if_pos (by omega), w, if_pos (by omega), h8 _ (by omega), f4 (fun e => hs (by rw [e]; rfl))]
      simp only [Option.bind_some]
      rw [if_pos True.intro, h7 _ (by omega)]
      simp only [Option.bind_some]
      rw [if_pos (by decide), works_eq _ (by omega)]
      rfl
  | false =>
    rw [if_neg (by decide)] at h3 h4 h5
    obtain ⟨K8, h8⟩ := f1 (rd s 0) (hrd _)
    rw [if_neg (by decide)] at h8 f4
    refine ⟨K1 + K2 + K3 + K4 + K5 + K6 + K7 + K8 + 90, ?_⟩
    unfold triglyphlaw06_PickRotates.f
    rw [h1 _ (by omega)]
    simp only [Option.bind_some]
    rw [if_pos hl, h2 _ (by omega)]
    simp only [Option.bind_some, at', wm, wn, wmn]
    rw [if_pos hc, if_neg (by decide), h3 _ (by omega)]
    simp only [Option.bind_some]
    rw [h4 _ (by omega)]
    simp only [Option.bind_some]
    rw [h5 _ (by omega)]
    simp only [Option.bind_some]
    rw [if_pos True.intro, if_pos True.intro, if_pos True.intro, h6 _ (by omega)]
    simp only [Option.bind_some]
    rw [if_pos (by decide)]
    by_cases hs : (s.length : Int) = 0
    · rw [if_pos hs, if_pos (by decide), works_eq _ (by omega)]
      rfl
    · rw [if_neg hs, if_pos (by omega), h8 _ (by omega), f4 (fun e => hs (by rw [e]; rfl))]
      simp only [Option.bind_some]
      rw [if_pos True.intro, h7 _ (by omega)]
      simp only [Option.bind_some]
      rw [if_pos (by decide), works_eq _ (by omega)]
      rfl
end Go.Proofs.Ytdihmempaonfjaa.Pure
