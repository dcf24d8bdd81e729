/- How arrays stand to one another: the reference tells what the package tells. -/
import Derived.Test.YtahgfebdjjfkhaaArr1
import Derived.Test.YtahgfebdjjfkhaaPx10
import Derived.Test.YtahgfebdjjfkhaaPx11
import Derived.Test.YtahgfebdjjfkhaaPx12
namespace Go.Proofs.Ytahgfebdjjfkhaa.Pure
open Go.RowKit Go.Proofs.Ytahgfebdjjfkhaa.P Go.Proofs.Ytahgfebdjjfkhaa.Nest Go.Proofs.YtahgfebdjjfkhaaW.PrintWords Go.Proofs.YtahgfebdjjfkhaaW.PrintLast Go.Proofs.YtahgfebdjjfkhaaW.PrintMore
set_option linter.unusedVariables false
set_option linter.unusedSimpArgs false
def ordI (a b : Int) : Int := if a < b then -1 else if a > b then 1 else 0
def shp : List Int → List Int → Int
  | [], _ => 0
  | _ :: _, [] => 0
  | x :: xs, y :: ys => if ordI x y ≠ 0 then ordI x y else shp xs ys
mutual
def cmpA : S25 → S25 → Int
  | ⟨s, c⟩, b => if ordI s.length b.f0.length ≠ 0 then ordI s.length b.f0.length else if shp s b.f0 ≠ 0 then shp s b.f0 else if cmpCs c b.f1 ≠ 0 then cmpCs c b.f1 else ordI c.length b.f1.length
def cmpCs : List S43 → List S43 → Int
  | [], _ => 0
  | _ :: _, [] => 0
  | x :: xs, y :: ys => if cmpC x y ≠ 0 then cmpC x y else cmpCs xs ys
def cmpC : S43 → S43 → Int
  | ⟨k, n, bx⟩, d => if ordI k d.f0 ≠ 0 then ordI k d.f0 else if ordI n d.f1 ≠ 0 then ordI n d.f1 else cmpB bx d.f2
def cmpB : List S25 → List S25 → Int
  | [], y => ordI 0 y.length
  | x :: xs, [] => ordI ((x :: xs).length) 0
  | x :: _, y :: _ => cmpA x y
end
theorem ordI_zero {a b : Int} : ordI a b = 0 ↔ a = b := by
  unfold ordI
  split
  · omega
  · split <;> omega
theorem rints_eq (a b : Int) : triglyphref03_ints.f a b = some (ordI a b) := by
  unfold triglyphref03_ints.f ordI
  split
  · rfl
  · split <;> rfl
theorem rdA_first (x : S25) (xs : List S25) : rd_T25 (x :: xs) 0 = x := rdA_mid [] x xs
theorem rc_l1_nz {o i : Int} {s t : List Int} {c e : List S43} (ho : o ≠ 0) : ∀ k, 1 ≤ k → triglyphref03_Cmp.l1 k o i s c t e = some o := by
  intro k hk
  obtain ⟨k, rfl, _⟩ := succ_of (K := 0) hk
  simp [triglyphref03_Cmp.l1, ho]
theorem rc_l0_nz {o i : Int} {s t : List Int} {c e : List S43} (ho : o ≠ 0) : ∀ k, 3 ≤ k → triglyphref03_Cmp.l0 k o i s c t e = some o := by
  intro k hk
  obtain ⟨k, rfl, hk2⟩ := succ_of (K := 2) hk
  obtain ⟨k, rfl, hk3⟩ := succ_of (K := 1) hk2
  have := rc_l1_nz (i := 0) (s := s) (t := t) (c := c) (e := e) ho k hk3
  simp [triglyphref03_Cmp.l0, triglyphref03_Cmp.j1, ho, this]
theorem rc_l0 (c e : List S43) (s t : List Int) (R : Int) (K : Nat) (H : ∀ k, K ≤ k → triglyphref03_Cmp.l1 k 0 0 s c t e = some R) (hl : s.length * 8 ≤ reachBytes) : ∀ (rest done brest bdone : List Int), s = done ++ rest → t = bdone ++ brest → done.length = bdone.length → rest.length = brest.length →
    ∃ K, ∀ k, K ≤ k → triglyphref03_Cmp.l0 k 0 (done.length : Int) s c t e = some (if shp rest brest ≠ 0 then shp rest brest else R)
  | [], done, brest, bdone, hs, ht, hd, hr => by
    refine ⟨K + 2, fun k hk => ?_⟩
    obtain ⟨k, rfl, hk2⟩ := succ_of (K := K + 1) hk
    obtain ⟨k, rfl, hk3⟩ := succ_of hk2
    simp only [triglyphref03_Cmp.l0, triglyphref03_Cmp.j1]
    rw [if_neg (by rw [hs]; simp), H k hk3, shp, if_neg (by simp)]
  | x :: rest, done, [], bdone, hs, ht, hd, hr => by cases hr
  | x :: rest, done, y :: brest, bdone, hs, ht, hd, hr => by
    have hlen : (s.length : Int) = done.length + 1 + rest.length := by rw [hs]; simp; omega
    have hr2 : rest.length = brest.length := by simpa using hr
    have hlen2 : (t.length : Int) = done.length + 1 + rest.length := by rw [ht, hd, hr2]; simp; omega
    have e1 : rd s (done.length : Int) = x := by rw [hs, rd_mid]
    have e2 : rd t (done.length : Int) = y := by rw [ht, hd, rd_mid]
    unfold reachBytes at hl
    have hw : wrap64 ((done.length : Int) + 1) = ((done ++ [x]).length : Int) := wrap_next _ x (by omega)
    rw [shp]
    by_cases ho : ordI x y = 0
    · obtain ⟨K2, hK2⟩ := rc_l0 c e s t R K H (by unfold reachBytes; exact hl) rest (done ++ [x]) brest (bdone ++ [y]) (by rw [hs]; simp) (by rw [ht]; simp) (by simpa using hd) hr2
      refine ⟨K2 + 1, fun k hk => ?_⟩
      obtain ⟨k, rfl, hk2⟩ := succ_of hk
      simp only [triglyphref03_Cmp.l0]
      rw [if_pos (by omega), if_pos True.intro, if_pos (by omega), if_pos (by omega), e1, e2, rints_eq]
      simp only [Option.bind_some]
      rw [hw, ho, if_neg (show ¬ (0 : Int) ≠ 0 by simp)]
      exact hK2 k hk2
    · rw [if_pos ho, if_pos ho]
      refine ⟨4, fun k hk => ?_⟩
      obtain ⟨k, rfl, hk2⟩ := succ_of (K := 3) hk
      simp only [triglyphref03_Cmp.l0]
      rw [if_pos (by omega), if_pos True.intro, if_pos (by omega), if_pos (by omega), e1, e2, rints_eq]
      simp only [Option.bind_some]
      exact rc_l0_nz ho k hk2
mutual
theorem rc_evA : ∀ (a b : S25), okA a → ∃ K, ∀ k, K ≤ k → triglyphref03_Cmp.f k a.f0 a.f1 b.f0 b.f1 = some (cmpA a b)
  | ⟨s, c⟩, ⟨t, e⟩, h => by
    rw [okA] at h
    obtain ⟨⟨hs, _⟩, hc, hcs⟩ := h
    rw [cmpA]
    simp only
    by_cases hr : ordI s.length t.length = 0
    · rw [if_neg (by rw [hr]; simp)]
      have hr2 : s.length = t.length := by have := ordI_zero.1 hr; omega
      obtain ⟨K1, hK1⟩ := rc_evCs c e [] [] s t rfl hcs (by simpa using hc)
      obtain ⟨K2, hK2⟩ := rc_l0 c e s t _ K1 (fun k hk => by simpa using hK1 k hk) hs s [] t [] rfl rfl rfl hr2
      refine ⟨K2 + 1, fun k hk => ?_⟩
      obtain ⟨k, rfl, hk2⟩ := succ_of hk
      simp only [triglyphref03_Cmp.f]
      rw [rints_eq]
      simp only [Option.bind_some]
      rw [hr]
      simpa using hK2 k hk2
    · rw [if_pos hr]
      refine ⟨4, fun k hk => ?_⟩
      obtain ⟨k, rfl, hk2⟩ := succ_of (K := 3) hk
      simp only [triglyphref03_Cmp.f]
      rw [rints_eq]
      simp only [Option.bind_some]
      exact rc_l0_nz hr k hk2
theorem rc_evCs : ∀ (rest brest done bdone : List S43) (s t : List Int), done.length = bdone.length → okCs rest → (done ++ rest).length * 40 ≤ reachBytes →
    ∃ K, ∀ k, K ≤ k → triglyphref03_Cmp.l1 k 0 (done.length : Int) s (done ++ rest) t (bdone ++ brest) = some (if cmpCs rest brest ≠ 0 then cmpCs rest brest else ordI (done ++ rest).length (bdone ++ brest).length)
  | [], brest, done, bdone, s, t, hd, h, hl => by
    refine ⟨1, fun k hk => ?_⟩
    obtain ⟨k, rfl, hk2⟩ := succ_of (K := 0) hk
    simp only [triglyphref03_Cmp.l1]
    rw [if_neg (by simp), if_pos True.intro, cmpCs, if_neg (by simp), rints_eq]
    rfl
  | x :: rest, [], done, bdone, s, t, hd, h, hl => by
    refine ⟨1, fun k hk => ?_⟩
    obtain ⟨k, rfl, hk2⟩ := succ_of (K := 0) hk
    simp only [triglyphref03_Cmp.l1]
    rw [if_pos (by rw [List.length_append, List.length_cons]; omega), if_neg (by simp; omega), if_pos True.intro, cmpCs, if_neg (by simp), rints_eq]
    rfl
  | x :: rest, y :: brest, done, bdone, s, t, hd, h, hl => by
    rw [okCs] at h
    have hl' := hl
    unfold reachBytes at hl'
    rw [List.length_append, List.length_cons] at hl'
    have hs : done ++ x :: rest = (done ++ [x]) ++ rest := by simp
    have ht : bdone ++ y :: brest = (bdone ++ [y]) ++ brest := by simp
    have hw : wrap64 ((done.length : Int) + 1) = ((done ++ [x]).length : Int) := wrap_next _ x (by omega)
    have e2 : rd_T43 (bdone ++ y :: brest) (done.length : Int) = y := by rw [hd, rdC_mid]
    obtain ⟨K0, hK0⟩ := rc_evC x y h.1
    rw [cmpCs]
    by_cases ho : cmpC x y = 0
    · obtain ⟨K2, hK2⟩ := rc_evCs rest brest (done ++ [x]) (bdone ++ [y]) s t (by simpa using hd) h.2 (by rw [← hs]; exact hl)
      refine ⟨K0 + K2 + 1, fun k hk => ?_⟩
      obtain ⟨k, rfl, hk2⟩ := succ_of hk
      simp only [triglyphref03_Cmp.l1]
      rw [if_pos (by rw [List.length_append, List.length_cons]; omega), if_pos (by rw [List.length_append, List.length_cons]; omega), if_pos True.intro, if_pos (by omega), rdC_mid, e2, hK0 k (by omega)]
      simp only [Option.bind_some]
      rw [hw, ho, if_neg (show ¬ (0 : Int) ≠ 0 by simp), hs, ht]
      exact hK2 k (by omega)
    · rw [if_pos ho, if_pos ho]
      refine ⟨K0 + 2, fun k hk => ?_⟩
      obtain ⟨k, rfl, hk2⟩ := succ_of (K := K0 + 1) hk
      simp only [triglyphref03_Cmp.l1]
      rw [if_pos (by rw [List.length_append, List.length_cons]; omega), if_pos (by rw [List.length_append, List.length_cons]; omega), if_pos True.intro, if_pos (by omega), rdC_mid, e2, hK0 k (by omega)]
      simp only [Option.bind_some]
      exact rc_l1_nz ho k (by omega)
theorem rc_evC : ∀ (x y : S43), okC x → ∃ K, ∀ k, K ≤ k → triglyphref03_Cell.f k x.f0 x.f1 x.f2 y.f0 y.f1 y.f2 = some (cmpC x y)
  | ⟨k1, n1, b1⟩, ⟨k2, n2, b2⟩, h => by
    rw [okC] at h
    obtain ⟨K, hK⟩ := rc_evB b1 b2 k1 n1 k2 n2 h.2.2.2
    rw [cmpC]
    simp only
    refine ⟨K + 3, fun k hk => ?_⟩
    obtain ⟨k, rfl, hk2⟩ := succ_of (K := K + 2) hk
    simp only [triglyphref03_Cell.f]
    rw [rints_eq]
    simp only [Option.bind_some]
    by_cases h1 : ordI k1 k2 = 0
    · rw [if_pos h1, if_neg (by rw [h1]; simp), rints_eq]
      simp only [Option.bind_some]
      by_cases h2 : ordI n1 n2 = 0
      · rw [if_neg (by rw [h2]; simp), h2]
        exact hK k (by omega)
      · rw [if_pos h2]
        obtain ⟨k, rfl, hk3⟩ := succ_of (K := K + 1) hk2
        obtain ⟨k, rfl, hk4⟩ := succ_of hk3
        simp [triglyphref03_Cell.j0, triglyphref03_Cell.j1, h2]
    · rw [if_neg h1, if_pos h1]
      obtain ⟨k, rfl, hk3⟩ := succ_of (K := K + 1) hk2
      obtain ⟨k, rfl, hk4⟩ := succ_of hk3
      simp [triglyphref03_Cell.j0, triglyphref03_Cell.j1, h1]
theorem rc_evB : ∀ (b1 b2 : List S25) (k1 n1 k2 n2 : Int), okAs b1 → ∃ K, ∀ k, K ≤ k → triglyphref03_Cell.j0 k 0 k1 n1 b1 k2 n2 b2 = some (cmpB b1 b2)
  | [], b2, k1, n1, k2, n2, h => by
    refine ⟨2, fun k hk => ?_⟩
    obtain ⟨k, rfl, hk2⟩ := succ_of (K := 1) hk
    obtain ⟨k, rfl, hk3⟩ := succ_of (K := 0) hk2
    simp only [triglyphref03_Cell.j0, triglyphref03_Cell.j1]
    rw [if_pos True.intro, if_neg (by simp), if_neg (by simp), if_pos True.intro, rints_eq, cmpB]
    rfl
  | x :: xs, [], k1, n1, k2, n2, h => by
    refine ⟨2, fun k hk => ?_⟩
    obtain ⟨k, rfl, hk2⟩ := succ_of (K := 1) hk
    obtain ⟨k, rfl, hk3⟩ := succ_of (K := 0) hk2
    simp only [triglyphref03_Cell.j0, triglyphref03_Cell.j1]
    rw [if_pos True.intro, if_pos (by rw [List.length_cons]; omega), if_neg (by simp), if_pos True.intro, rints_eq, cmpB]
    rfl
  | x :: xs, y :: ys, k1, n1, k2, n2, h => by
    rw [okAs] at h
    obtain ⟨K, hK⟩ := rc_evA x y h.1
    refine ⟨K + 2, fun k hk => ?_⟩
    obtain ⟨k, rfl, hk2⟩ := succ_of (K := K + 1) hk
    obtain ⟨k, rfl, hk3⟩ := succ_of hk2
    simp only [triglyphref03_Cell.j0, triglyphref03_Cell.j1]
    rw [if_pos True.intro, if_pos (by rw [List.length_cons]; omega), decide_eq_true (by rw [List.length_cons]; omega), if_pos rfl, if_pos (by rw [List.length_cons]; omega), if_pos (by rw [List.length_cons]; omega), rdA_first, rdA_first, hK k hk3, cmpB]
    rfl
end
theorem rsame_eq (a b : S25) (h : okA a) : ∃ K, ∀ k, K ≤ k → triglyphref03_Same.f k a.f0 a.f1 b.f0 b.f1 = some (cmpA a b == 0) := by
  obtain ⟨K, hK⟩ := rc_evA a b h
  refine ⟨K, fun k hk => ?_⟩
  unfold triglyphref03_Same.f
  rw [hK k hk]
  rfl
theorem ordI_self (a : Int) : ordI a a = 0 := ordI_zero.2 rfl
theorem shp_self : ∀ s : List Int, shp s s = 0
  | [] => rfl
  | x :: xs => by rw [shp, if_neg (by simp [ordI_self]), shp_self xs]
mutual
theorem cmpA_self : ∀ a : S25, cmpA a a = 0
  | ⟨s, c⟩ => by rw [cmpA]; simp [ordI_self, shp_self, cmpCs_self c]
theorem cmpCs_self : ∀ c : List S43, cmpCs c c = 0
  | [] => by rw [cmpCs]
  | x :: xs => by rw [cmpCs]; simp [cmpC_self x, cmpCs_self xs]
theorem cmpC_self : ∀ x : S43, cmpC x x = 0
  | ⟨k, n, b⟩ => by rw [cmpC]; simp [ordI_self, cmpB_self b]
theorem cmpB_self : ∀ b : List S25, cmpB b b = 0
  | [] => by rw [cmpB]; exact ordI_self 0
  | x :: xs => by rw [cmpB]; exact cmpA_self x
end
end Go.Proofs.Ytahgfebdjjfkhaa.Pure
