/- The order of arrays: turned round it is turned, and it leads from one to the next. -/
import Derived.Test.YtlnphoeogpfjkaaArr5

namespace Go.Proofs.Ytlnphoeogpfjkaa.Pure
open Go.RowKit Go.Proofs.Ytlnphoeogpfjkaa.P Go.Proofs.Ytlnphoeogpfjkaa.Nest Go.Proofs.YtlnphoeogpfjkaaW.PrintWords Go.Proofs.YtlnphoeogpfjkaaW.PrintLast Go.Proofs.YtlnphoeogpfjkaaW.PrintMore
set_option linter.unusedVariables false
set_option linter.unusedSimpArgs false
/-- Of three: turned round it is turned; the same stand alike; it leads on. -/
def G3 (ab ba bc ac : Int) : Prop := ab = -ba ∧ (ab = 0 → ac = bc) ∧ (bc = 0 → ab = ac) ∧ (ab < 0 → bc < 0 → ac < 0) ∧ (0 < ab → 0 < bc → 0 < ac)
def lex (x y : Int) : Int := if x ≠ 0 then x else y
theorem lex_G3 {ab ba bc ac ab' ba' bc' ac' : Int} (h : G3 ab ba bc ac) (h' : G3 ab' ba' bc' ac') : G3 (lex ab ab') (lex ba ba') (lex bc bc') (lex ac ac') := by
  obtain ⟨a1, a2, a3, a4, a5⟩ := h
  obtain ⟨b1, b2, b3, b4, b5⟩ := h'
  unfold lex
  refine ⟨?_, ?_, ?_, ?_, ?_⟩ <;> (repeat' split) <;> omega
theorem ord_G3 (a b c : Int) : G3 (ordI a b) (ordI b a) (ordI b c) (ordI a c) := by
  unfold ordI
  refine ⟨?_, ?_, ?_, ?_, ?_⟩ <;> (repeat' split) <;> omega
theorem G3_end {ab ba e : Int} (h : ab = -ba) (he : e ≠ 0) : G3 ab ba e e := ⟨h, fun _ => rfl, fun h0 => absurd h0 he, fun _ h1 => h1, fun _ h1 => h1⟩
def shpL : List Int → List Int → Int
  | [], [] => 0
  | [], _ :: _ => -1
  | _ :: _, [] => 1
  | x :: xs, y :: ys => lex (ordI x y) (shpL xs ys)
theorem shpL_eq : ∀ {s t : List Int}, s.length = t.length → shp s t = shpL s t
  | [], [], _ => rfl
  | [], _ :: _, h => by cases h
  | _ :: _, [], h => by cases h
  | x :: xs, y :: ys, h => by
    rw [shp, shpL, lex, shpL_eq (s := xs) (t := ys) (by simpa using h)]
theorem shpL_G3 : ∀ (a b c : List Int), G3 (shpL a b) (shpL b a) (shpL b c) (shpL a c)
  | [], [], [] => by simp [shpL, G3]
  | [], [], _ :: _ => by simp [shpL, G3]
  | [], _ :: _, [] => by simp [shpL, G3]
  | [], x :: xs, y :: ys => by simp [shpL, G3]
  | _ :: _, [], [] => by simp [shpL, G3]
  | _ :: _, [], _ :: _ => by simp [shpL, G3]
  | x :: xs, y :: ys, [] => by
    simp only [shpL]
    exact G3_end (lex_G3 (ord_G3 x y x) (shpL_G3 xs ys xs)).1 (by simp)
  | x :: xs, y :: ys, z :: zs => by
    simp only [shpL]
    exact lex_G3 (ord_G3 x y z) (shpL_G3 xs ys zs)
def cmpL (c d : List S28) : Int := lex (cmpCs c d) (ordI c.length d.length)
theorem lex_assoc (a b c : Int) : lex (lex a b) c = lex a (lex b c) := by unfold lex; repeat' split <;> simp_all
theorem cmpL_cons (x : S28) (xs : List S28) (y : S28) (ys : List S28) : cmpL (x :: xs) (y :: ys) = lex (cmpC x y) (cmpL xs ys) := by
  unfold cmpL
  rw [cmpCs]
  have : ordI (x :: xs).length (y :: ys).length = ordI xs.length ys.length := by unfold ordI; simp
  rw [this]
  unfold lex
  repeat' split <;> simp_all
theorem cmpA_lex (s : List Int) (c : List S28) (t : List Int) (d : List S28) : cmpA ⟨s, c⟩ ⟨t, d⟩ = lex (ordI s.length t.length) (lex (shpL s t) (cmpL c d)) := by
  rw [cmpA]
  simp only
  by_cases h : ordI s.length t.length = 0
  · have h2 := ordI_zero.1 h
    rw [shpL_eq (by omega)]
    simp only [lex, cmpL]
  · unfold lex
    rw [if_pos h, if_pos h]
theorem cmpL_nil_cons (y : S28) (ys : List S28) : cmpL [] (y :: ys) = -1 := by
  unfold cmpL lex
  rw [cmpCs]
  simp [ordI] <;> omega
theorem cmpL_cons_nil (y : S28) (ys : List S28) : cmpL (y :: ys) [] = 1 := by
  unfold cmpL lex
  rw [cmpCs]
  simp [ordI] <;> omega
theorem cmpL_nil : cmpL ([] : List S28) [] = 0 := by
  unfold cmpL lex
  rw [cmpCs]
  simp [ordI]
mutual
theorem cA_G3 : ∀ (a b c : S25), G3 (cmpA a b) (cmpA b a) (cmpA b c) (cmpA a c)
  | ⟨s, x⟩, ⟨t, y⟩, ⟨u, z⟩ => by
    simp only [cmpA_lex]
    exact lex_G3 (ord_G3 _ _ _) (lex_G3 (shpL_G3 s t u) (cL_G3 x y z))
theorem cL_G3 : ∀ (a b c : List S28), G3 (cmpL a b) (cmpL b a) (cmpL b c) (cmpL a c)
  | [], [], [] => by simp [cmpL_nil, G3]
  | [], [], _ :: _ => by simp [cmpL_nil, cmpL_nil_cons, cmpL_cons_nil, G3]
  | [], _ :: _, [] => by simp [cmpL_nil, cmpL_nil_cons, cmpL_cons_nil, G3]
  | [], _ :: _, _ :: _ => by simp [cmpL_nil, cmpL_nil_cons, cmpL_cons_nil, G3]
  | _ :: _, [], [] => by simp [cmpL_nil, cmpL_nil_cons, cmpL_cons_nil, G3]
  | _ :: _, [], _ :: _ => by simp [cmpL_nil, cmpL_nil_cons, cmpL_cons_nil, G3]
  | x :: xs, y :: ys, [] => by
    simp only [cmpL_cons, cmpL_cons_nil]
    exact G3_end (lex_G3 (cC_G3 x y x) (cL_G3 xs ys xs)).1 (by simp)
  | x :: xs, y :: ys, z :: zs => by
    simp only [cmpL_cons]
    exact lex_G3 (cC_G3 x y z) (cL_G3 xs ys zs)
theorem cC_G3 : ∀ (a b c : S28), G3 (cmpC a b) (cmpC b a) (cmpC b c) (cmpC a c)
  | ⟨k1, n1, b1⟩, ⟨k2, n2, b2⟩, ⟨k3, n3, b3⟩ => by
    simp only [cmpC]
    exact lex_G3 (ord_G3 k1 k2 k3) (lex_G3 (ord_G3 n1 n2 n3) (cB_G3 b1 b2 b3))
theorem cB_G3 : ∀ (a b c : List S25), G3 (cmpB a b) (cmpB b a) (cmpB b c) (cmpB a c)
  | [], [], [] => by simp only [cmpB]; exact ord_G3 _ _ _
  | [], [], _ :: _ => by simp only [cmpB]; exact ord_G3 _ _ _
  | [], _ :: _, [] => by simp only [cmpB]; exact ord_G3 _ _ _
  | _ :: _, [], [] => by simp only [cmpB]; exact ord_G3 _ _ _
  | [], y :: ys, z :: zs => by simp only [cmpB]; unfold ordI G3; simp; omega
  | x :: xs, [], z :: zs => by simp only [cmpB]; unfold ordI G3; simp; omega
  | x :: xs, y :: ys, [] => by
    simp only [cmpB]
    have e1 : ordI ((x :: xs).length) 0 = 1 := by unfold ordI; simp <;> omega
    have e2 : ordI ((y :: ys).length) 0 = 1 := by unfold ordI; simp <;> omega
    rw [e1, e2]
    exact G3_end (cA_G3 x y x).1 (by simp)
  | x :: xs, y :: ys, z :: zs => by simp only [cmpB]; exact cA_G3 x y z
end
end Go.Proofs.Ytlnphoeogpfjkaa.Pure
