/- How an argument of the types api.Arr and api.Cell reads. -/
import Derived.Test.YtfjkclhkobnakaaNest
namespace Go.Proofs.Ytfjkclhkobnakaa.Nest
open Go.RowKit Go.WideShapes Go.ChangeShapes Go.Proofs.Ytfjkclhkobnakaa.P Go.Proofs.YtfjkclhkobnakaaW.PrintWords Go.Proofs.YtfjkclhkobnakaaW.PrintLast
set_option linter.unusedVariables false
set_option linter.unusedSimpArgs false
instance : Inhabited S25 := ⟨z25⟩
instance : Inhabited S57 := ⟨z57⟩
mutual
/-- What came in as an array: its numbers fit, its lists are no longer than memory. -/
def okA : S25 → Prop
  | ⟨s, c⟩ => (s.length * 8 ≤ reachBytes ∧ ∀ y ∈ s, (Lit.int .i64 y).wf = true) ∧ c.length * 40 ≤ reachBytes ∧ okCs c
def okCs : List S57 → Prop
  | [] => True
  | x :: xs => okC x ∧ okCs xs
def okC : S57 → Prop
  | ⟨k, n, b⟩ => (Lit.int .i64 k).wf = true ∧ (Lit.int .i64 n).wf = true ∧ b.length * 48 ≤ reachBytes ∧ okAs b
def okAs : List S25 → Prop
  | [] => True
  | x :: xs => okA x ∧ okAs xs
end
theorem okCs_iff : ∀ {l : List S57}, okCs l ↔ ∀ x ∈ l, okC x
  | [] => by simp [okCs]
  | x :: l => by rw [okCs, okCs_iff]; simp
theorem okAs_iff : ∀ {l : List S25}, okAs l ↔ ∀ x ∈ l, okA x
  | [] => by simp [okAs]
  | x :: l => by rw [okAs, okAs_iff]; simp
section
variable {H : Type} {enc : TypeId × Value → H} {w : World}
theorem rd_arr : ∀ m, RDn enc Try.prog w m 25 k25 okA ∧ RDn enc Try.prog w m 57 k57 okC
  | 0 => ⟨RDn.zero _ _ _, RDn.zero _ _ _⟩
  | m + 1 => by
    obtain ⟨ha, hc⟩ := rd_arr m
    constructor
    · refine RDn.imp (RDn.struct Try.underlying25 (d := Kd.pair (Kd.slice 3 (Kd.int .i64)) (Kd.slice 57 k57)) (by kernel_rfl)
        (RDfs.cons rfl (by kernel_rfl) (RDn.slice Try.underlying22 (by kernel_rfl) (B := 8) (by kernel_rfl) (RDn.int Try.underlying3)) (RDfs.one rfl (by kernel_rfl) (RDn.slice Try.underlying23 (by kernel_rfl) (B := 40) (by kernel_rfl) hc))))
        (fun y => ⟨y.1, y.2⟩) ?_ ?_
      · rintro y cs ⟨c0, c1, rfl, ⟨A0, n0, rfl, l0, g0⟩, ⟨A1, n1, rfl, l1, g1⟩⟩
        exact k25_mk w ⟨y.1, y.2⟩ l0 g0 l1 g1
      · rintro y ⟨h1, h2, h3⟩
        rw [okA, okCs_iff]
        exact ⟨h1, h2, h3⟩
    · refine RDn.imp (RDn.struct Try.underlying57 (d := Kd.pair (Kd.int .i64) (Kd.pair (Kd.int .i64) (Kd.slice 25 k25))) (by kernel_rfl)
        (RDfs.cons rfl (by kernel_rfl) (RDn.int Try.underlying3) (RDfs.cons rfl (by kernel_rfl) (RDn.int Try.underlying2) (RDfs.one rfl (by kernel_rfl) (RDn.slice Try.underlying55 (by kernel_rfl) (B := 48) (by kernel_rfl) ha)))))
        (fun y => ⟨y.1, y.2.1, y.2.2⟩) (fun y cs h => h) ?_
      rintro y ⟨h1, h2, h3, h4⟩
      rw [okC, okAs_iff]
      exact ⟨h1, h2, h3, h4⟩
end
end Go.Proofs.Ytfjkclhkobnakaa.Nest
