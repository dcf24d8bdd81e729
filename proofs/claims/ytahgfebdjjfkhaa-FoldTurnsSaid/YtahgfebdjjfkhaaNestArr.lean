/- How an argument of the types api.Arr and api.Cell reads. -/
import Derived.Test.YtahgfebdjjfkhaaNest
namespace Go.Proofs.Ytahgfebdjjfkhaa.Nest
open Go.RowKit Go.WideShapes Go.ChangeShapes Go.Proofs.Ytahgfebdjjfkhaa.P Go.Proofs.YtahgfebdjjfkhaaW.PrintWords Go.Proofs.YtahgfebdjjfkhaaW.PrintLast
set_option linter.unusedVariables false
set_option linter.unusedSimpArgs false
instance : Inhabited S25 := ⟨z25⟩
instance : Inhabited S43 := ⟨z43⟩
mutual
/-- What came in as an array: its numbers fit, its lists are no longer than memory. -/
def okA : S25 → Prop
  | ⟨s, c⟩ => (s.length * 8 ≤ reachBytes ∧ ∀ y ∈ s, (Lit.int .i64 y).wf = true) ∧ c.length * 40 ≤ reachBytes ∧ okCs c
def okCs : List S43 → Prop
  | [] => True
  | x :: xs => okC x ∧ okCs xs
def okC : S43 → Prop
  | ⟨k, n, b⟩ => (Lit.int .i64 k).wf = true ∧ (Lit.int .i64 n).wf = true ∧ b.length * 48 ≤ reachBytes ∧ okAs b
def okAs : List S25 → Prop
  | [] => True
  | x :: xs => okA x ∧ okAs xs
end
theorem okCs_iff : ∀ {l : List S43}, okCs l ↔ ∀ x ∈ l, okC x
  | [] => by simp [okCs]
  | x :: l => by rw [okCs, okCs_iff]; simp
theorem okAs_iff : ∀ {l : List S25}, okAs l ↔ ∀ x ∈ l, okA x
  | [] => by simp [okAs]
  | x :: l => by rw [okAs, okAs_iff]; simp
section
variable {H : Type} {enc : TypeId × Value → H} {w : World}
theorem rd_arr : ∀ m, RDn enc Try.prog w m 25 k25 okA ∧ RDn enc Try.prog w m 43 k43 okC
  | 0 => ⟨RDn.zero _ _ _, RDn.zero _ _ _⟩
  | m + 1 => by
    obtain ⟨ha, hc⟩ := rd_arr m
    constructor
    · refine RDn.imp (RDn.struct Try.underlying25 (d := Kd.pair (Kd.slice 3 (Kd.int .i64)) (Kd.slice 43 k43)) (by kernel_rfl)
        (RDfs.cons rfl (by kernel_rfl) (RDn.slice Try.underlying22 (by kernel_rfl) (B := 8) (by kernel_rfl) (RDn.int Try.underlying3)) (RDfs.one rfl (by kernel_rfl) (RDn.slice Try.underlying23 (by kernel_rfl) (B := 40) (by kernel_rfl) hc))))
        (fun y => ⟨y.1, y.2⟩) ?_ ?_
      · rintro y cs ⟨c0, c1, rfl, ⟨A0, n0, rfl, l0, g0⟩, ⟨A1, n1, rfl, l1, g1⟩⟩
        exact k25_mk w ⟨y.1, y.2⟩ l0 g0 l1 g1
      · rintro y ⟨h1, h2, h3⟩
        rw [okA, okCs_iff]
        exact ⟨h1, h2, h3⟩
    · refine RDn.imp (RDn.struct Try.underlying43 (d := Kd.pair (Kd.int .i64) (Kd.pair (Kd.int .i64) (Kd.slice 25 k25))) (by kernel_rfl)
        (RDfs.cons rfl (by kernel_rfl) (RDn.int Try.underlying3) (RDfs.cons rfl (by kernel_rfl) (RDn.int Try.underlying2) (RDfs.one rfl (by kernel_rfl) (RDn.slice Try.underlying41 (by kernel_rfl) (B := 48) (by kernel_rfl) ha)))))
        (fun y => ⟨y.1, y.2.1, y.2.2⟩) (fun y cs h => h) ?_
      rintro y ⟨h1, h2, h3, h4⟩
      rw [okC, okAs_iff]
      exact ⟨h1, h2, h3, h4⟩
set_option maxRecDepth 100000 in
theorem arr_arg {r : Reach} {b0 : Nat} {v : Value} {x : DataW H} {ps : List MemPlace} (hv : Value.okWide Try.prog w r b0 25 v) (hx : DataW.Trod enc Try.prog w 0 (fun _ => true) true 25 v x ps) (hw : (x.weights Try.prog 25).all (· ≤ reachBytes) = true) :
    ∃ (A0 : Option Addr) (c0 : Nat) (l0 : List Int) (A1 : Option Addr) (c1 : Nat) (l1 : List S43), v = .agg #[.slice A0 l0.length c0, .slice A1 l1.length c1] ∧ l0.length ≤ c0 ∧ (Kd.int .i64).C w A0 l0.length l0 ∧ l1.length ≤ c1 ∧ k43.C w A1 l1.length l1 ∧ okA ⟨l0, l1⟩ := by
  obtain ⟨cs, rfl, _⟩ := okWide_struct Try.underlying25 hv
  obtain ⟨y, hy, hok⟩ := RDn.arg (fun m => (rd_arr m).1) hx hw
  obtain ⟨A0, c0, A1, c1, e, h0, h1, h2, h3⟩ := k25_open hy
  obtain ⟨l0, l1⟩ := y
  refine ⟨A0, c0, l0, A1, c1, l1, ?_, h0, h1, h2, h3, hok⟩
  congr 1
  exact Array.toList_inj.1 (by simpa [Value.cells] using e)
end
end Go.Proofs.Ytahgfebdjjfkhaa.Nest
