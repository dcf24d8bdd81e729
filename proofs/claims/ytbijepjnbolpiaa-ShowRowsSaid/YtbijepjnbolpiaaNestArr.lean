/- How an argument of the types api.Arr and api.Cell reads. -/
import Derived.Test.YtbijepjnbolpiaaNest
namespace Go.Proofs.Ytbijepjnbolpiaa.Nest
open Go.RowKit Go.WideShapes Go.ChangeShapes Go.Proofs.Ytbijepjnbolpiaa.P Go.Proofs.YtbijepjnbolpiaaW.PrintWords Go.Proofs.YtbijepjnbolpiaaW.PrintLast
set_option linter.unusedVariables false
set_option linter.unusedSimpArgs false
instance : Inhabited S25 := ⟨z25⟩
instance : Inhabited S40 := ⟨z40⟩
mutual
/-- What came in as an array: its numbers fit, its lists are no longer than memory. -/
def okA : S25 → Prop
  | ⟨s, c⟩ => (s.length * 8 ≤ reachBytes ∧ ∀ y ∈ s, (Lit.int .i64 y).wf = true) ∧ c.length * 40 ≤ reachBytes ∧ okCs c
def okCs : List S40 → Prop
  | [] => True
  | x :: xs => okC x ∧ okCs xs
def okC : S40 → Prop
  | ⟨k, n, b⟩ => (Lit.int .i64 k).wf = true ∧ (Lit.int .i64 n).wf = true ∧ b.length * 48 ≤ reachBytes ∧ okAs b
def okAs : List S25 → Prop
  | [] => True
  | x :: xs => okA x ∧ okAs xs
end
theorem okCs_iff : ∀ {l : List S40}, okCs l ↔ ∀ x ∈ l, okC x
  | [] => by simp [okCs]
  | x :: l => by rw [okCs, okCs_iff]; simp
theorem okAs_iff : ∀ {l : List S25}, okAs l ↔ ∀ x ∈ l, okA x
  | [] => by simp [okAs]
  | x :: l => by rw [okAs, okAs_iff]; simp
section
variable {H : Type} {enc : TypeId × Value → H} {w : World}
theorem rd_arr : ∀ m, RDn enc Try.prog w m 25 k25 okA ∧ RDn enc Try.prog w m 40 k40 okC
  | 0 => ⟨RDn.zero _ _ _, RDn.zero _ _ _⟩
  | m + 1 => by
    obtain ⟨ha, hc⟩ := rd_arr m
    constructor
    · refine RDn.imp (RDn.struct Try.underlying25 (d := Kd.pair (Kd.slice 3 (Kd.int .i64)) (Kd.slice 40 k40)) (by kernel_rfl)
        (RDfs.cons rfl (by kernel_rfl) (RDn.slice Try.underlying22 (by kernel_rfl) (B := 8) (by kernel_rfl) (RDn.int Try.underlying3)) (RDfs.one rfl (by kernel_rfl) (RDn.slice Try.underlying23 (by kernel_rfl) (B := 40) (by kernel_rfl) hc))))
        (fun y => ⟨y.1, y.2⟩) ?_ ?_
      · rintro y cs ⟨c0, c1, rfl, ⟨A0, n0, rfl, l0, g0⟩, ⟨A1, n1, rfl, l1, g1⟩⟩
        exact k25_mk w ⟨y.1, y.2⟩ l0 g0 l1 g1
      · rintro y ⟨h1, h2, h3⟩
        rw [okA, okCs_iff]
        exact ⟨h1, h2, h3⟩
    · refine RDn.imp (RDn.struct Try.underlying40 (d := Kd.pair (Kd.int .i64) (Kd.pair (Kd.int .i64) (Kd.slice 25 k25))) (by kernel_rfl)
        (RDfs.cons rfl (by kernel_rfl) (RDn.int Try.underlying3) (RDfs.cons rfl (by kernel_rfl) (RDn.int Try.underlying2) (RDfs.one rfl (by kernel_rfl) (RDn.slice Try.underlying38 (by kernel_rfl) (B := 48) (by kernel_rfl) ha)))))
        (fun y => ⟨y.1, y.2.1, y.2.2⟩) (fun y cs h => h) ?_
      rintro y ⟨h1, h2, h3, h4⟩
      rw [okC, okAs_iff]
      exact ⟨h1, h2, h3, h4⟩
theorem arr_arg {r : Reach} {b0 : Nat} {v : Value} {x : DataW H} {ps : List MemPlace} (hv : Value.okWide Try.prog w r b0 25 v) (hx : DataW.Trod enc Try.prog w 0 (fun _ => true) true 25 v x ps) (hw : (x.weights Try.prog 25).all (· ≤ reachBytes) = true) :
    ∃ (A0 : Option Addr) (c0 : Nat) (l0 : List Int) (A1 : Option Addr) (c1 : Nat) (l1 : List S40), v = .agg #[.slice A0 l0.length c0, .slice A1 l1.length c1] ∧ l0.length ≤ c0 ∧ (Kd.int .i64).C w A0 l0.length l0 ∧ l1.length ≤ c1 ∧ k40.C w A1 l1.length l1 ∧ okA ⟨l0, l1⟩ := by
  obtain ⟨cs, rfl, _⟩ := okWide_struct Try.underlying25 hv
  obtain ⟨y, hy, hok⟩ := RDn.arg (fun m => (rd_arr m).1) hx hw
  obtain ⟨A0, c0, A1, c1, e, h0, h1, h2, h3⟩ := k25_open hy
  obtain ⟨l0, l1⟩ := y
  refine ⟨A0, c0, l0, A1, c1, l1, ?_, h0, h1, h2, h3, hok⟩
  congr 1
  exact Array.toList_inj.1 (by simpa [Value.cells] using e)
theorem rows_arg {t e i : TypeId} (ht : Try.prog.underlying t = some (.slice e)) (he : Try.prog.underlying e = some (.slice i)) (hi : Try.prog.underlying i = some (.int .i64)) (hc : Try.prog.cellsOf i = 1) (hB : Try.prog.bytesOf i = 8) (hc2 : Try.prog.cellsOf e = 1) (hB2 : Try.prog.bytesOf e = 24) {r : Reach} {b0 : Nat} {v : Value} {x : DataW H} {ps : List MemPlace} (hv : Value.okWide Try.prog w r b0 t v) (hx : DataW.Trod enc Try.prog w 0 (fun _ => true) true t v x ps) (hw : (x.weights Try.prog t).all (· ≤ reachBytes) = true) :
    ∃ (A0 : Option Addr) (c0 : Nat) (l0 : List (List Int)), v = .slice A0 l0.length c0 ∧ l0.length ≤ c0 ∧ (Kd.slice i (Kd.int .i64)).C w A0 l0.length l0 ∧ (l0.length * 24 ≤ reachBytes ∧ ∀ y ∈ l0, y.length * 8 ≤ reachBytes ∧ ∀ z ∈ y, (Lit.int .i64 z).wf = true) := by
  obtain ⟨A, n, c, rfl⟩ := okWide_slice ht hv
  obtain ⟨y, ⟨A0, c0, e1, h0, h1⟩, hok⟩ := RDn.arg (fun m => RDn.slice (m := m) (d := Kd.slice i (Kd.int .i64)) ht hc2 hB2 (RDn.slice (m := m) (d := Kd.int .i64) he hc hB (RDn.int hi))) hx hw
  simp only [Value.cells, List.cons.injEq, and_true] at e1
  exact ⟨A0, c0, y, by simpa using e1, h0, h1, hok⟩
end
end Go.Proofs.Ytbijepjnbolpiaa.Nest
