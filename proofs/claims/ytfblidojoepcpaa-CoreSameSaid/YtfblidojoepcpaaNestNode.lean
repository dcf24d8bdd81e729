/- How an argument of the type api.Node reads. -/
import Derived.Test.YtfblidojoepcpaaNestArr
namespace Go.Proofs.Ytfblidojoepcpaa.Nest
open Go.RowKit Go.WideShapes Go.ChangeShapes Go.Proofs.Ytfblidojoepcpaa.P Go.Proofs.YtfblidojoepcpaaW.PrintWords Go.Proofs.YtfblidojoepcpaaW.PrintLast
set_option linter.unusedVariables false
set_option linter.unusedSimpArgs false
instance : Inhabited S34 := ⟨z34⟩
mutual
/-- What came in as a program: its numbers fit, its lists are no longer than memory. -/
def okN : S34 → Prop
  | ⟨k, o, n, l, ks, p⟩ => (Lit.int .i64 k).wf = true ∧ (Lit.int .i64 o).wf = true ∧ n.size ≤ reachBytes ∧ okA l ∧ (ks.length * 112 ≤ reachBytes ∧ okNs ks) ∧ (Lit.int .i64 p).wf = true
def okNs : List S34 → Prop
  | [] => True
  | x :: xs => okN x ∧ okNs xs
end
theorem okNs_iff : ∀ {l : List S34}, okNs l ↔ ∀ x ∈ l, okN x
  | [] => by simp [okNs]
  | x :: l => by rw [okNs, okNs_iff]; simp
section
variable {H : Type} {enc : TypeId × Value → H} {w : World}
theorem rd_node : ∀ m, RDn enc Try.prog w m 34 k34 okN
  | 0 => RDn.zero _ _ _
  | m + 1 => by
    have hn := rd_node m
    refine RDn.imp (RDn.struct Try.underlying34 (d := Kd.pair (Kd.int .i64) (Kd.pair (Kd.int .i64) (Kd.pair Kd.string (Kd.pair k25 (Kd.pair (Kd.slice 34 k34) (Kd.int .i64)))))) (by kernel_rfl)
      (RDfs.cons rfl (by kernel_rfl) (RDn.int Try.underlying3) (RDfs.cons rfl (by kernel_rfl) (RDn.int Try.underlying3) (RDfs.cons rfl (by kernel_rfl) (RDn.string Try.underlying9) (RDfs.cons rfl (by kernel_rfl) (rd_arr m).1 (RDfs.cons rfl (by kernel_rfl) (RDn.slice Try.underlying32 (by kernel_rfl) (B := 112) (by kernel_rfl) hn) (RDfs.one rfl (by kernel_rfl) (RDn.int Try.underlying3))))))))
      (fun y => ⟨y.1, y.2.1, y.2.2.1, y.2.2.2.1, y.2.2.2.2.1, y.2.2.2.2.2⟩) ?_ ?_
    · rintro y cs ⟨_, _, rfl, rfl, ⟨_, _, rfl, rfl, ⟨_, _, rfl, rfl, ⟨_, _, rfl, s3, ⟨_, _, rfl, ⟨A5, c5, rfl, l5, g5⟩, rfl⟩⟩⟩⟩⟩
      obtain ⟨A3, c3, A4, c4, rfl, l3, g3, l4, g4⟩ := k25_open s3
      exact k34_mk w ⟨y.1, y.2.1, y.2.2.1, y.2.2.2.1, y.2.2.2.2.1, y.2.2.2.2.2⟩ l3 g3 l4 g4 l5 g5
    · rintro y ⟨h0, h1, h2, h3, ⟨h4, h5⟩, h6⟩
      rw [okN, okNs_iff]
      exact ⟨h0, h1, h2, h3, ⟨h4, h5⟩, h6⟩
theorem node_arg {r : Reach} {b0 : Nat} {v : Value} {x : DataW H} {ps : List MemPlace} (hv : Value.okWide Try.prog w r b0 34 v) (hx : DataW.Trod enc Try.prog w 0 (fun _ => true) true 34 v x ps) (hw : (x.weights Try.prog 34).all (· ≤ reachBytes) = true) :
    ∃ (a0 a1 : Int) (a2 : ByteArray) (A3 : Option Addr) (c3 : Nat) (l3 : List Int) (A4 : Option Addr) (c4 : Nat) (l4 : List S52) (A5 : Option Addr) (c5 : Nat) (l5 : List S34) (a6 : Int), v = .agg #[.int .i64 a0, .int .i64 a1, .string a2, .slice A3 l3.length c3, .slice A4 l4.length c4, .slice A5 l5.length c5, .int .i64 a6] ∧ l3.length ≤ c3 ∧ (Kd.int .i64).C w A3 l3.length l3 ∧ l4.length ≤ c4 ∧ k52.C w A4 l4.length l4 ∧ l5.length ≤ c5 ∧ k34.C w A5 l5.length l5 ∧ okN ⟨a0, a1, a2, ⟨l3, l4⟩, l5, a6⟩ := by
  obtain ⟨cs, rfl, _⟩ := okWide_struct Try.underlying34 hv
  obtain ⟨y, hy, hok⟩ := RDn.arg (fun m => rd_node m) hx hw
  obtain ⟨A3, c3, A4, c4, A5, c5, e, h0, h1, h2, h3, h4, h5⟩ := k34_open hy
  obtain ⟨a0, a1, a2, ⟨l3, l4⟩, l5, a6⟩ := y
  refine ⟨a0, a1, a2, A3, c3, l3, A4, c4, l4, A5, c5, l5, a6, ?_, h0, h1, h2, h3, h4, h5, hok⟩
  congr 1
  exact Array.toList_inj.1 (by simpa [Value.cells] using e)
end
end Go.Proofs.Ytfblidojoepcpaa.Nest
