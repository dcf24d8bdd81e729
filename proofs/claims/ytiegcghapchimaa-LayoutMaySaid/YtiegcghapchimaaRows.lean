/-
  NARROWER THAN 'FOR EVERY INPUT', by the rows' own cells (each row's printed sentence says how): LayoutOne: loops · LayoutReshapes: loops · LayoutBack: loops · LayoutRavels: loops · LayoutMay: loops · LayoutOwn: loops.
  DERIVED. THE GIVEN ROWS OF THIS SEAT. 6 by the template 'for every input the law returns true; each argument reads behind the call as it read before'; 0 by the template 'total and deterministic' (their statements: YtiegcghapchimaaTotals.lean).
  GIVEN WITH THE SEED: the statements are not yours to turn. If you find one false, say at which input.
  Laid BY PROGRAM, IN A SANDBOX (cutbox-rows.mjs): the forced cells as the released guide's own fill.sh prints them over the translation a9e7c61ae205e03e… (all of the seat's roots in one cut). By AI agents, Wed Nov 11 2026. No macro, syntax, notation, axiom, sorry.
-/
import Derived.Test.YtiegcghapchimaaChecked
import GoSem.Claim
import GoSem.ClaimJoined
import GoSem.ClaimMapViews
import Derived.JoinedTies
import Derived.KernelRfl
namespace Go.Proofs.Ytiegcghapchimaa
/- THE CELL 'sum', in the pinned program and in every row, IS THE sha256 OF THE DUMP (.gsa) THAT YtiegcghapchimaaProg.lean LOADS. Nothing in Lean hashes anything: it is a label: what it is worth is what the hold of that sum in a sandbox is worth. -/
noncomputable def Try.pinned : Pinned := { name := "ytiegcghapchimaa", sum := "a9e7c61ae205e03e3feb0d7923f67c799611d8b24360773f4e211c1dc2c4540b", checked := Try.checked }
namespace Rows
def none {H : Type} : Left H := { results := [], args := [] }

/-- 'triglyphlaw05.LayoutOne': WHATEVER THE INPUT: true; the input reads as it did. -/
def layoutOneSpec : ChangeSpec := { name := "layoutOne", fn := fun _ => fun
  | [d1, d2] => { results := [.lit (.bool true)], args := [d1, d2] }
  | _ => none }
def layoutOneRow : OpenClaim := { program := "ytiegcghapchimaa", sum := "a9e7c61ae205e03e3feb0d7923f67c799611d8b24360773f4e211c1dc2c4540b", func := "triglyph/triglyphlaw05.LayoutOne", spec := "layoutOne", recurses := true, loops := true, apart := false }
def LayoutOneSaid : Prop := layoutOneRow.holds Try.pinned (OpenSpec.ofChange layoutOneSpec)

/-- ITS FALSE NEIGHBOUR: 'it returns false'. Refute it at one input. -/
def layoutOneWrong : ChangeSpec := { name := "layoutOne", fn := fun _ => fun
  | [d1, d2] => { results := [.lit (.bool false)], args := [d1, d2] }
  | _ => none }
def LayoutOneWrongFalsely : Prop := layoutOneRow.holds Try.pinned (OpenSpec.ofChange layoutOneWrong)

/-- 'triglyphlaw05.LayoutReshapes': WHATEVER THE INPUT: true; the input reads as it did. -/
def layoutReshapesSpec : ChangeSpec := { name := "layoutReshapes", fn := fun _ => fun
  | [d1, d2] => { results := [.lit (.bool true)], args := [d1, d2] }
  | _ => none }
def layoutReshapesRow : OpenClaim := { program := "ytiegcghapchimaa", sum := "a9e7c61ae205e03e3feb0d7923f67c799611d8b24360773f4e211c1dc2c4540b", func := "triglyph/triglyphlaw05.LayoutReshapes", spec := "layoutReshapes", recurses := true, loops := true, apart := false }
def LayoutReshapesSaid : Prop := layoutReshapesRow.holds Try.pinned (OpenSpec.ofChange layoutReshapesSpec)

/-- ITS FALSE NEIGHBOUR: 'it returns false'. Refute it at one input. -/
def layoutReshapesWrong : ChangeSpec := { name := "layoutReshapes", fn := fun _ => fun
  | [d1, d2] => { results := [.lit (.bool false)], args := [d1, d2] }
  | _ => none }
def LayoutReshapesWrongFalsely : Prop := layoutReshapesRow.holds Try.pinned (OpenSpec.ofChange layoutReshapesWrong)

/-- 'triglyphlaw05.LayoutBack': WHATEVER THE INPUT: true; the input reads as it did. -/
def layoutBackSpec : ChangeSpec := { name := "layoutBack", fn := fun _ => fun
  | [d] => { results := [.lit (.bool true)], args := [d] }
  | _ => none }
def layoutBackRow : OpenClaim := { program := "ytiegcghapchimaa", sum := "a9e7c61ae205e03e3feb0d7923f67c799611d8b24360773f4e211c1dc2c4540b", func := "triglyph/triglyphlaw05.LayoutBack", spec := "layoutBack", recurses := true, loops := true, apart := false }
def LayoutBackSaid : Prop := layoutBackRow.holds Try.pinned (OpenSpec.ofChange layoutBackSpec)

/-- ITS FALSE NEIGHBOUR: 'it returns false'. Refute it at one input. -/
def layoutBackWrong : ChangeSpec := { name := "layoutBack", fn := fun _ => fun
  | [d] => { results := [.lit (.bool false)], args := [d] }
  | _ => none }
def LayoutBackWrongFalsely : Prop := layoutBackRow.holds Try.pinned (OpenSpec.ofChange layoutBackWrong)

/-- 'triglyphlaw05.LayoutRavels': WHATEVER THE INPUT: true; the input reads as it did. -/
def layoutRavelsSpec : ChangeSpec := { name := "layoutRavels", fn := fun _ => fun
  | [d] => { results := [.lit (.bool true)], args := [d] }
  | _ => none }
def layoutRavelsRow : OpenClaim := { program := "ytiegcghapchimaa", sum := "a9e7c61ae205e03e3feb0d7923f67c799611d8b24360773f4e211c1dc2c4540b", func := "triglyph/triglyphlaw05.LayoutRavels", spec := "layoutRavels", recurses := true, loops := true, apart := false }
def LayoutRavelsSaid : Prop := layoutRavelsRow.holds Try.pinned (OpenSpec.ofChange layoutRavelsSpec)

/-- ITS FALSE NEIGHBOUR: 'it returns false'. Refute it at one input. -/
def layoutRavelsWrong : ChangeSpec := { name := "layoutRavels", fn := fun _ => fun
  | [d] => { results := [.lit (.bool false)], args := [d] }
  | _ => none }
def LayoutRavelsWrongFalsely : Prop := layoutRavelsRow.holds Try.pinned (OpenSpec.ofChange layoutRavelsWrong)

/-- 'triglyphlaw05.LayoutMay': WHATEVER THE INPUT: true; the input reads as it did. -/
def layoutMaySpec : ChangeSpec := { name := "layoutMay", fn := fun _ => fun
  | [d1, d2, d3] => { results := [.lit (.bool true)], args := [d1, d2, d3] }
  | _ => none }
def layoutMayRow : OpenClaim := { program := "ytiegcghapchimaa", sum := "a9e7c61ae205e03e3feb0d7923f67c799611d8b24360773f4e211c1dc2c4540b", func := "triglyph/triglyphlaw05.LayoutMay", spec := "layoutMay", recurses := true, loops := true, apart := false }
def LayoutMaySaid : Prop := layoutMayRow.holds Try.pinned (OpenSpec.ofChange layoutMaySpec)

/-- ITS FALSE NEIGHBOUR: 'it returns false'. Refute it at one input. -/
def layoutMayWrong : ChangeSpec := { name := "layoutMay", fn := fun _ => fun
  | [d1, d2, d3] => { results := [.lit (.bool false)], args := [d1, d2, d3] }
  | _ => none }
def LayoutMayWrongFalsely : Prop := layoutMayRow.holds Try.pinned (OpenSpec.ofChange layoutMayWrong)

/-- 'triglyphlaw05.LayoutOwn': WHATEVER THE INPUT: true; the input reads as it did. -/
def layoutOwnSpec : ChangeSpec := { name := "layoutOwn", fn := fun _ => fun
  | [d1, d2] => { results := [.lit (.bool true)], args := [d1, d2] }
  | _ => none }
def layoutOwnRow : OpenClaim := { program := "ytiegcghapchimaa", sum := "a9e7c61ae205e03e3feb0d7923f67c799611d8b24360773f4e211c1dc2c4540b", func := "triglyph/triglyphlaw05.LayoutOwn", spec := "layoutOwn", recurses := true, loops := true, apart := false }
def LayoutOwnSaid : Prop := layoutOwnRow.holds Try.pinned (OpenSpec.ofChange layoutOwnSpec)

/-- ITS FALSE NEIGHBOUR: 'it returns false'. Refute it at one input. -/
def layoutOwnWrong : ChangeSpec := { name := "layoutOwn", fn := fun _ => fun
  | [d1, d2] => { results := [.lit (.bool false)], args := [d1, d2] }
  | _ => none }
def LayoutOwnWrongFalsely : Prop := layoutOwnRow.holds Try.pinned (OpenSpec.ofChange layoutOwnWrong)

/- THE SECOND FORM. 'bulk': how many values and letters a reading holds, each counted each time it is reached (what is shared counts as often as it is met; a slice's spare places count too). A statement '..UptoSaid' is the law's where the arguments, and the package variables that the reading takes, are together of bulk at most 1048576: NARROWER than '..Said'. Prove '..Said' where nothing that the law and all that it calls make is longer than what came in: it says more and counts as full. Else prove '..UptoSaid'. A law counts once. -/
mutual
def uptoBulk {H : Type} : DataW H → Nat
  | .lit (.string bytes) => bytes.length + 1
  | .lit _ => 1
  | .nil => 1
  | .ptr d => uptoBulk d + 1
  | .slice elems spare => uptoBulkAll elems + uptoBulkAll spare + 1
  | .agg parts => uptoBulkAll parts + 1
  | .iface _ d => uptoBulk d + 1
  | .map entries => uptoBulkEntries entries + 1
  | .held _ => 1
def uptoBulkAll {H : Type} : List (DataW H) → Nat
  | [] => 0
  | d :: r => uptoBulk d + uptoBulkAll r
def uptoBulkEntries {H : Type} : List (Lit × DataW H) → Nat
  | [] => 0
  | x :: r => uptoBulkEntry x + uptoBulkEntries r
def uptoBulkEntry {H : Type} : Lit × DataW H → Nat
  | (.string bytes, d) => bytes.length + uptoBulk d + 1
  | (_, d) => uptoBulk d + 1
 end
def uptoSmall : (H : Type) → List (DataW H) → Bool := fun _ ds => decide (uptoBulkAll ds ≤ 1048576)
def OpenSpec.upto (s : _root_.Go.ChangeSpec) : _root_.Go.OpenSpec := { _root_.Go.OpenSpec.ofChange s with cond := some uptoSmall }

/-- 'triglyphlaw05.LayoutOne', WHERE WHAT IT READS IS OF BULK AT MOST 1048576: true; the input reads as it did. -/
def layoutOneUptoRow : OpenClaim := { program := "ytiegcghapchimaa", sum := "a9e7c61ae205e03e3feb0d7923f67c799611d8b24360773f4e211c1dc2c4540b", func := "triglyph/triglyphlaw05.LayoutOne", spec := "layoutOne", recurses := true, loops := true, apart := false, narrowed := true }
def LayoutOneUptoSaid : Prop := layoutOneUptoRow.holds Try.pinned (OpenSpec.upto layoutOneSpec)

/-- 'triglyphlaw05.LayoutReshapes', WHERE WHAT IT READS IS OF BULK AT MOST 1048576: true; the input reads as it did. -/
def layoutReshapesUptoRow : OpenClaim := { program := "ytiegcghapchimaa", sum := "a9e7c61ae205e03e3feb0d7923f67c799611d8b24360773f4e211c1dc2c4540b", func := "triglyph/triglyphlaw05.LayoutReshapes", spec := "layoutReshapes", recurses := true, loops := true, apart := false, narrowed := true }
def LayoutReshapesUptoSaid : Prop := layoutReshapesUptoRow.holds Try.pinned (OpenSpec.upto layoutReshapesSpec)

/-- 'triglyphlaw05.LayoutBack', WHERE WHAT IT READS IS OF BULK AT MOST 1048576: true; the input reads as it did. -/
def layoutBackUptoRow : OpenClaim := { program := "ytiegcghapchimaa", sum := "a9e7c61ae205e03e3feb0d7923f67c799611d8b24360773f4e211c1dc2c4540b", func := "triglyph/triglyphlaw05.LayoutBack", spec := "layoutBack", recurses := true, loops := true, apart := false, narrowed := true }
def LayoutBackUptoSaid : Prop := layoutBackUptoRow.holds Try.pinned (OpenSpec.upto layoutBackSpec)

/-- 'triglyphlaw05.LayoutRavels', WHERE WHAT IT READS IS OF BULK AT MOST 1048576: true; the input reads as it did. -/
def layoutRavelsUptoRow : OpenClaim := { program := "ytiegcghapchimaa", sum := "a9e7c61ae205e03e3feb0d7923f67c799611d8b24360773f4e211c1dc2c4540b", func := "triglyph/triglyphlaw05.LayoutRavels", spec := "layoutRavels", recurses := true, loops := true, apart := false, narrowed := true }
def LayoutRavelsUptoSaid : Prop := layoutRavelsUptoRow.holds Try.pinned (OpenSpec.upto layoutRavelsSpec)

/-- 'triglyphlaw05.LayoutMay', WHERE WHAT IT READS IS OF BULK AT MOST 1048576: true; the input reads as it did. -/
def layoutMayUptoRow : OpenClaim := { program := "ytiegcghapchimaa", sum := "a9e7c61ae205e03e3feb0d7923f67c799611d8b24360773f4e211c1dc2c4540b", func := "triglyph/triglyphlaw05.LayoutMay", spec := "layoutMay", recurses := true, loops := true, apart := false, narrowed := true }
def LayoutMayUptoSaid : Prop := layoutMayUptoRow.holds Try.pinned (OpenSpec.upto layoutMaySpec)

/-- 'triglyphlaw05.LayoutOwn', WHERE WHAT IT READS IS OF BULK AT MOST 1048576: true; the input reads as it did. -/
def layoutOwnUptoRow : OpenClaim := { program := "ytiegcghapchimaa", sum := "a9e7c61ae205e03e3feb0d7923f67c799611d8b24360773f4e211c1dc2c4540b", func := "triglyph/triglyphlaw05.LayoutOwn", spec := "layoutOwn", recurses := true, loops := true, apart := false, narrowed := true }
def LayoutOwnUptoSaid : Prop := layoutOwnUptoRow.holds Try.pinned (OpenSpec.upto layoutOwnSpec)

end Rows
end Go.Proofs.Ytiegcghapchimaa
