/-
  NARROWER THAN 'FOR EVERY INPUT', by the rows' own cells (each row's printed sentence says how): FoldReds: loops · FoldScans: loops · FoldOuters: loops · FoldTurns: loops · FoldCells: loops.
  DERIVED. THE GIVEN ROWS OF THIS SEAT. 6 by the template 'for every input the law returns true; each argument reads behind the call as it read before'; 0 by the template 'total and deterministic' (their statements: YtahgfebdjjfkhaaTotals.lean).
  GIVEN WITH THE SEED: the statements are not yours to turn. If you find one false, say at which input.
  Laid BY PROGRAM, IN A SANDBOX (cutbox-rows.mjs): the forced cells as the released guide's own fill.sh prints them over the translation d5c470f57cb045d9… (all of the seat's roots in one cut). By AI agents, Wed Nov 11 2026. No macro, syntax, notation, axiom, sorry.
-/
import Derived.Test.YtahgfebdjjfkhaaChecked
import GoSem.Claim
import GoSem.ClaimJoined
import GoSem.ClaimMapViews
import Derived.JoinedTies
import Derived.KernelRfl
namespace Go.Proofs.Ytahgfebdjjfkhaa
/- THE CELL 'sum', in the pinned program and in every row, IS THE sha256 OF THE DUMP (.gsa) THAT YtahgfebdjjfkhaaProg.lean LOADS. Nothing in Lean hashes anything: it is a label: what it is worth is what the hold of that sum in a sandbox is worth. -/
noncomputable def Try.pinned : Pinned := { name := "ytahgfebdjjfkhaa", sum := "d5c470f57cb045d9b8937c8b48ad7717a4f4f09dd110d2d77bcedefc5410169e", checked := Try.checked }
namespace Rows
def none {H : Type} : Left H := { results := [], args := [] }

/-- 'triglyphlaw08.FoldReds': WHATEVER THE INPUT: true; the input reads as it did. -/
def foldRedsSpec : ChangeSpec := { name := "foldReds", fn := fun _ => fun
  | [d1, d2, d3, d4] => { results := [.lit (.bool true)], args := [d1, d2, d3, d4] }
  | _ => none }
def foldRedsRow : OpenClaim := { program := "ytahgfebdjjfkhaa", sum := "d5c470f57cb045d9b8937c8b48ad7717a4f4f09dd110d2d77bcedefc5410169e", func := "triglyph/triglyphlaw08.FoldReds", spec := "foldReds", unfollowed := true, recurses := true, loops := true, apart := false }
def FoldRedsSaid : Prop := foldRedsRow.holds Try.pinned (OpenSpec.ofChange foldRedsSpec)

/-- ITS FALSE NEIGHBOUR: 'it returns false'. Refute it at one input. -/
def foldRedsWrong : ChangeSpec := { name := "foldReds", fn := fun _ => fun
  | [d1, d2, d3, d4] => { results := [.lit (.bool false)], args := [d1, d2, d3, d4] }
  | _ => none }
def FoldRedsWrongFalsely : Prop := foldRedsRow.holds Try.pinned (OpenSpec.ofChange foldRedsWrong)

/-- 'triglyphlaw08.FoldScans': WHATEVER THE INPUT: true; the input reads as it did. -/
def foldScansSpec : ChangeSpec := { name := "foldScans", fn := fun _ => fun
  | [d1, d2, d3, d4] => { results := [.lit (.bool true)], args := [d1, d2, d3, d4] }
  | _ => none }
def foldScansRow : OpenClaim := { program := "ytahgfebdjjfkhaa", sum := "d5c470f57cb045d9b8937c8b48ad7717a4f4f09dd110d2d77bcedefc5410169e", func := "triglyph/triglyphlaw08.FoldScans", spec := "foldScans", unfollowed := true, recurses := true, loops := true, apart := false }
def FoldScansSaid : Prop := foldScansRow.holds Try.pinned (OpenSpec.ofChange foldScansSpec)

/-- ITS FALSE NEIGHBOUR: 'it returns false'. Refute it at one input. -/
def foldScansWrong : ChangeSpec := { name := "foldScans", fn := fun _ => fun
  | [d1, d2, d3, d4] => { results := [.lit (.bool false)], args := [d1, d2, d3, d4] }
  | _ => none }
def FoldScansWrongFalsely : Prop := foldScansRow.holds Try.pinned (OpenSpec.ofChange foldScansWrong)

/-- 'triglyphlaw08.FoldOuters': WHATEVER THE INPUT: true; the input reads as it did. -/
def foldOutersSpec : ChangeSpec := { name := "foldOuters", fn := fun _ => fun
  | [d1, d2, d3, d4] => { results := [.lit (.bool true)], args := [d1, d2, d3, d4] }
  | _ => none }
def foldOutersRow : OpenClaim := { program := "ytahgfebdjjfkhaa", sum := "d5c470f57cb045d9b8937c8b48ad7717a4f4f09dd110d2d77bcedefc5410169e", func := "triglyph/triglyphlaw08.FoldOuters", spec := "foldOuters", unfollowed := true, recurses := true, loops := true, apart := false }
def FoldOutersSaid : Prop := foldOutersRow.holds Try.pinned (OpenSpec.ofChange foldOutersSpec)

/-- ITS FALSE NEIGHBOUR: 'it returns false'. Refute it at one input. -/
def foldOutersWrong : ChangeSpec := { name := "foldOuters", fn := fun _ => fun
  | [d1, d2, d3, d4] => { results := [.lit (.bool false)], args := [d1, d2, d3, d4] }
  | _ => none }
def FoldOutersWrongFalsely : Prop := foldOutersRow.holds Try.pinned (OpenSpec.ofChange foldOutersWrong)

/-- 'triglyphlaw08.FoldEnds': WHATEVER THE INPUT: true; the input reads as it did. -/
def foldEndsSpec : ChangeSpec := { name := "foldEnds", fn := fun _ => fun
  | [d1, d2, d3] => { results := [.lit (.bool true)], args := [d1, d2, d3] }
  | _ => none }
def foldEndsRow : OpenClaim := { program := "ytahgfebdjjfkhaa", sum := "d5c470f57cb045d9b8937c8b48ad7717a4f4f09dd110d2d77bcedefc5410169e", func := "triglyph/triglyphlaw08.FoldEnds", spec := "foldEnds", unfollowed := true, recurses := true, apart := false }
def FoldEndsSaid : Prop := foldEndsRow.holds Try.pinned (OpenSpec.ofChange foldEndsSpec)

/-- ITS FALSE NEIGHBOUR: 'it returns false'. Refute it at one input. -/
def foldEndsWrong : ChangeSpec := { name := "foldEnds", fn := fun _ => fun
  | [d1, d2, d3] => { results := [.lit (.bool false)], args := [d1, d2, d3] }
  | _ => none }
def FoldEndsWrongFalsely : Prop := foldEndsRow.holds Try.pinned (OpenSpec.ofChange foldEndsWrong)

/-- 'triglyphlaw08.FoldTurns': WHATEVER THE INPUT: true; the input reads as it did. -/
def foldTurnsSpec : ChangeSpec := { name := "foldTurns", fn := fun _ => fun
  | [d1, d2, d3] => { results := [.lit (.bool true)], args := [d1, d2, d3] }
  | _ => none }
def foldTurnsRow : OpenClaim := { program := "ytahgfebdjjfkhaa", sum := "d5c470f57cb045d9b8937c8b48ad7717a4f4f09dd110d2d77bcedefc5410169e", func := "triglyph/triglyphlaw08.FoldTurns", spec := "foldTurns", unfollowed := true, recurses := true, loops := true, apart := false }
def FoldTurnsSaid : Prop := foldTurnsRow.holds Try.pinned (OpenSpec.ofChange foldTurnsSpec)

/-- ITS FALSE NEIGHBOUR: 'it returns false'. Refute it at one input. -/
def foldTurnsWrong : ChangeSpec := { name := "foldTurns", fn := fun _ => fun
  | [d1, d2, d3] => { results := [.lit (.bool false)], args := [d1, d2, d3] }
  | _ => none }
def FoldTurnsWrongFalsely : Prop := foldTurnsRow.holds Try.pinned (OpenSpec.ofChange foldTurnsWrong)

/-- 'triglyphlaw08.FoldCells': WHATEVER THE INPUT: true; the input reads as it did. -/
def foldCellsSpec : ChangeSpec := { name := "foldCells", fn := fun _ => fun
  | [d1, d2, d3, d4, d5] => { results := [.lit (.bool true)], args := [d1, d2, d3, d4, d5] }
  | _ => none }
def foldCellsRow : OpenClaim := { program := "ytahgfebdjjfkhaa", sum := "d5c470f57cb045d9b8937c8b48ad7717a4f4f09dd110d2d77bcedefc5410169e", func := "triglyph/triglyphlaw08.FoldCells", spec := "foldCells", unfollowed := true, recurses := true, loops := true, apart := false }
def FoldCellsSaid : Prop := foldCellsRow.holds Try.pinned (OpenSpec.ofChange foldCellsSpec)

/-- ITS FALSE NEIGHBOUR: 'it returns false'. Refute it at one input. -/
def foldCellsWrong : ChangeSpec := { name := "foldCells", fn := fun _ => fun
  | [d1, d2, d3, d4, d5] => { results := [.lit (.bool false)], args := [d1, d2, d3, d4, d5] }
  | _ => none }
def FoldCellsWrongFalsely : Prop := foldCellsRow.holds Try.pinned (OpenSpec.ofChange foldCellsWrong)

/- THE SECOND FORM. 'bulk': how many values and letters a reading holds, each counted each time it is reached (what is shared counts as often as it is met; a slice's spare places count too). A statement '..UptoSaid' is the law's where the arguments, and the package variables that the reading takes, are together of bulk at most 1048576: NARROWER than '..Said'. Prove '..Said' where nothing that the law and all that it calls make is longer than what came in: it says more and counts as full. Else prove '..UptoSaid'. A law counts once. -/
mutual
def uptoBulk {H : Type} : DataW H → Nat
  | .lit (.string bytes) => bytes.length + 1
  | .lit _ => 1
  | .nil => 1
  | .ptr d => uptoBulk d + 1
  | .slice elems spare => uptoBulkAll elems + uptoBulkAll spare + 1
  | .agg parts => uptoBulkAll parts + 1
  | .iface _ d => uptoBulk d + 1
  | .map entries => uptoBulkEntries entries + 1
  | .held _ => 1
def uptoBulkAll {H : Type} : List (DataW H) → Nat
  | [] => 0
  | d :: r => uptoBulk d + uptoBulkAll r
def uptoBulkEntries {H : Type} : List (Lit × DataW H) → Nat
  | [] => 0
  | x :: r => uptoBulkEntry x + uptoBulkEntries r
def uptoBulkEntry {H : Type} : Lit × DataW H → Nat
  | (.string bytes, d) => bytes.length + uptoBulk d + 1
  | (_, d) => uptoBulk d + 1
 end
def uptoSmall : (H : Type) → List (DataW H) → Bool := fun _ ds => decide (uptoBulkAll ds ≤ 1048576)
def OpenSpec.upto (s : _root_.Go.ChangeSpec) : _root_.Go.OpenSpec := { _root_.Go.OpenSpec.ofChange s with cond := some uptoSmall }

/-- 'triglyphlaw08.FoldReds', WHERE WHAT IT READS IS OF BULK AT MOST 1048576: true; the input reads as it did. -/
def foldRedsUptoRow : OpenClaim := { program := "ytahgfebdjjfkhaa", sum := "d5c470f57cb045d9b8937c8b48ad7717a4f4f09dd110d2d77bcedefc5410169e", func := "triglyph/triglyphlaw08.FoldReds", spec := "foldReds", unfollowed := true, recurses := true, loops := true, apart := false, narrowed := true }
def FoldRedsUptoSaid : Prop := foldRedsUptoRow.holds Try.pinned (OpenSpec.upto foldRedsSpec)

/-- 'triglyphlaw08.FoldScans', WHERE WHAT IT READS IS OF BULK AT MOST 1048576: true; the input reads as it did. -/
def foldScansUptoRow : OpenClaim := { program := "ytahgfebdjjfkhaa", sum := "d5c470f57cb045d9b8937c8b48ad7717a4f4f09dd110d2d77bcedefc5410169e", func := "triglyph/triglyphlaw08.FoldScans", spec := "foldScans", unfollowed := true, recurses := true, loops := true, apart := false, narrowed := true }
def FoldScansUptoSaid : Prop := foldScansUptoRow.holds Try.pinned (OpenSpec.upto foldScansSpec)

/-- 'triglyphlaw08.FoldOuters', WHERE WHAT IT READS IS OF BULK AT MOST 1048576: true; the input reads as it did. -/
def foldOutersUptoRow : OpenClaim := { program := "ytahgfebdjjfkhaa", sum := "d5c470f57cb045d9b8937c8b48ad7717a4f4f09dd110d2d77bcedefc5410169e", func := "triglyph/triglyphlaw08.FoldOuters", spec := "foldOuters", unfollowed := true, recurses := true, loops := true, apart := false, narrowed := true }
def FoldOutersUptoSaid : Prop := foldOutersUptoRow.holds Try.pinned (OpenSpec.upto foldOutersSpec)

/-- 'triglyphlaw08.FoldEnds', WHERE WHAT IT READS IS OF BULK AT MOST 1048576: true; the input reads as it did. -/
def foldEndsUptoRow : OpenClaim := { program := "ytahgfebdjjfkhaa", sum := "d5c470f57cb045d9b8937c8b48ad7717a4f4f09dd110d2d77bcedefc5410169e", func := "triglyph/triglyphlaw08.FoldEnds", spec := "foldEnds", unfollowed := true, recurses := true, apart := false, narrowed := true }
def FoldEndsUptoSaid : Prop := foldEndsUptoRow.holds Try.pinned (OpenSpec.upto foldEndsSpec)

/-- 'triglyphlaw08.FoldTurns', WHERE WHAT IT READS IS OF BULK AT MOST 1048576: true; the input reads as it did. -/
def foldTurnsUptoRow : OpenClaim := { program := "ytahgfebdjjfkhaa", sum := "d5c470f57cb045d9b8937c8b48ad7717a4f4f09dd110d2d77bcedefc5410169e", func := "triglyph/triglyphlaw08.FoldTurns", spec := "foldTurns", unfollowed := true, recurses := true, loops := true, apart := false, narrowed := true }
def FoldTurnsUptoSaid : Prop := foldTurnsUptoRow.holds Try.pinned (OpenSpec.upto foldTurnsSpec)

/-- 'triglyphlaw08.FoldCells', WHERE WHAT IT READS IS OF BULK AT MOST 1048576: true; the input reads as it did. -/
def foldCellsUptoRow : OpenClaim := { program := "ytahgfebdjjfkhaa", sum := "d5c470f57cb045d9b8937c8b48ad7717a4f4f09dd110d2d77bcedefc5410169e", func := "triglyph/triglyphlaw08.FoldCells", spec := "foldCells", unfollowed := true, recurses := true, loops := true, apart := false, narrowed := true }
def FoldCellsUptoSaid : Prop := foldCellsUptoRow.holds Try.pinned (OpenSpec.upto foldCellsSpec)

end Rows
end Go.Proofs.Ytahgfebdjjfkhaa
