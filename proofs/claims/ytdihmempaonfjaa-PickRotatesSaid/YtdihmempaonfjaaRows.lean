/-
  NARROWER THAN 'FOR EVERY INPUT', by the rows' own cells (each row's printed sentence says how): PickTwo: loops · PickParts: loops · PickRotates: loops · PickAt: loops · PickKeeps: loops · PickMay: loops.
  DERIVED. THE GIVEN ROWS OF THIS SEAT. 6 by the template 'for every input the law returns true; each argument reads behind the call as it read before'; 0 by the template 'total and deterministic' (their statements: YtdihmempaonfjaaTotals.lean).
  GIVEN WITH THE SEED: the statements are not yours to turn. If you find one false, say at which input.
  Laid BY PROGRAM, IN A SANDBOX (cutbox-rows.mjs): the forced cells as the released guide's own fill.sh prints them over the translation 7795999c2b0cb52c… (all of the seat's roots in one cut). By AI agents, Wed Nov 11 2026. No macro, syntax, notation, axiom, sorry.
-/
import Derived.Test.YtdihmempaonfjaaChecked
import GoSem.Claim
import GoSem.ClaimJoined
import GoSem.ClaimMapViews
import Derived.JoinedTies
import Derived.KernelRfl
namespace Go.Proofs.Ytdihmempaonfjaa
/- THE CELL 'sum', in the pinned program and in every row, IS THE sha256 OF THE DUMP (.gsa) THAT YtdihmempaonfjaaProg.lean LOADS. Nothing in Lean hashes anything: it is a label: what it is worth is what the hold of that sum in a sandbox is worth. -/
noncomputable def Try.pinned : Pinned := { name := "ytdihmempaonfjaa", sum := "7795999c2b0cb52c5f139860f00bba81aca59c514907b7309c84c452c391bed5", checked := Try.checked }
namespace Rows
def none {H : Type} : Left H := { results := [], args := [] }

/-- 'triglyphlaw06.PickTwo': WHATEVER THE INPUT: true; the input reads as it did. -/
def pickTwoSpec : ChangeSpec := { name := "pickTwo", fn := fun _ => fun
  | [d1, d2, d3] => { results := [.lit (.bool true)], args := [d1, d2, d3] }
  | _ => none }
def pickTwoRow : OpenClaim := { program := "ytdihmempaonfjaa", sum := "7795999c2b0cb52c5f139860f00bba81aca59c514907b7309c84c452c391bed5", func := "triglyph/triglyphlaw06.PickTwo", spec := "pickTwo", recurses := true, loops := true, apart := false }
def PickTwoSaid : Prop := pickTwoRow.holds Try.pinned (OpenSpec.ofChange pickTwoSpec)

/-- ITS FALSE NEIGHBOUR: 'it returns false'. Refute it at one input. -/
def pickTwoWrong : ChangeSpec := { name := "pickTwo", fn := fun _ => fun
  | [d1, d2, d3] => { results := [.lit (.bool false)], args := [d1, d2, d3] }
  | _ => none }
def PickTwoWrongFalsely : Prop := pickTwoRow.holds Try.pinned (OpenSpec.ofChange pickTwoWrong)

/-- 'triglyphlaw06.PickParts': WHATEVER THE INPUT: true; the input reads as it did. -/
def pickPartsSpec : ChangeSpec := { name := "pickParts", fn := fun _ => fun
  | [d1, d2] => { results := [.lit (.bool true)], args := [d1, d2] }
  | _ => none }
def pickPartsRow : OpenClaim := { program := "ytdihmempaonfjaa", sum := "7795999c2b0cb52c5f139860f00bba81aca59c514907b7309c84c452c391bed5", func := "triglyph/triglyphlaw06.PickParts", spec := "pickParts", recurses := true, loops := true, apart := false }
def PickPartsSaid : Prop := pickPartsRow.holds Try.pinned (OpenSpec.ofChange pickPartsSpec)

/-- ITS FALSE NEIGHBOUR: 'it returns false'. Refute it at one input. -/
def pickPartsWrong : ChangeSpec := { name := "pickParts", fn := fun _ => fun
  | [d1, d2] => { results := [.lit (.bool false)], args := [d1, d2] }
  | _ => none }
def PickPartsWrongFalsely : Prop := pickPartsRow.holds Try.pinned (OpenSpec.ofChange pickPartsWrong)

/-- 'triglyphlaw06.PickRotates': WHATEVER THE INPUT: true; the input reads as it did. -/
def pickRotatesSpec : ChangeSpec := { name := "pickRotates", fn := fun _ => fun
  | [d1, d2, d3, d4] => { results := [.lit (.bool true)], args := [d1, d2, d3, d4] }
  | _ => none }
def pickRotatesRow : OpenClaim := { program := "ytdihmempaonfjaa", sum := "7795999c2b0cb52c5f139860f00bba81aca59c514907b7309c84c452c391bed5", func := "triglyph/triglyphlaw06.PickRotates", spec := "pickRotates", recurses := true, loops := true, apart := false }
def PickRotatesSaid : Prop := pickRotatesRow.holds Try.pinned (OpenSpec.ofChange pickRotatesSpec)

/-- ITS FALSE NEIGHBOUR: 'it returns false'. Refute it at one input. -/
def pickRotatesWrong : ChangeSpec := { name := "pickRotates", fn := fun _ => fun
  | [d1, d2, d3, d4] => { results := [.lit (.bool false)], args := [d1, d2, d3, d4] }
  | _ => none }
def PickRotatesWrongFalsely : Prop := pickRotatesRow.holds Try.pinned (OpenSpec.ofChange pickRotatesWrong)

/-- 'triglyphlaw06.PickAt': WHATEVER THE INPUT: true; the input reads as it did. -/
def pickAtSpec : ChangeSpec := { name := "pickAt", fn := fun _ => fun
  | [d1, d2, d3] => { results := [.lit (.bool true)], args := [d1, d2, d3] }
  | _ => none }
def pickAtRow : OpenClaim := { program := "ytdihmempaonfjaa", sum := "7795999c2b0cb52c5f139860f00bba81aca59c514907b7309c84c452c391bed5", func := "triglyph/triglyphlaw06.PickAt", spec := "pickAt", recurses := true, loops := true, apart := false }
def PickAtSaid : Prop := pickAtRow.holds Try.pinned (OpenSpec.ofChange pickAtSpec)

/-- ITS FALSE NEIGHBOUR: 'it returns false'. Refute it at one input. -/
def pickAtWrong : ChangeSpec := { name := "pickAt", fn := fun _ => fun
  | [d1, d2, d3] => { results := [.lit (.bool false)], args := [d1, d2, d3] }
  | _ => none }
def PickAtWrongFalsely : Prop := pickAtRow.holds Try.pinned (OpenSpec.ofChange pickAtWrong)

/-- 'triglyphlaw06.PickKeeps': WHATEVER THE INPUT: true; the input reads as it did. -/
def pickKeepsSpec : ChangeSpec := { name := "pickKeeps", fn := fun _ => fun
  | [d] => { results := [.lit (.bool true)], args := [d] }
  | _ => none }
def pickKeepsRow : OpenClaim := { program := "ytdihmempaonfjaa", sum := "7795999c2b0cb52c5f139860f00bba81aca59c514907b7309c84c452c391bed5", func := "triglyph/triglyphlaw06.PickKeeps", spec := "pickKeeps", recurses := true, loops := true, apart := false }
def PickKeepsSaid : Prop := pickKeepsRow.holds Try.pinned (OpenSpec.ofChange pickKeepsSpec)

/-- ITS FALSE NEIGHBOUR: 'it returns false'. Refute it at one input. -/
def pickKeepsWrong : ChangeSpec := { name := "pickKeeps", fn := fun _ => fun
  | [d] => { results := [.lit (.bool false)], args := [d] }
  | _ => none }
def PickKeepsWrongFalsely : Prop := pickKeepsRow.holds Try.pinned (OpenSpec.ofChange pickKeepsWrong)

/-- 'triglyphlaw06.PickMay': WHATEVER THE INPUT: true; the input reads as it did. -/
def pickMaySpec : ChangeSpec := { name := "pickMay", fn := fun _ => fun
  | [d1, d2, d3] => { results := [.lit (.bool true)], args := [d1, d2, d3] }
  | _ => none }
def pickMayRow : OpenClaim := { program := "ytdihmempaonfjaa", sum := "7795999c2b0cb52c5f139860f00bba81aca59c514907b7309c84c452c391bed5", func := "triglyph/triglyphlaw06.PickMay", spec := "pickMay", recurses := true, loops := true, apart := false }
def PickMaySaid : Prop := pickMayRow.holds Try.pinned (OpenSpec.ofChange pickMaySpec)

/-- ITS FALSE NEIGHBOUR: 'it returns false'. Refute it at one input. -/
def pickMayWrong : ChangeSpec := { name := "pickMay", fn := fun _ => fun
  | [d1, d2, d3] => { results := [.lit (.bool false)], args := [d1, d2, d3] }
  | _ => none }
def PickMayWrongFalsely : Prop := pickMayRow.holds Try.pinned (OpenSpec.ofChange pickMayWrong)

/- THE SECOND FORM. 'bulk': how many values and letters a reading holds, each counted each time it is reached (what is shared counts as often as it is met; a slice's spare places count too). A statement '..UptoSaid' is the law's where the arguments, and the package variables that the reading takes, are together of bulk at most 1048576: NARROWER than '..Said'. Prove '..Said' where nothing that the law and all that it calls make is longer than what came in: it says more and counts as full. Else prove '..UptoSaid'. A law counts once. -/
mutual
def uptoBulk {H : Type} : DataW H → Nat
  | .lit (.string bytes) => bytes.length + 1
  | .lit _ => 1
  | .nil => 1
  | .ptr d => uptoBulk d + 1
  | .slice elems spare => uptoBulkAll elems + uptoBulkAll spare + 1
  | .agg parts => uptoBulkAll parts + 1
  | .iface _ d => uptoBulk d + 1
  | .map entries => uptoBulkEntries entries + 1
  | .held _ => 1
def uptoBulkAll {H : Type} : List (DataW H) → Nat
  | [] => 0
  | d :: r => uptoBulk d + uptoBulkAll r
def uptoBulkEntries {H : Type} : List (Lit × DataW H) → Nat
  | [] => 0
  | x :: r => uptoBulkEntry x + uptoBulkEntries r
def uptoBulkEntry {H : Type} : Lit × DataW H → Nat
  | (.string bytes, d) => bytes.length + uptoBulk d + 1
  | (_, d) => uptoBulk d + 1
 end
def uptoSmall : (H : Type) → List (DataW H) → Bool := fun _ ds => decide (uptoBulkAll ds ≤ 1048576)
def OpenSpec.upto (s : _root_.Go.ChangeSpec) : _root_.Go.OpenSpec := { _root_.Go.OpenSpec.ofChange s with cond := some uptoSmall }

/-- 'triglyphlaw06.PickTwo', WHERE WHAT IT READS IS OF BULK AT MOST 1048576: true; the input reads as it did. -/
def pickTwoUptoRow : OpenClaim := { program := "ytdihmempaonfjaa", sum := "7795999c2b0cb52c5f139860f00bba81aca59c514907b7309c84c452c391bed5", func := "triglyph/triglyphlaw06.PickTwo", spec := "pickTwo", recurses := true, loops := true, apart := false, narrowed := true }
def PickTwoUptoSaid : Prop := pickTwoUptoRow.holds Try.pinned (OpenSpec.upto pickTwoSpec)

/-- 'triglyphlaw06.PickParts', WHERE WHAT IT READS IS OF BULK AT MOST 1048576: true; the input reads as it did. -/
def pickPartsUptoRow : OpenClaim := { program := "ytdihmempaonfjaa", sum := "7795999c2b0cb52c5f139860f00bba81aca59c514907b7309c84c452c391bed5", func := "triglyph/triglyphlaw06.PickParts", spec := "pickParts", recurses := true, loops := true, apart := false, narrowed := true }
def PickPartsUptoSaid : Prop := pickPartsUptoRow.holds Try.pinned (OpenSpec.upto pickPartsSpec)

/-- 'triglyphlaw06.PickRotates', WHERE WHAT IT READS IS OF BULK AT MOST 1048576: true; the input reads as it did. -/
def pickRotatesUptoRow : OpenClaim := { program := "ytdihmempaonfjaa", sum := "7795999c2b0cb52c5f139860f00bba81aca59c514907b7309c84c452c391bed5", func := "triglyph/triglyphlaw06.PickRotates", spec := "pickRotates", recurses := true, loops := true, apart := false, narrowed := true }
def PickRotatesUptoSaid : Prop := pickRotatesUptoRow.holds Try.pinned (OpenSpec.upto pickRotatesSpec)

/-- 'triglyphlaw06.PickAt', WHERE WHAT IT READS IS OF BULK AT MOST 1048576: true; the input reads as it did. -/
def pickAtUptoRow : OpenClaim := { program := "ytdihmempaonfjaa", sum := "7795999c2b0cb52c5f139860f00bba81aca59c514907b7309c84c452c391bed5", func := "triglyph/triglyphlaw06.PickAt", spec := "pickAt", recurses := true, loops := true, apart := false, narrowed := true }
def PickAtUptoSaid : Prop := pickAtUptoRow.holds Try.pinned (OpenSpec.upto pickAtSpec)

/-- 'triglyphlaw06.PickKeeps', WHERE WHAT IT READS IS OF BULK AT MOST 1048576: true; the input reads as it did. -/
def pickKeepsUptoRow : OpenClaim := { program := "ytdihmempaonfjaa", sum := "7795999c2b0cb52c5f139860f00bba81aca59c514907b7309c84c452c391bed5", func := "triglyph/triglyphlaw06.PickKeeps", spec := "pickKeeps", recurses := true, loops := true, apart := false, narrowed := true }
def PickKeepsUptoSaid : Prop := pickKeepsUptoRow.holds Try.pinned (OpenSpec.upto pickKeepsSpec)

/-- 'triglyphlaw06.PickMay', WHERE WHAT IT READS IS OF BULK AT MOST 1048576: true; the input reads as it did. -/
def pickMayUptoRow : OpenClaim := { program := "ytdihmempaonfjaa", sum := "7795999c2b0cb52c5f139860f00bba81aca59c514907b7309c84c452c391bed5", func := "triglyph/triglyphlaw06.PickMay", spec := "pickMay", recurses := true, loops := true, apart := false, narrowed := true }
def PickMayUptoSaid : Prop := pickMayUptoRow.holds Try.pinned (OpenSpec.upto pickMaySpec)

end Rows
end Go.Proofs.Ytdihmempaonfjaa
