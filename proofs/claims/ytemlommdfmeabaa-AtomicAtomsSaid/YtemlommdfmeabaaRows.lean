/-
  NARROWER THAN 'FOR EVERY INPUT', by the rows' own cells (each row's printed sentence says how): AtomicOne: loops · AtomicCells: loops · AtomicTwo: loops · AtomicTurned: loops · AtomicAtoms: loops.
  DERIVED. THE GIVEN ROWS OF THIS SEAT. 6 by the template 'for every input the law returns true; each argument reads behind the call as it read before'; 0 by the template 'total and deterministic' (their statements: YtemlommdfmeabaaTotals.lean).
  GIVEN WITH THE SEED: the statements are not yours to turn. If you find one false, say at which input.
  Laid BY PROGRAM, IN A SANDBOX (cutbox-rows.mjs): the forced cells as the released guide's own fill.sh prints them over the translation 194cf73b37bd8a9e… (all of the seat's roots in one cut). By AI agents, Wed Nov 11 2026. No macro, syntax, notation, axiom, sorry.
-/
import Derived.Test.YtemlommdfmeabaaChecked
import GoSem.Claim
import GoSem.ClaimJoined
import GoSem.ClaimMapViews
import Derived.JoinedTies
import Derived.KernelRfl
namespace Go.Proofs.Ytemlommdfmeabaa
/- THE CELL 'sum', in the pinned program and in every row, IS THE sha256 OF THE DUMP (.gsa) THAT YtemlommdfmeabaaProg.lean LOADS. Nothing in Lean hashes anything: it is a label: what it is worth is what the hold of that sum in a sandbox is worth. -/
noncomputable def Try.pinned : Pinned := { name := "ytemlommdfmeabaa", sum := "194cf73b37bd8a9e3faea3eaf4164b904f73221983dbdfadc0ad56098f7d1bde", checked := Try.checked }
namespace Rows
def none {H : Type} : Left H := { results := [], args := [] }

/-- 'triglyphlaw04.AtomicOne': WHATEVER THE INPUT: true; the input reads as it did. -/
def atomicOneSpec : ChangeSpec := { name := "atomicOne", fn := fun _ => fun
  | [d1, d2] => { results := [.lit (.bool true)], args := [d1, d2] }
  | _ => none }
def atomicOneRow : OpenClaim := { program := "ytemlommdfmeabaa", sum := "194cf73b37bd8a9e3faea3eaf4164b904f73221983dbdfadc0ad56098f7d1bde", func := "triglyph/triglyphlaw04.AtomicOne", spec := "atomicOne", recurses := true, loops := true, apart := false }
def AtomicOneSaid : Prop := atomicOneRow.holds Try.pinned (OpenSpec.ofChange atomicOneSpec)

/-- ITS FALSE NEIGHBOUR: 'it returns false'. Refute it at one input. -/
def atomicOneWrong : ChangeSpec := { name := "atomicOne", fn := fun _ => fun
  | [d1, d2] => { results := [.lit (.bool false)], args := [d1, d2] }
  | _ => none }
def AtomicOneWrongFalsely : Prop := atomicOneRow.holds Try.pinned (OpenSpec.ofChange atomicOneWrong)

/-- 'triglyphlaw04.AtomicCells': WHATEVER THE INPUT: true; the input reads as it did. -/
def atomicCellsSpec : ChangeSpec := { name := "atomicCells", fn := fun _ => fun
  | [d1, d2, d3] => { results := [.lit (.bool true)], args := [d1, d2, d3] }
  | _ => none }
def atomicCellsRow : OpenClaim := { program := "ytemlommdfmeabaa", sum := "194cf73b37bd8a9e3faea3eaf4164b904f73221983dbdfadc0ad56098f7d1bde", func := "triglyph/triglyphlaw04.AtomicCells", spec := "atomicCells", recurses := true, loops := true, apart := false }
def AtomicCellsSaid : Prop := atomicCellsRow.holds Try.pinned (OpenSpec.ofChange atomicCellsSpec)

/-- ITS FALSE NEIGHBOUR: 'it returns false'. Refute it at one input. -/
def atomicCellsWrong : ChangeSpec := { name := "atomicCells", fn := fun _ => fun
  | [d1, d2, d3] => { results := [.lit (.bool false)], args := [d1, d2, d3] }
  | _ => none }
def AtomicCellsWrongFalsely : Prop := atomicCellsRow.holds Try.pinned (OpenSpec.ofChange atomicCellsWrong)

/-- 'triglyphlaw04.AtomicTwo': WHATEVER THE INPUT: true; the input reads as it did. -/
def atomicTwoSpec : ChangeSpec := { name := "atomicTwo", fn := fun _ => fun
  | [d1, d2, d3] => { results := [.lit (.bool true)], args := [d1, d2, d3] }
  | _ => none }
def atomicTwoRow : OpenClaim := { program := "ytemlommdfmeabaa", sum := "194cf73b37bd8a9e3faea3eaf4164b904f73221983dbdfadc0ad56098f7d1bde", func := "triglyph/triglyphlaw04.AtomicTwo", spec := "atomicTwo", recurses := true, loops := true, apart := false }
def AtomicTwoSaid : Prop := atomicTwoRow.holds Try.pinned (OpenSpec.ofChange atomicTwoSpec)

/-- ITS FALSE NEIGHBOUR: 'it returns false'. Refute it at one input. -/
def atomicTwoWrong : ChangeSpec := { name := "atomicTwo", fn := fun _ => fun
  | [d1, d2, d3] => { results := [.lit (.bool false)], args := [d1, d2, d3] }
  | _ => none }
def AtomicTwoWrongFalsely : Prop := atomicTwoRow.holds Try.pinned (OpenSpec.ofChange atomicTwoWrong)

/-- 'triglyphlaw04.AtomicAgrees': WHATEVER THE INPUT: true; the input reads as it did. -/
def atomicAgreesSpec : ChangeSpec := { name := "atomicAgrees", fn := fun _ => fun
  | [d1, d2] => { results := [.lit (.bool true)], args := [d1, d2] }
  | _ => none }
def atomicAgreesRow : OpenClaim := { program := "ytemlommdfmeabaa", sum := "194cf73b37bd8a9e3faea3eaf4164b904f73221983dbdfadc0ad56098f7d1bde", func := "triglyph/triglyphlaw04.AtomicAgrees", spec := "atomicAgrees", recurses := true, apart := false }
def AtomicAgreesSaid : Prop := atomicAgreesRow.holds Try.pinned (OpenSpec.ofChange atomicAgreesSpec)

/-- ITS FALSE NEIGHBOUR: 'it returns false'. Refute it at one input. -/
def atomicAgreesWrong : ChangeSpec := { name := "atomicAgrees", fn := fun _ => fun
  | [d1, d2] => { results := [.lit (.bool false)], args := [d1, d2] }
  | _ => none }
def AtomicAgreesWrongFalsely : Prop := atomicAgreesRow.holds Try.pinned (OpenSpec.ofChange atomicAgreesWrong)

/-- 'triglyphlaw04.AtomicTurned': WHATEVER THE INPUT: true; the input reads as it did. -/
def atomicTurnedSpec : ChangeSpec := { name := "atomicTurned", fn := fun _ => fun
  | [d1, d2, d3] => { results := [.lit (.bool true)], args := [d1, d2, d3] }
  | _ => none }
def atomicTurnedRow : OpenClaim := { program := "ytemlommdfmeabaa", sum := "194cf73b37bd8a9e3faea3eaf4164b904f73221983dbdfadc0ad56098f7d1bde", func := "triglyph/triglyphlaw04.AtomicTurned", spec := "atomicTurned", recurses := true, loops := true, apart := false }
def AtomicTurnedSaid : Prop := atomicTurnedRow.holds Try.pinned (OpenSpec.ofChange atomicTurnedSpec)

/-- ITS FALSE NEIGHBOUR: 'it returns false'. Refute it at one input. -/
def atomicTurnedWrong : ChangeSpec := { name := "atomicTurned", fn := fun _ => fun
  | [d1, d2, d3] => { results := [.lit (.bool false)], args := [d1, d2, d3] }
  | _ => none }
def AtomicTurnedWrongFalsely : Prop := atomicTurnedRow.holds Try.pinned (OpenSpec.ofChange atomicTurnedWrong)

/-- 'triglyphlaw04.AtomicAtoms': WHATEVER THE INPUT: true; the input reads as it did. -/
def atomicAtomsSpec : ChangeSpec := { name := "atomicAtoms", fn := fun _ => fun
  | [d1, d2, d3, d4] => { results := [.lit (.bool true)], args := [d1, d2, d3, d4] }
  | _ => none }
def atomicAtomsRow : OpenClaim := { program := "ytemlommdfmeabaa", sum := "194cf73b37bd8a9e3faea3eaf4164b904f73221983dbdfadc0ad56098f7d1bde", func := "triglyph/triglyphlaw04.AtomicAtoms", spec := "atomicAtoms", recurses := true, loops := true, apart := false }
def AtomicAtomsSaid : Prop := atomicAtomsRow.holds Try.pinned (OpenSpec.ofChange atomicAtomsSpec)

/-- ITS FALSE NEIGHBOUR: 'it returns false'. Refute it at one input. -/
def atomicAtomsWrong : ChangeSpec := { name := "atomicAtoms", fn := fun _ => fun
  | [d1, d2, d3, d4] => { results := [.lit (.bool false)], args := [d1, d2, d3, d4] }
  | _ => none }
def AtomicAtomsWrongFalsely : Prop := atomicAtomsRow.holds Try.pinned (OpenSpec.ofChange atomicAtomsWrong)

/- THE SECOND FORM. 'bulk': how many values and letters a reading holds, each counted each time it is reached (what is shared counts as often as it is met; a slice's spare places count too). A statement '..UptoSaid' is the law's where the arguments, and the package variables that the reading takes, are together of bulk at most 1048576: NARROWER than '..Said'. Prove '..Said' where nothing that the law and all that it calls make is longer than what came in: it says more and counts as full. Else prove '..UptoSaid'. A law counts once. -/
mutual
def uptoBulk {H : Type} : DataW H → Nat
  | .lit (.string bytes) => bytes.length + 1
  | .lit _ => 1
  | .nil => 1
  | .ptr d => uptoBulk d + 1
  | .slice elems spare => uptoBulkAll elems + uptoBulkAll spare + 1
  | .agg parts => uptoBulkAll parts + 1
  | .iface _ d => uptoBulk d + 1
  | .map entries => uptoBulkEntries entries + 1
  | .held _ => 1
def uptoBulkAll {H : Type} : List (DataW H) → Nat
  | [] => 0
  | d :: r => uptoBulk d + uptoBulkAll r
def uptoBulkEntries {H : Type} : List (Lit × DataW H) → Nat
  | [] => 0
  | x :: r => uptoBulkEntry x + uptoBulkEntries r
def uptoBulkEntry {H : Type} : Lit × DataW H → Nat
  | (.string bytes, d) => bytes.length + uptoBulk d + 1
  | (_, d) => uptoBulk d + 1
 end
def uptoSmall : (H : Type) → List (DataW H) → Bool := fun _ ds => decide (uptoBulkAll ds ≤ 1048576)
def OpenSpec.upto (s : _root_.Go.ChangeSpec) : _root_.Go.OpenSpec := { _root_.Go.OpenSpec.ofChange s with cond := some uptoSmall }

/-- 'triglyphlaw04.AtomicOne', WHERE WHAT IT READS IS OF BULK AT MOST 1048576: true; the input reads as it did. -/
def atomicOneUptoRow : OpenClaim := { program := "ytemlommdfmeabaa", sum := "194cf73b37bd8a9e3faea3eaf4164b904f73221983dbdfadc0ad56098f7d1bde", func := "triglyph/triglyphlaw04.AtomicOne", spec := "atomicOne", recurses := true, loops := true, apart := false, narrowed := true }
def AtomicOneUptoSaid : Prop := atomicOneUptoRow.holds Try.pinned (OpenSpec.upto atomicOneSpec)

/-- 'triglyphlaw04.AtomicCells', WHERE WHAT IT READS IS OF BULK AT MOST 1048576: true; the input reads as it did. -/
def atomicCellsUptoRow : OpenClaim := { program := "ytemlommdfmeabaa", sum := "194cf73b37bd8a9e3faea3eaf4164b904f73221983dbdfadc0ad56098f7d1bde", func := "triglyph/triglyphlaw04.AtomicCells", spec := "atomicCells", recurses := true, loops := true, apart := false, narrowed := true }
def AtomicCellsUptoSaid : Prop := atomicCellsUptoRow.holds Try.pinned (OpenSpec.upto atomicCellsSpec)

/-- 'triglyphlaw04.AtomicTwo', WHERE WHAT IT READS IS OF BULK AT MOST 1048576: true; the input reads as it did. -/
def atomicTwoUptoRow : OpenClaim := { program := "ytemlommdfmeabaa", sum := "194cf73b37bd8a9e3faea3eaf4164b904f73221983dbdfadc0ad56098f7d1bde", func := "triglyph/triglyphlaw04.AtomicTwo", spec := "atomicTwo", recurses := true, loops := true, apart := false, narrowed := true }
def AtomicTwoUptoSaid : Prop := atomicTwoUptoRow.holds Try.pinned (OpenSpec.upto atomicTwoSpec)

/-- 'triglyphlaw04.AtomicAgrees', WHERE WHAT IT READS IS OF BULK AT MOST 1048576: true; the input reads as it did. -/
def atomicAgreesUptoRow : OpenClaim := { program := "ytemlommdfmeabaa", sum := "194cf73b37bd8a9e3faea3eaf4164b904f73221983dbdfadc0ad56098f7d1bde", func := "triglyph/triglyphlaw04.AtomicAgrees", spec := "atomicAgrees", recurses := true, apart := false, narrowed := true }
def AtomicAgreesUptoSaid : Prop := atomicAgreesUptoRow.holds Try.pinned (OpenSpec.upto atomicAgreesSpec)

/-- 'triglyphlaw04.AtomicTurned', WHERE WHAT IT READS IS OF BULK AT MOST 1048576: true; the input reads as it did. -/
def atomicTurnedUptoRow : OpenClaim := { program := "ytemlommdfmeabaa", sum := "194cf73b37bd8a9e3faea3eaf4164b904f73221983dbdfadc0ad56098f7d1bde", func := "triglyph/triglyphlaw04.AtomicTurned", spec := "atomicTurned", recurses := true, loops := true, apart := false, narrowed := true }
def AtomicTurnedUptoSaid : Prop := atomicTurnedUptoRow.holds Try.pinned (OpenSpec.upto atomicTurnedSpec)

/-- 'triglyphlaw04.AtomicAtoms', WHERE WHAT IT READS IS OF BULK AT MOST 1048576: true; the input reads as it did. -/
def atomicAtomsUptoRow : OpenClaim := { program := "ytemlommdfmeabaa", sum := "194cf73b37bd8a9e3faea3eaf4164b904f73221983dbdfadc0ad56098f7d1bde", func := "triglyph/triglyphlaw04.AtomicAtoms", spec := "atomicAtoms", recurses := true, loops := true, apart := false, narrowed := true }
def AtomicAtomsUptoSaid : Prop := atomicAtomsUptoRow.holds Try.pinned (OpenSpec.upto atomicAtomsSpec)

end Rows
end Go.Proofs.Ytemlommdfmeabaa
