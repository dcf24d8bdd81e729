/-
  NARROWER THAN 'FOR EVERY INPUT', by the rows' own cells (each row's printed sentence says how): ShowTexts: loops · ShowAlike: loops.
  DERIVED. THE GIVEN ROWS OF THIS SEAT. 3 by the template 'for every input the law returns true; each argument reads behind the call as it read before'; 0 by the template 'total and deterministic' (their statements: YtbijepjnbolpiaaTotals.lean).
  GIVEN WITH THE SEED: the statements are not yours to turn. If you find one false, say at which input.
  Laid BY PROGRAM, IN A SANDBOX (cutbox-rows.mjs): the forced cells as the released guide's own fill.sh prints them over the translation d056c8a5508791da… (all of the seat's roots in one cut). By AI agents, Wed Nov 11 2026. No macro, syntax, notation, axiom, sorry.
-/
import Derived.Test.YtbijepjnbolpiaaChecked
import GoSem.Claim
import GoSem.ClaimJoined
import GoSem.ClaimMapViews
import Derived.JoinedTies
import Derived.KernelRfl
namespace Go.Proofs.Ytbijepjnbolpiaa
/- THE CELL 'sum', in the pinned program and in every row, IS THE sha256 OF THE DUMP (.gsa) THAT YtbijepjnbolpiaaProg.lean LOADS. Nothing in Lean hashes anything: it is a label: what it is worth is what the hold of that sum in a sandbox is worth. -/
noncomputable def Try.pinned : Pinned := { name := "ytbijepjnbolpiaa", sum := "d056c8a5508791da9452da159a1453c0c2bfbd09f10a7e5daa19bca623c616fe", checked := Try.checked }
namespace Rows
def none {H : Type} : Left H := { results := [], args := [] }

/-- 'triglyphlaw27.ShowTexts': WHATEVER THE INPUT: true; the input reads as it did. -/
def showTextsSpec : ChangeSpec := { name := "showTexts", fn := fun _ => fun
  | [d1, d2] => { results := [.lit (.bool true)], args := [d1, d2] }
  | _ => none }
def showTextsRow : OpenClaim := { program := "ytbijepjnbolpiaa", sum := "d056c8a5508791da9452da159a1453c0c2bfbd09f10a7e5daa19bca623c616fe", func := "triglyph/triglyphlaw27.ShowTexts", spec := "showTexts", inPlace := ["internal/abi.NoEscape", "internal/bytealg.MakeNoZero"], recurses := true, loops := true, apart := false }
def ShowTextsSaid : Prop := showTextsRow.holds Try.pinned (OpenSpec.ofChange showTextsSpec)

/-- ITS FALSE NEIGHBOUR: 'it returns false'. Refute it at one input. -/
def showTextsWrong : ChangeSpec := { name := "showTexts", fn := fun _ => fun
  | [d1, d2] => { results := [.lit (.bool false)], args := [d1, d2] }
  | _ => none }
def ShowTextsWrongFalsely : Prop := showTextsRow.holds Try.pinned (OpenSpec.ofChange showTextsWrong)

/-- 'triglyphlaw27.ShowRows': WHATEVER THE INPUT: true; the input reads as it did. -/
def showRowsSpec : ChangeSpec := { name := "showRows", fn := fun _ => fun
  | [d1, d2] => { results := [.lit (.bool true)], args := [d1, d2] }
  | _ => none }
def showRowsRow : OpenClaim := { program := "ytbijepjnbolpiaa", sum := "d056c8a5508791da9452da159a1453c0c2bfbd09f10a7e5daa19bca623c616fe", func := "triglyph/triglyphlaw27.ShowRows", spec := "showRows", inPlace := ["internal/abi.NoEscape", "internal/bytealg.MakeNoZero"], recurses := true, apart := false }
def ShowRowsSaid : Prop := showRowsRow.holds Try.pinned (OpenSpec.ofChange showRowsSpec)

/-- ITS FALSE NEIGHBOUR: 'it returns false'. Refute it at one input. -/
def showRowsWrong : ChangeSpec := { name := "showRows", fn := fun _ => fun
  | [d1, d2] => { results := [.lit (.bool false)], args := [d1, d2] }
  | _ => none }
def ShowRowsWrongFalsely : Prop := showRowsRow.holds Try.pinned (OpenSpec.ofChange showRowsWrong)

/-- 'triglyphlaw27.ShowAlike': WHATEVER THE INPUT: true; the input reads as it did. -/
def showAlikeSpec : ChangeSpec := { name := "showAlike", fn := fun _ => fun
  | [d] => { results := [.lit (.bool true)], args := [d] }
  | _ => none }
def showAlikeRow : OpenClaim := { program := "ytbijepjnbolpiaa", sum := "d056c8a5508791da9452da159a1453c0c2bfbd09f10a7e5daa19bca623c616fe", func := "triglyph/triglyphlaw27.ShowAlike", spec := "showAlike", inPlace := ["internal/abi.NoEscape", "internal/bytealg.MakeNoZero"], recurses := true, loops := true, apart := false }
def ShowAlikeSaid : Prop := showAlikeRow.holds Try.pinned (OpenSpec.ofChange showAlikeSpec)

/-- ITS FALSE NEIGHBOUR: 'it returns false'. Refute it at one input. -/
def showAlikeWrong : ChangeSpec := { name := "showAlike", fn := fun _ => fun
  | [d] => { results := [.lit (.bool false)], args := [d] }
  | _ => none }
def ShowAlikeWrongFalsely : Prop := showAlikeRow.holds Try.pinned (OpenSpec.ofChange showAlikeWrong)

/- THE SECOND FORM. 'bulk': how many values and letters a reading holds, each counted each time it is reached (what is shared counts as often as it is met; a slice's spare places count too). A statement '..UptoSaid' is the law's where the arguments, and the package variables that the reading takes, are together of bulk at most 1048576: NARROWER than '..Said'. Prove '..Said' where nothing that the law and all that it calls make is longer than what came in: it says more and counts as full. Else prove '..UptoSaid'. A law counts once. -/
mutual
def uptoBulk {H : Type} : DataW H → Nat
  | .lit (.string bytes) => bytes.length + 1
  | .lit _ => 1
  | .nil => 1
  | .ptr d => uptoBulk d + 1
  | .slice elems spare => uptoBulkAll elems + uptoBulkAll spare + 1
  | .agg parts => uptoBulkAll parts + 1
  | .iface _ d => uptoBulk d + 1
  | .map entries => uptoBulkEntries entries + 1
  | .held _ => 1
def uptoBulkAll {H : Type} : List (DataW H) → Nat
  | [] => 0
  | d :: r => uptoBulk d + uptoBulkAll r
def uptoBulkEntries {H : Type} : List (Lit × DataW H) → Nat
  | [] => 0
  | x :: r => uptoBulkEntry x + uptoBulkEntries r
def uptoBulkEntry {H : Type} : Lit × DataW H → Nat
  | (.string bytes, d) => bytes.length + uptoBulk d + 1
  | (_, d) => uptoBulk d + 1
 end
def uptoSmall : (H : Type) → List (DataW H) → Bool := fun _ ds => decide (uptoBulkAll ds ≤ 1048576)
def OpenSpec.upto (s : _root_.Go.ChangeSpec) : _root_.Go.OpenSpec := { _root_.Go.OpenSpec.ofChange s with cond := some uptoSmall }

/-- 'triglyphlaw27.ShowTexts', WHERE WHAT IT READS IS OF BULK AT MOST 1048576: true; the input reads as it did. -/
def showTextsUptoRow : OpenClaim := { program := "ytbijepjnbolpiaa", sum := "d056c8a5508791da9452da159a1453c0c2bfbd09f10a7e5daa19bca623c616fe", func := "triglyph/triglyphlaw27.ShowTexts", spec := "showTexts", inPlace := ["internal/abi.NoEscape", "internal/bytealg.MakeNoZero"], recurses := true, loops := true, apart := false, narrowed := true }
def ShowTextsUptoSaid : Prop := showTextsUptoRow.holds Try.pinned (OpenSpec.upto showTextsSpec)

/-- 'triglyphlaw27.ShowRows', WHERE WHAT IT READS IS OF BULK AT MOST 1048576: true; the input reads as it did. -/
def showRowsUptoRow : OpenClaim := { program := "ytbijepjnbolpiaa", sum := "d056c8a5508791da9452da159a1453c0c2bfbd09f10a7e5daa19bca623c616fe", func := "triglyph/triglyphlaw27.ShowRows", spec := "showRows", inPlace := ["internal/abi.NoEscape", "internal/bytealg.MakeNoZero"], recurses := true, apart := false, narrowed := true }
def ShowRowsUptoSaid : Prop := showRowsUptoRow.holds Try.pinned (OpenSpec.upto showRowsSpec)

/-- 'triglyphlaw27.ShowAlike', WHERE WHAT IT READS IS OF BULK AT MOST 1048576: true; the input reads as it did. -/
def showAlikeUptoRow : OpenClaim := { program := "ytbijepjnbolpiaa", sum := "d056c8a5508791da9452da159a1453c0c2bfbd09f10a7e5daa19bca623c616fe", func := "triglyph/triglyphlaw27.ShowAlike", spec := "showAlike", inPlace := ["internal/abi.NoEscape", "internal/bytealg.MakeNoZero"], recurses := true, loops := true, apart := false, narrowed := true }
def ShowAlikeUptoSaid : Prop := showAlikeUptoRow.holds Try.pinned (OpenSpec.upto showAlikeSpec)

end Rows
end Go.Proofs.Ytbijepjnbolpiaa
