/-
  NARROWER THAN 'FOR EVERY INPUT', by the rows' own cells (each row's printed sentence says how): FragFits: loops · FragParts: loops.
  DERIVED. THE GIVEN ROWS OF THIS SEAT. 3 by the template 'for every input the law returns true; each argument reads behind the call as it read before'; 0 by the template 'total and deterministic' (their statements: YtfjkclhkobnakaaTotals.lean).
  GIVEN WITH THE SEED: the statements are not yours to turn. If you find one false, say at which input.
  Laid BY PROGRAM, IN A SANDBOX (cutbox-rows.mjs): the forced cells as the released guide's own fill.sh prints them over the translation 974de57e2cdb7f10… (all of the seat's roots in one cut). By AI agents, Wed Nov 11 2026. No macro, syntax, notation, axiom, sorry.
-/
import Derived.Test.YtfjkclhkobnakaaChecked
import GoSem.Claim
import GoSem.ClaimJoined
import GoSem.ClaimMapViews
import Derived.JoinedTies
import Derived.KernelRfl
namespace Go.Proofs.Ytfjkclhkobnakaa
/- THE CELL 'sum', in the pinned program and in every row, IS THE sha256 OF THE DUMP (.gsa) THAT YtfjkclhkobnakaaProg.lean LOADS. Nothing in Lean hashes anything: it is a label: what it is worth is what the hold of that sum in a sandbox is worth. -/
noncomputable def Try.pinned : Pinned := { name := "ytfjkclhkobnakaa", sum := "974de57e2cdb7f102eca8467f7ec0381f3c8ed4f68e87be0ef0d8c8d6fc6664b", checked := Try.checked }
namespace Rows
def none {H : Type} : Left H := { results := [], args := [] }

/-- 'triglyphlaw24.FragFits': WHATEVER THE INPUT: true; the input reads as it did. -/
def fragFitsSpec : ChangeSpec := { name := "fragFits", fn := fun _ => fun
  | [d1, d2] => { results := [.lit (.bool true)], args := [d1, d2] }
  | _ => none }
def fragFitsRow : OpenClaim := { program := "ytfjkclhkobnakaa", sum := "974de57e2cdb7f102eca8467f7ec0381f3c8ed4f68e87be0ef0d8c8d6fc6664b", func := "triglyph/triglyphlaw24.FragFits", spec := "fragFits", unfollowed := true, recurses := true, loops := true, apart := false }
def FragFitsSaid : Prop := fragFitsRow.holds Try.pinned (OpenSpec.ofChange fragFitsSpec)

/-- ITS FALSE NEIGHBOUR: 'it returns false'. Refute it at one input. -/
def fragFitsWrong : ChangeSpec := { name := "fragFits", fn := fun _ => fun
  | [d1, d2] => { results := [.lit (.bool false)], args := [d1, d2] }
  | _ => none }
def FragFitsWrongFalsely : Prop := fragFitsRow.holds Try.pinned (OpenSpec.ofChange fragFitsWrong)

/-- 'triglyphlaw24.FragSays': WHATEVER THE INPUT: true; the input reads as it did. -/
def fragSaysSpec : ChangeSpec := { name := "fragSays", fn := fun _ => fun
  | [d1, d2] => { results := [.lit (.bool true)], args := [d1, d2] }
  | _ => none }
def fragSaysRow : OpenClaim := { program := "ytfjkclhkobnakaa", sum := "974de57e2cdb7f102eca8467f7ec0381f3c8ed4f68e87be0ef0d8c8d6fc6664b", func := "triglyph/triglyphlaw24.FragSays", spec := "fragSays", unfollowed := true, recurses := true, apart := false }
def FragSaysSaid : Prop := fragSaysRow.holds Try.pinned (OpenSpec.ofChange fragSaysSpec)

/-- ITS FALSE NEIGHBOUR: 'it returns false'. Refute it at one input. -/
def fragSaysWrong : ChangeSpec := { name := "fragSays", fn := fun _ => fun
  | [d1, d2] => { results := [.lit (.bool false)], args := [d1, d2] }
  | _ => none }
def FragSaysWrongFalsely : Prop := fragSaysRow.holds Try.pinned (OpenSpec.ofChange fragSaysWrong)

/-- 'triglyphlaw24.FragParts': WHATEVER THE INPUT: true; the input reads as it did. -/
def fragPartsSpec : ChangeSpec := { name := "fragParts", fn := fun _ => fun
  | [d1, d2] => { results := [.lit (.bool true)], args := [d1, d2] }
  | _ => none }
def fragPartsRow : OpenClaim := { program := "ytfjkclhkobnakaa", sum := "974de57e2cdb7f102eca8467f7ec0381f3c8ed4f68e87be0ef0d8c8d6fc6664b", func := "triglyph/triglyphlaw24.FragParts", spec := "fragParts", unfollowed := true, recurses := true, loops := true, apart := false }
def FragPartsSaid : Prop := fragPartsRow.holds Try.pinned (OpenSpec.ofChange fragPartsSpec)

/-- ITS FALSE NEIGHBOUR: 'it returns false'. Refute it at one input. -/
def fragPartsWrong : ChangeSpec := { name := "fragParts", fn := fun _ => fun
  | [d1, d2] => { results := [.lit (.bool false)], args := [d1, d2] }
  | _ => none }
def FragPartsWrongFalsely : Prop := fragPartsRow.holds Try.pinned (OpenSpec.ofChange fragPartsWrong)

/- THE SECOND FORM. 'bulk': how many values and letters a reading holds, each counted each time it is reached (what is shared counts as often as it is met; a slice's spare places count too). A statement '..UptoSaid' is the law's where the arguments, and the package variables that the reading takes, are together of bulk at most 1048576: NARROWER than '..Said'. Prove '..Said' where nothing that the law and all that it calls make is longer than what came in: it says more and counts as full. Else prove '..UptoSaid'. A law counts once. -/
mutual
def uptoBulk {H : Type} : DataW H → Nat
  | .lit (.string bytes) => bytes.length + 1
  | .lit _ => 1
  | .nil => 1
  | .ptr d => uptoBulk d + 1
  | .slice elems spare => uptoBulkAll elems + uptoBulkAll spare + 1
  | .agg parts => uptoBulkAll parts + 1
  | .iface _ d => uptoBulk d + 1
  | .map entries => uptoBulkEntries entries + 1
  | .held _ => 1
def uptoBulkAll {H : Type} : List (DataW H) → Nat
  | [] => 0
  | d :: r => uptoBulk d + uptoBulkAll r
def uptoBulkEntries {H : Type} : List (Lit × DataW H) → Nat
  | [] => 0
  | x :: r => uptoBulkEntry x + uptoBulkEntries r
def uptoBulkEntry {H : Type} : Lit × DataW H → Nat
  | (.string bytes, d) => bytes.length + uptoBulk d + 1
  | (_, d) => uptoBulk d + 1
 end
def uptoSmall : (H : Type) → List (DataW H) → Bool := fun _ ds => decide (uptoBulkAll ds ≤ 1048576)
def OpenSpec.upto (s : _root_.Go.ChangeSpec) : _root_.Go.OpenSpec := { _root_.Go.OpenSpec.ofChange s with cond := some uptoSmall }

/-- 'triglyphlaw24.FragFits', WHERE WHAT IT READS IS OF BULK AT MOST 1048576: true; the input reads as it did. -/
def fragFitsUptoRow : OpenClaim := { program := "ytfjkclhkobnakaa", sum := "974de57e2cdb7f102eca8467f7ec0381f3c8ed4f68e87be0ef0d8c8d6fc6664b", func := "triglyph/triglyphlaw24.FragFits", spec := "fragFits", unfollowed := true, recurses := true, loops := true, apart := false, narrowed := true }
def FragFitsUptoSaid : Prop := fragFitsUptoRow.holds Try.pinned (OpenSpec.upto fragFitsSpec)

/-- 'triglyphlaw24.FragSays', WHERE WHAT IT READS IS OF BULK AT MOST 1048576: true; the input reads as it did. -/
def fragSaysUptoRow : OpenClaim := { program := "ytfjkclhkobnakaa", sum := "974de57e2cdb7f102eca8467f7ec0381f3c8ed4f68e87be0ef0d8c8d6fc6664b", func := "triglyph/triglyphlaw24.FragSays", spec := "fragSays", unfollowed := true, recurses := true, apart := false, narrowed := true }
def FragSaysUptoSaid : Prop := fragSaysUptoRow.holds Try.pinned (OpenSpec.upto fragSaysSpec)

/-- 'triglyphlaw24.FragParts', WHERE WHAT IT READS IS OF BULK AT MOST 1048576: true; the input reads as it did. -/
def fragPartsUptoRow : OpenClaim := { program := "ytfjkclhkobnakaa", sum := "974de57e2cdb7f102eca8467f7ec0381f3c8ed4f68e87be0ef0d8c8d6fc6664b", func := "triglyph/triglyphlaw24.FragParts", spec := "fragParts", unfollowed := true, recurses := true, loops := true, apart := false, narrowed := true }
def FragPartsUptoSaid : Prop := fragPartsUptoRow.holds Try.pinned (OpenSpec.upto fragPartsSpec)

end Rows
end Go.Proofs.Ytfjkclhkobnakaa
