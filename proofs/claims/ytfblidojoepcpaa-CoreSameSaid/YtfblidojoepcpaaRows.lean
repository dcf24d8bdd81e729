/-
  NARROWER THAN 'FOR EVERY INPUT', by the rows' own cells (each row's printed sentence says how): CoreWords: loops · CoreSame: loops · CoreParts: loops · CoreWraps: loops.
  DERIVED. THE GIVEN ROWS OF THIS SEAT. 4 by the template 'for every input the law returns true; each argument reads behind the call as it read before'; 0 by the template 'total and deterministic' (their statements: YtfblidojoepcpaaTotals.lean).
  GIVEN WITH THE SEED: the statements are not yours to turn. If you find one false, say at which input.
  Laid BY PROGRAM, IN A SANDBOX (cutbox-rows.mjs): the forced cells as the released guide's own fill.sh prints them over the translation 1f0f21cb2de51da8… (all of the seat's roots in one cut). By AI agents, Wed Nov 11 2026. No macro, syntax, notation, axiom, sorry.
-/
import Derived.Test.YtfblidojoepcpaaChecked
import GoSem.Claim
import GoSem.ClaimJoined
import GoSem.ClaimMapViews
import Derived.JoinedTies
import Derived.KernelRfl
namespace Go.Proofs.Ytfblidojoepcpaa
/- THE CELL 'sum', in the pinned program and in every row, IS THE sha256 OF THE DUMP (.gsa) THAT YtfblidojoepcpaaProg.lean LOADS. Nothing in Lean hashes anything: it is a label: what it is worth is what the hold of that sum in a sandbox is worth. -/
noncomputable def Try.pinned : Pinned := { name := "ytfblidojoepcpaa", sum := "1f0f21cb2de51da859c603ae25f18a2876b821dac5ecdcb46addfdc3796ad665", checked := Try.checked }
namespace Rows
def none {H : Type} : Left H := { results := [], args := [] }

/-- 'triglyphlaw10.CoreWords': WHATEVER THE INPUT: true; the input reads as it did. -/
def coreWordsSpec : ChangeSpec := { name := "coreWords", fn := fun _ => fun
  | [d1, d2, d3] => { results := [.lit (.bool true)], args := [d1, d2, d3] }
  | _ => none }
def coreWordsRow : OpenClaim := { program := "ytfblidojoepcpaa", sum := "1f0f21cb2de51da859c603ae25f18a2876b821dac5ecdcb46addfdc3796ad665", func := "triglyph/triglyphlaw10.CoreWords", spec := "coreWords", unfollowed := true, recurses := true, loops := true, apart := false }
def CoreWordsSaid : Prop := coreWordsRow.holds Try.pinned (OpenSpec.ofChange coreWordsSpec)

/-- ITS FALSE NEIGHBOUR: 'it returns false'. Refute it at one input. -/
def coreWordsWrong : ChangeSpec := { name := "coreWords", fn := fun _ => fun
  | [d1, d2, d3] => { results := [.lit (.bool false)], args := [d1, d2, d3] }
  | _ => none }
def CoreWordsWrongFalsely : Prop := coreWordsRow.holds Try.pinned (OpenSpec.ofChange coreWordsWrong)

/-- 'triglyphlaw10.CoreSame': WHATEVER THE INPUT: true; the input reads as it did. -/
def coreSameSpec : ChangeSpec := { name := "coreSame", fn := fun _ => fun
  | [d1, d2] => { results := [.lit (.bool true)], args := [d1, d2] }
  | _ => none }
def coreSameRow : OpenClaim := { program := "ytfblidojoepcpaa", sum := "1f0f21cb2de51da859c603ae25f18a2876b821dac5ecdcb46addfdc3796ad665", func := "triglyph/triglyphlaw10.CoreSame", spec := "coreSame", unfollowed := true, recurses := true, loops := true, apart := false }
def CoreSameSaid : Prop := coreSameRow.holds Try.pinned (OpenSpec.ofChange coreSameSpec)

/-- ITS FALSE NEIGHBOUR: 'it returns false'. Refute it at one input. -/
def coreSameWrong : ChangeSpec := { name := "coreSame", fn := fun _ => fun
  | [d1, d2] => { results := [.lit (.bool false)], args := [d1, d2] }
  | _ => none }
def CoreSameWrongFalsely : Prop := coreSameRow.holds Try.pinned (OpenSpec.ofChange coreSameWrong)

/-- 'triglyphlaw10.CoreParts': WHATEVER THE INPUT: true; the input reads as it did. -/
def corePartsSpec : ChangeSpec := { name := "coreParts", fn := fun _ => fun
  | [d] => { results := [.lit (.bool true)], args := [d] }
  | _ => none }
def corePartsRow : OpenClaim := { program := "ytfblidojoepcpaa", sum := "1f0f21cb2de51da859c603ae25f18a2876b821dac5ecdcb46addfdc3796ad665", func := "triglyph/triglyphlaw10.CoreParts", spec := "coreParts", unfollowed := true, recurses := true, loops := true, apart := false }
def CorePartsSaid : Prop := corePartsRow.holds Try.pinned (OpenSpec.ofChange corePartsSpec)

/-- ITS FALSE NEIGHBOUR: 'it returns false'. Refute it at one input. -/
def corePartsWrong : ChangeSpec := { name := "coreParts", fn := fun _ => fun
  | [d] => { results := [.lit (.bool false)], args := [d] }
  | _ => none }
def CorePartsWrongFalsely : Prop := corePartsRow.holds Try.pinned (OpenSpec.ofChange corePartsWrong)

/-- 'triglyphlaw10.CoreWraps': WHATEVER THE INPUT: true; the input reads as it did. -/
def coreWrapsSpec : ChangeSpec := { name := "coreWraps", fn := fun _ => fun
  | [d1, d2, d3] => { results := [.lit (.bool true)], args := [d1, d2, d3] }
  | _ => none }
def coreWrapsRow : OpenClaim := { program := "ytfblidojoepcpaa", sum := "1f0f21cb2de51da859c603ae25f18a2876b821dac5ecdcb46addfdc3796ad665", func := "triglyph/triglyphlaw10.CoreWraps", spec := "coreWraps", unfollowed := true, recurses := true, loops := true, apart := false }
def CoreWrapsSaid : Prop := coreWrapsRow.holds Try.pinned (OpenSpec.ofChange coreWrapsSpec)

/-- ITS FALSE NEIGHBOUR: 'it returns false'. Refute it at one input. -/
def coreWrapsWrong : ChangeSpec := { name := "coreWraps", fn := fun _ => fun
  | [d1, d2, d3] => { results := [.lit (.bool false)], args := [d1, d2, d3] }
  | _ => none }
def CoreWrapsWrongFalsely : Prop := coreWrapsRow.holds Try.pinned (OpenSpec.ofChange coreWrapsWrong)

/- THE SECOND FORM. 'bulk': how many values and letters a reading holds, each counted each time it is reached (what is shared counts as often as it is met; a slice's spare places count too). A statement '..UptoSaid' is the law's where the arguments, and the package variables that the reading takes, are together of bulk at most 1048576: NARROWER than '..Said'. Prove '..Said' where nothing that the law and all that it calls make is longer than what came in: it says more and counts as full. Else prove '..UptoSaid'. A law counts once. -/
mutual
def uptoBulk {H : Type} : DataW H → Nat
  | .lit (.string bytes) => bytes.length + 1
  | .lit _ => 1
  | .nil => 1
  | .ptr d => uptoBulk d + 1
  | .slice elems spare => uptoBulkAll elems + uptoBulkAll spare + 1
  | .agg parts => uptoBulkAll parts + 1
  | .iface _ d => uptoBulk d + 1
  | .map entries => uptoBulkEntries entries + 1
  | .held _ => 1
def uptoBulkAll {H : Type} : List (DataW H) → Nat
  | [] => 0
  | d :: r => uptoBulk d + uptoBulkAll r
def uptoBulkEntries {H : Type} : List (Lit × DataW H) → Nat
  | [] => 0
  | x :: r => uptoBulkEntry x + uptoBulkEntries r
def uptoBulkEntry {H : Type} : Lit × DataW H → Nat
  | (.string bytes, d) => bytes.length + uptoBulk d + 1
  | (_, d) => uptoBulk d + 1
 end
def uptoSmall : (H : Type) → List (DataW H) → Bool := fun _ ds => decide (uptoBulkAll ds ≤ 1048576)
def OpenSpec.upto (s : _root_.Go.ChangeSpec) : _root_.Go.OpenSpec := { _root_.Go.OpenSpec.ofChange s with cond := some uptoSmall }

/-- 'triglyphlaw10.CoreWords', WHERE WHAT IT READS IS OF BULK AT MOST 1048576: true; the input reads as it did. -/
def coreWordsUptoRow : OpenClaim := { program := "ytfblidojoepcpaa", sum := "1f0f21cb2de51da859c603ae25f18a2876b821dac5ecdcb46addfdc3796ad665", func := "triglyph/triglyphlaw10.CoreWords", spec := "coreWords", unfollowed := true, recurses := true, loops := true, apart := false, narrowed := true }
def CoreWordsUptoSaid : Prop := coreWordsUptoRow.holds Try.pinned (OpenSpec.upto coreWordsSpec)

/-- 'triglyphlaw10.CoreSame', WHERE WHAT IT READS IS OF BULK AT MOST 1048576: true; the input reads as it did. -/
def coreSameUptoRow : OpenClaim := { program := "ytfblidojoepcpaa", sum := "1f0f21cb2de51da859c603ae25f18a2876b821dac5ecdcb46addfdc3796ad665", func := "triglyph/triglyphlaw10.CoreSame", spec := "coreSame", unfollowed := true, recurses := true, loops := true, apart := false, narrowed := true }
def CoreSameUptoSaid : Prop := coreSameUptoRow.holds Try.pinned (OpenSpec.upto coreSameSpec)

/-- 'triglyphlaw10.CoreParts', WHERE WHAT IT READS IS OF BULK AT MOST 1048576: true; the input reads as it did. -/
def corePartsUptoRow : OpenClaim := { program := "ytfblidojoepcpaa", sum := "1f0f21cb2de51da859c603ae25f18a2876b821dac5ecdcb46addfdc3796ad665", func := "triglyph/triglyphlaw10.CoreParts", spec := "coreParts", unfollowed := true, recurses := true, loops := true, apart := false, narrowed := true }
def CorePartsUptoSaid : Prop := corePartsUptoRow.holds Try.pinned (OpenSpec.upto corePartsSpec)

/-- 'triglyphlaw10.CoreWraps', WHERE WHAT IT READS IS OF BULK AT MOST 1048576: true; the input reads as it did. -/
def coreWrapsUptoRow : OpenClaim := { program := "ytfblidojoepcpaa", sum := "1f0f21cb2de51da859c603ae25f18a2876b821dac5ecdcb46addfdc3796ad665", func := "triglyph/triglyphlaw10.CoreWraps", spec := "coreWraps", unfollowed := true, recurses := true, loops := true, apart := false, narrowed := true }
def CoreWrapsUptoSaid : Prop := coreWrapsUptoRow.holds Try.pinned (OpenSpec.upto coreWrapsSpec)

end Rows
end Go.Proofs.Ytfblidojoepcpaa
