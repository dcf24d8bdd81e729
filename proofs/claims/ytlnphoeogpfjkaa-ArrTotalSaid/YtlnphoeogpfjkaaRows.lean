/-
  NARROWER THAN 'FOR EVERY INPUT', by the rows' own cells (each row's printed sentence says how): ArrOrders: loops · ArrChecks: loops · ArrCopies: loops · ArrTotal: loops.
  DERIVED. THE GIVEN ROWS OF THIS SEAT. 6 by the template 'for every input the law returns true; each argument reads behind the call as it read before'; 0 by the template 'total and deterministic' (their statements: YtlnphoeogpfjkaaTotals.lean).
  GIVEN WITH THE SEED: the statements are not yours to turn. If you find one false, say at which input.
  Laid BY PROGRAM, IN A SANDBOX (cutbox-rows.mjs): the forced cells as the released guide's own fill.sh prints them over the translation 317ed878f84cacf9… (all of the seat's roots in one cut). By AI agents, Wed Nov 11 2026. No macro, syntax, notation, axiom, sorry.
-/
import Derived.Test.YtlnphoeogpfjkaaChecked
import GoSem.Claim
import GoSem.ClaimJoined
import GoSem.ClaimMapViews
import Derived.JoinedTies
import Derived.KernelRfl
namespace Go.Proofs.Ytlnphoeogpfjkaa
/- THE CELL 'sum', in the pinned program and in every row, IS THE sha256 OF THE DUMP (.gsa) THAT YtlnphoeogpfjkaaProg.lean LOADS. Nothing in Lean hashes anything: it is a label: what it is worth is what the hold of that sum in a sandbox is worth. -/
noncomputable def Try.pinned : Pinned := { name := "ytlnphoeogpfjkaa", sum := "317ed878f84cacf90c654ff75c9fc3f70c5f0cd67c8a3b34b4595f5c534d1257", checked := Try.checked }
namespace Rows
def none {H : Type} : Left H := { results := [], args := [] }

/-- 'triglyphlaw03.ArrOrders': WHATEVER THE INPUT: true; the input reads as it did. -/
def arrOrdersSpec : ChangeSpec := { name := "arrOrders", fn := fun _ => fun
  | [d1, d2, d3, d4] => { results := [.lit (.bool true)], args := [d1, d2, d3, d4] }
  | _ => none }
def arrOrdersRow : OpenClaim := { program := "ytlnphoeogpfjkaa", sum := "317ed878f84cacf90c654ff75c9fc3f70c5f0cd67c8a3b34b4595f5c534d1257", func := "triglyph/triglyphlaw03.ArrOrders", spec := "arrOrders", unfollowed := true, recurses := true, loops := true, apart := false }
def ArrOrdersSaid : Prop := arrOrdersRow.holds Try.pinned (OpenSpec.ofChange arrOrdersSpec)

/-- ITS FALSE NEIGHBOUR: 'it returns false'. Refute it at one input. -/
def arrOrdersWrong : ChangeSpec := { name := "arrOrders", fn := fun _ => fun
  | [d1, d2, d3, d4] => { results := [.lit (.bool false)], args := [d1, d2, d3, d4] }
  | _ => none }
def ArrOrdersWrongFalsely : Prop := arrOrdersRow.holds Try.pinned (OpenSpec.ofChange arrOrdersWrong)

/-- 'triglyphlaw03.ArrChecks': WHATEVER THE INPUT: true; the input reads as it did. -/
def arrChecksSpec : ChangeSpec := { name := "arrChecks", fn := fun _ => fun
  | [d] => { results := [.lit (.bool true)], args := [d] }
  | _ => none }
def arrChecksRow : OpenClaim := { program := "ytlnphoeogpfjkaa", sum := "317ed878f84cacf90c654ff75c9fc3f70c5f0cd67c8a3b34b4595f5c534d1257", func := "triglyph/triglyphlaw03.ArrChecks", spec := "arrChecks", unfollowed := true, recurses := true, loops := true, apart := false }
def ArrChecksSaid : Prop := arrChecksRow.holds Try.pinned (OpenSpec.ofChange arrChecksSpec)

/-- ITS FALSE NEIGHBOUR: 'it returns false'. Refute it at one input. -/
def arrChecksWrong : ChangeSpec := { name := "arrChecks", fn := fun _ => fun
  | [d] => { results := [.lit (.bool false)], args := [d] }
  | _ => none }
def ArrChecksWrongFalsely : Prop := arrChecksRow.holds Try.pinned (OpenSpec.ofChange arrChecksWrong)

/-- 'triglyphlaw03.ArrMakes': WHATEVER THE INPUT: true; the input reads as it did. -/
def arrMakesSpec : ChangeSpec := { name := "arrMakes", fn := fun _ => fun
  | [d1, d2] => { results := [.lit (.bool true)], args := [d1, d2] }
  | _ => none }
def arrMakesRow : OpenClaim := { program := "ytlnphoeogpfjkaa", sum := "317ed878f84cacf90c654ff75c9fc3f70c5f0cd67c8a3b34b4595f5c534d1257", func := "triglyph/triglyphlaw03.ArrMakes", spec := "arrMakes", unfollowed := true, recurses := true, apart := false }
def ArrMakesSaid : Prop := arrMakesRow.holds Try.pinned (OpenSpec.ofChange arrMakesSpec)

/-- ITS FALSE NEIGHBOUR: 'it returns false'. Refute it at one input. -/
def arrMakesWrong : ChangeSpec := { name := "arrMakes", fn := fun _ => fun
  | [d1, d2] => { results := [.lit (.bool false)], args := [d1, d2] }
  | _ => none }
def ArrMakesWrongFalsely : Prop := arrMakesRow.holds Try.pinned (OpenSpec.ofChange arrMakesWrong)

/-- 'triglyphlaw03.ArrCopies': WHATEVER THE INPUT: true; the input reads as it did. -/
def arrCopiesSpec : ChangeSpec := { name := "arrCopies", fn := fun _ => fun
  | [d] => { results := [.lit (.bool true)], args := [d] }
  | _ => none }
def arrCopiesRow : OpenClaim := { program := "ytlnphoeogpfjkaa", sum := "317ed878f84cacf90c654ff75c9fc3f70c5f0cd67c8a3b34b4595f5c534d1257", func := "triglyph/triglyphlaw03.ArrCopies", spec := "arrCopies", unfollowed := true, recurses := true, loops := true, apart := false }
def ArrCopiesSaid : Prop := arrCopiesRow.holds Try.pinned (OpenSpec.ofChange arrCopiesSpec)

/-- ITS FALSE NEIGHBOUR: 'it returns false'. Refute it at one input. -/
def arrCopiesWrong : ChangeSpec := { name := "arrCopies", fn := fun _ => fun
  | [d] => { results := [.lit (.bool false)], args := [d] }
  | _ => none }
def ArrCopiesWrongFalsely : Prop := arrCopiesRow.holds Try.pinned (OpenSpec.ofChange arrCopiesWrong)

/-- 'triglyphlaw03.ArrTotal': WHATEVER THE INPUT: true; the input reads as it did. -/
def arrTotalSpec : ChangeSpec := { name := "arrTotal", fn := fun _ => fun
  | [d1, d2, d3] => { results := [.lit (.bool true)], args := [d1, d2, d3] }
  | _ => none }
def arrTotalRow : OpenClaim := { program := "ytlnphoeogpfjkaa", sum := "317ed878f84cacf90c654ff75c9fc3f70c5f0cd67c8a3b34b4595f5c534d1257", func := "triglyph/triglyphlaw03.ArrTotal", spec := "arrTotal", unfollowed := true, recurses := true, loops := true, apart := false }
def ArrTotalSaid : Prop := arrTotalRow.holds Try.pinned (OpenSpec.ofChange arrTotalSpec)

/-- ITS FALSE NEIGHBOUR: 'it returns false'. Refute it at one input. -/
def arrTotalWrong : ChangeSpec := { name := "arrTotal", fn := fun _ => fun
  | [d1, d2, d3] => { results := [.lit (.bool false)], args := [d1, d2, d3] }
  | _ => none }
def ArrTotalWrongFalsely : Prop := arrTotalRow.holds Try.pinned (OpenSpec.ofChange arrTotalWrong)

/-- 'triglyphlaw03.ArrPlaces': WHATEVER THE INPUT: true; the input reads as it did. -/
def arrPlacesSpec : ChangeSpec := { name := "arrPlaces", fn := fun _ => fun
  | [d1, d2, d3] => { results := [.lit (.bool true)], args := [d1, d2, d3] }
  | _ => none }
def arrPlacesRow : OpenClaim := { program := "ytlnphoeogpfjkaa", sum := "317ed878f84cacf90c654ff75c9fc3f70c5f0cd67c8a3b34b4595f5c534d1257", func := "triglyph/triglyphlaw03.ArrPlaces", spec := "arrPlaces", unfollowed := true, recurses := true, apart := false }
def ArrPlacesSaid : Prop := arrPlacesRow.holds Try.pinned (OpenSpec.ofChange arrPlacesSpec)

/-- ITS FALSE NEIGHBOUR: 'it returns false'. Refute it at one input. -/
def arrPlacesWrong : ChangeSpec := { name := "arrPlaces", fn := fun _ => fun
  | [d1, d2, d3] => { results := [.lit (.bool false)], args := [d1, d2, d3] }
  | _ => none }
def ArrPlacesWrongFalsely : Prop := arrPlacesRow.holds Try.pinned (OpenSpec.ofChange arrPlacesWrong)

/- THE SECOND FORM. 'bulk': how many values and letters a reading holds, each counted each time it is reached (what is shared counts as often as it is met; a slice's spare places count too). A statement '..UptoSaid' is the law's where the arguments, and the package variables that the reading takes, are together of bulk at most 1048576: NARROWER than '..Said'. Prove '..Said' where nothing that the law and all that it calls make is longer than what came in: it says more and counts as full. Else prove '..UptoSaid'. A law counts once. -/
mutual
def uptoBulk {H : Type} : DataW H → Nat
  | .lit (.string bytes) => bytes.length + 1
  | .lit _ => 1
  | .nil => 1
  | .ptr d => uptoBulk d + 1
  | .slice elems spare => uptoBulkAll elems + uptoBulkAll spare + 1
  | .agg parts => uptoBulkAll parts + 1
  | .iface _ d => uptoBulk d + 1
  | .map entries => uptoBulkEntries entries + 1
  | .held _ => 1
def uptoBulkAll {H : Type} : List (DataW H) → Nat
  | [] => 0
  | d :: r => uptoBulk d + uptoBulkAll r
def uptoBulkEntries {H : Type} : List (Lit × DataW H) → Nat
  | [] => 0
  | x :: r => uptoBulkEntry x + uptoBulkEntries r
def uptoBulkEntry {H : Type} : Lit × DataW H → Nat
  | (.string bytes, d) => bytes.length + uptoBulk d + 1
  | (_, d) => uptoBulk d + 1
 end
def uptoSmall : (H : Type) → List (DataW H) → Bool := fun _ ds => decide (uptoBulkAll ds ≤ 1048576)
def OpenSpec.upto (s : _root_.Go.ChangeSpec) : _root_.Go.OpenSpec := { _root_.Go.OpenSpec.ofChange s with cond := some uptoSmall }

/-- 'triglyphlaw03.ArrOrders', WHERE WHAT IT READS IS OF BULK AT MOST 1048576: true; the input reads as it did. -/
def arrOrdersUptoRow : OpenClaim := { program := "ytlnphoeogpfjkaa", sum := "317ed878f84cacf90c654ff75c9fc3f70c5f0cd67c8a3b34b4595f5c534d1257", func := "triglyph/triglyphlaw03.ArrOrders", spec := "arrOrders", unfollowed := true, recurses := true, loops := true, apart := false, narrowed := true }
def ArrOrdersUptoSaid : Prop := arrOrdersUptoRow.holds Try.pinned (OpenSpec.upto arrOrdersSpec)

/-- 'triglyphlaw03.ArrChecks', WHERE WHAT IT READS IS OF BULK AT MOST 1048576: true; the input reads as it did. -/
def arrChecksUptoRow : OpenClaim := { program := "ytlnphoeogpfjkaa", sum := "317ed878f84cacf90c654ff75c9fc3f70c5f0cd67c8a3b34b4595f5c534d1257", func := "triglyph/triglyphlaw03.ArrChecks", spec := "arrChecks", unfollowed := true, recurses := true, loops := true, apart := false, narrowed := true }
def ArrChecksUptoSaid : Prop := arrChecksUptoRow.holds Try.pinned (OpenSpec.upto arrChecksSpec)

/-- 'triglyphlaw03.ArrMakes', WHERE WHAT IT READS IS OF BULK AT MOST 1048576: true; the input reads as it did. -/
def arrMakesUptoRow : OpenClaim := { program := "ytlnphoeogpfjkaa", sum := "317ed878f84cacf90c654ff75c9fc3f70c5f0cd67c8a3b34b4595f5c534d1257", func := "triglyph/triglyphlaw03.ArrMakes", spec := "arrMakes", unfollowed := true, recurses := true, apart := false, narrowed := true }
def ArrMakesUptoSaid : Prop := arrMakesUptoRow.holds Try.pinned (OpenSpec.upto arrMakesSpec)

/-- 'triglyphlaw03.ArrCopies', WHERE WHAT IT READS IS OF BULK AT MOST 1048576: true; the input reads as it did. -/
def arrCopiesUptoRow : OpenClaim := { program := "ytlnphoeogpfjkaa", sum := "317ed878f84cacf90c654ff75c9fc3f70c5f0cd67c8a3b34b4595f5c534d1257", func := "triglyph/triglyphlaw03.ArrCopies", spec := "arrCopies", unfollowed := true, recurses := true, loops := true, apart := false, narrowed := true }
def ArrCopiesUptoSaid : Prop := arrCopiesUptoRow.holds Try.pinned (OpenSpec.upto arrCopiesSpec)

/-- 'triglyphlaw03.ArrTotal', WHERE WHAT IT READS IS OF BULK AT MOST 1048576: true; the input reads as it did. -/
def arrTotalUptoRow : OpenClaim := { program := "ytlnphoeogpfjkaa", sum := "317ed878f84cacf90c654ff75c9fc3f70c5f0cd67c8a3b34b4595f5c534d1257", func := "triglyph/triglyphlaw03.ArrTotal", spec := "arrTotal", unfollowed := true, recurses := true, loops := true, apart := false, narrowed := true }
def ArrTotalUptoSaid : Prop := arrTotalUptoRow.holds Try.pinned (OpenSpec.upto arrTotalSpec)

/-- 'triglyphlaw03.ArrPlaces', WHERE WHAT IT READS IS OF BULK AT MOST 1048576: true; the input reads as it did. -/
def arrPlacesUptoRow : OpenClaim := { program := "ytlnphoeogpfjkaa", sum := "317ed878f84cacf90c654ff75c9fc3f70c5f0cd67c8a3b34b4595f5c534d1257", func := "triglyph/triglyphlaw03.ArrPlaces", spec := "arrPlaces", unfollowed := true, recurses := true, apart := false, narrowed := true }
def ArrPlacesUptoSaid : Prop := arrPlacesUptoRow.holds Try.pinned (OpenSpec.upto arrPlacesSpec)

end Rows
end Go.Proofs.Ytlnphoeogpfjkaa
