/-
  No cell of these rows narrows 'for every input' (looked for: loops, veiled, ifaces, maps, wideKeys, modest, calm, conditions, laid).
  DERIVED. THE GIVEN ROWS OF THIS SEAT. 4 by the template 'for every input the law returns true; each argument reads behind the call as it read before'; 0 by the template 'total and deterministic' (their statements: YtdhljcnilclfbaaTotals.lean).
  GIVEN WITH THE SEED: the statements are not yours to turn. If you find one false, say at which input.
  Laid BY PROGRAM, IN A SANDBOX (cutbox-rows.mjs): the forced cells as the released guide's own fill.sh prints them over the translation 513fe39d8a3c4a40… (all of the seat's roots in one cut). By AI agents, Wed Nov 11 2026. No macro, syntax, notation, axiom, sorry.
-/
import Derived.Test.YtdhljcnilclfbaaChecked
import GoSem.Claim
import GoSem.ClaimJoined
import GoSem.ClaimMapViews
import Derived.JoinedTies
import Derived.KernelRfl
namespace Go.Proofs.Ytdhljcnilclfbaa
/- THE CELL 'sum', in the pinned program and in every row, IS THE sha256 OF THE DUMP (.gsa) THAT YtdhljcnilclfbaaProg.lean LOADS. Nothing in Lean hashes anything: it is a label: what it is worth is what the hold of that sum in a sandbox is worth. -/
noncomputable def Try.pinned : Pinned := { name := "ytdhljcnilclfbaa", sum := "513fe39d8a3c4a40b6a6bcb3c1b29bbfc4e83cca2eb718da1354d7842a1aff1b", checked := Try.checked }
namespace Rows
def none {H : Type} : Left H := { results := [], args := [] }

/-- 'solsticelaw13.OnsetExact': WHATEVER THE INPUT: true; the input reads as it did. -/
def onsetExactSpec : ChangeSpec := { name := "onsetExact", fn := fun _ => fun
  | [d1, d2, d3] => { results := [.lit (.bool true)], args := [d1, d2, d3] }
  | _ => none }
def onsetExactRow : OpenClaim := { program := "ytdhljcnilclfbaa", sum := "513fe39d8a3c4a40b6a6bcb3c1b29bbfc4e83cca2eb718da1354d7842a1aff1b", func := "solstice/solsticelaw13.OnsetExact", spec := "onsetExact", inPlace := ["internal/bytealg.IndexByteString"], unfollowed := true, recurses := true, apart := false }
def OnsetExactSaid : Prop := onsetExactRow.holds Try.pinned (OpenSpec.ofChange onsetExactSpec)

/-- ITS FALSE NEIGHBOUR: 'it returns false'. Refute it at one input. -/
def onsetExactWrong : ChangeSpec := { name := "onsetExact", fn := fun _ => fun
  | [d1, d2, d3] => { results := [.lit (.bool false)], args := [d1, d2, d3] }
  | _ => none }
def OnsetExactWrongFalsely : Prop := onsetExactRow.holds Try.pinned (OpenSpec.ofChange onsetExactWrong)

/-- 'solsticelaw13.OnsetRises': WHATEVER THE INPUT: true; the input reads as it did. -/
def onsetRisesSpec : ChangeSpec := { name := "onsetRises", fn := fun _ => fun
  | [d1, d2, d3] => { results := [.lit (.bool true)], args := [d1, d2, d3] }
  | _ => none }
def onsetRisesRow : OpenClaim := { program := "ytdhljcnilclfbaa", sum := "513fe39d8a3c4a40b6a6bcb3c1b29bbfc4e83cca2eb718da1354d7842a1aff1b", func := "solstice/solsticelaw13.OnsetRises", spec := "onsetRises", inPlace := ["internal/bytealg.IndexByteString"], unfollowed := true, recurses := true, apart := false }
def OnsetRisesSaid : Prop := onsetRisesRow.holds Try.pinned (OpenSpec.ofChange onsetRisesSpec)

/-- ITS FALSE NEIGHBOUR: 'it returns false'. Refute it at one input. -/
def onsetRisesWrong : ChangeSpec := { name := "onsetRises", fn := fun _ => fun
  | [d1, d2, d3] => { results := [.lit (.bool false)], args := [d1, d2, d3] }
  | _ => none }
def OnsetRisesWrongFalsely : Prop := onsetRisesRow.holds Try.pinned (OpenSpec.ofChange onsetRisesWrong)

/-- 'solsticelaw13.OnsetLater': WHATEVER THE INPUT: true; the input reads as it did. -/
def onsetLaterSpec : ChangeSpec := { name := "onsetLater", fn := fun _ => fun
  | [d1, d2, d3, d4] => { results := [.lit (.bool true)], args := [d1, d2, d3, d4] }
  | _ => none }
def onsetLaterRow : OpenClaim := { program := "ytdhljcnilclfbaa", sum := "513fe39d8a3c4a40b6a6bcb3c1b29bbfc4e83cca2eb718da1354d7842a1aff1b", func := "solstice/solsticelaw13.OnsetLater", spec := "onsetLater", inPlace := ["internal/bytealg.IndexByteString"], unfollowed := true, recurses := true, apart := false }
def OnsetLaterSaid : Prop := onsetLaterRow.holds Try.pinned (OpenSpec.ofChange onsetLaterSpec)

/-- ITS FALSE NEIGHBOUR: 'it returns false'. Refute it at one input. -/
def onsetLaterWrong : ChangeSpec := { name := "onsetLater", fn := fun _ => fun
  | [d1, d2, d3, d4] => { results := [.lit (.bool false)], args := [d1, d2, d3, d4] }
  | _ => none }
def OnsetLaterWrongFalsely : Prop := onsetLaterRow.holds Try.pinned (OpenSpec.ofChange onsetLaterWrong)

/-- 'solsticelaw13.OnsetLetters': WHATEVER THE INPUT: true; the input reads as it did. -/
def onsetLettersSpec : ChangeSpec := { name := "onsetLetters", fn := fun _ => fun
  | [d1, d2] => { results := [.lit (.bool true)], args := [d1, d2] }
  | _ => none }
def onsetLettersRow : OpenClaim := { program := "ytdhljcnilclfbaa", sum := "513fe39d8a3c4a40b6a6bcb3c1b29bbfc4e83cca2eb718da1354d7842a1aff1b", func := "solstice/solsticelaw13.OnsetLetters", spec := "onsetLetters", inPlace := ["internal/bytealg.IndexByteString"], unfollowed := true, recurses := true, apart := false }
def OnsetLettersSaid : Prop := onsetLettersRow.holds Try.pinned (OpenSpec.ofChange onsetLettersSpec)

/-- ITS FALSE NEIGHBOUR: 'it returns false'. Refute it at one input. -/
def onsetLettersWrong : ChangeSpec := { name := "onsetLetters", fn := fun _ => fun
  | [d1, d2] => { results := [.lit (.bool false)], args := [d1, d2] }
  | _ => none }
def OnsetLettersWrongFalsely : Prop := onsetLettersRow.holds Try.pinned (OpenSpec.ofChange onsetLettersWrong)

/- THE SECOND FORM. 'bulk': how many values and letters a reading holds, each counted each time it is reached (what is shared counts as often as it is met; a slice's spare places count too). A statement '..UptoSaid' is the law's where the arguments, and the package variables that the reading takes, are together of bulk at most 1048576: NARROWER than '..Said'. Prove '..Said' where nothing that the law and all that it calls make is longer than what came in: it says more and counts as full. Else prove '..UptoSaid'. A law counts once. -/
mutual
def uptoBulk {H : Type} : DataW H → Nat
  | .lit (.string bytes) => bytes.length + 1
  | .lit _ => 1
  | .nil => 1
  | .ptr d => uptoBulk d + 1
  | .slice elems spare => uptoBulkAll elems + uptoBulkAll spare + 1
  | .agg parts => uptoBulkAll parts + 1
  | .iface _ d => uptoBulk d + 1
  | .map entries => uptoBulkEntries entries + 1
  | .held _ => 1
def uptoBulkAll {H : Type} : List (DataW H) → Nat
  | [] => 0
  | d :: r => uptoBulk d + uptoBulkAll r
def uptoBulkEntries {H : Type} : List (Lit × DataW H) → Nat
  | [] => 0
  | x :: r => uptoBulkEntry x + uptoBulkEntries r
def uptoBulkEntry {H : Type} : Lit × DataW H → Nat
  | (.string bytes, d) => bytes.length + uptoBulk d + 1
  | (_, d) => uptoBulk d + 1
 end
def uptoSmall : (H : Type) → List (DataW H) → Bool := fun _ ds => decide (uptoBulkAll ds ≤ 1048576)
def OpenSpec.upto (s : _root_.Go.ChangeSpec) : _root_.Go.OpenSpec := { _root_.Go.OpenSpec.ofChange s with cond := some uptoSmall }

/-- 'solsticelaw13.OnsetExact', WHERE WHAT IT READS IS OF BULK AT MOST 1048576: true; the input reads as it did. -/
def onsetExactUptoRow : OpenClaim := { program := "ytdhljcnilclfbaa", sum := "513fe39d8a3c4a40b6a6bcb3c1b29bbfc4e83cca2eb718da1354d7842a1aff1b", func := "solstice/solsticelaw13.OnsetExact", spec := "onsetExact", inPlace := ["internal/bytealg.IndexByteString"], unfollowed := true, recurses := true, apart := false, narrowed := true }
def OnsetExactUptoSaid : Prop := onsetExactUptoRow.holds Try.pinned (OpenSpec.upto onsetExactSpec)

/-- 'solsticelaw13.OnsetRises', WHERE WHAT IT READS IS OF BULK AT MOST 1048576: true; the input reads as it did. -/
def onsetRisesUptoRow : OpenClaim := { program := "ytdhljcnilclfbaa", sum := "513fe39d8a3c4a40b6a6bcb3c1b29bbfc4e83cca2eb718da1354d7842a1aff1b", func := "solstice/solsticelaw13.OnsetRises", spec := "onsetRises", inPlace := ["internal/bytealg.IndexByteString"], unfollowed := true, recurses := true, apart := false, narrowed := true }
def OnsetRisesUptoSaid : Prop := onsetRisesUptoRow.holds Try.pinned (OpenSpec.upto onsetRisesSpec)

/-- 'solsticelaw13.OnsetLater', WHERE WHAT IT READS IS OF BULK AT MOST 1048576: true; the input reads as it did. -/
def onsetLaterUptoRow : OpenClaim := { program := "ytdhljcnilclfbaa", sum := "513fe39d8a3c4a40b6a6bcb3c1b29bbfc4e83cca2eb718da1354d7842a1aff1b", func := "solstice/solsticelaw13.OnsetLater", spec := "onsetLater", inPlace := ["internal/bytealg.IndexByteString"], unfollowed := true, recurses := true, apart := false, narrowed := true }
def OnsetLaterUptoSaid : Prop := onsetLaterUptoRow.holds Try.pinned (OpenSpec.upto onsetLaterSpec)

/-- 'solsticelaw13.OnsetLetters', WHERE WHAT IT READS IS OF BULK AT MOST 1048576: true; the input reads as it did. -/
def onsetLettersUptoRow : OpenClaim := { program := "ytdhljcnilclfbaa", sum := "513fe39d8a3c4a40b6a6bcb3c1b29bbfc4e83cca2eb718da1354d7842a1aff1b", func := "solstice/solsticelaw13.OnsetLetters", spec := "onsetLetters", inPlace := ["internal/bytealg.IndexByteString"], unfollowed := true, recurses := true, apart := false, narrowed := true }
def OnsetLettersUptoSaid : Prop := onsetLettersUptoRow.holds Try.pinned (OpenSpec.upto onsetLettersSpec)

end Rows
end Go.Proofs.Ytdhljcnilclfbaa
