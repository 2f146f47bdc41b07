/-
  No cell of these rows narrows 'for every input' (looked for: loops, veiled, ifaces, maps, wideKeys, modest, calm, conditions, laid).
  DERIVED. THE GIVEN ROWS OF THIS SEAT. 6 by the template 'for every input the law returns true; each argument reads behind the call as it read before'; 0 by the template 'total and deterministic' (their statements: YtmhpmkbifhgnbaaTotals.lean).
  GIVEN WITH THE SEED: the statements are not yours to turn. If you find one false, say at which input.
  Laid BY PROGRAM, IN A SANDBOX (cutbox-rows.mjs): the forced cells as the released guide's own fill.sh prints them over the translation a3a39e67fecbead4… (all of the seat's roots in one cut). By AI agents, Wed Nov 11 2026. No macro, syntax, notation, axiom, sorry.
-/
import Derived.Test.YtmhpmkbifhgnbaaChecked
import GoSem.Claim
import GoSem.ClaimJoined
import GoSem.ClaimMapViews
import Derived.JoinedTies
import Derived.KernelRfl
namespace Go.Proofs.Ytmhpmkbifhgnbaa
/- THE CELL 'sum', in the pinned program and in every row, IS THE sha256 OF THE DUMP (.gsa) THAT YtmhpmkbifhgnbaaProg.lean LOADS. Nothing in Lean hashes anything: it is a label: what it is worth is what the hold of that sum in a sandbox is worth. -/
noncomputable def Try.pinned : Pinned := { name := "ytmhpmkbifhgnbaa", sum := "a3a39e67fecbead491d053a35b466d5e77afcb29e317691da5e617663d0ec369", checked := Try.checked }
namespace Rows
def none {H : Type} : Left H := { results := [], args := [] }

/-- 'solsticelaw22.FilterExact': WHATEVER THE INPUT: true; the input reads as it did. -/
def filterExactSpec : ChangeSpec := { name := "filterExact", fn := fun _ => fun
  | [d1, d2, d3, d4] => { results := [.lit (.bool true)], args := [d1, d2, d3, d4] }
  | _ => none }
def filterExactRow : OpenClaim := { program := "ytmhpmkbifhgnbaa", sum := "a3a39e67fecbead491d053a35b466d5e77afcb29e317691da5e617663d0ec369", func := "solstice/solsticelaw22.FilterExact", spec := "filterExact", unfollowed := true, recurses := true, plainKeys := false, apart := false }
def FilterExactSaid : Prop := filterExactRow.holds Try.pinned (OpenSpec.ofChange filterExactSpec)

/-- ITS FALSE NEIGHBOUR: 'it returns false'. Refute it at one input. -/
def filterExactWrong : ChangeSpec := { name := "filterExact", fn := fun _ => fun
  | [d1, d2, d3, d4] => { results := [.lit (.bool false)], args := [d1, d2, d3, d4] }
  | _ => none }
def FilterExactWrongFalsely : Prop := filterExactRow.holds Try.pinned (OpenSpec.ofChange filterExactWrong)

/-- 'solsticelaw22.FilterSpans': WHATEVER THE INPUT: true; the input reads as it did. -/
def filterSpansSpec : ChangeSpec := { name := "filterSpans", fn := fun _ => fun
  | [d1, d2, d3] => { results := [.lit (.bool true)], args := [d1, d2, d3] }
  | _ => none }
def filterSpansRow : OpenClaim := { program := "ytmhpmkbifhgnbaa", sum := "a3a39e67fecbead491d053a35b466d5e77afcb29e317691da5e617663d0ec369", func := "solstice/solsticelaw22.FilterSpans", spec := "filterSpans", unfollowed := true, recurses := true, plainKeys := false, apart := false }
def FilterSpansSaid : Prop := filterSpansRow.holds Try.pinned (OpenSpec.ofChange filterSpansSpec)

/-- ITS FALSE NEIGHBOUR: 'it returns false'. Refute it at one input. -/
def filterSpansWrong : ChangeSpec := { name := "filterSpans", fn := fun _ => fun
  | [d1, d2, d3] => { results := [.lit (.bool false)], args := [d1, d2, d3] }
  | _ => none }
def FilterSpansWrongFalsely : Prop := filterSpansRow.holds Try.pinned (OpenSpec.ofChange filterSpansWrong)

/-- 'solsticelaw22.FilterLists': WHATEVER THE INPUT: true; the input reads as it did. -/
def filterListsSpec : ChangeSpec := { name := "filterLists", fn := fun _ => fun
  | [d1, d2, d3, d4] => { results := [.lit (.bool true)], args := [d1, d2, d3, d4] }
  | _ => none }
def filterListsRow : OpenClaim := { program := "ytmhpmkbifhgnbaa", sum := "a3a39e67fecbead491d053a35b466d5e77afcb29e317691da5e617663d0ec369", func := "solstice/solsticelaw22.FilterLists", spec := "filterLists", unfollowed := true, recurses := true, plainKeys := false, apart := false }
def FilterListsSaid : Prop := filterListsRow.holds Try.pinned (OpenSpec.ofChange filterListsSpec)

/-- ITS FALSE NEIGHBOUR: 'it returns false'. Refute it at one input. -/
def filterListsWrong : ChangeSpec := { name := "filterLists", fn := fun _ => fun
  | [d1, d2, d3, d4] => { results := [.lit (.bool false)], args := [d1, d2, d3, d4] }
  | _ => none }
def FilterListsWrongFalsely : Prop := filterListsRow.holds Try.pinned (OpenSpec.ofChange filterListsWrong)

/-- 'solsticelaw22.FilterDays': WHATEVER THE INPUT: true; the input reads as it did. -/
def filterDaysSpec : ChangeSpec := { name := "filterDays", fn := fun _ => fun
  | [d1, d2, d3, d4] => { results := [.lit (.bool true)], args := [d1, d2, d3, d4] }
  | _ => none }
def filterDaysRow : OpenClaim := { program := "ytmhpmkbifhgnbaa", sum := "a3a39e67fecbead491d053a35b466d5e77afcb29e317691da5e617663d0ec369", func := "solstice/solsticelaw22.FilterDays", spec := "filterDays", unfollowed := true, recurses := true, plainKeys := false, apart := false }
def FilterDaysSaid : Prop := filterDaysRow.holds Try.pinned (OpenSpec.ofChange filterDaysSpec)

/-- ITS FALSE NEIGHBOUR: 'it returns false'. Refute it at one input. -/
def filterDaysWrong : ChangeSpec := { name := "filterDays", fn := fun _ => fun
  | [d1, d2, d3, d4] => { results := [.lit (.bool false)], args := [d1, d2, d3, d4] }
  | _ => none }
def FilterDaysWrongFalsely : Prop := filterDaysRow.holds Try.pinned (OpenSpec.ofChange filterDaysWrong)

/-- 'solsticelaw22.FilterStarts': WHATEVER THE INPUT: true; the input reads as it did. -/
def filterStartsSpec : ChangeSpec := { name := "filterStarts", fn := fun _ => fun
  | [d1, d2, d3] => { results := [.lit (.bool true)], args := [d1, d2, d3] }
  | _ => none }
def filterStartsRow : OpenClaim := { program := "ytmhpmkbifhgnbaa", sum := "a3a39e67fecbead491d053a35b466d5e77afcb29e317691da5e617663d0ec369", func := "solstice/solsticelaw22.FilterStarts", spec := "filterStarts", unfollowed := true, recurses := true, plainKeys := false, apart := false }
def FilterStartsSaid : Prop := filterStartsRow.holds Try.pinned (OpenSpec.ofChange filterStartsSpec)

/-- ITS FALSE NEIGHBOUR: 'it returns false'. Refute it at one input. -/
def filterStartsWrong : ChangeSpec := { name := "filterStarts", fn := fun _ => fun
  | [d1, d2, d3] => { results := [.lit (.bool false)], args := [d1, d2, d3] }
  | _ => none }
def FilterStartsWrongFalsely : Prop := filterStartsRow.holds Try.pinned (OpenSpec.ofChange filterStartsWrong)

/-- 'solsticelaw22.FilterWeeks': WHATEVER THE INPUT: true; the input reads as it did. -/
def filterWeeksSpec : ChangeSpec := { name := "filterWeeks", fn := fun _ => fun
  | [d1, d2, d3] => { results := [.lit (.bool true)], args := [d1, d2, d3] }
  | _ => none }
def filterWeeksRow : OpenClaim := { program := "ytmhpmkbifhgnbaa", sum := "a3a39e67fecbead491d053a35b466d5e77afcb29e317691da5e617663d0ec369", func := "solstice/solsticelaw22.FilterWeeks", spec := "filterWeeks", unfollowed := true, recurses := true, plainKeys := false, apart := false }
def FilterWeeksSaid : Prop := filterWeeksRow.holds Try.pinned (OpenSpec.ofChange filterWeeksSpec)

/-- ITS FALSE NEIGHBOUR: 'it returns false'. Refute it at one input. -/
def filterWeeksWrong : ChangeSpec := { name := "filterWeeks", fn := fun _ => fun
  | [d1, d2, d3] => { results := [.lit (.bool false)], args := [d1, d2, d3] }
  | _ => none }
def FilterWeeksWrongFalsely : Prop := filterWeeksRow.holds Try.pinned (OpenSpec.ofChange filterWeeksWrong)

/- THE SECOND FORM. 'bulk': how many values and letters a reading holds, each counted each time it is reached (what is shared counts as often as it is met; a slice's spare places count too). A statement '..UptoSaid' is the law's where the arguments, and the package variables that the reading takes, are together of bulk at most 1048576: NARROWER than '..Said'. Prove '..Said' where nothing that the law and all that it calls make is longer than what came in: it says more and counts as full. Else prove '..UptoSaid'. A law counts once. -/
mutual
def uptoBulk {H : Type} : DataW H → Nat
  | .lit (.string bytes) => bytes.length + 1
  | .lit _ => 1
  | .nil => 1
  | .ptr d => uptoBulk d + 1
  | .slice elems spare => uptoBulkAll elems + uptoBulkAll spare + 1
  | .agg parts => uptoBulkAll parts + 1
  | .iface _ d => uptoBulk d + 1
  | .map entries => uptoBulkEntries entries + 1
  | .held _ => 1
def uptoBulkAll {H : Type} : List (DataW H) → Nat
  | [] => 0
  | d :: r => uptoBulk d + uptoBulkAll r
def uptoBulkEntries {H : Type} : List (Lit × DataW H) → Nat
  | [] => 0
  | x :: r => uptoBulkEntry x + uptoBulkEntries r
def uptoBulkEntry {H : Type} : Lit × DataW H → Nat
  | (.string bytes, d) => bytes.length + uptoBulk d + 1
  | (_, d) => uptoBulk d + 1
 end
def uptoSmall : (H : Type) → List (DataW H) → Bool := fun _ ds => decide (uptoBulkAll ds ≤ 1048576)
def OpenSpec.upto (s : _root_.Go.ChangeSpec) : _root_.Go.OpenSpec := { _root_.Go.OpenSpec.ofChange s with cond := some uptoSmall }

/-- 'solsticelaw22.FilterExact', WHERE WHAT IT READS IS OF BULK AT MOST 1048576: true; the input reads as it did. -/
def filterExactUptoRow : OpenClaim := { program := "ytmhpmkbifhgnbaa", sum := "a3a39e67fecbead491d053a35b466d5e77afcb29e317691da5e617663d0ec369", func := "solstice/solsticelaw22.FilterExact", spec := "filterExact", unfollowed := true, recurses := true, plainKeys := false, apart := false, narrowed := true }
def FilterExactUptoSaid : Prop := filterExactUptoRow.holds Try.pinned (OpenSpec.upto filterExactSpec)

/-- 'solsticelaw22.FilterSpans', WHERE WHAT IT READS IS OF BULK AT MOST 1048576: true; the input reads as it did. -/
def filterSpansUptoRow : OpenClaim := { program := "ytmhpmkbifhgnbaa", sum := "a3a39e67fecbead491d053a35b466d5e77afcb29e317691da5e617663d0ec369", func := "solstice/solsticelaw22.FilterSpans", spec := "filterSpans", unfollowed := true, recurses := true, plainKeys := false, apart := false, narrowed := true }
def FilterSpansUptoSaid : Prop := filterSpansUptoRow.holds Try.pinned (OpenSpec.upto filterSpansSpec)

/-- 'solsticelaw22.FilterLists', WHERE WHAT IT READS IS OF BULK AT MOST 1048576: true; the input reads as it did. -/
def filterListsUptoRow : OpenClaim := { program := "ytmhpmkbifhgnbaa", sum := "a3a39e67fecbead491d053a35b466d5e77afcb29e317691da5e617663d0ec369", func := "solstice/solsticelaw22.FilterLists", spec := "filterLists", unfollowed := true, recurses := true, plainKeys := false, apart := false, narrowed := true }
def FilterListsUptoSaid : Prop := filterListsUptoRow.holds Try.pinned (OpenSpec.upto filterListsSpec)

/-- 'solsticelaw22.FilterDays', WHERE WHAT IT READS IS OF BULK AT MOST 1048576: true; the input reads as it did. -/
def filterDaysUptoRow : OpenClaim := { program := "ytmhpmkbifhgnbaa", sum := "a3a39e67fecbead491d053a35b466d5e77afcb29e317691da5e617663d0ec369", func := "solstice/solsticelaw22.FilterDays", spec := "filterDays", unfollowed := true, recurses := true, plainKeys := false, apart := false, narrowed := true }
def FilterDaysUptoSaid : Prop := filterDaysUptoRow.holds Try.pinned (OpenSpec.upto filterDaysSpec)

/-- 'solsticelaw22.FilterStarts', WHERE WHAT IT READS IS OF BULK AT MOST 1048576: true; the input reads as it did. -/
def filterStartsUptoRow : OpenClaim := { program := "ytmhpmkbifhgnbaa", sum := "a3a39e67fecbead491d053a35b466d5e77afcb29e317691da5e617663d0ec369", func := "solstice/solsticelaw22.FilterStarts", spec := "filterStarts", unfollowed := true, recurses := true, plainKeys := false, apart := false, narrowed := true }
def FilterStartsUptoSaid : Prop := filterStartsUptoRow.holds Try.pinned (OpenSpec.upto filterStartsSpec)

/-- 'solsticelaw22.FilterWeeks', WHERE WHAT IT READS IS OF BULK AT MOST 1048576: true; the input reads as it did. -/
def filterWeeksUptoRow : OpenClaim := { program := "ytmhpmkbifhgnbaa", sum := "a3a39e67fecbead491d053a35b466d5e77afcb29e317691da5e617663d0ec369", func := "solstice/solsticelaw22.FilterWeeks", spec := "filterWeeks", unfollowed := true, recurses := true, plainKeys := false, apart := false, narrowed := true }
def FilterWeeksUptoSaid : Prop := filterWeeksUptoRow.holds Try.pinned (OpenSpec.upto filterWeeksSpec)

end Rows
end Go.Proofs.Ytmhpmkbifhgnbaa
