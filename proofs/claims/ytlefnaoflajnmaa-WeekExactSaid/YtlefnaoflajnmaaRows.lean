/-
  No cell of these rows narrows 'for every input' (looked for: loops, veiled, ifaces, maps, wideKeys, modest, calm, conditions, laid).
  DERIVED. THE GIVEN ROWS OF THIS SEAT. 6 by the template 'for every input the law returns true; each argument reads behind the call as it read before'; 0 by the template 'total and deterministic' (their statements: YtlefnaoflajnmaaTotals.lean).
  GIVEN WITH THE SEED: the statements are not yours to turn. If you find one false, say at which input.
  Laid BY PROGRAM, IN A SANDBOX (cutbox-rows.mjs): the forced cells as the released guide's own fill.sh prints them over the translation 9544a03cf752d469… (all of the seat's roots in one cut). By AI agents, Wed Nov 11 2026. No macro, syntax, notation, axiom, sorry.
-/
import Derived.Test.YtlefnaoflajnmaaChecked
import GoSem.Claim
import GoSem.ClaimJoined
import GoSem.ClaimMapViews
import Derived.JoinedTies
import Derived.KernelRfl
namespace Go.Proofs.Ytlefnaoflajnmaa
/- THE CELL 'sum', in the pinned program and in every row, IS THE sha256 OF THE DUMP (.gsa) THAT YtlefnaoflajnmaaProg.lean LOADS. Nothing in Lean hashes anything: it is a label: what it is worth is what the hold of that sum in a sandbox is worth. -/
noncomputable def Try.pinned : Pinned := { name := "ytlefnaoflajnmaa", sum := "9544a03cf752d46918d85db70d2e42271689ed41b33ccadce48ee14a47e3c8e1", checked := Try.checked }
namespace Rows
def none {H : Type} : Left H := { results := [], args := [] }

/-- 'solsticelaw03.WeekExact': WHATEVER THE INPUT: true; the input reads as it did. -/
def weekExactSpec : ChangeSpec := { name := "weekExact", fn := fun _ => fun
  | [d1, d2, d3, d4, d5, d6, d7] => { results := [.lit (.bool true)], args := [d1, d2, d3, d4, d5, d6, d7] }
  | _ => none }
def weekExactRow : OpenClaim := { program := "ytlefnaoflajnmaa", sum := "9544a03cf752d46918d85db70d2e42271689ed41b33ccadce48ee14a47e3c8e1", func := "solstice/solsticelaw03.WeekExact", spec := "weekExact", apart := false }
def WeekExactSaid : Prop := weekExactRow.holds Try.pinned (OpenSpec.ofChange weekExactSpec)

/-- ITS FALSE NEIGHBOUR: 'it returns false'. Refute it at one input. -/
def weekExactWrong : ChangeSpec := { name := "weekExact", fn := fun _ => fun
  | [d1, d2, d3, d4, d5, d6, d7] => { results := [.lit (.bool false)], args := [d1, d2, d3, d4, d5, d6, d7] }
  | _ => none }
def WeekExactWrongFalsely : Prop := weekExactRow.holds Try.pinned (OpenSpec.ofChange weekExactWrong)

/-- 'solsticelaw03.WeekForms': WHATEVER THE INPUT: true; the input reads as it did. -/
def weekFormsSpec : ChangeSpec := { name := "weekForms", fn := fun _ => fun
  | [d1, d2, d3, d4] => { results := [.lit (.bool true)], args := [d1, d2, d3, d4] }
  | _ => none }
def weekFormsRow : OpenClaim := { program := "ytlefnaoflajnmaa", sum := "9544a03cf752d46918d85db70d2e42271689ed41b33ccadce48ee14a47e3c8e1", func := "solstice/solsticelaw03.WeekForms", spec := "weekForms", apart := false }
def WeekFormsSaid : Prop := weekFormsRow.holds Try.pinned (OpenSpec.ofChange weekFormsSpec)

/-- ITS FALSE NEIGHBOUR: 'it returns false'. Refute it at one input. -/
def weekFormsWrong : ChangeSpec := { name := "weekForms", fn := fun _ => fun
  | [d1, d2, d3, d4] => { results := [.lit (.bool false)], args := [d1, d2, d3, d4] }
  | _ => none }
def WeekFormsWrongFalsely : Prop := weekFormsRow.holds Try.pinned (OpenSpec.ofChange weekFormsWrong)

/-- 'solsticelaw03.WeekNth': WHATEVER THE INPUT: true; the input reads as it did. -/
def weekNthSpec : ChangeSpec := { name := "weekNth", fn := fun _ => fun
  | [d1, d2, d3, d4] => { results := [.lit (.bool true)], args := [d1, d2, d3, d4] }
  | _ => none }
def weekNthRow : OpenClaim := { program := "ytlefnaoflajnmaa", sum := "9544a03cf752d46918d85db70d2e42271689ed41b33ccadce48ee14a47e3c8e1", func := "solstice/solsticelaw03.WeekNth", spec := "weekNth", apart := false }
def WeekNthSaid : Prop := weekNthRow.holds Try.pinned (OpenSpec.ofChange weekNthSpec)

/-- ITS FALSE NEIGHBOUR: 'it returns false'. Refute it at one input. -/
def weekNthWrong : ChangeSpec := { name := "weekNth", fn := fun _ => fun
  | [d1, d2, d3, d4] => { results := [.lit (.bool false)], args := [d1, d2, d3, d4] }
  | _ => none }
def WeekNthWrongFalsely : Prop := weekNthRow.holds Try.pinned (OpenSpec.ofChange weekNthWrong)

/-- 'solsticelaw03.WeekNumbers': WHATEVER THE INPUT: true; the input reads as it did. -/
def weekNumbersSpec : ChangeSpec := { name := "weekNumbers", fn := fun _ => fun
  | [d1, d2, d3, d4] => { results := [.lit (.bool true)], args := [d1, d2, d3, d4] }
  | _ => none }
def weekNumbersRow : OpenClaim := { program := "ytlefnaoflajnmaa", sum := "9544a03cf752d46918d85db70d2e42271689ed41b33ccadce48ee14a47e3c8e1", func := "solstice/solsticelaw03.WeekNumbers", spec := "weekNumbers", apart := false }
def WeekNumbersSaid : Prop := weekNumbersRow.holds Try.pinned (OpenSpec.ofChange weekNumbersSpec)

/-- ITS FALSE NEIGHBOUR: 'it returns false'. Refute it at one input. -/
def weekNumbersWrong : ChangeSpec := { name := "weekNumbers", fn := fun _ => fun
  | [d1, d2, d3, d4] => { results := [.lit (.bool false)], args := [d1, d2, d3, d4] }
  | _ => none }
def WeekNumbersWrongFalsely : Prop := weekNumbersRow.holds Try.pinned (OpenSpec.ofChange weekNumbersWrong)

/-- 'solsticelaw03.WeekSame': WHATEVER THE INPUT: true; the input reads as it did. -/
def weekSameSpec : ChangeSpec := { name := "weekSame", fn := fun _ => fun
  | [d1, d2, d3] => { results := [.lit (.bool true)], args := [d1, d2, d3] }
  | _ => none }
def weekSameRow : OpenClaim := { program := "ytlefnaoflajnmaa", sum := "9544a03cf752d46918d85db70d2e42271689ed41b33ccadce48ee14a47e3c8e1", func := "solstice/solsticelaw03.WeekSame", spec := "weekSame", apart := false }
def WeekSameSaid : Prop := weekSameRow.holds Try.pinned (OpenSpec.ofChange weekSameSpec)

/-- ITS FALSE NEIGHBOUR: 'it returns false'. Refute it at one input. -/
def weekSameWrong : ChangeSpec := { name := "weekSame", fn := fun _ => fun
  | [d1, d2, d3] => { results := [.lit (.bool false)], args := [d1, d2, d3] }
  | _ => none }
def WeekSameWrongFalsely : Prop := weekSameRow.holds Try.pinned (OpenSpec.ofChange weekSameWrong)

/-- 'solsticelaw03.WeekBad': WHATEVER THE INPUT: true; the input reads as it did. -/
def weekBadSpec : ChangeSpec := { name := "weekBad", fn := fun _ => fun
  | [d1, d2] => { results := [.lit (.bool true)], args := [d1, d2] }
  | _ => none }
def weekBadRow : OpenClaim := { program := "ytlefnaoflajnmaa", sum := "9544a03cf752d46918d85db70d2e42271689ed41b33ccadce48ee14a47e3c8e1", func := "solstice/solsticelaw03.WeekBad", spec := "weekBad", apart := false }
def WeekBadSaid : Prop := weekBadRow.holds Try.pinned (OpenSpec.ofChange weekBadSpec)

/-- ITS FALSE NEIGHBOUR: 'it returns false'. Refute it at one input. -/
def weekBadWrong : ChangeSpec := { name := "weekBad", fn := fun _ => fun
  | [d1, d2] => { results := [.lit (.bool false)], args := [d1, d2] }
  | _ => none }
def WeekBadWrongFalsely : Prop := weekBadRow.holds Try.pinned (OpenSpec.ofChange weekBadWrong)

/- THE SECOND FORM. 'bulk': how many values and letters a reading holds, each counted each time it is reached (what is shared counts as often as it is met; a slice's spare places count too). A statement '..UptoSaid' is the law's where the arguments, and the package variables that the reading takes, are together of bulk at most 1048576: NARROWER than '..Said'. Prove '..Said' where nothing that the law and all that it calls make is longer than what came in: it says more and counts as full. Else prove '..UptoSaid'. A law counts once. -/
mutual
def uptoBulk {H : Type} : DataW H → Nat
  | .lit (.string bytes) => bytes.length + 1
  | .lit _ => 1
  | .nil => 1
  | .ptr d => uptoBulk d + 1
  | .slice elems spare => uptoBulkAll elems + uptoBulkAll spare + 1
  | .agg parts => uptoBulkAll parts + 1
  | .iface _ d => uptoBulk d + 1
  | .map entries => uptoBulkEntries entries + 1
  | .held _ => 1
def uptoBulkAll {H : Type} : List (DataW H) → Nat
  | [] => 0
  | d :: r => uptoBulk d + uptoBulkAll r
def uptoBulkEntries {H : Type} : List (Lit × DataW H) → Nat
  | [] => 0
  | x :: r => uptoBulkEntry x + uptoBulkEntries r
def uptoBulkEntry {H : Type} : Lit × DataW H → Nat
  | (.string bytes, d) => bytes.length + uptoBulk d + 1
  | (_, d) => uptoBulk d + 1
 end
def uptoSmall : (H : Type) → List (DataW H) → Bool := fun _ ds => decide (uptoBulkAll ds ≤ 1048576)
def OpenSpec.upto (s : _root_.Go.ChangeSpec) : _root_.Go.OpenSpec := { _root_.Go.OpenSpec.ofChange s with cond := some uptoSmall }

/-- 'solsticelaw03.WeekExact', WHERE WHAT IT READS IS OF BULK AT MOST 1048576: true; the input reads as it did. -/
def weekExactUptoRow : OpenClaim := { program := "ytlefnaoflajnmaa", sum := "9544a03cf752d46918d85db70d2e42271689ed41b33ccadce48ee14a47e3c8e1", func := "solstice/solsticelaw03.WeekExact", spec := "weekExact", apart := false, narrowed := true }
def WeekExactUptoSaid : Prop := weekExactUptoRow.holds Try.pinned (OpenSpec.upto weekExactSpec)

/-- 'solsticelaw03.WeekForms', WHERE WHAT IT READS IS OF BULK AT MOST 1048576: true; the input reads as it did. -/
def weekFormsUptoRow : OpenClaim := { program := "ytlefnaoflajnmaa", sum := "9544a03cf752d46918d85db70d2e42271689ed41b33ccadce48ee14a47e3c8e1", func := "solstice/solsticelaw03.WeekForms", spec := "weekForms", apart := false, narrowed := true }
def WeekFormsUptoSaid : Prop := weekFormsUptoRow.holds Try.pinned (OpenSpec.upto weekFormsSpec)

/-- 'solsticelaw03.WeekNth', WHERE WHAT IT READS IS OF BULK AT MOST 1048576: true; the input reads as it did. -/
def weekNthUptoRow : OpenClaim := { program := "ytlefnaoflajnmaa", sum := "9544a03cf752d46918d85db70d2e42271689ed41b33ccadce48ee14a47e3c8e1", func := "solstice/solsticelaw03.WeekNth", spec := "weekNth", apart := false, narrowed := true }
def WeekNthUptoSaid : Prop := weekNthUptoRow.holds Try.pinned (OpenSpec.upto weekNthSpec)

/-- 'solsticelaw03.WeekNumbers', WHERE WHAT IT READS IS OF BULK AT MOST 1048576: true; the input reads as it did. -/
def weekNumbersUptoRow : OpenClaim := { program := "ytlefnaoflajnmaa", sum := "9544a03cf752d46918d85db70d2e42271689ed41b33ccadce48ee14a47e3c8e1", func := "solstice/solsticelaw03.WeekNumbers", spec := "weekNumbers", apart := false, narrowed := true }
def WeekNumbersUptoSaid : Prop := weekNumbersUptoRow.holds Try.pinned (OpenSpec.upto weekNumbersSpec)

/-- 'solsticelaw03.WeekSame', WHERE WHAT IT READS IS OF BULK AT MOST 1048576: true; the input reads as it did. -/
def weekSameUptoRow : OpenClaim := { program := "ytlefnaoflajnmaa", sum := "9544a03cf752d46918d85db70d2e42271689ed41b33ccadce48ee14a47e3c8e1", func := "solstice/solsticelaw03.WeekSame", spec := "weekSame", apart := false, narrowed := true }
def WeekSameUptoSaid : Prop := weekSameUptoRow.holds Try.pinned (OpenSpec.upto weekSameSpec)

/-- 'solsticelaw03.WeekBad', WHERE WHAT IT READS IS OF BULK AT MOST 1048576: true; the input reads as it did. -/
def weekBadUptoRow : OpenClaim := { program := "ytlefnaoflajnmaa", sum := "9544a03cf752d46918d85db70d2e42271689ed41b33ccadce48ee14a47e3c8e1", func := "solstice/solsticelaw03.WeekBad", spec := "weekBad", apart := false, narrowed := true }
def WeekBadUptoSaid : Prop := weekBadUptoRow.holds Try.pinned (OpenSpec.upto weekBadSpec)

end Rows
end Go.Proofs.Ytlefnaoflajnmaa
