/-
  No cell of these rows narrows 'for every input' (looked for: loops, veiled, ifaces, maps, wideKeys, modest, calm, conditions, laid).
  DERIVED. THE GIVEN ROWS OF THIS SEAT. 3 by the template 'for every input the law returns true; each argument reads behind the call as it read before'; 0 by the template 'total and deterministic' (their statements: YtfinhaghgmnegaaTotals.lean).
  GIVEN WITH THE SEED: the statements are not yours to turn. If you find one false, say at which input.
  Laid BY PROGRAM, IN A SANDBOX (cutbox-rows.mjs): the forced cells as the released guide's own fill.sh prints them over the translation d87b219e21d9f151… (all of the seat's roots in one cut). By AI agents, Wed Nov 11 2026. No macro, syntax, notation, axiom, sorry.
-/
import Derived.Test.YtfinhaghgmnegaaChecked
import GoSem.Claim
import GoSem.ClaimJoined
import GoSem.ClaimMapViews
import Derived.JoinedTies
import Derived.KernelRfl
namespace Go.Proofs.Ytfinhaghgmnegaa
/- THE CELL 'sum', in the pinned program and in every row, IS THE sha256 OF THE DUMP (.gsa) THAT YtfinhaghgmnegaaProg.lean LOADS. Nothing in Lean hashes anything: it is a label: what it is worth is what the hold of that sum in a sandbox is worth. -/
noncomputable def Try.pinned : Pinned := { name := "ytfinhaghgmnegaa", sum := "d87b219e21d9f1510a9e298d1804b7b94d820248dcd207ed07c09393cc607abc", checked := Try.checked }
namespace Rows
def none {H : Type} : Left H := { results := [], args := [] }

/-- 'solsticelaw24.EncodeExact': WHATEVER THE INPUT: true; the input reads as it did. -/
def encodeExactSpec : ChangeSpec := { name := "encodeExact", fn := fun _ => fun
  | [d1, d2, d3, d4, d5, d6, d7] => { results := [.lit (.bool true)], args := [d1, d2, d3, d4, d5, d6, d7] }
  | _ => none }
def encodeExactRow : OpenClaim := { program := "ytfinhaghgmnegaa", sum := "d87b219e21d9f1510a9e298d1804b7b94d820248dcd207ed07c09393cc607abc", func := "solstice/solsticelaw24.EncodeExact", spec := "encodeExact", apart := false }
def EncodeExactSaid : Prop := encodeExactRow.holds Try.pinned (OpenSpec.ofChange encodeExactSpec)

/-- ITS FALSE NEIGHBOUR: 'it returns false'. Refute it at one input. -/
def encodeExactWrong : ChangeSpec := { name := "encodeExact", fn := fun _ => fun
  | [d1, d2, d3, d4, d5, d6, d7] => { results := [.lit (.bool false)], args := [d1, d2, d3, d4, d5, d6, d7] }
  | _ => none }
def EncodeExactWrongFalsely : Prop := encodeExactRow.holds Try.pinned (OpenSpec.ofChange encodeExactWrong)

/-- 'solsticelaw24.EncodeMoves': WHATEVER THE INPUT: true; the input reads as it did. -/
def encodeMovesSpec : ChangeSpec := { name := "encodeMoves", fn := fun _ => fun
  | [d1, d2, d3, d4] => { results := [.lit (.bool true)], args := [d1, d2, d3, d4] }
  | _ => none }
def encodeMovesRow : OpenClaim := { program := "ytfinhaghgmnegaa", sum := "d87b219e21d9f1510a9e298d1804b7b94d820248dcd207ed07c09393cc607abc", func := "solstice/solsticelaw24.EncodeMoves", spec := "encodeMoves", apart := false }
def EncodeMovesSaid : Prop := encodeMovesRow.holds Try.pinned (OpenSpec.ofChange encodeMovesSpec)

/-- ITS FALSE NEIGHBOUR: 'it returns false'. Refute it at one input. -/
def encodeMovesWrong : ChangeSpec := { name := "encodeMoves", fn := fun _ => fun
  | [d1, d2, d3, d4] => { results := [.lit (.bool false)], args := [d1, d2, d3, d4] }
  | _ => none }
def EncodeMovesWrongFalsely : Prop := encodeMovesRow.holds Try.pinned (OpenSpec.ofChange encodeMovesWrong)

/-- 'solsticelaw24.EncodeSame': WHATEVER THE INPUT: true; the input reads as it did. -/
def encodeSameSpec : ChangeSpec := { name := "encodeSame", fn := fun _ => fun
  | [d1, d2, d3, d4, d5] => { results := [.lit (.bool true)], args := [d1, d2, d3, d4, d5] }
  | _ => none }
def encodeSameRow : OpenClaim := { program := "ytfinhaghgmnegaa", sum := "d87b219e21d9f1510a9e298d1804b7b94d820248dcd207ed07c09393cc607abc", func := "solstice/solsticelaw24.EncodeSame", spec := "encodeSame", apart := false }
def EncodeSameSaid : Prop := encodeSameRow.holds Try.pinned (OpenSpec.ofChange encodeSameSpec)

/-- ITS FALSE NEIGHBOUR: 'it returns false'. Refute it at one input. -/
def encodeSameWrong : ChangeSpec := { name := "encodeSame", fn := fun _ => fun
  | [d1, d2, d3, d4, d5] => { results := [.lit (.bool false)], args := [d1, d2, d3, d4, d5] }
  | _ => none }
def EncodeSameWrongFalsely : Prop := encodeSameRow.holds Try.pinned (OpenSpec.ofChange encodeSameWrong)

/- THE SECOND FORM. 'bulk': how many values and letters a reading holds, each counted each time it is reached (what is shared counts as often as it is met; a slice's spare places count too). A statement '..UptoSaid' is the law's where the arguments, and the package variables that the reading takes, are together of bulk at most 1048576: NARROWER than '..Said'. Prove '..Said' where nothing that the law and all that it calls make is longer than what came in: it says more and counts as full. Else prove '..UptoSaid'. A law counts once. -/
mutual
def uptoBulk {H : Type} : DataW H → Nat
  | .lit (.string bytes) => bytes.length + 1
  | .lit _ => 1
  | .nil => 1
  | .ptr d => uptoBulk d + 1
  | .slice elems spare => uptoBulkAll elems + uptoBulkAll spare + 1
  | .agg parts => uptoBulkAll parts + 1
  | .iface _ d => uptoBulk d + 1
  | .map entries => uptoBulkEntries entries + 1
  | .held _ => 1
def uptoBulkAll {H : Type} : List (DataW H) → Nat
  | [] => 0
  | d :: r => uptoBulk d + uptoBulkAll r
def uptoBulkEntries {H : Type} : List (Lit × DataW H) → Nat
  | [] => 0
  | x :: r => uptoBulkEntry x + uptoBulkEntries r
def uptoBulkEntry {H : Type} : Lit × DataW H → Nat
  | (.string bytes, d) => bytes.length + uptoBulk d + 1
  | (_, d) => uptoBulk d + 1
 end
def uptoSmall : (H : Type) → List (DataW H) → Bool := fun _ ds => decide (uptoBulkAll ds ≤ 1048576)
def OpenSpec.upto (s : _root_.Go.ChangeSpec) : _root_.Go.OpenSpec := { _root_.Go.OpenSpec.ofChange s with cond := some uptoSmall }

/-- 'solsticelaw24.EncodeExact', WHERE WHAT IT READS IS OF BULK AT MOST 1048576: true; the input reads as it did. -/
def encodeExactUptoRow : OpenClaim := { program := "ytfinhaghgmnegaa", sum := "d87b219e21d9f1510a9e298d1804b7b94d820248dcd207ed07c09393cc607abc", func := "solstice/solsticelaw24.EncodeExact", spec := "encodeExact", apart := false, narrowed := true }
def EncodeExactUptoSaid : Prop := encodeExactUptoRow.holds Try.pinned (OpenSpec.upto encodeExactSpec)

/-- 'solsticelaw24.EncodeMoves', WHERE WHAT IT READS IS OF BULK AT MOST 1048576: true; the input reads as it did. -/
def encodeMovesUptoRow : OpenClaim := { program := "ytfinhaghgmnegaa", sum := "d87b219e21d9f1510a9e298d1804b7b94d820248dcd207ed07c09393cc607abc", func := "solstice/solsticelaw24.EncodeMoves", spec := "encodeMoves", apart := false, narrowed := true }
def EncodeMovesUptoSaid : Prop := encodeMovesUptoRow.holds Try.pinned (OpenSpec.upto encodeMovesSpec)

/-- 'solsticelaw24.EncodeSame', WHERE WHAT IT READS IS OF BULK AT MOST 1048576: true; the input reads as it did. -/
def encodeSameUptoRow : OpenClaim := { program := "ytfinhaghgmnegaa", sum := "d87b219e21d9f1510a9e298d1804b7b94d820248dcd207ed07c09393cc607abc", func := "solstice/solsticelaw24.EncodeSame", spec := "encodeSame", apart := false, narrowed := true }
def EncodeSameUptoSaid : Prop := encodeSameUptoRow.holds Try.pinned (OpenSpec.upto encodeSameSpec)

end Rows
end Go.Proofs.Ytfinhaghgmnegaa
