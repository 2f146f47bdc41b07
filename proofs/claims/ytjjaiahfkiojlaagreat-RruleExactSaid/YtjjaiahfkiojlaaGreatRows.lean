/-
  No cell of these rows narrows 'for every input' (looked for: loops, veiled, ifaces, maps, wideKeys, modest, calm, conditions, laid).
  DERIVED. THE GIVEN ROWS OF THIS SEAT. 9 by the template 'for every input the law returns true; each argument reads behind the call as it read before'; 0 by the template 'total and deterministic' (their statements: YtjjaiahfkiojlaaGreatTotals.lean).
  GIVEN WITH THE SEED: the statements are not yours to turn. If you find one false, say at which input.
  Laid BY PROGRAM, IN A SANDBOX (cutbox-rows.mjs): the forced cells as the released guide's own fill.sh prints them over the translation 2c1ef2dddca4b400… (all of the seat's roots in one cut). By AI agents, Wed Nov 11 2026. No macro, syntax, notation, axiom, sorry.
-/
import Derived.Test.YtjjaiahfkiojlaaGreatChecked
import GoSem.Claim
import GoSem.ClaimJoined
import GoSem.ClaimMapViews
import Derived.JoinedTies
import Derived.KernelRfl
namespace Go.Proofs.YtjjaiahfkiojlaaGreat
/- THE CELL 'sum', in the pinned program and in every row, IS THE sha256 OF THE DUMP (.gsa) THAT YtjjaiahfkiojlaaGreatProg.lean LOADS. Nothing in Lean hashes anything: it is a label: what it is worth is what the hold of that sum in a sandbox is worth. -/
noncomputable def Tryz.pinned : Pinned := { name := "ytjjaiahfkiojlaagreat", sum := "2c1ef2dddca4b400afa5b10d0e150108b6598f206356f3be68dd0b6b98044e40", checked := Tryz.checked }
namespace Rows
def none {H : Type} : Left H := { results := [], args := [] }

/-- 'solsticelaw23.RruleAll': WHATEVER THE INPUT: true; the input reads as it did. -/
def rruleAllSpec : ChangeSpec := { name := "rruleAll", fn := fun _ => fun
  | [d1, d2, d3] => { results := [.lit (.bool true)], args := [d1, d2, d3] }
  | _ => none }
def rruleAllRow : OpenClaim := { program := "ytjjaiahfkiojlaagreat", sum := "2c1ef2dddca4b400afa5b10d0e150108b6598f206356f3be68dd0b6b98044e40", func := "solstice/solsticelaw23.RruleAll", spec := "rruleAll", inPlace := ["sync/atomic.AddInt64", "sync/atomic.LoadInt64"], unfollowed := true, recurses := true, plainKeys := false, apart := false }
def RruleAllSaid : Prop := rruleAllRow.holds Tryz.pinned (OpenSpec.ofChange rruleAllSpec)

/-- ITS FALSE NEIGHBOUR: 'it returns false'. Refute it at one input. -/
def rruleAllWrong : ChangeSpec := { name := "rruleAll", fn := fun _ => fun
  | [d1, d2, d3] => { results := [.lit (.bool false)], args := [d1, d2, d3] }
  | _ => none }
def RruleAllWrongFalsely : Prop := rruleAllRow.holds Tryz.pinned (OpenSpec.ofChange rruleAllWrong)

/-- 'solsticelaw23.RruleExact': WHATEVER THE INPUT: true; the input reads as it did. -/
def rruleExactSpec : ChangeSpec := { name := "rruleExact", fn := fun _ => fun
  | [d1, d2, d3, d4, d5, d6, d7] => { results := [.lit (.bool true)], args := [d1, d2, d3, d4, d5, d6, d7] }
  | _ => none }
def rruleExactRow : OpenClaim := { program := "ytjjaiahfkiojlaagreat", sum := "2c1ef2dddca4b400afa5b10d0e150108b6598f206356f3be68dd0b6b98044e40", func := "solstice/solsticelaw23.RruleExact", spec := "rruleExact", inPlace := ["sync/atomic.AddInt64", "sync/atomic.LoadInt64"], unfollowed := true, recurses := true, plainKeys := false, apart := false }
def RruleExactSaid : Prop := rruleExactRow.holds Tryz.pinned (OpenSpec.ofChange rruleExactSpec)

/-- ITS FALSE NEIGHBOUR: 'it returns false'. Refute it at one input. -/
def rruleExactWrong : ChangeSpec := { name := "rruleExact", fn := fun _ => fun
  | [d1, d2, d3, d4, d5, d6, d7] => { results := [.lit (.bool false)], args := [d1, d2, d3, d4, d5, d6, d7] }
  | _ => none }
def RruleExactWrongFalsely : Prop := rruleExactRow.holds Tryz.pinned (OpenSpec.ofChange rruleExactWrong)

/-- 'solsticelaw23.RruleSpans': WHATEVER THE INPUT: true; the input reads as it did. -/
def rruleSpansSpec : ChangeSpec := { name := "rruleSpans", fn := fun _ => fun
  | [d1, d2, d3, d4, d5, d6] => { results := [.lit (.bool true)], args := [d1, d2, d3, d4, d5, d6] }
  | _ => none }
def rruleSpansRow : OpenClaim := { program := "ytjjaiahfkiojlaagreat", sum := "2c1ef2dddca4b400afa5b10d0e150108b6598f206356f3be68dd0b6b98044e40", func := "solstice/solsticelaw23.RruleSpans", spec := "rruleSpans", inPlace := ["sync/atomic.AddInt64", "sync/atomic.LoadInt64"], unfollowed := true, recurses := true, plainKeys := false, apart := false }
def RruleSpansSaid : Prop := rruleSpansRow.holds Tryz.pinned (OpenSpec.ofChange rruleSpansSpec)

/-- ITS FALSE NEIGHBOUR: 'it returns false'. Refute it at one input. -/
def rruleSpansWrong : ChangeSpec := { name := "rruleSpans", fn := fun _ => fun
  | [d1, d2, d3, d4, d5, d6] => { results := [.lit (.bool false)], args := [d1, d2, d3, d4, d5, d6] }
  | _ => none }
def RruleSpansWrongFalsely : Prop := rruleSpansRow.holds Tryz.pinned (OpenSpec.ofChange rruleSpansWrong)

/-- 'solsticelaw23.RrulePicks': WHATEVER THE INPUT: true; the input reads as it did. -/
def rrulePicksSpec : ChangeSpec := { name := "rrulePicks", fn := fun _ => fun
  | [d1, d2, d3, d4] => { results := [.lit (.bool true)], args := [d1, d2, d3, d4] }
  | _ => none }
def rrulePicksRow : OpenClaim := { program := "ytjjaiahfkiojlaagreat", sum := "2c1ef2dddca4b400afa5b10d0e150108b6598f206356f3be68dd0b6b98044e40", func := "solstice/solsticelaw23.RrulePicks", spec := "rrulePicks", inPlace := ["sync/atomic.AddInt64", "sync/atomic.LoadInt64"], unfollowed := true, recurses := true, plainKeys := false, apart := false }
def RrulePicksSaid : Prop := rrulePicksRow.holds Tryz.pinned (OpenSpec.ofChange rrulePicksSpec)

/-- ITS FALSE NEIGHBOUR: 'it returns false'. Refute it at one input. -/
def rrulePicksWrong : ChangeSpec := { name := "rrulePicks", fn := fun _ => fun
  | [d1, d2, d3, d4] => { results := [.lit (.bool false)], args := [d1, d2, d3, d4] }
  | _ => none }
def RrulePicksWrongFalsely : Prop := rrulePicksRow.holds Tryz.pinned (OpenSpec.ofChange rrulePicksWrong)

/-- 'solsticelaw23.RruleCosts': WHATEVER THE INPUT: true; the input reads as it did. -/
def rruleCostsSpec : ChangeSpec := { name := "rruleCosts", fn := fun _ => fun
  | [d1, d2, d3, d4] => { results := [.lit (.bool true)], args := [d1, d2, d3, d4] }
  | _ => none }
def rruleCostsRow : OpenClaim := { program := "ytjjaiahfkiojlaagreat", sum := "2c1ef2dddca4b400afa5b10d0e150108b6598f206356f3be68dd0b6b98044e40", func := "solstice/solsticelaw23.RruleCosts", spec := "rruleCosts", inPlace := ["sync/atomic.AddInt64", "sync/atomic.LoadInt64"], unfollowed := true, recurses := true, plainKeys := false, apart := false }
def RruleCostsSaid : Prop := rruleCostsRow.holds Tryz.pinned (OpenSpec.ofChange rruleCostsSpec)

/-- ITS FALSE NEIGHBOUR: 'it returns false'. Refute it at one input. -/
def rruleCostsWrong : ChangeSpec := { name := "rruleCosts", fn := fun _ => fun
  | [d1, d2, d3, d4] => { results := [.lit (.bool false)], args := [d1, d2, d3, d4] }
  | _ => none }
def RruleCostsWrongFalsely : Prop := rruleCostsRow.holds Tryz.pinned (OpenSpec.ofChange rruleCostsWrong)

/-- 'solsticelaw23.RruleDays': WHATEVER THE INPUT: true; the input reads as it did. -/
def rruleDaysSpec : ChangeSpec := { name := "rruleDays", fn := fun _ => fun
  | [d1, d2, d3, d4] => { results := [.lit (.bool true)], args := [d1, d2, d3, d4] }
  | _ => none }
def rruleDaysRow : OpenClaim := { program := "ytjjaiahfkiojlaagreat", sum := "2c1ef2dddca4b400afa5b10d0e150108b6598f206356f3be68dd0b6b98044e40", func := "solstice/solsticelaw23.RruleDays", spec := "rruleDays", inPlace := ["sync/atomic.AddInt64", "sync/atomic.LoadInt64"], unfollowed := true, recurses := true, plainKeys := false, apart := false }
def RruleDaysSaid : Prop := rruleDaysRow.holds Tryz.pinned (OpenSpec.ofChange rruleDaysSpec)

/-- ITS FALSE NEIGHBOUR: 'it returns false'. Refute it at one input. -/
def rruleDaysWrong : ChangeSpec := { name := "rruleDays", fn := fun _ => fun
  | [d1, d2, d3, d4] => { results := [.lit (.bool false)], args := [d1, d2, d3, d4] }
  | _ => none }
def RruleDaysWrongFalsely : Prop := rruleDaysRow.holds Tryz.pinned (OpenSpec.ofChange rruleDaysWrong)

/-- 'solsticelaw23.RruleMonths': WHATEVER THE INPUT: true; the input reads as it did. -/
def rruleMonthsSpec : ChangeSpec := { name := "rruleMonths", fn := fun _ => fun
  | [d1, d2, d3, d4, d5] => { results := [.lit (.bool true)], args := [d1, d2, d3, d4, d5] }
  | _ => none }
def rruleMonthsRow : OpenClaim := { program := "ytjjaiahfkiojlaagreat", sum := "2c1ef2dddca4b400afa5b10d0e150108b6598f206356f3be68dd0b6b98044e40", func := "solstice/solsticelaw23.RruleMonths", spec := "rruleMonths", inPlace := ["sync/atomic.AddInt64", "sync/atomic.LoadInt64"], unfollowed := true, recurses := true, plainKeys := false, apart := false }
def RruleMonthsSaid : Prop := rruleMonthsRow.holds Tryz.pinned (OpenSpec.ofChange rruleMonthsSpec)

/-- ITS FALSE NEIGHBOUR: 'it returns false'. Refute it at one input. -/
def rruleMonthsWrong : ChangeSpec := { name := "rruleMonths", fn := fun _ => fun
  | [d1, d2, d3, d4, d5] => { results := [.lit (.bool false)], args := [d1, d2, d3, d4, d5] }
  | _ => none }
def RruleMonthsWrongFalsely : Prop := rruleMonthsRow.holds Tryz.pinned (OpenSpec.ofChange rruleMonthsWrong)

/-- 'solsticelaw23.RruleUntil': WHATEVER THE INPUT: true; the input reads as it did. -/
def rruleUntilSpec : ChangeSpec := { name := "rruleUntil", fn := fun _ => fun
  | [d1, d2, d3, d4] => { results := [.lit (.bool true)], args := [d1, d2, d3, d4] }
  | _ => none }
def rruleUntilRow : OpenClaim := { program := "ytjjaiahfkiojlaagreat", sum := "2c1ef2dddca4b400afa5b10d0e150108b6598f206356f3be68dd0b6b98044e40", func := "solstice/solsticelaw23.RruleUntil", spec := "rruleUntil", inPlace := ["sync/atomic.AddInt64", "sync/atomic.LoadInt64"], unfollowed := true, recurses := true, plainKeys := false, apart := false }
def RruleUntilSaid : Prop := rruleUntilRow.holds Tryz.pinned (OpenSpec.ofChange rruleUntilSpec)

/-- ITS FALSE NEIGHBOUR: 'it returns false'. Refute it at one input. -/
def rruleUntilWrong : ChangeSpec := { name := "rruleUntil", fn := fun _ => fun
  | [d1, d2, d3, d4] => { results := [.lit (.bool false)], args := [d1, d2, d3, d4] }
  | _ => none }
def RruleUntilWrongFalsely : Prop := rruleUntilRow.holds Tryz.pinned (OpenSpec.ofChange rruleUntilWrong)

/-- 'solsticelaw23.RruleLets': WHATEVER THE INPUT: true; the input reads as it did. -/
def rruleLetsSpec : ChangeSpec := { name := "rruleLets", fn := fun _ => fun
  | [d1, d2, d3, d4] => { results := [.lit (.bool true)], args := [d1, d2, d3, d4] }
  | _ => none }
def rruleLetsRow : OpenClaim := { program := "ytjjaiahfkiojlaagreat", sum := "2c1ef2dddca4b400afa5b10d0e150108b6598f206356f3be68dd0b6b98044e40", func := "solstice/solsticelaw23.RruleLets", spec := "rruleLets", inPlace := ["sync/atomic.AddInt64", "sync/atomic.LoadInt64"], unfollowed := true, recurses := true, plainKeys := false, apart := false }
def RruleLetsSaid : Prop := rruleLetsRow.holds Tryz.pinned (OpenSpec.ofChange rruleLetsSpec)

/-- ITS FALSE NEIGHBOUR: 'it returns false'. Refute it at one input. -/
def rruleLetsWrong : ChangeSpec := { name := "rruleLets", fn := fun _ => fun
  | [d1, d2, d3, d4] => { results := [.lit (.bool false)], args := [d1, d2, d3, d4] }
  | _ => none }
def RruleLetsWrongFalsely : Prop := rruleLetsRow.holds Tryz.pinned (OpenSpec.ofChange rruleLetsWrong)

/- THE SECOND FORM. 'bulk': how many values and letters a reading holds, each counted each time it is reached (what is shared counts as often as it is met; a slice's spare places count too). A statement '..UptoSaid' is the law's where the arguments, and the package variables that the reading takes, are together of bulk at most 1048576: NARROWER than '..Said'. Prove '..Said' where nothing that the law and all that it calls make is longer than what came in: it says more and counts as full. Else prove '..UptoSaid'. A law counts once. -/
mutual
def uptoBulk {H : Type} : DataW H → Nat
  | .lit (.string bytes) => bytes.length + 1
  | .lit _ => 1
  | .nil => 1
  | .ptr d => uptoBulk d + 1
  | .slice elems spare => uptoBulkAll elems + uptoBulkAll spare + 1
  | .agg parts => uptoBulkAll parts + 1
  | .iface _ d => uptoBulk d + 1
  | .map entries => uptoBulkEntries entries + 1
  | .held _ => 1
def uptoBulkAll {H : Type} : List (DataW H) → Nat
  | [] => 0
  | d :: r => uptoBulk d + uptoBulkAll r
def uptoBulkEntries {H : Type} : List (Lit × DataW H) → Nat
  | [] => 0
  | x :: r => uptoBulkEntry x + uptoBulkEntries r
def uptoBulkEntry {H : Type} : Lit × DataW H → Nat
  | (.string bytes, d) => bytes.length + uptoBulk d + 1
  | (_, d) => uptoBulk d + 1
 end
def uptoSmall : (H : Type) → List (DataW H) → Bool := fun _ ds => decide (uptoBulkAll ds ≤ 1048576)
def OpenSpec.upto (s : _root_.Go.ChangeSpec) : _root_.Go.OpenSpec := { _root_.Go.OpenSpec.ofChange s with cond := some uptoSmall }

/-- 'solsticelaw23.RruleAll', WHERE WHAT IT READS IS OF BULK AT MOST 1048576: true; the input reads as it did. -/
def rruleAllUptoRow : OpenClaim := { program := "ytjjaiahfkiojlaagreat", sum := "2c1ef2dddca4b400afa5b10d0e150108b6598f206356f3be68dd0b6b98044e40", func := "solstice/solsticelaw23.RruleAll", spec := "rruleAll", inPlace := ["sync/atomic.AddInt64", "sync/atomic.LoadInt64"], unfollowed := true, recurses := true, plainKeys := false, apart := false, narrowed := true }
def RruleAllUptoSaid : Prop := rruleAllUptoRow.holds Tryz.pinned (OpenSpec.upto rruleAllSpec)

/-- 'solsticelaw23.RruleExact', WHERE WHAT IT READS IS OF BULK AT MOST 1048576: true; the input reads as it did. -/
def rruleExactUptoRow : OpenClaim := { program := "ytjjaiahfkiojlaagreat", sum := "2c1ef2dddca4b400afa5b10d0e150108b6598f206356f3be68dd0b6b98044e40", func := "solstice/solsticelaw23.RruleExact", spec := "rruleExact", inPlace := ["sync/atomic.AddInt64", "sync/atomic.LoadInt64"], unfollowed := true, recurses := true, plainKeys := false, apart := false, narrowed := true }
def RruleExactUptoSaid : Prop := rruleExactUptoRow.holds Tryz.pinned (OpenSpec.upto rruleExactSpec)

/-- 'solsticelaw23.RruleSpans', WHERE WHAT IT READS IS OF BULK AT MOST 1048576: true; the input reads as it did. -/
def rruleSpansUptoRow : OpenClaim := { program := "ytjjaiahfkiojlaagreat", sum := "2c1ef2dddca4b400afa5b10d0e150108b6598f206356f3be68dd0b6b98044e40", func := "solstice/solsticelaw23.RruleSpans", spec := "rruleSpans", inPlace := ["sync/atomic.AddInt64", "sync/atomic.LoadInt64"], unfollowed := true, recurses := true, plainKeys := false, apart := false, narrowed := true }
def RruleSpansUptoSaid : Prop := rruleSpansUptoRow.holds Tryz.pinned (OpenSpec.upto rruleSpansSpec)

/-- 'solsticelaw23.RrulePicks', WHERE WHAT IT READS IS OF BULK AT MOST 1048576: true; the input reads as it did. -/
def rrulePicksUptoRow : OpenClaim := { program := "ytjjaiahfkiojlaagreat", sum := "2c1ef2dddca4b400afa5b10d0e150108b6598f206356f3be68dd0b6b98044e40", func := "solstice/solsticelaw23.RrulePicks", spec := "rrulePicks", inPlace := ["sync/atomic.AddInt64", "sync/atomic.LoadInt64"], unfollowed := true, recurses := true, plainKeys := false, apart := false, narrowed := true }
def RrulePicksUptoSaid : Prop := rrulePicksUptoRow.holds Tryz.pinned (OpenSpec.upto rrulePicksSpec)

/-- 'solsticelaw23.RruleCosts', WHERE WHAT IT READS IS OF BULK AT MOST 1048576: true; the input reads as it did. -/
def rruleCostsUptoRow : OpenClaim := { program := "ytjjaiahfkiojlaagreat", sum := "2c1ef2dddca4b400afa5b10d0e150108b6598f206356f3be68dd0b6b98044e40", func := "solstice/solsticelaw23.RruleCosts", spec := "rruleCosts", inPlace := ["sync/atomic.AddInt64", "sync/atomic.LoadInt64"], unfollowed := true, recurses := true, plainKeys := false, apart := false, narrowed := true }
def RruleCostsUptoSaid : Prop := rruleCostsUptoRow.holds Tryz.pinned (OpenSpec.upto rruleCostsSpec)

/-- 'solsticelaw23.RruleDays', WHERE WHAT IT READS IS OF BULK AT MOST 1048576: true; the input reads as it did. -/
def rruleDaysUptoRow : OpenClaim := { program := "ytjjaiahfkiojlaagreat", sum := "2c1ef2dddca4b400afa5b10d0e150108b6598f206356f3be68dd0b6b98044e40", func := "solstice/solsticelaw23.RruleDays", spec := "rruleDays", inPlace := ["sync/atomic.AddInt64", "sync/atomic.LoadInt64"], unfollowed := true, recurses := true, plainKeys := false, apart := false, narrowed := true }
def RruleDaysUptoSaid : Prop := rruleDaysUptoRow.holds Tryz.pinned (OpenSpec.upto rruleDaysSpec)

/-- 'solsticelaw23.RruleMonths', WHERE WHAT IT READS IS OF BULK AT MOST 1048576: true; the input reads as it did. -/
def rruleMonthsUptoRow : OpenClaim := { program := "ytjjaiahfkiojlaagreat", sum := "2c1ef2dddca4b400afa5b10d0e150108b6598f206356f3be68dd0b6b98044e40", func := "solstice/solsticelaw23.RruleMonths", spec := "rruleMonths", inPlace := ["sync/atomic.AddInt64", "sync/atomic.LoadInt64"], unfollowed := true, recurses := true, plainKeys := false, apart := false, narrowed := true }
def RruleMonthsUptoSaid : Prop := rruleMonthsUptoRow.holds Tryz.pinned (OpenSpec.upto rruleMonthsSpec)

/-- 'solsticelaw23.RruleUntil', WHERE WHAT IT READS IS OF BULK AT MOST 1048576: true; the input reads as it did. -/
def rruleUntilUptoRow : OpenClaim := { program := "ytjjaiahfkiojlaagreat", sum := "2c1ef2dddca4b400afa5b10d0e150108b6598f206356f3be68dd0b6b98044e40", func := "solstice/solsticelaw23.RruleUntil", spec := "rruleUntil", inPlace := ["sync/atomic.AddInt64", "sync/atomic.LoadInt64"], unfollowed := true, recurses := true, plainKeys := false, apart := false, narrowed := true }
def RruleUntilUptoSaid : Prop := rruleUntilUptoRow.holds Tryz.pinned (OpenSpec.upto rruleUntilSpec)

/-- 'solsticelaw23.RruleLets', WHERE WHAT IT READS IS OF BULK AT MOST 1048576: true; the input reads as it did. -/
def rruleLetsUptoRow : OpenClaim := { program := "ytjjaiahfkiojlaagreat", sum := "2c1ef2dddca4b400afa5b10d0e150108b6598f206356f3be68dd0b6b98044e40", func := "solstice/solsticelaw23.RruleLets", spec := "rruleLets", inPlace := ["sync/atomic.AddInt64", "sync/atomic.LoadInt64"], unfollowed := true, recurses := true, plainKeys := false, apart := false, narrowed := true }
def RruleLetsUptoSaid : Prop := rruleLetsUptoRow.holds Tryz.pinned (OpenSpec.upto rruleLetsSpec)

end Rows
end Go.Proofs.YtjjaiahfkiojlaaGreat
