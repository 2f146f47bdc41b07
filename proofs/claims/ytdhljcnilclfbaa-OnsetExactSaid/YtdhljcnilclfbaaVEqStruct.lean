-- Words that the walks of this claim use: a text of this claim's own (lines first written by the kit's tool, what is not used left out).
import Derived.Test.YtdhljcnilclfbaaVWords
import Derived.Laws.StructEq
namespace Go.Proofs.YtdhljcnilclfbaaW.PrintWords
open Go.RowKit
section
variable {P : Program} {d : Nat} {xs ys : Array Value} {f : Field} {fs : List Field} {a b : Value} {r s : Bool} {w : World}
end
end Go.Proofs.YtdhljcnilclfbaaW.PrintWords
