-- Words that the walks of this claim use: a text of this claim's own (lines first written by the kit's tool, what is not used left out).
import Derived.Test.YtfinhaghgmnegaaVApart
import Derived.Test.YtfinhaghgmnegaaVArr
namespace Go.Proofs.YtfinhaghgmnegaaW.PrintWords
open Go.RowKit
section
variable {P : Program}
end
namespace Kd
section
variable {P : Program} {ops : Array Oper} {rest : List Oper} {o : Oper} {a : Act} {Q : Exit → Act → World → Prop} {Kc : Act → World → Prop} {α : Type}
end
section
variable {α : Type} {d : Kd α} {e : Nat} {w : World} {base : Nat} {ok : Nat → Prop} {v : Value} {xs : List α}
end
section
variable {P : Program} {ops : Array Oper} {rest : List Oper} {o : Oper} {a : Act} {Q : Exit → Act → World → Prop} {Kc : Act → World → Prop} {α : Type}
end
end Kd
end Go.Proofs.YtfinhaghgmnegaaW.PrintWords
