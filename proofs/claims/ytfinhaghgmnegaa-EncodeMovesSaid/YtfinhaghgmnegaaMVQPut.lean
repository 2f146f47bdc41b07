-- Words that the walks of this claim use: a text of this claim's own (lines first written by the kit's tool, what is not used left out).
import Derived.Test.YtfinhaghgmnegaaVLast
import Derived.Test.YtfinhaghgmnegaaVWords
namespace Go.Proofs.YtfinhaghgmnegaaW.PrintLast
open Go.Proofs.YtfinhaghgmnegaaW.PrintWords (Aside0)
section
variable {md : Region.Mode} {ops : Array Oper} {T : Bool × List (List Nat × List Nat)} {l l' li lj lk : Array Bool} {ds : List Nat} {i j k : Nat}
end
end Go.Proofs.YtfinhaghgmnegaaW.PrintLast


namespace Go.Proofs.YtfinhaghgmnegaaW.PrintWords
open Go.RowKit
namespace Kd
section
variable {α : Type} {d : Kd α} {e base g o n cap : Nat} {ok okp : Nat → Prop} {w W : World} {v : Value} {xs : List α}
end
section
variable {α : Type} {enc : α → Value} {h1 : ∀ x, (enc x).oneCell' = true} {e base g o n cap : Nat} {ok : Nat → Prop} {W : World} {xs : List α}
end
end Kd
end Go.Proofs.YtfinhaghgmnegaaW.PrintWords
