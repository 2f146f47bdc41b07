/- What wakes of layer 24 computes. -/
import Derived.Test.YtfinhaghgmnegaaG424
import Derived.Test.YtfinhaghgmnegaaOx26
namespace Go.Proofs.Ytfinhaghgmnegaa.Pure
open Go.RowKit Go.Proofs.Ytfinhaghgmnegaa.O Go.Proofs.YtfinhaghgmnegaaW.PrintWords Go.Proofs.YtfinhaghgmnegaaW.PrintLast
open Go.Proofs.Ytfinhaghgmnegaa.Civ
theorem wakes_ev : Ev (fun k => solsticelaw24_wakes.f k) true := Ev.of solsticelaw24_wakes.mono (k := 60) (by decide +kernel)
end Go.Proofs.Ytfinhaghgmnegaa.Pure
