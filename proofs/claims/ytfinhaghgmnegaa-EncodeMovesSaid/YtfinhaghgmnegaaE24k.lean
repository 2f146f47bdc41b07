/- Rules that are one are alike, as a contract. No condition beyond that their lists are no longer than a million. -/
import Derived.Test.YtfinhaghgmnegaaE24c
import Derived.Test.YtfinhaghgmnegaaOx0
import Derived.Test.YtfinhaghgmnegaaOx24
namespace Go.Proofs.Ytfinhaghgmnegaa.Pure
open Go.RowKit Go.Proofs.Ytfinhaghgmnegaa.O Go.Proofs.YtfinhaghgmnegaaW.PrintWords Go.Proofs.YtfinhaghgmnegaaW.PrintLast
open Go.Proofs.Ytfinhaghgmnegaa.Civ
set_option linter.unusedVariables false
set_option linter.unusedSimpArgs false
set_option maxRecDepth 100000
set_option maxHeartbeats 4000000
section
variable {ρ : Operand → Value} {o : Oper} {w : World}
theorem run_ix27 {x y : Operand} {ad : Addr} {n c kk : Nat} (hk : kk < n) (hn : n ≤ 1000000000) (ho : o.op = .indexAddr 27 x y) (hx : ρ x = .slice (some ad) n c) (hy : ρ y = .int .i64 kk) : (execOp ρ o).run Try.prog w = .ok (.value (.pointer (some (ad.add (kk * 2))))) w := by
  have hu27 := Try.underlying27
  have hu54 := Try.underlying54
  have h1 : ¬ (kk : Int) < 0 := by omega
  have h2 : (kk : Int) < n := by omega
  unfold execOp; rw [ho]; go_simp
end
end Go.Proofs.Ytfinhaghgmnegaa.Pure
