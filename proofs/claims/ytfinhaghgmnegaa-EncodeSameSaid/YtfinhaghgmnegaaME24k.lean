-- What some functions of the program compute: a text of this claim's own (lines first written by the kit's tool, some proved anew).
/- Rules that are one are alike, as a contract. No condition beyond that their lists are no longer than a million. -/
import Derived.Test.YtfinhaghgmnegaaOx0
import Derived.Test.YtfinhaghgmnegaaE24c
namespace Go.Proofs.Ytfinhaghgmnegaa.O
open Go.RowKit Go.Proofs.YtfinhaghgmnegaaW.PrintWords Go.Proofs.YtfinhaghgmnegaaW.PrintLast Go.Proofs.YtfinhaghgmnegaaW.PrintMore
attribute [local go_sem] max2_int min2_int max_two min_two max_three min_three max_four min_four   -- for this text's walks alone
set_option linter.unusedVariables false
set_option linter.unusedSimpArgs false

end Go.Proofs.Ytfinhaghgmnegaa.O

namespace Go.Proofs.Ytfinhaghgmnegaa.Pure
open Go.RowKit Go.Proofs.Ytfinhaghgmnegaa.O Go.Proofs.YtfinhaghgmnegaaW.PrintWords Go.Proofs.YtfinhaghgmnegaaW.PrintLast
open Go.Proofs.Ytfinhaghgmnegaa.Civ
set_option linter.unusedVariables false
set_option linter.unusedSimpArgs false
set_option maxRecDepth 100000
set_option maxHeartbeats 4000000
section
variable {ρ : Operand → Value} {o : Oper} {w : World}
theorem run_ix27 {x y : Operand} {ad : Addr} {n c kk : Nat} (hk : kk < n) (hn : n ≤ 1000000000) (ho : o.op = .indexAddr 27 x y) (hx : ρ x = .slice (some ad) n c) (hy : ρ y = .int .i64 kk) : (execOp ρ o).run Try.prog w = .ok (.value (.pointer (some (ad.add (kk * 2))))) w := by
  have hu27 := Try.underlying27
  have hu54 := Try.underlying54
  have h1 : ¬ (kk : Int) < 0 := by omega
  have h2 : (kk : Int) < n := by omega
  unfold execOp; rw [ho]; go_simp
end
theorem kp_inc {i n : Nat} (h : i < n) (hn : n ≤ 1000000) : wrap64 ((i : Int) + 1) = ((i + 1 : Nat) : Int) := by rw [w64 (by omega) (by omega)]; omega
def leftN (d n : Nat) (a : Act) : Nat := match a.eval (.tmp d) with | .int _ x => ((n : Int) - x).toNat | _ => 0
theorem leftN_ {d n N : Nat} {E : Env} {a : Act} {x : Int} (K : Kn N E a) (h : O.look E d = some (.int .i64 x)) : leftN d n a = ((n : Int) - x).toNat := by unfold leftN; rw [K.ev _ _ h]
theorem leftN_lt {i n : Nat} (h : i < n) : ((n : Int) - ((i + 1 : Nat) : Int)).toNat < ((n : Int) - (i : Int)).toNat := by omega
end Go.Proofs.Ytfinhaghgmnegaa.Pure
