/- What Some and wakes of the statements of layer 2 compute. -/
import Derived.Test.YtgmofklgfnfnmaaG02
import Derived.Test.YtgmofklgfnfnmaaOx14
import Derived.Test.YtgmofklgfnfnmaaOx6
namespace Go.Proofs.Ytgmofklgfnfnmaa.Pure
open Go.RowKit Go.Proofs.Ytgmofklgfnfnmaa.O Go.Proofs.YtgmofklgfnfnmaaW.PrintWords Go.Proofs.YtgmofklgfnfnmaaW.PrintLast
open Go.Proofs.Ytgmofklgfnfnmaa.Civ
theorem u64r (a : Int) : 0 ≤ IntKind.u64.wrap a ∧ IntKind.u64.wrap a < 18446744073709551616 := by
  unfold IntKind.wrap
  simp [IntKind.bits, IntKind.signed]
  omega
theorem some_ev (a b c : Int) : ∃ y m d, Rt y m d ∧ Ev (fun k => solsticelaw02_Some.f k a b c) (y, m, d) := by
  have ha := u64r a
  have hb := u64r b
  have hc := u64r c
  unfold solsticelaw02_Some.f
  simp only [tmod_nn _ ha.1, tmod_nn _ hb.1, tmod_nn _ hc.1]
  generalize IntKind.u64.wrap a = a at *
  generalize IntKind.u64.wrap b = b at *
  generalize IntKind.u64.wrap c = c at *
  rw [w64 (x := a % 10001) (by omega) (by omega), w64 (x := b % 12) (by omega) (by omega), w64 (x := 1 + b % 12) (by omega) (by omega)]
  have hl := ln_bd (a % 10001) (1 + b % 12) (by omega) (by omega)
  have hu : IntKind.u64.wrap (ln (a % 10001) (1 + b % 12)) = ln (a % 10001) (1 + b % 12) := by
    unfold IntKind.wrap
    simp [IntKind.bits, IntKind.signed]
    omega
  have hr0 := Int.emod_nonneg c (show ln (a % 10001) (1 + b % 12) ≠ 0 by omega)
  have hr1 := Int.emod_lt_of_pos c (show 0 < ln (a % 10001) (1 + b % 12) by omega)
  refine ⟨a % 10001, 1 + b % 12, 1 + c % ln (a % 10001) (1 + b % 12), ⟨by omega, by omega, by omega, by omega, by omega, by omega⟩, ?_⟩
  refine evb (rlen (1 + b % 12) (by omega) (by omega)) ?_
  simp only [hu, if_neg (show ¬ ln (a % 10001) (1 + b % 12) = 0 by omega)]
  refine evs ?_
  rw [w64 (x := c % ln (a % 10001) (1 + b % 12)) (by omega) (by omega), w64 (by omega) (by omega)]
theorem wakes_ev : Ev (fun k => solsticelaw02_wakes.f k) true := Ev.of solsticelaw02_wakes.mono (k := 12000) (by decide +kernel)
end Go.Proofs.Ytgmofklgfnfnmaa.Pure
