/- CivilDays in plain numbers: what the law computes is true at all arguments. No condition but that each is an int. -/
import Derived.Test.YtgmofklgfnfnmaaGS02
import Derived.Test.YtgmofklgfnfnmaaOx27
namespace Go.Proofs.Ytgmofklgfnfnmaa.Pure
open Go.RowKit Go.Proofs.Ytgmofklgfnfnmaa.O Go.Proofs.YtgmofklgfnfnmaaW.PrintWords Go.Proofs.YtgmofklgfnfnmaaW.PrintLast
open Go.Proofs.Ytgmofklgfnfnmaa.Civ
theorem CivilDays : solsticelaw02_CivilDays.Pure := by
  intro a0 a1 a2 _ _ _
  obtain ⟨y, m, d, h, e⟩ := some_ev a0 a1 a2
  have hb := num_bd h
  have h1 : Rt y 1 1 := ⟨h.1, h.2.1, by omega, by omega, by omega, by have := ln_bd y 1 (by omega) (by omega); omega⟩
  have h2 : Rt y 12 31 := ⟨h.1, h.2.1, by omega, by omega, by omega, by simp [ln]⟩
  have b1 := num_bd h1
  have b2 := num_bd h2
  have c1 := cum_1 y
  have c12 : cum y 12 = 334 + lpi y := by simp [cum]
  have hp := lpi_iff y
  refine Ev.rounds ?_
  unfold solsticelaw02_CivilDays.f
  refine evb e (evb (cnum h) (evb (cyd h) (evb (cnum h1) (evb (cnum h2) (evb (cyd h2) ?_)))))
  simp only [if_true, bne_self_eq_false]
  refine evstep ?_
  simp only [solsticelaw02_CivilDays.j0, Bool.false_eq_true, if_false, clong, Option.bind_some]
  rw [w64 (x := num y m d - num y 1 1) (by omega) (by omega), w64 (x := num y 12 31 - num y 1 1) (by omega) (by omega), w64 (x := num y m d - num y 1 1 + 1) (by omega) (by omega), w64 (x := num y 12 31 - num y 1 1 + 1) (by omega) (by omega)]
  have hl : ((cum y 12 + 31 == 366) == lp y) = true := by
    rw [c12]; unfold lpi; cases lp y <;> simp
  simp only [if_pos (show cum y m + d = num y m d - num y 1 1 + 1 by unfold num; omega), if_pos (show cum y 12 + 31 = num y 12 31 - num y 1 1 + 1 by unfold num; omega), if_pos hl]
  exact evb wakes_ev (Ev.now _)
end Go.Proofs.Ytgmofklgfnfnmaa.Pure
