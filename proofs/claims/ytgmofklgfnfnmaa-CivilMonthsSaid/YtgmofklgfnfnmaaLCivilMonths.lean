/- CivilMonths in plain numbers: what the law computes is true at all arguments. No condition but that each is an int. -/
import Derived.Test.YtgmofklgfnfnmaaGS02
import Derived.Test.YtgmofklgfnfnmaaOx17
namespace Go.Proofs.Ytgmofklgfnfnmaa.Pure
open Go.RowKit Go.Proofs.Ytgmofklgfnfnmaa.O Go.Proofs.YtgmofklgfnfnmaaW.PrintWords Go.Proofs.YtgmofklgfnfnmaaW.PrintLast
open Go.Proofs.Ytgmofklgfnfnmaa.Civ
theorem months_j0 (y m d : Int) (h0 : 0 ≤ y) (h1 : y ≤ 10000) (h2 : 1 ≤ m) (h3 : m ≤ 11) : Ev (fun k => solsticelaw02_CivilMonths.j0 k y m d) true := by
  have hl := ln_bd y m h2 (by omega)
  have hl' := ln_bd y (m + 1) (by omega) (by omega)
  have a : Rt y m 1 := ⟨h0, h1, by omega, by omega, by omega, by omega⟩
  have b : Rt y (m + 1) 1 := ⟨h0, h1, by omega, by omega, by omega, by omega⟩
  have ba := num_bd a
  have bb := num_bd b
  have hc := cum_succ y m h2 (by omega)
  refine evstep ?_
  simp only [solsticelaw02_CivilMonths.j0]
  rw [w64 (x := m + 1) (by omega) (by omega)]
  refine evb (cnum a) (evb (cnum b) (evb (clen y m) (evb (clen y 2) ?_)))
  rw [w64 (by omega) (by omega)]
  simp only [if_true, if_pos (show num y (m + 1) 1 - num y m 1 = ln y m by unfold num; omega), if_pos (show ln y m ≥ 28 by omega), if_pos (show ln y m ≤ 31 by omega), clong, Option.bind_some]
  have e2 : ln y 2 = 28 + lpi y := by simp [ln]
  have hf : ((ln y 2 == 29) == lp y) = true := by rw [e2]; unfold lpi; cases lp y <;> simp
  simp only [if_pos hf]
  refine evif (fun _ => evb wakes_ev (Ev.now _)) (fun hn => ?_)
  simp only [if_pos (show ln y 2 = 29 by have := lpi_01 y; omega)]
  exact evb wakes_ev (Ev.now _)
theorem CivilMonths : solsticelaw02_CivilMonths.Pure := by
  intro a0 a1 _ _
  obtain ⟨y, m, d, ⟨h1, h2, h3, h4, h5, h6⟩, e⟩ := some_ev a0 a1 0
  refine Ev.rounds ?_
  unfold solsticelaw02_CivilMonths.f
  refine evb e ?_
  exact evif (fun hm => months_j0 y 11 d h1 h2 (by omega) (by omega)) (fun hm => months_j0 y m d h1 h2 h3 (by dsimp only at hm; omega))
end Go.Proofs.Ytgmofklgfnfnmaa.Pure
