/- CivilYears in plain numbers: what the law computes is true at all arguments. No condition but that each is an int. -/
import Derived.Test.YtgmofklgfnfnmaaGS02
import Derived.Test.YtgmofklgfnfnmaaOx16
namespace Go.Proofs.Ytgmofklgfnfnmaa.Pure
open Go.RowKit Go.Proofs.Ytgmofklgfnfnmaa.O Go.Proofs.YtgmofklgfnfnmaaW.PrintWords Go.Proofs.YtgmofklgfnfnmaaW.PrintLast
open Go.Proofs.Ytgmofklgfnfnmaa.Civ
theorem years_j2 {y m d : Int} (h : Rt y m d) : Ev (fun k => solsticelaw02_CivilYears.j2 k (num y m d) false y m d) true := by
  obtain ⟨r1, r2, r3, r4, r5, r6⟩ := id h
  have hb := num_bd h
  refine evstep ?_
  simp only [solsticelaw02_CivilYears.j2, Bool.false_eq_true, if_false]
  refine evif (fun _ => evb wakes_ev (Ev.now _)) (fun hy => ?_)
  rw [w64 (x := y + 400) (by omega) (by omega)]
  have hp := lpi_iff y
  have hp' := lpi_iff (y + 400)
  have el : lp (y + 400) = lp y := by unfold lp; rw [decide_eq_decide]; omega
  have ei : lpi (y + 400) = lpi y := by unfold lpi; rw [el]
  have h' : Rt (y + 400) m d := ⟨by omega, by omega, r3, r4, r5, by unfold ln; rw [ei]; exact r6⟩
  have hb' := num_bd h'
  have hn : num (y + 400) m d = num y m d + 146097 := by
    have hc : cum (y + 400) m = cum y m := by unfold cum; rw [ei]
    unfold num ah
    rw [hc]
    omega
  refine evb (cnum h') ?_
  rw [w64 (by omega) (by omega)]
  simp only [if_true, if_pos (show num (y + 400) m d - num y m d = 146097 by omega), cwd, Option.bind_some, clong, el, if_pos (show wd (num (y + 400) m d) = wd (num y m d) by rw [hn]; unfold wd; omega), beq_self_eq_true]
  exact evb wakes_ev (Ev.now _)
theorem years_l0 {y m d : Int} (h : Rt y m d) : ∀ (n : Nat) (j : Int), 1 ≤ j → j + n = 13 → Ev (fun k => solsticelaw02_CivilYears.l0 k (num y m d) (cum y j) j y m d) true := by
  intro n
  have hb := num_bd h
  have hp := lpi_01 y
  induction n with
  | zero =>
    intro j h1 h2
    obtain rfl : j = 13 := by omega
    refine evstep ?_
    simp only [solsticelaw02_CivilYears.l0, clong, Option.bind_some]
    simp only [show ¬ (13 : Int) ≤ 12 by omega, if_false]
    have fin : ∀ w : Int, cum y 13 = w → Ev (fun k => solsticelaw02_CivilYears.j1 k (num y m d) (cum y 13) w y m d) true := by
      intro w hw
      refine evstep ?_
      have hw1 := wd_bd (num y m d)
      simp only [solsticelaw02_CivilYears.j1, if_pos hw, cwd, Option.bind_some]
      rw [w64 (x := num y m d + 7) (by omega) (by omega), w64 (x := num y m d + 1) (by omega) (by omega), w64 (x := wd (num y m d) + 1) (by omega) (by omega), tmod_nn 7 (by omega)]
      simp only [if_pos (show wd (num y m d + 7) = wd (num y m d) by unfold wd; omega), show wd (num y m d + 1) = (wd (num y m d) + 1) % 7 by unfold wd; omega, bne_self_eq_false]
      exact years_j2 h
    refine evif (fun hl => fin 366 ?_) (fun hl => fin 365 ?_)
    · rw [cum_13]; simp [lpi, hl]
    · rw [cum_13]; simp [lpi, hl]
  | succ n ih =>
    intro j h1 h2
    have hc := cum_bd y j h1 (by omega)
    have hl := ln_bd y j h1 (by omega)
    refine evstep ?_
    simp only [solsticelaw02_CivilYears.l0, if_pos (show j ≤ 12 by omega)]
    refine evb (clen y j) ?_
    rw [w64 (x := cum y j + ln y j) (by omega) (by omega), w64 (x := j + 1) (by omega) (by omega), ← cum_succ y j h1 (by omega)]
    exact ih (j + 1) (by omega) (by omega)
theorem CivilYears : solsticelaw02_CivilYears.Pure := by
  intro a0 a1 a2 _ _ _
  obtain ⟨y, m, d, h, e⟩ := some_ev a0 a1 a2
  refine Ev.rounds ?_
  unfold solsticelaw02_CivilYears.f
  refine evb e (evb (cnum h) ?_)
  simp only [if_true]
  have := years_l0 h 12 1 (by omega) (by omega)
  rwa [cum_1] at this
end Go.Proofs.Ytgmofklgfnfnmaa.Pure
