/- CivilBad in plain numbers: what the law computes is true at all arguments. No condition but that each is an int. -/
import Derived.Test.YtgmofklgfnfnmaaGS02
import Derived.Test.YtgmofklgfnfnmaaOx28
namespace Go.Proofs.Ytgmofklgfnfnmaa.Pure
open Go.RowKit Go.Proofs.Ytgmofklgfnfnmaa.O Go.Proofs.YtgmofklgfnfnmaaW.PrintWords Go.Proofs.YtgmofklgfnfnmaaW.PrintLast
open Go.Proofs.Ytgmofklgfnfnmaa.Civ
theorem bad_j0 (y m d y' m' d' : Int) (h' : ¬ Rt y' m' d') : Ev (fun k => solsticelaw02_CivilBad.j0 k y m d y' m' d') true := by
  have e1 : num 10000 12 31 = 2933262 := by decide +kernel
  have e2 : num 0 1 1 = -719528 := by decide +kernel
  have h1 : Rt 10000 12 31 := by decide +kernel
  have h2 : Rt 0 1 1 := by decide +kernel
  have c1 := cnum h1
  have c2 := cnum h2
  rw [e1] at c1
  rw [e2] at c2
  refine evstep ?_
  simp only [solsticelaw02_CivilBad.j0]
  refine evb (cnum_no h') (evb c1 (evb c2 ?_))
  simp only [w64 (x := 2933262 + 1) (by omega) (by omega), w64 (x := -719528 - 1) (by omega) (by omega)]
  refine evb (cdate_no (by omega)) (evb (cdate_no (by omega)) (evb (cyd_no (by omega)) ?_))
  simp only [if_true]
  refine evb (clen y 0) ?_
  simp only [ln_0 y 0 (by omega), if_true]
  refine evb (clen y 13) ?_
  simp only [ln_0 y 13 (by omega), if_true]
  exact evb wakes_ev (Ev.now _)
theorem CivilBad : solsticelaw02_CivilBad.Pure := by
  intro a0 a1 a2 _ _ _
  obtain ⟨y, m, d, h, e⟩ := some_ev a0 a1 0
  obtain ⟨r1, r2, r3, r4, r5, r6⟩ := id h
  have hl := ln_bd y m r3 r4
  have no : ∀ y' m' d', ¬ Rt y' m' d' → Ev (fun k => solsticelaw02_CivilBad.j0 k y m d y' m' d') true := fun y' m' d' h' => bad_j0 y m d y' m' d' h'
  refine Ev.rounds ?_
  unfold solsticelaw02_CivilBad.f
  refine evb e ?_
  refine evif (fun _ => no _ _ _ (by unfold Rt; omega)) (fun _ => evif (fun _ => ?_) (fun _ => evif (fun _ => no _ _ _ (by unfold Rt; omega)) (fun _ => evif (fun _ => no _ _ _ (by unfold Rt; omega)) (fun _ => evif (fun _ => no _ _ _ (by unfold Rt; omega)) (fun _ => no _ _ _ (by unfold Rt; omega))))))
  refine evb (clen y m) ?_
  refine no y m _ ?_
  rw [w64 (by omega) (by omega)]
  unfold Rt
  omega
end Go.Proofs.Ytgmofklgfnfnmaa.Pure
