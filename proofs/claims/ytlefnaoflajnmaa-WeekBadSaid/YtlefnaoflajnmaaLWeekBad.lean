/- WeekBad in plain numbers: what the law computes is true at all arguments. No condition but that each is an int. -/
import Derived.Test.YtlefnaoflajnmaaGS03
import Derived.Test.YtlefnaoflajnmaaOx0
import Derived.Test.YtlefnaoflajnmaaOx11
import Derived.Test.YtlefnaoflajnmaaOx2
import Derived.Test.YtlefnaoflajnmaaOx27
import Derived.Test.YtlefnaoflajnmaaOx3
import Derived.Test.YtlefnaoflajnmaaOx39
namespace Go.Proofs.Ytlefnaoflajnmaa.Pure
open Go.RowKit Go.Proofs.Ytlefnaoflajnmaa.O Go.Proofs.YtlefnaoflajnmaaW.PrintWords Go.Proofs.YtlefnaoflajnmaaW.PrintLast
open Go.Proofs.Ytlefnaoflajnmaa.Civ
theorem wres_on {y m kd w d : Int} (h : ¬ OnR kd w d) : Ev (fun k => week_Resolve.f k y m kd w d) (0, 8) := by
  have := wres y m kd w d
  unfold resV at this
  rwa [if_neg h] at this
theorem wcheck_on {kd w d : Int} (h : ¬ OnR kd w d) : Ev (fun k => week_Check.f k kd w d) 8 := by
  have := wcheck kd w d
  rwa [if_neg h] at this
theorem wres_date {y m kd w d : Int} (ho : OnR kd w d) (hy : 1 ≤ y) (hy' : y ≤ 9999) (hr : ¬ Rt y m (fday y m kd d)) : Ev (fun k => week_Resolve.f k y m kd w d) (0, 4) := by
  have := wres y m kd w d
  unfold resV at this
  rwa [if_pos ho, if_neg (by omega), if_neg hr] at this
def badList : List S23 := [(⟨0, 0, 0⟩ : S23), (⟨5, 0, 1⟩ : S23), (⟨1, 0, 0⟩ : S23), (⟨1, 0, 32⟩ : S23), (⟨1, 1, 1⟩ : S23), (⟨2, 7, 0⟩ : S23), (⟨2, 0, 1⟩ : S23), (⟨3, (-1), 1⟩ : S23), (⟨4, 0, 0⟩ : S23)]
theorem bad_form (r : Int) (h : 0 ≤ r) (h' : r < 9) : ¬ OnR (rd_T23 badList r).f0 (rd_T23 badList r).f1 (rd_T23 badList r).f2 := by
  have : r = 0 ∨ r = 1 ∨ r = 2 ∨ r = 3 ∨ r = 4 ∨ r = 5 ∨ r = 6 ∨ r = 7 ∨ r = 8 := by omega
  rcases this with rfl | rfl | rfl | rfl | rfl | rfl | rfl | rfl | rfl <;> decide +kernel
theorem WeekBad : solsticelaw03_WeekBad.Pure := by
  intro a0 a1 _ _
  obtain ⟨y, y0, y1, ey⟩ := um1 a1 (n := 9999) (by omega) (by omega)
  obtain ⟨r, r0, r1, er⟩ := um a0 (n := 9) (by omega) (by omega)
  have hb := bad_form r r0 r1
  refine Ev.rounds ?_
  unfold solsticelaw03_WeekBad.f
  rw [show ([(⟨0, 0, 0⟩ : S23), (⟨5, 0, 1⟩ : S23), (⟨1, 0, 0⟩ : S23), (⟨1, 0, 32⟩ : S23), (⟨1, 1, 1⟩ : S23), (⟨2, 7, 0⟩ : S23), (⟨2, 0, 1⟩ : S23), (⟨3, (-1), 1⟩ : S23), (⟨4, 0, 0⟩ : S23)] : List S23) = badList from rfl]
  have hlen : (badList.length : Int) = 9 := rfl
  simp only [Option.bind_some, hlen, u64s (show (0 : Int) ≤ 9 by omega) (by omega), ey, er, if_neg (show ¬ (9 : Int) = 0 by omega), if_pos r0, if_pos r1]
  refine evb (wres_on hb) ?_
  refine evb (wres_date (by unfold OnR; omega) y0 y1 (by unfold fday Rt; simp [ln])) ?_
  refine evb (wres_date (by unfold OnR; omega) y0 y1 (by unfold fday Rt; omega)) ?_
  have hz : Ev (fun k => week_Resolve.f k 0 3 2 0 0) (0, 23) := by
    have := wres 0 3 2 0 0
    unfold resV at this
    rwa [if_pos (by unfold OnR; omega), if_pos (by omega)] at this
  refine evb hz ?_
  have fin : ∀ p : Int × Int, (lp y = true ∧ p.2 = 0 ∨ lp y = false ∧ p.2 = 4 ∧ p.1 = 0) → Ev (fun k => week_Resolve.f k y 2 1 0 29) p → Ev (fun n => (week_Resolve.f n y 2 1 0 29).bind fun bt351 => ((week_Check.f n ((rd_T23 badList r).f0) ((rd_T23 badList r).f1) ((rd_T23 badList r).f2)).bind fun t353 => (if t353 = 8 then (if (0, (8 : Int)).2 = 8 then (if ((0 : Int), (8 : Int)).1 = 0 then (if ((0 : Int), (4 : Int)).2 = 4 then (if ((0 : Int), (4 : Int)).2 = 4 then (if ((0 : Int), (23 : Int)).2 = 23 then ((civil_Long.f y).bind fun t354 => (if ((bt351.2 == 0) == t354) = true then (if bt351.2 = 0 then ((solsticelaw03_wakes.f n).bind fun t355 => (some t355)) else (if bt351.2 = 4 then (if bt351.1 = 0 then ((solsticelaw03_wakes.f n).bind fun t356 => (some t356)) else (some false)) else (some false))) else (some false))) else (some false)) else (some false)) else (some false)) else (some false)) else (some false)) else (some false)))) true := by
    intro p hp e
    refine evb e (evb (wcheck_on hb) ?_)
    simp only [if_true, clong, Option.bind_some]
    rcases hp with ⟨h1, h2⟩ | ⟨h1, h2, h3⟩
    · simp only [h1, h2, beq_self_eq_true, if_true]
      exact evb wakes_ev (Ev.now _)
    · simp only [h1, h2, h3, show ((4 : Int) == 0) = false from rfl, beq_self_eq_true, if_true, if_neg (show ¬ (4 : Int) = 0 by omega)]
      exact evb wakes_ev (Ev.now _)
  have e2 : ln y 2 = 28 + lpi y := by simp [ln]
  cases hl : lp y with
  | true => exact fin (fres y 2 1 0 29, 0) (Or.inl ⟨hl, rfl⟩) (wres_ok (by unfold OnR; omega) y0 y1 (by unfold fday Rt; rw [if_neg (by omega), e2]; unfold lpi; rw [if_pos hl]; omega))
  | false => exact fin (0, 4) (Or.inr ⟨hl, rfl, rfl⟩) (wres_date (by unfold OnR; omega) y0 y1 (by unfold fday Rt; rw [if_neg (by omega), e2]; unfold lpi; rw [if_neg (by rw [hl]; decide)]; omega))
end Go.Proofs.Ytlefnaoflajnmaa.Pure
