/- WeekSame in plain numbers: what the law computes is true at all arguments. No condition but that each is an int. -/
import Derived.Test.YtlefnaoflajnmaaGS03
import Derived.Test.YtlefnaoflajnmaaOx38
namespace Go.Proofs.Ytlefnaoflajnmaa.Pure
open Go.RowKit Go.Proofs.Ytlefnaoflajnmaa.O Go.Proofs.YtlefnaoflajnmaaW.PrintWords Go.Proofs.YtlefnaoflajnmaaW.PrintLast
open Go.Proofs.Ytlefnaoflajnmaa.Civ
theorem WeekSame : solsticelaw03_WeekSame.Pure := by
  intro a0 a1 a2 _ _ _
  obtain ⟨y, y0, y1, ey⟩ := um1 a0 (n := 9999) (by omega) (by omega)
  obtain ⟨m, m0, m1, em⟩ := um1 a1 (n := 12) (by omega) (by omega)
  obtain ⟨w, w0, w1, ew⟩ := um a2 (n := 7) (by omega) (by omega)
  have hl := ln_bd y m m0 m1
  have r : ∀ d, 1 ≤ d → d ≤ ln y m → Rt y m d := fun d h h' => ⟨by omega, by omega, m0, m1, h, h'⟩
  have b1 := num_bd (r 1 (by omega) (by omega))
  have n8 : num y m 8 = num y m 1 + 7 := by unfold num; omega
  have n14 : num y m 14 = num y m 1 + 13 := by unfold num; omega
  have nl : num y m (ln y m) = num y m 1 + ln y m - 1 := by unfold num; omega
  refine Ev.rounds ?_
  unfold solsticelaw03_WeekSame.f
  simp only [ey, em, ew]
  refine evb (wres_ok (by unfold OnR; omega) y0 y1 (by unfold fday; simpa using r 1 (by omega) (by omega))) ?_
  refine evb (wres_ok (by unfold OnR; omega) y0 y1 (by unfold fday; simpa using r 8 (by omega) (by omega))) ?_
  refine evb (wres_ok (by unfold OnR; omega) y0 y1 (by unfold fday; simpa using r 14 (by omega) (by omega))) ?_
  refine evb (wres_ok (by unfold OnR; omega) y0 y1 (by unfold fday; simpa using r (ln y m) (by omega) (by omega))) ?_
  refine evb (cnum (r 1 (by omega) (by omega))) (evb (clen y m) ?_)
  have e3 : fres y m 3 w 1 = num y m 1 + upw (num y m 1) w := by simp [fres]
  have e8 : fres y m 3 w 8 = num y m 1 + 7 + upw (num y m 1 + 7) w := by simp [fres, n8]
  have e4 : fres y m 4 w 14 = num y m 1 + 13 - dnw (num y m 1 + 13) w := by simp [fres, fday, n14]
  have e2 : fres y m 2 w 0 = num y m 1 + ln y m - 1 - dnw (num y m 1 + ln y m - 1) w := by simp [fres, fday, nl]
  simp only [e3, e8, e4, e2]
  generalize num y m 1 = n at *
  generalize ln y m = l at *
  rw [w64 (x := n + l) (by omega) (by omega), w64 (x := n + l - 1) (by omega) (by omega)]
  refine evb (wnth (by omega) (by omega) (by omega) (by omega)) (evb (wnth (by omega) (by omega) (by omega) (by omega)) ?_)
  have u := upw_bd n w
  have v := dnw_bd (n + l - 1) w
  have p1 : nthV n (n + l - 1) 1 w = (n + upw n w, true) := by
    have : nthP n (n + l - 1) 1 w := by unfold nthP nthA; omega
    unfold nthV; rw [if_pos this, if_pos (by omega)]; simp [nthA]
  have p2 : nthV n (n + l - 1) (-1) w = (n + l - 1 - dnw (n + l - 1) w, true) := by
    have : nthP n (n + l - 1) (-1) w := by unfold nthP nthB; omega
    unfold nthV; rw [if_pos this, if_neg (by omega)]; simp [nthB]
  rw [p1, p2]
  simp only [if_true]
  rw [w64 (x := n + upw n w + 7) (by omega) (by omega), w64 (x := n + upw n w + 21) (by omega) (by omega), w64 (x := n + upw n w + 28) (by omega) (by omega)]
  simp only [if_pos (show n + 7 + upw (n + 7) w = n + upw n w + 7 by unfold upw wd; omega), if_pos (show n + 13 - dnw (n + 13) w = n + 7 + upw (n + 7) w by unfold upw dnw wd; omega)]
  refine evif (fun _ => evb wakes_ev (Ev.now _)) (fun hc => ?_)
  simp only [if_pos (show n + l - 1 - dnw (n + l - 1) w = n + upw n w + 28 by unfold upw dnw wd at *; omega)]
  exact evb wakes_ev (Ev.now _)
end Go.Proofs.Ytlefnaoflajnmaa.Pure
