/- WeekForms in plain numbers: what the law computes is true at all arguments. No condition but that each is an int. -/
import Derived.Test.YtlefnaoflajnmaaGS03
import Derived.Test.YtlefnaoflajnmaaOx35
namespace Go.Proofs.Ytlefnaoflajnmaa.Pure
open Go.RowKit Go.Proofs.Ytlefnaoflajnmaa.O Go.Proofs.YtlefnaoflajnmaaW.PrintWords Go.Proofs.YtlefnaoflajnmaaW.PrintLast
open Go.Proofs.Ytlefnaoflajnmaa.Civ
theorem WeekForms : solsticelaw03_WeekForms.Pure := by
  intro a0 a1 a2 a3 _ _ _ _
  obtain ⟨y, y0, y1, ey⟩ := um1 a0 (n := 9999) (by omega) (by omega)
  obtain ⟨m, m0, m1, em⟩ := um1 a1 (n := 12) (by omega) (by omega)
  obtain ⟨w, w0, w1, ew⟩ := um a2 (n := 7) (by omega) (by omega)
  have hl := ln_bd y m m0 m1
  obtain ⟨d, d0, d1, ed⟩ := um1 a3 (n := ln y m) (by omega) (by omega)
  have hr : Rt y m d := ⟨by omega, by omega, m0, m1, d0, d1⟩
  have hrl : Rt y m (ln y m) := ⟨by omega, by omega, m0, m1, by omega, by omega⟩
  have b1 := num_bd hr
  have b2 := num_bd hrl
  have u1 := upw_bd (num y m d) w
  have u2 := dnw_bd (num y m d) w
  have u3 := dnw_bd (num y m (ln y m)) w
  refine Ev.rounds ?_
  unfold solsticelaw03_WeekForms.f
  simp only [ey, em, ew]
  refine evb (clen y m) ?_
  simp only [if_neg (show ¬ ln y m < 28 by omega), u64s (show 0 ≤ ln y m by omega) (by omega), if_neg (show ¬ ln y m = 0 by omega), ed]
  refine evb (cnum hr) (evb (cnum hrl) ?_)
  refine evb (wres_ok (by unfold OnR; omega) y0 y1 (by unfold fday; simpa using hr)) ?_
  refine evb (wres_ok (by unfold OnR; omega) y0 y1 (by unfold fday; simpa using hr)) ?_
  refine evb (wres_ok (by unfold OnR; omega) y0 y1 (by unfold fday; simpa using hrl)) ?_
  refine evb (wres_ok (by unfold OnR; omega) y0 y1 (by unfold fday; simpa using hr)) ?_
  simp only [if_true, bne_self_eq_false]
  have e3 : fres y m 3 w d = num y m d + upw (num y m d) w := by simp [fres]
  have e4 : fres y m 4 w d = num y m d - dnw (num y m d) w := by simp [fres, fday]
  have e2 : fres y m 2 w 0 = num y m (ln y m) - dnw (num y m (ln y m)) w := by simp [fres, fday]
  have e1 : fres y m 1 0 d = num y m d := by simp [fres]
  simp only [e1, e2, e3, e4]
  refine evstep ?_
  simp only [solsticelaw03_WeekForms.j0, Bool.false_eq_true, if_false, if_true]
  rw [w64 (x := num y m d + 7) (by omega) (by omega), w64 (x := num y m d - 7) (by omega) (by omega), w64 (x := num y m (ln y m) - 7) (by omega) (by omega)]
  simp only [if_pos (show num y m d + upw (num y m d) w ≥ num y m d by omega), if_pos (show num y m d + upw (num y m d) w < num y m d + 7 by omega), if_pos (show num y m d - dnw (num y m d) w ≤ num y m d by omega), if_pos (show num y m d - dnw (num y m d) w > num y m d - 7 by omega),
    if_pos (show num y m (ln y m) - dnw (num y m (ln y m)) w ≤ num y m (ln y m) by omega), if_pos (show num y m (ln y m) - dnw (num y m (ln y m)) w > num y m (ln y m) - 7 by omega), cwd, Option.bind_some]
  simp only [if_pos (show wd (num y m d + upw (num y m d) w) = w by unfold upw wd; omega), if_pos (show wd (num y m d - dnw (num y m d) w) = w by unfold dnw wd; omega), if_pos (show wd (num y m (ln y m) - dnw (num y m (ln y m)) w) = w by unfold dnw wd; omega)]
  refine evif (fun _ => evb wakes_ev (Ev.now _)) (fun hd => ?_)
  obtain rfl : d = ln y m := by omega
  simp only [if_true]
  exact evb wakes_ev (Ev.now _)
end Go.Proofs.Ytlefnaoflajnmaa.Pure
