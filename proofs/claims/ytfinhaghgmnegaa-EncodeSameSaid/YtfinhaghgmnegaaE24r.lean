/- What the functions compute that give the days of a form. No condition beyond those each lemma names. -/
import Derived.Test.YtfinhaghgmnegaaE24p
import Derived.Test.YtfinhaghgmnegaaOx29
import Derived.Test.YtfinhaghgmnegaaMOx35
import Derived.Test.YtfinhaghgmnegaaOx36
import Derived.Test.YtfinhaghgmnegaaOx37
import Derived.Test.YtfinhaghgmnegaaOx38
namespace Go.Proofs.Ytfinhaghgmnegaa.Pure
open Go.RowKit Go.Proofs.Ytfinhaghgmnegaa.O Go.Proofs.YtfinhaghgmnegaaW.PrintWords Go.Proofs.YtfinhaghgmnegaaW.PrintLast
open Go.Proofs.Ytfinhaghgmnegaa.Civ
set_option linter.unusedVariables false
set_option linter.unusedSimpArgs false
theorem rnum_l (y m d b : Int) (hy : 0 ≤ y) (hy' : y ≤ 20000) (hb : -1000000000 ≤ b) (hb' : b ≤ 1000000000) (hm : m ≤ 13) (hd : 0 ≤ d) (hd' : d ≤ 1000000) : ∀ (n : Nat) (j : Int), 1 ≤ j → j + n = m → Ev (fun k => solsticeref01_Number.l0 k y (b + cum y j) j y m d) (b + cum y m + d - 1 - 719528) := by
  intro n
  induction n with
  | zero =>
    intro j h1 h2
    obtain rfl : j = m := by omega
    have hc := cum_bd y j h1 (by omega)
    have hp := lpi_01 y
    refine evstep ?_
    simp only [solsticeref01_Number.l0, Int.lt_irrefl, if_false]
    refine evs ?_
    rw [w64 (x := b + cum y j + d) (by omega) (by omega), w64 (x := b + cum y j + d - 1) (by omega) (by omega), w64 (by omega) (by omega)]
  | succ n ih =>
    intro j h1 h2
    refine evstep ?_
    simp only [solsticeref01_Number.l0, if_pos (show j < m by omega)]
    refine evb (rlen j (by omega) (by omega)) ?_
    have hc := cum_bd y j h1 (by omega)
    have hl := ln_bd y j h1 (by omega)
    have hp := lpi_01 y
    rw [w64 (x := b + cum y j + ln y j) (by omega) (by omega), w64 (x := j + 1) (by omega) (by omega), show b + cum y j + ln y j = b + cum y (j + 1) by rw [cum_succ y j h1 (by omega)]; omega]
    exact ih (j + 1) (by omega) (by omega)
theorem rnum' {y m d : Int} (hy : 0 ≤ y) (hy' : y ≤ 20000) (hm : 1 ≤ m) (hm' : m ≤ 13) (hd : 0 ≤ d) (hd' : d ≤ 1000000) : Ev (fun k => solsticeref01_Number.f k y m d) (num y m d) := by
  have ha : 365 * y + (y + 3) / 4 - (y + 99) / 100 + (y + 399) / 400 = ah y := by unfold ah; omega
  unfold solsticeref01_Number.f
  rw [w64 (x := y + 3) (by omega) (by omega), w64 (x := y + 99) (by omega) (by omega), w64 (x := y + 399) (by omega) (by omega), tdiv_nn 4 (by omega), tdiv_nn 100 (by omega), tdiv_nn 400 (by omega)]
  rw [w64 (x := 365 * y) (by omega) (by omega), w64 (x := (y + 3) / 4) (by omega) (by omega), w64 (x := (y + 99) / 100) (by omega) (by omega), w64 (x := (y + 399) / 400) (by omega) (by omega)]
  rw [w64 (x := 365 * y + (y + 3) / 4) (by omega) (by omega), w64 (x := 365 * y + (y + 3) / 4 - (y + 99) / 100) (by omega) (by omega), w64 (x := 365 * y + (y + 3) / 4 - (y + 99) / 100 + (y + 399) / 400) (by omega) (by omega), ha]
  have h1 := ah_le hy
  rw [ah_0] at h1
  have := rnum_l y m d (ah y) hy hy' (by omega) (by omega) hm' hd hd' (m - 1).toNat 1 (by omega) (by omega)
  rw [cum_1, Int.add_zero] at this
  rwa [show num y m d = ah y + cum y m + d - 1 - 719528 by unfold num; omega]
theorem rdate_l1 (y m d : Int) (h : Rt y m d) : ∀ (n : Nat) (j : Int), 1 ≤ j → j + n = m → Ev (fun k => solsticeref01_Date.l1 k y (cum y m + d - 1 - cum y j) y j 1) (y, m, d) := by
  obtain ⟨h1, h2, h3, h4, h5, h6⟩ := h
  have hl := ln_bd y m h3 h4
  have hp := lpi_01 y
  have hm := cum_bd y m h3 (by omega)
  intro n
  induction n with
  | zero =>
    intro j g1 g2
    obtain rfl : j = m := by omega
    refine evstep ?_
    simp only [solsticeref01_Date.l1]
    refine evif (fun hc => ?_) (fun hc => ?_)
    · refine evb (rlen j (by omega) (by omega)) ?_
      simp only [if_neg (show ¬ cum y j + d - 1 - cum y j ≥ ln y j by omega)]
      refine evstep ?_
      simp only [solsticeref01_Date.l1, if_neg (show ¬ (0 : Int) > 0 by omega)]
      refine evs ?_
      rw [w64 (by omega) (by omega), show cum y j + d - 1 - cum y j + 1 = d by omega]
    · refine evs ?_
      rw [show d = 1 by omega]
  | succ n ih =>
    intro j g1 g2
    have hn := cum_next y g1 (show j < m by omega) (by omega)
    have hj := cum_bd y j g1 (by omega)
    have hs := cum_succ y j g1 (by omega)
    have hlj := ln_bd y j g1 (by omega)
    refine evstep ?_
    simp only [solsticeref01_Date.l1, if_pos (show cum y m + d - 1 - cum y j > 0 by omega)]
    refine evb (rlen j (by omega) (by omega)) ?_
    simp only [if_pos (show cum y m + d - 1 - cum y j ≥ ln y j by omega)]
    rw [w64 (by omega) (by omega), w64 (by omega) (by omega), show cum y m + d - 1 - cum y j - ln y j = cum y m + d - 1 - cum y (j + 1) by omega]
    exact ih (j + 1) (by omega) (by omega)
theorem rdate_l0 (y m d : Int) (h : Rt y m d) : ∀ (n : Nat) (j : Int), 0 ≤ j → j + n = y → Ev (fun k => solsticeref01_Date.l0 k (num y m d) j) (y, m, d) := by
  have hbn := num_bd h
  have hn := num_in h
  obtain ⟨h1, h2, h3, h4, h5, h6⟩ := id h
  have hb := ah_bd h1 (by omega)
  have hl := ln_bd y m h3 h4
  have hp := lpi_01 y
  have hm := cum_bd y m h3 (by omega)
  have e1 : ∀ z : Int, num z 1 1 = ah z - 719528 := by intro z; have := cum_1 z; unfold num; omega
  have last : Ev (fun k => solsticeref01_Date.j1 k (num y m d) y) (y, m, d) := by
    refine evstep ?_
    simp only [solsticeref01_Date.j1]
    refine evb (rnum' (y := y) (m := 1) (d := 1) h1 (by omega) (by omega) (by omega) (by omega) (by omega)) ?_
    rw [e1, w64 (by omega) (by omega)]
    have := rdate_l1 y m d h (m - 1).toNat 1 (by omega) (by omega)
    rwa [cum_1, show cum y m + d - 1 - 0 = num y m d - (ah y - 719528) by unfold num; omega] at this
  intro n
  induction n with
  | zero =>
    intro j g1 g2
    obtain rfl : j = y := by omega
    refine evstep ?_
    simp only [solsticeref01_Date.l0]
    refine evif (fun hc => ?_) (fun hc => last)
    rw [w64 (x := j + 1) (by omega) (by omega)]
    refine evb (rnum' (y := j + 1) (m := 1) (d := 1) (by omega) (by omega) (by omega) (by omega) (by omega) (by omega)) ?_
    simp only [e1, if_neg (show ¬ ah (j + 1) - 719528 ≤ num j m d by omega)]
    exact last
  | succ n ih =>
    intro j g1 g2
    have hle := ah_le (a := j + 1) (b := y) (by omega)
    refine evstep ?_
    simp only [solsticeref01_Date.l0, if_pos (show j < 10000 by omega)]
    rw [w64 (x := j + 1) (by omega) (by omega)]
    refine evb (rnum' (y := j + 1) (m := 1) (d := 1) (by omega) (by omega) (by omega) (by omega) (by omega) (by omega)) ?_
    simp only [e1, if_pos (show ah (j + 1) - 719528 ≤ num y m d by omega)]
    exact ih (j + 1) (by omega) (by omega)
theorem rdate {y m d : Int} (h : Rt y m d) : Ev (fun k => solsticeref01_Date.f k (num y m d)) (y, m, d) := by
  have hb := num_bd h
  have hn := num_in h
  have hu := ah_le (a := 0) (b := y + 1) (by have := h.1; omega)
  rw [ah_0] at hu
  unfold solsticeref01_Date.f
  rw [w64 (x := num y m d + 719528) (by omega) (by omega), tdiv_nn 366 (by omega), w64 (by omega) (by omega)]
  exact rdate_l0 y m d h (y - (num y m d + 719528) / 366).toNat _ (by omega) (by omega)
theorem rdate_dt {n : Int} (h : -719528 ≤ n) (h' : n ≤ 2933262) : Ev (fun k => solsticeref01_Date.f k n) (dt n) := by
  have s := dt_spec h h'
  have := rdate s.1
  rwa [s.2] at this
theorem wup {n w : Int} (h : 0 ≤ w) (h' : w ≤ 6) : week_upon.f n w = some (upw n w) := by
  unfold week_upon.f
  have := wd_bd n
  rw [cwd]
  simp only [Option.bind_some]
  rw [w64 (x := w - wd n) (by omega) (by omega), w64 (by omega) (by omega), tmod_nn 7 (by omega)]
  congr 1
  unfold upw
  omega
theorem wahead {n w : Int} (h : 0 ≤ w) (h' : w ≤ 6) : week_ahead.f n w = some (dnw n w) := by
  unfold week_ahead.f
  have := wd_bd n
  rw [cwd]
  simp only [Option.bind_some]
  rw [w64 (x := wd n - w) (by omega) (by omega), w64 (by omega) (by omega), tmod_nn 7 (by omega)]
  congr 1
  unfold dnw
  omega
/-- What Resolve tells. -/
def resV (y m kd w d : Int) : Int × Int := if OnR kd w d then (if y < 1 ∨ 9999 < y then (0, 23) else if Rt y m (fday y m kd d) then (fres y m kd w d, 0) else (0, 4)) else (0, 8)
theorem wres (y m kd w d : Int) : Ev (fun k => week_Resolve.f k y m kd w d) (resV y m kd w d) := by
  unfold week_Resolve.f resV
  refine evb (wcheck kd w d) ?_
  by_cases ho : OnR kd w d
  · simp only [if_pos ho, if_true]
    have j1 : ¬ (y < 1 ∨ 9999 < y) → ∀ x, x = fday y m kd d → Ev (fun k => week_Resolve.j1 k y m x kd w d) (if Rt y m (fday y m kd d) then (fres y m kd w d, 0) else (0, 4)) := by
      intro hy x hx
      subst hx
      refine evstep ?_
      simp only [week_Resolve.j1]
      by_cases hr : Rt y m (fday y m kd d)
      · refine evb (cnum hr) ?_
        have hb := num_bd hr
        have hu := upw_bd (num y m (fday y m kd d)) w
        have hd := dnw_bd (num y m (fday y m kd d)) w
        simp only [if_true, if_pos hr]
        refine evif (fun h3 => ?_) (fun h3 => evif (fun h2 => ?_) (fun h2 => evif (fun h4 => ?_) (fun h4 => evs ?_)))
        · rw [wup (by unfold OnR at ho; omega) (by unfold OnR at ho; omega)]
          refine evs ?_
          rw [w64 (by omega) (by omega)]
          subst h3; simp [fres, fday]
        · rw [wahead (by unfold OnR at ho; omega) (by unfold OnR at ho; omega)]
          refine evs ?_
          rw [w64 (by omega) (by omega)]
          subst h2; simp [fres]
        · rw [wahead (by unfold OnR at ho; omega) (by unfold OnR at ho; omega)]
          refine evs ?_
          rw [w64 (by omega) (by omega)]
          subst h4; simp [fres]
        · obtain rfl : kd = 1 := by unfold OnR at ho; omega
          simp [fres, fday]
      · refine evb (cnum_no hr) ?_
        simp only [if_neg (show ¬ (4 : Int) = 0 by omega), if_neg hr]
        exact Ev.now _
    have j0 : ∀ b : Bool, (b = true ↔ y < 1 ∨ 9999 < y) → Ev (fun k => week_Resolve.j0 k y m b kd w d) (if y < 1 ∨ 9999 < y then (0, 23) else if Rt y m (fday y m kd d) then (fres y m kd w d, 0) else (0, 4)) := by
      intro b hb
      refine evstep ?_
      simp only [week_Resolve.j0]
      refine evif (fun h => evs (by rw [if_pos (hb.1 h)])) (fun h => ?_)
      have hy := mt hb.2 h
      simp only [if_neg hy]
      refine evif (fun h2 => evb (clen y m) (j1 hy _ ?_)) (fun h2 => j1 hy _ ?_)
      · unfold fday; rw [if_pos h2]
      · unfold fday; rw [if_neg h2]
    refine evif (fun h => j0 _ ?_) (fun h => j0 _ ?_)
    · simp; omega
    · simp; omega
  · simp only [if_neg ho, if_neg (show ¬ (8 : Int) = 0 by omega)]
    exact Ev.now _
theorem some07 (a b c : Int) : ∃ kd w d, OnR kd w d ∧ solsticelaw07_Some.f a b c = some (kd, w, d) := by
  obtain ⟨kd, k0, k1, ek⟩ := um1 a (n := 4) (by omega) (by omega)
  obtain ⟨w, w0, w1, ew⟩ := um b (n := 7) (by omega) (by omega)
  obtain ⟨d, d0, d1, ed⟩ := um1 c (n := 31) (by omega) (by omega)
  unfold solsticelaw07_Some.f
  rw [ek, ew, ed]
  by_cases h1 : kd = 1
  · exact ⟨kd, 0, d, by unfold OnR; omega, by rw [if_pos h1, if_neg (by omega)]⟩
  · by_cases h2 : kd = 2
    · exact ⟨kd, w, 0, by unfold OnR; omega, by rw [if_neg h1, if_pos h2]⟩
    · exact ⟨kd, w, d, by unfold OnR; omega, by rw [if_neg h1, if_neg h2]⟩
end Go.Proofs.Ytfinhaghgmnegaa.Pure
