/- Weekdays, forms of a day and weeks, in plain numbers: no program in sight. -/
import Derived.Test.YtfinhaghgmnegaaCiv
namespace Go.Proofs.Ytfinhaghgmnegaa.Civ
open Go.RowKit
instance (y m d : Int) : Decidable (Rt y m d) := by unfold Rt; infer_instance
def upw (n w : Int) : Int := (w - wd n) % 7
def dnw (n w : Int) : Int := (wd n - w) % 7
theorem upw_bd (n w : Int) : 0 ≤ upw n w ∧ upw n w ≤ 6 := by unfold upw; omega
theorem dnw_bd (n w : Int) : 0 ≤ dnw n w ∧ dnw n w ≤ 6 := by unfold dnw; omega
/-- A right form. -/
def OnR (kd w d : Int) : Prop := kd = 1 ∧ 1 ≤ d ∧ d ≤ 31 ∧ w = 0 ∨ kd = 2 ∧ 0 ≤ w ∧ w ≤ 6 ∧ d = 0 ∨ (kd = 3 ∨ kd = 4) ∧ 0 ≤ w ∧ w ≤ 6 ∧ 1 ≤ d ∧ d ≤ 31
instance (kd w d : Int) : Decidable (OnR kd w d) := by unfold OnR; infer_instance
/-- The day that a form starts from. -/
def fday (y m kd d : Int) : Int := if kd = 2 then ln y m else d
/-- A form's day. -/
def fres (y m kd w d : Int) : Int := if kd = 1 then num y m d else if kd = 3 then num y m d + upw (num y m d) w else num y m (fday y m kd d) - dnw (num y m (fday y m kd d)) w
/-- The num-th day of a weekday. -/
def nthA (f k w : Int) : Int := f + upw f w + 7 * (k - 1)
def nthB (t k w : Int) : Int := t - dnw t w - 7 * (-k - 1)
def nthP (f t k w : Int) : Prop := f ≤ t ∧ k ≠ 0 ∧ -1000 ≤ k ∧ k ≤ 1000 ∧ 0 ≤ w ∧ w ≤ 6 ∧ (0 < k ∧ nthA f k w ≤ t ∨ k < 0 ∧ f ≤ nthB t k w)
instance (f t k w : Int) : Decidable (nthP f t k w) := by unfold nthP; infer_instance
/-- The year of a number, and which day of it. -/
noncomputable def yr (n : Int) : Int := (dt n).1
noncomputable def yd (n : Int) : Int := n + 719528 - ah (yr n) + 1
end Go.Proofs.Ytfinhaghgmnegaa.Civ
