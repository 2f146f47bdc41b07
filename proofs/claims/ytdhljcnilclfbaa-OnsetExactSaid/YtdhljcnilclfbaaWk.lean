/- Weekdays, forms of a day and weeks, in plain numbers: no program in sight. -/
import Derived.Test.YtdhljcnilclfbaaCiv
namespace Go.Proofs.Ytdhljcnilclfbaa.Civ
open Go.RowKit
instance (y m d : Int) : Decidable (Rt y m d) := by unfold Rt; infer_instance
def upw (n w : Int) : Int := (w - wd n) % 7
def dnw (n w : Int) : Int := (wd n - w) % 7
theorem upw_bd (n w : Int) : 0 ≤ upw n w ∧ upw n w ≤ 6 := by unfold upw; omega
theorem dnw_bd (n w : Int) : 0 ≤ dnw n w ∧ dnw n w ≤ 6 := by unfold dnw; omega
/-- A right form. -/
def OnR (kd w d : Int) : Prop := kd = 1 ∧ 1 ≤ d ∧ d ≤ 31 ∧ w = 0 ∨ kd = 2 ∧ 0 ≤ w ∧ w ≤ 6 ∧ d = 0 ∨ (kd = 3 ∨ kd = 4) ∧ 0 ≤ w ∧ w ≤ 6 ∧ 1 ≤ d ∧ d ≤ 31
instance (kd w d : Int) : Decidable (OnR kd w d) := by unfold OnR; infer_instance
/-- The day that a form starts from. -/
def fday (y m kd d : Int) : Int := if kd = 2 then ln y m else d
/-- A form's day. -/
def fres (y m kd w d : Int) : Int := if kd = 1 then num y m d else if kd = 3 then num y m d + upw (num y m d) w else num y m (fday y m kd d) - dnw (num y m (fday y m kd d)) w
/-- The num-th day of a weekday. -/
def nthA (f k w : Int) : Int := f + upw f w + 7 * (k - 1)
def nthB (t k w : Int) : Int := t - dnw t w - 7 * (-k - 1)
def nthP (f t k w : Int) : Prop := f ≤ t ∧ k ≠ 0 ∧ -1000 ≤ k ∧ k ≤ 1000 ∧ 0 ≤ w ∧ w ≤ 6 ∧ (0 < k ∧ nthA f k w ≤ t ∨ k < 0 ∧ f ≤ nthB t k w)
instance (f t k w : Int) : Decidable (nthP f t k w) := by unfold nthP; infer_instance
def nthV (f t k w : Int) : Int × Bool := if nthP f t k w then (if 0 < k then nthA f k w else nthB t k w, true) else (0, false)
/-- The year of a number, and which day of it. -/
noncomputable def yr (n : Int) : Int := (dt n).1
noncomputable def yd (n : Int) : Int := n + 719528 - ah (yr n) + 1
theorem yr_bd {n : Int} (h : -719528 ≤ n) (h' : n ≤ 2933262) : 0 ≤ yr n ∧ yr n ≤ 10000 ∧ ah (yr n) ≤ n + 719528 ∧ n + 719528 < ah (yr n + 1) := by
  have s := dt_spec h h'
  have b := num_in s.1
  rw [s.2] at b
  exact ⟨s.1.1, s.1.2.1, by unfold yr; omega, by unfold yr; omega⟩
theorem ah_mono {a b : Int} (h : ah a < ah b) : a < b := by
  by_cases hc : b ≤ a
  · have := ah_le hc; omega
  · omega
theorem yr_eq {n y : Int} (h : -719528 ≤ n) (h' : n ≤ 2933262) (a : ah y ≤ n + 719528) (b : n + 719528 < ah (y + 1)) : yr n = y := by
  have s := yr_bd h h'
  have h1 := ah_mono (a := y) (b := yr n + 1) (by omega)
  have h2 := ah_mono (a := yr n) (b := y + 1) (by omega)
  omega
theorem yd_num {y m d : Int} (h : Rt y m d) : yd (num y m d) = cum y m + d := by
  have e : yr (num y m d) = y := by unfold yr; rw [dt_num h]
  unfold yd
  rw [e]
  unfold num
  omega
theorem yr_num {y m d : Int} (h : Rt y m d) : yr (num y m d) = y := by unfold yr; rw [dt_num h]
theorem cum_dt {n : Int} (h : -719528 ≤ n) (h' : n ≤ 2933262) : cum (dt n).1 (dt n).2.1 + (dt n).2.2 = yd n := by
  have s := dt_spec h h'
  have := yd_num s.1
  rw [s.2] at this
  exact this.symm
/-- The day on which a year's first week begins. -/
def fw (y k : Int) : Int := num y 1 4 - dnw (num y 1 4) k
/-- The day of a day's week that tells its year. -/
def mid (n k : Int) : Int := n - dnw n k + 3
theorem num_1 (y d : Int) : num y 1 d = ah y - 719528 + d - 1 := by unfold num; rw [cum_1]; omega
theorem mid_year (n k y : Int) : (ah y ≤ mid n k + 719528 ↔ fw y k ≤ n) := by
  unfold mid fw dnw wd
  rw [num_1]
  omega
theorem mid_yr {n k y : Int} (h : -719528 ≤ mid n k) (h' : mid n k ≤ 2933262) (a : fw y k ≤ n) (b : n < fw (y + 1) k) : yr (mid n k) = y := by
  have h1 := (mid_year n k y).2 a
  have h2 := mt (mid_year n k (y + 1)).1 (by omega)
  exact yr_eq h h' h1 (by omega)
theorem mid_fw {n k : Int} (h : -719528 ≤ mid n k) (h' : mid n k ≤ 2933262) : fw (yr (mid n k)) k ≤ n ∧ n < fw (yr (mid n k) + 1) k := by
  have s := yr_bd h h'
  have h1 := mid_year n k (yr (mid n k))
  have h2 := mid_year n k (yr (mid n k) + 1)
  omega
theorem mid_no (n k : Int) (h : -719528 ≤ mid n k) (h' : mid n k ≤ 2933262) : (yd (mid n k) - 1) / 7 + 1 = (n - fw (yr (mid n k)) k) / 7 + 1 := by
  have s := mid_fw h h'
  unfold yd
  have e : fw (yr (mid n k)) k = ah (yr (mid n k)) - 719528 + 3 - dnw (ah (yr (mid n k)) - 719528 + 3) k := by unfold fw; rw [num_1]; rw [show ah (yr (mid n k)) - 719528 + 4 - 1 = ah (yr (mid n k)) - 719528 + 3 by omega]
  rw [e] at s ⊢
  generalize ah (yr (mid n k)) = a at *
  unfold mid dnw wd at *
  omega
theorem fw_7 (y z k : Int) : (fw z k - fw y k) % 7 = 0 := by
  unfold fw dnw wd
  omega
theorem fw_wd {y k : Int} (h : 0 ≤ k) (h' : k ≤ 6) : wd (fw y k) = k := by
  unfold fw dnw wd
  omega
theorem fw_bd (y k : Int) : ah y - 719528 - 3 ≤ fw y k ∧ fw y k ≤ ah y - 719528 + 3 := by
  unfold fw
  rw [num_1]
  have := dnw_bd (ah y - 719528 + 4 - 1) k
  omega
end Go.Proofs.Ytdhljcnilclfbaa.Civ
