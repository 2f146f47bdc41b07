/- Dates and their numbers, in plain numbers: no program in sight. -/
import Derived.RowKit
namespace Go.Proofs.Ytfinhaghgmnegaa.Civ
open Go.RowKit

theorem w64 {x : Int} (h : -9223372036854775808 ≤ x) (h' : x < 9223372036854775808) : wrap64 x = x := by unfold wrap64; omega
theorem tmod_if (a b : Int) : Int.tmod a b = if 0 ≤ a then a % b else -((-a) % b) := by
  split
  · rename_i h; exact Int.tmod_eq_emod_of_nonneg h
  · rename_i h
    have : Int.tmod (-(-a)) b = -((-a) % b) := by rw [Int.neg_tmod, Int.tmod_eq_emod_of_nonneg (by omega)]
    rwa [Int.neg_neg] at this
theorem tdiv_if (a b : Int) : Int.tdiv a b = if 0 ≤ a then a / b else -((-a) / b) := by
  split
  · rename_i h; exact Int.tdiv_eq_ediv_of_nonneg h
  · rename_i h
    have : Int.tdiv (-(-a)) b = -((-a) / b) := by rw [Int.neg_tdiv, Int.tdiv_eq_ediv_of_nonneg (by omega)]
    rwa [Int.neg_neg] at this
theorem tmod_nn {a : Int} (b : Int) (h : 0 ≤ a) : Int.tmod a b = a % b := Int.tmod_eq_emod_of_nonneg h
theorem tdiv_nn {a : Int} (b : Int) (h : 0 ≤ a) : Int.tdiv a b = a / b := Int.tdiv_eq_ediv_of_nonneg h

def lp (y : Int) : Bool := decide (y % 4 = 0 ∧ (y % 100 ≠ 0 ∨ y % 400 = 0))
def lpi (y : Int) : Int := if lp y = true then 1 else 0
def ln (y m : Int) : Int := if m < 1 ∨ 12 < m then 0 else if m = 2 then 28 + lpi y else if m = 4 ∨ m = 6 ∨ m = 9 ∨ m = 11 then 30 else 31
def ah (y : Int) : Int := y * 365 + (y - 1) / 4 - (y - 1) / 100 + (y - 1) / 400 + 1
def cum (y m : Int) : Int :=
  if m ≤ 1 then 0 else if m = 2 then 31 else (if m = 3 then 59 else if m = 4 then 90 else if m = 5 then 120 else if m = 6 then 151 else if m = 7 then 181 else if m = 8 then 212 else if m = 9 then 243 else if m = 10 then 273 else if m = 11 then 304 else if m = 12 then 334 else 365) + lpi y
def num (y m d : Int) : Int := ah y - 719528 + cum y m + d - 1
def wd (n : Int) : Int := (n + 4) % 7
/-- A right date. -/
def Rt (y m d : Int) : Prop := 0 ≤ y ∧ y ≤ 10000 ∧ 1 ≤ m ∧ m ≤ 12 ∧ 1 ≤ d ∧ d ≤ ln y m

theorem lp_iff (y : Int) : lp y = true ↔ (y % 4 = 0 ∧ (y % 100 ≠ 0 ∨ y % 400 = 0)) := by simp [lp]
theorem lpi_01 (y : Int) : 0 ≤ lpi y ∧ lpi y ≤ 1 := by unfold lpi; split <;> omega
theorem lpi_iff (y : Int) : (lpi y = 1 ∧ y % 4 = 0 ∧ (y % 100 ≠ 0 ∨ y % 400 = 0)) ∨ (lpi y = 0 ∧ ¬(y % 4 = 0 ∧ (y % 100 ≠ 0 ∨ y % 400 = 0))) := by
  unfold lpi
  by_cases h : lp y = true
  · rw [if_pos h]; exact Or.inl ⟨rfl, (lp_iff y).1 h⟩
  · rw [if_neg h]; exact Or.inr ⟨rfl, fun k => h ((lp_iff y).2 k)⟩
theorem ah_succ (y : Int) : ah (y + 1) = ah y + 365 + lpi y := by
  have := lpi_iff y
  unfold ah
  omega
theorem ah_0 : ah 0 = 0 := by decide
theorem ah_10001 : ah 10001 = 3652791 := by decide
theorem ah_step (y : Int) (n : Nat) : ah y + 365 * n ≤ ah (y + n) ∧ ah (y + n) ≤ ah y + 366 * n := by
  induction n with
  | zero => simp
  | succ n ih =>
    have h := ah_succ (y + n)
    have := lpi_01 (y + n)
    rw [show y + ((n + 1 : Nat) : Int) = y + n + 1 by omega, h]
    omega
theorem ah_le {a b : Int} (h : a ≤ b) : ah a + 365 * (b - a) ≤ ah b ∧ ah b ≤ ah a + 366 * (b - a) := by
  have := ah_step a (b - a).toNat
  rw [show a + ((b - a).toNat : Int) = b by omega] at this
  omega
theorem ah_bd {y : Int} (h : 0 ≤ y) (h' : y ≤ 10001) : 0 ≤ ah y ∧ ah y ≤ 3652791 := by
  have h1 := ah_le h
  have h2 := ah_le h'
  rw [ah_0] at h1
  rw [ah_10001] at h2
  omega
theorem ln_bd (y m : Int) (h : 1 ≤ m) (h' : m ≤ 12) : 28 ≤ ln y m ∧ ln y m ≤ 31 := by
  have := lpi_01 y
  unfold ln
  repeat' split
  all_goals omega
theorem ln_0 (y m : Int) (h : m < 1 ∨ 12 < m) : ln y m = 0 := by unfold ln; rw [if_pos h]
theorem mcases {m : Int} (h : 1 ≤ m) (h' : m ≤ 12) : m = 1 ∨ m = 2 ∨ m = 3 ∨ m = 4 ∨ m = 5 ∨ m = 6 ∨ m = 7 ∨ m = 8 ∨ m = 9 ∨ m = 10 ∨ m = 11 ∨ m = 12 := by omega
theorem cum_succ (y m : Int) (h : 1 ≤ m) (h' : m ≤ 12) : cum y (m + 1) = cum y m + ln y m := by
  rcases mcases h h' with rfl | rfl | rfl | rfl | rfl | rfl | rfl | rfl | rfl | rfl | rfl | rfl <;> simp [cum, ln] <;> omega
theorem cum_1 (y : Int) : cum y 1 = 0 := by simp [cum]
theorem cum_13 (y : Int) : cum y 13 = 365 + lpi y := by simp [cum]
theorem cum_step (y m : Int) (n : Nat) (h : 1 ≤ m) (h' : m + n ≤ 13) : cum y m + 28 * n ≤ cum y (m + n) ∧ cum y (m + n) ≤ cum y m + 31 * n := by
  induction n with
  | zero => simp
  | succ n ih =>
    have hb := ln_bd y (m + n) (by omega) (by omega)
    have hs := cum_succ y (m + n) (by omega) (by omega)
    have := ih (by omega)
    rw [show m + ((n + 1 : Nat) : Int) = m + n + 1 by omega, hs]
    omega
theorem cum_le (y : Int) {a b : Int} (h : 1 ≤ a) (h' : a ≤ b) (hb : b ≤ 13) : cum y a + 28 * (b - a) ≤ cum y b ∧ cum y b ≤ cum y a + 31 * (b - a) := by
  have := cum_step y a (b - a).toNat h (by omega)
  rw [show a + ((b - a).toNat : Int) = b by omega] at this
  omega
theorem cum_bd (y m : Int) (h : 1 ≤ m) (h' : m ≤ 13) : 0 ≤ cum y m ∧ cum y m ≤ 365 + lpi y := by
  have h1 := cum_le y (Int.le_refl 1) h h'
  have h2 := cum_le y h h' (Int.le_refl 13)
  rw [cum_1] at h1
  rw [cum_13] at h2
  omega
theorem cum_next (y : Int) {a b : Int} (h : 1 ≤ a) (h' : a < b) (hb : b ≤ 13) : cum y a + ln y a ≤ cum y b := by
  have h1 := cum_le y (a := a + 1) (b := b) (by omega) (by omega) hb
  rw [cum_succ y a h (by omega)] at h1
  omega
/-- A right date lies in its year. -/
theorem num_in {y m d : Int} (h : Rt y m d) : ah y - 719528 ≤ num y m d ∧ num y m d < ah (y + 1) - 719528 := by
  obtain ⟨h1, h2, h3, h4, h5, h6⟩ := h
  have a := cum_bd y m h3 (by omega)
  have b := cum_le y (a := m + 1) (b := 13) (by omega) (by omega) (by omega)
  rw [cum_succ y m h3 h4, cum_13] at b
  rw [ah_succ]
  unfold num
  omega
theorem num_bd {y m d : Int} (h : Rt y m d) : -719528 ≤ num y m d ∧ num y m d ≤ 2933262 := by
  have a := num_in h
  have b := ah_bd h.1 (by have := h.2.1; omega)
  have c := ah_bd (y := y + 1) (by have := h.1; omega) (by have := h.2.1; omega)
  omega
/-- Later dates have greater numbers. -/
theorem num_lt {y m d y' m' d' : Int} (h : Rt y m d) (h' : Rt y' m' d') (l : y < y' ∨ y = y' ∧ (m < m' ∨ m = m' ∧ d < d')) : num y m d < num y' m' d' := by
  rcases l with l | ⟨rfl, l⟩
  · have a := num_in h
    have b := num_in h'
    have c := ah_le (a := y + 1) (b := y') (by omega)
    omega
  · obtain ⟨h1, h2, h3, h4, h5, h6⟩ := h
    obtain ⟨_, _, k3, k4, k5, k6⟩ := h'
    rcases l with l | ⟨rfl, l⟩
    · have := cum_next y h3 l (by omega)
      unfold num
      omega
    · unfold num
      omega
theorem num_inj {y m d y' m' d' : Int} (h : Rt y m d) (h' : Rt y' m' d') (e : num y m d = num y' m' d') : y = y' ∧ m = m' ∧ d = d' := by
  have a := num_lt h h'
  have b := num_lt h' h
  refine ⟨?_, ?_, ?_⟩ <;> omega
/-- Each number is of a year. -/
theorem year_of (n : Int) (h : 0 ≤ n) (h' : n < 3652791) : ∃ y, 0 ≤ y ∧ y ≤ 10000 ∧ ah y ≤ n ∧ n < ah (y + 1) := by
  have key : ∀ k : Nat, k ≤ 10001 → n < ah k → ∃ y, 0 ≤ y ∧ y ≤ 10000 ∧ ah y ≤ n ∧ n < ah (y + 1) := by
    intro k
    induction k with
    | zero => intro _ hl; rw [show ((0 : Nat) : Int) = 0 from rfl, ah_0] at hl; omega
    | succ k ih =>
      intro hk hl
      by_cases hc : n < ah k
      · exact ih (by omega) hc
      · exact ⟨k, by omega, by omega, by omega, by simpa using hl⟩
  exact key 10001 (Nat.le_refl _) (by rw [show ((10001 : Nat) : Int) = 10001 from rfl, ah_10001]; exact h')
theorem month_of (y n : Int) (h : 0 ≤ n) (h' : n < 365 + lpi y) : ∃ m, 1 ≤ m ∧ m ≤ 12 ∧ cum y m ≤ n ∧ n < cum y m + ln y m := by
  have key : ∀ k : Nat, k ≤ 12 → n < cum y (k + 1) → ∃ m, 1 ≤ m ∧ m ≤ 12 ∧ cum y m ≤ n ∧ n < cum y m + ln y m := by
    intro k
    induction k with
    | zero => intro _ hl; rw [show ((0 : Nat) : Int) + 1 = 1 from rfl, cum_1] at hl; omega
    | succ k ih =>
      intro hk hl
      by_cases hc : n < cum y (k + 1)
      · exact ih (by omega) hc
      · exact ⟨k + 1, by omega, by omega, by omega, by rw [← cum_succ y (k + 1) (by omega) (by omega)]; simpa using hl⟩
  exact key 12 (Nat.le_refl _) (by rw [show ((12 : Nat) : Int) + 1 = 13 from rfl, cum_13]; exact h')
theorem date_of (n : Int) (h : -719528 ≤ n) (h' : n ≤ 2933262) : ∃ y m d, Rt y m d ∧ num y m d = n := by
  obtain ⟨y, a, b, c, e⟩ := year_of (n + 719528) (by omega) (by omega)
  rw [ah_succ] at e
  obtain ⟨m, f, g, i, j⟩ := month_of y (n + 719528 - ah y) (by omega) (by omega)
  exact ⟨y, m, n + 719528 - ah y - cum y m + 1, ⟨a, b, f, g, by omega, by omega⟩, by unfold num; omega⟩
/-- The date of a number, chosen. -/
noncomputable def dt (n : Int) : Int × Int × Int := if h : -719528 ≤ n ∧ n ≤ 2933262 then ⟨(date_of n h.1 h.2).choose, (date_of n h.1 h.2).choose_spec.choose, (date_of n h.1 h.2).choose_spec.choose_spec.choose⟩ else (0, 0, 0)
theorem dt_spec {n : Int} (h : -719528 ≤ n) (h' : n ≤ 2933262) : Rt (dt n).1 (dt n).2.1 (dt n).2.2 ∧ num (dt n).1 (dt n).2.1 (dt n).2.2 = n := by
  have hh : -719528 ≤ n ∧ n ≤ 2933262 := ⟨h, h'⟩
  have := (date_of n hh.1 hh.2).choose_spec.choose_spec.choose_spec
  unfold dt
  rw [dif_pos hh]
  exact this
theorem dt_num {y m d : Int} (h : Rt y m d) : dt (num y m d) = (y, m, d) := by
  have b := num_bd h
  have s := dt_spec b.1 b.2
  obtain ⟨e1, e2, e3⟩ := num_inj s.1 h s.2
  exact Prod.ext e1 (Prod.ext e2 e3)
theorem wd_bd (n : Int) : 0 ≤ wd n ∧ wd n ≤ 6 := by unfold wd; omega
end Go.Proofs.Ytfinhaghgmnegaa.Civ
