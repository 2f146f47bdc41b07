/- A form that is not encoded falls elsewhere in some year of forty, in plain numbers. No condition beyond those each lemma names. -/
import Derived.Test.YtfinhaghgmnegaaE24r
namespace Go.Proofs.Ytfinhaghgmnegaa.Pure
open Go.RowKit Go.Proofs.Ytfinhaghgmnegaa.O Go.Proofs.YtfinhaghgmnegaaW.PrintWords Go.Proofs.YtfinhaghgmnegaaW.PrintLast
open Go.Proofs.Ytfinhaghgmnegaa.Civ
set_option linter.unusedVariables false
set_option linter.unusedSimpArgs false
/-- In the years from 2000 on a date is of each weekday. -/
theorem each_wd : ∀ b : Fin 2, ∀ t : Fin 7, ∃ i : Fin 40, (ah (2000 + (i.val : Int)) + (b.val : Int) * lpi (2000 + (i.val : Int))) % 7 = (t.val : Int) := by decide +kernel
theorem cum_form (m : Int) (h : 1 ≤ m) (h' : m ≤ 12) : ∃ c : Int, ∃ b : Fin 2, ∀ y, cum y m = c + (b.val : Int) * lpi y := by
  rcases mcases h h' with rfl | rfl | rfl | rfl | rfl | rfl | rfl | rfl | rfl | rfl | rfl | rfl
  · exact ⟨0, 0, fun y => by simp [cum]⟩
  · exact ⟨31, 0, fun y => by simp [cum]⟩
  · exact ⟨59, 1, fun y => by simp [cum]⟩
  · exact ⟨90, 1, fun y => by simp [cum]⟩
  · exact ⟨120, 1, fun y => by simp [cum]⟩
  · exact ⟨151, 1, fun y => by simp [cum]⟩
  · exact ⟨181, 1, fun y => by simp [cum]⟩
  · exact ⟨212, 1, fun y => by simp [cum]⟩
  · exact ⟨243, 1, fun y => by simp [cum]⟩
  · exact ⟨273, 1, fun y => by simp [cum]⟩
  · exact ⟨304, 1, fun y => by simp [cum]⟩
  · exact ⟨334, 1, fun y => by simp [cum]⟩
theorem year_wd (m d t : Int) (h : 1 ≤ m) (h' : m ≤ 12) (ht : 0 ≤ t) (ht' : t ≤ 6) : ∃ i : Int, 0 ≤ i ∧ i < 40 ∧ wd (num (2000 + i) m d) = t := by
  obtain ⟨c, b, hc⟩ := cum_form m h h'
  obtain ⟨i, hi⟩ := each_wd b ⟨((t - (c + d - 719525)) % 7).toNat, by omega⟩
  refine ⟨i.val, by omega, by have := i.isLt; omega, ?_⟩
  have e := hc (2000 + (i.val : Int))
  unfold wd num
  rw [e]
  simp only at hi
  omega
/-- The year 2000 + i shows that a form is not encoded. -/
def Met (m kd w d i : Int) : Prop := ¬ Rt (2000 + i) m (fday (2000 + i) m kd d) ∨ (dt (fres (2000 + i) m kd w d)).2.1 ≠ m ∨ m = 2 ∧ (dt (fres (2000 + i) m kd w d)).2.2 = 29
theorem ln_2001 (m y : Int) : ln 2001 m ≤ ln y m := by
  have e : lpi 2001 = 0 := by decide +kernel
  have := lpi_01 y
  unfold ln
  rw [e]
  split
  · omega
  · split
    · omega
    · split <;> omega
theorem ln_more (m y : Int) (hm : m ≠ 2) : ln y m = ln 2001 m := by
  unfold ln
  rw [if_neg hm, if_neg hm]
theorem met_ex {m kd w d : Int} (ho : OnR kd w d) (hm : 1 ≤ m) (hm' : m ≤ 12) (h2 : kd ≠ 2) (hn : ¬ encP m kd d 0) : ∃ i, 0 ≤ i ∧ i < 40 ∧ Met m kd w d i := by
  have hl := len01 m hm hm'
  have hd : 1 ≤ d ∧ d ≤ 31 := by unfold OnR at ho; omega
  have fd : ∀ y, fday y m kd d = d := fun y => by unfold fday; rw [if_neg h2]
  by_cases hdl : d > ln 2001 m
  · refine ⟨1, by omega, by omega, Or.inl ?_⟩
    rw [fd]
    unfold Rt
    rw [show (2000 : Int) + 1 = 2001 by omega]
    omega
  have hk : kd = 3 ∧ d + 6 > ln 2001 m ∨ kd = 4 ∧ d < 7 := by
    unfold encP fst24 many24 at hn
    unfold OnR at ho
    by_cases h1 : kd = 1
    · rw [if_neg (by omega), if_pos h1] at hn; omega
    · by_cases h4 : kd = 4
      · rw [if_pos h4, if_neg h1] at hn; omega
      · rw [if_neg h4, if_neg h1] at hn; omega
  have hw : 0 ≤ w ∧ w ≤ 6 := by unfold OnR at ho; omega
  rcases hk with ⟨h3, hx⟩ | ⟨h4, hx⟩
  · obtain ⟨i, i0, i1, hi⟩ := year_wd m d ((w - 6) % 7) hm hm' (by omega) (by omega)
    have hu : upw (num (2000 + i) m d) w = 6 := by unfold upw; rw [hi]; omega
    have e : fres (2000 + i) m kd w d = num (2000 + i) m d + 6 := by unfold fres; rw [if_neg (by omega), if_pos h3, hu]
    generalize hY : 2000 + i = y at *
    have hly := ln_bd y m hm hm'
    have hl2 := ln_2001 m y
    have hr : Rt y m d := ⟨by omega, by omega, hm, hm', hd.1, by omega⟩
    refine ⟨i, i0, i1, Or.inr ?_⟩
    rw [hY, e]
    by_cases hin : d + 6 ≤ ln y m
    · have hm2 : m = 2 := by
        by_cases hc : m = 2
        · exact hc
        · rw [ln_more m y hc] at hin; omega
      have hr6 : Rt y m (d + 6) := ⟨by omega, by omega, hm, hm', by omega, by omega⟩
      have e6 : num y m d + 6 = num y m (d + 6) := by unfold num; omega
      have h29 : d + 6 = 29 := by
        subst hm2
        have e1 : ln 2001 2 = 28 := by decide +kernel
        have e2 : ln y 2 = 28 + lpi y := by simp [ln]
        have := lpi_01 y
        omega
      refine Or.inr ⟨hm2, ?_⟩
      rw [e6, dt_num hr6]
      exact h29
    · refine Or.inl ?_
      have hs := cum_succ y m hm hm'
      by_cases h12 : m = 12
      · have hn : num y m d + 6 = num (y + 1) 1 (d + 6 - ln y m) := by
          subst h12
          have a := ah_succ y
          have b := cum_13 y
          have c := cum_1 (y + 1)
          rw [show (12 : Int) + 1 = 13 by omega] at hs
          unfold num
          omega
        have hr2 : Rt (y + 1) 1 (d + 6 - ln y m) := ⟨by omega, by omega, by omega, by omega, by omega, by have := ln_bd (y + 1) 1 (by omega) (by omega); omega⟩
        rw [hn, dt_num hr2]
        show (1 : Int) ≠ m
        omega
      · have hn : num y m d + 6 = num y (m + 1) (d + 6 - ln y m) := by unfold num; omega
        have hr2 : Rt y (m + 1) (d + 6 - ln y m) := ⟨by omega, by omega, by omega, by omega, by omega, by have := ln_bd y (m + 1) (by omega) (by omega); omega⟩
        rw [hn, dt_num hr2]
        show m + 1 ≠ m
        omega
  · obtain ⟨i, i0, i1, hi⟩ := year_wd m d ((w + 6) % 7) hm hm' (by omega) (by omega)
    have hu : dnw (num (2000 + i) m d) w = 6 := by unfold dnw; rw [hi]; omega
    have e : fres (2000 + i) m kd w d = num (2000 + i) m d - 6 := by unfold fres; rw [if_neg (by omega), if_neg (by omega), fd, hu]
    generalize hY : 2000 + i = y at *
    have hly := ln_bd y m hm hm'
    refine ⟨i, i0, i1, Or.inr (Or.inl ?_)⟩
    rw [hY, e]
    by_cases h1 : m = 1
    · have hn : num y m d - 6 = num (y - 1) 12 (31 + d - 6) := by
        subst h1
        have a := ah_succ (y - 1)
        rw [show y - 1 + 1 = y by omega] at a
        have b : cum (y - 1) 12 = 334 + lpi (y - 1) := by simp [cum]
        have c := cum_1 y
        unfold num
        omega
      have hr2 : Rt (y - 1) 12 (31 + d - 6) := ⟨by omega, by omega, by omega, by omega, by omega, by simp [ln]; omega⟩
      rw [hn, dt_num hr2]
      show (12 : Int) ≠ m
      omega
    · have hs := cum_succ y (m - 1) (by omega) (by omega)
      have hlp := ln_bd y (m - 1) (by omega) (by omega)
      rw [show m - 1 + 1 = m by omega] at hs
      have hn : num y m d - 6 = num y (m - 1) (ln y (m - 1) + d - 6) := by unfold num; omega
      have hr2 : Rt y (m - 1) (ln y (m - 1) + d - 6) := ⟨by omega, by omega, by omega, by omega, by omega, by omega⟩
      rw [hn, dt_num hr2]
      show m - 1 ≠ m
      omega
theorem fres_bd {y m kd w d : Int} (hy : 1 ≤ y) (hy' : y ≤ 9999) (hr : Rt y m (fday y m kd d)) : -719528 ≤ fres y m kd w d ∧ fres y m kd w d ≤ 2933262 := by
  have hn := num_in hr
  have a := ah_le hy
  have b := ah_le (a := y + 1) (b := 10000) (by omega)
  have e1 : ah 1 = 366 := by decide +kernel
  have e2 : ah 10000 = 3652425 := by decide +kernel
  have hu := upw_bd (num y m d) w
  have hd := dnw_bd (num y m (fday y m kd d)) w
  unfold fres
  by_cases h1 : kd = 1
  · rw [if_pos h1]
    have : fday y m kd d = d := by unfold fday; rw [if_neg (by omega)]
    rw [this] at hn
    omega
  · rw [if_neg h1]
    by_cases h3 : kd = 3
    · rw [if_pos h3]
      have : fday y m kd d = d := by unfold fday; rw [if_neg (by omega)]
      rw [this] at hn
      omega
    · rw [if_neg h3]; omega
end Go.Proofs.Ytfinhaghgmnegaa.Pure
