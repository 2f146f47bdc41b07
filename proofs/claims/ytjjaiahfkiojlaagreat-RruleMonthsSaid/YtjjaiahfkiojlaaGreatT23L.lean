/- What a yearly rule of February 29 tells, in plain numbers. No condition. -/
import Derived.Test.YtjjaiahfkiojlaaGreatT23M
namespace Go.Proofs.YtjjaiahfkiojlaaGreat.Pure
open Go.RowKit Go.Proofs.YtjjaiahfkiojlaaGreat.O Go.Proofs.YtjjaiahfkiojlaaGreatW.PrintWords Go.Proofs.YtjjaiahfkiojlaaGreatW.PrintLast
open Go.Proofs.YtjjaiahfkiojlaaGreat.Civ
set_option linter.unusedVariables false
set_option linter.unusedSimpArgs false
/-! February 29, each year -/
theorem dt_month {n y : Int} (hy : 1 ≤ y) (hy' : y ≤ 9999) (h1 : num y 1 1 ≤ n) (h2 : n ≤ num y 12 31) (hm : (dt n).2.1 = 2) (hd : (dt n).2.2 = 29) : lp y = true ∧ n = num y 2 29 := by
  have a1 := num_bd (rt_first (y := y) (by omega) (by omega))
  have a2 := num_bd (rt_31 (y := y) (by omega) (by omega))
  obtain ⟨r, e⟩ := dt_spec (n := n) (by omega) (by omega)
  rw [hm, hd] at r e
  generalize (dt n).1 = Y at r e
  have c11 : ∀ z, cum z 1 = 0 := fun z => by simp [cum]
  have c2 : ∀ z, cum z 2 = 31 := fun z => by simp [cum]
  have c12 : cum y 12 = 334 + lpi y := by simp [cum]
  have l := lpi_01 y
  unfold num at h1 h2 e
  rw [c11] at h1
  rw [c12] at h2
  rw [c2] at e
  have hY : Y = y := by
    have s1 := ah_succ y
    by_cases q : Y ≤ y - 1
    · have := ah_le q
      have := ah_succ (y - 1)
      rw [show y - 1 + 1 = y by omega] at this
      have := lpi_01 (y - 1)
      omega
    · by_cases q2 : y + 1 ≤ Y
      · have := ah_le q2
        omega
      · omega
  subst hY
  refine ⟨?_, ?_⟩
  · have := r.2.2.2.2.2
    unfold ln at this
    rw [if_neg (by omega), if_pos rfl] at this
    have i := lpi_iff Y
    rw [lp_iff]
    omega
  · unfold num
    rw [c2]
    omega
theorem year_lets {iv ct ua : Int} {un : Bool} {p : Int} (hp : 1 ≤ p) (hp' : p ≤ 9999) : letsL (pl 7 iv ct un ua) 951782400 (spanW (pl 7 iv ct un ua) p).1 (spanW (pl 7 iv ct un ua) p).2 = if lp p = true then [86400 * num p 2 29] else [] := by
  have es : spanW (pl 7 iv ct un ua) p = (86400 * num p 1 1, 86400 * num p 12 31 + 86399) := by
    simp [spanW, wholeV, pl]
  rw [es]
  have hf : dt 11016 = (2000, 2, 29) := by
    rw [show (11016 : Int) = num 2000 2 29 by decide]
    exact dt_num ⟨by decide, by decide, by decide, by decide, by decide, by decide⟩
  have c11 : cum p 1 = 0 := by simp [cum]
  have c2 : cum p 2 = 31 := by simp [cum]
  have c12 : cum p 12 = 334 + lpi p := by simp [cum]
  have l := lpi_01 p
  have e12 : num p 12 31 = num p 1 1 + 364 + lpi p := by unfold num; rw [c11, c12]; omega
  have e2 : num p 2 29 = num p 1 1 + 59 := by unfold num; rw [c11, c2]; omega
  unfold letsL
  dsimp only
  rw [show 86400 * num p 1 1 / 86400 = num p 1 1 by omega, show (86400 * num p 12 31 + 86399) / 86400 = num p 12 31 by omega, show 86400 * num p 1 1 % 86400 = 0 by omega, show (951782400 : Int) / 86400 = 11016 by decide, show (951782400 : Int) % 86400 = 0 by decide, pl_clock]
  simp only [show (3 : Int) < 7 by decide, show (2 : Int) < 7 by decide, show (1 : Int) < 7 by decide, if_true]
  have day : ∀ n, num p 1 1 ≤ n → n ≤ num p 12 31 → dayV (pl 7 iv ct un ua) 11016 n = decide (lp p = true ∧ n = num p 2 29) := fun n h1 h2 => by
    rw [pl_day, if_neg (by decide), if_neg (by decide), hf]
    by_cases c : (dt n).2.1 = 2
    · rw [if_neg (fun q => q.2 c)]
      by_cases c2 : (dt n).2.2 = 29
      · rw [decide_eq_true (dt_month hp hp' h1 h2 c c2), c2]
        rfl
      · rw [decide_eq_false (fun q => c2 ?_)]
        · exact decide_eq_false c2
        · rw [q.2]
          have hl : ln p 2 = 29 := by
            have i := lpi_iff p
            have := (lp_iff p).1 q.1
            unfold ln
            rw [if_neg (by omega), if_pos rfl]
            omega
          rw [dt_num ⟨by omega, by omega, by decide, by decide, by decide, by rw [hl]; decide⟩]
    · rw [if_pos ⟨rfl, c⟩]
      refine (decide_eq_false (fun q => c ?_)).symm
      rw [q.2]
      have hl : ln p 2 = 29 := by
        have i := lpi_iff p
        have := (lp_iff p).1 q.1
        unfold ln
        rw [if_neg (by omega), if_pos rfl]
        omega
      rw [dt_num ⟨by omega, by omega, by decide, by decide, by decide, by rw [hl]; decide⟩]
  unfold daysL
  by_cases c : lp p = true
  · rw [if_pos c, flat_one (j := 59) (by omega) (fun i hi hne => ?_)]
    · unfold dayL
      rw [day _ (by omega) (by omega), decide_eq_true ⟨c, by omega⟩, if_pos rfl, inL_one (by omega) (by omega)]
      simp
      omega
    · unfold dayL
      rw [day _ (by omega) (by omega), decide_eq_false (fun q => hne (by omega)), if_neg (by decide)]
  · rw [if_neg c, flat_none (fun i hi => ?_)]
    unfold dayL
    rw [day _ (by omega) (by omega), decide_eq_false (fun q => c q.1), if_neg (by decide)]
theorem rY_right : Right (pl 7 1 3 false 0) := pl_right (by decide) (by decide) (by decide) (by decide) (by decide) (by decide) (Or.inl ⟨rfl, rfl⟩)
theorem year_span {p : Int} (hp : 2000 ≤ p) (hp' : p ≤ 2010) : spanV (pl 7 1 3 false 0) p = ((spanW (pl 7 1 3 false 0) p).1, (spanW (pl 7 1 3 false 0) p).2, 0) := by
  have es : spanW (pl 7 1 3 false 0) p = (86400 * num p 1 1, 86400 * num p 12 31 + 86399) := by
    simp [spanW, wholeV, pl]
  have c11 : cum p 1 = 0 := by simp [cum]
  have c12 : cum p 12 = 334 + lpi p := by simp [cum]
  have l := lpi_01 p
  have a1 := ah_le (a := 2000) (b := p) hp
  have e0 : ah 2000 = 730485 := by decide
  refine spanV_ok rY_right.lens (fun q => by cases q) ?_ ?_
  · rw [es]; unfold InT num; dsimp only; rw [c11]; omega
  · rw [es]; unfold InT num; dsimp only; rw [c12]; omega
theorem year_ends (ct A : Int) (h : A ≤ 4611686018427387904) (hc : ct < 3) : endsV (pl 7 1 3 false 0) 4611686018427387904 ct A = false := by
  show (decide (4611686018427387904 < A) || (false && decide ((0 : Int) < A)) || (decide ((0 : Int) < 3) && decide ((3 : Int) ≤ ct))) = false
  rw [decide_eq_false (by omega), decide_eq_false (show ¬ (3 : Int) ≤ ct by omega)]
  rfl
theorem year_a {p : Int} (hp : 2000 ≤ p) (hp' : p ≤ 2010) : (spanW (pl 7 1 3 false 0) p).1 ≤ 4611686018427387904 := by
  have s := year_span hp hp'
  have := (spanOk_in (r := pl 7 1 3 false 0) (p := p) (by rw [s])).1
  rw [s] at this
  unfold InT at this
  dsimp only at this
  omega
theorem times_leap : ∃ c, timesV (pl 7 1 3 false 0) 951782400 951782400 4611686018427387904 3000 = ([951782400, 1078012800, 1204243200], c, 0) := by
  have no : ∀ (k : Nat) (p : Int) (S : St), 2000 ≤ p → p ≤ 2010 → lp p = false → S.ct < 3 → S.sp + 1 ≤ 3000 → worksV (pl 7 1 3 false 0) 951782400 951782400 4611686018427387904 3000 (k + 1) p S = worksV (pl 7 1 3 false 0) 951782400 951782400 4611686018427387904 3000 k (p + 1) ⟨S.sp + 1, S.ct, S.out⟩ := fun k p S h1 h2 hl h3 h4 => by
    have le := year_lets (iv := 1) (ct := 3) (ua := 0) (un := false) (p := p) (by omega) (by omega)
    rw [if_neg (by rw [hl]; decide)] at le
    exact step_none (year_span h1 h2) (year_ends _ _ (year_a h1 h2) h3) rfl le h4
  have yes : ∀ (k : Nat) (p : Int) (S : St), 2000 ≤ p → p ≤ 2010 → lp p = true → S.ct < 3 → 0 ≤ S.sp → S.sp + 2 ≤ 3000 → worksV (pl 7 1 3 false 0) 951782400 951782400 4611686018427387904 3000 (k + 1) p S = worksV (pl 7 1 3 false 0) 951782400 951782400 4611686018427387904 3000 k (p + 1) (if goesV (pl 7 1 3 false 0) 951782400 S.ct (86400 * num p 2 29) then tellV 951782400 4611686018427387904 ⟨S.sp + 2, S.ct, S.out⟩ (86400 * num p 2 29) else ⟨S.sp + 2, S.ct, S.out⟩) := fun k p S h1 h2 hl h3 h0 h4 => by
    have le := year_lets (iv := 1) (ct := 3) (ua := 0) (un := false) (p := p) (by omega) (by omega)
    rw [if_pos hl] at le
    exact step_one (year_span h1 h2) (year_ends _ _ (year_a h1 h2) h3) rfl le h0 h4
  have n0 : num 2000 2 29 = 11016 := by decide
  have n4 : num 2004 2 29 = 12477 := by decide
  have n8 : num 2008 2 29 = 13938 := by decide
  have e : worksV (pl 7 1 3 false 0) 951782400 951782400 4611686018427387904 3000 (2993 + 9) 2000 ⟨0, 1, [951782400]⟩ = some ⟨12, 3, [951782400, 1078012800, 1204243200]⟩ := by
    rw [yes (2993 + 8) 2000 _ (by decide) (by decide) (by decide) (by decide) (by decide) (by decide), n0, if_neg (by decide)]
    rw [no (2993 + 7) (2000 + 1) _ (by decide) (by decide) (by decide) (by decide) (by decide)]
    rw [no (2993 + 6) (2000 + 1 + 1) _ (by decide) (by decide) (by decide) (by decide) (by decide)]
    rw [no (2993 + 5) (2000 + 1 + 1 + 1) _ (by decide) (by decide) (by decide) (by decide) (by decide)]
    rw [yes (2993 + 4) (2000 + 1 + 1 + 1 + 1) _ (by decide) (by decide) (by decide) (by decide) (by decide) (by decide), show (2000 + 1 + 1 + 1 + 1 : Int) = 2004 by decide, n4, if_pos (by decide)]
    rw [no (2993 + 3) (2004 + 1) _ (by decide) (by decide) (by decide) (by decide) (by decide)]
    rw [no (2993 + 2) (2004 + 1 + 1) _ (by decide) (by decide) (by decide) (by decide) (by decide)]
    rw [no (2993 + 1) (2004 + 1 + 1 + 1) _ (by decide) (by decide) (by decide) (by decide) (by decide)]
    rw [yes (2993 + 0) (2004 + 1 + 1 + 1 + 1) _ (by decide) (by decide) (by decide) (by decide) (by decide) (by decide), show (2004 + 1 + 1 + 1 + 1 : Int) = 2008 by decide, n8, if_pos (by decide)]
    rw [show 2993 + 0 = 2992 + 1 from rfl]
    refine (step_end (Or.inr ?_)).trans rfl
    show (_ || _ || (decide ((0 : Int) < 3) && decide ((3 : Int) ≤ _))) = true
    rw [show decide ((3 : Int) ≤ _) = true from by decide]
    simp
  have hp : perV (pl 7 1 3 false 0) 951782400 = 2000 := by
    unfold perV
    simp only [pl, show ¬ ((7 : Int) = 1) by decide, show ¬ ((7 : Int) = 2) by decide, show ¬ ((7 : Int) = 3) by decide, show ¬ ((7 : Int) = 4) by decide, show ¬ ((7 : Int) = 5) by decide, show ¬ ((7 : Int) = 6) by decide, if_false, if_true]
    rw [show (951782400 : Int) / 86400 = num 2000 2 29 by decide, dt_num ⟨by decide, by decide, by decide, by decide, by decide, by decide⟩]
  have beg : beginV (pl 7 1 3 false 0) 951782400 951782400 = (2000, true) := by
    unfold beginV
    rw [hp, if_pos (Or.inr (Or.inr (Int.le_refl _))), year_span (by decide) (by decide)]
    rfl
  refine ⟨12, ?_⟩
  unfold timesV goneV
  rw [if_pos (by decide), beg, if_pos rfl]
  have e0 : tellV 951782400 4611686018427387904 ⟨0, 0, []⟩ 951782400 = ⟨0, 1, [951782400]⟩ := by
    unfold tellV
    rw [if_pos (by decide)]
    rfl
  rw [e0]
  dsimp only
  rw [show (3000 : Int).toNat + 2 = 2993 + 9 from rfl, e]
end Go.Proofs.YtjjaiahfkiojlaaGreat.Pure
