/- WeekNumbers in plain numbers: what the law computes is true at all arguments. No condition but that each is an int. -/
import Derived.Test.YtlefnaoflajnmaaGS03
import Derived.Test.YtlefnaoflajnmaaOx37
namespace Go.Proofs.Ytlefnaoflajnmaa.Pure
open Go.RowKit Go.Proofs.Ytlefnaoflajnmaa.O Go.Proofs.YtlefnaoflajnmaaW.PrintWords Go.Proofs.YtlefnaoflajnmaaW.PrintLast
open Go.Proofs.Ytlefnaoflajnmaa.Civ
theorem WeekNumbers : solsticelaw03_WeekNumbers.Pure := by
  intro a0 a1 a2 a3 _ _ _ _
  obtain ⟨y', y0, y1, ey⟩ := um a0 (n := 9990) (by omega) (by omega)
  obtain ⟨m, m0, m1, em⟩ := um1 a1 (n := 12) (by omega) (by omega)
  obtain ⟨d, d0, d1, ed⟩ := um1 a2 (n := 28) (by omega) (by omega)
  obtain ⟨k, k0, k1, ek⟩ := um a3 (n := 7) (by omega) (by omega)
  obtain ⟨y, rfl⟩ : ∃ y, y' = y - 2 := ⟨y' + 2, by omega⟩
  have ey2 : wrap64 (2 + wrap64 (Int.tmod (IntKind.u64.wrap a0) 9990)) = y := by rw [ey, w64 (by omega) (by omega)]; omega
  have hl := ln_bd y m m0 m1
  have hr : Rt y m d := ⟨by omega, by omega, m0, m1, d0, by omega⟩
  have h4 : Rt y 1 4 := ⟨by omega, by omega, by omega, by omega, by omega, by have := ln_bd y 1 (by omega) (by omega); omega⟩
  have hn := num_in hr
  have e2 : ah 2 = 731 := by decide +kernel
  have e9 : ah 9992 = 3649503 := by decide +kernel
  have g1 := ah_le (a := 2) (b := y) (by omega)
  have g2 := ah_le (a := y + 1) (b := 9992) (by omega)
  have gs := ah_succ y
  have gl := lpi_01 y
  have n4 : num y 1 4 = ah y - 719525 := by rw [num_1]; omega
  refine Ev.rounds ?_
  unfold solsticelaw03_WeekNumbers.f
  simp only [ey2, em, ed, ek]
  refine evb (cnum hr) ?_
  generalize num y m d = n at *
  dsimp only
  rw [w64 (x := n + 7) (by omega) (by omega), w64 (x := n + 1) (by omega) (by omega)]
  refine evb (wno_ok k0 (by omega) (by omega) (by omega)) (evb (wno_ok k0 (by omega) (by omega) (by omega)) (evb (wno_ok k0 (by omega) (by omega) (by omega)) ?_))
  simp only [if_true, bne_self_eq_false]
  have md : ∀ x, -719528 + 10 ≤ x → x ≤ 2933262 - 10 → -719528 ≤ mid x k ∧ mid x k ≤ 2933262 := by
    intro x h1 h2
    have := dnw_bd x k
    unfold mid
    omega
  have m1 := md n (by omega) (by omega)
  have m7 := md (n + 7) (by omega) (by omega)
  have m2 := md (n + 1) (by omega) (by omega)
  have m4 := md (num y 1 4) (by omega) (by omega)
  have s1 := mid_fw m1.1 m1.2
  have v1 := yr_bd m1.1 m1.2
  have dm := dnw_bd n k
  generalize hY : yr (mid n k) = Y at *
  have Yb : 1 ≤ Y ∧ Y ≤ 9993 := by
    have e1 : ah 1 = 366 := by decide +kernel
    have e3 : ah 9994 = 3650234 := by decide +kernel
    have h1 : ah 1 < ah (Y + 1) := by unfold mid at v1; omega
    have h2 : ah Y < ah 9994 := by unfold mid at v1; omega
    have := ah_mono h1
    have := ah_mono h2
    omega
  have f0 := fw_bd Y k
  have f1 := fw_bd (Y + 1) k
  have f2 := fw_bd (Y + 2) k
  have as0 := ah_succ Y
  have as1 := ah_succ (Y + 1)
  rw [show Y + 1 + 1 = Y + 2 by omega] at as1
  have al0 := lpi_01 Y
  have al1 := lpi_01 (Y + 1)
  have q1 := fw_7 Y (Y + 1) k
  have q2 := fw_7 (Y + 1) (Y + 2) k
  have wk := fw_wd (y := Y) k0 (show k ≤ 6 by omega)
  have wk1 := fw_wd (y := Y + 1) k0 (show k ≤ 6 by omega)
  have y4 : yr (mid (num y 1 4) k) = y := by
    have a1 := fw_bd (y + 1) k
    have a2 := dnw_bd (num y 1 4) k
    exact mid_yr m4.1 m4.2 (by unfold fw; omega) (by omega)
  have no4 : (num y 1 4 - fw y k) / 7 + 1 = 1 := by
    have a2 := dnw_bd (num y 1 4) k
    unfold fw
    omega
  have b4 := num_bd h4
  refine evstep ?_
  simp only [solsticelaw03_WeekNumbers.j0, Bool.false_eq_true, if_false]
  refine evb (wweeks_ok k0 (by omega) (by omega) (by omega)) (evb (cnum h4) (evb (wno_ok k0 (by omega) (by omega) (by omega)) ?_))
  simp only [if_true, y4, no4]
  simp only [if_neg (show ¬ (fw (Y + 1) k - fw Y k) / 7 < 52 by omega), if_neg (show ¬ (fw (Y + 1) k - fw Y k) / 7 > 53 by omega), if_neg (show ¬ (n - fw Y k) / 7 + 1 < 1 by omega), decide_eq_false (show ¬ (n - fw Y k) / 7 + 1 > (fw (Y + 1) k - fw Y k) / 7 by omega)]
  refine evstep ?_
  simp only [solsticelaw03_WeekNumbers.j1, Bool.false_eq_true, if_false, cwd, Option.bind_some]
  rw [w64 (x := n + 1) (by omega) (by omega)]
  have fin : Ev (fun q => solsticelaw03_WeekNumbers.j2 q Y ((n - fw Y k) / 7 + 1) (yr (mid (n + 7) k)) ((n + 7 - fw (yr (mid (n + 7) k)) k) / 7 + 1) ((fw (Y + 1) k - fw Y k) / 7) false) true := by
    refine evstep ?_
    simp only [solsticelaw03_WeekNumbers.j2, Bool.false_eq_true, if_false]
    refine evif (fun hc => ?_) (fun hc => ?_)
    · have e7 : yr (mid (n + 7) k) = Y := mid_yr m7.1 m7.2 (by omega) (by omega)
      rw [w64 (by omega) (by omega), e7]
      simp only [if_true, if_pos (show (n + 7 - fw Y k) / 7 + 1 = (n - fw Y k) / 7 + 1 + 1 by omega)]
      exact evb wakes_ev (Ev.now _)
    · have e7 : yr (mid (n + 7) k) = Y + 1 := mid_yr m7.1 m7.2 (by omega) (by rw [show Y + 1 + 1 = Y + 2 by omega]; omega)
      rw [w64 (x := Y + 1) (by omega) (by omega), e7]
      simp only [if_true, if_pos (show (n + 7 - fw (Y + 1) k) / 7 + 1 = 1 by omega)]
      exact evb wakes_ev (Ev.now _)
  refine evif (fun _ => fin) (fun hc => ?_)
  have e1 : yr (mid (n + 1) k) = Y := mid_yr m2.1 m2.2 (by omega) (by
    have : n + 1 ≠ fw (Y + 1) k := by intro he; apply hc; rw [he]; exact wk1
    omega)
  simp only [e1, if_true]
  have es : ((n + 1 - fw Y k) / 7 + 1 != (n - fw Y k) / 7 + 1) = false := by
    rw [bne_eq_false_iff_eq]
    unfold wd at hc wk
    omega
  rw [es]
  exact fin
end Go.Proofs.Ytlefnaoflajnmaa.Pure
