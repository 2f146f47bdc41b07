/- FilterWeeks in plain numbers: what the law computes is true at all arguments. No condition but that each is an int. -/
import Derived.Test.YtmhpmkbifhgnbaaG22W
import Derived.Test.YtmhpmkbifhgnbaaOx23
import Derived.Test.YtmhpmkbifhgnbaaOx79
import Derived.Test.YtmhpmkbifhgnbaaOx85
namespace Go.Proofs.Ytmhpmkbifhgnbaa.Pure
open Go.RowKit Go.Proofs.Ytmhpmkbifhgnbaa.O Go.Proofs.YtmhpmkbifhgnbaaW.PrintWords Go.Proofs.YtmhpmkbifhgnbaaW.PrintLast
open Go.Proofs.Ytmhpmkbifhgnbaa.Civ
set_option linter.unusedVariables false
set_option linter.unusedSimpArgs false
theorem rnum_l (y m d b : Int) (hy : 0 ≤ y) (hy' : y ≤ 20000) (hb : -1000000000 ≤ b) (hb' : b ≤ 1000000000) (hm : m ≤ 13) (hd : 0 ≤ d) (hd' : d ≤ 1000000) : ∀ (n : Nat) (j : Int), 1 ≤ j → j + n = m → Ev (fun k => solsticeref01_Number.l0 k y (b + cum y j) j y m d) (b + cum y m + d - 1 - 719528) := by
  intro n
  induction n with
  | zero =>
    intro j h1 h2
    obtain rfl : j = m := by omega
    have hc := cum_bd y j h1 (by omega)
    have hp := lpi_01 y
    refine evstep ?_
    simp only [solsticeref01_Number.l0, Int.lt_irrefl, if_false]
    refine evs ?_
    rw [w64 (x := b + cum y j + d) (by omega) (by omega), w64 (x := b + cum y j + d - 1) (by omega) (by omega), w64 (by omega) (by omega)]
  | succ n ih =>
    intro j h1 h2
    refine evstep ?_
    simp only [solsticeref01_Number.l0, if_pos (show j < m by omega)]
    refine evb (rlen j (by omega) (by omega)) ?_
    have hc := cum_bd y j h1 (by omega)
    have hl := ln_bd y j h1 (by omega)
    have hp := lpi_01 y
    rw [w64 (x := b + cum y j + ln y j) (by omega) (by omega), w64 (x := j + 1) (by omega) (by omega), show b + cum y j + ln y j = b + cum y (j + 1) by rw [cum_succ y j h1 (by omega)]; omega]
    exact ih (j + 1) (by omega) (by omega)
theorem rnum' {y m d : Int} (hy : 0 ≤ y) (hy' : y ≤ 20000) (hm : 1 ≤ m) (hm' : m ≤ 13) (hd : 0 ≤ d) (hd' : d ≤ 1000000) : Ev (fun k => solsticeref01_Number.f k y m d) (num y m d) := by
  have ha : 365 * y + (y + 3) / 4 - (y + 99) / 100 + (y + 399) / 400 = ah y := by unfold ah; omega
  unfold solsticeref01_Number.f
  rw [w64 (x := y + 3) (by omega) (by omega), w64 (x := y + 99) (by omega) (by omega), w64 (x := y + 399) (by omega) (by omega), tdiv_nn 4 (by omega), tdiv_nn 100 (by omega), tdiv_nn 400 (by omega)]
  rw [w64 (x := 365 * y) (by omega) (by omega), w64 (x := (y + 3) / 4) (by omega) (by omega), w64 (x := (y + 99) / 100) (by omega) (by omega), w64 (x := (y + 399) / 400) (by omega) (by omega)]
  rw [w64 (x := 365 * y + (y + 3) / 4) (by omega) (by omega), w64 (x := 365 * y + (y + 3) / 4 - (y + 99) / 100) (by omega) (by omega), w64 (x := 365 * y + (y + 3) / 4 - (y + 99) / 100 + (y + 399) / 400) (by omega) (by omega), ha]
  have h1 := ah_le hy
  rw [ah_0] at h1
  have := rnum_l y m d (ah y) hy hy' (by omega) (by omega) hm' hd hd' (m - 1).toNat 1 (by omega) (by omega)
  rw [cum_1, Int.add_zero] at this
  rwa [show num y m d = ah y + cum y m + d - 1 - 719528 by unfold num; omega]
theorem rnum {y m d : Int} (h : Rt y m d) : Ev (fun k => solsticeref01_Number.f k y m d) (num y m d) := by
  obtain ⟨h1, h2, h3, h4, h5, h6⟩ := h
  have := ln_bd y m h3 h4
  exact rnum' h1 (by omega) h3 (by omega) (by omega) (by omega)
theorem wakes_ev : Ev (fun k => solsticelaw22_wakes.f k) true := Ev.of solsticelaw22_wakes.mono (k := 60) (by decide +kernel)
theorem um (a : Int) {n : Int} (hn : 0 < n) (hn' : n ≤ 1000000) : ∃ r, 0 ≤ r ∧ r < n ∧ wrap64 (Int.tmod (IntKind.u64.wrap a) n) = r := by
  have h1 := Int.emod_nonneg (IntKind.u64.wrap a) (show n ≠ 0 by omega)
  have h2 := Int.emod_lt_of_pos (IntKind.u64.wrap a) hn
  refine ⟨IntKind.u64.wrap a % n, h1, h2, ?_⟩
  rw [tmod_nn n (by rw [u64w]; omega), w64 (by omega) (by omega)]
theorem um1 (a : Int) {n : Int} (hn : 0 < n) (hn' : n ≤ 1000000) : ∃ r, 1 ≤ r ∧ r ≤ n ∧ wrap64 (1 + wrap64 (Int.tmod (IntKind.u64.wrap a) n)) = r := by
  obtain ⟨r, h1, h2, e⟩ := um a hn hn'
  refine ⟨1 + r, by omega, by omega, ?_⟩
  rw [e, w64 (by omega) (by omega)]
theorem some20 (a : Int) : ∃ t, InT t ∧ Ev (fun k => solsticelaw20_Some.f k a) t := by
  refine ⟨-62135596800 + IntKind.u64.wrap a % 315537897600, by rw [u64w]; unfold InT; omega, ?_⟩
  unfold solsticelaw20_Some.f
  refine evb (rnum (rt_first (by omega) (by omega))) (evb (rnum (rt_first (by omega) (by omega))) ?_)
  rw [num_least, num_most, w64 (x := 86400 * -719162) (by omega) (by omega), w64 (x := 86400 * 2932897) (by omega) (by omega), w64 (x := 86400 * 2932897 - 86400 * -719162) (by omega) (by omega)]
  have e : IntKind.u64.wrap (86400 * 2932897 - 86400 * -719162) = 315537897600 := by rw [u64w]; rfl
  rw [e]
  refine evn (by omega) (evs ?_)
  rw [tmod_nn _ (by rw [u64w]; omega), w64 (x := IntKind.u64.wrap a % 315537897600) (by rw [u64w]; omega) (by rw [u64w]; omega), w64 (by rw [u64w]; omega) (by rw [u64w]; omega)]
  rfl
/-- A rule of weeks of the year. -/
def rw_ (no wk : Int) : RR := ⟨7, 1, 0, false, 0, false, [], [], [], [], [], [], [no], [], [], wk⟩
theorem rw_right {no wk : Int} (h : 1 ≤ no ∧ no ≤ 53 ∨ -53 ≤ no ∧ no ≤ -1) (w0 : 0 ≤ wk) (w1 : wk ≤ 6) : Right (rw_ no wk) := by
  refine ⟨?_, (show (0 : Int) ≤ 0 by decide), (show (0 : Int) ≤ 100000 by decide), rfl, rfl, rfl, fun x hx => absurd hx List.not_mem_nil, Or.inl ⟨rfl, rfl, rfl⟩⟩
  have e1 : okList [no] 1 53 true = true := by
    unfold okList rightB dupI wrongB
    simp
    omega
  have e2 : ∀ (a b : Int) (c : Bool), okList [] a b c = true := fun a b c => by unfold okList rightB dupI; simp
  unfold okRecur rw_
  simp only [e1, e2, decide_eq_true w0, decide_eq_true w1]
  rfl
theorem lets_rw {no wk s t : Int} (ht : InT t) (w0 : 0 ≤ wk) (w1 : wk ≤ 6) (hs : s % 86400 = t % 86400) : letsV (rw_ no wk) s t = (eitherV [no] (noV (t / 86400) wk).2.1 ((fw ((noV (t / 86400) wk).1 + 1) wk - fw (noV (t / 86400) wk).1 wk) / 7) && (wd (t / 86400) == wd (s / 86400))) := by
  unfold letsV clockV dayV likeV weekNoV oneV rw_ wy
  rw [hs]
  simp
theorem FilterWeeks : solsticelaw22_FilterWeeks.Pure := by
  intro a0 a1 a2 _ _ _
  obtain ⟨t, ht, et⟩ := some20 a0
  obtain ⟨no, n0, n1, en⟩ := um1 a1 (n := 53) (by omega) (by omega)
  obtain ⟨wk, w0, w1, ew⟩ := um a2 (n := 7) (by omega) (by omega)
  have hy := dt_year ht
  have ht2 := ht
  unfold InT at ht2
  have hw1 : wk ≤ 6 := by omega
  refine Ev.rounds ?_
  unfold solsticelaw22_FilterWeeks.f
  simp only [en, ew]
  refine evb et ?_
  simp only [rdiv (a := t) (b := 86400) (by omega) (by omega) (by omega) (by omega), Option.bind_some]
  refine evb (cdate_dt (by omega) (by omega)) ?_
  simp only [if_true]
  have stop : Ev (fun k => solsticelaw22_FilterWeeks.j0 k t no wk (t / 86400) 0 true) true := evstep (by
    simp only [solsticelaw22_FilterWeeks.j0, if_true]
    exact evb wakes_ev (evs rfl))
  refine evif (fun _ => stop) (fun c2 => ?_)
  by_cases c9 : (dt (t / 86400)).1 > 9997
  · simp only [decide_eq_true c9]; exact stop
  simp only [decide_eq_false c9]
  have hyr : yr (t / 86400) = (dt (t / 86400)).1 := rfl
  have hb := yr_bd (n := t / 86400) (by omega) (by omega)
  have hm := yr_mid (k := wk) hy.2.2.1 hy.2.2.2
  have hv := noV_in hy.2.2.1 hy.2.2.2 w0 hw1
  have mf := mid_fw hm.2.2.1 hm.2.2.2
  -- the week's year is one of 1 to 9998
  have hd := dnw_bd (t / 86400) wk
  have b1 := yr_bd hm.2.2.1 hm.2.2.2
  have a1' := ah_le (a := 2) (b := yr (t / 86400)) (by omega)
  have a2' := ah_le (a := yr (t / 86400) + 1) (b := 9998) (by omega)
  have e2 : ah 2 = 731 := by decide +kernel
  have e9 : ah 9998 = 3651695 := by decide +kernel
  have e1 : ah 1 = 366 := by decide +kernel
  have e99 : ah 9999 = 3652060 := by decide +kernel
  have hY : 1 ≤ yr (mid (t / 86400) wk) ∧ yr (mid (t / 86400) wk) ≤ 9998 := by
    constructor
    · have := ah_mono (a := 1) (b := yr (mid (t / 86400) wk) + 1) (by unfold mid at *; omega)
      omega
    · have := ah_mono (a := yr (mid (t / 86400) wk)) (b := 9999) (by unfold mid at *; omega)
      omega
  generalize hYe : yr (mid (t / 86400) wk) = Y at *
  generalize hn : t / 86400 = n at *
  have f7 := fw_7 Y (Y + 1) wk
  have fb1 := fw_bd Y wk
  have fb2 := fw_bd (Y + 1) wk
  have asu := ah_succ Y
  have lp := lpi_01 Y
  have abd := ah_bd (y := Y) (by omega) (by omega)
  refine evstep ?_
  simp only [solsticelaw22_FilterWeeks.j0, Bool.false_eq_true, if_false]
  refine evb (wno n wk) ?_
  rw [hv]
  dsimp only
  refine evb (wweeks Y wk) ?_
  have hweeks : weeksV Y wk = ((fw (Y + 1) wk - fw Y wk) / 7, 0) := by unfold weeksV; rw [if_pos ⟨w0, hw1⟩, if_pos ⟨by omega, by omega⟩]
  rw [hweeks]
  dsimp only
  generalize hk : (n - fw Y wk) / 7 + 1 = kk at *
  generalize hW : (fw (Y + 1) wk - fw Y wk) / 7 = W at *
  have hk1 : 1 ≤ kk ∧ kk ≤ W ∧ W ≤ 53 := by omega
  rw [w64 (x := -no) (by omega) (by omega), w64 (x := t - 86400) (by omega) (by omega), w64 (x := W - kk) (by omega) (by omega), w64 (x := W - kk + 1) (by omega) (by omega)]
  have e2' : ah 2 ≤ n + 719528 := by omega
  have ht3 : InT (t - 86400) := by unfold InT; omega
  have L : ∀ q s : Int, s % 86400 = t % 86400 → letsV (rw_ q wk) s t = (eitherV [q] kk W && (wd n == wd (s / 86400))) := fun q s hs => by
    rw [lets_rw ht w0 hw1 hs, hn, hv]
    dsimp only
    rw [hW]
  have E : ∀ q : Int, eitherV [q] kk W = decide (kk = q ∨ kk - W - 1 = q) := fun q => by
    unfold eitherV
    rw [Bool.eq_iff_iff]
    simp
  refine evb (flets (rw_right (Or.inl ⟨n0, n1⟩) w0 hw1) ht ht) ?_
  refine evb (flets (rw_right (no := -no) (Or.inr ⟨by omega, by omega⟩) w0 hw1) ht ht) ?_
  refine evb (flets (rw_right (no := kk) (Or.inl ⟨hk1.1, by omega⟩) w0 hw1) ht3 ht) ?_
  rw [L _ _ rfl, L _ _ rfl, L _ (t - 86400) (by omega), E, E, E, hn]
  have d1 : (wd n == wd n) = true := by simp
  have d2 : (wd n == wd ((t - 86400) / 86400)) = false := by
    rw [show (t - 86400) / 86400 = n - 1 by omega]
    rw [beq_eq_false_iff_ne]
    unfold wd
    omega
  rw [d1, d2]
  simp only [Bool.and_true, Bool.and_false, if_true, Bool.false_eq_true, if_false]
  refine evp ?_ (evp ?_ (evb wakes_ev (evs rfl)))
  · rw [beq_iff_eq, Bool.eq_iff_iff, decide_eq_true_eq, beq_iff_eq]; omega
  · rw [beq_iff_eq, Bool.eq_iff_iff, decide_eq_true_eq, beq_iff_eq]; omega
end Go.Proofs.Ytmhpmkbifhgnbaa.Pure
