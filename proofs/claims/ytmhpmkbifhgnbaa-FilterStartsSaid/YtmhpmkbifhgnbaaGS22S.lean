/- What the reference's dates, Some and wakes of the statements of layer 22 compute. -/
import Derived.Test.YtmhpmkbifhgnbaaG22S
import Derived.Test.YtmhpmkbifhgnbaaOx58
import Derived.Test.YtmhpmkbifhgnbaaOx66
import Derived.Test.YtmhpmkbifhgnbaaOx79
namespace Go.Proofs.Ytmhpmkbifhgnbaa.Pure
open Go.RowKit Go.Proofs.Ytmhpmkbifhgnbaa.O Go.Proofs.YtmhpmkbifhgnbaaW.PrintWords Go.Proofs.YtmhpmkbifhgnbaaW.PrintLast
open Go.Proofs.Ytmhpmkbifhgnbaa.Civ
set_option linter.unusedVariables false
set_option linter.unusedSimpArgs false
theorem rnum_l (y m d b : Int) (hy : 0 ≤ y) (hy' : y ≤ 20000) (hb : -1000000000 ≤ b) (hb' : b ≤ 1000000000) (hm : m ≤ 13) (hd : 0 ≤ d) (hd' : d ≤ 1000000) : ∀ (n : Nat) (j : Int), 1 ≤ j → j + n = m → Ev (fun k => solsticeref01_Number.l0 k y (b + cum y j) j y m d) (b + cum y m + d - 1 - 719528) := by
  intro n
  induction n with
  | zero =>
    intro j h1 h2
    obtain rfl : j = m := by omega
    have hc := cum_bd y j h1 (by omega)
    have hp := lpi_01 y
    refine evstep ?_
    simp only [solsticeref01_Number.l0, Int.lt_irrefl, if_false]
    refine evs ?_
    rw [w64 (x := b + cum y j + d) (by omega) (by omega), w64 (x := b + cum y j + d - 1) (by omega) (by omega), w64 (by omega) (by omega)]
  | succ n ih =>
    intro j h1 h2
    refine evstep ?_
    simp only [solsticeref01_Number.l0, if_pos (show j < m by omega)]
    refine evb (rlen j (by omega) (by omega)) ?_
    have hc := cum_bd y j h1 (by omega)
    have hl := ln_bd y j h1 (by omega)
    have hp := lpi_01 y
    rw [w64 (x := b + cum y j + ln y j) (by omega) (by omega), w64 (x := j + 1) (by omega) (by omega), show b + cum y j + ln y j = b + cum y (j + 1) by rw [cum_succ y j h1 (by omega)]; omega]
    exact ih (j + 1) (by omega) (by omega)
theorem rnum' {y m d : Int} (hy : 0 ≤ y) (hy' : y ≤ 20000) (hm : 1 ≤ m) (hm' : m ≤ 13) (hd : 0 ≤ d) (hd' : d ≤ 1000000) : Ev (fun k => solsticeref01_Number.f k y m d) (num y m d) := by
  have ha : 365 * y + (y + 3) / 4 - (y + 99) / 100 + (y + 399) / 400 = ah y := by unfold ah; omega
  unfold solsticeref01_Number.f
  rw [w64 (x := y + 3) (by omega) (by omega), w64 (x := y + 99) (by omega) (by omega), w64 (x := y + 399) (by omega) (by omega), tdiv_nn 4 (by omega), tdiv_nn 100 (by omega), tdiv_nn 400 (by omega)]
  rw [w64 (x := 365 * y) (by omega) (by omega), w64 (x := (y + 3) / 4) (by omega) (by omega), w64 (x := (y + 99) / 100) (by omega) (by omega), w64 (x := (y + 399) / 400) (by omega) (by omega)]
  rw [w64 (x := 365 * y + (y + 3) / 4) (by omega) (by omega), w64 (x := 365 * y + (y + 3) / 4 - (y + 99) / 100) (by omega) (by omega), w64 (x := 365 * y + (y + 3) / 4 - (y + 99) / 100 + (y + 399) / 400) (by omega) (by omega), ha]
  have h1 := ah_le hy
  rw [ah_0] at h1
  have := rnum_l y m d (ah y) hy hy' (by omega) (by omega) hm' hd hd' (m - 1).toNat 1 (by omega) (by omega)
  rw [cum_1, Int.add_zero] at this
  rwa [show num y m d = ah y + cum y m + d - 1 - 719528 by unfold num; omega]
theorem rnum {y m d : Int} (h : Rt y m d) : Ev (fun k => solsticeref01_Number.f k y m d) (num y m d) := by
  obtain ⟨h1, h2, h3, h4, h5, h6⟩ := h
  have := ln_bd y m h3 h4
  exact rnum' h1 (by omega) h3 (by omega) (by omega) (by omega)
theorem rdate_l1 (y m d : Int) (h : Rt y m d) : ∀ (n : Nat) (j : Int), 1 ≤ j → j + n = m → Ev (fun k => solsticeref01_Date.l1 k y (cum y m + d - 1 - cum y j) y j 1) (y, m, d) := by
  obtain ⟨h1, h2, h3, h4, h5, h6⟩ := h
  have hl := ln_bd y m h3 h4
  have hp := lpi_01 y
  have hm := cum_bd y m h3 (by omega)
  intro n
  induction n with
  | zero =>
    intro j g1 g2
    obtain rfl : j = m := by omega
    refine evstep ?_
    simp only [solsticeref01_Date.l1]
    refine evif (fun hc => ?_) (fun hc => ?_)
    · refine evb (rlen j (by omega) (by omega)) ?_
      simp only [if_neg (show ¬ cum y j + d - 1 - cum y j ≥ ln y j by omega)]
      refine evstep ?_
      simp only [solsticeref01_Date.l1, if_neg (show ¬ (0 : Int) > 0 by omega)]
      refine evs ?_
      rw [w64 (by omega) (by omega), show cum y j + d - 1 - cum y j + 1 = d by omega]
    · refine evs ?_
      rw [show d = 1 by omega]
  | succ n ih =>
    intro j g1 g2
    have hn := cum_next y g1 (show j < m by omega) (by omega)
    have hj := cum_bd y j g1 (by omega)
    have hs := cum_succ y j g1 (by omega)
    have hlj := ln_bd y j g1 (by omega)
    refine evstep ?_
    simp only [solsticeref01_Date.l1, if_pos (show cum y m + d - 1 - cum y j > 0 by omega)]
    refine evb (rlen j (by omega) (by omega)) ?_
    simp only [if_pos (show cum y m + d - 1 - cum y j ≥ ln y j by omega)]
    rw [w64 (by omega) (by omega), w64 (by omega) (by omega), show cum y m + d - 1 - cum y j - ln y j = cum y m + d - 1 - cum y (j + 1) by omega]
    exact ih (j + 1) (by omega) (by omega)
theorem rdate_l0 (y m d : Int) (h : Rt y m d) : ∀ (n : Nat) (j : Int), 0 ≤ j → j + n = y → Ev (fun k => solsticeref01_Date.l0 k (num y m d) j) (y, m, d) := by
  have hbn := num_bd h
  have hn := num_in h
  obtain ⟨h1, h2, h3, h4, h5, h6⟩ := id h
  have hb := ah_bd h1 (by omega)
  have hl := ln_bd y m h3 h4
  have hp := lpi_01 y
  have hm := cum_bd y m h3 (by omega)
  have e1 : ∀ z : Int, num z 1 1 = ah z - 719528 := by intro z; have := cum_1 z; unfold num; omega
  have last : Ev (fun k => solsticeref01_Date.j1 k (num y m d) y) (y, m, d) := by
    refine evstep ?_
    simp only [solsticeref01_Date.j1]
    refine evb (rnum' (y := y) (m := 1) (d := 1) h1 (by omega) (by omega) (by omega) (by omega) (by omega)) ?_
    rw [e1, w64 (by omega) (by omega)]
    have := rdate_l1 y m d h (m - 1).toNat 1 (by omega) (by omega)
    rwa [cum_1, show cum y m + d - 1 - 0 = num y m d - (ah y - 719528) by unfold num; omega] at this
  intro n
  induction n with
  | zero =>
    intro j g1 g2
    obtain rfl : j = y := by omega
    refine evstep ?_
    simp only [solsticeref01_Date.l0]
    refine evif (fun hc => ?_) (fun hc => last)
    rw [w64 (x := j + 1) (by omega) (by omega)]
    refine evb (rnum' (y := j + 1) (m := 1) (d := 1) (by omega) (by omega) (by omega) (by omega) (by omega) (by omega)) ?_
    simp only [e1, if_neg (show ¬ ah (j + 1) - 719528 ≤ num j m d by omega)]
    exact last
  | succ n ih =>
    intro j g1 g2
    have hle := ah_le (a := j + 1) (b := y) (by omega)
    refine evstep ?_
    simp only [solsticeref01_Date.l0, if_pos (show j < 10000 by omega)]
    rw [w64 (x := j + 1) (by omega) (by omega)]
    refine evb (rnum' (y := j + 1) (m := 1) (d := 1) (by omega) (by omega) (by omega) (by omega) (by omega) (by omega)) ?_
    simp only [e1, if_pos (show ah (j + 1) - 719528 ≤ num y m d by omega)]
    exact ih (j + 1) (by omega) (by omega)
theorem rdate {y m d : Int} (h : Rt y m d) : Ev (fun k => solsticeref01_Date.f k (num y m d)) (y, m, d) := by
  have hb := num_bd h
  have hn := num_in h
  have hu := ah_le (a := 0) (b := y + 1) (by have := h.1; omega)
  rw [ah_0] at hu
  unfold solsticeref01_Date.f
  rw [w64 (x := num y m d + 719528) (by omega) (by omega), tdiv_nn 366 (by omega), w64 (by omega) (by omega)]
  exact rdate_l0 y m d h (y - (num y m d + 719528) / 366).toNat _ (by omega) (by omega)
theorem rdate_dt {n : Int} (h : -719528 ≤ n) (h' : n ≤ 2933262) : Ev (fun k => solsticeref01_Date.f k n) (dt n) := by
  have s := dt_spec h h'
  have := rdate s.1
  rwa [s.2] at this
theorem wakes_ev : Ev (fun k => solsticelaw22_wakes.f k) true := Ev.of solsticelaw22_wakes.mono (k := 60) (by decide +kernel)
theorem um (a : Int) {n : Int} (hn : 0 < n) (hn' : n ≤ 1000000) : ∃ r, 0 ≤ r ∧ r < n ∧ wrap64 (Int.tmod (IntKind.u64.wrap a) n) = r := by
  have h1 := Int.emod_nonneg (IntKind.u64.wrap a) (show n ≠ 0 by omega)
  have h2 := Int.emod_lt_of_pos (IntKind.u64.wrap a) hn
  refine ⟨IntKind.u64.wrap a % n, h1, h2, ?_⟩
  rw [tmod_nn n (by rw [u64w]; omega), w64 (by omega) (by omega)]
theorem um1 (a : Int) {n : Int} (hn : 0 < n) (hn' : n ≤ 1000000) : ∃ r, 1 ≤ r ∧ r ≤ n ∧ wrap64 (1 + wrap64 (Int.tmod (IntKind.u64.wrap a) n)) = r := by
  obtain ⟨r, h1, h2, e⟩ := um a hn hn'
  refine ⟨1 + r, by omega, by omega, ?_⟩
  rw [e, w64 (by omega) (by omega)]
theorem some20 (a : Int) : ∃ t, InT t ∧ Ev (fun k => solsticelaw20_Some.f k a) t := by
  refine ⟨-62135596800 + IntKind.u64.wrap a % 315537897600, by rw [u64w]; unfold InT; omega, ?_⟩
  unfold solsticelaw20_Some.f
  refine evb (rnum (rt_first (by omega) (by omega))) (evb (rnum (rt_first (by omega) (by omega))) ?_)
  rw [num_least, num_most, w64 (x := 86400 * -719162) (by omega) (by omega), w64 (x := 86400 * 2932897) (by omega) (by omega), w64 (x := 86400 * 2932897 - 86400 * -719162) (by omega) (by omega)]
  have e : IntKind.u64.wrap (86400 * 2932897 - 86400 * -719162) = 315537897600 := by rw [u64w]; rfl
  rw [e]
  refine evn (by omega) (evs ?_)
  rw [tmod_nn _ (by rw [u64w]; omega), w64 (x := IntKind.u64.wrap a % 315537897600) (by rw [u64w]; omega) (by rw [u64w]; omega), w64 (by rw [u64w]; omega) (by rw [u64w]; omega)]
  rfl
end Go.Proofs.Ytmhpmkbifhgnbaa.Pure
