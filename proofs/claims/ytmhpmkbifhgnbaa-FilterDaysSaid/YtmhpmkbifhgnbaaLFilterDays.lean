/- FilterDays in plain numbers: what the law computes is true at all arguments. No condition but that each is an int. -/
import Derived.Test.YtmhpmkbifhgnbaaG22D
import Derived.Test.YtmhpmkbifhgnbaaOx0
import Derived.Test.YtmhpmkbifhgnbaaOx23
import Derived.Test.YtmhpmkbifhgnbaaOx66
import Derived.Test.YtmhpmkbifhgnbaaOx79
import Derived.Test.YtmhpmkbifhgnbaaOx82
namespace Go.Proofs.Ytmhpmkbifhgnbaa.Pure
open Go.RowKit Go.Proofs.Ytmhpmkbifhgnbaa.O Go.Proofs.YtmhpmkbifhgnbaaW.PrintWords Go.Proofs.YtmhpmkbifhgnbaaW.PrintLast
open Go.Proofs.Ytmhpmkbifhgnbaa.Civ
set_option linter.unusedVariables false
set_option linter.unusedSimpArgs false
theorem rnum_l (y m d b : Int) (hy : 0 ≤ y) (hy' : y ≤ 20000) (hb : -1000000000 ≤ b) (hb' : b ≤ 1000000000) (hm : m ≤ 13) (hd : 0 ≤ d) (hd' : d ≤ 1000000) : ∀ (n : Nat) (j : Int), 1 ≤ j → j + n = m → Ev (fun k => solsticeref01_Number.l0 k y (b + cum y j) j y m d) (b + cum y m + d - 1 - 719528) := by
  intro n
  induction n with
  | zero =>
    intro j h1 h2
    obtain rfl : j = m := by omega
    have hc := cum_bd y j h1 (by omega)
    have hp := lpi_01 y
    refine evstep ?_
    simp only [solsticeref01_Number.l0, Int.lt_irrefl, if_false]
    refine evs ?_
    rw [w64 (x := b + cum y j + d) (by omega) (by omega), w64 (x := b + cum y j + d - 1) (by omega) (by omega), w64 (by omega) (by omega)]
  | succ n ih =>
    intro j h1 h2
    refine evstep ?_
    simp only [solsticeref01_Number.l0, if_pos (show j < m by omega)]
    refine evb (rlen j (by omega) (by omega)) ?_
    have hc := cum_bd y j h1 (by omega)
    have hl := ln_bd y j h1 (by omega)
    have hp := lpi_01 y
    rw [w64 (x := b + cum y j + ln y j) (by omega) (by omega), w64 (x := j + 1) (by omega) (by omega), show b + cum y j + ln y j = b + cum y (j + 1) by rw [cum_succ y j h1 (by omega)]; omega]
    exact ih (j + 1) (by omega) (by omega)
theorem rnum' {y m d : Int} (hy : 0 ≤ y) (hy' : y ≤ 20000) (hm : 1 ≤ m) (hm' : m ≤ 13) (hd : 0 ≤ d) (hd' : d ≤ 1000000) : Ev (fun k => solsticeref01_Number.f k y m d) (num y m d) := by
  have ha : 365 * y + (y + 3) / 4 - (y + 99) / 100 + (y + 399) / 400 = ah y := by unfold ah; omega
  unfold solsticeref01_Number.f
  rw [w64 (x := y + 3) (by omega) (by omega), w64 (x := y + 99) (by omega) (by omega), w64 (x := y + 399) (by omega) (by omega), tdiv_nn 4 (by omega), tdiv_nn 100 (by omega), tdiv_nn 400 (by omega)]
  rw [w64 (x := 365 * y) (by omega) (by omega), w64 (x := (y + 3) / 4) (by omega) (by omega), w64 (x := (y + 99) / 100) (by omega) (by omega), w64 (x := (y + 399) / 400) (by omega) (by omega)]
  rw [w64 (x := 365 * y + (y + 3) / 4) (by omega) (by omega), w64 (x := 365 * y + (y + 3) / 4 - (y + 99) / 100) (by omega) (by omega), w64 (x := 365 * y + (y + 3) / 4 - (y + 99) / 100 + (y + 399) / 400) (by omega) (by omega), ha]
  have h1 := ah_le hy
  rw [ah_0] at h1
  have := rnum_l y m d (ah y) hy hy' (by omega) (by omega) hm' hd hd' (m - 1).toNat 1 (by omega) (by omega)
  rw [cum_1, Int.add_zero] at this
  rwa [show num y m d = ah y + cum y m + d - 1 - 719528 by unfold num; omega]
theorem rnum {y m d : Int} (h : Rt y m d) : Ev (fun k => solsticeref01_Number.f k y m d) (num y m d) := by
  obtain ⟨h1, h2, h3, h4, h5, h6⟩ := h
  have := ln_bd y m h3 h4
  exact rnum' h1 (by omega) h3 (by omega) (by omega) (by omega)
theorem rdate_l1 (y m d : Int) (h : Rt y m d) : ∀ (n : Nat) (j : Int), 1 ≤ j → j + n = m → Ev (fun k => solsticeref01_Date.l1 k y (cum y m + d - 1 - cum y j) y j 1) (y, m, d) := by
  obtain ⟨h1, h2, h3, h4, h5, h6⟩ := h
  have hl := ln_bd y m h3 h4
  have hp := lpi_01 y
  have hm := cum_bd y m h3 (by omega)
  intro n
  induction n with
  | zero =>
    intro j g1 g2
    obtain rfl : j = m := by omega
    refine evstep ?_
    simp only [solsticeref01_Date.l1]
    refine evif (fun hc => ?_) (fun hc => ?_)
    · refine evb (rlen j (by omega) (by omega)) ?_
      simp only [if_neg (show ¬ cum y j + d - 1 - cum y j ≥ ln y j by omega)]
      refine evstep ?_
      simp only [solsticeref01_Date.l1, if_neg (show ¬ (0 : Int) > 0 by omega)]
      refine evs ?_
      rw [w64 (by omega) (by omega), show cum y j + d - 1 - cum y j + 1 = d by omega]
    · refine evs ?_
      rw [show d = 1 by omega]
  | succ n ih =>
    intro j g1 g2
    have hn := cum_next y g1 (show j < m by omega) (by omega)
    have hj := cum_bd y j g1 (by omega)
    have hs := cum_succ y j g1 (by omega)
    have hlj := ln_bd y j g1 (by omega)
    refine evstep ?_
    simp only [solsticeref01_Date.l1, if_pos (show cum y m + d - 1 - cum y j > 0 by omega)]
    refine evb (rlen j (by omega) (by omega)) ?_
    simp only [if_pos (show cum y m + d - 1 - cum y j ≥ ln y j by omega)]
    rw [w64 (by omega) (by omega), w64 (by omega) (by omega), show cum y m + d - 1 - cum y j - ln y j = cum y m + d - 1 - cum y (j + 1) by omega]
    exact ih (j + 1) (by omega) (by omega)
theorem rdate_l0 (y m d : Int) (h : Rt y m d) : ∀ (n : Nat) (j : Int), 0 ≤ j → j + n = y → Ev (fun k => solsticeref01_Date.l0 k (num y m d) j) (y, m, d) := by
  have hbn := num_bd h
  have hn := num_in h
  obtain ⟨h1, h2, h3, h4, h5, h6⟩ := id h
  have hb := ah_bd h1 (by omega)
  have hl := ln_bd y m h3 h4
  have hp := lpi_01 y
  have hm := cum_bd y m h3 (by omega)
  have e1 : ∀ z : Int, num z 1 1 = ah z - 719528 := by intro z; have := cum_1 z; unfold num; omega
  have last : Ev (fun k => solsticeref01_Date.j1 k (num y m d) y) (y, m, d) := by
    refine evstep ?_
    simp only [solsticeref01_Date.j1]
    refine evb (rnum' (y := y) (m := 1) (d := 1) h1 (by omega) (by omega) (by omega) (by omega) (by omega)) ?_
    rw [e1, w64 (by omega) (by omega)]
    have := rdate_l1 y m d h (m - 1).toNat 1 (by omega) (by omega)
    rwa [cum_1, show cum y m + d - 1 - 0 = num y m d - (ah y - 719528) by unfold num; omega] at this
  intro n
  induction n with
  | zero =>
    intro j g1 g2
    obtain rfl : j = y := by omega
    refine evstep ?_
    simp only [solsticeref01_Date.l0]
    refine evif (fun hc => ?_) (fun hc => last)
    rw [w64 (x := j + 1) (by omega) (by omega)]
    refine evb (rnum' (y := j + 1) (m := 1) (d := 1) (by omega) (by omega) (by omega) (by omega) (by omega) (by omega)) ?_
    simp only [e1, if_neg (show ¬ ah (j + 1) - 719528 ≤ num j m d by omega)]
    exact last
  | succ n ih =>
    intro j g1 g2
    have hle := ah_le (a := j + 1) (b := y) (by omega)
    refine evstep ?_
    simp only [solsticeref01_Date.l0, if_pos (show j < 10000 by omega)]
    rw [w64 (x := j + 1) (by omega) (by omega)]
    refine evb (rnum' (y := j + 1) (m := 1) (d := 1) (by omega) (by omega) (by omega) (by omega) (by omega) (by omega)) ?_
    simp only [e1, if_pos (show ah (j + 1) - 719528 ≤ num y m d by omega)]
    exact ih (j + 1) (by omega) (by omega)
theorem rdate {y m d : Int} (h : Rt y m d) : Ev (fun k => solsticeref01_Date.f k (num y m d)) (y, m, d) := by
  have hb := num_bd h
  have hn := num_in h
  have hu := ah_le (a := 0) (b := y + 1) (by have := h.1; omega)
  rw [ah_0] at hu
  unfold solsticeref01_Date.f
  rw [w64 (x := num y m d + 719528) (by omega) (by omega), tdiv_nn 366 (by omega), w64 (by omega) (by omega)]
  exact rdate_l0 y m d h (y - (num y m d + 719528) / 366).toNat _ (by omega) (by omega)
theorem rdate_dt {n : Int} (h : -719528 ≤ n) (h' : n ≤ 2933262) : Ev (fun k => solsticeref01_Date.f k n) (dt n) := by
  have s := dt_spec h h'
  have := rdate s.1
  rwa [s.2] at this
theorem rwd {n : Int} (h : -9223372036854775808 ≤ n) (h' : n < 9223372036854775808) : solsticeref01_Weekday.f n = some (wd n) := by
  unfold solsticeref01_Weekday.f wd
  rw [rdiv (by omega) (by omega) h h']
  simp only [Option.bind_some]
  rw [w64 (by omega) (by omega), tmod_nn 7 (by omega)]
  congr 1
  omega
theorem ryd {y m d : Int} (h : Rt y m d) : Ev (fun k => solsticeref01_YearDay.f k (num y m d)) (cum y m + d) := by
  have h1 : Rt y 1 1 := ⟨h.1, h.2.1, by omega, by omega, by omega, by have := ln_bd y 1 (by omega) (by omega); omega⟩
  have a := num_bd h
  have b := num_bd h1
  unfold solsticeref01_YearDay.f
  refine evb (rdate h) (evb (rnum h1) (evs ?_))
  rw [w64 (x := num y m d - num y 1 1) (by omega) (by omega), w64 (by omega) (by omega)]
  have := cum_1 y
  unfold num
  omega
theorem wakes_ev : Ev (fun k => solsticelaw22_wakes.f k) true := Ev.of solsticelaw22_wakes.mono (k := 60) (by decide +kernel)
theorem um (a : Int) {n : Int} (hn : 0 < n) (hn' : n ≤ 1000000) : ∃ r, 0 ≤ r ∧ r < n ∧ wrap64 (Int.tmod (IntKind.u64.wrap a) n) = r := by
  have h1 := Int.emod_nonneg (IntKind.u64.wrap a) (show n ≠ 0 by omega)
  have h2 := Int.emod_lt_of_pos (IntKind.u64.wrap a) hn
  refine ⟨IntKind.u64.wrap a % n, h1, h2, ?_⟩
  rw [tmod_nn n (by rw [u64w]; omega), w64 (by omega) (by omega)]
theorem um1 (a : Int) {n : Int} (hn : 0 < n) (hn' : n ≤ 1000000) : ∃ r, 1 ≤ r ∧ r ≤ n ∧ wrap64 (1 + wrap64 (Int.tmod (IntKind.u64.wrap a) n)) = r := by
  obtain ⟨r, h1, h2, e⟩ := um a hn hn'
  refine ⟨1 + r, by omega, by omega, ?_⟩
  rw [e, w64 (by omega) (by omega)]
theorem some20 (a : Int) : ∃ t, InT t ∧ Ev (fun k => solsticelaw20_Some.f k a) t := by
  refine ⟨-62135596800 + IntKind.u64.wrap a % 315537897600, by rw [u64w]; unfold InT; omega, ?_⟩
  unfold solsticelaw20_Some.f
  refine evb (rnum (rt_first (by omega) (by omega))) (evb (rnum (rt_first (by omega) (by omega))) ?_)
  rw [num_least, num_most, w64 (x := 86400 * -719162) (by omega) (by omega), w64 (x := 86400 * 2932897) (by omega) (by omega), w64 (x := 86400 * 2932897 - 86400 * -719162) (by omega) (by omega)]
  have e : IntKind.u64.wrap (86400 * 2932897 - 86400 * -719162) = 315537897600 := by rw [u64w]; rfl
  rw [e]
  refine evn (by omega) (evs ?_)
  rw [tmod_nn _ (by rw [u64w]; omega), w64 (x := IntKind.u64.wrap a % 315537897600) (by rw [u64w]; omega) (by rw [u64w]; omega), w64 (by rw [u64w]; omega) (by rw [u64w]; omega)]
  rfl
/-- A rule of one weekday, with a number. -/
def rd_ (fr nu wn : Int) : RR := ⟨fr, 1, 0, false, 0, false, [], [], [], [⟨nu, wn⟩], [], [], [], [], [], 0⟩
theorem rd_right {fr nu wn : Int} (hf : fr = 6 ∨ fr = 7) (h0 : -53 ≤ nu) (h1 : nu ≤ 53) (w0 : 0 ≤ wn) (w1 : wn ≤ 6) : Right (rd_ fr nu wn) := by
  refine ⟨?_, (show (0 : Int) ≤ 0 by decide), (show (0 : Int) ≤ 100000 by decide), rfl, rfl, rfl, rfl, Or.inl ⟨rfl, rfl, rfl⟩⟩
  have e2 : ∀ (a b : Int) (c : Bool), okList [] a b c = true := fun a b c => by unfold okList rightB dupI; simp
  rcases hf with rfl | rfl
  all_goals
    unfold okRecur rd_
    simp only [e2, okBy, dis47, List.all_cons, List.all_nil, decide_eq_true h0, decide_eq_true h1, decide_eq_true w0, decide_eq_true w1, Bool.and_self]
    cases decide (nu = 0) <;> rfl
theorem lets_rd {fr nu wn t : Int} : letsV (rd_ fr nu wn) t t = (decide (wn = wd (t / 86400)) && (decide (nu = 0) || ((nthV (fromV (rd_ fr nu wn) (t / 86400)) (toV (rd_ fr nu wn) (t / 86400)) nu wn).2 && ((nthV (fromV (rd_ fr nu wn) (t / 86400)) (toV (rd_ fr nu wn) (t / 86400)) nu wn).1 == t / 86400)))) := by
  have e1 : clockV (rd_ fr nu wn) (t % 86400) (t % 86400) = true := by unfold clockV oneV rd_; simp
  unfold letsV
  rw [e1]
  have e2 : likeV (rd_ fr nu wn) (t / 86400) (t / 86400) = true := by unfold likeV rd_; simp
  unfold dayV
  rw [e2]
  show (true && ((decide ((rd_ fr nu wn).dy = []) || [(⟨nu, wn⟩ : S47)].any (numberedV (rd_ fr nu wn) (t / 86400))) && true)) = _
  simp only [List.any_cons, List.any_nil, Bool.or_false, Bool.and_true, Bool.true_and, numberedV]
  rfl
/-- The num-th from the beginning. -/
theorem nth_fwd {f t n nu wn : Int} (hw : wn = wd n) (h0 : 1 ≤ nu) (h1 : nu ≤ 53) (hf : f ≤ n) (ht : n ≤ t) : ((nthV f t nu wn).2 && ((nthV f t nu wn).1 == n)) = decide ((n - f) / 7 + 1 = nu) := by
  have e : nthA f nu wn = f + (n - f) % 7 + 7 * (nu - 1) := by unfold nthA upw; rw [hw]; unfold wd; omega
  have hb := wd_bd n
  rw [Bool.eq_iff_iff, Bool.and_eq_true, decide_eq_true_eq, beq_iff_eq]
  unfold nthV
  constructor
  · intro ⟨a, b⟩
    by_cases c : nthP f t nu wn
    · rw [if_pos c, if_pos (by omega)] at b
      dsimp only at b
      omega
    · rw [if_neg c] at a; cases a
  · intro a
    have en : nthA f nu wn = n := by omega
    have c : nthP f t nu wn := ⟨by omega, by omega, by omega, by omega, by omega, by omega, Or.inl ⟨by omega, by omega⟩⟩
    rw [if_pos c, if_pos (by omega)]
    exact ⟨rfl, en⟩
theorem nth_bwd {f t n nu wn : Int} (hw : wn = wd n) (h0 : 1 ≤ nu) (h1 : nu ≤ 53) (hf : f ≤ n) (ht : n ≤ t) : ((nthV f t (-nu) wn).2 && ((nthV f t (-nu) wn).1 == n)) = decide ((t - n) / 7 + 1 = nu) := by
  have e : nthB t (-nu) wn = t - (t - n) % 7 - 7 * (nu - 1) := by unfold nthB dnw; rw [hw]; unfold wd; omega
  have hb := wd_bd n
  rw [Bool.eq_iff_iff, Bool.and_eq_true, decide_eq_true_eq, beq_iff_eq]
  unfold nthV
  constructor
  · intro ⟨a, b⟩
    by_cases c : nthP f t (-nu) wn
    · rw [if_pos c, if_neg (by omega)] at b
      dsimp only at b
      omega
    · rw [if_neg c] at a; cases a
  · intro a
    have en : nthB t (-nu) wn = n := by omega
    have c : nthP f t (-nu) wn := ⟨by omega, by omega, by omega, by omega, by omega, by omega, Or.inr ⟨by omega, by omega⟩⟩
    rw [if_pos c, if_neg (by omega)]
    exact ⟨rfl, en⟩
theorem FilterDays : solsticelaw22_FilterDays.Pure := by
  intro a0 a1 a2 a3 _ _ _
  obtain ⟨t, ht, et⟩ := some20 a0
  obtain ⟨nu, n0, n1, en⟩ := um1 a1 (n := 53) (by omega) (by omega)
  obtain ⟨wn, w0, w1, ew⟩ := um a2 (n := 7) (by omega) (by omega)
  have hy := dt_year ht
  have ht2 := ht
  unfold InT at ht2
  have hs := dt_spec (n := t / 86400) (by omega) (by omega)
  have hR := hs.1
  have hw1 : wn ≤ 6 := by omega
  refine Ev.rounds ?_
  unfold solsticelaw22_FilterDays.f
  simp only [en, ew]
  refine evb et ?_
  simp only [rdiv (a := t) (b := 86400) (by omega) (by omega) (by omega) (by omega), Option.bind_some]
  refine evb (rdate_dt (by omega) (by omega)) ?_
  refine evb (rlen _ (by omega) (by omega)) ?_
  have hyd : Ev (fun k => solsticeref01_YearDay.f k (t / 86400)) (cum (dt (t / 86400)).1 (dt (t / 86400)).2.1 + (dt (t / 86400)).2.2) := by
    have := ryd hR
    rw [hs.2] at this
    exact this
  refine evb hyd ?_
  simp only [rlong (y := (dt (t / 86400)).1) (by omega) (by omega), rwd (n := t / 86400) (by omega) (by omega), Option.bind_some]
  rw [w64 (x := -nu) (by omega) (by omega)]
  have hfr : (if a3 = true then (7 : Int) else 6) = 6 ∨ (if a3 = true then (7 : Int) else 6) = 7 := by cases a3 <;> simp
  refine evb (flets (rd_right hfr (by omega) (by omega) w0 hw1) ht ht) ?_
  refine evb (flets (rd_right (nu := -nu) hfr (by omega) (by omega) w0 hw1) ht ht) ?_
  refine evb wakes_ev ?_
  rw [lets_rd, lets_rd]
  have cb := cum_bd (dt (t / 86400)).1 (dt (t / 86400)).2.1 hR.2.2.1 (by have := hR.2.2.2.1; omega)
  have lb := ln_bd (dt (t / 86400)).1 (dt (t / 86400)).2.1 hR.2.2.1 hR.2.2.2.1
  have cs := cum_le (dt (t / 86400)).1 (a := (dt (t / 86400)).2.1) (b := 13) hR.2.2.1 (by have := hR.2.2.2.1; omega) (by omega)
  have c13 := cum_13 (dt (t / 86400)).1
  have csu := cum_next (dt (t / 86400)).1 (a := (dt (t / 86400)).2.1) (b := 13) hR.2.2.1 (by have := hR.2.2.2.1; omega) (by omega)
  have l01 := lpi_01 (dt (t / 86400)).1
  have hdd := hR.2.2.2.2
  have hnum : num (dt (t / 86400)).1 (dt (t / 86400)).2.1 (dt (t / 86400)).2.2 = t / 86400 := hs.2
  have hfrom : (dt (t / 86400)).1 = (dt (t / 86400)).1 := rfl
  have goal : ∀ p left : Int, p - 1 = t / 86400 - fromV (rd_ (if a3 = true then 7 else 6) nu wn) (t / 86400) → left = toV (rd_ (if a3 = true then 7 else 6) nu wn) (t / 86400) - t / 86400 → 1 ≤ p → p ≤ 366 → 0 ≤ left → left ≤ 366 →
      ((decide (wn = wd (t / 86400)) && (decide (nu = 0) || ((nthV (fromV (rd_ (if a3 = true then 7 else 6) nu wn) (t / 86400)) (toV (rd_ (if a3 = true then 7 else 6) nu wn) (t / 86400)) nu wn).2 && ((nthV (fromV (rd_ (if a3 = true then 7 else 6) nu wn) (t / 86400)) (toV (rd_ (if a3 = true then 7 else 6) nu wn) (t / 86400)) nu wn).1 == t / 86400)))) = (decide (wd (t / 86400) = wn) && decide (wrap64 (wrap64 (Int.tdiv (wrap64 (p - 1)) 7) + 1) = nu)) ∧
       (decide (wn = wd (t / 86400)) && (decide (-nu = 0) || ((nthV (fromV (rd_ (if a3 = true then 7 else 6) (-nu) wn) (t / 86400)) (toV (rd_ (if a3 = true then 7 else 6) (-nu) wn) (t / 86400)) (-nu) wn).2 && ((nthV (fromV (rd_ (if a3 = true then 7 else 6) (-nu) wn) (t / 86400)) (toV (rd_ (if a3 = true then 7 else 6) (-nu) wn) (t / 86400)) (-nu) wn).1 == t / 86400)))) = (decide (wd (t / 86400) = wn) && decide (wrap64 (wrap64 (Int.tdiv left 7) + 1) = nu)) ∧ true = true) := by
    intro p left hp hl p0 p1 l0 l1
    have ef : fromV (rd_ (if a3 = true then 7 else 6) (-nu) wn) (t / 86400) = fromV (rd_ (if a3 = true then 7 else 6) nu wn) (t / 86400) := rfl
    have et : toV (rd_ (if a3 = true then 7 else 6) (-nu) wn) (t / 86400) = toV (rd_ (if a3 = true then 7 else 6) nu wn) (t / 86400) := rfl
    rw [ef, et]
    generalize fromV (rd_ (if a3 = true then 7 else 6) nu wn) (t / 86400) = F at *
    generalize toV (rd_ (if a3 = true then 7 else 6) nu wn) (t / 86400) = T at *
    rw [decide_eq_false (show ¬ nu = 0 by omega), decide_eq_false (show ¬ -nu = 0 by omega), Bool.false_or, Bool.false_or]
    rw [w64 (x := p - 1) (by omega) (by omega), tdiv_nn 7 (a := p - 1) (by omega), tdiv_nn 7 (a := left) l0, w64 (x := (p - 1) / 7) (by omega) (by omega), w64 (x := (p - 1) / 7 + 1) (by omega) (by omega), w64 (x := left / 7) (by omega) (by omega), w64 (x := left / 7 + 1) (by omega) (by omega)]
    by_cases q : wn = wd (t / 86400)
    · rw [decide_eq_true q, decide_eq_true q.symm, Bool.true_and, Bool.true_and, Bool.true_and, Bool.true_and, nth_fwd q n0 n1 (by omega) (by omega), nth_bwd q n0 n1 (by omega) (by omega), hp, hl]
      exact ⟨rfl, rfl, rfl⟩
    · rw [decide_eq_false q, decide_eq_false (fun e => q e.symm)]
      simp
  refine evp ?_ (Ev.now _)
  cases a3 with
  | false =>
    simp only [Bool.false_eq_true, if_false] at goal ⊢
    rw [w64 (x := ln (dt (t / 86400)).1 (dt (t / 86400)).2.1 - (dt (t / 86400)).2.2) (by omega) (by omega)]
    refine goal _ _ ?_ ?_ (by omega) (by omega) (by omega) (by omega)
    · have : fromV (rd_ 6 nu wn) (t / 86400) = num (dt (t / 86400)).1 (dt (t / 86400)).2.1 1 := by unfold fromV rd_; rw [if_pos (Or.inl rfl)]
      rw [this]; unfold num at hnum ⊢; omega
    · have : toV (rd_ 6 nu wn) (t / 86400) = num (dt (t / 86400)).1 (dt (t / 86400)).2.1 1 + ln (dt (t / 86400)).1 (dt (t / 86400)).2.1 - 1 := by unfold toV rd_; rw [if_pos (Or.inl rfl)]
      rw [this]; unfold num at hnum ⊢; omega
  | true =>
    simp only [if_true] at goal ⊢
    have hleft : (if lp (dt (t / 86400)).1 = true then wrap64 (wrap64 (wrap64 (364 - (cum (dt (t / 86400)).1 (dt (t / 86400)).2.1 + (dt (t / 86400)).2.2)) + 1) + 1) else wrap64 (wrap64 (364 - (cum (dt (t / 86400)).1 (dt (t / 86400)).2.1 + (dt (t / 86400)).2.2)) + 1)) = 365 + lpi (dt (t / 86400)).1 - (cum (dt (t / 86400)).1 (dt (t / 86400)).2.1 + (dt (t / 86400)).2.2) := by
      have q0 : 1 ≤ cum (dt (t / 86400)).1 (dt (t / 86400)).2.1 + (dt (t / 86400)).2.2 ∧ cum (dt (t / 86400)).1 (dt (t / 86400)).2.1 + (dt (t / 86400)).2.2 ≤ 366 := by omega
      generalize cum (dt (t / 86400)).1 (dt (t / 86400)).2.1 + (dt (t / 86400)).2.2 = q at *
      unfold lpi
      rw [w64 (x := 364 - q) (by omega) (by omega), w64 (x := 364 - q + 1) (by omega) (by omega), w64 (x := 364 - q + 1 + 1) (by omega) (by omega)]
      split <;> omega
    rw [hleft]
    refine goal _ _ ?_ ?_ (by omega) (by omega) (by omega) (by omega)
    · have : fromV (rd_ 7 nu wn) (t / 86400) = num (dt (t / 86400)).1 1 1 := by unfold fromV rd_; rw [if_neg (by simp)]
      rw [this, num_1]; unfold num at hnum; omega
    · have : toV (rd_ 7 nu wn) (t / 86400) = num (dt (t / 86400)).1 12 31 := by unfold toV rd_; rw [if_neg (by simp)]
      rw [this]; unfold num at hnum ⊢
      have : cum (dt (t / 86400)).1 12 = 334 + lpi (dt (t / 86400)).1 := by simp [cum]
      omega
end Go.Proofs.Ytmhpmkbifhgnbaa.Pure
