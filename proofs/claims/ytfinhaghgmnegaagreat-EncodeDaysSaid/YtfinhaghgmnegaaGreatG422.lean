/- What the functions of layers 2 and 3 and of their reference that these statements reach compute, in plain numbers. No condition beyond those each lemma names. -/
import Derived.Test.YtfinhaghgmnegaaGreatMWk
import Derived.Test.YtfinhaghgmnegaaGreatOx164
import Derived.Test.YtfinhaghgmnegaaGreatOx18
import Derived.Test.YtfinhaghgmnegaaGreatMOx20
import Derived.Test.YtfinhaghgmnegaaGreatMOx3
import Derived.Test.YtfinhaghgmnegaaGreatOx25
import Derived.Test.YtfinhaghgmnegaaGreatOx43
import Derived.Test.YtfinhaghgmnegaaGreatOx44
import Derived.Test.YtfinhaghgmnegaaGreatMOx6
namespace Go.Proofs.YtfinhaghgmnegaaGreat.Pure
open Go.RowKit Go.Proofs.YtfinhaghgmnegaaGreat.O Go.Proofs.YtfinhaghgmnegaaGreatW.PrintWords Go.Proofs.YtfinhaghgmnegaaGreatW.PrintLast
open Go.Proofs.YtfinhaghgmnegaaGreat.Civ
set_option linter.unusedVariables false
set_option linter.unusedSimpArgs false
/-! What the printed functions of layer 2 tell, in the words of 'Civ'. -/
theorem evb {α β : Type} {g : Nat → Option α} {f : Nat → α → Option β} {a : α} {r : β} (h : Ev g a) (k : Ev (fun n => f n a) r) : Ev (fun n => (g n).bind (f n)) r := Ev.bind h k
theorem evif {α : Type} {c : Prop} [Decidable c] {f g : Nat → Option α} {r : α} (h : c → Ev f r) (k : ¬ c → Ev g r) : Ev (fun n => if c then f n else g n) r := by
  by_cases hc : c
  · simp only [if_pos hc]; exact h hc
  · simp only [if_neg hc]; exact k hc
theorem evs {α : Type} {a r : α} (h : a = r) : Ev (fun _ => some a) r := by rw [h]; exact Ev.now r
theorem evstep {α : Type} {g : Nat → Option α} {r : α} (h : Ev (fun k => g (k + 1)) r) : Ev g r := Ev.step (fun _ => rfl) h
theorem clong (y : Int) : civil_Long.f y = some (lp y) := by
  unfold civil_Long.f
  have e4 : Int.tmod y 4 = 0 ↔ y % 4 = 0 := by rw [tmod_if]; split <;> omega
  have e1 : Int.tmod y 100 = 0 ↔ y % 100 = 0 := by rw [tmod_if]; split <;> omega
  have e5 : Int.tmod y 400 = 0 ↔ y % 400 = 0 := by rw [tmod_if]; split <;> omega
  by_cases h4 : y % 4 = 0
  · rw [if_pos (e4.2 h4)]
    by_cases h1 : y % 100 = 0
    · rw [if_pos (e1.2 h1)]; unfold lp; congr 1; rw [Bool.eq_iff_iff]; simp [e5]; omega
    · rw [if_neg (fun k => h1 (e1.1 k)), (lp_iff y).2 ⟨h4, Or.inl h1⟩]
  · rw [if_neg (fun k => h4 (e4.1 k))]; unfold lp; congr 1; rw [eq_comm, decide_eq_false_iff_not]; omega
theorem clen (y m : Int) : Ev (fun k => civil_Len.f k y m) (ln y m) := by
  unfold civil_Len.f
  by_cases hm : 1 ≤ m ∧ m ≤ 12
  · simp only [if_neg (show ¬ m < 1 by omega), decide_eq_false (show ¬ m > 12 by omega)]
    refine evstep ?_
    simp only [civil_Len.j0]
    simp only [Bool.false_eq_true, if_false, clong, Option.bind_some]
    refine Ev.congr (fun k => ?_) (Ev.now _)
    unfold ln lpi
    obtain ⟨a, b⟩ := hm
    rcases mcases a b with rfl | rfl | rfl | rfl | rfl | rfl | rfl | rfl | rfl | rfl | rfl | rfl <;> cases lp y <;> decide +kernel
  · rw [ln_0 y m (by omega)]
    by_cases h1 : m < 1
    · simp only [if_pos h1]; exact evstep (by simp only [civil_Len.j0, if_true]; exact Ev.now _)
    · simp only [if_neg h1, decide_eq_true (show m > 12 by omega)]; exact evstep (by simp only [civil_Len.j0, if_true]; exact Ev.now _)
theorem cright (y m d : Int) : Ev (fun k => civil_right.f k y m d) (decide (Rt y m d)) := by
  unfold civil_right.f
  refine evif (fun h1 => evif (fun h2 => evif (fun h3 => evb (clen y m) (evs ?_)) (fun h3 => evs ?_)) (fun h2 => evs ?_)) (fun h1 => evs ?_)
  · rw [decide_eq_decide]
    unfold Rt
    constructor
    · intro h4
      by_cases hm : m < 1 ∨ 12 < m
      · rw [ln_0 y m hm] at h4; omega
      · omega
    · omega
  all_goals (rw [eq_comm, decide_eq_false_iff_not]; unfold Rt; omega)
theorem cahead {y : Int} (h : 0 ≤ y) (h' : y ≤ 20000) : civil_ahead.f y = some (ah y) := by
  unfold civil_ahead.f
  by_cases h0 : y = 0
  · subst h0; rfl
  · rw [if_neg h0]
    unfold ah
    rw [w64 (x := y - 1) (by omega) (by omega), tdiv_nn 4 (by omega), tdiv_nn 100 (by omega), tdiv_nn 400 (by omega)]
    rw [w64 (x := y * 365) (by omega) (by omega), w64 (x := (y - 1) / 4) (by omega) (by omega), w64 (x := (y - 1) / 100) (by omega) (by omega), w64 (x := (y - 1) / 400) (by omega) (by omega)]
    rw [w64 (x := y * 365 + (y - 1) / 4) (by omega) (by omega), w64 (x := y * 365 + (y - 1) / 4 - (y - 1) / 100) (by omega) (by omega), w64 (x := y * 365 + (y - 1) / 4 - (y - 1) / 100 + (y - 1) / 400) (by omega) (by omega)]
    rw [w64 (by omega) (by omega)]
theorem cnum_l (y m d b : Int) (hb : -1000000000 ≤ b) (hb' : b ≤ 1000000000) (hm : m ≤ 13) : ∀ (n : Nat) (j : Int), 1 ≤ j → j + n = m → Ev (fun k => civil_Number.l0 k (b + cum y j) j y m d) (b + cum y m, 0) := by
  intro n
  induction n with
  | zero =>
    intro j h1 h2
    obtain rfl : j = m := by omega
    refine evstep ?_
    simp only [civil_Number.l0]
    simp only [Int.lt_irrefl, if_false]
    exact Ev.now _
  | succ n ih =>
    intro j h1 h2
    refine evstep ?_
    simp only [civil_Number.l0]
    simp only [if_pos (show j < m by omega)]
    refine evb (clen y j) ?_
    have hc := cum_bd y j h1 (by omega)
    have hl := ln_bd y j h1 (by omega)
    have hp := lpi_01 y
    rw [w64 (x := b + cum y j + ln y j) (by omega) (by omega), w64 (x := j + 1) (by omega) (by omega), show b + cum y j + ln y j = b + cum y (j + 1) by rw [cum_succ y j h1 (by omega)]; omega]
    exact ih (j + 1) (by omega) (by omega)
theorem cnum {y m d : Int} (h : Rt y m d) : Ev (fun k => civil_Number.f k y m d) (num y m d, 0) := by
  obtain ⟨h1, h2, h3, h4, h5, h6⟩ := id h
  have hb := ah_bd h1 (by omega)
  have hl := ln_bd y m h3 h4
  unfold civil_Number.f
  refine evb (cright y m d) ?_
  simp only [decide_eq_true h, if_true, cahead h1 (show y ≤ 20000 by omega), Option.bind_some]
  rw [w64 (x := ah y - 719528) (by omega) (by omega), w64 (x := ah y - 719528 + d) (by omega) (by omega), w64 (x := ah y - 719528 + d - 1) (by omega) (by omega)]
  have := cnum_l y m d (ah y - 719528 + d - 1) (by omega) (by omega) (by omega) (m - 1).toNat 1 (by omega) (by omega)
  rw [cum_1, Int.add_zero] at this
  rwa [show num y m d = ah y - 719528 + d - 1 + cum y m by unfold num; omega]
theorem cnum_no {y m d : Int} (h : ¬ Rt y m d) : Ev (fun k => civil_Number.f k y m d) (0, 4) := by
  unfold civil_Number.f
  refine evb (cright y m d) ?_
  simp only [decide_eq_false h, Bool.false_eq_true, if_false]
  exact Ev.now _
theorem cdate_l2 (y m d : Int) (h : Rt y m d) : ∀ (n : Nat) (j : Int), 1 ≤ j → j + n = m → Ev (fun k => civil_Date.l2 k (cum y m + d - 1 - cum y j) y j) (y, m, d, 0) := by
  obtain ⟨h1, h2, h3, h4, h5, h6⟩ := h
  have hl := ln_bd y m h3 h4
  have hp := lpi_01 y
  have hm := cum_bd y m h3 (by omega)
  intro n
  induction n with
  | zero =>
    intro j g1 g2
    obtain rfl : j = m := by omega
    refine evstep ?_
    simp only [civil_Date.l2]
    refine evb (clen y j) ?_
    simp only [if_neg (show ¬ cum y j + d - 1 - cum y j ≥ ln y j by omega)]
    refine evs ?_
    rw [w64 (by omega) (by omega), show cum y j + d - 1 - cum y j + 1 = d by omega]
  | succ n ih =>
    intro j g1 g2
    have hn := cum_next y g1 (show j < m by omega) (by omega)
    have hj := cum_bd y j g1 (by omega)
    have hs := cum_succ y j g1 (by omega)
    have hlj := ln_bd y j g1 (by omega)
    refine evstep ?_
    simp only [civil_Date.l2]
    refine evb (clen y j) ?_
    simp only [if_pos (show cum y m + d - 1 - cum y j ≥ ln y j by omega)]
    refine evb (clen y j) ?_
    rw [w64 (by omega) (by omega), w64 (by omega) (by omega), show cum y m + d - 1 - cum y j - ln y j = cum y m + d - 1 - cum y (j + 1) by omega]
    exact ih (j + 1) (by omega) (by omega)
theorem cdate_l1 (y m d : Int) (h : Rt y m d) : ∀ (n : Nat) (j : Int), 0 ≤ j → j + n = y → Ev (fun k => civil_Date.l1 k (ah y + cum y m + d - 1) j) (y, m, d, 0) := by
  have hn := num_in h
  obtain ⟨h1, h2, h3, h4, h5, h6⟩ := id h
  have hb := ah_bd h1 (by omega)
  have hl := ln_bd y m h3 h4
  have hp := lpi_01 y
  have hm := cum_bd y m h3 (by omega)
  unfold num at hn
  intro n
  induction n with
  | zero =>
    intro j g1 g2
    obtain rfl : j = y := by omega
    refine evstep ?_
    simp only [civil_Date.l1]
    rw [w64 (x := j + 1) (by omega) (by omega), cahead (y := j + 1) (by omega) (by omega), cahead (y := j) (by omega) (by omega)]
    simp only [Option.bind_some, if_neg (show ¬ ah (j + 1) ≤ ah j + cum j m + d - 1 by omega)]
    rw [w64 (by omega) (by omega)]
    have := cdate_l2 j m d h (m - 1).toNat 1 (by omega) (by omega)
    rwa [cum_1, show cum j m + d - 1 - 0 = ah j + cum j m + d - 1 - ah j by omega] at this
  | succ n ih =>
    intro j g1 g2
    have hle := ah_le (a := j + 1) (b := y) (by omega)
    refine evstep ?_
    simp only [civil_Date.l1]
    rw [w64 (x := j + 1) (by omega) (by omega), cahead (y := j + 1) (by omega) (by omega)]
    simp only [Option.bind_some, if_pos (show ah (j + 1) ≤ ah y + cum y m + d - 1 by omega)]
    exact ih (j + 1) (by omega) (by omega)
theorem cdate_l0 (y m d : Int) (h : Rt y m d) : ∀ (n : Nat), (n : Int) ≤ 20000 → Ev (fun k => civil_Date.l0 k (ah y + cum y m + d - 1) n) (y, m, d, 0) := by
  have hn := num_in h
  obtain ⟨h1, h2, h3, h4, h5, h6⟩ := id h
  unfold num at hn
  intro n
  induction n with
  | zero =>
    intro _
    refine evstep ?_
    simp only [civil_Date.l0]
    rw [cahead (y := ((0 : Nat) : Int)) (by omega) (by omega), show ah ((0 : Nat) : Int) = 0 from ah_0]
    have hb := ah_bd h1 (by omega)
    have hm := cum_bd y m h3 (by omega)
    simp only [Option.bind_some, if_neg (show ¬ 0 > ah y + cum y m + d - 1 by omega)]
    exact cdate_l1 y m d h y.toNat 0 (by omega) (by omega)
  | succ n ih =>
    intro hle
    refine evstep ?_
    simp only [civil_Date.l0]
    rw [cahead (by omega) (by omega)]
    simp only [Option.bind_some]
    refine evif (fun hg => ?_) (fun hg => ?_)
    · rw [w64 (by omega) (by omega), show ((n + 1 : Nat) : Int) - 1 = n by omega]
      exact ih (by omega)
    · have : ((n + 1 : Nat) : Int) ≤ y := by
        by_cases hc : ((n + 1 : Nat) : Int) ≤ y
        · exact hc
        · have := ah_le (a := y + 1) (b := ((n + 1 : Nat) : Int)) (by omega)
          omega
      exact cdate_l1 y m d h (y - ((n + 1 : Nat) : Int)).toNat _ (by omega) (by omega)
theorem cdate {y m d : Int} (h : Rt y m d) : Ev (fun k => civil_Date.f k (num y m d)) (y, m, d, 0) := by
  have hn := num_in h
  have hb := num_bd h
  unfold civil_Date.f
  simp only [if_neg (show ¬ num y m d < -719528 by omega), decide_eq_false (show ¬ num y m d ≥ 2933263 by omega)]
  refine evstep ?_
  simp only [civil_Date.j0]
  simp only [Bool.false_eq_true, if_false]
  rw [w64 (x := num y m d + 719528) (by omega) (by omega), w64 (x := (num y m d + 719528) * 400) (by omega) (by omega), tdiv_nn 146097 (by omega), w64 (by omega) (by omega)]
  have := cdate_l0 y m d h ((num y m d + 719528) * 400 / 146097).toNat (by omega)
  rw [show (((num y m d + 719528) * 400 / 146097).toNat : Int) = (num y m d + 719528) * 400 / 146097 by omega] at this
  rwa [show ah y + cum y m + d - 1 = num y m d + 719528 by unfold num; omega] at this
theorem cdate_no {n : Int} (h : n < -719528 ∨ 2933262 < n) : Ev (fun k => civil_Date.f k n) (0, 0, 0, 23) := by
  unfold civil_Date.f
  by_cases h1 : n < -719528
  · simp only [if_pos h1]; exact evstep (by simp only [civil_Date.j0, if_true]; exact Ev.now _)
  · simp only [if_neg h1, decide_eq_true (show n ≥ 2933263 by omega)]; exact evstep (by simp only [civil_Date.j0, if_true]; exact Ev.now _)
theorem cdate_dt {n : Int} (h : -719528 ≤ n) (h' : n ≤ 2933262) : Ev (fun k => civil_Date.f k n) ((dt n).1, (dt n).2.1, (dt n).2.2, 0) := by
  have s := dt_spec h h'
  have := cdate s.1
  rwa [s.2] at this
theorem cwd (n : Int) : civil_Weekday.f n = some (wd n) := by
  unfold civil_Weekday.f wd
  rw [tmod_if n 7]
  split
  · rw [w64 (x := n % 7 + 7) (by omega) (by omega), w64 (by omega) (by omega), tmod_nn 7 (by omega)]; congr 1; omega
  · rw [w64 (x := -(-n % 7) + 7) (by omega) (by omega), w64 (by omega) (by omega), tmod_nn 7 (by omega)]; congr 1; omega
theorem cyd {y m d : Int} (h : Rt y m d) : Ev (fun k => civil_YearDay.f k (num y m d)) (cum y m + d, 0) := by
  have h1 : Rt y 1 1 := ⟨h.1, h.2.1, by omega, by omega, by omega, by have := ln_bd y 1 (by omega) (by omega); omega⟩
  have a := num_bd h
  have b := num_bd h1
  unfold civil_YearDay.f
  refine evb (cdate h) ?_
  simp only [if_true]
  refine evb (cnum h1) (evs ?_)
  rw [w64 (x := num y m d - num y 1 1) (by omega) (by omega), w64 (by omega) (by omega)]
  have := cum_1 y
  congr 1
  unfold num
  omega
theorem cyd_dt {n : Int} (h : -719528 ≤ n) (h' : n ≤ 2933262) : Ev (fun k => civil_YearDay.f k n) (cum (dt n).1 (dt n).2.1 + (dt n).2.2, 0) := by
  have s := dt_spec h h'
  have := cyd s.1
  rwa [s.2] at this
theorem u64w (x : Int) : IntKind.u64.wrap x = x % 18446744073709551616 := by
  unfold IntKind.wrap
  simp [IntKind.bits, IntKind.signed]
theorem wweekday (n : Int) : week_weekday.f n = some (decide (0 ≤ n ∧ n ≤ 6)) := by
  unfold week_weekday.f
  by_cases h : n ≥ 0
  · rw [if_pos h]; congr 1; rw [decide_eq_decide]; omega
  · rw [if_neg h]; congr 1; rw [eq_comm, decide_eq_false_iff_not]; omega
theorem wup {n w : Int} (h : 0 ≤ w) (h' : w ≤ 6) : week_upon.f n w = some (upw n w) := by
  unfold week_upon.f
  have := wd_bd n
  rw [cwd]
  simp only [Option.bind_some]
  rw [w64 (x := w - wd n) (by omega) (by omega), w64 (by omega) (by omega), tmod_nn 7 (by omega)]
  congr 1
  unfold upw
  omega
theorem wahead {n w : Int} (h : 0 ≤ w) (h' : w ≤ 6) : week_ahead.f n w = some (dnw n w) := by
  unfold week_ahead.f
  have := wd_bd n
  rw [cwd]
  simp only [Option.bind_some]
  rw [w64 (x := wd n - w) (by omega) (by omega), w64 (by omega) (by omega), tmod_nn 7 (by omega)]
  congr 1
  unfold dnw
  omega
theorem wnth {f t k w : Int} (hf : -9223372036854775808 ≤ f) (hf' : f < 9223372036854775808) (ht : -9223372036854775808 ≤ t) (ht' : t < 9223372036854775808) : Ev (fun n => week_Nth.f n f t k w) (nthV f t k w) := by
  have j0 : ∀ b : Bool, (b = true ↔ ¬ (f ≤ t ∧ k ≠ 0 ∧ -1000 ≤ k ∧ k ≤ 1000 ∧ 0 ≤ w ∧ w ≤ 6)) → Ev (fun n => week_Nth.j0 n f t k w b) (nthV f t k w) := by
    intro b hb
    refine evstep ?_
    simp only [week_Nth.j0]
    refine evif (fun h => evs ?_) (fun h => ?_)
    · have := hb.1 h
      unfold nthV
      rw [if_neg]
      unfold nthP
      omega
    · have hp : f ≤ t ∧ k ≠ 0 ∧ -1000 ≤ k ∧ k ≤ 1000 ∧ 0 ≤ w ∧ w ≤ 6 := Decidable.not_not.1 (mt hb.2 h)
      obtain ⟨p1, p2, p3, p4, p5, p6⟩ := hp
      have hu := upw_bd f w
      have hd := dnw_bd t w
      have e1 : IntKind.u64.wrap (IntKind.u64.wrap t - IntKind.u64.wrap f) = t - f := by simp only [u64w]; omega
      simp only [wup p5 p6, wahead p5 p6, Option.bind_some, e1]
      have e2 : IntKind.u64.wrap (upw f w) = upw f w := by rw [u64w]; omega
      have e3 : IntKind.u64.wrap (dnw t w) = dnw t w := by rw [u64w]; omega
      rw [e2, e3]
      have fin : ∀ (off q : Int), 0 ≤ off → off ≤ 6 → 0 ≤ q → q ≤ 999 → (k < 0 → off = dnw t w ∧ q = -k - 1) → (0 < k → off = upw f w ∧ q = k - 1) → Ev (fun n => week_Nth.j1 n f t k (t - f) off q) (nthV f t k w) := by
        intro off q o1 o2 q1 q2 hn hpz
        have e7 : IntKind.u64.wrap (7 * q) = 7 * q := by rw [u64w]; omega
        have j2 : ∀ c : Bool, (c = true ↔ t - f < off + 7 * q) → Ev (fun n => week_Nth.j2 n f t k off q c) (nthV f t k w) := by
          intro c hc
          refine evstep ?_
          simp only [week_Nth.j2, e7]
          refine evif (fun h1 => evs ?_) (fun h1 => ?_)
          · have := hc.1 h1
            unfold nthV
            rw [if_neg]
            unfold nthP nthA nthB
            omega
          · have := mt hc.2 h1
            refine evif (fun h2 => evs ?_) (fun h2 => evs ?_)
            · have := hn h2
              have hP : nthP f t k w := by unfold nthP nthB; omega
              unfold nthV
              rw [if_pos hP, if_neg (by omega)]
              congr 1
              simp only [u64w]
              unfold wrap64 nthB
              omega
            · have := hpz (by omega)
              have hP : nthP f t k w := by unfold nthP nthA; omega
              unfold nthV
              rw [if_pos hP, if_pos (by omega)]
              congr 1
              simp only [u64w]
              unfold wrap64 nthA
              omega
        refine evstep ?_
        simp only [week_Nth.j1]
        refine evif (fun h1 => j2 true ?_) (fun h1 => j2 _ ?_)
        · simp; omega
        · have e8 : IntKind.u64.wrap (t - f - off) = t - f - off := by rw [u64w]; omega
          rw [e8, tdiv_nn 7 (by omega)]
          have e9 : IntKind.u64.wrap ((t - f - off) / 7) = (t - f - off) / 7 := by rw [u64w]; omega
          rw [e9]
          simp
          omega
      refine evif (fun h1 => ?_) (fun h1 => ?_)
      · rw [w64 (x := k + 1) (by omega) (by omega), w64 (x := -(k + 1)) (by omega) (by omega), show IntKind.u64.wrap (-(k + 1)) = -k - 1 by rw [u64w]; omega]
        exact fin _ _ hd.1 hd.2 (by omega) (by omega) (fun _ => ⟨rfl, rfl⟩) (fun _ => by omega)
      · rw [w64 (x := k - 1) (by omega) (by omega), show IntKind.u64.wrap (k - 1) = k - 1 by rw [u64w]; omega]
        exact fin _ _ hu.1 hu.2 (by omega) (by omega) (fun _ => by omega) (fun _ => ⟨rfl, rfl⟩)
  unfold week_Nth.f
  simp only [wweekday, Option.bind_some]
  refine evif (fun h => j0 _ ?_) (fun h => evif (fun h => j0 _ ?_) (fun h => evif (fun h => j0 _ ?_) (fun h => evif (fun h => j0 _ ?_) (fun h => j0 _ ?_))))
  all_goals (simp; omega)
theorem yr_range {n : Int} (h : -719528 ≤ n) (h' : n ≤ 2933262) : (1 ≤ yr n ∧ yr n ≤ 9999) ↔ (-719162 ≤ n ∧ n ≤ 2932896) := by
  have s := yr_bd h h'
  have e1 : ah 1 = 366 := by decide +kernel
  have e2 : ah 10000 = 3652425 := by decide +kernel
  constructor
  · intro ⟨a, b⟩
    have h1 := ah_le a
    have h2 := ah_le (a := yr n + 1) (b := 10000) (by omega)
    omega
  · intro ⟨a, b⟩
    have h1 := ah_mono (a := 1) (b := yr n + 1) (by omega)
    have h2 := ah_mono (a := yr n) (b := 10000) (by omega)
    omega
/-- What No tells. -/
noncomputable def noV (n k : Int) : Int × Int × Int := if 0 ≤ k ∧ k ≤ 6 then (if -719528 ≤ n ∧ n ≤ 2933262 ∧ 1 ≤ yr n ∧ yr n ≤ 9999 then (yr (mid n k), (n - fw (yr (mid n k)) k) / 7 + 1, 0) else (0, 0, 23)) else (0, 0, 1)
theorem wno (n k : Int) : Ev (fun q => week_No.f q n k) (noV n k) := by
  unfold week_No.f noV
  simp only [wweekday, Option.bind_some]
  by_cases hk : 0 ≤ k ∧ k ≤ 6
  · simp only [decide_eq_true hk, if_true, if_pos hk]
    have no : Ev (fun q => week_No.j0 q n k true) (0, 0, 23) := evstep (by simp only [week_No.j0, if_true]; exact Ev.now _)
    by_cases hn : -719528 ≤ n ∧ n ≤ 2933262
    · refine evb (cdate_dt hn.1 hn.2) ?_
      simp only [if_true]
      have hr := yr_range hn.1 hn.2
      refine evif (fun h1 => ?_) (fun h1 => ?_)
      · rw [if_neg (by have : yr n < 1 := h1; omega)]; exact no
      · by_cases h9 : (dt n).1 > 9999
        · simp only [decide_eq_true h9]
          rw [if_neg (by have : yr n > 9999 := h9; omega)]; exact no
        · simp only [decide_eq_false h9]
          have hy : 1 ≤ yr n ∧ yr n ≤ 9999 := ⟨by unfold yr; omega, by unfold yr; omega⟩
          rw [if_pos ⟨hn.1, hn.2, hy.1, hy.2⟩]
          have hr := hr.1 hy
          have hd := dnw_bd n k
          have hm : -719528 ≤ mid n k ∧ mid n k ≤ 2933262 := by unfold mid; omega
          have hs := yr_bd hm.1 hm.2
          refine evstep ?_
          simp only [week_No.j0, Bool.false_eq_true, if_false, wahead hk.1 hk.2, Option.bind_some]
          rw [w64 (x := n - dnw n k) (by omega) (by omega), w64 (x := n - dnw n k + 3) (by omega) (by omega), show n - dnw n k + 3 = mid n k from rfl]
          refine evb (cdate_dt hm.1 hm.2) (evb (cyd_dt hm.1 hm.2) (evs ?_))
          have ha := ah_succ (yr (mid n k))
          have hl := lpi_01 (yr (mid n k))
          rw [cum_dt hm.1 hm.2, ← mid_no n k hm.1 hm.2, show (dt (mid n k)).1 = yr (mid n k) from rfl]
          have hyd : 1 ≤ yd (mid n k) ∧ yd (mid n k) ≤ 366 := by unfold yd; omega
          rw [w64 (x := yd (mid n k) - 1) (by omega) (by omega), tdiv_nn 7 (by omega), w64 (x := (yd (mid n k) - 1) / 7) (by omega) (by omega), w64 (by omega) (by omega)]
    · refine evb (cdate_no (by omega)) ?_
      simp only [if_neg (show ¬ (23 : Int) = 0 by omega)]
      rw [if_neg (by omega)]
      exact no
  · simp only [decide_eq_false hk, Bool.false_eq_true, if_false, if_neg hk]
    exact Ev.now _
end Go.Proofs.YtfinhaghgmnegaaGreat.Pure
