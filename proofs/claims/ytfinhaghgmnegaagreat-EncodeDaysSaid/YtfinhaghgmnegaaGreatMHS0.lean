/- How periods and spans hang together, in plain numbers. No condition beyond those each lemma names. -/
/- What the functions below the rules answer, as contracts. No condition beyond those each lemma names. -/
import Derived.Test.YtfinhaghgmnegaaGreatMT23p
import Derived.Test.YtfinhaghgmnegaaGreatOx150
import Derived.Test.YtfinhaghgmnegaaGreatG22V
import Derived.Test.YtfinhaghgmnegaaGreatMHa
import Derived.Test.YtfinhaghgmnegaaGreatOx164
import Derived.Test.YtfinhaghgmnegaaGreatMOx3
import Derived.Test.YtfinhaghgmnegaaGreatOx25
import Derived.Test.YtfinhaghgmnegaaGreatOx43
import Derived.Test.YtfinhaghgmnegaaGreatOx44
import Derived.Test.YtfinhaghgmnegaaGreatMOx49
import Derived.Test.YtfinhaghgmnegaaGreatMOx87
import Derived.Test.YtfinhaghgmnegaaGreatMOx6
namespace Go.Proofs.YtfinhaghgmnegaaGreat.Pure
open Go.RowKit Go.Proofs.YtfinhaghgmnegaaGreat.O Go.Proofs.YtfinhaghgmnegaaGreatW.PrintWords Go.Proofs.YtfinhaghgmnegaaGreatW.PrintLast
open Go.Proofs.YtfinhaghgmnegaaGreat.Civ
set_option linter.unusedVariables false
set_option linter.unusedSimpArgs false
theorem fw_lt {a b k : Int} (h : fw a k < fw b k) : a < b := by
  by_cases c : a < b
  · exact c
  exfalso
  have e := ah_le (a := b) (b := a) (by omega)
  have b1 := fw_bd a k
  have b2 := fw_bd b k
  by_cases q : a = b
  · subst q; omega
  · omega
/-- A day's period. -/
noncomputable def perD (r : RR) (n : Int) : Int := if r.fr = 4 then n else if r.fr = 5 then (n + 4 - r.wk) / 7 else if r.fr = 6 then 12 * (dt n).1 + (dt n).2.1 - 1 else if r.wn = [] then (dt n).1 else wy r n
theorem perV_D {r : RR} (h1 : ¬ r.fr = 1) (h2 : ¬ r.fr = 2) (h3 : ¬ r.fr = 3) (t : Int) : perV r t = perD r (t / 86400) := by
  unfold perV perD
  rw [if_neg h1, if_neg h2, if_neg h3]
theorem wy_fw {r : RR} (h : Lens r) {n : Int} (hn : -719162 ≤ n) (hn' : n ≤ 2932896) : fw (wy r n) r.wk ≤ n ∧ n < fw (wy r n + 1) r.wk := by
  have m := yr_mid (k := r.wk) hn hn'
  unfold wy
  rw [noV_in hn hn' h.w0 h.w1]
  exact mid_fw m.2.2.1 m.2.2.2
theorem num_31 (y : Int) : num y 12 31 = ah (y + 1) - 719528 - 1 := by
  unfold num
  have e : cum y 12 = 334 + lpi y := by simp [cum]
  have := ah_succ y
  omega
theorem whole_in {r : RR} (h : Lens r) {n : Int} (hn : -719162 ≤ n) (hn' : n ≤ 2932896) : (wholeV r (perD r n)).1 ≤ n ∧ n ≤ (wholeV r (perD r n)).2 := by
  have hs := dt_spec (n := n) (by omega) (by omega)
  have w0 := h.w0
  have w1 := h.w1
  obtain ⟨⟨y0, y1, m0, m1, d0, d1⟩, e⟩ := hs
  unfold wholeV perD
  by_cases c4 : r.fr = 4
  · simp only [if_pos c4]; omega
  by_cases c5 : r.fr = 5
  · simp only [if_neg c4, if_pos c5]; omega
  by_cases c6 : r.fr = 6
  · simp only [if_neg c4, if_neg c5, if_pos c6]
    rw [show (12 * (dt n).1 + (dt n).2.1 - 1) / 12 = (dt n).1 by omega, show (12 * (dt n).1 + (dt n).2.1 - 1) % 12 + 1 = (dt n).2.1 by omega]
    unfold num at *
    omega
  by_cases c7 : r.wn = []
  · simp only [if_neg c4, if_neg c5, if_neg c6, if_pos c7]
    rw [num_31, num_1]
    have := num_in ⟨y0, y1, m0, m1, d0, d1⟩
    rw [e] at this
    omega
  · simp only [if_neg c4, if_neg c5, if_neg c6, if_neg c7]
    have := wy_fw h hn hn'
    omega
theorem whole_eq {r : RR} (h : Lens r) {n p : Int} (hn : -719162 ≤ n) (hn' : n ≤ 2932896) (b6 : r.fr = 6 → 0 ≤ p ∧ p ≤ 120011) (l : (wholeV r p).1 ≤ n) (u : n ≤ (wholeV r p).2) : perD r n = p := by
  have w0 := h.w0
  have w1 := h.w1
  unfold wholeV at l u
  unfold perD
  by_cases c4 : r.fr = 4
  · simp only [if_pos c4] at *; omega
  by_cases c5 : r.fr = 5
  · simp only [if_neg c4, if_pos c5] at *; omega
  by_cases c6 : r.fr = 6
  · simp only [if_neg c4, if_neg c5, if_pos c6] at *
    have b := b6 c6
    have e : n = num (p / 12) (p % 12 + 1) (n - num (p / 12) (p % 12 + 1) 1 + 1) := by unfold num; omega
    have hr : Rt (p / 12) (p % 12 + 1) (n - num (p / 12) (p % 12 + 1) 1 + 1) := ⟨by omega, by omega, by omega, by omega, by omega, by omega⟩
    rw [e, dt_num hr]
    show 12 * (p / 12) + (p % 12 + 1) - 1 = p
    omega
  by_cases c7 : r.wn = []
  · simp only [if_neg c4, if_neg c5, if_neg c6, if_pos c7] at *
    rw [num_1] at l
    rw [num_31] at u
    exact yr_eq (by omega) (by omega) (by omega) (by omega)
  · simp only [if_neg c4, if_neg c5, if_neg c6, if_neg c7] at *
    have m := yr_mid (k := r.wk) hn hn'
    unfold wy
    rw [noV_in hn hn' w0 w1]
    exact mid_yr m.2.2.1 m.2.2.2 l (by omega)
theorem whole_next (r : RR) (p : Int) : (wholeV r (p + 1)).1 = (wholeV r p).2 + 1 := by
  unfold wholeV
  by_cases c4 : r.fr = 4
  · simp only [if_pos c4]
  by_cases c5 : r.fr = 5
  · simp only [if_neg c4, if_pos c5]; omega
  by_cases c6 : r.fr = 6
  · simp only [if_neg c4, if_neg c5, if_pos c6]
    by_cases q : p % 12 = 11
    · rw [show (p + 1) / 12 = p / 12 + 1 by omega, show (p + 1) % 12 + 1 = 1 by omega, q]
      show num (p / 12 + 1) 1 1 = num (p / 12) 12 1 + ln (p / 12) 12 - 1 + 1
      have e := num_31 (p / 12)
      rw [num_1]
      have e2 : ln (p / 12) 12 = 31 := by simp [ln]
      unfold num at *
      omega
    · rw [show (p + 1) / 12 = p / 12 by omega, show (p + 1) % 12 + 1 = p % 12 + 1 + 1 by omega]
      have := cum_succ (p / 12) (p % 12 + 1) (by omega) (by omega)
      unfold num
      omega
  by_cases c7 : r.wn = []
  · simp only [if_neg c4, if_neg c5, if_neg c6, if_pos c7]
    rw [num_31, num_1]
    omega
  · simp only [if_neg c4, if_neg c5, if_neg c6, if_neg c7]
    omega
theorem whole_len (r : RR) (p : Int) : (wholeV r p).1 ≤ (wholeV r p).2 ∧ (wholeV r p).2 ≤ (wholeV r p).1 + 371 := by
  unfold wholeV
  by_cases c4 : r.fr = 4
  · simp only [if_pos c4]; omega
  by_cases c5 : r.fr = 5
  · simp only [if_neg c4, if_pos c5]; omega
  by_cases c6 : r.fr = 6
  · simp only [if_neg c4, if_neg c5, if_pos c6]
    have := ln_bd (p / 12) (p % 12 + 1) (by omega) (by omega)
    omega
  have a := ah_succ p
  have l := lpi_01 p
  by_cases c7 : r.wn = []
  · simp only [if_neg c4, if_neg c5, if_neg c6, if_pos c7]
    rw [num_31, num_1]
    omega
  · simp only [if_neg c4, if_neg c5, if_neg c6, if_neg c7]
    have b1 := fw_bd p r.wk
    have b2 := fw_bd (p + 1) r.wk
    omega
theorem inP_per {r : RR} (h : Lens r) {t : Int} (ht : InT t) : InP r (perV r t) := by
  have y := dt_year ht
  have hm := (dt_spec (n := t / 86400) (by omega) (by omega)).1.2.2
  have ht' := ht
  unfold InT at ht'
  have f0 := h.f0
  have f1 := h.f1
  unfold InP perV
  rw [dt_least, dt_most]
  by_cases c1 : r.fr = 1
  · simp only [if_pos c1]; omega
  by_cases c2 : r.fr = 2
  · simp only [if_neg c1, if_pos c2]; omega
  by_cases c3 : r.fr = 3
  · simp only [if_neg c1, if_neg c2, if_pos c3]; omega
  by_cases c4 : r.fr = 4
  · simp only [if_neg c1, if_neg c2, if_neg c3, if_pos c4]; omega
  by_cases c5 : r.fr = 5
  · simp only [if_neg c1, if_neg c2, if_neg c3, if_neg c4, if_pos c5]; omega
  by_cases c6 : r.fr = 6
  · simp only [if_neg c1, if_neg c2, if_neg c3, if_neg c4, if_neg c5, if_pos c6]; omega
  by_cases c7 : r.wn = []
  · simp only [if_neg c1, if_neg c2, if_neg c3, if_neg c4, if_neg c5, if_neg c6, if_pos c7]; omega
  · simp only [if_neg c1, if_neg c2, if_neg c3, if_neg c4, if_neg c5, if_neg c6, if_neg c7]
    have a1 := wy_fw (n := -62135596800 / 86400) h (by decide) (by decide)
    have a2 := wy_fw (n := t / 86400) h y.2.2.1 y.2.2.2
    have a3 := wy_fw (n := 253402300799 / 86400) h (by decide) (by decide)
    constructor
    · have := fw_lt (a := wy r (-62135596800 / 86400)) (b := wy r (t / 86400) + 1) (k := r.wk) (by omega)
      omega
    · have := fw_lt (a := wy r (t / 86400)) (b := wy r (253402300799 / 86400) + 1) (k := r.wk) (by omega)
      omega
theorem span_in {r : RR} (h : Lens r) {t : Int} (ht : InT t) : (spanW r (perV r t)).1 ≤ t ∧ t ≤ (spanW r (perV r t)).2 := by
  have y := dt_year ht
  by_cases c1 : r.fr = 1
  · unfold spanW perV; simp only [if_pos c1]; omega
  by_cases c2 : r.fr = 2
  · unfold spanW perV; simp only [if_neg c1, if_pos c2]; omega
  by_cases c3 : r.fr = 3
  · unfold spanW perV; simp only [if_neg c1, if_neg c2, if_pos c3]; omega
  rw [perV_D c1 c2 c3]
  have w := whole_in h y.2.2.1 y.2.2.2
  unfold spanW
  simp only [if_neg c1, if_neg c2, if_neg c3]
  omega
theorem span_eq {r : RR} (h : Lens r) {x p : Int} (hx : InT x) (b6 : r.fr = 6 → 0 ≤ p ∧ p ≤ 120011) (l : (spanW r p).1 ≤ x) (u : x ≤ (spanW r p).2) : perV r x = p := by
  have y := dt_year hx
  unfold spanW at l u
  by_cases c1 : r.fr = 1
  · unfold perV; simp only [if_pos c1] at *; omega
  by_cases c2 : r.fr = 2
  · unfold perV; simp only [if_neg c1, if_pos c2] at *; omega
  by_cases c3 : r.fr = 3
  · unfold perV; simp only [if_neg c1, if_neg c2, if_pos c3] at *; omega
  rw [perV_D c1 c2 c3]
  simp only [if_neg c1, if_neg c2, if_neg c3] at l u
  exact whole_eq h y.2.2.1 y.2.2.2 b6 (by omega) (by omega)
theorem span_next (r : RR) (p : Int) : (spanW r (p + 1)).1 = (spanW r p).2 + 1 := by
  unfold spanW
  by_cases c1 : r.fr = 1
  · simp only [if_pos c1]
  by_cases c2 : r.fr = 2
  · simp only [if_neg c1, if_pos c2]; omega
  by_cases c3 : r.fr = 3
  · simp only [if_neg c1, if_neg c2, if_pos c3]; omega
  simp only [if_neg c1, if_neg c2, if_neg c3]
  have := whole_next r p
  omega
theorem spanW_le (r : RR) (p : Int) : (spanW r p).1 ≤ (spanW r p).2 := by
  unfold spanW
  split
  · exact Int.le_refl _
  split
  · dsimp only; omega
  split
  · dsimp only; omega
  · have := (whole_len r p).1
    dsimp only; omega
theorem span_rise (r : RR) (p : Int) (n : Nat) : (spanW r p).1 + n ≤ (spanW r (p + n)).1 ∧ (spanW r p).2 + n ≤ (spanW r (p + n)).2 := by
  induction n with
  | zero => simp
  | succ n ih =>
    have e := span_next r (p + n)
    have a := spanW_le r (p + n)
    have b := spanW_le r (p + n + 1)
    have e2 : p + ((n + 1 : Nat) : Int) = p + n + 1 := by omega
    rw [e2]
    omega
theorem span_lt (r : RR) {p q : Int} (h : p < q) : (spanW r p).2 < (spanW r q).1 := by
  have := (span_rise r (p + 1) (q - p - 1).toNat).1
  rw [show p + 1 + ((q - p - 1).toNat : Int) = q by omega] at this
  have := span_next r p
  omega
theorem per_mono {r : RR} (h : Lens r) {t u : Int} (ht : InT t) (hu : InT u) (l : t ≤ u) : perV r t ≤ perV r u := by
  refine Int.not_lt.1 fun c => ?_
  have := span_lt r c
  have a := span_in h ht
  have b := span_in h hu
  omega
theorem inP_small {r : RR} (h : Lens r) {p : Int} (hp : InP r p) : -62135596800 ≤ p ∧ p ≤ 253402300799 := by
  have b := inP_bd h hp
  have f0 := h.f0
  have f1 := h.f1
  have : r.fr = 1 ∨ r.fr = 2 ∨ r.fr = 3 ∨ r.fr = 4 ∨ r.fr = 5 ∨ r.fr = 6 ∨ r.fr = 7 := by omega
  rcases this with e | e | e | e | e | e | e
  · exact b.1 e
  · have := b.2.1 e; omega
  · have := b.2.2.1 e; omega
  · have := b.2.2.2.1 e; omega
  · have := b.2.2.2.2.1 e; omega
  · have := b.2.2.2.2.2.1 e; omega
  · by_cases q : r.wn = []
    · have := b.2.2.2.2.2.2.1 e q; omega
    · have := b.2.2.2.2.2.2.2 e q; omega
theorem Right.iv {r : RR} (h : Right r) : 1 ≤ r.iv ∧ r.iv ≤ 1000 := by
  have hh := h.ok
  simp only [okRecur, Bool.and_eq_true, decide_eq_true_eq] at hh
  exact hh.1.1.1.1.2
/-- The first period's numbers. -/
theorem over_w {r : RR} (h : Right r) {t u : Int} (ht : InT t) (hu : InT u) (l : t ≤ u) :
    wrap64 (Int.tdiv (wrap64 (wrap64 (wrap64 (perV r u - perV r t) + r.iv) - 1)) r.iv) = (perV r u - perV r t + r.iv - 1) / r.iv ∧ wrap64 (perV r t + wrap64 ((perV r u - perV r t + r.iv - 1) / r.iv * r.iv)) = perV r t + (perV r u - perV r t + r.iv - 1) / r.iv * r.iv ∧ r.iv ≠ 0 := by
  have m := per_mono h.lens ht hu l
  have a := inP_small h.lens (inP_per h.lens ht)
  have b := inP_small h.lens (inP_per h.lens hu)
  obtain ⟨i1, i2⟩ := h.iv
  generalize perV r u = U at m b ⊢
  generalize perV r t = T at m a ⊢
  generalize r.iv = I at i1 i2 ⊢
  have e0 : 0 ≤ U - T + I - 1 := by omega
  have d0 : 0 ≤ (U - T + I - 1) / I := Int.ediv_nonneg e0 (by omega)
  have d1 : (U - T + I - 1) / I * I ≤ U - T + I - 1 := Int.ediv_mul_le _ (by omega)
  have d2 : (U - T + I - 1) / I ≤ U - T + I - 1 := Int.ediv_le_self _ e0
  have d3 : 0 ≤ (U - T + I - 1) / I * I := Int.mul_nonneg d0 (by omega)
  rw [w64 (x := U - T) (by omega) (by omega), w64 (x := U - T + I) (by omega) (by omega), w64 (x := U - T + I - 1) (by omega) (by omega), tdiv_nn I e0]
  generalize (U - T + I - 1) / I = D at d0 d1 d2 d3 ⊢
  rw [w64 (x := D) (by omega) (by omega), w64 (x := D * I) (by omega) (by omega), w64 (by omega) (by omega)]
  exact ⟨rfl, rfl, by omega⟩
end Go.Proofs.YtfinhaghgmnegaaGreat.Pure

namespace Go.Proofs.YtfinhaghgmnegaaGreat.Pure
open Go.RowKit Go.Proofs.YtfinhaghgmnegaaGreat.O Go.Proofs.YtfinhaghgmnegaaGreatW.PrintWords Go.Proofs.YtfinhaghgmnegaaGreatW.PrintLast
open Go.Proofs.YtfinhaghgmnegaaGreat.Civ
set_option linter.unusedVariables false
set_option linter.unusedSimpArgs false
/-- A call returns this, and leaves what lay below. -/
abbrev Rets (w : World) (v : Value) : Ending → World → Prop := fun e w' => e = .returned v ∧ Below w.heap.size w w'
theorem rets_drawn {v : Value} {w : World} {e : Ending} {w' : World} (h : e = .returned v ∧ Drawn0 w w') : Rets w v e w' := by
  obtain ⟨rfl, n, rfl⟩ := h
  exact ⟨rfl, pw_below_drewN (Below.refl _ _) n⟩
section
variable {w : World}
theorem date_on {n : Int} (h : -719528 ≤ n) (h' : n ≤ 2933262) : Calls Tryz.prog 57 #[.int .i64 n] w (Rets w (.tuple #[.agg #[.int .i64 (dt n).1, .int .i64 (dt n).2.1, .int .i64 (dt n).2.2], .int .i64 0])) := by
  obtain ⟨k, hk⟩ := (cdate_dt h h').rounds
  exact civil_Date.calls k n _ _ _ _ w hk
theorem wday_on (n : Int) : Calls Tryz.prog 39 #[.int .i64 n] w (Rets w (.int .i64 (wd n))) := (civil_Weekday.calls n _ w (cwd n)).mono fun _ _ => rets_drawn
theorem one_on {A : Option Addr} {c : Nat} {l : List Int} (n s : Int) (asked : Bool) (hk : Kd.C (Kd.int .i64) w A l.length l) (hc : l.length ≤ c) (hl : l.length ≤ 1000000000) : Calls Tryz.prog 80 #[.slice A l.length c, .int .i64 n, .int .i64 s, .bool asked] w (Rets w (.bool (oneV l n s asked))) := by
  obtain ⟨k, h⟩ := (fone l n s asked hl).rounds
  exact (filter_one.calls k A c l n s asked _ w hk hc h).mono fun _ _ => rets_drawn
theorem either_on {A : Option Addr} {c : Nat} {l : List Int} {n m : Int} (hk : Kd.C (Kd.int .i64) w A l.length l) (hc : l.length ≤ c) (hl : l.length ≤ 1000000000) (h1 : -1000000 ≤ n) (h2 : n ≤ 1000000) (h3 : -1000000 ≤ m) (h4 : m ≤ 1000000) : Calls Tryz.prog 82 #[.slice A l.length c, .int .i64 n, .int .i64 m] w (Rets w (.bool (eitherV l n m))) := by
  obtain ⟨k, h⟩ := (feither l n m hl h1 h2 h3 h4).rounds
  exact (filter_either.calls k A c l n m _ w hk hc h).mono fun _ _ => rets_drawn
theorem num_on {y m d : Int} (h : Rt y m d) : Calls Tryz.prog 70 #[.int .i64 y, .int .i64 m, .int .i64 d] w (Rets w (.int .i64 (num y m d))) := by
  obtain ⟨k, hk⟩ := (fnum h).rounds
  exact filter_number.calls k y m d _ w hk
theorem len_on (y m : Int) : Calls Tryz.prog 13 #[.int .i64 y, .int .i64 m] w (Rets w (.int .i64 (ln y m))) := by
  obtain ⟨k, hk⟩ := (clen y m).rounds
  exact civil_Len.calls k y m _ w hk
theorem yday_on {n : Int} (h : -719528 ≤ n) (h' : n ≤ 2933262) : Calls Tryz.prog 76 #[.int .i64 n] w (Rets w (.tuple #[.int .i64 (yd n), .int .i64 0])) := by
  obtain ⟨k, hk⟩ := (cyd_dt h h').rounds
  rw [cum_dt h h'] at hk
  exact civil_YearDay.calls k n _ _ w hk
theorem wno_on (n k : Int) : Calls Tryz.prog 69 #[.int .i64 n, .int .i64 k] w (Rets w (.tuple #[.int .i64 (noV n k).1, .int .i64 (noV n k).2.1, .int .i64 (noV n k).2.2])) := by
  obtain ⟨q, hq⟩ := (wno n k).rounds
  exact week_No.calls q n k _ _ _ w hq
theorem weeks_on {y k : Int} (h : 0 ≤ y) (h' : y ≤ 10000) (hk : 0 ≤ k) (hk' : k ≤ 6) : Calls Tryz.prog 71 #[.int .i64 y, .int .i64 k] w (Rets w (.tuple #[.int .i64 (fw y k), .int .i64 (fw (y + 1) k - 1)])) := by
  obtain ⟨q, hq⟩ := (fweeks h h' hk hk').rounds
  exact filter_weeks.calls q y k _ _ w hq
theorem nth_on {f t k x : Int} (hf : -9223372036854775808 ≤ f) (hf' : f < 9223372036854775808) (ht : -9223372036854775808 ≤ t) (ht' : t < 9223372036854775808) : Calls Tryz.prog 89 #[.int .i64 f, .int .i64 t, .int .i64 k, .int .i64 x] w (Rets w (.tuple #[.int .i64 (nthV f t k x).1, .bool (nthV f t k x).2])) := by
  obtain ⟨q, hq⟩ := (wnth hf hf' ht ht').rounds
  exact (week_Nth.calls q f t k x _ _ w hq).mono fun _ _ => rets_drawn
theorem inT_on (t : Int) : Calls Tryz.prog 64 #[.int .i64 t] w (Rets w (.bool (decide (InT t)))) := by
  obtain ⟨q, hq⟩ := (fin_ t).rounds
  exact filter_in.calls q t _ w hq
theorem split_on {t : Int} (h : -9223372036854775808 ≤ t) (h' : t < 9223372036854775808) : Calls Tryz.prog 36 #[.int .i64 t] w (Rets w (.tuple #[.int .i64 (t / 86400), .int .i64 (t % 86400)])) := (clock_Split.calls t _ _ w (csplit h h')).mono fun _ _ => rets_drawn
end
end Go.Proofs.YtfinhaghgmnegaaGreat.Pure
