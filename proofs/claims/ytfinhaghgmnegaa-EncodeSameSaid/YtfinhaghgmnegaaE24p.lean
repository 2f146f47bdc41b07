/- What the functions below the encoder compute, and what the encoder answers, in plain numbers. No condition beyond those each lemma names. -/
import Derived.Test.YtfinhaghgmnegaaWk
import Derived.Test.YtfinhaghgmnegaaHq
import Derived.Test.YtfinhaghgmnegaaOx10
import Derived.Test.YtfinhaghgmnegaaOx11
import Derived.Test.YtfinhaghgmnegaaOx12
import Derived.Test.YtfinhaghgmnegaaOx13
import Derived.Test.YtfinhaghgmnegaaMOx16
import Derived.Test.YtfinhaghgmnegaaOx17
import Derived.Test.YtfinhaghgmnegaaMOx20
import Derived.Test.YtfinhaghgmnegaaOx21
import Derived.Test.YtfinhaghgmnegaaOx22
import Derived.Test.YtfinhaghgmnegaaOx3
import Derived.Test.YtfinhaghgmnegaaOx30
import Derived.Test.YtfinhaghgmnegaaOx31
import Derived.Test.YtfinhaghgmnegaaOx32
import Derived.Test.YtfinhaghgmnegaaOx33
import Derived.Test.YtfinhaghgmnegaaOx4
import Derived.Test.YtfinhaghgmnegaaOx5
import Derived.Test.YtfinhaghgmnegaaMOx9
namespace Go.Proofs.Ytfinhaghgmnegaa.Pure
open Go.RowKit Go.Proofs.Ytfinhaghgmnegaa.O Go.Proofs.YtfinhaghgmnegaaW.PrintWords Go.Proofs.YtfinhaghgmnegaaW.PrintLast
open Go.Proofs.Ytfinhaghgmnegaa.Civ
set_option linter.unusedVariables false
set_option linter.unusedSimpArgs false
/-! What the printed functions of layer 2 tell, in the words of 'Civ'. -/
theorem evb {α β : Type} {g : Nat → Option α} {f : Nat → α → Option β} {a : α} {r : β} (h : Ev g a) (k : Ev (fun n => f n a) r) : Ev (fun n => (g n).bind (f n)) r := Ev.bind h k
theorem evif {α : Type} {c : Prop} [Decidable c] {f g : Nat → Option α} {r : α} (h : c → Ev f r) (k : ¬ c → Ev g r) : Ev (fun n => if c then f n else g n) r := by
  by_cases hc : c
  · simp only [if_pos hc]; exact h hc
  · simp only [if_neg hc]; exact k hc
theorem evs {α : Type} {a r : α} (h : a = r) : Ev (fun _ => some a) r := by rw [h]; exact Ev.now r
theorem evstep {α : Type} {g : Nat → Option α} {r : α} (h : Ev (fun k => g (k + 1)) r) : Ev g r := Ev.step (fun _ => rfl) h
theorem rdiv {a b : Int} (hb : 0 < b) (hb' : b ≤ 1000000) (h : -9223372036854775808 ≤ a) (h' : a < 9223372036854775808) : solsticeref01_Div.f a b = some (a / b, a % b) := by
  have e := Int.emod_add_mul_ediv a b
  have r0 := Int.emod_nonneg a (Int.ne_of_gt hb)
  have r1 := Int.emod_lt_of_pos a hb
  unfold solsticeref01_Div.f
  rw [if_neg (by omega)]
  by_cases ha : 0 ≤ a
  · have q0 := Int.ediv_nonneg ha (Int.le_of_lt hb)
    have q1 := Int.ediv_le_self b ha
    rw [tmod_nn b ha, tdiv_nn b ha, if_neg (by omega), w64 (by omega) (by omega)]
  · have hn : (0 : Int) ≤ -a := by omega
    have q0 := Int.ediv_nonneg hn (Int.le_of_lt hb)
    have q1 := Int.ediv_le_self b hn
    have e2 := Int.emod_add_mul_ediv (-a) b
    have s0 := Int.emod_nonneg (-a) (Int.ne_of_gt hb)
    have s1 := Int.emod_lt_of_pos (-a) hb
    rw [tmod_if, tdiv_if, if_neg ha, if_neg ha]
    by_cases hz : (-a) % b = 0
    · have h1 : a / b = -((-a) / b) := by
        refine (Int.ediv_emod_unique hb (r := 0) (q := -((-a) / b))).2 ⟨by rw [Int.mul_neg]; omega, by omega, hb⟩ |>.1
      have h2 : a % b = 0 := (Int.ediv_emod_unique hb (r := 0) (q := -((-a) / b))).2 ⟨by rw [Int.mul_neg]; omega, by omega, hb⟩ |>.2
      rw [if_neg (by omega), w64 (by omega) (by omega), h1, h2, hz]; rfl
    · have hq : (-a) / b ≤ (-a) - 1 := by
        by_cases b1 : b = 1
        · subst b1; omega
        · have : 2 * ((-a) / b) ≤ b * ((-a) / b) := Int.mul_le_mul_of_nonneg_right (by omega) q0
          omega
      have h1 : a / b = -((-a) / b) - 1 := by
        refine (Int.ediv_emod_unique hb (r := -((-a) % b) + b) (q := -((-a) / b) - 1)).2 ⟨by rw [Int.mul_sub, Int.mul_neg]; omega, by omega, by omega⟩ |>.1
      have h2 : a % b = -((-a) % b) + b := (Int.ediv_emod_unique hb (r := -((-a) % b) + b) (q := -((-a) / b) - 1)).2 ⟨by rw [Int.mul_sub, Int.mul_neg]; omega, by omega, by omega⟩ |>.2
      rw [if_pos (by omega), w64 (x := -((-a) / b)) (by omega) (by omega), w64 (by omega) (by omega), w64 (by omega) (by omega), h1, h2]
theorem rlong {y : Int} (h : -9223372036854775808 ≤ y) (h' : y < 9223372036854775808) : solsticeref01_Long.f y = some (lp y) := by
  unfold solsticeref01_Long.f
  rw [rdiv (by omega) (by omega) h h', rdiv (by omega) (by omega) h h', rdiv (by omega) (by omega) h h']
  simp only [Option.bind_some]
  by_cases h4 : y % 4 = 0
  · rw [if_pos h4]
    by_cases h1 : y % 100 = 0
    · rw [if_pos h1]; unfold lp; congr 1; rw [Bool.eq_iff_iff]; simp; omega
    · rw [if_neg h1, (lp_iff y).2 ⟨h4, Or.inl h1⟩]
  · rw [if_neg h4]; unfold lp; congr 1; rw [eq_comm, decide_eq_false_iff_not]; omega
theorem rin (a b c : Int) : solsticeref01_In.f a b c = some (decide (b ≤ a ∧ a ≤ c)) := by
  unfold solsticeref01_In.f
  by_cases h : a ≥ b
  · rw [if_pos h]; congr 1; rw [decide_eq_decide]; omega
  · rw [if_neg h]; congr 1; rw [eq_comm, decide_eq_false_iff_not]; omega
theorem rlen {y : Int} (m : Int) (h : -9223372036854775808 ≤ y) (h' : y < 9223372036854775808) : Ev (fun k => solsticeref01_Len.f k y m) (ln y m) := by
  unfold solsticeref01_Len.f
  simp only [rin, Option.bind_some, rlong h h']
  by_cases hm : 1 ≤ m ∧ m ≤ 12
  · simp only [decide_eq_true hm, if_true]
    refine evif (fun h2 => ?_) (fun h2 => ?_)
    · subst h2
      refine evstep ?_
      simp only [solsticeref01_Len.j0]
      by_cases hl : lp y = true
      · simp only [if_pos hl]; exact evs (by simp [ln, lpi, hl])
      · simp only [if_neg hl, if_true]; exact evs (by simp [ln, lpi, hl])
    · refine evstep ?_
      simp only [solsticeref01_Len.j0]
      simp only [Bool.false_eq_true, if_false, if_neg h2]
      refine Ev.congr (fun k => ?_) (Ev.now _)
      unfold ln
      obtain ⟨a, b⟩ := hm
      rcases mcases a b with rfl | rfl | rfl | rfl | rfl | rfl | rfl | rfl | rfl | rfl | rfl | rfl <;> first | rfl | (exact absurd rfl h2) | decide
  · simp only [decide_eq_false hm, Bool.false_eq_true, if_false]
    exact evs (ln_0 y m (by omega)).symm
theorem clong (y : Int) : civil_Long.f y = some (lp y) := by
  unfold civil_Long.f
  have e4 : Int.tmod y 4 = 0 ↔ y % 4 = 0 := by rw [tmod_if]; split <;> omega
  have e1 : Int.tmod y 100 = 0 ↔ y % 100 = 0 := by rw [tmod_if]; split <;> omega
  have e5 : Int.tmod y 400 = 0 ↔ y % 400 = 0 := by rw [tmod_if]; split <;> omega
  by_cases h4 : y % 4 = 0
  · rw [if_pos (e4.2 h4)]
    by_cases h1 : y % 100 = 0
    · rw [if_pos (e1.2 h1)]; unfold lp; congr 1; rw [Bool.eq_iff_iff]; simp [e5]; omega
    · rw [if_neg (fun k => h1 (e1.1 k)), (lp_iff y).2 ⟨h4, Or.inl h1⟩]
  · rw [if_neg (fun k => h4 (e4.1 k))]; unfold lp; congr 1; rw [eq_comm, decide_eq_false_iff_not]; omega
theorem clen (y m : Int) : Ev (fun k => civil_Len.f k y m) (ln y m) := by
  unfold civil_Len.f
  by_cases hm : 1 ≤ m ∧ m ≤ 12
  · simp only [if_neg (show ¬ m < 1 by omega), decide_eq_false (show ¬ m > 12 by omega)]
    refine evstep ?_
    simp only [civil_Len.j0]
    simp only [Bool.false_eq_true, if_false, clong, Option.bind_some]
    refine Ev.congr (fun k => ?_) (Ev.now _)
    unfold ln lpi
    obtain ⟨a, b⟩ := hm
    rcases mcases a b with rfl | rfl | rfl | rfl | rfl | rfl | rfl | rfl | rfl | rfl | rfl | rfl <;> cases lp y <;> decide +kernel
  · rw [ln_0 y m (by omega)]
    by_cases h1 : m < 1
    · simp only [if_pos h1]; exact evstep (by simp only [civil_Len.j0, if_true]; exact Ev.now _)
    · simp only [if_neg h1, decide_eq_true (show m > 12 by omega)]; exact evstep (by simp only [civil_Len.j0, if_true]; exact Ev.now _)
theorem cright (y m d : Int) : Ev (fun k => civil_right.f k y m d) (decide (Rt y m d)) := by
  unfold civil_right.f
  refine evif (fun h1 => evif (fun h2 => evif (fun h3 => evb (clen y m) (evs ?_)) (fun h3 => evs ?_)) (fun h2 => evs ?_)) (fun h1 => evs ?_)
  · rw [decide_eq_decide]
    unfold Rt
    constructor
    · intro h4
      by_cases hm : m < 1 ∨ 12 < m
      · rw [ln_0 y m hm] at h4; omega
      · omega
    · omega
  all_goals (rw [eq_comm, decide_eq_false_iff_not]; unfold Rt; omega)
theorem cahead {y : Int} (h : 0 ≤ y) (h' : y ≤ 20000) : civil_ahead.f y = some (ah y) := by
  unfold civil_ahead.f
  by_cases h0 : y = 0
  · subst h0; rfl
  · rw [if_neg h0]
    unfold ah
    rw [w64 (x := y - 1) (by omega) (by omega), tdiv_nn 4 (by omega), tdiv_nn 100 (by omega), tdiv_nn 400 (by omega)]
    rw [w64 (x := y * 365) (by omega) (by omega), w64 (x := (y - 1) / 4) (by omega) (by omega), w64 (x := (y - 1) / 100) (by omega) (by omega), w64 (x := (y - 1) / 400) (by omega) (by omega)]
    rw [w64 (x := y * 365 + (y - 1) / 4) (by omega) (by omega), w64 (x := y * 365 + (y - 1) / 4 - (y - 1) / 100) (by omega) (by omega), w64 (x := y * 365 + (y - 1) / 4 - (y - 1) / 100 + (y - 1) / 400) (by omega) (by omega)]
    rw [w64 (by omega) (by omega)]
theorem cnum_l (y m d b : Int) (hb : -1000000000 ≤ b) (hb' : b ≤ 1000000000) (hm : m ≤ 13) : ∀ (n : Nat) (j : Int), 1 ≤ j → j + n = m → Ev (fun k => civil_Number.l0 k (b + cum y j) j y m d) (b + cum y m, 0) := by
  intro n
  induction n with
  | zero =>
    intro j h1 h2
    obtain rfl : j = m := by omega
    refine evstep ?_
    simp only [civil_Number.l0]
    simp only [Int.lt_irrefl, if_false]
    exact Ev.now _
  | succ n ih =>
    intro j h1 h2
    refine evstep ?_
    simp only [civil_Number.l0]
    simp only [if_pos (show j < m by omega)]
    refine evb (clen y j) ?_
    have hc := cum_bd y j h1 (by omega)
    have hl := ln_bd y j h1 (by omega)
    have hp := lpi_01 y
    rw [w64 (x := b + cum y j + ln y j) (by omega) (by omega), w64 (x := j + 1) (by omega) (by omega), show b + cum y j + ln y j = b + cum y (j + 1) by rw [cum_succ y j h1 (by omega)]; omega]
    exact ih (j + 1) (by omega) (by omega)
theorem cnum {y m d : Int} (h : Rt y m d) : Ev (fun k => civil_Number.f k y m d) (num y m d, 0) := by
  obtain ⟨h1, h2, h3, h4, h5, h6⟩ := id h
  have hb := ah_bd h1 (by omega)
  have hl := ln_bd y m h3 h4
  unfold civil_Number.f
  refine evb (cright y m d) ?_
  simp only [decide_eq_true h, if_true, cahead h1 (show y ≤ 20000 by omega), Option.bind_some]
  rw [w64 (x := ah y - 719528) (by omega) (by omega), w64 (x := ah y - 719528 + d) (by omega) (by omega), w64 (x := ah y - 719528 + d - 1) (by omega) (by omega)]
  have := cnum_l y m d (ah y - 719528 + d - 1) (by omega) (by omega) (by omega) (m - 1).toNat 1 (by omega) (by omega)
  rw [cum_1, Int.add_zero] at this
  rwa [show num y m d = ah y - 719528 + d - 1 + cum y m by unfold num; omega]
theorem cnum_no {y m d : Int} (h : ¬ Rt y m d) : Ev (fun k => civil_Number.f k y m d) (0, 4) := by
  unfold civil_Number.f
  refine evb (cright y m d) ?_
  simp only [decide_eq_false h, Bool.false_eq_true, if_false]
  exact Ev.now _
theorem cwd (n : Int) : civil_Weekday.f n = some (wd n) := by
  unfold civil_Weekday.f wd
  rw [tmod_if n 7]
  split
  · rw [w64 (x := n % 7 + 7) (by omega) (by omega), w64 (by omega) (by omega), tmod_nn 7 (by omega)]; congr 1; omega
  · rw [w64 (x := -(-n % 7) + 7) (by omega) (by omega), w64 (by omega) (by omega), tmod_nn 7 (by omega)]; congr 1; omega
theorem u64w (x : Int) : IntKind.u64.wrap x = x % 18446744073709551616 := by
  unfold IntKind.wrap
  simp [IntKind.bits, IntKind.signed]
theorem um (a : Int) {n : Int} (hn : 0 < n) (hn' : n ≤ 1000000) : ∃ r, 0 ≤ r ∧ r < n ∧ wrap64 (Int.tmod (IntKind.u64.wrap a) n) = r := by
  have h0 : 0 ≤ IntKind.u64.wrap a := by rw [u64w]; omega
  have h1 := Int.emod_nonneg (IntKind.u64.wrap a) (Int.ne_of_gt hn)
  have h2 := Int.emod_lt_of_pos (IntKind.u64.wrap a) hn
  exact ⟨IntKind.u64.wrap a % n, h1, h2, by rw [tmod_nn n h0, w64 (by omega) (by omega)]⟩
theorem um1 (a : Int) {n : Int} (hn : 0 < n) (hn' : n ≤ 1000000) : ∃ r, 1 ≤ r ∧ r ≤ n ∧ wrap64 (1 + wrap64 (Int.tmod (IntKind.u64.wrap a) n)) = r := by
  obtain ⟨r, h0, h1, e⟩ := um a hn hn'
  exact ⟨1 + r, by omega, by omega, by rw [e, w64 (by omega) (by omega)]⟩
/-- A local time as UTC. -/
def utcV (s kd std sv : Int) : Int := if kd = 1 then s - std - sv else if kd = 2 then s - std else s
def utcP (s kd std sv : Int) : Prop := 1 ≤ kd ∧ kd ≤ 3 ∧ -4611686018427387904 ≤ s ∧ s ≤ 4611686018427387904 ∧ -345600 ≤ std ∧ std ≤ 345600 ∧ -345600 ≤ sv ∧ sv ≤ 345600
instance (s kd std sv : Int) : Decidable (utcP s kd std sv) := by unfold utcP; infer_instance
theorem aright (kd : Int) : atform_right.f kd = some (decide (1 ≤ kd ∧ kd ≤ 3)) := by
  unfold atform_right.f
  by_cases h1 : kd = 1
  · rw [if_pos h1]; congr 1; rw [eq_comm, decide_eq_true_eq]; omega
  · by_cases h2 : kd = 2
    · rw [if_neg h1, if_pos h2]; congr 1; rw [eq_comm, decide_eq_true_eq]; omega
    · rw [if_neg h1, if_neg h2]; congr 1; rw [Bool.eq_iff_iff]; simp; omega
theorem ain (n : Int) {m : Int} (h : 0 ≤ m) (h' : m ≤ 4611686018427387904) : atform_in.f n m = some (decide (-m ≤ n ∧ n ≤ m)) := by
  unfold atform_in.f
  rw [w64 (by omega) (by omega)]
  by_cases h1 : n ≥ -m
  · rw [if_pos h1]; congr 1; rw [decide_eq_decide]; omega
  · rw [if_neg h1]; congr 1; rw [eq_comm, decide_eq_false_iff_not]; omega
theorem autc (s kd std sv : Int) : Ev (fun k => atform_Utc.f k s kd std sv) (if utcP s kd std sv then (utcV s kd std sv, true) else (0, false)) := by
  have j0 : ∀ b : Bool, (b = true ↔ ¬ utcP s kd std sv) → Ev (fun k => atform_Utc.j0 k s kd std sv b) (if utcP s kd std sv then (utcV s kd std sv, true) else (0, false)) := by
    intro b hb
    refine evstep ?_
    simp only [atform_Utc.j0]
    refine evif (fun h => evs (by rw [if_neg (hb.1 h)])) (fun h => ?_)
    have hp : utcP s kd std sv := Decidable.not_not.1 (mt hb.2 h)
    have hq := hp
    unfold utcP at hq
    rw [if_pos hp]
    refine evif (fun h1 => evs ?_) (fun h1 => evif (fun h2 => evs ?_) (fun h2 => evs ?_))
    · rw [w64 (x := s - std) (by omega) (by omega), w64 (by omega) (by omega)]; simp [utcV, h1]
    · rw [w64 (by omega) (by omega)]; simp [utcV, h2]
    · simp [utcV, h1, h2]
  unfold atform_Utc.f
  rw [aright, ain s (by omega) (by omega), ain std (by omega) (by omega), ain sv (by omega) (by omega)]
  simp only [Option.bind_some]
  refine evif (fun h1 => evif (fun h2 => evif (fun h3 => j0 _ ?_) (fun h3 => j0 _ ?_)) (fun h2 => j0 _ ?_)) (fun h1 => j0 _ ?_)
  all_goals (simp only [decide_eq_true_eq] at *; unfold utcP; simp; omega)
theorem acheck (s kd : Int) : atform_Check.f s kd = some (if -345600 ≤ s ∧ s ≤ 345600 ∧ 1 ≤ kd ∧ kd ≤ 3 then 0 else 9) := by
  unfold atform_Check.f
  rw [ain s (by omega) (by omega), aright]
  simp only [Option.bind_some]
  by_cases h1 : -345600 ≤ s ∧ s ≤ 345600
  · rw [decide_eq_true h1, if_pos rfl]
    by_cases h2 : 1 ≤ kd ∧ kd ≤ 3
    · rw [decide_eq_true h2, if_pos rfl, if_pos (by omega)]
    · rw [decide_eq_false h2, if_neg (by decide), if_neg (by omega)]
  · rw [decide_eq_false h1, if_neg (by decide), if_neg (by omega)]
theorem csplit {t : Int} (h : -9223372036854775808 ≤ t) (h' : t < 9223372036854775808) : clock_Split.f t = some (t / 86400, t % 86400) := by
  unfold clock_Split.f
  rw [tmod_if, tdiv_if]
  by_cases ht : 0 ≤ t
  · rw [if_pos ht, if_pos ht, if_neg (by omega), w64 (by omega) (by omega)]
  · rw [if_neg ht, if_neg ht]
    by_cases hz : -(-t % 86400) < 0
    · rw [if_pos hz, w64 (x := -(-t / 86400)) (by omega) (by omega), w64 (x := -(-t / 86400) - 1) (by omega) (by omega), w64 (by omega) (by omega)]
      congr 1
      exact Prod.ext (by show -(-t / 86400) - 1 = t / 86400; omega) (by show -(-t % 86400) + 86400 = t % 86400; omega)
    · rw [if_neg hz, w64 (by omega) (by omega)]
      congr 1
      exact Prod.ext (by show -(-t / 86400) = t / 86400; omega) (by show -(-t % 86400) = t % 86400; omega)
def moveP (s kd std sv now : Int) : Prop := -345600 ≤ s ∧ s ≤ 345600 ∧ 1 ≤ kd ∧ kd ≤ 3 ∧ -345600 ≤ std ∧ std ≤ 345600 ∧ -345600 ≤ sv ∧ sv ≤ 345600 ∧ -172800 ≤ now ∧ now ≤ 172800
instance (s kd std sv now : Int) : Decidable (moveP s kd std sv now) := by unfold moveP; infer_instance
def moveV (s kd std sv now : Int) : Int × Int × Bool := if moveP s kd std sv now then ((utcV s kd std sv + now) / 86400, (utcV s kd std sv + now) % 86400, true) else (0, 0, false)
theorem utcV_bd {s kd std sv : Int} (h : -345600 ≤ s) (h' : s ≤ 345600) (h1 : -345600 ≤ std) (h2 : std ≤ 345600) (h3 : -345600 ≤ sv) (h4 : sv ≤ 345600) : -1036800 ≤ utcV s kd std sv ∧ utcV s kd std sv ≤ 1036800 := by
  unfold utcV; split
  · omega
  · split <;> omega
theorem emove (s kd std sv now : Int) : Ev (fun k => encode_Move.f k s kd std sv now) (moveV s kd std sv now) := by
  unfold encode_Move.f moveV
  refine evb (autc s kd std sv) ?_
  rw [acheck]
  simp only [Option.bind_some]
  by_cases hu : utcP s kd std sv
  · simp only [if_pos hu, if_true]
    by_cases hc : -345600 ≤ s ∧ s ≤ 345600 ∧ 1 ≤ kd ∧ kd ≤ 3
    · simp only [if_pos hc, if_true]
      unfold utcP at hu
      have hb := utcV_bd (kd := kd) hc.1 hc.2.1 (std := std) (by omega) (by omega) (sv := sv) (by omega) (by omega)
      refine evif (fun h1 => evs ?_) (fun h1 => evif (fun h2 => evs ?_) (fun h2 => ?_))
      · rw [if_neg]; unfold moveP; omega
      · rw [if_neg]; unfold moveP; omega
      · rw [w64 (by omega) (by omega), csplit (by omega) (by omega)]
        refine evs ?_
        rw [if_pos]; unfold moveP; omega
    · simp only [if_neg hc, if_neg (show ¬ (9 : Int) = 0 by omega)]
      refine evs ?_
      rw [if_neg]; unfold moveP; omega
  · simp only [if_neg hu, Bool.false_eq_true, if_false]
    refine evs ?_
    rw [if_neg]; unfold moveP; unfold utcP at hu; omega
/-- A rule of nothing. -/
def zR : RR := ⟨0, 0, 0, false, 0, false, [], [], [], [], [], [], [], [], [], 0⟩
/-- A rule of each year's month. -/
def monR (m : Int) : RR := ⟨7, 1, 0, false, 0, false, [], [], [], [], [], [], [], [m], [], 1⟩
def upTo (f : Int) : Nat → List Int
  | 0 => []
  | n + 1 => upTo f n ++ [f + (n : Int)]
theorem upTo_succ (f : Int) (n : Nat) : upTo f (n + 1) = upTo f n ++ [f + (n : Int)] := rfl
theorem upTo_len (f : Int) (n : Nat) : (upTo f n).length = n := by
  induction n with
  | zero => rfl
  | succ n ih => rw [upTo_succ, List.length_append, ih]; rfl
/-- The first of a form's days, moved. -/
def fst24 (kd d mv : Int) : Int := if kd = 4 then d + mv - 6 else d + mv
def many24 (kd : Int) : Int := if kd = 1 then 1 else 7
def encP (m kd d mv : Int) : Prop := -40 ≤ mv ∧ mv ≤ 40 ∧ (kd = 2 ∧ mv = 0 ∨ kd ≠ 2 ∧ d ≤ ln 2001 m ∧ 1 ≤ fst24 kd d mv ∧ fst24 kd d mv + many24 kd - 1 ≤ ln 2001 m)
instance (m kd d mv : Int) : Decidable (encP m kd d mv) := by unfold encP; infer_instance
/-- Seven days from one on, of a weekday. -/
def sevR (m f wk : Int) : RR := if f % 7 = 1 then { monR m with dy := [⟨f / 7 + 1, wk⟩] } else { monR m with dy := [⟨0, wk⟩], md := upTo f 7 }
/-- The rule of a form. -/
def onR (m kd w d mv : Int) : RR :=
  if kd = 2 then { monR m with dy := [⟨-1, w⟩] }
  else if kd = 1 then { monR m with md := [fst24 kd d mv] }
  else sevR m (fst24 kd d mv) ((w + mv) % 7)
def onE (m kd w d mv : Int) : Int := if OnR kd w d then (if m < 1 ∨ 12 < m then 4 else if encP m kd d mv then 0 else 17) else 8
theorem len01 (m : Int) (h : 1 ≤ m) (h' : m ≤ 12) : 28 ≤ ln 2001 m ∧ ln 2001 m ≤ 31 := ln_bd 2001 m h h'
theorem wweekday (n : Int) : week_weekday.f n = some (decide (0 ≤ n ∧ n ≤ 6)) := by
  unfold week_weekday.f
  by_cases h : n ≥ 0
  · rw [if_pos h]; congr 1; rw [decide_eq_decide]; omega
  · rw [if_neg h]; congr 1; rw [eq_comm, decide_eq_false_iff_not]; omega
theorem wcheck (kd w d : Int) : Ev (fun k => week_Check.f k kd w d) (if OnR kd w d then 0 else 8) := by
  have main : ∀ b : Bool, (b = true ↔ 1 ≤ d ∧ d ≤ 31) → Ev (fun k => week_Check.j0 k b kd w d) (if OnR kd w d then 0 else 8) := by
    intro b hb
    have j1 : ∀ c : Bool, (c = true ↔ kd = 3 ∨ kd = 4) → kd ≠ 1 → kd ≠ 2 → Ev (fun k => week_Check.j1 k b false c kd w d) (if OnR kd w d then 0 else 8) := by
      intro c hc n1 n2
      refine evstep ?_
      simp only [week_Check.j1, wweekday, Option.bind_some]
      refine evif (fun h1 => evif (fun h2 => evif (fun h3 => evs ?_) (fun h3 => evs ?_)) (fun h2 => evs ?_)) (fun h1 => ?_)
      · rw [if_pos]; unfold OnR; simp only [decide_eq_true_eq] at h3; have := hc.1 h1; have := hb.1 h2; omega
      · rw [if_neg]; unfold OnR; simp only [decide_eq_true_eq] at h3; have := hc.1 h1; have := hb.1 h2; omega
      · rw [if_neg]; unfold OnR; have := mt hb.2 h2; omega
      · simp only [Bool.false_eq_true, if_false]
        refine evs ?_
        rw [if_neg]; unfold OnR; have := mt hc.2 h1; omega
    refine evstep ?_
    simp only [week_Check.j0, wweekday, Option.bind_some]
    refine evif (fun h1 => evif (fun h2 => evif (fun h3 => evs ?_) (fun h3 => evs ?_)) (fun h2 => evs ?_)) (fun h1 => evif (fun h2 => evif (fun h3 => evif (fun h4 => evs ?_) (fun h4 => evs ?_)) (fun h3 => evs ?_)) (fun h2 => evif (fun h3 => j1 _ ?_ h1 h2) (fun h3 => j1 _ ?_ h1 h2)))
    · rw [if_pos]; unfold OnR; have := hb.1 h2; omega
    · rw [if_neg]; unfold OnR; omega
    · rw [if_neg]; unfold OnR; have := mt hb.2 h2; omega
    · rw [if_pos]; unfold OnR; simp only [decide_eq_true_eq] at h4; omega
    · rw [if_neg]; unfold OnR; simp only [decide_eq_true_eq] at h4; omega
    · rw [if_neg]; unfold OnR; omega
    · simp; omega
    · simp; omega
  unfold week_Check.f
  refine evif (fun h => main _ ?_) (fun h => main _ ?_)
  · simp; omega
  · simp; omega
end Go.Proofs.Ytfinhaghgmnegaa.Pure
