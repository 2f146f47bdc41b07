/- What the functions of the layers below that the statements of layer 13 reach compute, in plain numbers. No condition beyond those each lemma names. -/
import Derived.Test.YtdhljcnilclfbaaWk
import Derived.Test.YtdhljcnilclfbaaOx18
import Derived.Test.YtdhljcnilclfbaaOx24
import Derived.Test.YtdhljcnilclfbaaOx4
import Derived.Test.YtdhljcnilclfbaaOx5
import Derived.Test.YtdhljcnilclfbaaOx61
import Derived.Test.YtdhljcnilclfbaaOx69
namespace Go.Proofs.Ytdhljcnilclfbaa.Pure
open Go.RowKit Go.Proofs.Ytdhljcnilclfbaa.O Go.Proofs.YtdhljcnilclfbaaW.PrintWords Go.Proofs.YtdhljcnilclfbaaW.PrintLast
open Go.Proofs.Ytdhljcnilclfbaa.Civ
set_option linter.unusedVariables false
set_option linter.unusedSimpArgs false
/-! What the printed functions of layer 2 tell, in the words of 'Civ'. -/
theorem evb {α β : Type} {g : Nat → Option α} {f : Nat → α → Option β} {a : α} {r : β} (h : Ev g a) (k : Ev (fun n => f n a) r) : Ev (fun n => (g n).bind (f n)) r := Ev.bind h k
theorem evif {α : Type} {c : Prop} [Decidable c] {f g : Nat → Option α} {r : α} (h : c → Ev f r) (k : ¬ c → Ev g r) : Ev (fun n => if c then f n else g n) r := by
  by_cases hc : c
  · simp only [if_pos hc]; exact h hc
  · simp only [if_neg hc]; exact k hc
theorem evs {α : Type} {a r : α} (h : a = r) : Ev (fun _ => some a) r := by rw [h]; exact Ev.now r
theorem evstep {α : Type} {g : Nat → Option α} {r : α} (h : Ev (fun k => g (k + 1)) r) : Ev g r := Ev.step (fun _ => rfl) h
theorem rdiv {a b : Int} (hb : 0 < b) (hb' : b ≤ 1000000) (h : -9223372036854775808 ≤ a) (h' : a < 9223372036854775808) : solsticeref01_Div.f a b = some (a / b, a % b) := by
  have e := Int.emod_add_mul_ediv a b
  have r0 := Int.emod_nonneg a (Int.ne_of_gt hb)
  have r1 := Int.emod_lt_of_pos a hb
  unfold solsticeref01_Div.f
  rw [if_neg (by omega)]
  by_cases ha : 0 ≤ a
  · have q0 := Int.ediv_nonneg ha (Int.le_of_lt hb)
    have q1 := Int.ediv_le_self b ha
    rw [tmod_nn b ha, tdiv_nn b ha, if_neg (by omega), w64 (by omega) (by omega)]
  · have hn : (0 : Int) ≤ -a := by omega
    have q0 := Int.ediv_nonneg hn (Int.le_of_lt hb)
    have q1 := Int.ediv_le_self b hn
    have e2 := Int.emod_add_mul_ediv (-a) b
    have s0 := Int.emod_nonneg (-a) (Int.ne_of_gt hb)
    have s1 := Int.emod_lt_of_pos (-a) hb
    rw [tmod_if, tdiv_if, if_neg ha, if_neg ha]
    by_cases hz : (-a) % b = 0
    · have h1 : a / b = -((-a) / b) := by
        refine (Int.ediv_emod_unique hb (r := 0) (q := -((-a) / b))).2 ⟨by rw [Int.mul_neg]; omega, by omega, hb⟩ |>.1
      have h2 : a % b = 0 := (Int.ediv_emod_unique hb (r := 0) (q := -((-a) / b))).2 ⟨by rw [Int.mul_neg]; omega, by omega, hb⟩ |>.2
      rw [if_neg (by omega), w64 (by omega) (by omega), h1, h2, hz]; rfl
    · have hq : (-a) / b ≤ (-a) - 1 := by
        by_cases b1 : b = 1
        · subst b1; omega
        · have : 2 * ((-a) / b) ≤ b * ((-a) / b) := Int.mul_le_mul_of_nonneg_right (by omega) q0
          omega
      have h1 : a / b = -((-a) / b) - 1 := by
        refine (Int.ediv_emod_unique hb (r := -((-a) % b) + b) (q := -((-a) / b) - 1)).2 ⟨by rw [Int.mul_sub, Int.mul_neg]; omega, by omega, by omega⟩ |>.1
      have h2 : a % b = -((-a) % b) + b := (Int.ediv_emod_unique hb (r := -((-a) % b) + b) (q := -((-a) / b) - 1)).2 ⟨by rw [Int.mul_sub, Int.mul_neg]; omega, by omega, by omega⟩ |>.2
      rw [if_pos (by omega), w64 (x := -((-a) / b)) (by omega) (by omega), w64 (by omega) (by omega), w64 (by omega) (by omega), h1, h2]
theorem rlong {y : Int} (h : -9223372036854775808 ≤ y) (h' : y < 9223372036854775808) : solsticeref01_Long.f y = some (lp y) := by
  unfold solsticeref01_Long.f
  rw [rdiv (by omega) (by omega) h h', rdiv (by omega) (by omega) h h', rdiv (by omega) (by omega) h h']
  simp only [Option.bind_some]
  by_cases h4 : y % 4 = 0
  · rw [if_pos h4]
    by_cases h1 : y % 100 = 0
    · rw [if_pos h1]; unfold lp; congr 1; rw [Bool.eq_iff_iff]; simp; omega
    · rw [if_neg h1, (lp_iff y).2 ⟨h4, Or.inl h1⟩]
  · rw [if_neg h4]; unfold lp; congr 1; rw [eq_comm, decide_eq_false_iff_not]; omega
theorem rin (a b c : Int) : solsticeref01_In.f a b c = some (decide (b ≤ a ∧ a ≤ c)) := by
  unfold solsticeref01_In.f
  by_cases h : a ≥ b
  · rw [if_pos h]; congr 1; rw [decide_eq_decide]; omega
  · rw [if_neg h]; congr 1; rw [eq_comm, decide_eq_false_iff_not]; omega
theorem rlen {y : Int} (m : Int) (h : -9223372036854775808 ≤ y) (h' : y < 9223372036854775808) : Ev (fun k => solsticeref01_Len.f k y m) (ln y m) := by
  unfold solsticeref01_Len.f
  simp only [rin, Option.bind_some, rlong h h']
  by_cases hm : 1 ≤ m ∧ m ≤ 12
  · simp only [decide_eq_true hm, if_true]
    refine evif (fun h2 => ?_) (fun h2 => ?_)
    · subst h2
      refine evstep ?_
      simp only [solsticeref01_Len.j0]
      by_cases hl : lp y = true
      · simp only [if_pos hl]; exact evs (by simp [ln, lpi, hl])
      · simp only [if_neg hl, if_true]; exact evs (by simp [ln, lpi, hl])
    · refine evstep ?_
      simp only [solsticeref01_Len.j0]
      simp only [Bool.false_eq_true, if_false, if_neg h2]
      refine Ev.congr (fun k => ?_) (Ev.now _)
      unfold ln
      obtain ⟨a, b⟩ := hm
      rcases mcases a b with rfl | rfl | rfl | rfl | rfl | rfl | rfl | rfl | rfl | rfl | rfl | rfl <;> first | rfl | (exact absurd rfl h2) | decide
  · simp only [decide_eq_false hm, Bool.false_eq_true, if_false]
    exact evs (ln_0 y m (by omega)).symm
theorem clong (y : Int) : civil_Long.f y = some (lp y) := by
  unfold civil_Long.f
  have e4 : Int.tmod y 4 = 0 ↔ y % 4 = 0 := by rw [tmod_if]; split <;> omega
  have e1 : Int.tmod y 100 = 0 ↔ y % 100 = 0 := by rw [tmod_if]; split <;> omega
  have e5 : Int.tmod y 400 = 0 ↔ y % 400 = 0 := by rw [tmod_if]; split <;> omega
  by_cases h4 : y % 4 = 0
  · rw [if_pos (e4.2 h4)]
    by_cases h1 : y % 100 = 0
    · rw [if_pos (e1.2 h1)]; unfold lp; congr 1; rw [Bool.eq_iff_iff]; simp [e5]; omega
    · rw [if_neg (fun k => h1 (e1.1 k)), (lp_iff y).2 ⟨h4, Or.inl h1⟩]
  · rw [if_neg (fun k => h4 (e4.1 k))]; unfold lp; congr 1; rw [eq_comm, decide_eq_false_iff_not]; omega
theorem clen (y m : Int) : Ev (fun k => civil_Len.f k y m) (ln y m) := by
  unfold civil_Len.f
  by_cases hm : 1 ≤ m ∧ m ≤ 12
  · simp only [if_neg (show ¬ m < 1 by omega), decide_eq_false (show ¬ m > 12 by omega)]
    refine evstep ?_
    simp only [civil_Len.j0]
    simp only [Bool.false_eq_true, if_false, clong, Option.bind_some]
    refine Ev.congr (fun k => ?_) (Ev.now _)
    unfold ln lpi
    obtain ⟨a, b⟩ := hm
    rcases mcases a b with rfl | rfl | rfl | rfl | rfl | rfl | rfl | rfl | rfl | rfl | rfl | rfl <;> cases lp y <;> decide +kernel
  · rw [ln_0 y m (by omega)]
    by_cases h1 : m < 1
    · simp only [if_pos h1]; exact evstep (by simp only [civil_Len.j0, if_true]; exact Ev.now _)
    · simp only [if_neg h1, decide_eq_true (show m > 12 by omega)]; exact evstep (by simp only [civil_Len.j0, if_true]; exact Ev.now _)
theorem cright (y m d : Int) : Ev (fun k => civil_right.f k y m d) (decide (Rt y m d)) := by
  unfold civil_right.f
  refine evif (fun h1 => evif (fun h2 => evif (fun h3 => evb (clen y m) (evs ?_)) (fun h3 => evs ?_)) (fun h2 => evs ?_)) (fun h1 => evs ?_)
  · rw [decide_eq_decide]
    unfold Rt
    constructor
    · intro h4
      by_cases hm : m < 1 ∨ 12 < m
      · rw [ln_0 y m hm] at h4; omega
      · omega
    · omega
  all_goals (rw [eq_comm, decide_eq_false_iff_not]; unfold Rt; omega)
theorem cahead {y : Int} (h : 0 ≤ y) (h' : y ≤ 20000) : civil_ahead.f y = some (ah y) := by
  unfold civil_ahead.f
  by_cases h0 : y = 0
  · subst h0; rfl
  · rw [if_neg h0]
    unfold ah
    rw [w64 (x := y - 1) (by omega) (by omega), tdiv_nn 4 (by omega), tdiv_nn 100 (by omega), tdiv_nn 400 (by omega)]
    rw [w64 (x := y * 365) (by omega) (by omega), w64 (x := (y - 1) / 4) (by omega) (by omega), w64 (x := (y - 1) / 100) (by omega) (by omega), w64 (x := (y - 1) / 400) (by omega) (by omega)]
    rw [w64 (x := y * 365 + (y - 1) / 4) (by omega) (by omega), w64 (x := y * 365 + (y - 1) / 4 - (y - 1) / 100) (by omega) (by omega), w64 (x := y * 365 + (y - 1) / 4 - (y - 1) / 100 + (y - 1) / 400) (by omega) (by omega)]
    rw [w64 (by omega) (by omega)]
theorem cnum_l (y m d b : Int) (hb : -1000000000 ≤ b) (hb' : b ≤ 1000000000) (hm : m ≤ 13) : ∀ (n : Nat) (j : Int), 1 ≤ j → j + n = m → Ev (fun k => civil_Number.l0 k (b + cum y j) j y m d) (b + cum y m, 0) := by
  intro n
  induction n with
  | zero =>
    intro j h1 h2
    obtain rfl : j = m := by omega
    refine evstep ?_
    simp only [civil_Number.l0]
    simp only [Int.lt_irrefl, if_false]
    exact Ev.now _
  | succ n ih =>
    intro j h1 h2
    refine evstep ?_
    simp only [civil_Number.l0]
    simp only [if_pos (show j < m by omega)]
    refine evb (clen y j) ?_
    have hc := cum_bd y j h1 (by omega)
    have hl := ln_bd y j h1 (by omega)
    have hp := lpi_01 y
    rw [w64 (x := b + cum y j + ln y j) (by omega) (by omega), w64 (x := j + 1) (by omega) (by omega), show b + cum y j + ln y j = b + cum y (j + 1) by rw [cum_succ y j h1 (by omega)]; omega]
    exact ih (j + 1) (by omega) (by omega)
theorem cnum {y m d : Int} (h : Rt y m d) : Ev (fun k => civil_Number.f k y m d) (num y m d, 0) := by
  obtain ⟨h1, h2, h3, h4, h5, h6⟩ := id h
  have hb := ah_bd h1 (by omega)
  have hl := ln_bd y m h3 h4
  unfold civil_Number.f
  refine evb (cright y m d) ?_
  simp only [decide_eq_true h, if_true, cahead h1 (show y ≤ 20000 by omega), Option.bind_some]
  rw [w64 (x := ah y - 719528) (by omega) (by omega), w64 (x := ah y - 719528 + d) (by omega) (by omega), w64 (x := ah y - 719528 + d - 1) (by omega) (by omega)]
  have := cnum_l y m d (ah y - 719528 + d - 1) (by omega) (by omega) (by omega) (m - 1).toNat 1 (by omega) (by omega)
  rw [cum_1, Int.add_zero] at this
  rwa [show num y m d = ah y - 719528 + d - 1 + cum y m by unfold num; omega]
theorem cnum_no {y m d : Int} (h : ¬ Rt y m d) : Ev (fun k => civil_Number.f k y m d) (0, 4) := by
  unfold civil_Number.f
  refine evb (cright y m d) ?_
  simp only [decide_eq_false h, Bool.false_eq_true, if_false]
  exact Ev.now _
theorem cwd (n : Int) : civil_Weekday.f n = some (wd n) := by
  unfold civil_Weekday.f wd
  rw [tmod_if n 7]
  split
  · rw [w64 (x := n % 7 + 7) (by omega) (by omega), w64 (by omega) (by omega), tmod_nn 7 (by omega)]; congr 1; omega
  · rw [w64 (x := -(-n % 7) + 7) (by omega) (by omega), w64 (by omega) (by omega), tmod_nn 7 (by omega)]; congr 1; omega
theorem u64w (x : Int) : IntKind.u64.wrap x = x % 18446744073709551616 := by
  unfold IntKind.wrap
  simp [IntKind.bits, IntKind.signed]
theorem i64wf {a : Int} (h : (Lit.int .i64 a).wf = true) : -9223372036854775808 ≤ a ∧ a < 9223372036854775808 := by
  simp [Lit.wf, IntKind.min, IntKind.max, IntKind.signed, IntKind.bits] at h
  omega
theorem wweekday (n : Int) : week_weekday.f n = some (decide (0 ≤ n ∧ n ≤ 6)) := by
  unfold week_weekday.f
  by_cases h : n ≥ 0
  · rw [if_pos h]; congr 1; rw [decide_eq_decide]; omega
  · rw [if_neg h]; congr 1; rw [eq_comm, decide_eq_false_iff_not]; omega
theorem wup {n w : Int} (h : 0 ≤ w) (h' : w ≤ 6) : week_upon.f n w = some (upw n w) := by
  unfold week_upon.f
  have := wd_bd n
  rw [cwd]
  simp only [Option.bind_some]
  rw [w64 (x := w - wd n) (by omega) (by omega), w64 (by omega) (by omega), tmod_nn 7 (by omega)]
  congr 1
  unfold upw
  omega
theorem wahead {n w : Int} (h : 0 ≤ w) (h' : w ≤ 6) : week_ahead.f n w = some (dnw n w) := by
  unfold week_ahead.f
  have := wd_bd n
  rw [cwd]
  simp only [Option.bind_some]
  rw [w64 (x := wd n - w) (by omega) (by omega), w64 (by omega) (by omega), tmod_nn 7 (by omega)]
  congr 1
  unfold dnw
  omega
theorem wcheck (kd w d : Int) : Ev (fun k => week_Check.f k kd w d) (if OnR kd w d then 0 else 8) := by
  have main : ∀ b : Bool, (b = true ↔ 1 ≤ d ∧ d ≤ 31) → Ev (fun k => week_Check.j0 k b kd w d) (if OnR kd w d then 0 else 8) := by
    intro b hb
    have j1 : ∀ c : Bool, (c = true ↔ kd = 3 ∨ kd = 4) → kd ≠ 1 → kd ≠ 2 → Ev (fun k => week_Check.j1 k b false c kd w d) (if OnR kd w d then 0 else 8) := by
      intro c hc n1 n2
      refine evstep ?_
      simp only [week_Check.j1, wweekday, Option.bind_some]
      refine evif (fun h1 => evif (fun h2 => evif (fun h3 => evs ?_) (fun h3 => evs ?_)) (fun h2 => evs ?_)) (fun h1 => ?_)
      · rw [if_pos]; unfold OnR; simp only [decide_eq_true_eq] at h3; have := hc.1 h1; have := hb.1 h2; omega
      · rw [if_neg]; unfold OnR; simp only [decide_eq_true_eq] at h3; have := hc.1 h1; have := hb.1 h2; omega
      · rw [if_neg]; unfold OnR; have := mt hb.2 h2; omega
      · simp only [Bool.false_eq_true, if_false]
        refine evs ?_
        rw [if_neg]; unfold OnR; have := mt hc.2 h1; omega
    refine evstep ?_
    simp only [week_Check.j0, wweekday, Option.bind_some]
    refine evif (fun h1 => evif (fun h2 => evif (fun h3 => evs ?_) (fun h3 => evs ?_)) (fun h2 => evs ?_)) (fun h1 => evif (fun h2 => evif (fun h3 => evif (fun h4 => evs ?_) (fun h4 => evs ?_)) (fun h3 => evs ?_)) (fun h2 => evif (fun h3 => j1 _ ?_ h1 h2) (fun h3 => j1 _ ?_ h1 h2)))
    · rw [if_pos]; unfold OnR; have := hb.1 h2; omega
    · rw [if_neg]; unfold OnR; omega
    · rw [if_neg]; unfold OnR; have := mt hb.2 h2; omega
    · rw [if_pos]; unfold OnR; simp only [decide_eq_true_eq] at h4; omega
    · rw [if_neg]; unfold OnR; simp only [decide_eq_true_eq] at h4; omega
    · rw [if_neg]; unfold OnR; omega
    · simp; omega
    · simp; omega
  unfold week_Check.f
  refine evif (fun h => main _ ?_) (fun h => main _ ?_)
  · simp; omega
  · simp; omega
/-- What Resolve tells. -/
def resV (y m kd w d : Int) : Int × Int := if OnR kd w d then (if y < 1 ∨ 9999 < y then (0, 23) else if Rt y m (fday y m kd d) then (fres y m kd w d, 0) else (0, 4)) else (0, 8)
theorem wres (y m kd w d : Int) : Ev (fun k => week_Resolve.f k y m kd w d) (resV y m kd w d) := by
  unfold week_Resolve.f resV
  refine evb (wcheck kd w d) ?_
  by_cases ho : OnR kd w d
  · simp only [if_pos ho, if_true]
    have j1 : ¬ (y < 1 ∨ 9999 < y) → ∀ x, x = fday y m kd d → Ev (fun k => week_Resolve.j1 k y m x kd w d) (if Rt y m (fday y m kd d) then (fres y m kd w d, 0) else (0, 4)) := by
      intro hy x hx
      subst hx
      refine evstep ?_
      simp only [week_Resolve.j1]
      by_cases hr : Rt y m (fday y m kd d)
      · refine evb (cnum hr) ?_
        have hb := num_bd hr
        have hu := upw_bd (num y m (fday y m kd d)) w
        have hd := dnw_bd (num y m (fday y m kd d)) w
        simp only [if_true, if_pos hr]
        refine evif (fun h3 => ?_) (fun h3 => evif (fun h2 => ?_) (fun h2 => evif (fun h4 => ?_) (fun h4 => evs ?_)))
        · rw [wup (by unfold OnR at ho; omega) (by unfold OnR at ho; omega)]
          refine evs ?_
          rw [w64 (by omega) (by omega)]
          subst h3; simp [fres, fday]
        · rw [wahead (by unfold OnR at ho; omega) (by unfold OnR at ho; omega)]
          refine evs ?_
          rw [w64 (by omega) (by omega)]
          subst h2; simp [fres]
        · rw [wahead (by unfold OnR at ho; omega) (by unfold OnR at ho; omega)]
          refine evs ?_
          rw [w64 (by omega) (by omega)]
          subst h4; simp [fres]
        · obtain rfl : kd = 1 := by unfold OnR at ho; omega
          simp [fres, fday]
      · refine evb (cnum_no hr) ?_
        simp only [if_neg (show ¬ (4 : Int) = 0 by omega), if_neg hr]
        exact Ev.now _
    have j0 : ∀ b : Bool, (b = true ↔ y < 1 ∨ 9999 < y) → Ev (fun k => week_Resolve.j0 k y m b kd w d) (if y < 1 ∨ 9999 < y then (0, 23) else if Rt y m (fday y m kd d) then (fres y m kd w d, 0) else (0, 4)) := by
      intro b hb
      refine evstep ?_
      simp only [week_Resolve.j0]
      refine evif (fun h => evs (by rw [if_pos (hb.1 h)])) (fun h => ?_)
      have hy := mt hb.2 h
      simp only [if_neg hy]
      refine evif (fun h2 => evb (clen y m) (j1 hy _ ?_)) (fun h2 => j1 hy _ ?_)
      · unfold fday; rw [if_pos h2]
      · unfold fday; rw [if_neg h2]
    refine evif (fun h => j0 _ ?_) (fun h => j0 _ ?_)
    · simp; omega
    · simp; omega
  · simp only [if_neg ho, if_neg (show ¬ (8 : Int) = 0 by omega)]
    exact Ev.now _
theorem aright (kd : Int) : atform_right.f kd = some (decide (1 ≤ kd ∧ kd ≤ 3)) := by
  unfold atform_right.f
  by_cases h1 : kd = 1
  · rw [if_pos h1]; congr 1; rw [eq_comm, decide_eq_true_eq]; omega
  · by_cases h2 : kd = 2
    · rw [if_neg h1, if_pos h2]; congr 1; rw [eq_comm, decide_eq_true_eq]; omega
    · rw [if_neg h1, if_neg h2]; congr 1; rw [Bool.eq_iff_iff]; simp; omega
theorem ain (n : Int) {m : Int} (h : 0 ≤ m) (h' : m ≤ 4611686018427387904) : atform_in.f n m = some (decide (-m ≤ n ∧ n ≤ m)) := by
  unfold atform_in.f
  rw [w64 (by omega) (by omega)]
  by_cases h1 : n ≥ -m
  · rw [if_pos h1]; congr 1; rw [decide_eq_decide]; omega
  · rw [if_neg h1]; congr 1; rw [eq_comm, decide_eq_false_iff_not]; omega
theorem acheck (s kd : Int) : atform_Check.f s kd = some (if -345600 ≤ s ∧ s ≤ 345600 ∧ 1 ≤ kd ∧ kd ≤ 3 then 0 else 9) := by
  unfold atform_Check.f
  rw [ain s (by omega) (by omega), aright]
  simp only [Option.bind_some]
  by_cases h1 : -345600 ≤ s ∧ s ≤ 345600
  · rw [decide_eq_true h1, if_pos rfl]
    by_cases h2 : 1 ≤ kd ∧ kd ≤ 3
    · rw [decide_eq_true h2, if_pos rfl, if_pos (by omega)]
    · rw [decide_eq_false h2, if_neg (by decide), if_neg (by omega)]
  · rw [decide_eq_false h1, if_neg (by decide), if_neg (by omega)]
theorem ron (kd w d : Int) : Ev (fun k => solsticeref01_On.f k kd w d) (decide (OnR kd w d)) := by
  have j0 : ∀ b : Bool, (b = true ↔ kd = 3 ∨ kd = 4) → kd ≠ 1 → kd ≠ 2 → Ev (fun k => solsticeref01_On.j0 k b kd w d) (decide (OnR kd w d)) := by
    intro b hb n1 n2
    refine evstep ?_
    simp only [solsticeref01_On.j0, rin, Option.bind_some]
    refine evif (fun h => evif (fun h2 => evs ?_) (fun h2 => evs ?_)) (fun h => evs ?_)
    · have := hb.1 h; rw [decide_eq_decide]; simp only [decide_eq_true_eq] at h2; unfold OnR; omega
    · have := hb.1 h; rw [eq_comm, decide_eq_false_iff_not]; simp only [decide_eq_true_eq] at h2; unfold OnR; omega
    · have := mt hb.2 h; rw [eq_comm, decide_eq_false_iff_not]; unfold OnR; omega
  unfold solsticeref01_On.f
  simp only [rin, Option.bind_some]
  refine evif (fun h1 => evif (fun h2 => evs ?_) (fun h2 => evs ?_)) (fun h1 => evif (fun h2 => evif (fun h3 => evs ?_) (fun h3 => evs ?_)) (fun h2 => evif (fun h3 => j0 _ ?_ h1 h2) (fun h3 => j0 _ ?_ h1 h2)))
  · rw [Bool.eq_iff_iff]; simp only [decide_eq_true_eq, beq_iff_eq] at h2 ⊢; unfold OnR; omega
  · rw [eq_comm, decide_eq_false_iff_not]; simp only [decide_eq_true_eq] at h2; unfold OnR; omega
  · rw [Bool.eq_iff_iff]; simp only [decide_eq_true_eq, beq_iff_eq] at h3 ⊢; unfold OnR; omega
  · rw [eq_comm, decide_eq_false_iff_not]; simp only [decide_eq_true_eq] at h3; unfold OnR; omega
  · simp; omega
  · simp; omega
end Go.Proofs.Ytdhljcnilclfbaa.Pure
