/- What rules of months and of years without lists tell, in plain numbers. No condition beyond those each lemma names. -/
import Derived.Test.YtjjaiahfkiojlaaGreatMOx8
import Derived.Test.YtjjaiahfkiojlaaGreatMT23q
namespace Go.Proofs.YtjjaiahfkiojlaaGreat.Pure
open Go.RowKit Go.Proofs.YtjjaiahfkiojlaaGreat.O Go.Proofs.YtjjaiahfkiojlaaGreatW.PrintWords Go.Proofs.YtjjaiahfkiojlaaGreatW.PrintLast
open Go.Proofs.YtjjaiahfkiojlaaGreat.Civ
set_option linter.unusedVariables false
set_option linter.unusedSimpArgs false
/-! Rules of months and of years without lists -/
def kM (y m ev : Int) (i : Nat) : Int := 12 * y + m - 1 + (i : Int) * ev
def hitM (y m d ev : Int) (i : Nat) : Prop := d ≤ ln (kM y m ev i / 12) (kM y m ev i % 12 + 1)
instance (y m d ev : Int) (i : Nat) : Decidable (hitM y m d ev i) := by unfold hitM; infer_instance
def tM (y m d ev : Int) (i : Nat) : Int := 86400 * num (kM y m ev i / 12) (kM y m ev i % 12 + 1) d
def wantM (y m d ev : Int) (i : Nat) : List Int := (List.range i).flatMap fun j => if hitM y m d ev j then [tM y m d ev j] else []
theorem want_succ (y m d ev : Int) (i : Nat) : wantM y m d ev (i + 1) = wantM y m d ev i ++ (if hitM y m d ev i then [tM y m d ev i] else []) := by
  unfold wantM
  rw [List.range_succ, List.flatMap_append]
  simp
theorem want_mono (y m d ev : Int) (i j : Nat) : (wantM y m d ev i).length ≤ (wantM y m d ev (i + j)).length := by
  induction j with
  | zero => exact Nat.le_refl _
  | succ j ih =>
    rw [← Nat.add_assoc, want_succ, List.length_append]
    omega
structure MonB (y m d ev : Int) : Prop where
  y1 : 4 ≤ y
  y2 : y ≤ 5003
  m1 : 1 ≤ m
  m2 : m ≤ 12
  d1 : 1 ≤ d
  d2 : d ≤ ln y m
  e1 : 1 ≤ ev
  e2 : ev ≤ 20
theorem kM_bd {y m d ev : Int} (h : MonB y m d ev) {i : Nat} (hi : i ≤ 2001) : 48 ≤ kM y m ev i ∧ kM y m ev i ≤ 100068 := by
  have a : 0 ≤ (i : Int) * ev := Int.mul_nonneg (by omega) (by have := h.e1; omega)
  have b : (i : Int) * ev ≤ 2001 * 20 := Int.le_trans (Int.mul_le_mul_of_nonneg_right (show (i : Int) ≤ 2001 by omega) (by have := h.e1; omega)) (Int.mul_le_mul_of_nonneg_left h.e2 (by omega))
  obtain ⟨y1, y2, m1, m2, d1, d2, e1, e2⟩ := h
  unfold kM
  omega
theorem hit_0 {y m d ev : Int} (h : MonB y m d ev) : hitM y m d ev 0 := by
  unfold hitM kM
  have e1 : (12 * y + m - 1 + ((0 : Nat) : Int) * ev) / 12 = y := by have := h.m1; have := h.m2; omega
  have e2 : (12 * y + m - 1 + ((0 : Nat) : Int) * ev) % 12 + 1 = m := by have := h.m1; have := h.m2; omega
  rw [e1, e2]
  exact h.d2
theorem t_0 {y m d ev : Int} (h : MonB y m d ev) : tM y m d ev 0 = 86400 * num y m d := by
  unfold tM kM
  have e1 : (12 * y + m - 1 + ((0 : Nat) : Int) * ev) / 12 = y := by have := h.m1; have := h.m2; omega
  have e2 : (12 * y + m - 1 + ((0 : Nat) : Int) * ev) % 12 + 1 = m := by have := h.m1; have := h.m2; omega
  rw [e1, e2]
/-- Of two such months in eight years one has the day. -/
theorem hit_48 {y m d ev : Int} (h : MonB y m d ev) (t : Nat) : hitM y m d ev (96 * t + 48) ∨ hitM y m d ev (96 * t + 96) := by
  obtain ⟨y1, y2, m1, m2, d1, d2, e1, e2⟩ := h
  have key : ∀ q : Nat, kM y m ev (48 * q) / 12 = y + 4 * ((q : Int) * ev) ∧ kM y m ev (48 * q) % 12 + 1 = m := fun q => by
    have e : ((48 * q : Nat) : Int) * ev = 48 * ((q : Int) * ev) := by rw [Int.natCast_mul, Int.mul_assoc]; rfl
    unfold kM
    rw [e]
    omega
  unfold hitM
  rw [show 96 * t + 48 = 48 * (2 * t + 1) by omega, show 96 * t + 96 = 48 * (2 * t + 2) by omega, (key _).1, (key _).2, (key _).1, (key _).2]
  have es : ((2 * t + 2 : Nat) : Int) * ev = ((2 * t + 1 : Nat) : Int) * ev + ev := by
    rw [show ((2 * t + 2 : Nat) : Int) = ((2 * t + 1 : Nat) : Int) + 1 by omega, Int.add_mul, Int.one_mul]
  rw [es]
  generalize ((2 * t + 1 : Nat) : Int) * ev = q
  unfold ln at d2 ⊢
  have hm : ¬ (m < 1 ∨ 12 < m) := by omega
  simp only [if_neg hm] at d2 ⊢
  by_cases c : m = 2
  · simp only [if_pos c] at d2 ⊢
    have a := lpi_iff y
    have b := lpi_iff (y + 4 * q)
    have b' := lpi_iff (y + 4 * (q + ev))
    omega
  · simp only [if_neg c] at d2 ⊢
    exact Or.inl d2
theorem want_many {y m d ev : Int} (h : MonB y m d ev) (t : Nat) : t + 1 ≤ (wantM y m d ev (96 * t + 1)).length := by
  induction t with
  | zero =>
    rw [want_succ, if_pos (hit_0 h)]
    simp
  | succ t ih =>
    have one : ∀ i, hitM y m d ev i → (wantM y m d ev i).length + 1 ≤ (wantM y m d ev (i + 1)).length := fun i hi => by
      rw [want_succ, if_pos hi, List.length_append]
      exact Nat.le_refl _
    rcases hit_48 h t with c | c
    · have a := want_mono y m d ev (96 * t + 1) 47
      have b := one _ c
      have e := want_mono y m d ev (96 * t + 48 + 1) 48
      rw [show 96 * t + 1 + 47 = 96 * t + 48 by omega] at a
      rw [show 96 * t + 48 + 1 + 48 = 96 * (t + 1) + 1 by omega] at e
      omega
    · have a := want_mono y m d ev (96 * t + 1) 95
      have b := one _ c
      rw [show 96 * t + 1 + 95 = 96 * t + 96 by omega] at a
      rw [show 96 * t + 96 + 1 = 96 * (t + 1) + 1 by omega] at b
      omega
theorem pl_dates {y M : Int} (hy : 0 ≤ y) (hy' : y ≤ 9999) (h1 : 1 ≤ M) (h2 : M ≤ 12) {i : Nat} (hi : (i : Int) < ln y M) : dt (num y M 1 + (i : Int)) = (y, M, 1 + (i : Int)) := by
  have e : num y M 1 + (i : Int) = num y M (1 + (i : Int)) := by unfold num; omega
  rw [e]
  exact dt_num ⟨by omega, by omega, h1, h2, by omega, by omega⟩
/-- A month's times of a rule of months. -/
theorem mon_lets {iv ct ua : Int} {un : Bool} {y m d p : Int} (hr : Rt y m d) (hp : 12 ≤ p) (hp' : p ≤ 119999) : letsL (pl 6 iv ct un ua) (86400 * num y m d) (spanW (pl 6 iv ct un ua) p).1 (spanW (pl 6 iv ct un ua) p).2 = if d ≤ ln (p / 12) (p % 12 + 1) then [86400 * num (p / 12) (p % 12 + 1) d] else [] := by
  have es : spanW (pl 6 iv ct un ua) p = (86400 * num (p / 12) (p % 12 + 1) 1, 86400 * (num (p / 12) (p % 12 + 1) 1 + ln (p / 12) (p % 12 + 1) - 1) + 86399) := by
    simp [spanW, wholeV, pl]
  rw [es]
  have hY : 1 ≤ p / 12 ∧ p / 12 ≤ 9999 := by omega
  have hM : 1 ≤ p % 12 + 1 ∧ p % 12 + 1 ≤ 12 := by omega
  generalize p / 12 = Y at hY ⊢
  generalize p % 12 + 1 = M at hM ⊢
  have l := ln_bd Y M hM.1 hM.2
  have ld := ln_bd y m hr.2.2.1 hr.2.2.2.1
  obtain ⟨r1, r2, r3, r4, r5, r6⟩ := hr
  have hd := dt_num (y := y) (m := m) (d := d) ⟨r1, r2, r3, r4, r5, r6⟩
  unfold letsL
  dsimp only
  rw [show 86400 * num Y M 1 / 86400 = num Y M 1 by omega, show (86400 * (num Y M 1 + ln Y M - 1) + 86399) / 86400 = num Y M 1 + ln Y M - 1 by omega, show 86400 * num Y M 1 % 86400 = 0 by omega, show 86400 * num y m d / 86400 = num y m d by omega, show 86400 * num y m d % 86400 = 0 by omega, pl_clock]
  simp only [show (3 : Int) < 6 by decide, show (2 : Int) < 6 by decide, show (1 : Int) < 6 by decide, if_true]
  rw [show (num Y M 1 + ln Y M - 1 + 1 - num Y M 1).toNat = (ln Y M).toNat by omega]
  unfold daysL
  have day : ∀ i : Nat, i < (ln Y M).toNat → dayV (pl 6 iv ct un ua) (num y m d) (num Y M 1 + (i : Int)) = decide (1 + (i : Int) = d) := fun i hi => by
    rw [pl_day, if_neg (by decide), if_neg (by decide), if_neg (fun q => absurd q.1 (by decide)), hd, pl_dates (by omega) (by omega) hM.1 hM.2 (by omega)]
    rfl
  by_cases c : d ≤ ln Y M
  · rw [if_pos c, flat_one (j := (d - 1).toNat) (by omega) (fun i hi hne => ?_)]
    · unfold dayL
      rw [day _ (by omega), decide_eq_true (by omega), if_pos rfl, inL_one (by omega) (by omega)]
      have : num Y M d = num Y M 1 + (((d - 1).toNat : Nat) : Int) := by unfold num; omega
      rw [this]
      simp
      omega
    · unfold dayL
      rw [day _ hi, decide_eq_false (by omega), if_neg (by decide)]
  · rw [if_neg c, flat_none (fun i hi => ?_)]
    unfold dayL
    rw [day _ hi, decide_eq_false (by omega), if_neg (by decide)]
theorem mon_per {iv ct ua : Int} {un : Bool} {y m d : Int} (hr : Rt y m d) : perV (pl 6 iv ct un ua) (86400 * num y m d) = 12 * y + m - 1 := by
  unfold perV
  simp only [pl, show ¬ ((6 : Int) = 1) by decide, show ¬ ((6 : Int) = 2) by decide, show ¬ ((6 : Int) = 3) by decide, show ¬ ((6 : Int) = 4) by decide, show ¬ ((6 : Int) = 5) by decide, if_false, if_true]
  rw [show 86400 * num y m d / 86400 = num y m d by omega, dt_num hr]
theorem mon_span {iv ct ua : Int} {un : Bool} (hR : Right (pl 6 iv ct un ua)) {p : Int} (hp : 24 ≤ p) (hp' : p ≤ 119900) : spanV (pl 6 iv ct un ua) p = ((spanW (pl 6 iv ct un ua) p).1, (spanW (pl 6 iv ct un ua) p).2, 0) := by
  have es : spanW (pl 6 iv ct un ua) p = (86400 * num (p / 12) (p % 12 + 1) 1, 86400 * (num (p / 12) (p % 12 + 1) 1 + ln (p / 12) (p % 12 + 1) - 1) + 86399) := by
    simp [spanW, wholeV, pl]
  have l := ln_bd (p / 12) (p % 12 + 1) (by omega) (by omega)
  have c := cum_bd (p / 12) (p % 12 + 1) (by omega) (by omega)
  have a1 := ah_le (a := 2) (b := p / 12) (by omega)
  have a2 := ah_le (a := p / 12) (b := 9991) (by omega)
  have e2 : ah 2 = 731 := by decide
  have e3 : ah 9991 = 3649138 := by decide
  have lp := lpi_01 (p / 12)
  refine spanV_ok hR.lens (fun _ => by omega) ?_ ?_
  · rw [es]; unfold InT num; dsimp only; omega
  · rw [es]; unfold InT num; dsimp only; omega
theorem mon_in {iv ct ua : Int} {un : Bool} {p d : Int} (hp : 12 ≤ p) (hp' : p ≤ 119999) (h1 : 1 ≤ d) (h2 : d ≤ ln (p / 12) (p % 12 + 1)) : (spanW (pl 6 iv ct un ua) p).1 ≤ 86400 * num (p / 12) (p % 12 + 1) d ∧ 86400 * num (p / 12) (p % 12 + 1) d ≤ (spanW (pl 6 iv ct un ua) p).2 := by
  have es : spanW (pl 6 iv ct un ua) p = (86400 * num (p / 12) (p % 12 + 1) 1, 86400 * (num (p / 12) (p % 12 + 1) 1 + ln (p / 12) (p % 12 + 1) - 1) + 86399) := by
    simp [spanW, wholeV, pl]
  rw [es]
  unfold num
  dsimp only
  omega
/-- Times of a rule of months: those of the months that have the day. -/
theorem times_mon {y m d ev : Int} (h : MonB y m d ev) {n : Nat} (hn : 1 ≤ n) (hn' : n ≤ 12) : ∃ (I : Nat) (c : Int), 1 ≤ I ∧ I ≤ 1057 ∧ (wantM y m d ev I).length = n ∧ (∀ i, i < I → (wantM y m d ev i).length < n) ∧ timesV (pl 6 ev n false 0) (86400 * num y m d) (86400 * num y m d) 4611686018427387904 3000 = (wantM y m d ev I, c, 0) := by
  have hr : Rt y m d := ⟨by have := h.y1; omega, by have := h.y2; omega, h.m1, h.m2, h.d1, h.d2⟩
  have hR : Right (pl 6 ev n false 0) := pl_right (by decide) (by decide) h.e1 (by have := h.e2; omega) (by omega) (by omega) (Or.inl ⟨rfl, rfl⟩)
  have hp0 := mon_per (iv := ev) (ct := n) (ua := 0) (un := false) hr
  have st0 := t_0 h
  have ends : ∀ (ct A : Int), A ≤ 4611686018427387904 → ct < n → endsV (pl 6 ev n false 0) 4611686018427387904 ct A = false := fun ct A q1 q2 => by
    show (decide (4611686018427387904 < A) || (false && decide ((0 : Int) < A)) || (decide ((0 : Int) < n) && decide ((n : Int) ≤ ct))) = false
    rw [decide_eq_false (by omega), decide_eq_false (show ¬ (n : Int) ≤ ct by omega)]
    simp
  have fin : ∀ (k : Nat) (p : Int) (S : St), S.ct = n → worksV (pl 6 ev n false 0) (86400 * num y m d) (86400 * num y m d) 4611686018427387904 3000 (k + 1) p S = some S := fun k p S q => by
    refine step_end (Or.inr ?_)
    show (decide (4611686018427387904 < _) || (false && decide ((0 : Int) < _)) || (decide ((0 : Int) < n) && decide ((n : Int) ≤ S.ct))) = true
    rw [q, decide_eq_true (show (0 : Int) < n by omega), decide_eq_true (Int.le_refl _)]
    simp
  have inb : ∀ i, i ≤ 2001 → ∀ A, A = (spanW (pl 6 ev n false 0) (kM y m ev i)).1 → A ≤ 4611686018427387904 := fun i hi A hA => by
    have b := kM_bd h hi
    have s := mon_span hR (p := kM y m ev i) (by omega) (by omega)
    have := (spanOk_in (r := pl 6 ev n false 0) (p := kM y m ev i) (by rw [s])).1
    rw [s] at this
    unfold InT at this
    dsimp only at this
    omega
  have later : ∀ i, 0 < i → i ≤ 2001 → hitM y m d ev i → 86400 * num y m d < tM y m d ev i := fun i h0 hi hh => by
    have b := kM_bd h hi
    have b0 := kM_bd h (i := 0) (by omega)
    have a1 := mon_in (iv := ev) (ct := n) (ua := 0) (un := false) (p := kM y m ev i) (d := d) (by omega) (by omega) h.d1 hh
    have a0 := mon_in (iv := ev) (ct := n) (ua := 0) (un := false) (p := kM y m ev 0) (d := d) (by omega) (by omega) h.d1 (hit_0 h)
    have lt : kM y m ev 0 < kM y m ev i := by
      unfold kM
      have : 0 < (i : Int) * ev := Int.mul_pos (by omega) (by have := h.e1; omega)
      simp
      omega
    have := span_lt (pl 6 ev n false 0) lt
    have e := st0
    unfold tM at e ⊢
    omega
  have bdT : ∀ i, i ≤ 2001 → hitM y m d ev i → tM y m d ev i ≤ 4611686018427387904 := fun i hi hh => by
    have b := kM_bd h hi
    have a1 := mon_in (iv := ev) (ct := n) (ua := 0) (un := false) (p := kM y m ev i) (d := d) (by omega) (by omega) h.d1 hh
    have s := mon_span hR (p := kM y m ev i) (by omega) (by omega)
    have := (spanOk_in (r := pl 6 ev n false 0) (p := kM y m ev i) (by rw [s])).2
    rw [s] at this
    unfold InT at this
    dsimp only at this
    unfold tM
    omega
  have nx : ∀ i : Nat, kM y m ev i + ev = kM y m ev (i + 1) := fun i => by
    unfold kM
    rw [Int.natCast_succ, Int.add_mul, Int.one_mul]
    omega
  have run : ∀ (j i k : Nat) (sp : Int), i + j = 1057 → 1 ≤ i → 0 ≤ sp → sp ≤ 2 * (i : Int) → (wantM y m d ev i).length ≤ n → (∀ i', i' < i → (wantM y m d ev i').length < n) → ∃ I c, 1 ≤ I ∧ I ≤ 1057 ∧ (wantM y m d ev I).length = n ∧ (∀ i, i < I → (wantM y m d ev i).length < n) ∧ worksV (pl 6 ev n false 0) (86400 * num y m d) (86400 * num y m d) 4611686018427387904 3000 (k + 1 + j) (kM y m ev i) ⟨sp, (wantM y m d ev i).length, wantM y m d ev i⟩ = some ⟨c, n, wantM y m d ev I⟩ := by
    intro j
    induction j with
    | zero =>
      intro i k sp hij hi h0 h1 hc hb
      have := want_many h 11
      obtain rfl : i = 1057 := by omega
      have e : (wantM y m d ev 1057).length = n := by
        rw [show 96 * 11 + 1 = 1057 by omega] at this
        omega
      exact ⟨1057, sp, by omega, by omega, e, hb, by rw [e]; exact fin _ _ _ rfl⟩
    | succ j ih =>
      intro i k sp hij hi h0 h1 hc hb
      by_cases c : (wantM y m d ev i).length = n
      · exact ⟨i, sp, hi, by omega, c, hb, by rw [c]; exact fin _ _ _ rfl⟩
      have hlt : (wantM y m d ev i).length < n := by omega
      have b := kM_bd h (i := i) (by omega)
      have s := mon_span hR (p := kM y m ev i) (by omega) (by omega)
      have le := mon_lets (iv := ev) (ct := n) (ua := 0) (un := false) (p := kM y m ev i) hr (by omega) (by omega)
      have ib := inb i (by omega) _ rfl
      have hb' : ∀ i', i' < i + 1 → (wantM y m d ev i').length < n := fun i' q => by
        by_cases q2 : i' < i
        · exact hb i' q2
        · obtain rfl : i' = i := by omega
          exact hlt
      rw [show k + 1 + (j + 1) = (k + 1 + j) + 1 by omega]
      by_cases hh : hitM y m d ev i
      · rw [if_pos (show d ≤ ln (kM y m ev i / 12) (kM y m ev i % 12 + 1) from hh)] at le
        rw [step_one s (ends _ _ ib (by dsimp only; omega)) rfl le h0 (by dsimp only; omega)]
        have hg : goesV (pl 6 ev n false 0) (86400 * num y m d) ((wantM y m d ev i).length : Nat) (86400 * num (kM y m ev i / 12) (kM y m ev i % 12 + 1) d) = true := by
          show (decide (_ < _) && (!false || _) && (decide ((n : Int) = 0) || decide (_ < (n : Int)))) = true
          rw [decide_eq_true (show 86400 * num y m d < 86400 * num (kM y m ev i / 12) (kM y m ev i % 12 + 1) d from later i (by omega) (by omega) hh), decide_eq_true (show (((wantM y m d ev i).length : Nat) : Int) < n by omega)]
          simp
        dsimp only
        rw [if_pos hg]
        have e : tellV (86400 * num y m d) 4611686018427387904 ⟨sp + 2, ((wantM y m d ev i).length : Nat), wantM y m d ev i⟩ (86400 * num (kM y m ev i / 12) (kM y m ev i % 12 + 1) d) = ⟨sp + 2, ((wantM y m d ev (i + 1)).length : Nat), wantM y m d ev (i + 1)⟩ := by
          have l1 := later i (by omega) (by omega) hh
          have l2 := bdT i (by omega) hh
          unfold tellV
          unfold tM at l1 l2
          rw [if_pos ⟨by omega, by omega⟩, want_succ, if_pos hh]
          simp [tM]
        rw [e]
        have q := ih (i + 1) k (sp + 2) (by omega) (by omega) (by omega) (by omega) (by rw [want_succ, if_pos hh, List.length_append]; simp; omega) hb'
        rw [← nx i] at q
        exact q
      · rw [if_neg (show ¬ d ≤ ln (kM y m ev i / 12) (kM y m ev i % 12 + 1) from hh)] at le
        rw [step_none s (ends _ _ ib (by dsimp only; omega)) rfl le (by dsimp only; omega)]
        have e : wantM y m d ev (i + 1) = wantM y m d ev i := by rw [want_succ, if_neg hh, List.append_nil]
        have q := ih (i + 1) k (sp + 1) (by omega) (by omega) (by omega) (by omega) (by rw [e]; exact hc) hb'
        rw [← nx i, e] at q
        exact q
  have w1 : wantM y m d ev 1 = [86400 * num y m d] := by
    rw [want_succ, if_pos (hit_0 h), st0]
    rfl
  have k0 : kM y m ev 0 = 12 * y + m - 1 := by unfold kM; simp
  have b0 := kM_bd h (i := 0) (by omega)
  have s0 := mon_span hR (p := kM y m ev 0) (by omega) (by omega)
  have beg : beginV (pl 6 ev n false 0) (86400 * num y m d) (86400 * num y m d) = (kM y m ev 0, true) := by
    unfold beginV
    rw [hp0, ← k0, if_pos (Or.inr (Or.inr (Int.le_refl _))), s0]
    rfl
  have big : 86400 * num y m d ≤ 4611686018427387904 := by
    have := bdT 0 (by omega) (hit_0 h)
    rw [st0] at this
    exact this
  have e0 : tellV (86400 * num y m d) 4611686018427387904 ⟨0, 0, []⟩ (86400 * num y m d) = ⟨0, 1, [86400 * num y m d]⟩ := by
    unfold tellV
    rw [if_pos ⟨Int.le_refl _, big⟩]
    rfl
  have lb : -4611686018427387904 ≤ 86400 * num y m d := by
    have := num_bd hr
    omega
  have go : ∃ I c, 1 ≤ I ∧ I ≤ 1057 ∧ (wantM y m d ev I).length = n ∧ (∀ i, i < I → (wantM y m d ev i).length < n) ∧ goneV (pl 6 ev n false 0) (86400 * num y m d) (86400 * num y m d) 4611686018427387904 3000 = some ⟨c, n, wantM y m d ev I⟩ := by
    unfold goneV
    rw [beg, if_pos rfl, e0]
    dsimp only
    rw [show (3000 : Int).toNat = 3000 from rfl, show 3000 + 2 = (1944 + 1 + 1056) + 1 from rfl]
    by_cases c : n = 1
    · subst c
      refine ⟨1, 0, by omega, by omega, by rw [w1]; rfl, fun i hi => ?_, by rw [fin _ _ _ rfl, w1]; rfl⟩
      obtain rfl : i = 0 := by omega
      simp [wantM]
    · have le := mon_lets (iv := ev) (ct := n) (ua := 0) (un := false) (p := kM y m ev 0) hr (by omega) (by omega)
      rw [if_pos (show d ≤ ln (kM y m ev 0 / 12) (kM y m ev 0 % 12 + 1) from hit_0 h)] at le
      rw [step_one s0 (ends _ _ (inb 0 (by omega) _ rfl) (by dsimp only; omega)) rfl le (by dsimp only; omega) (by dsimp only; omega)]
      have hg : goesV (pl 6 ev n false 0) (86400 * num y m d) 1 (86400 * num (kM y m ev 0 / 12) (kM y m ev 0 % 12 + 1) d) = false := by
        have e := st0
        unfold tM at e
        unfold goesV
        rw [e, decide_eq_false (Int.lt_irrefl _)]
        rfl
      dsimp only
      rw [hg, if_neg (by decide)]
      have q := run 1056 1 1944 2 (by omega) (by omega) (by omega) (by omega) (by rw [w1]; simp; omega) (fun i hi => by
        obtain rfl : i = 0 := by omega
        simp [wantM]; omega)
      rw [← nx 0, w1] at q
      exact q
  obtain ⟨I, c, q1, q2, q3, q4, q5⟩ := go
  refine ⟨I, c, q1, q2, q3, q4, ?_⟩
  unfold timesV
  rw [if_pos ⟨big, lb, big, by decide, by decide, by decide, by decide⟩, q5]
end Go.Proofs.YtjjaiahfkiojlaaGreat.Pure
