/- What the reference's functions compute, in plain numbers. No condition beyond those each lemma names. -/
import Derived.Test.YtjjaiahfkiojlaaGreatMHS0
import Derived.Test.YtjjaiahfkiojlaaGreatMOx0
namespace Go.Proofs.YtjjaiahfkiojlaaGreat.Pure
open Go.RowKit Go.Proofs.YtjjaiahfkiojlaaGreat.O Go.Proofs.YtjjaiahfkiojlaaGreatW.PrintWords Go.Proofs.YtjjaiahfkiojlaaGreatW.PrintLast
open Go.Proofs.YtjjaiahfkiojlaaGreat.Civ
set_option linter.unusedVariables false
set_option linter.unusedSimpArgs false
/-! What the reference's functions of layers 3 and 21 compute. -/
theorem num4 (y : Int) : num y 1 4 = ah y - 719525 := by rw [num_1]; omega
theorem ah_b2 {y : Int} (h : 0 ≤ y) (h' : y ≤ 10002) : 0 ≤ ah y ∧ ah y ≤ 3653157 := by
  have h1 := ah_le h
  have h2 := ah_le (a := y) (b := 10002) h'
  rw [ah_0] at h1
  rw [show ah 10002 = 3653156 by decide] at h2
  omega
theorem fw_bd2 {y : Int} (k : Int) (h : 0 ≤ y) (h' : y ≤ 10002) : -719531 ≤ fw y k ∧ fw y k ≤ 3000000 := by
  have a := ah_b2 h h'
  have d := dnw_bd (num y 1 4) k
  have := num4 y
  unfold fw
  omega
theorem fw_w {y k : Int} (h : 0 ≤ y) (h' : y ≤ 10002) (k0 : 0 ≤ k) (k1 : k ≤ 6) : wrap64 (num y 1 4 - Int.tmod (wrap64 (wrap64 (wd (num y 1 4) - k) + 7)) 7) = fw y k := by
  have b := wd_bd (num y 1 4)
  have a := ah_b2 h h'
  have e := num4 y
  rw [w64 (x := wd (num y 1 4) - k) (by omega) (by omega), w64 (x := wd (num y 1 4) - k + 7) (by omega) (by omega), tmod_nn _ (by omega)]
  unfold fw dnw
  rw [w64 (by omega) (by omega)]
  omega
theorem weeks_w {y k : Int} (h : 0 ≤ y) (h' : y ≤ 10001) : wrap64 (Int.tdiv (wrap64 (fw (y + 1) k - fw y k)) 7) = (fw (y + 1) k - fw y k) / 7 := by
  have a := fw_bd2 k h (by omega)
  have b := fw_bd2 (y := y + 1) k (by omega) (by omega)
  have c := ah_le (a := y) (b := y + 1) (by omega)
  have d := dnw_bd (num y 1 4) k
  have d2 := dnw_bd (num (y + 1) 1 4) k
  have e := num4 y
  have e2 := num4 (y + 1)
  have f : 0 ≤ fw (y + 1) k - fw y k := by unfold fw; omega
  rw [w64 (x := fw (y + 1) k - fw y k) (by omega) (by omega), tdiv_nn _ f, w64 (by omega) (by omega)]
/-- A day's week's year, by the reference. -/
theorem no_mid {n k : Int} (h : -719162 ≤ n) (h' : n ≤ 2932896) : yr (mid n k) = if n < fw (yr n) k then yr n - 1 else if fw (yr n + 1) k ≤ n then yr n + 1 else yr n := by
  have y := yr_bd (n := n) (by omega) (by omega)
  have hm := yr_mid (k := k) h h'
  have r := (yr_range (n := n) (by omega) (by omega)).2 ⟨h, h'⟩
  have f := fun x => num4 x
  have d := fun x => dnw_bd (num x 1 4) k
  by_cases c : n < fw (yr n) k
  · rw [if_pos c]
    refine mid_yr hm.2.2.1 hm.2.2.2 ?_ (by rw [show yr n - 1 + 1 = yr n by omega]; exact c)
    have := ah_le (a := yr n - 1) (b := yr n) (by omega)
    have f1 := f (yr n - 1)
    have d1 := d (yr n - 1)
    unfold fw
    omega
  rw [if_neg c]
  by_cases c2 : fw (yr n + 1) k ≤ n
  · rw [if_pos c2]
    refine mid_yr hm.2.2.1 hm.2.2.2 c2 ?_
    have := ah_le (a := yr n + 1) (b := yr n + 1 + 1) (by omega)
    have f1 := f (yr n + 1 + 1)
    have d1 := d (yr n + 1 + 1)
    unfold fw
    omega
  rw [if_neg c2]
  exact mid_yr hm.2.2.1 hm.2.2.2 (by omega) (by omega)
theorem no_w {n k : Int} (h : -719162 ≤ n) (h' : n ≤ 2932896) : wrap64 (wrap64 (Int.tdiv (wrap64 (n - fw (yr (mid n k)) k)) 7) + 1) = (n - fw (yr (mid n k)) k) / 7 + 1 := by
  have hm := yr_mid (k := k) h h'
  have y := yr_bd hm.2.2.1 hm.2.2.2
  have b := (mid_year n k (yr (mid n k))).1 y.2.2.1
  have a := fw_bd2 (y := yr (mid n k)) k hm.1 (by omega)
  rw [w64 (x := n - fw (yr (mid n k)) k) (by omega) (by omega), tdiv_nn _ (by omega), w64 (x := (n - fw (yr (mid n k)) k) / 7) (by omega) (by omega), w64 (by omega) (by omega)]
theorem yd_w {n : Int} (h : -719528 ≤ n) (h' : n ≤ 2933262) : wrap64 (wrap64 (n - num (yr n) 1 1) + 1) = yd n ∧ 1 ≤ yd n ∧ yd n ≤ 365 + lpi (yr n) := by
  have y := yr_bd h h'
  have a := ah_b2 y.1 (by omega)
  have e : num (yr n) 1 1 = ah (yr n) - 719528 := by rw [num_1]; omega
  have s := ah_succ (yr n)
  have lp := lpi_01 (yr n)
  unfold yd
  rw [w64 (x := n - num (yr n) 1 1) (by omega) (by omega), w64 (by omega) (by omega)]
  omega
/-- The so-many-th of its weekday. -/
theorem nth_place {f t n k : Int} (h : f ≤ n) (h' : n ≤ t) (k0 : k ≠ 0) (k1 : -1000 ≤ k) (k2 : k ≤ 1000) : ((nthV f t k (wd n)).2 && ((nthV f t k (wd n)).1 == n)) = (decide (k = (n - f) / 7 + 1) || decide (k = -((t - n) / 7 + 1))) := by
  have w := wd_bd n
  have eA : nthA f k (wd n) = n ↔ k = (n - f) / 7 + 1 := by unfold nthA upw wd; omega
  have eB : nthB t k (wd n) = n ↔ k = -((t - n) / 7 + 1) := by unfold nthB dnw wd; omega
  have p1 : 0 ≤ (n - f) / 7 := by omega
  have p2 : 0 ≤ (t - n) / 7 := by omega
  by_cases c : 0 < k
  · have n2 : ¬ k = -((t - n) / 7 + 1) := by omega
    rw [decide_eq_false n2, Bool.or_false]
    by_cases q : k = (n - f) / 7 + 1
    · have e := eA.2 q
      have P : nthP f t k (wd n) := ⟨by omega, k0, k1, k2, w.1, w.2, Or.inl ⟨c, by omega⟩⟩
      unfold nthV
      rw [if_pos P, if_pos c, e, decide_eq_true q]
      simp
    · rw [decide_eq_false q]
      have e : ¬ nthA f k (wd n) = n := fun z => q (eA.1 z)
      unfold nthV
      split
      · simp [e]
      · rfl
  · have n1 : ¬ k = (n - f) / 7 + 1 := by omega
    rw [decide_eq_false n1, Bool.false_or]
    by_cases q : k = -((t - n) / 7 + 1)
    · have e := eB.2 q
      have P : nthP f t k (wd n) := ⟨by omega, k0, k1, k2, w.1, w.2, Or.inr ⟨by omega, by omega⟩⟩
      unfold nthV
      rw [if_pos P, if_neg c, e, decide_eq_true q]
      simp
    · rw [decide_eq_false q]
      have e : ¬ nthB t k (wd n) = n := fun z => q (eB.1 z)
      unfold nthV
      split
      · simp [e]
      · rfl
/-! Spans, by the reference -/
/-- What the reference asks of a period's number. -/
def inR (r : RR) (p : Int) : Prop := -1099511627776 ≤ p ∧ p ≤ 1099511627776 ∧ (r.fr = 6 → 12 ≤ p ∧ p ≤ 119999) ∧ (r.fr = 7 → 1 ≤ p ∧ p ≤ 9999)
theorem fw_01 (k : Int) : fw 0 k ≤ -719525 ∧ 2933000 ≤ fw 10001 k := by
  have d := dnw_bd (num 0 1 4) k
  have d2 := dnw_bd (num 10001 1 4) k
  have e := num4 0
  have e2 := num4 10001
  rw [show ah 0 = 0 by decide] at e
  rw [show ah 10001 = 3652791 by decide] at e2
  unfold fw
  omega
theorem span_ref {r : RR} (h : Lens r) (p : Int) : (InP r p ∧ InT (spanW r p).1 ∧ InT (spanW r p).2) ↔ (inR r p ∧ InT (spanW r p).1 ∧ InT (spanW r p).2) := by
  have f0 := h.f0
  have f1 := h.f1
  constructor
  · rintro ⟨hp, ha, hb⟩
    refine ⟨?_, ha, hb⟩
    have s := inP_small h hp
    have b := inP_bd h hp
    refine ⟨by omega, by omega, fun e => b.2.2.2.2.2.1 e, fun e => ?_⟩
    by_cases c : r.wn = []
    · exact b.2.2.2.2.2.2.1 e c
    have b2 := b.2.2.2.2.2.2.2 e c
    have w : wholeV r p = (fw p r.wk, fw (p + 1) r.wk - 1) := by
      unfold wholeV
      rw [if_neg (by omega), if_neg (by omega), if_neg (by omega), if_neg c]
    have sw : spanW r p = (86400 * fw p r.wk, 86400 * (fw (p + 1) r.wk - 1) + 86399) := by
      unfold spanW
      rw [if_neg (by omega), if_neg (by omega), if_neg (by omega), w]
    rw [sw] at ha hb
    unfold InT at ha hb
    dsimp only at ha hb
    have z := fw_01 r.wk
    refine ⟨?_, ?_⟩
    · by_cases q : p = 0
      · exfalso; subst q; omega
      · omega
    · by_cases q : p = 10000
      · exfalso
        subst q
        rw [show (10000 + 1 : Int) = 10001 by decide] at hb
        omega
      · omega
  · rintro ⟨hp, ha, hb⟩
    refine ⟨?_, ha, hb⟩
    have l := spanW_le r p
    have b6 : r.fr = 6 → 0 ≤ p ∧ p ≤ 120011 := fun e => by have := hp.2.2.1 e; omega
    have ea := span_eq h ha b6 (Int.le_refl _) l
    have i := inP_per h ha
    rwa [ea] at i
/-- The reference's span: its first second and how many there are. -/
theorem span_bd2 {r : RR} (h : Lens r) {p : Int} (hp : inR r p) : -7000000000000000000 ≤ (spanW r p).1 ∧ (spanW r p).1 ≤ 7000000000000000000 ∧ (spanW r p).1 ≤ (spanW r p).2 ∧ (spanW r p).2 ≤ 8000000000000000000 := by
  obtain ⟨p1, p2, p6, p7⟩ := hp
  have w0 := h.w0
  have w1 := h.w1
  have f0 := h.f0
  have f1 := h.f1
  refine ⟨?_, ?_, spanW_le r p, ?_⟩
  all_goals
    by_cases e6 : r.fr = 6
    · have b := p6 e6
      have y := ah_b2 (y := p / 12) (by omega) (by omega)
      have c := cum_bd (p / 12) (p % 12 + 1) (by omega) (by omega)
      have l := ln_bd (p / 12) (p % 12 + 1) (by omega) (by omega)
      have lp := lpi_01 (p / 12)
      simp only [spanW, wholeV, e6]
      simp
      unfold num
      omega
    by_cases e7 : r.fr = 7
    · have b := p7 e7
      have y := ah_b2 (y := p) (by omega) (by omega)
      have y2 := ah_b2 (y := p + 1) (by omega) (by omega)
      have g := fw_bd2 (y := p) r.wk (by omega) (by omega)
      have g2 := fw_bd2 (y := p + 1) r.wk (by omega) (by omega)
      have e1 := num_1 p 1
      have e31 := num_31 p
      simp only [spanW, wholeV, e7]
      simp
      split <;> simp <;> omega
    unfold spanW wholeV
    repeat' split
    all_goals first | omega | (dsimp only; omega)
/-! A span's first second and its length, as the reference reckons them -/
theorem sp_1 {r : RR} (e : r.fr = 1) (p : Int) : p = (spanW r p).1 ∧ 1 = (spanW r p).2 - (spanW r p).1 + 1 := by
  have s : spanW r p = (p, p) := by unfold spanW; rw [if_pos e]
  rw [s]; dsimp only; omega
theorem sp_2 {r : RR} (e : r.fr = 2) {p : Int} (h : inR r p) : wrap64 (60 * p) = (spanW r p).1 ∧ 60 = (spanW r p).2 - (spanW r p).1 + 1 := by
  have s : spanW r p = (60 * p, 60 * p + 59) := by unfold spanW; rw [if_neg (by omega), if_pos e]
  have h1 := h.1
  have h2 := h.2.1
  rw [s, w64 (by omega) (by omega)]; dsimp only; omega
theorem sp_3 {r : RR} (e : r.fr = 3) {p : Int} (h : inR r p) : wrap64 (3600 * p) = (spanW r p).1 ∧ 3600 = (spanW r p).2 - (spanW r p).1 + 1 := by
  have s : spanW r p = (3600 * p, 3600 * p + 3599) := by unfold spanW; rw [if_neg (by omega), if_neg (by omega), if_pos e]
  have h1 := h.1
  have h2 := h.2.1
  rw [s, w64 (by omega) (by omega)]; dsimp only; omega
theorem sp_D {r : RR} (e : 4 ≤ r.fr) (p : Int) : spanW r p = (86400 * (wholeV r p).1, 86400 * (wholeV r p).2 + 86399) := by
  unfold spanW; rw [if_neg (by omega), if_neg (by omega), if_neg (by omega)]
theorem sp_4 {r : RR} (e : r.fr = 4) {p : Int} (h : inR r p) : wrap64 (86400 * p) = (spanW r p).1 ∧ 86400 = (spanW r p).2 - (spanW r p).1 + 1 := by
  have w : wholeV r p = (p, p) := by unfold wholeV; rw [if_pos e]
  have h1 := h.1
  have h2 := h.2.1
  rw [sp_D (by omega), w, w64 (by omega) (by omega)]; dsimp only; omega
theorem sp_5 {r : RR} (l : Lens r) (e : r.fr = 5) {p : Int} (h : inR r p) : wrap64 (86400 * wrap64 (wrap64 (wrap64 (7 * p) - 4) + r.wk)) = (spanW r p).1 ∧ 604800 = (spanW r p).2 - (spanW r p).1 + 1 := by
  have w : wholeV r p = (7 * p - 4 + r.wk, 7 * p - 4 + r.wk + 6) := by unfold wholeV; rw [if_neg (by omega), if_pos e]
  have h1 := h.1
  have h2 := h.2.1
  have w0 := l.w0
  have w1 := l.w1
  rw [sp_D (by omega), w, w64 (x := 7 * p) (by omega) (by omega), w64 (x := 7 * p - 4) (by omega) (by omega), w64 (x := 7 * p - 4 + r.wk) (by omega) (by omega), w64 (by omega) (by omega)]; dsimp only; omega
theorem sp_6 {r : RR} (e : r.fr = 6) {p : Int} (h : inR r p) : wrap64 (86400 * num (p / 12) (p % 12 + 1) 1) = (spanW r p).1 ∧ wrap64 (86400 * ln (p / 12) (p % 12 + 1)) = (spanW r p).2 - (spanW r p).1 + 1 ∧ wrap64 (Int.tdiv p 12) = p / 12 ∧ wrap64 (Int.tmod p 12 + 1) = p % 12 + 1 := by
  have w : wholeV r p = (num (p / 12) (p % 12 + 1) 1, num (p / 12) (p % 12 + 1) 1 + ln (p / 12) (p % 12 + 1) - 1) := by unfold wholeV; rw [if_neg (by omega), if_neg (by omega), if_pos e]
  have b := h.2.2.1 e
  have y := ah_b2 (y := p / 12) (by omega) (by omega)
  have c := cum_bd (p / 12) (p % 12 + 1) (by omega) (by omega)
  have l := ln_bd (p / 12) (p % 12 + 1) (by omega) (by omega)
  have lp := lpi_01 (p / 12)
  have nb : -719528 ≤ num (p / 12) (p % 12 + 1) 1 ∧ num (p / 12) (p % 12 + 1) 1 ≤ 3000000 := by unfold num; omega
  rw [sp_D (by omega), w, tdiv_nn _ (by omega), tmod_nn _ (by omega), w64 (x := p / 12) (by omega) (by omega), w64 (x := p % 12 + 1) (by omega) (by omega), w64 (x := 86400 * num (p / 12) (p % 12 + 1) 1) (by omega) (by omega), w64 (by omega) (by omega)]
  dsimp only
  refine ⟨rfl, by omega, rfl, rfl⟩
theorem sp_7 {r : RR} (e : r.fr = 7) {p : Int} (h : inR r p) : wrap64 (p + 1) = p + 1 ∧ 1 ≤ p ∧ p ≤ 9999 ∧ (r.wn = [] → wrap64 (86400 * num p 1 1) = (spanW r p).1 ∧ wrap64 (wrap64 (86400 * num (p + 1) 1 1) - wrap64 (86400 * num p 1 1)) = (spanW r p).2 - (spanW r p).1 + 1) ∧
    (r.wn ≠ [] → wrap64 (86400 * fw p r.wk) = (spanW r p).1 ∧ wrap64 (wrap64 (86400 * fw (p + 1) r.wk) - wrap64 (86400 * fw p r.wk)) = (spanW r p).2 - (spanW r p).1 + 1) := by
  have b := h.2.2.2 e
  have y := ah_b2 (y := p) (by omega) (by omega)
  have y2 := ah_b2 (y := p + 1) (by omega) (by omega)
  refine ⟨w64 (by omega) (by omega), b.1, b.2, fun c => ?_, fun c => ?_⟩
  · have w : wholeV r p = (num p 1 1, num p 12 31) := by unfold wholeV; rw [if_neg (by omega), if_neg (by omega), if_neg (by omega), if_pos c]
    have e1 := num_1 p 1
    have e2 := num_1 (p + 1) 1
    have e31 := num_31 p
    rw [sp_D (by omega), w, w64 (x := 86400 * num p 1 1) (by omega) (by omega), w64 (x := 86400 * num (p + 1) 1 1) (by omega) (by omega), w64 (by omega) (by omega)]
    dsimp only
    refine ⟨rfl, by omega⟩
  · have w : wholeV r p = (fw p r.wk, fw (p + 1) r.wk - 1) := by unfold wholeV; rw [if_neg (by omega), if_neg (by omega), if_neg (by omega), if_neg c]
    have g := fw_bd2 (y := p) r.wk (by omega) (by omega)
    have g2 := fw_bd2 (y := p + 1) r.wk (by omega) (by omega)
    rw [sp_D (by omega), w, w64 (x := 86400 * fw p r.wk) (by omega) (by omega), w64 (x := 86400 * fw (p + 1) r.wk) (by omega) (by omega), w64 (by omega) (by omega)]
    dsimp only
    refine ⟨rfl, by omega⟩
theorem sp_end {r : RR} (h : Lens r) {p : Int} (hp : inR r p) : wrap64 (wrap64 ((spanW r p).1 + ((spanW r p).2 - (spanW r p).1 + 1)) - 1) = (spanW r p).2 := by
  have b := span_bd2 h hp
  rw [w64 (x := (spanW r p).1 + ((spanW r p).2 - (spanW r p).1 + 1)) (by omega) (by omega), w64 (by omega) (by omega)]
  omega
/-! A day, by the reference -/
theorem either_w {n m : Int} (h : -1000000 ≤ n) (h' : n ≤ 1000000) (k : -1000000 ≤ m) (k' : m ≤ 1000000) : wrap64 (wrap64 (n - m) - 1) = n - m - 1 := by
  rw [w64 (x := n - m) (by omega) (by omega), w64 (by omega) (by omega)]
theorem from_to {r : RR} {n : Int} (hn : -719162 ≤ n) (hn' : n ≤ 2932896) : fromV r n ≤ n ∧ n ≤ toV r n ∧ (r.fr = 6 ∨ r.mo ≠ [] → n - fromV r n = (dt n).2.2 - 1 ∧ toV r n - n = ln (dt n).1 (dt n).2.1 - (dt n).2.2) ∧
    (¬ (r.fr = 6 ∨ r.mo ≠ []) → n - fromV r n = yd n - 1 ∧ toV r n - n = 365 + lpi (dt n).1 - yd n) := by
  have s := dt_spec (n := n) (by omega) (by omega)
  have y := yd_w (n := n) (by omega) (by omega)
  have e : num (dt n).1 (dt n).2.1 1 = n - ((dt n).2.2 - 1) := by
    have := s.2
    unfold num at this ⊢
    omega
  have b := s.1.2.2.2.2
  have e1 : num (dt n).1 1 1 = n - (yd n - 1) := by
    have h1 := num_1 (dt n).1 1
    have h2 : yd n = n + 719528 - ah (dt n).1 + 1 := rfl
    omega
  have e31 : num (dt n).1 12 31 = n + (365 + lpi (dt n).1 - yd n) := by
    have h1 := num_31 (dt n).1
    have h2 : yd n = n + 719528 - ah (dt n).1 + 1 := rfl
    have h3 := ah_succ (dt n).1
    omega
  have yy : yr n = (dt n).1 := rfl
  rw [yy] at y
  by_cases c : r.fr = 6 ∨ r.mo ≠ []
  · have f : fromV r n = num (dt n).1 (dt n).2.1 1 := by unfold fromV; rw [if_pos c]
    have t : toV r n = num (dt n).1 (dt n).2.1 1 + ln (dt n).1 (dt n).2.1 - 1 := by unfold toV; rw [if_pos c]
    rw [f, t, e]
    exact ⟨by omega, by omega, fun _ => ⟨by omega, by omega⟩, fun q => absurd c q⟩
  · have f : fromV r n = num (dt n).1 1 1 := by unfold fromV; rw [if_neg c]
    have t : toV r n = num (dt n).1 12 31 := by unfold toV; rw [if_neg c]
    rw [f, t, e1, e31]
    exact ⟨by omega, by omega, fun q => absurd q c, fun _ => ⟨by omega, by omega⟩⟩
theorem place_w {a b p q : Int} (h : 1 ≤ a) (h' : a ≤ b) (hb : b ≤ 1000) (hp : p = a - 1) (hq : q = b - a) : wrap64 (wrap64 (Int.tdiv (wrap64 (a - 1)) 7) + 1) = p / 7 + 1 ∧ wrap64 (-wrap64 (wrap64 (Int.tdiv (wrap64 (b - a)) 7) + 1)) = -(q / 7 + 1) := by
  rw [hp, hq, w64 (x := a - 1) (by omega) (by omega), w64 (x := b - a) (by omega) (by omega), tdiv_nn _ (by omega), tdiv_nn _ (by omega), w64 (x := (a - 1) / 7) (by omega) (by omega), w64 (x := (b - a) / 7) (by omega) (by omega), w64 (x := (a - 1) / 7 + 1) (by omega) (by omega), w64 (x := (b - a) / 7 + 1) (by omega) (by omega), w64 (by omega) (by omega)]
  exact ⟨rfl, rfl⟩
/-- The places of a day from the beginning and the end. -/
noncomputable def plV (r : RR) (n : Int) : Int := (n - fromV r n) / 7 + 1
noncomputable def bkV (r : RR) (n : Int) : Int := -((toV r n - n) / 7 + 1)
theorem place_m {r : RR} {n : Int} (hn : -719162 ≤ n) (hn' : n ≤ 2932896) (c : r.fr = 6 ∨ r.mo ≠ []) : wrap64 (wrap64 (Int.tdiv (wrap64 ((dt n).2.2 - 1)) 7) + 1) = plV r n ∧ wrap64 (-wrap64 (wrap64 (Int.tdiv (wrap64 (ln (dt n).1 (dt n).2.1 - (dt n).2.2)) 7) + 1)) = bkV r n := by
  have f := (from_to (r := r) hn hn').2.2.1 c
  have s := (dt_spec (n := n) (by omega) (by omega)).1
  have l := ln_bd (dt n).1 (dt n).2.1 s.2.2.1 s.2.2.2.1
  exact place_w s.2.2.2.2.1 s.2.2.2.2.2 (by omega) f.1 f.2
theorem place_y {r : RR} {n : Int} (hn : -719162 ≤ n) (hn' : n ≤ 2932896) (c : ¬ (r.fr = 6 ∨ r.mo ≠ [])) : wrap64 (wrap64 (Int.tdiv (wrap64 (yd n - 1)) 7) + 1) = plV r n ∧ wrap64 (-wrap64 (wrap64 (Int.tdiv (wrap64 (365 + lpi (dt n).1 - yd n)) 7) + 1)) = bkV r n := by
  have f := (from_to (r := r) hn hn').2.2.2 c
  have y := yd_w (n := n) (by omega) (by omega)
  have lp := lpi_01 (dt n).1
  exact place_w y.2.1 y.2.2 (by omega) f.1 f.2
/-- A weekday of the list, by its place. -/
noncomputable def byP (r : RR) (n : Int) (x : S67) : Bool := decide (x.f1 = wd n) && (decide (x.f0 = 0) || (decide (x.f0 = plV r n) || decide (x.f0 = bkV r n)))
theorem any_ref {r : RR} (h : Lens r) {n : Int} (hn : -719162 ≤ n) (hn' : n ≤ 2932896) : r.dy.any (numberedV r n) = r.dy.any (byP r n) := by
  have f := from_to (r := r) hn hn'
  have go : ∀ l : List S67, (∀ x ∈ l, -53 ≤ x.f0 ∧ x.f0 ≤ 53 ∧ 0 ≤ x.f1 ∧ x.f1 ≤ 6) → l.any (numberedV r n) = l.any (byP r n) := by
    intro l
    induction l with
    | nil => intro _; rfl
    | cons x l ih =>
      intro hx
      rw [List.any_cons, List.any_cons, ih fun z hz => hx z (.tail _ hz)]
      congr 1
      have b := hx x (.head _)
      unfold numberedV byP plV bkV
      by_cases c : x.f1 = wd n
      · rw [decide_eq_true c, Bool.true_and, Bool.true_and]
        by_cases z : x.f0 = 0
        · rw [decide_eq_true z]; rfl
        · rw [decide_eq_false z, Bool.false_or, Bool.false_or, c, nth_place f.1 f.2.1 z (by omega) (by omega)]
      · rw [decide_eq_false c]; rfl
  exact go r.dy h.nums
theorem no_bd {n k : Int} (hn : -719162 ≤ n) (hn' : n ≤ 2932896) (k0 : 0 ≤ k) (k1 : k ≤ 6) : -1000000 ≤ (noV n k).2.1 ∧ (noV n k).2.1 ≤ 1000000 ∧ 0 ≤ (noV n k).1 ∧ (noV n k).1 ≤ 10000 ∧ -1000000 ≤ (fw ((noV n k).1 + 1) k - fw (noV n k).1 k) / 7 ∧ (fw ((noV n k).1 + 1) k - fw (noV n k).1 k) / 7 ≤ 1000000 := by
  have hm := yr_mid (k := k) hn hn'
  have a := fw_bd2 (y := yr (mid n k)) k hm.1 (by omega)
  have b := fw_bd2 (y := yr (mid n k) + 1) k (by omega) (by omega)
  rw [noV_in hn hn' k0 k1]
  dsimp only
  omega
theorem lpi_366 {y : Int} (h : lp y = true) : (366 : Int) = 365 + lpi y := by unfold lpi; rw [if_pos h]; rfl
theorem lpi_365 {y : Int} (h : ¬ lp y = true) : (365 : Int) = 365 + lpi y := by unfold lpi; rw [if_neg h]; rfl
theorem either_no {l : List Int} {n m : Int} (q : l ≠ []) (h : ¬ n ∈ l) (h2 : ¬ n - m - 1 ∈ l) : eitherV l n m = false := by simp [eitherV, q, h, h2]
theorem either_1 {l : List Int} {n m : Int} (h : n ∈ l) : eitherV l n m = true := by simp [eitherV, h]
theorem either_2 {l : List Int} {n m : Int} (h : n - m - 1 ∈ l) : eitherV l n m = true := by simp [eitherV, h]
theorem either_0 {l : List Int} {n m : Int} (h : l = []) : eitherV l n m = true := by simp [eitherV, h]
theorem any_take {α : Type} {l : List α} {p : α → Bool} {i : Nat} (h : i < l.length) : (l.take (i + 1)).any p = ((l.take i).any p || p l[i]) := by
  rw [← List.take_append_getElem h, List.any_append]
  simp
theorem pos_sum {a b : Nat} (h : 0 < a + b) (ha : a ≤ 1000000000) (hb : b ≤ 1000000000) : decide (0 < wrap64 ((a : Int) + (b : Int))) = true := by
  rw [w64 (by omega) (by omega)]; exact decide_eq_true (by omega)
theorem nil_sum {a b : Nat} (h : ¬ 0 < a + b) : decide (0 < wrap64 ((a : Int) + (b : Int))) = false := by
  rw [w64 (by omega) (by omega)]; exact decide_eq_false (by omega)
theorem like_1 {r : RR} (n f : Int) (h : 0 < r.yd.length + r.md.length) : likeV r n f = true := by unfold likeV; rw [if_pos (by omega)]
theorem like_2 {r : RR} (n f : Int) (h : r.dy ≠ []) : likeV r n f = true := by unfold likeV; rw [if_pos (by have := List.length_pos_iff.2 h; omega)]
/-- A day like the start's, where nothing else is asked. -/
theorem like_3 {r : RR} (l : Lens r) (n f : Int) (hd : r.dy = []) (h : ¬ 0 < r.yd.length + r.md.length) : (r.wn ≠ [] ∨ r.fr = 5 → likeV r n f = decide (wd n = wd f)) ∧ (r.wn = [] → r.fr ≠ 5 → r.fr ≠ 6 → r.fr ≠ 7 → likeV r n f = true) ∧
    (r.wn = [] → r.fr = 6 → likeV r n f = decide ((dt n).2.2 = (dt f).2.2)) ∧ (r.wn = [] → r.fr = 7 → r.mo ≠ [] → likeV r n f = decide ((dt n).2.2 = (dt f).2.2)) ∧
    (r.wn = [] → r.fr = 7 → ¬ (dt n).2.2 = (dt f).2.2 → likeV r n f = false) ∧ (r.wn = [] → r.fr = 7 → r.mo = [] → (dt n).2.2 = (dt f).2.2 → likeV r n f = decide ((dt n).2.1 = (dt f).2.1)) := by
  have f0 := l.f0
  have f1 := l.f1
  have z : r.dy.length = 0 := by rw [hd]; rfl
  have e : likeV r n f = if 0 < r.wn.length ∨ r.fr = 5 then wd n == wd f else if r.fr < 5 then true else if r.fr = 7 ∧ r.mo = [] ∧ (dt n).2.1 ≠ (dt f).2.1 then false else (dt n).2.2 == (dt f).2.2 := by
    unfold likeV
    rw [if_neg (by omega)]
  have z2 : r.wn = [] → r.wn.length = 0 := fun q => by rw [q]; rfl
  refine ⟨fun q => ?_, fun q a b c => ?_, fun q a => ?_, fun q a b => ?_, fun q a b => ?_, fun q a b c => ?_⟩
  · rw [e, if_pos (q.imp (fun x => List.length_pos_iff.2 x) id)]; rfl
  · have := z2 q
    rw [e, if_neg (by omega), if_pos (by omega)]
  · have := z2 q
    rw [e, if_neg (by omega), if_neg (by omega), if_neg (fun x => by omega)]; rfl
  · have := z2 q
    rw [e, if_neg (by omega), if_neg (by omega), if_neg (fun x => b x.2.1)]; rfl
  · have := z2 q
    rw [e, if_neg (by omega), if_neg (by omega)]
    split
    · rfl
    · exact beq_eq_false_iff_ne.2 b
  · have := z2 q
    rw [e, if_neg (by omega), if_neg (by omega), c]
    by_cases m : (dt n).2.1 = (dt f).2.1
    · rw [if_neg (fun x => x.2.2 m), decide_eq_true m]; exact beq_self_eq_true _
    · rw [if_pos ⟨a, b, m⟩, decide_eq_false m]
/-- What a day's walk needs of numbers. -/
structure DayN (r : RR) (st n : Int) : Prop where
  n1 : -719528 ≤ n
  n2 : n ≤ 2933262
  n3 : -9223372036854775808 ≤ n
  n4 : n < 9223372036854775808
  f1 : -719528 ≤ st / 86400
  f2 : st / 86400 ≤ 2933262
  f3 : -9223372036854775808 ≤ st / 86400
  f4 : st / 86400 < 9223372036854775808
  s1 : -9223372036854775808 ≤ st
  s2 : st < 9223372036854775808
  y1 : -9223372036854775808 ≤ (dt n).1
  y2 : (dt n).1 < 9223372036854775808
  o1 : 0 ≤ (noV n r.wk).1
  o2 : (noV n r.wk).1 ≤ 10001
  wW : wrap64 (wrap64 ((noV n r.wk).2.1 - (fw ((noV n r.wk).1 + 1) r.wk - fw (noV n r.wk).1 r.wk) / 7) - 1) = (noV n r.wk).2.1 - (fw ((noV n r.wk).1 + 1) r.wk - fw (noV n r.wk).1 r.wk) / 7 - 1
  wY : wrap64 (wrap64 (yd n - (365 + lpi (dt n).1)) - 1) = yd n - (365 + lpi (dt n).1) - 1
  wM : wrap64 (wrap64 ((dt n).2.2 - ln (dt n).1 (dt n).2.1) - 1) = (dt n).2.2 - ln (dt n).1 (dt n).2.1 - 1
theorem dayN {r : RR} (h : Lens r) {st n : Int} (hs : InT st) (hn : -719162 ≤ n) (hn' : n ≤ 2932896) : DayN r st n := by
  have y := dt_year hs
  have d0 := dt_spec (n := n) (by omega) (by omega)
  have yw := yd_w (n := n) (by omega) (by omega)
  have lpb := lpi_01 (dt n).1
  have lb := ln_bd (dt n).1 (dt n).2.1 d0.1.2.2.1 d0.1.2.2.2.1
  have tb : -62135596800 ≤ st ∧ st ≤ 253402300799 := hs
  have q0 := h.w0
  have q1 := h.w1
  have nb := no_bd (k := r.wk) hn hn' q0 q1
  have yb : 1 ≤ yd n ∧ yd n ≤ 366 := ⟨yw.2.1, by have := yw.2.2; have e : yr n = (dt n).1 := rfl; rw [e] at this; omega⟩
  have db : 1 ≤ (dt n).2.2 ∧ (dt n).2.2 ≤ 31 := ⟨d0.1.2.2.2.2.1, by have := d0.1.2.2.2.2.2; omega⟩
  have yy := d0.1.1
  have yy2 := d0.1.2.1
  exact ⟨by omega, by omega, by omega, by omega, by omega, by omega, by omega, by omega, by omega, by omega, by omega, by omega, nb.2.2.1, by omega, either_w (by omega) (by omega) (by omega) (by omega), either_w (by omega) (by omega) (by omega) (by omega), either_w (by omega) (by omega) (by omega) (by omega)⟩
end Go.Proofs.YtjjaiahfkiojlaaGreat.Pure
