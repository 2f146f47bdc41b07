/- What the rule of a form tells: in each year just the form's day, moved. No condition beyond those each lemma names. -/
import Derived.Test.YtfinhaghgmnegaaGreatMT23h
import Derived.Test.YtfinhaghgmnegaaGreatMOx13
import Derived.Test.YtfinhaghgmnegaaGreatE24p
import Derived.Test.YtfinhaghgmnegaaGreatMOx3
import Derived.Test.YtfinhaghgmnegaaGreatOx150
namespace Go.Proofs.YtfinhaghgmnegaaGreat.Pure
open Go.RowKit Go.Proofs.YtfinhaghgmnegaaGreat.O Go.Proofs.YtfinhaghgmnegaaGreatW.PrintWords Go.Proofs.YtfinhaghgmnegaaGreatW.PrintLast
open Go.Proofs.YtfinhaghgmnegaaGreat.Civ
set_option linter.unusedVariables false
set_option linter.unusedSimpArgs false
/-! In each year a form's rule lets just the form's day, moved -/
theorem upTo7 (f : Int) : upTo f 7 = [f + 0, f + 1, f + 2, f + 3, f + 4, f + 5, f + 6] := rfl
theorem ln_short {m : Int} (h : 1 ≤ m) (h' : m ≤ 12) (Y : Int) : 28 ≤ ln 2001 m ∧ ln 2001 m ≤ ln Y m ∧ ln Y m ≤ 31 := by
  have l := lpi_01 Y
  have e : lpi 2001 = 0 := by decide
  have a := ln_bd 2001 m h h'
  have b := ln_bd Y m h h'
  refine ⟨a.1, ?_, b.2⟩
  unfold ln
  have hm : ¬ (m < 1 ∨ 12 < m) := by omega
  rw [if_neg hm, if_neg hm]
  by_cases c : m = 2
  · rw [if_pos c, if_pos c]; omega
  · rw [if_neg c, if_neg c]; exact Int.le_refl _
/-- What is asked of a form's rule. -/
structure Enc (m kd w d mv : Int) : Prop where
  on : OnR kd w d
  m1 : 1 ≤ m
  m2 : m ≤ 12
  mb : -3 ≤ mv ∧ mv ≤ 3
  ok : encP m kd d mv
/-- A form's rule's days. -/
theorem on_list {m kd w d mv : Int} (h : Enc m kd w d mv) : (onR m kd w d mv).fr = 7 ∧ (onR m kd w d mv).iv = 1 ∧ (onR m kd w d mv).ct = 0 ∧ (onR m kd w d mv).un = false ∧ (onR m kd w d mv).ua = 0 ∧ (onR m kd w d mv).utc = false ∧ (onR m kd w d mv).sec = [] ∧ (onR m kd w d mv).mi = [] ∧ (onR m kd w d mv).ho = [] ∧ (onR m kd w d mv).yd = [] ∧ (onR m kd w d mv).wn = [] ∧ (onR m kd w d mv).mo = [m] ∧ (onR m kd w d mv).sp = [] ∧ (onR m kd w d mv).wk = 1 ∧ 0 < (onR m kd w d mv).md.length + (onR m kd w d mv).dy.length := by
  unfold onR sevR monR
  by_cases h2 : kd = 2
  · simp [h2]
  · by_cases h1 : kd = 1
    · simp [h1]
    · by_cases h3 : fst24 kd d mv % 7 = 1
      · simp [h2, h1, h3]
      · simp [h2, h1, h3]
theorem nb_last (f t w : Int) (h : f + 6 ≤ t) (h0 : 0 ≤ w ∧ w ≤ 6) : nthV f t (-1) w = (t - dnw t w, true) := by
  have b := dnw_bd t w
  have e : nthB t (-1) w = t - dnw t w := by unfold nthB; omega
  unfold nthV
  rw [if_pos (by unfold nthP; rw [e]; omega), if_neg (by decide), e]
theorem nb_first (f t k w : Int) (hk : 1 ≤ k) (hk' : k ≤ 5) (h : f + 7 * (k - 1) + 6 ≤ t) (h0 : 0 ≤ w ∧ w ≤ 6) : nthV f t k w = (f + upw f w + 7 * (k - 1), true) := by
  have b := upw_bd f w
  have e : nthA f k w = f + upw f w + 7 * (k - 1) := rfl
  unfold nthV
  rw [if_pos (by unfold nthP; rw [e]; omega), if_pos (by omega), e]
/-- The day of a month, of a form's rule. -/
def eD (x m kd w d mv L : Int) : Int := if kd = 1 then x + d - 1 else if kd = 3 then x + d - 1 + upw (x + d - 1) w else if kd = 2 then x + L - 1 - dnw (x + L - 1) w else x + d - 1 - dnw (x + d - 1) w
theorem fres_e (Y m kd w d mv : Int) (h : Enc m kd w d mv) : fres Y m kd w d = eD (num Y m 1) m kd w d mv (ln Y m) := by
  have e : ∀ z, num Y m z = num Y m 1 + z - 1 := fun z => by unfold num; omega
  have k := h.on
  unfold fres eD fday
  by_cases h1 : kd = 1
  · rw [if_pos h1, if_pos h1, e d]
  · rw [if_neg h1, if_neg h1]
    by_cases h3 : kd = 3
    · rw [if_pos h3, if_pos h3, e d]
    · rw [if_neg h3, if_neg h3]
      by_cases h2 : kd = 2
      · rw [if_pos h2, if_pos h2, e (ln Y m)]
      · rw [if_neg h2, if_neg h2, e d]
/-- It lies in its month. -/
theorem eD_in {m kd w d mv : Int} (h : Enc m kd w d mv) (Y x : Int) : x ≤ eD x m kd w d mv (ln Y m) + mv ∧ eD x m kd w d mv (ln Y m) + mv < x + ln Y m := by
  obtain ⟨on, m1, m2, mb, ok⟩ := h
  have l := ln_short m1 m2 Y
  generalize ln Y m = L at l ⊢
  unfold encP at ok
  generalize ln 2001 m = S at l ok
  unfold OnR at on
  unfold eD
  unfold fst24 many24 at ok
  unfold upw dnw wd
  by_cases h1 : kd = 1
  · subst h1
    simp at ok ⊢
    omega
  · by_cases h2 : kd = 2
    · subst h2
      simp at ok ⊢
      omega
    · by_cases h3 : kd = 3
      · subst h3
        simp at ok ⊢
        omega
      · obtain rfl : kd = 4 := by omega
        simp at ok ⊢
        omega
/-- Of a month's days the form's rule lets one. -/
theorem eD_day {m kd w d mv : Int} (h : Enc m kd w d mv) {Y x dd n : Int} (hn : n = x + dd - 1) (h1d : 1 ≤ dd) (h2d : dd ≤ ln Y m) :
    (eitherV (onR m kd w d mv).md dd (ln Y m) = true ∧ ((onR m kd w d mv).dy = [] ∨ ∃ z ∈ (onR m kd w d mv).dy, z.f1 = wd n ∧ (z.f0 = 0 ∨ nthV x (x + ln Y m - 1) z.f0 z.f1 = (n, true)))) ↔ n = eD x m kd w d mv (ln Y m) + mv := by
  obtain ⟨on, m1, m2, mb, ok⟩ := h
  have l := ln_short m1 m2 Y
  generalize ln Y m = L at l h2d ⊢
  unfold encP at ok
  generalize ln 2001 m = S at l ok
  unfold OnR at on
  unfold eitherV
  by_cases h2 : kd = 2
  · subst h2
    have w06 : 0 ≤ w ∧ w ≤ 6 := by omega
    have mv0 : mv = 0 := by omega
    subst mv0
    unfold onR monR eD
    simp only [if_true, if_neg (show ¬ ((2 : Int) = 1) by decide), if_neg (show ¬ ((2 : Int) = 3) by decide)]
    simp only [List.mem_singleton, exists_eq_left]
    rw [nb_last x (x + L - 1) w (by omega) w06]
    simp
    unfold dnw wd
    omega
  · by_cases h1 : kd = 1
    · subst h1
      unfold onR monR eD
      unfold fst24 many24 at ok
      simp [fst24] at ok ⊢
      omega
    · have hf : 1 ≤ fst24 kd d mv ∧ fst24 kd d mv + 6 ≤ S := by
        unfold many24 at ok
        rw [if_neg h1] at ok
        omega
      have kd34 : kd = 3 ∨ kd = 4 := by omega
      have w06 : 0 ≤ w ∧ w ≤ 6 := by omega
      have hd : eD x m kd w d mv L + mv = x + fst24 kd d mv - 1 + upw (x + fst24 kd d mv - 1) ((w + mv) % 7) := by
        unfold eD fst24
        rcases kd34 with rfl | rfl
        · simp
          unfold upw wd
          omega
        · simp
          unfold upw dnw wd
          omega
      rw [hd]
      clear hd ok
      have wk06 : 0 ≤ (w + mv) % 7 ∧ (w + mv) % 7 ≤ 6 := by omega
      unfold onR
      rw [if_neg h2, if_neg h1]
      generalize fst24 kd d mv = f at hf ⊢
      generalize (w + mv) % 7 = wk at wk06 ⊢
      unfold sevR monR
      by_cases c : f % 7 = 1
      · rw [if_pos c]
        simp only [List.mem_singleton, exists_eq_left]
        rw [nb_first x (x + L - 1) (f / 7 + 1) wk (by omega) (by omega) (by omega) wk06]
        have z : ¬ f / 7 + 1 = 0 := by omega
        simp only [decide_true, Bool.true_or, true_and, List.cons_ne_nil, false_or, z, Prod.mk.injEq, and_true]
        unfold upw wd
        omega
      · rw [if_neg c]
        simp only [List.mem_singleton, exists_eq_left, upTo7, List.mem_cons, List.not_mem_nil, or_false, List.cons_ne_nil, false_or, true_or, and_true, Bool.or_eq_true, decide_eq_true_eq]
        unfold upw wd
        omega
theorem numb_iff {r : RR} (hm : r.mo ≠ []) {n Y m dd : Int} (hd : dt n = (Y, m, dd)) (x : S44) : numberedV r n x = true ↔ x.f1 = wd n ∧ (x.f0 = 0 ∨ nthV (num Y m 1) (num Y m 1 + ln Y m - 1) x.f0 x.f1 = (n, true)) := by
  unfold numberedV
  have e1 : fromV r n = num Y m 1 := by unfold fromV; simp [hm, hd]
  have e2 : toV r n = num Y m 1 + ln Y m - 1 := by unfold toV; simp [hm, hd]
  rw [e1, e2]
  generalize nthV (num Y m 1) (num Y m 1 + ln Y m - 1) x.f0 x.f1 = V
  obtain ⟨V1, V2⟩ := V
  simp [Prod.ext_iff]
  intro _
  constructor
  · rintro (a | ⟨a, b⟩)
    · exact Or.inl a
    · exact Or.inr ⟨b, a⟩
  · rintro (a | ⟨a, b⟩)
    · exact Or.inl a
    · exact Or.inr ⟨b, a⟩
/-- In a year a form's rule lets just the form's day, moved. -/
theorem on_day {m kd w d mv : Int} (h : Enc m kd w d mv) (first : Int) {Y n : Int} (hY : 1 ≤ Y) (hY' : Y ≤ 9999) (a : num Y 1 1 ≤ n) (b : n ≤ num Y 12 31) : dayV (onR m kd w d mv) first n = decide (n = fres Y m kd w d + mv) := by
  obtain ⟨l1, l2, l3, l4, l5, l6, l7, l8, l9, l10, l11, l12, l13, l14, l15⟩ := on_list h
  have a1 := num_bd (rt_first (y := Y) (by omega) (by omega))
  have a2 := num_bd (rt_31 (y := Y) (by omega) (by omega))
  obtain ⟨hr, hn⟩ := dt_spec (n := n) (by omega) (by omega)
  have hy1 : (dt n).1 = Y := by
    have i := num_in hr
    rw [hn] at i
    have i1 := num_in (rt_first (y := Y) (by omega) (by omega))
    have i2 := num_in (rt_31 (y := Y) (by omega) (by omega))
    by_cases q : (dt n).1 ≤ Y - 1
    · have := ah_le (a := (dt n).1 + 1) (b := Y) (by omega)
      omega
    · by_cases q2 : Y + 1 ≤ (dt n).1
      · have := ah_le q2
        omega
      · omega
  obtain ⟨y', m', dd, hd⟩ : ∃ a b c, dt n = (a, b, c) := ⟨_, _, _, rfl⟩
  rw [hd] at hr hn hy1
  dsimp only at hr hn hy1
  subst hy1
  have hin := eD_in h y' (num y' m 1)
  have e := fres_e y' m kd w d mv h
  rw [← e] at hin
  unfold dayV weekNoV likeV oneV
  rw [l12, l11, l10, hd]
  have ey : eitherV [] (yd n) (365 + lpi y') = true := rfl
  dsimp only
  rw [ey, if_neg (List.cons_ne_nil _ _), if_pos (show 0 < ([] : List Int).length + (onR m kd w d mv).md.length + (onR m kd w d mv).dy.length by rw [List.length_nil]; omega)]
  simp only [if_true, Bool.true_and, Bool.and_true]
  by_cases c : m' = m
  · subst c
    have key := eD_day h (Y := y') (x := num y' m' 1) (dd := dd) (n := n) (by rw [← hn]; unfold num; omega) hr.2.2.2.2.1 hr.2.2.2.2.2
    rw [← e] at key
    rw [decide_eq_true (List.mem_singleton.2 rfl), Bool.true_and, Bool.eq_iff_iff, decide_eq_true_eq, ← key]
    simp only [Bool.and_eq_true, Bool.or_eq_true, decide_eq_true_eq, List.any_eq_true]
    have hm : (onR m' kd w d mv).mo ≠ [] := by rw [l12]; exact List.cons_ne_nil _ _
    refine and_congr_right fun _ => or_congr_right ?_
    constructor
    · rintro ⟨z, hz, q⟩
      exact ⟨z, hz, (numb_iff hm hd z).1 q⟩
    · rintro ⟨z, hz, q⟩
      exact ⟨z, hz, (numb_iff hm hd z).2 q⟩
  · rw [decide_eq_false (fun q => c (List.mem_singleton.1 q)), Bool.false_and, Bool.false_and]
    refine (decide_eq_false fun q => c ?_).symm
    have ln1 := ln_short h.m1 h.m2 y'
    have rt : Rt y' m (n - num y' m 1 + 1) := ⟨hr.1, hr.2.1, h.m1, h.m2, by omega, by omega⟩
    have en : num y' m (n - num y' m 1 + 1) = n := by unfold num; omega
    exact ((num_inj hr rt (hn.trans en.symm)).2.1)
theorem on_clock (m kd w d mv : Int) (h : Enc m kd w d mv) (s : Int) : clocksV (onR m kd w d mv) 0 s = [0] := by
  obtain ⟨l1, l2, l3, l4, l5, l6, l7, l8, l9, _⟩ := on_list h
  unfold clocksV hoursV minsV secsV choiceV
  rw [l1, l7, l8, l9]
  rfl
theorem on_spanW {m kd w d mv : Int} (h : Enc m kd w d mv) (p : Int) : spanW (onR m kd w d mv) p = (86400 * num p 1 1, 86400 * num p 12 31 + 86399) := by
  obtain ⟨l1, _, _, _, _, _, _, _, _, _, l11, _⟩ := on_list h
  simp [spanW, wholeV, l1, l11]
theorem on_in {m kd w d mv : Int} (h : Enc m kd w d mv) (p : Int) : num p 1 1 ≤ fres p m kd w d + mv ∧ fres p m kd w d + mv ≤ num p 12 31 := by
  have hin := eD_in h p (num p m 1)
  rw [← fres_e p m kd w d mv h] at hin
  have c11 : cum p 1 = 0 := by simp [cum]
  have c12 : cum p 12 = 334 + lpi p := by simp [cum]
  have g1 := cum_bd p m h.m1 (by have := h.m2; omega)
  have g2 := cum_bd p (m + 1) (by have := h.m1; omega) (by have := h.m2; omega)
  rw [cum_succ p m h.m1 h.m2] at g2
  unfold num at hin ⊢
  rw [c11, c12]
  omega
theorem on_lets {m kd w d mv : Int} (h : Enc m kd w d mv) {first p : Int} (hp : 1 ≤ p) (hp' : p ≤ 9999) : letsL (onR m kd w d mv) (86400 * first) (spanW (onR m kd w d mv) p).1 (spanW (onR m kd w d mv) p).2 = [86400 * (fres p m kd w d + mv)] := by
  rw [on_spanW h]
  have l := lpi_01 p
  have c11 : cum p 1 = 0 := by simp [cum]
  have c12 : cum p 12 = 334 + lpi p := by simp [cum]
  have e12 : num p 12 31 = num p 1 1 + 364 + lpi p := by unfold num; rw [c11, c12]; omega
  have b1 := on_in h p
  unfold letsL
  dsimp only
  rw [show 86400 * num p 1 1 / 86400 = num p 1 1 by omega, show (86400 * num p 12 31 + 86399) / 86400 = num p 12 31 by omega, show 86400 * num p 1 1 % 86400 = 0 by omega, show 86400 * first / 86400 = first by omega, show 86400 * first % 86400 = 0 by omega, on_clock m kd w d mv h]
  have day : ∀ n, num p 1 1 ≤ n → n ≤ num p 12 31 → dayV (onR m kd w d mv) first n = decide (n = fres p m kd w d + mv) := fun n => on_day h first hp hp'
  generalize fres p m kd w d + mv = D at day b1 ⊢
  unfold daysL
  rw [flat_one (j := (D - num p 1 1).toNat) (by omega) (fun i hi hne => ?_)]
  · unfold dayL
    rw [day _ (by omega) (by omega), decide_eq_true (by omega), if_pos rfl, inL_one (by omega) (by omega)]
    simp
    omega
  · unfold dayL
    rw [day _ (by omega) (by omega), decide_eq_false (by omega), if_neg (by decide)]
theorem dis_one (x : Int) : dupI [x] = false := by simp [dupI]
theorem ok_list {l : List Int} {a b : Int} {neg : Bool} (h : ∀ x ∈ l, a ≤ x ∧ x ≤ b) (hd : dupI l = false) (hl : l.length ≤ 1000000000) : okList l a b neg = true := by
  unfold okList rightB
  rw [hd, decide_eq_true hl]
  have : (l.any fun x => wrongB x a b neg) = false := by
    rw [List.any_eq_false]
    intro x hx
    have := h x hx
    unfold wrongB
    simp
    omega
  rw [this]
  rfl
theorem on_md {m kd w d mv : Int} (h : Enc m kd w d mv) : okList (onR m kd w d mv).md 1 31 true = true := by
  obtain ⟨on, m1, m2, mb, ok⟩ := h
  have l := ln_short m1 m2 2001
  unfold encP at ok
  generalize ln 2001 m = S at l ok
  unfold onR
  by_cases h2 : kd = 2
  · rw [if_pos h2]; rfl
  · rw [if_neg h2]
    have hf : 1 ≤ fst24 kd d mv ∧ fst24 kd d mv + many24 kd - 1 ≤ S := by omega
    by_cases h1 : kd = 1
    · rw [if_pos h1]
      unfold many24 at hf
      rw [if_pos h1] at hf
      refine ok_list (fun x hx => ?_) (dis_one _) (by simp)
      obtain rfl := List.mem_singleton.1 hx
      omega
    · rw [if_neg h1]
      unfold many24 at hf
      rw [if_neg h1] at hf
      unfold sevR
      by_cases c : fst24 kd d mv % 7 = 1
      · rw [if_pos c]; rfl
      · rw [if_neg c]
        generalize fst24 kd d mv = f at hf
        refine ok_list (fun x hx => ?_) ?_ (by simp [upTo7])
        · simp only [upTo7, List.mem_cons, List.not_mem_nil, or_false] at hx
          omega
        · unfold dupI
          rw [decide_eq_false]
          simp only [upTo7, Decidable.not_not]
          simp
          omega
theorem on_dy {m kd w d mv : Int} (h : Enc m kd w d mv) : ((onR m kd w d mv).dy.all (okBy true) && dis44 (onR m kd w d mv).dy && decide ((onR m kd w d mv).dy.length ≤ 1000000000)) = true := by
  obtain ⟨on, m1, m2, mb, ok⟩ := h
  have l := ln_short m1 m2 2001
  unfold encP at ok
  generalize ln 2001 m = S at l ok
  unfold OnR at on
  have one : ∀ x : S44, okBy true x = true → (([x] : List S44).all (okBy true) && dis44 [x] && decide (([x] : List S44).length ≤ 1000000000)) = true := fun x hx => by simp [hx, dis44]
  unfold onR
  by_cases h2 : kd = 2
  · rw [if_pos h2]; exact one _ (by simp [okBy]; omega)
  · rw [if_neg h2]
    have hf : 1 ≤ fst24 kd d mv ∧ fst24 kd d mv + many24 kd - 1 ≤ S := by omega
    by_cases h1 : kd = 1
    · rw [if_pos h1]; rfl
    · rw [if_neg h1]
      unfold many24 at hf
      rw [if_neg h1] at hf
      unfold sevR
      by_cases c : fst24 kd d mv % 7 = 1
      · rw [if_pos c]; exact one _ (by simp [okBy]; omega)
      · rw [if_neg c]; exact one _ (by simp [okBy]; omega)
theorem on_right {m kd w d mv : Int} (h : Enc m kd w d mv) : Right (onR m kd w d mv) := by
  have hmd := on_md h
  have hdy := on_dy h
  obtain ⟨l1, l2, l3, l4, l5, l6, l7, l8, l9, l10, l11, l12, l13, l14, l15⟩ := on_list h
  refine ⟨?_, by rw [l3]; decide, by rw [l3]; decide, Or.inl ⟨l4, l5, l6⟩⟩
  have e0 : ∀ a b g, okList [] a b g = true := fun _ _ _ => rfl
  have emo : okList [m] 1 12 false = true := ok_list (fun x hx => by obtain rfl := List.mem_singleton.1 hx; exact ⟨h.m1, h.m2⟩) (dis_one _) (by simp)
  unfold okRecur
  rw [l1, l2, l7, l8, l9, l10, l11, l12, l13, l14, hmd, emo]
  have q : ((decide ((7 : Int) = 6) || decide ((7 : Int) = 7)) && decide ((([] : List Int).length : Int) = 0)) = true := rfl
  rw [q, hdy]
  simp only [e0]
  simp [okBeside]
theorem on_few {m kd w d mv : Int} (h : Enc m kd w d mv) : Few (onR m kd w d mv) := by
  obtain ⟨l1, l2, l3, l4, l5, l6, l7, l8, l9, _⟩ := on_list h
  exact ⟨by rw [l7]; exact Nat.zero_le 100, by rw [l8]; exact Nat.zero_le 100, by rw [l9]; exact Nat.zero_le 100⟩
/-- A rule without an end: one time a period, up to the last asked. -/
theorem run_to {r : RR} {st from_ to_ F p0 : Int} {n : Nat} {a b t : Nat → Int} (hp : r.sp = []) (hun : r.un = false) (hct : r.ct = 0)
    (hs : ∀ i, i ≤ n → spanV r (p0 + (i : Int) * r.iv) = (a i, b i, 0)) (hl : ∀ i, i ≤ n → letsL r st (a i) (b i) = [t i]) (ha : ∀ i, i ≤ n → a i ≤ to_) (hlast : (spanV r (p0 + ((n + 1 : Nat) : Int) * r.iv)).2.2 ≠ 0 ∨ to_ < (spanV r (p0 + ((n + 1 : Nat) : Int) * r.iv)).1) (ht0 : t 0 = st) (ht : ∀ i, 0 < i → i ≤ n → st < t i) (hin : ∀ i, i ≤ n → from_ ≤ t i ∧ t i ≤ to_) (hF : 2 * ((n : Int) + 1) ≤ F) :
    ∀ k : Nat, n + 1 < k → worksV r st from_ to_ F k p0 ⟨0, 1, [st]⟩ = some ⟨2 * ((n : Int) + 1), n + 1, (List.range (n + 1)).map t⟩ := by
  have ends : ∀ (ct A : Int), A ≤ to_ → endsV r to_ ct A = false := fun ct A h1 => by
    unfold endsV
    rw [hun, hct, decide_eq_false (by omega)]
    simp
  have goes : ∀ ct x, st < x → goesV r st ct x = true := fun ct x hx => by
    unfold goesV
    rw [hun, hct, decide_eq_true hx]
    simp
  have run : ∀ (j i k : Nat), i + j = n + 1 → 0 < i → j < k → worksV r st from_ to_ F k (p0 + (i : Int) * r.iv) ⟨2 * (i : Int), i, (List.range i).map t⟩ = some ⟨2 * ((n : Int) + 1), n + 1, (List.range (n + 1)).map t⟩ := by
    intro j
    induction j with
    | zero =>
      intro i k hij hi hk
      obtain ⟨k, rfl⟩ : ∃ k', k = k' + 1 := ⟨k - 1, by omega⟩
      obtain rfl : i = n + 1 := by omega
      rw [step_end (hlast.imp id fun q => by unfold endsV; rw [decide_eq_true q]; rfl)]
      simp
    | succ j ih =>
      intro i k hij hi hk
      obtain ⟨k, rfl⟩ : ∃ k', k = k' + 1 := ⟨k - 1, by omega⟩
      have hin' : i ≤ n := by omega
      rw [step_one (hs i hin') (ends _ _ (ha i hin')) hp (hl i hin') (by dsimp only; omega) (by dsimp only; omega)]
      dsimp only
      rw [if_pos (goes _ _ (ht i hi hin'))]
      have e : tellV from_ to_ ⟨2 * (i : Int) + 2, (i : Int), (List.range i).map t⟩ (t i) = ⟨2 * ((i + 1 : Nat) : Int), ((i + 1 : Nat) : Int), (List.range (i + 1)).map t⟩ := by
        unfold tellV
        rw [if_pos (hin i hin'), List.range_succ, List.map_append]
        simp
        omega
      rw [e]
      have e2 : p0 + (i : Int) * r.iv + r.iv = p0 + ((i + 1 : Nat) : Int) * r.iv := by
        rw [Int.natCast_succ, Int.add_mul, Int.one_mul]; omega
      rw [e2]
      exact ih (i + 1) k (by omega) (by omega) (by omega)
  intro k hk
  obtain ⟨k, rfl⟩ : ∃ k', k = k' + 1 := ⟨k - 1, by omega⟩
  have e0 : p0 = p0 + ((0 : Nat) : Int) * r.iv := by simp
  have hs0 := hs 0 (by omega)
  rw [← e0] at hs0
  rw [step_one hs0 (ends _ _ (ha 0 (by omega))) hp (hl 0 (by omega)) (by dsimp only; omega) (by dsimp only; omega)]
  have hg : goesV r st 1 (t 0) = false := by
    unfold goesV
    rw [ht0, decide_eq_false (Int.lt_irrefl _)]
    rfl
  dsimp only
  rw [hg, if_neg (by decide)]
  have := run n 1 k (by omega) (by omega) (by omega)
  have e1 : p0 + ((1 : Nat) : Int) * r.iv = p0 + r.iv := by simp
  rw [e1] at this
  simpa [List.range_succ, ht0] using this
theorem on_span {m kd w d mv : Int} (h : Enc m kd w d mv) {p : Int} (hp : 1 ≤ p) (hp' : p ≤ 9990) : spanV (onR m kd w d mv) p = ((spanW (onR m kd w d mv) p).1, (spanW (onR m kd w d mv) p).2, 0) := by
  have l := lpi_01 p
  have c11 : cum p 1 = 0 := by simp [cum]
  have c12 : cum p 12 = 334 + lpi p := by simp [cum]
  have a1 := ah_le (a := 1) (b := p) (by omega)
  have a2 := ah_le (a := p) (b := 9991) (by omega)
  have e0 : ah 1 = 366 := by decide
  have e3 : ah 9991 = 3649138 := by decide
  refine spanV_ok (on_right h).lens (fun q => by rw [(on_list h).1] at q; cases q) ?_ ?_
  · rw [on_spanW h]; unfold InT num; dsimp only; rw [c11]; omega
  · rw [on_spanW h]; unfold InT num; dsimp only; rw [c12]; omega
theorem in_year {y n : Int} (hy : 1 ≤ y) (hy' : y ≤ 9999) (a : num y 1 1 ≤ n) (b : n ≤ num y 12 31) : (dt n).1 = y := by
  have a1 := num_bd (rt_first (y := y) (by omega) (by omega))
  have a2 := num_bd (rt_31 (y := y) (by omega) (by omega))
  obtain ⟨hr, hn⟩ := dt_spec (n := n) (by omega) (by omega)
  have i := num_in hr
  rw [hn] at i
  have i1 := num_in (rt_first (y := y) (by omega) (by omega))
  have i2 := num_in (rt_31 (y := y) (by omega) (by omega))
  by_cases q : (dt n).1 ≤ y - 1
  · have := ah_le (a := (dt n).1 + 1) (b := y) (by omega)
    omega
  · by_cases q2 : y + 1 ≤ (dt n).1
    · have := ah_le q2
      omega
    · omega
/-- The form's days, moved, in years one behind the other. -/
def dayT (m kd w d mv y : Int) (i : Nat) : Int := 86400 * (fres (y + (i : Int)) m kd w d + mv)
theorem day_rise {m kd w d mv : Int} (h : Enc m kd w d mv) (y : Int) {i j : Nat} (hij : i < j) : dayT m kd w d mv y i < dayT m kd w d mv y j := by
  have a := on_in h (y + (i : Int))
  have b := on_in h (y + (j : Int))
  have c11 : ∀ p, cum p 1 = 0 := fun p => by simp [cum]
  have c12 : ∀ p, cum p 12 = 334 + lpi p := fun p => by simp [cum]
  have l := lpi_01 (y + (i : Int))
  have s := ah_succ (y + (i : Int))
  have g := ah_le (a := y + (i : Int) + 1) (b := y + (j : Int)) (by omega)
  have e1 : num (y + (i : Int)) 12 31 < num (y + (j : Int)) 1 1 := by unfold num; rw [c11, c12]; omega
  unfold dayT
  omega
theorem times_enc {m kd w d mv : Int} (h : Enc m kd w d mv) {y : Int} {n : Nat} (hy : 2 ≤ y) (hy' : y ≤ 9901) (hn : n ≤ 19) : timesV (onR m kd w d mv) (dayT m kd w d mv y 0) (-4611686018427387904) (dayT m kd w d mv y n) 1000 = ((List.range (n + 1)).map (dayT m kd w d mv y), 2 * ((n : Int) + 1), 0) := by
  obtain ⟨l1, l2, l3, l4, l5, l6, l7, l8, l9, l10, l11, l12, l13, l14, l15⟩ := on_list h
  have rise : ∀ i j : Nat, i ≤ j → dayT m kd w d mv y i ≤ dayT m kd w d mv y j := fun i j hij => by
    by_cases q : i = j
    · subst q; exact Int.le_refl _
    · exact Int.le_of_lt (day_rise h y (by omega))
  have sp : ∀ i : Nat, i ≤ n + 1 → spanV (onR m kd w d mv) (y + (i : Int) * (onR m kd w d mv).iv) = ((spanW (onR m kd w d mv) (y + (i : Int))).1, (spanW (onR m kd w d mv) (y + (i : Int))).2, 0) := fun i hi => by
    rw [l2, Int.mul_one]
    exact on_span h (by omega) (by omega)
  have inn : ∀ i : Nat, (spanW (onR m kd w d mv) (y + (i : Int))).1 ≤ dayT m kd w d mv y i ∧ dayT m kd w d mv y i ≤ (spanW (onR m kd w d mv) (y + (i : Int))).2 := fun i => by
    have := on_in h (y + (i : Int))
    rw [on_spanW h]
    unfold dayT
    dsimp only
    omega
  have bd : ∀ i : Nat, i ≤ n + 1 → -62135596800 ≤ dayT m kd w d mv y i ∧ dayT m kd w d mv y i ≤ 253402300799 := fun i hi => by
    have s := sp i hi
    have := spanOk_in (r := onR m kd w d mv) (p := y + (i : Int) * (onR m kd w d mv).iv) (by rw [s])
    rw [s] at this
    unfold InT at this
    dsimp only at this
    have q := inn i
    omega
  have b0 := bd 0 (by omega)
  have bn := bd n (by omega)
  have l0 := rise 0 n (by omega)
  unfold timesV
  rw [if_pos (by unfold mayT; omega)]
  have hp : perV (onR m kd w d mv) (dayT m kd w d mv y 0) = y := by
    have q := on_in h y
    have e : dayT m kd w d mv y 0 / 86400 = fres y m kd w d + mv := by
      unfold dayT
      rw [show y + ((0 : Nat) : Int) = y by omega]
      omega
    unfold perV
    rw [l1, l11, e]
    simp
    exact in_year (by omega) (by omega) q.1 q.2
  have hgo : goneV (onR m kd w d mv) (dayT m kd w d mv y 0) (-4611686018427387904) (dayT m kd w d mv y n) 1000 = some ⟨2 * ((n : Int) + 1), n + 1, (List.range (n + 1)).map (dayT m kd w d mv y)⟩ := by
    have s0 := sp 0 (by omega)
    simp only [Int.natCast_zero, Int.zero_mul, Int.add_zero] at s0
    have hb : beginV (onR m kd w d mv) (dayT m kd w d mv y 0) (-4611686018427387904) = (y, true) := by
      unfold beginV
      rw [hp, if_pos (Or.inr (Or.inr (by omega))), s0]
      rfl
    unfold goneV
    rw [hb, if_pos rfl]
    have e : tellV (-4611686018427387904) (dayT m kd w d mv y n) ⟨0, 0, []⟩ (dayT m kd w d mv y 0) = ⟨0, 1, [dayT m kd w d mv y 0]⟩ := by
      unfold tellV
      rw [if_pos ⟨by omega, l0⟩]
      rfl
    rw [e]
    refine run_to (F := 1000) (a := fun i => (spanW (onR m kd w d mv) (y + (i : Int))).1) (b := fun i => (spanW (onR m kd w d mv) (y + (i : Int))).2) (t := dayT m kd w d mv y) l13 l4 l3 (fun i hi => sp i (by omega)) (fun i hi => ?_) (fun i hi => Int.le_trans (inn i).1 (rise i n hi)) (Or.inr ?_) rfl (fun i h0 hi => day_rise h y h0) (fun i hi => ⟨by have := bd i (by omega); omega, rise i n hi⟩) (by omega) _ (by show n + 1 < 1000 + 2; omega)
    · exact on_lets h (by omega) (by omega)
    · rw [sp (n + 1) (by omega)]
      have := (inn n).2
      have g := span_lt (onR m kd w d mv) (p := y + (n : Int)) (q := y + ((n + 1 : Nat) : Int)) (by omega)
      exact Int.lt_of_le_of_lt this g
  rw [hgo]
end Go.Proofs.YtfinhaghgmnegaaGreat.Pure
