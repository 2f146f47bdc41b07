/- What the reference's dates, lists, years and Recur compute. No condition beyond those each lemma names. -/
/- A right rule is right for the reference, and none but it. No condition beyond those each lemma names. -/
/- A rule's times by the reference, in plain numbers. No condition beyond those each lemma names. -/
import Derived.Test.YtjjaiahfkiojlaaGreatMOx10
import Derived.Test.YtjjaiahfkiojlaaGreatMOx0
import Derived.Test.YtjjaiahfkiojlaaGreatMOx9
import Derived.Test.YtjjaiahfkiojlaaGreatOx12
import Derived.Test.YtjjaiahfkiojlaaGreatMOx14
import Derived.Test.YtjjaiahfkiojlaaGreatOx150
import Derived.Test.YtjjaiahfkiojlaaGreatOx152
import Derived.Test.YtjjaiahfkiojlaaGreatMT23j
import Derived.Test.YtjjaiahfkiojlaaGreatMT23W
namespace Go.Proofs.YtjjaiahfkiojlaaGreat.Pure
open Go.RowKit Go.Proofs.YtjjaiahfkiojlaaGreat.O Go.Proofs.YtjjaiahfkiojlaaGreatW.PrintWords Go.Proofs.YtjjaiahfkiojlaaGreatW.PrintLast
open Go.Proofs.YtjjaiahfkiojlaaGreat.Civ
set_option linter.unusedVariables false
set_option linter.unusedSimpArgs false
theorem rdate_l1 (y m d : Int) (h : Rt y m d) : ∀ (n : Nat) (j : Int), 1 ≤ j → j + n = m → Ev (fun k => solsticeref01_Date.l1 k y (cum y m + d - 1 - cum y j) y j 1) (y, m, d) := by
  obtain ⟨h1, h2, h3, h4, h5, h6⟩ := h
  have hl := ln_bd y m h3 h4
  have hp := lpi_01 y
  have hm := cum_bd y m h3 (by omega)
  intro n
  induction n with
  | zero =>
    intro j g1 g2
    obtain rfl : j = m := by omega
    refine evstep ?_
    simp only [solsticeref01_Date.l1]
    refine evif (fun hc => ?_) (fun hc => ?_)
    · refine evb (rlen j (by omega) (by omega)) ?_
      simp only [if_neg (show ¬ cum y j + d - 1 - cum y j ≥ ln y j by omega)]
      refine evstep ?_
      simp only [solsticeref01_Date.l1, if_neg (show ¬ (0 : Int) > 0 by omega)]
      refine evs ?_
      rw [w64 (by omega) (by omega), show cum y j + d - 1 - cum y j + 1 = d by omega]
    · refine evs ?_
      rw [show d = 1 by omega]
  | succ n ih =>
    intro j g1 g2
    have hn := cum_next y g1 (show j < m by omega) (by omega)
    have hj := cum_bd y j g1 (by omega)
    have hs := cum_succ y j g1 (by omega)
    have hlj := ln_bd y j g1 (by omega)
    refine evstep ?_
    simp only [solsticeref01_Date.l1, if_pos (show cum y m + d - 1 - cum y j > 0 by omega)]
    refine evb (rlen j (by omega) (by omega)) ?_
    simp only [if_pos (show cum y m + d - 1 - cum y j ≥ ln y j by omega)]
    rw [w64 (by omega) (by omega), w64 (by omega) (by omega), show cum y m + d - 1 - cum y j - ln y j = cum y m + d - 1 - cum y (j + 1) by omega]
    exact ih (j + 1) (by omega) (by omega)
theorem rdate_l0 (y m d : Int) (h : Rt y m d) : ∀ (n : Nat) (j : Int), 0 ≤ j → j + n = y → Ev (fun k => solsticeref01_Date.l0 k (num y m d) j) (y, m, d) := by
  have hbn := num_bd h
  have hn := num_in h
  obtain ⟨h1, h2, h3, h4, h5, h6⟩ := id h
  have hb := ah_bd h1 (by omega)
  have hl := ln_bd y m h3 h4
  have hp := lpi_01 y
  have hm := cum_bd y m h3 (by omega)
  have e1 : ∀ z : Int, num z 1 1 = ah z - 719528 := by intro z; have := cum_1 z; unfold num; omega
  have last : Ev (fun k => solsticeref01_Date.j1 k (num y m d) y) (y, m, d) := by
    refine evstep ?_
    simp only [solsticeref01_Date.j1]
    refine evb (rnum' (y := y) (m := 1) (d := 1) h1 (by omega) (by omega) (by omega) (by omega) (by omega)) ?_
    rw [e1, w64 (by omega) (by omega)]
    have := rdate_l1 y m d h (m - 1).toNat 1 (by omega) (by omega)
    rwa [cum_1, show cum y m + d - 1 - 0 = num y m d - (ah y - 719528) by unfold num; omega] at this
  intro n
  induction n with
  | zero =>
    intro j g1 g2
    obtain rfl : j = y := by omega
    refine evstep ?_
    simp only [solsticeref01_Date.l0]
    refine evif (fun hc => ?_) (fun hc => last)
    rw [w64 (x := j + 1) (by omega) (by omega)]
    refine evb (rnum' (y := j + 1) (m := 1) (d := 1) (by omega) (by omega) (by omega) (by omega) (by omega) (by omega)) ?_
    simp only [e1, if_neg (show ¬ ah (j + 1) - 719528 ≤ num j m d by omega)]
    exact last
  | succ n ih =>
    intro j g1 g2
    have hle := ah_le (a := j + 1) (b := y) (by omega)
    refine evstep ?_
    simp only [solsticeref01_Date.l0, if_pos (show j < 10000 by omega)]
    rw [w64 (x := j + 1) (by omega) (by omega)]
    refine evb (rnum' (y := j + 1) (m := 1) (d := 1) (by omega) (by omega) (by omega) (by omega) (by omega) (by omega)) ?_
    simp only [e1, if_pos (show ah (j + 1) - 719528 ≤ num y m d by omega)]
    exact ih (j + 1) (by omega) (by omega)
theorem rdate {y m d : Int} (h : Rt y m d) : Ev (fun k => solsticeref01_Date.f k (num y m d)) (y, m, d) := by
  have hb := num_bd h
  have hn := num_in h
  have hu := ah_le (a := 0) (b := y + 1) (by have := h.1; omega)
  rw [ah_0] at hu
  unfold solsticeref01_Date.f
  rw [w64 (x := num y m d + 719528) (by omega) (by omega), tdiv_nn 366 (by omega), w64 (by omega) (by omega)]
  exact rdate_l0 y m d h (y - (num y m d + 719528) / 366).toNat _ (by omega) (by omega)
theorem rdate_dt {n : Int} (h : -719528 ≤ n) (h' : n ≤ 2933262) : Ev (fun k => solsticeref01_Date.f k n) (dt n) := by
  have s := dt_spec h h'
  have := rdate s.1
  rwa [s.2] at this
theorem rleast : Ev (fun k => solsticeref01_Least.f k) (-719528) := by
  have := rnum (y := 0) (m := 1) (d := 1) (by decide +kernel)
  rw [show num 0 1 1 = -719528 by decide +kernel] at this
  unfold solsticeref01_Least.f
  exact evb this (Ev.now _)
theorem rmost : Ev (fun k => solsticeref01_Most.f k) 2933262 := by
  have := rnum (y := 10000) (m := 12) (d := 31) (by decide +kernel)
  rw [show num 10000 12 31 = 2933262 by decide +kernel] at this
  unfold solsticeref01_Most.f
  exact evb this (Ev.now _)
noncomputable def yearsV (a : Int) : Int × Int × Int × Bool := if -719528 ≤ a / 86400 ∧ a / 86400 ≤ 2933262 then ((dt (a / 86400)).1, (dt (a / 86400)).2.1, (dt (a / 86400)).2.2, decide (1 ≤ (dt (a / 86400)).1 ∧ (dt (a / 86400)).1 ≤ 9999)) else (0, 0, 0, false)
theorem rin16 (a b c : Int) : solsticeref16_in.f a b c = some (decide (b ≤ a ∧ a ≤ c)) := by
  unfold solsticeref16_in.f
  by_cases h1 : b ≤ a <;> by_cases h2 : a ≤ c <;> simp [h1, h2]
theorem rin21 (a b c : Int) : solsticeref21_in.f a b c = some (decide (b ≤ a ∧ a ≤ c)) := by
  unfold solsticeref21_in.f
  by_cases h1 : b ≤ a <;> by_cases h2 : a ≤ c <;> simp [h1, h2]
theorem ryears {a : Int} (h : -9223372036854775808 ≤ a) (h' : a < 9223372036854775808) : Ev (fun k => solsticeref16_Years.f k a) (yearsV a) := by
  unfold solsticeref16_Years.f yearsV
  simp only [rdiv (a := a) (b := 86400) (by omega) (by omega) h h', Option.bind_some]
  refine evb rleast (evb rmost ?_)
  simp only [rin16, Option.bind_some]
  by_cases c : -719528 ≤ a / 86400 ∧ a / 86400 ≤ 2933262
  · rw [if_pos c]
    refine evp (decide_eq_true c) ?_
    refine evb (rdate_dt c.1 c.2) ?_
    exact evs rfl
  · rw [if_neg c]
    refine evn (by rw [decide_eq_false c]; decide) ?_
    exact evs rfl
theorem years_in {t : Int} (ht : InT t) : yearsV t = ((dt (t / 86400)).1, (dt (t / 86400)).2.1, (dt (t / 86400)).2.2, true) := by
  have y := dt_year ht
  unfold yearsV
  rw [if_pos ⟨by omega, by omega⟩, decide_eq_true ⟨y.1, y.2.1⟩]
theorem years_ok {t : Int} (h : (yearsV t).2.2.2 = true) : InT t := by
  unfold yearsV at h
  split at h
  · rename_i c
    have h2 : 1 ≤ (dt (t / 86400)).1 ∧ (dt (t / 86400)).1 ≤ 9999 := by simpa using h
    have := (yr_range c.1 c.2).1 h2
    unfold InT
    omega
  · cases h
/-- May a number stand in a list? -/
def okN (x lo hi : Int) (both : Bool) : Prop := (lo ≤ x ∧ x ≤ hi) ∨ (both = true ∧ -hi ≤ x ∧ x ≤ -lo)
theorem rlist1 (l : List Int) (lo hi : Int) (both : Bool) (hl : l.length ≤ 1000000) (i : Nat) (hi' : i < l.length) (P : Prop)
    (ih : ∃ b, Ev (fun k => solsticeref21_list.l0 k l lo hi both ((i + 1 : Nat) : Int)) b ∧ (b = true → P)) :
    ∀ (m j : Nat), j + m = i → ∃ b, Ev (fun k => solsticeref21_list.l1 k l lo hi both (i : Int) (j : Int)) b ∧ (b = true → (∀ j', j ≤ j' → (h : j' < i) → l[j'] ≠ l[i]) ∧ P) := by
  intro m
  induction m with
  | zero =>
    intro j hj
    obtain ⟨b, hb, hp⟩ := ih
    refine ⟨b, evstep ?_, fun e => ⟨fun j' h1 h2 => by omega, hp e⟩⟩
    simp only [solsticeref21_list.l1]
    refine evn (by omega) ?_
    rw [w64 (by omega) (by omega)]
    exact hb
  | succ m ihm =>
    intro j hj
    obtain ⟨b, hb, hp⟩ := ihm (j + 1) (by omega)
    have r1 : rd l (j : Int) = l[j]'(by omega) := by unfold rd; simp [List.getD, show j < l.length by omega]
    have r2 : rd l (i : Int) = l[i] := by unfold rd; simp [List.getD, hi']
    by_cases c : l[j]'(by omega) = l[i]
    · refine ⟨false, evstep ?_, fun e => by cases e⟩
      simp only [solsticeref21_list.l1]
      refine evp (by omega) (evp (by omega) (evp (by omega) (evp (by omega) (evp (by omega) ?_))))
      exact evp (by rw [r1, r2]; exact c) (evs rfl)
    · refine ⟨b, evstep ?_, fun e => ⟨fun j' h1 h2 => ?_, (hp e).2⟩⟩
      · simp only [solsticeref21_list.l1]
        refine evp (by omega) (evp (by omega) (evp (by omega) (evp (by omega) (evp (by omega) ?_))))
        refine evn (by rw [r1, r2]; exact c) ?_
        rw [w64 (by omega) (by omega)]
        exact hb
      · by_cases e2 : j' = j
        · subst e2; exact c
        · exact (hp e).1 j' (by omega) h2
theorem rlist0 (l : List Int) (lo hi : Int) (both : Bool) (hl : l.length ≤ 1000000) (h1 : -1000 ≤ lo) (h2 : lo ≤ 1000) (h3 : -1000 ≤ hi) (h4 : hi ≤ 1000) :
    ∀ (n i : Nat), i + n = l.length → ∃ b, Ev (fun k => solsticeref21_list.l0 k l lo hi both (i : Int)) b ∧ (b = true → ∀ i', i ≤ i' → (h : i' < l.length) → okN l[i'] lo hi both ∧ ∀ j', (hj : j' < i') → l[j'] ≠ l[i']) := by
  intro n
  induction n with
  | zero =>
    intro i hi'
    refine ⟨true, evstep ?_, fun _ i' ha hb => by omega⟩
    simp only [solsticeref21_list.l0]
    exact evn (by omega) (evs rfl)
  | succ n ih =>
    intro i hi'
    have hlt : i < l.length := by omega
    have r2 : rd l (i : Int) = l[i] := by unfold rd; simp [List.getD, hlt]
    obtain ⟨b, hb, hp⟩ := rlist1 l lo hi both hl i hlt _ (ih (i + 1) (by omega)) i 0 (by omega)
    have bad : ∀ c : Bool, c = true → Ev (fun k => solsticeref21_list.j1 k l lo hi both (i : Int) c) false := fun c hc => evstep (by subst hc; simp only [solsticeref21_list.j1, if_true]; exact evs rfl)
    have good : ∀ c : Bool, c = false → Ev (fun k => solsticeref21_list.j1 k l lo hi both (i : Int) c) b := fun c hc => evstep (by subst hc; simp only [solsticeref21_list.j1, Bool.false_eq_true, if_false]; exact hb)
    by_cases c : okN l[i] lo hi both
    · refine ⟨b, evstep ?_, fun e i' ha hb2 => ?_⟩
      · simp only [solsticeref21_list.l0, rin21, Option.bind_some]
        refine evp (by omega) (evp (by omega) ?_)
        rw [r2, w64 (x := -hi) (by omega) (by omega), w64 (x := -lo) (by omega) (by omega)]
        refine evif (fun _ => good false rfl) (fun q => ?_)
        rcases c with c | c
        · exact absurd (decide_eq_true c) q
        · refine evp c.1 (good _ ?_)
          rw [decide_eq_true c.2]; rfl
      · by_cases e2 : i' = i
        · subst e2
          exact ⟨c, fun j' hj => (hp e).1 j' (by omega) hj⟩
        · exact (hp e).2 i' (by omega) hb2
    · refine ⟨false, evstep ?_, fun e => by cases e⟩
      simp only [solsticeref21_list.l0, rin21, Option.bind_some]
      refine evp (by omega) (evp (by omega) ?_)
      rw [r2, w64 (x := -hi) (by omega) (by omega), w64 (x := -lo) (by omega) (by omega)]
      refine evn (fun q => c (Or.inl (by simpa using q))) ?_
      refine evif (fun q => bad _ ?_) (fun q => bad _ rfl)
      rw [decide_eq_false (fun q2 => c (Or.inr ⟨q, q2⟩))]; rfl
theorem rlist (l : List Int) (lo hi : Int) (both : Bool) (hl : l.length ≤ 1000000) (h1 : -1000 ≤ lo) (h2 : lo ≤ 1000) (h3 : -1000 ≤ hi) (h4 : hi ≤ 1000) :
    ∃ b, Ev (fun k => solsticeref21_list.f k l lo hi both) b ∧ (b = true → okList l lo hi both = true) := by
  obtain ⟨b, hb, hp⟩ := rlist0 l lo hi both hl h1 h2 h3 h4 l.length 0 (by omega)
  refine ⟨b, hb, fun e => ?_⟩
  have h := hp e
  simp only [okList, rightB, Bool.and_eq_true, Bool.not_eq_true', decide_eq_true_eq]
  refine ⟨⟨?_, ?_⟩, by omega⟩
  · rw [List.any_eq_false]
    intro x hx
    obtain ⟨i, hi', rfl⟩ := List.getElem_of_mem hx
    have c := (h i (by omega) hi').1
    generalize l[i] = x at c
    unfold wrongB
    rcases c with c | c
    · have a1 : ¬ x < lo := by omega
      have a2 : ¬ hi < x := by omega
      simp [a1, a2]
    · have a1 : ¬ -lo < x := by omega
      have a2 : ¬ x < -hi := by omega
      simp [c.1, a1, a2]
  · unfold dupI
    rw [decide_eq_false_iff_not, Decidable.not_not]
    rw [List.nodup_iff_pairwise_ne, List.pairwise_iff_getElem]
    intro i j hi' hj hij
    exact (h j (by omega) hj).2 i hij
theorem refBy_ok {fr : Int} {nw : Nat} {x : S67} (hf : fr ≤ 7) (h : refBy fr nw x) : okBy ((decide (fr = 6) || decide (fr = 7)) && decide ((nw : Int) = 0)) x = true := by
  obtain ⟨⟨a, b⟩, ⟨c, d⟩, e⟩ := h
  simp only [okBy, Bool.and_eq_true, Bool.or_eq_true, decide_eq_true_eq]
  refine ⟨⟨⟨⟨a, b⟩, c⟩, d⟩, ?_⟩
  by_cases h0 : x.f0 = 0
  · exact Or.inl h0
  · right
    have h1 : ¬ fr < 6 := fun q => e ⟨h0, Or.inl q⟩
    have h2 : ¬ 0 < nw := fun q => e ⟨h0, Or.inr q⟩
    omega
theorem pw_dis47 : ∀ {l : List S67}, (l.Pairwise fun y x => eq67 y x = false) → dis67 l = true
  | [], _ => rfl
  | x :: xs, h => by
    cases h with
    | cons h1 h2 =>
      simp only [dis67, Bool.and_eq_true, List.all_eq_true, Bool.not_eq_true']
      exact ⟨h1, pw_dis47 h2⟩
theorem rrecur (r : RR) (hua : -9223372036854775808 ≤ r.ua) (hua' : r.ua < 9223372036854775808) : ∃ b, Ev (fun k => solsticeref21_Recur.f k r.fr r.iv r.ct r.un r.ua r.utc r.sec r.mi r.ho r.dy r.md r.yd r.wn r.mo r.sp r.wk) b ∧ (b = true → Right r) := by
  unfold solsticeref21_Recur.f
  by_cases hbig : 60 < r.sec.length ∨ 60 < r.mi.length ∨ 24 < r.ho.length ∨ 12 < r.mo.length ∨ 62 < r.md.length ∨ 732 < r.yd.length ∨ 106 < r.wn.length ∨ 732 < r.sp.length ∨ 749 < r.dy.length
  · exact ⟨false, evp hbig (evs rfl), fun e => by cases e⟩
  by_cases hhead : ¬ (1 ≤ r.fr ∧ r.fr ≤ 7) ∨ ¬ (1 ≤ r.iv ∧ r.iv ≤ 1000) ∨ ¬ (0 ≤ r.ct ∧ r.ct ≤ 100000) ∨ (0 < r.ct ∧ r.un = true) ∨ (r.utc = true ∧ r.un = false) ∨ (r.un = false ∧ ¬ r.ua = 0) ∨ ¬ (0 ≤ r.wk ∧ r.wk ≤ 6)
  · exact ⟨false, evn hbig (evp hhead (evs rfl)), fun e => by cases e⟩
  have hy := ryears hua hua'
  by_cases hyy : r.un = true ∧ (yearsV r.ua).2.2.2 = false
  · exact ⟨false, evn hbig (evn hhead (evb hy (evp hyy (evs rfl)))), fun e => by cases e⟩
  obtain ⟨b6, e6, p6⟩ := rlist r.sec 0 59 false (by omega) (by omega) (by omega) (by omega) (by omega)
  obtain ⟨b7, e7, p7⟩ := rlist r.mi 0 59 false (by omega) (by omega) (by omega) (by omega) (by omega)
  obtain ⟨b8, e8, p8⟩ := rlist r.ho 0 23 false (by omega) (by omega) (by omega) (by omega) (by omega)
  obtain ⟨b13, e13, p13⟩ := rlist r.mo 1 12 false (by omega) (by omega) (by omega) (by omega) (by omega)
  obtain ⟨b10, e10, p10⟩ := rlist r.md 1 31 true (by omega) (by omega) (by omega) (by omega) (by omega)
  obtain ⟨b11, e11, p11⟩ := rlist r.yd 1 366 true (by omega) (by omega) (by omega) (by omega) (by omega)
  obtain ⟨b12, e12, p12⟩ := rlist r.wn 1 53 true (by omega) (by omega) (by omega) (by omega) (by omega)
  obtain ⟨b14, e14, p14⟩ := rlist r.sp 1 366 true (by omega) (by omega) (by omega) (by omega) (by omega)
  suffices hs : ∃ b, Ev (fun k : Nat => if b6 = false ∨ b7 = false ∨ b8 = false ∨ b13 = false ∨ b10 = false ∨ b11 = false ∨ b12 = false ∨ b14 = false then some false else if ¬ DaysP r.fr r.wn.length r.dy then some false else if (0 < r.md.length ∧ r.fr = 5) ∨ (0 < r.yd.length ∧ (4 ≤ r.fr ∧ r.fr ≤ 6)) ∨ (0 < r.wn.length ∧ ¬ r.fr = 7) then some false else some (decide (r.sp.length = 0) || decide (0 < r.sec.length + r.mi.length + r.ho.length + r.dy.length + r.md.length + r.yd.length + r.wn.length + r.mo.length))) b ∧ (b = true → Right r) by
    obtain ⟨b, h, k⟩ := hs
    refine ⟨b, evn hbig (evn hhead (evb hy ?_)), k⟩
    refine evn hyy ?_
    exact evb e6 (evb e7 (evb e8 (evb e13 (evb e10 (evb e11 (evb e12 (evb e14 h)))))))
  by_cases hbad : b6 = false ∨ b7 = false ∨ b8 = false ∨ b13 = false ∨ b10 = false ∨ b11 = false ∨ b12 = false ∨ b14 = false
  · exact ⟨false, evp hbad (evs rfl), fun e => by cases e⟩
  by_cases hdays : DaysP r.fr r.wn.length r.dy
  case neg => exact ⟨false, evn hbad (evp hdays (evs rfl)), fun e => by cases e⟩
  by_cases htail : (0 < r.md.length ∧ r.fr = 5) ∨ (0 < r.yd.length ∧ (4 ≤ r.fr ∧ r.fr ≤ 6)) ∨ (0 < r.wn.length ∧ ¬ r.fr = 7)
  · exact ⟨false, evn hbad (evn (fun q => q hdays) (evp htail (evs rfl))), fun e => by cases e⟩
  refine ⟨_, evn hbad (evn (fun q => q hdays) (evn htail (evs rfl))), fun e => ?_⟩
  simp only [not_or, Bool.not_eq_false] at hbad
  obtain ⟨q6, q7, q8, q13, q10, q11, q12, q14⟩ := hbad
  have hf : 1 ≤ r.fr ∧ r.fr ≤ 7 := by omega
  refine ⟨?_, by omega, by omega, ?_⟩
  · simp only [okRecur, Bool.and_eq_true, decide_eq_true_eq]
    refine ⟨⟨⟨⟨⟨⟨hf.1, hf.2⟩, by omega, by omega⟩, by omega, by omega⟩, ⟨⟨⟨⟨⟨⟨p6 q6, p7 q7⟩, p8 q8⟩, p10 q10⟩, p11 q11⟩, p12 q12⟩, p13 q13⟩, p14 q14⟩, ⟨List.all_eq_true.2 fun x hx => refBy_ok hf.2 (hdays.1 x hx), pw_dis47 hdays.2⟩, by omega⟩, ?_⟩
    simp only [okBeside, Bool.and_eq_true, Bool.not_eq_true', Bool.and_eq_false_iff, Bool.or_eq_false_iff, Bool.or_eq_true, decide_eq_true_eq, decide_eq_false_iff_not] at e ⊢
    simp only [Bool.not_eq_false', decide_eq_true_eq]
    omega
  · cases hu : r.un with
    | false =>
      left
      refine ⟨rfl, ?_, ?_⟩
      · by_cases q : r.ua = 0
        · exact q
        · exact absurd (Or.inr (Or.inr (Or.inr (Or.inr (Or.inr (Or.inl ⟨hu, q⟩)))))) hhead
      · cases hc : r.utc with
        | false => rfl
        | true => exact absurd (Or.inr (Or.inr (Or.inr (Or.inr (Or.inl ⟨hc, hu⟩))))) hhead
    | true =>
      right
      refine ⟨rfl, ?_, ?_⟩
      · by_cases q : 0 < r.ct
        · exact absurd (Or.inr (Or.inr (Or.inr (Or.inl ⟨q, hu⟩)))) hhead
        · omega
      · refine years_ok ?_
        cases hq : (yearsV r.ua).2.2.2 with
        | true => rfl
        | false => exact absurd ⟨hu, hq⟩ hyy
end Go.Proofs.YtjjaiahfkiojlaaGreat.Pure

namespace Go.Proofs.YtjjaiahfkiojlaaGreat.Pure
open Go.RowKit Go.Proofs.YtjjaiahfkiojlaaGreat.O Go.Proofs.YtjjaiahfkiojlaaGreatW.PrintWords Go.Proofs.YtjjaiahfkiojlaaGreatW.PrintLast
open Go.Proofs.YtjjaiahfkiojlaaGreat.Civ
set_option linter.unusedVariables false
set_option linter.unusedSimpArgs false
/-! A right rule is right for the reference -/
theorem nodup_le (lo : Int) : ∀ (n : Nat) (l : List Int), l.Nodup → (∀ x ∈ l, lo ≤ x ∧ x < lo + n) → l.length ≤ n
  | 0, [], _, _ => Nat.le_refl _
  | 0, x :: l, _, h => by
    have := h x List.mem_cons_self
    omega
  | n + 1, l, hd, h => by
    by_cases hm : lo + (n : Int) ∈ l
    · have ih := nodup_le lo n (l.erase (lo + (n : Int))) (hd.erase _) (fun x hx => by
        have hx2 := (List.Nodup.mem_erase_iff hd).1 hx
        have := h x hx2.2
        have h3 := hx2.1
        constructor <;> omega)
      have := List.length_erase_of_mem hm
      omega
    · have ih := nodup_le lo n l hd (fun x hx => by
        have := h x hx
        have h3 : x ≠ lo + (n : Int) := fun e => hm (e ▸ hx)
        constructor <;> omega)
      omega
theorem okL_in {l : List Int} {lo hi : Int} {both : Bool} (h : okList l lo hi both = true) : l.Nodup ∧ ∀ x ∈ l, okN x lo hi both := by
  simp only [okList, rightB, Bool.and_eq_true, Bool.not_eq_true', decide_eq_true_eq] at h
  obtain ⟨⟨h1, h2⟩, _⟩ := h
  refine ⟨?_, fun x hx => ?_⟩
  · unfold dupI at h2
    exact Decidable.not_not.1 (of_decide_eq_false h2)
  · have h3 := List.any_eq_false.1 h1 x hx
    unfold okN
    cases both <;> simp only [wrongB, Bool.not_eq_true, Bool.and_eq_false_iff, Bool.or_eq_false_iff, decide_eq_false_iff_not, Bool.not_true, Bool.not_false, Bool.true_eq_false, Bool.false_eq_true, false_or, or_false, true_or, false_and, Bool.true_or, Bool.false_or] at h3 <;> (first | (left; omega) | (rcases h3 with h3 | h3 <;> first | (left; omega) | (right; exact ⟨rfl, by omega, by omega⟩)))
theorem okL_len {l : List Int} {lo hi : Int} (h : okList l lo hi false = true) {n : Nat} (hn : hi - lo + 1 = n) : l.length ≤ n := by
  obtain ⟨h1, h2⟩ := okL_in h
  refine nodup_le lo n l h1 (fun x hx => ?_)
  rcases h2 x hx with q | q
  · omega
  · cases q.1
theorem okL_len2 {l : List Int} {hi : Int} (h : okList l 1 hi true = true) {n : Nat} (hn : 2 * hi = n) : l.length ≤ n := by
  obtain ⟨h1, h2⟩ := okL_in h
  have h0 : (0 : Int) ∉ l := fun q => by
    have := h2 0 q
    unfold okN at this
    omega
  have := nodup_le (-hi) (n + 1) (0 :: l) (List.nodup_cons.2 ⟨h0, h1⟩) (fun x hx => by
    rcases List.mem_cons.1 hx with rfl | hx
    · by_cases hz : 0 ≤ hi
      · omega
      · exfalso; omega
    · have := h2 x hx
      unfold okN at this
      omega)
  rw [List.length_cons] at this
  omega
theorem days_len {l : List S67} {b : Bool} (h : l.all (okBy b) = true) (hd : dis67 l = true) : l.length ≤ 749 := by
  have hx : ∀ x ∈ l, 0 ≤ x.f1 ∧ x.f1 ≤ 6 ∧ -53 ≤ x.f0 ∧ x.f0 ≤ 53 := fun x hx => by
    have := List.all_eq_true.1 h x hx
    simp only [okBy, Bool.and_eq_true, decide_eq_true_eq] at this
    omega
  have hn : (l.map fun x => x.f1 * 107 + x.f0).Nodup := by
    unfold List.Nodup
    rw [List.pairwise_map]
    refine List.Pairwise.imp_of_mem (fun {a c} ha hc q e => ?_) (dis47_pw hd)
    have h1 := hx a ha
    have h2 := hx c hc
    unfold eq67 at q
    rw [Bool.and_eq_false_iff, decide_eq_false_iff_not, decide_eq_false_iff_not] at q
    omega
  have := nodup_le (-53) 749 _ hn (fun x hx2 => by
    obtain ⟨y, hy, rfl⟩ := List.mem_map.1 hx2
    have := hx y hy
    omega)
  rwa [List.length_map] at this
theorem rlistY1 (l : List Int) (lo hi : Int) (both : Bool) (hl : l.length ≤ 1000000) (i : Nat) (hi' : i < l.length) (hd : ∀ j (hj : j < i), l[j] ≠ l[i]) (ih : Ev (fun k => solsticeref21_list.l0 k l lo hi both ((i + 1 : Nat) : Int)) true) :
    ∀ (m j : Nat), j + m = i → Ev (fun k => solsticeref21_list.l1 k l lo hi both (i : Int) (j : Int)) true := by
  intro m
  induction m with
  | zero =>
    intro j hj
    refine evstep ?_
    simp only [solsticeref21_list.l1]
    refine evn (by omega) ?_
    rw [w64 (by omega) (by omega)]
    exact ih
  | succ m ihm =>
    intro j hj
    have hb := ihm (j + 1) (by omega)
    have r1 : rd l (j : Int) = l[j]'(by omega) := by unfold rd; simp [List.getD, show j < l.length by omega]
    have r2 : rd l (i : Int) = l[i] := by unfold rd; simp [List.getD, hi']
    refine evstep ?_
    simp only [solsticeref21_list.l1]
    refine evp (by omega) (evp (by omega) (evp (by omega) (evp (by omega) (evp (by omega) ?_))))
    refine evn (by rw [r1, r2]; exact hd j (by omega)) ?_
    rw [w64 (by omega) (by omega)]
    exact hb
theorem rlistY (l : List Int) (lo hi : Int) (both : Bool) (hl : l.length ≤ 1000000) (h1 : -1000 ≤ lo) (h2 : lo ≤ 1000) (h3 : -1000 ≤ hi) (h4 : hi ≤ 1000) (h : okList l lo hi both = true) : Ev (fun k => solsticeref21_list.f k l lo hi both) true := by
  obtain ⟨hnd, hin⟩ := okL_in h
  have loop : ∀ (n i : Nat), i + n = l.length → Ev (fun k => solsticeref21_list.l0 k l lo hi both (i : Int)) true := by
    intro n
    induction n with
    | zero =>
      intro i hi'
      refine evstep ?_
      simp only [solsticeref21_list.l0]
      exact evn (by omega) (evs rfl)
    | succ n ih =>
      intro i hi'
      have hlt : i < l.length := by omega
      have r2 : rd l (i : Int) = l[i] := by unfold rd; simp [List.getD, hlt]
      have hb := rlistY1 l lo hi both hl i hlt (fun j hj e => absurd ((List.nodup_iff_pairwise_ne.1 hnd |> List.pairwise_iff_getElem.1) j i (by omega) hlt hj) (fun q => q e)) (ih (i + 1) (by omega)) i 0 (by omega)
      have good : ∀ c : Bool, c = false → Ev (fun k => solsticeref21_list.j1 k l lo hi both (i : Int) c) true := fun c hc => evstep (by subst hc; simp only [solsticeref21_list.j1, Bool.false_eq_true, if_false]; exact hb)
      have c := hin l[i] (List.getElem_mem hlt)
      refine evstep ?_
      simp only [solsticeref21_list.l0, rin21, Option.bind_some]
      refine evp (by omega) (evp (by omega) ?_)
      rw [r2, w64 (x := -hi) (by omega) (by omega), w64 (x := -lo) (by omega) (by omega)]
      refine evif (fun _ => good false rfl) (fun q => ?_)
      rcases c with c | c
      · exact absurd (decide_eq_true c) q
      · refine evp c.1 (good _ ?_)
        rw [decide_eq_true c.2]; rfl
  exact loop l.length 0 (by omega)
theorem ok_refBy {fr : Int} {nw : Nat} {x : S67} (hf : fr ≤ 7) (h : okBy ((decide (fr = 6) || decide (fr = 7)) && decide ((nw : Int) = 0)) x = true) : refBy fr nw x := by
  simp only [okBy, Bool.and_eq_true, Bool.or_eq_true, decide_eq_true_eq] at h
  unfold refBy
  omega
theorem recur_right {r : RR} (h : Right r) (u1 : -9223372036854775808 ≤ r.ua) (u2 : r.ua < 9223372036854775808) : Ev (fun k => solsticeref21_Recur.f k r.fr r.iv r.ct r.un r.ua r.utc r.sec r.mi r.ho r.dy r.md r.yd r.wn r.mo r.sp r.wk) true := by
  have hk := h.ok
  simp only [okRecur, Bool.and_eq_true, decide_eq_true_eq] at hk
  obtain ⟨⟨⟨⟨⟨⟨f1, f2⟩, i1, i2⟩, w1, w2⟩, ⟨⟨⟨⟨⟨⟨⟨p6, p7⟩, p8⟩, p10⟩, p11⟩, p12⟩, p13⟩, p14⟩⟩, ⟨p91, p92⟩, p93⟩, pb⟩ := hk
  have l6 := okL_len p6 (n := 60) (by omega)
  have l7 := okL_len p7 (n := 60) (by omega)
  have l8 := okL_len p8 (n := 24) (by omega)
  have l13 := okL_len p13 (n := 12) (by omega)
  have l10 := okL_len2 p10 (n := 62) (by omega)
  have l11 := okL_len2 p11 (n := 732) (by omega)
  have l12 := okL_len2 p12 (n := 106) (by omega)
  have l14 := okL_len2 p14 (n := 732) (by omega)
  have l9 := days_len p91 p92
  have hen := h.en
  have c0 := h.ct0
  have c1 := h.ct1
  have hbes := beside_iff.1 pb
  unfold solsticeref21_Recur.f
  refine evn (by omega) (evn ?_ (evb (ryears u1 u2) (evn ?_ ?_)))
  · rintro (q | q | q | q | q | q | q)
    · omega
    · omega
    · omega
    · rcases hen with e | e
      · rw [e.1] at q; cases q.2
      · omega
    · rcases hen with e | e
      · rw [e.2.2] at q; cases q.1
      · rw [e.1] at q; cases q.2
    · rcases hen with e | e
      · exact q.2 e.2.1
      · rw [e.1] at q; cases q.1
    · omega
  · rintro ⟨q1, q2⟩
    rcases hen with e | e
    · rw [e.1] at q1; cases q1
    · rw [years_in e.2.2] at q2; cases q2
  refine evb (rlistY r.sec 0 59 false (by omega) (by omega) (by omega) (by omega) (by omega) p6) (evb (rlistY r.mi 0 59 false (by omega) (by omega) (by omega) (by omega) (by omega) p7) (evb (rlistY r.ho 0 23 false (by omega) (by omega) (by omega) (by omega) (by omega) p8) (evb (rlistY r.mo 1 12 false (by omega) (by omega) (by omega) (by omega) (by omega) p13) (evb (rlistY r.md 1 31 true (by omega) (by omega) (by omega) (by omega) (by omega) p10) (evb (rlistY r.yd 1 366 true (by omega) (by omega) (by omega) (by omega) (by omega) p11) (evb (rlistY r.wn 1 53 true (by omega) (by omega) (by omega) (by omega) (by omega) p12) (evb (rlistY r.sp 1 366 true (by omega) (by omega) (by omega) (by omega) (by omega) p14) ?_)))))))
  refine evn (by decide) (evn (fun q => q ⟨fun x hx => ok_refBy f2 (List.all_eq_true.1 p91 x hx), dis47_pw p92⟩) (evn (by omega) (evs ?_)))
  rw [Bool.or_eq_true, decide_eq_true_eq, decide_eq_true_eq]
  omega
/-- The reference's Recur, both ways. -/
theorem rrecur2 (r : RR) (u1 : -9223372036854775808 ≤ r.ua) (u2 : r.ua < 9223372036854775808) : ∃ b, Ev (fun k => solsticeref21_Recur.f k r.fr r.iv r.ct r.un r.ua r.utc r.sec r.mi r.ho r.dy r.md r.yd r.wn r.mo r.sp r.wk) b ∧ (b = true ↔ Right r) := by
  obtain ⟨b, hb, h⟩ := rrecur r u1 u2
  by_cases hr : Right r
  · exact ⟨true, recur_right hr u1 u2, fun _ => hr, fun _ => rfl⟩
  · refine ⟨b, hb, h, fun q => absurd q hr⟩
end Go.Proofs.YtjjaiahfkiojlaaGreat.Pure

namespace Go.Proofs.YtjjaiahfkiojlaaGreat.Pure
open Go.RowKit Go.Proofs.YtjjaiahfkiojlaaGreat.O Go.Proofs.YtjjaiahfkiojlaaGreatW.PrintWords Go.Proofs.YtjjaiahfkiojlaaGreatW.PrintLast
open Go.Proofs.YtjjaiahfkiojlaaGreat.Civ
set_option linter.unusedVariables false
set_option linter.unusedSimpArgs false
/-! A rule's times, by the reference -/
theorem works_stop {r : RR} {st from_ to_ F p : Int} {k : Nat} {S : St} (h : (spanV r p).2.2 ≠ 0) : worksV r st from_ to_ F (k + 1) p S = some S := by
  unfold worksV
  rw [if_pos (Or.inl h)]
theorem end_start {r : RR} (h : Lens r) {st f : Int} (hst : InT st) (l : f ≤ st) : endB r f (perV r st) = false := by
  refine endB_no fun q => ?_
  have s := span_in h hst
  have o := (ok_span q.1).2.1
  have u := q.2
  rw [o] at u
  dsimp only at u
  omega
theorem first_zero {r : RR} {f p : Int} {k : Nat} (h : First r f p k) (h0 : endB r f p = false) : k = 0 := by
  by_cases z : k = 0
  · exact z
  · have := h.2 0 (by omega)
    simp at this
    rw [h0] at this
    cases this
theorem over_nat {r : RR} (h : Right r) {p q : Int} (l : p ≤ q) : ∃ n : Nat, (q - p + r.iv - 1) / r.iv = (n : Int) ∧ q ≤ p + (n : Int) * r.iv ∧ ∀ j : Nat, j < n → p + (j : Int) * r.iv < q := by
  have iv := h.ivp
  have h0 : 0 ≤ (q - p + r.iv - 1) / r.iv := Int.ediv_nonneg (by omega) (by omega)
  refine ⟨((q - p + r.iv - 1) / r.iv).toNat, by omega, ?_, fun j hj => ?_⟩
  · have a := Int.mul_ediv_add_emod (q - p + r.iv - 1) r.iv
    have b := Int.emod_lt_of_pos (q - p + r.iv - 1) iv
    rw [Int.toNat_of_nonneg h0, Int.mul_comm]
    omega
  · have a : (j : Int) + 1 ≤ (q - p + r.iv - 1) / r.iv := by omega
    have b : ((j : Int) + 1) * r.iv ≤ q - p + r.iv - 1 := (Int.le_ediv_iff_mul_le iv).1 a
    rw [Int.add_mul] at b
    omega
theorem gone_jump {r : RR} (h : Right r) {st from_ to_ F : Int} (hst : InT st) (hc : r.ct = 0) {k : Nat} (hk : First r from_ (perV r st) k) : worksV r st from_ to_ F (F.toNat + 2) (perV r st + (k : Int) * r.iv) (tellV from_ to_ ⟨0, 0, []⟩ st) = goneV r st from_ to_ F := by
  have hl := h.lens
  unfold goneV beginV
  by_cases c1 : (spanV r (perV r st)).2.2 = 0
  case neg =>
    have e0 : endB r from_ (perV r st) = false := endB_no fun q => c1 q.1
    obtain rfl := first_zero hk e0
    rw [if_pos (Or.inl c1), decide_eq_false c1, if_neg (by simp)]
    simp only [Int.natCast_zero, Int.zero_mul, Int.add_zero]
    exact works_stop c1
  by_cases c2 : from_ ≤ st
  case pos =>
    obtain rfl := first_zero hk (end_start hl hst c2)
    rw [if_pos (Or.inr (Or.inr c2)), decide_eq_true c1, if_pos rfl]
    simp only [Int.natCast_zero, Int.zero_mul, Int.add_zero]
  rw [if_neg (show ¬ ((spanV r (perV r st)).2.2 ≠ 0 ∨ 0 < r.ct ∨ from_ ≤ st) from fun q => q.elim (fun q => q c1) fun q => q.elim (fun q => by omega) c2)]
  by_cases c3 : InT from_
  case pos =>
    rw [if_pos c3, if_pos rfl]
    have pq := per_mono hl hst c3 (by omega)
    obtain ⟨n, en, n1, n2⟩ := over_nat h pq
    have sq := span_in hl c3
    have so := ok_span c1
    have fn : First r from_ (perV r st) n := by
      refine ⟨endB_no fun q => ?_, fun j hj => ?_⟩
      · have o := (ok_span q.1).2.1
        have u := q.2
        rw [o] at u
        dsimp only at u
        have m := (span_mono (r := r) n1).2
        omega
      · have lt := n2 j hj
        have le : perV r st ≤ perV r st + (j : Int) * r.iv := by
          have : 0 ≤ (j : Int) * r.iv := Int.mul_nonneg (by omega) (by have := h.ivp; omega)
          omega
        have ip := inP_mid so.1 (inP_per hl c3) le (by omega)
        have m1 := (span_mono (r := r) le).1
        have m2 := span_lt r lt
        have m3 := spanW_le r (perV r st + (j : Int) * r.iv)
        have i1 := so.2.2.1
        have fi := c3
        unfold InT at i1 fi
        have a1 : InT (spanW r (perV r st + (j : Int) * r.iv)).1 := by unfold InT; omega
        have a2 : InT (spanW r (perV r st + (j : Int) * r.iv)).2 := by unfold InT; omega
        have e : spanV r (perV r st + (j : Int) * r.iv) = ((spanW r (perV r st + (j : Int) * r.iv)).1, (spanW r (perV r st + (j : Int) * r.iv)).2, 0) := by unfold spanV; rw [if_pos ⟨ip, a1, a2⟩]
        refine endB_iff.2 ⟨by rw [e], ?_⟩
        rw [e]
        dsimp only
        omega
    rw [first_one hk fn]
    dsimp only
    rw [en]
  case neg =>
    rw [if_neg c3, if_neg (by simp)]
    refine works_stop fun q => ?_
    have e := hk.1
    have o := ok_span q
    rw [endB_iff.2 ⟨q, ?_⟩] at e
    · cases e
    rw [o.2.1]
    have i2 := o.2.2.2
    unfold InT at c3 i2 hst
    dsimp only
    omega
theorem gone_count {r : RR} (h : Right r) {st from_ to_ F : Int} (hst : InT st) (hc : 0 < r.ct) : worksV r st from_ to_ F (F.toNat + 2) (perV r st) (tellV from_ to_ ⟨0, 0, []⟩ st) = goneV r st from_ to_ F := by
  unfold goneV beginV
  rw [if_pos (Or.inr (Or.inl hc))]
  by_cases c1 : (spanV r (perV r st)).2.2 = 0
  · rw [decide_eq_true c1, if_pos rfl]
  · rw [decide_eq_false c1, if_neg (by simp)]
    exact works_stop c1
/-- A period by the reference: what is looked at of its times, and what it costs. -/
theorem step_ref {r : RR} {st from_ to_ F A B : Int} {S : St} (h : Tame F S) (hF : F ≤ 200000) : (F < S.sp + 1 + (((letsL r st A B).take ((F - S.sp).toNat + 1)).length : Nat) → stepV r st from_ to_ F S A B = none) ∧
    (¬ F < S.sp + 1 + (((letsL r st A B).take ((F - S.sp).toNat + 1)).length : Nat) → stepV r st from_ to_ F S A B = some (passV r st from_ to_ ⟨S.sp + 1 + (((letsL r st A B).take ((F - S.sp).toNat + 1)).length : Nat), S.ct, S.out⟩ (placesV r ((letsL r st A B).take ((F - S.sp).toNat + 1))))) := by
  obtain ⟨h1, h2, h3, h4, h5⟩ := h
  unfold stepV
  generalize letsL r st A B = L
  have a := List.length_take (i := (F - S.sp).toNat + 1) (l := L)
  have b := List.length_take (i := F.toNat + 1) (l := L)
  constructor
  · intro q
    split
    · rfl
    · rename_i c
      rw [if_pos]
      rw [a] at q
      rw [b]
      omega
  · intro q
    rw [a] at q
    have e1 : L.take ((F - S.sp).toNat + 1) = L := List.take_of_length_le (by omega)
    have e2 : L.take (F.toNat + 1) = L := List.take_of_length_le (by omega)
    rw [e1, e2, if_neg (by omega), if_neg (by omega)]
theorem tame_st {st from_ to_ F : Int} (hF : 0 ≤ F) : Tame F (tellV from_ to_ ⟨0, 0, []⟩ st) := by
  unfold Tame tellV
  dsimp only
  split <;> simp <;> omega
theorem most_w {F s : Int} (h1 : 0 ≤ s) (h2 : s ≤ F) (h3 : F ≤ 200000) : wrap64 (F - s) = (((F - s).toNat : Nat) : Int) ∧ (F - s).toNat ≤ 1000000 := by rw [w64 (by omega) (by omega)]; omega
theorem cost_w {s : Int} {n : Nat} (h1 : 0 ≤ s) (h2 : s ≤ 200000) (h : n ≤ 1000001) : wrap64 (wrap64 (s + 1) + (n : Int)) = s + 1 + (n : Int) := by rw [w64 (x := s + 1) (by omega) (by omega), w64 (by omega) (by omega)]
theorem take_most {l : List Int} {n : Nat} (h : n ≤ 1000000) : (l.take (n + 1)).length ≤ 1000001 := by
  have := List.length_take_le (n + 1) l
  omega
theorem goes_A {r : RR} {st c x : Int} (h : x ≤ st) : true = !goesV r st c x := by unfold goesV; rw [decide_eq_false (by omega)]; rfl
theorem goes_B {r : RR} {st c x : Int} (u : r.un = true) (h : r.ua < x) : true = !goesV r st c x := by unfold goesV; rw [u, decide_eq_false (show ¬ x ≤ r.ua by omega)]; simp
theorem goes_C {r : RR} {st c x : Int} (h : ¬ x ≤ st) (u : r.un = false ∨ (r.un = true ∧ ¬ r.ua < x)) (q : 0 < r.ct) : decide (r.ct ≤ c) = !goesV r st c x := by
  unfold goesV
  rw [decide_eq_true (show st < x by omega), decide_eq_false (show ¬ r.ct = 0 by omega)]
  have e : (!r.un || decide (x ≤ r.ua)) = true := by
    rcases u with u | ⟨u, a⟩
    · rw [u]; rfl
    · rw [u, decide_eq_true (show x ≤ r.ua by omega)]; rfl
  rw [e]
  by_cases z : r.ct ≤ c
  · rw [decide_eq_true z, decide_eq_false (by omega)]; rfl
  · rw [decide_eq_false z, decide_eq_true (by omega)]; rfl
theorem goes_D {r : RR} {st c x : Int} (h : ¬ x ≤ st) (u : r.un = false ∨ (r.un = true ∧ ¬ r.ua < x)) (q : r.ct = 0) : false = !goesV r st c x := by
  unfold goesV
  rw [decide_eq_true (show st < x by omega), decide_eq_true q]
  have e : (!r.un || decide (x ≤ r.ua)) = true := by
    rcases u with u | ⟨u, a⟩
    · rw [u]; rfl
    · rw [u, decide_eq_true (show x ≤ r.ua by omega)]; rfl
  rw [e]
  rfl
theorem ends_A {r : RR} {to_ c a : Int} (h : to_ < a) : endsV r to_ c a = true := by unfold endsV; rw [decide_eq_true h]; rfl
theorem ends_B {r : RR} {to_ c a : Int} (u : r.un = true) (h : r.ua < a) : endsV r to_ c a = true := by unfold endsV; rw [u, decide_eq_true h]; simp
theorem ends_C {r : RR} {to_ c a : Int} (h : ¬ to_ < a) (u : r.un = false ∨ (r.un = true ∧ ¬ r.ua < a)) (q : 0 < r.ct) : decide (r.ct ≤ c) = endsV r to_ c a := by
  unfold endsV
  rw [decide_eq_false h, decide_eq_true q]
  have e : (r.un && decide (r.ua < a)) = false := by
    rcases u with u | ⟨u, b⟩
    · rw [u]; rfl
    · rw [u, decide_eq_false b]; rfl
  rw [e]
  rfl
theorem ends_D {r : RR} {to_ c a : Int} (h : ¬ to_ < a) (u : r.un = false ∨ (r.un = true ∧ ¬ r.ua < a)) (q : ¬ 0 < r.ct) : false = endsV r to_ c a := by
  unfold endsV
  rw [decide_eq_false h, decide_eq_false q]
  have e : (r.un && decide (r.ua < a)) = false := by
    rcases u with u | ⟨u, b⟩
    · rw [u]; rfl
    · rw [u, decide_eq_false b]; rfl
  rw [e]
  rfl
theorem told_st {c : Int} (h : 0 ≤ c) (h' : c ≤ 4611686018427387904) : wrap64 (c + 1) = c + 1 := w64 (by omega) (by omega)
theorem next_w {r : RR} (h : Right r) {p : Int} (hp : (spanV r p).2.2 = 0) : wrap64 (p + r.iv) = p + r.iv := by
  have a := inP_small h.lens (ok_span hp).1
  have b := h.iv
  exact w64 (by omega) (by omega)
theorem fuel_2 {F : Int} {S S2 : St} {k : Nat} (h : Tame F S) (h2 : Tame F S2) (l : S.sp < S2.sp) (hk : (F - S.sp).toNat < k + 1) : (F - S2.sp).toNat < k ∧ (F + 1 - S2.sp).toNat < (F + 1 - S.sp).toNat := by
  obtain ⟨a1, a2, _⟩ := h
  obtain ⟨b1, b2, _⟩ := h2
  omega
theorem fuel_0 {F : Int} {S : St} (h : Tame F S) : (F - S.sp).toNat < F.toNat + 2 := by
  obtain ⟨a1, a2, _⟩ := h
  omega
theorem tell_in {f t x : Int} {S : St} (h : f ≤ x ∧ x ≤ t) : (tellV f t S x).out = S.out ++ [x] := by unfold tellV; rw [if_pos h]
theorem tell_out {f t x : Int} {S : St} (h : ¬ (f ≤ x ∧ x ≤ t)) : (tellV f t S x).out = S.out := by unfold tellV; rw [if_neg h]
end Go.Proofs.YtjjaiahfkiojlaaGreat.Pure
