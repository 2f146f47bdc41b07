/- That the onsets of a name rise, what each of them is, and how many there are, in plain lists. No condition beyond those each lemma names. -/
import Derived.Test.YtdhljcnilclfbaaG413n
import Derived.Test.YtdhljcnilclfbaaOx0
import Derived.Test.YtdhljcnilclfbaaOx50
import Derived.Test.YtdhljcnilclfbaaOx76
import Derived.Test.YtdhljcnilclfbaaOx77
import Derived.Test.YtdhljcnilclfbaaOx78
namespace Go.Proofs.Ytdhljcnilclfbaa.Pure
open Go.RowKit Go.Proofs.Ytdhljcnilclfbaa.O Go.Proofs.YtdhljcnilclfbaaW.PrintWords Go.Proofs.YtdhljcnilclfbaaW.PrintLast
open Go.Proofs.Ytdhljcnilclfbaa.Civ
set_option linter.unusedVariables false
set_option linter.unusedSimpArgs false
theorem rnum_l (y m d b : Int) (hy : 0 ≤ y) (hy' : y ≤ 20000) (hb : -1000000000 ≤ b) (hb' : b ≤ 1000000000) (hm : m ≤ 13) (hd : 0 ≤ d) (hd' : d ≤ 1000000) : ∀ (n : Nat) (j : Int), 1 ≤ j → j + n = m → Ev (fun k => solsticeref01_Number.l0 k y (b + cum y j) j y m d) (b + cum y m + d - 1 - 719528) := by
  intro n
  induction n with
  | zero =>
    intro j h1 h2
    obtain rfl : j = m := by omega
    have hc := cum_bd y j h1 (by omega)
    have hp := lpi_01 y
    refine evstep ?_
    simp only [solsticeref01_Number.l0, Int.lt_irrefl, if_false]
    refine evs ?_
    rw [w64 (x := b + cum y j + d) (by omega) (by omega), w64 (x := b + cum y j + d - 1) (by omega) (by omega), w64 (by omega) (by omega)]
  | succ n ih =>
    intro j h1 h2
    refine evstep ?_
    simp only [solsticeref01_Number.l0, if_pos (show j < m by omega)]
    refine evb (rlen j (by omega) (by omega)) ?_
    have hc := cum_bd y j h1 (by omega)
    have hl := ln_bd y j h1 (by omega)
    have hp := lpi_01 y
    rw [w64 (x := b + cum y j + ln y j) (by omega) (by omega), w64 (x := j + 1) (by omega) (by omega), show b + cum y j + ln y j = b + cum y (j + 1) by rw [cum_succ y j h1 (by omega)]; omega]
    exact ih (j + 1) (by omega) (by omega)
theorem rnum' {y m d : Int} (hy : 0 ≤ y) (hy' : y ≤ 20000) (hm : 1 ≤ m) (hm' : m ≤ 13) (hd : 0 ≤ d) (hd' : d ≤ 1000000) : Ev (fun k => solsticeref01_Number.f k y m d) (num y m d) := by
  have ha : 365 * y + (y + 3) / 4 - (y + 99) / 100 + (y + 399) / 400 = ah y := by unfold ah; omega
  unfold solsticeref01_Number.f
  rw [w64 (x := y + 3) (by omega) (by omega), w64 (x := y + 99) (by omega) (by omega), w64 (x := y + 399) (by omega) (by omega), tdiv_nn 4 (by omega), tdiv_nn 100 (by omega), tdiv_nn 400 (by omega)]
  rw [w64 (x := 365 * y) (by omega) (by omega), w64 (x := (y + 3) / 4) (by omega) (by omega), w64 (x := (y + 99) / 100) (by omega) (by omega), w64 (x := (y + 399) / 400) (by omega) (by omega)]
  rw [w64 (x := 365 * y + (y + 3) / 4) (by omega) (by omega), w64 (x := 365 * y + (y + 3) / 4 - (y + 99) / 100) (by omega) (by omega), w64 (x := 365 * y + (y + 3) / 4 - (y + 99) / 100 + (y + 399) / 400) (by omega) (by omega), ha]
  have h1 := ah_le hy
  rw [ah_0] at h1
  have := rnum_l y m d (ah y) hy hy' (by omega) (by omega) hm' hd hd' (m - 1).toNat 1 (by omega) (by omega)
  rw [cum_1, Int.add_zero] at this
  rwa [show num y m d = ah y + cum y m + d - 1 - 719528 by unfold num; omega]
theorem rnum {y m d : Int} (h : Rt y m d) : Ev (fun k => solsticeref01_Number.f k y m d) (num y m d) := by
  obtain ⟨h1, h2, h3, h4, h5, h6⟩ := h
  have := ln_bd y m h3 h4
  exact rnum' h1 (by omega) h3 (by omega) (by omega) (by omega)
theorem rwd {n : Int} (h : -9223372036854775808 ≤ n) (h' : n < 9223372036854775808) : solsticeref01_Weekday.f n = some (wd n) := by
  unfold solsticeref01_Weekday.f wd
  rw [rdiv (by omega) (by omega) h h']
  simp only [Option.bind_some]
  rw [w64 (by omega) (by omega), tmod_nn 7 (by omega)]
  congr 1
  omega
/-- What the reference's Resolve tells. -/
def rresV (y m kd w d : Int) : Int × Bool := if Rt y m (fday y m kd d) then (fres y m kd w d, true) else (0, false)
theorem rres {y m kd w d : Int} (ho : OnR kd w d) (hy : 1 ≤ y) (hy' : y ≤ 9999) : Ev (fun k => solsticeref01_Resolve.f k y m kd w d) (rresV y m kd w d) := by
  unfold solsticeref01_Resolve.f rresV
  refine evb (rlen m (by omega) (by omega)) ?_
  have hln := ln_nn y m
  have no : ¬ Rt y m (fday y m kd d) → Ev (fun k => solsticeref01_Resolve.j0 k y m (ln y m) true kd w d) (if Rt y m (fday y m kd d) then (fres y m kd w d, true) else (0, false)) := by
    intro h
    rw [if_neg h]
    refine evstep ?_
    simp only [solsticeref01_Resolve.j0, if_true]
    exact Ev.now _
  refine evif (fun h0 => no ?_) (fun h0 => ?_)
  · unfold Rt fday
    split <;> omega
  · have hm : 1 ≤ m ∧ m ≤ 12 := by
      by_cases hc : m < 1 ∨ 12 < m
      · exact absurd (ln_0 y m hc) h0
      · omega
    have hl := ln_bd y m hm.1 hm.2
    have yes : Rt y m (fday y m kd d) → Ev (fun k => solsticeref01_Resolve.j0 k y m (ln y m) false kd w d) (if Rt y m (fday y m kd d) then (fres y m kd w d, true) else (0, false)) := by
      intro h
      rw [if_pos h]
      have hb := num_bd h
      have hu := upw_bd (num y m (fday y m kd d)) w
      have hd := dnw_bd (num y m (fday y m kd d)) w
      have hw := wd_bd (num y m (fday y m kd d))
      refine evstep ?_
      simp only [solsticeref01_Resolve.j0, Bool.false_eq_true, if_false]
      refine evif (fun h2 => ?_) (fun h2 => evif (fun h3 => ?_) (fun h3 => evif (fun h4 => ?_) (fun h4 => ?_)))
      · subst h2
        have hw2 : 0 ≤ w ∧ w ≤ 6 := by unfold OnR at ho; omega
        have e : fday y m 2 d = ln y m := by simp [fday]
        rw [e] at h hb hd hw
        refine evb (rnum h) ?_
        rw [rwd (by omega) (by omega)]
        refine evs ?_
        rw [w64 (x := wd (num y m (ln y m)) - w) (by omega) (by omega), w64 (x := wd (num y m (ln y m)) - w + 7) (by omega) (by omega), tmod_nn 7 (by omega)]
        have e2 : (wd (num y m (ln y m)) - w + 7) % 7 = dnw (num y m (ln y m)) w := by unfold dnw; omega
        rw [e2, w64 (by omega) (by omega)]
        simp [fres, e]
      · subst h3
        have hw2 : 0 ≤ w ∧ w ≤ 6 := by unfold OnR at ho; omega
        have e : fday y m 3 d = d := by simp [fday]
        rw [e] at h hb hu hw
        refine evb (rnum h) ?_
        rw [rwd (by omega) (by omega)]
        refine evs ?_
        rw [w64 (x := w - wd (num y m d)) (by omega) (by omega), w64 (x := w - wd (num y m d) + 7) (by omega) (by omega), tmod_nn 7 (by omega)]
        have e2 : (w - wd (num y m d) + 7) % 7 = upw (num y m d) w := by unfold upw; omega
        rw [e2, w64 (by omega) (by omega)]
        simp [fres]
      · subst h4
        have hw2 : 0 ≤ w ∧ w ≤ 6 := by unfold OnR at ho; omega
        have e : fday y m 4 d = d := by simp [fday]
        rw [e] at h hb hd hw
        refine evb (rnum h) ?_
        rw [rwd (by omega) (by omega)]
        refine evs ?_
        rw [w64 (x := wd (num y m d) - w) (by omega) (by omega), w64 (x := wd (num y m d) - w + 7) (by omega) (by omega), tmod_nn 7 (by omega)]
        have e2 : (wd (num y m d) - w + 7) % 7 = dnw (num y m d) w := by unfold dnw; omega
        rw [e2, w64 (by omega) (by omega)]
        simp [fres, e]
      · obtain rfl : kd = 1 := by unfold OnR at ho; omega
        have e : fday y m 1 d = d := by simp [fday]
        rw [e] at h
        refine evb (rnum h) (evs ?_)
        simp [fres]
    refine evif (fun h2 => ?_) (fun h2 => ?_)
    · refine yes ?_
      subst h2
      simp only [fday, if_true]
      exact ⟨by omega, by omega, hm.1, hm.2, by omega, by omega⟩
    · have e : fday y m kd d = d := by simp [fday, h2]
      by_cases hd : d > ln y m
      · simp only [decide_eq_true hd]
        refine no ?_
        rw [e]; unfold Rt; omega
      · simp only [decide_eq_false hd]
        refine yes ?_
        rw [e]
        exact ⟨by omega, by omega, hm.1, hm.2, by unfold OnR at ho; omega, by omega⟩
/-! What an onset is, and that they rise -/
/-- An onset of a rule of that name. -/
def OnsetOf (l : List S43) (name : ByteArray) (last i0 : Int) (q : S37) : Prop := ∃ (j : Nat) (hj : j < l.length), q.f0 = i0 + (j : Int) ∧ l[j].f0.toList = name.toList ∧ l[j].f1 ≤ q.f1 ∧ q.f1 ≤ min l[j].f2 last ∧ (resV q.f1 l[j].f3 l[j].f4.f0 l[j].f4.f1 l[j].f4.f2).2 = 0 ∧ q.f2 = wrap64 (wrap64 ((resV q.f1 l[j].f3 l[j].f4.f0 l[j].f4.f1 l[j].f4.f2).1 * 86400) + l[j].f5.f0)
def before37 (a b : S37) : Prop := a.f0 < b.f0 ∨ (a.f0 = b.f0 ∧ a.f1 < b.f1)
theorem yrs_spec (r : S43) (i : Int) : ∀ (n : Nat) (y : Int), (yrs r i n y).Pairwise before37 ∧ ∀ q ∈ yrs r i n y, q.f0 = i ∧ y ≤ q.f1 ∧ q.f1 < y + n ∧ (resV q.f1 r.f3 r.f4.f0 r.f4.f1 r.f4.f2).2 = 0 ∧ q.f2 = wrap64 (wrap64 ((resV q.f1 r.f3 r.f4.f0 r.f4.f1 r.f4.f2).1 * 86400) + r.f5.f0)
  | 0, y => ⟨.nil, fun q hq => by simp [yrs] at hq⟩
  | n + 1, y => by
    obtain ⟨h1, h2⟩ := yrs_spec r i n (y + 1)
    unfold yrs
    refine ⟨List.pairwise_append.2 ⟨?_, h1, fun a ha b hb => ?_⟩, fun q hq => ?_⟩
    · split
      · exact List.pairwise_singleton _ _
      · exact .nil
    · split at ha
      · obtain rfl := List.mem_singleton.1 ha
        have := h2 b hb
        exact Or.inr ⟨this.1.symm, by show y < b.f1; omega⟩
      · cases ha
    · rcases List.mem_append.1 hq with hq | hq
      · split at hq
        · rename_i hc
          obtain rfl := List.mem_singleton.1 hq
          have hc' : ((resV y r.f3 r.f4.f0 r.f4.f1 r.f4.f2).2 == 0) = true := hc
          exact ⟨rfl, Int.le_refl _, by show y < _; omega, by simpa using hc', rfl⟩
        · cases hq
      · obtain ⟨a, b, c, d⟩ := h2 q hq
        exact ⟨a, by omega, by omega, d⟩
theorem gen_spec (name : ByteArray) (last : Int) : ∀ (l : List S43) (i : Int), (gen name last l i).Pairwise before37 ∧ ∀ q ∈ gen name last l i, i ≤ q.f0 ∧ OnsetOf l name last i q
  | [], i => ⟨.nil, fun q hq => by simp [gen] at hq⟩
  | r :: rs, i => by
    obtain ⟨h1, h2⟩ := gen_spec name last rs (i + 1)
    unfold gen
    refine ⟨List.pairwise_append.2 ⟨?_, h1, fun a ha b hb => ?_⟩, fun q hq => ?_⟩
    · split
      · exact (yrs_spec r i _ _).1
      · exact .nil
    · split at ha
      · have := ((yrs_spec r i _ _).2 a ha).1
        have := (h2 b hb).1
        exact Or.inl (by omega)
      · cases ha
    · rcases List.mem_append.1 hq with hq | hq
      · split at hq
        · rename_i hc
          obtain ⟨a, b, c, d, e⟩ := (yrs_spec r i _ _).2 q hq
          exact ⟨by omega, 0, Nat.succ_pos _, by rw [a]; simp, hc, b, by show q.f1 ≤ min r.f2 last; omega, d, e⟩
        · cases hq
      · obtain ⟨a, j, hj, b, c⟩ := h2 q hq
        exact ⟨by omega, j + 1, Nat.succ_lt_succ hj, by rw [b]; omega, c⟩
/-- One ahead of another, as the law asks. -/
def rise37 (a b : S37) : Prop := a.f2 < b.f2 ∨ (a.f2 = b.f2 ∧ (a.f0 < b.f0 ∨ (a.f0 = b.f0 ∧ a.f1 < b.f1)))
theorem onsets_rise (name : ByteArray) (last : Int) (l : List S43) : (srt37 (gen name last l 0)).Pairwise rise37 ∧ ∀ q ∈ srt37 (gen name last l 0), OnsetOf l name last 0 q := by
  obtain ⟨h1, h2⟩ := gen_spec name last l 0
  refine ⟨?_, fun q hq => (h2 q ((srt37_perm _).mem_iff.1 hq)).2⟩
  have h3 : (gen name last l 0).Pairwise (fun a b => ¬ (a.f0 = b.f0 ∧ a.f1 = b.f1)) := h1.imp (fun {a b} h => by unfold before37 at h; omega)
  have h4 := ((srt37_perm (gen name last l 0)).pairwise_iff (R := fun a b => ¬ (a.f0 = b.f0 ∧ a.f1 = b.f1)) (fun {a b} h => by omega)).2 h3
  refine ((srt37_sorted (gen name last l 0)).and h4).imp (fun {a b} h => ?_)
  obtain ⟨q1, q2⟩ := h
  unfold le37 lt37b at q1
  unfold rise37
  simp only [Bool.or_eq_false_iff, Bool.and_eq_false_iff, decide_eq_false_iff_not] at q1
  omega
/-- How many there are. -/
def cntY (r : S43) : Nat → Int → Nat
  | 0, _ => 0
  | n + 1, y => (if (resV y r.f3 r.f4.f0 r.f4.f1 r.f4.f2).2 = 0 then 1 else 0) + cntY r n (y + 1)
def cntR (name : ByteArray) (last : Int) (r : S43) : Nat := if r.f0.toList = name.toList then cntY r (min r.f2 last - r.f1 + 1).toNat r.f1 else 0
def cntL (name : ByteArray) (last : Int) : List S43 → Nat
  | [] => 0
  | r :: rs => cntR name last r + cntL name last rs
theorem yrs_cnt (r : S43) (i : Int) : ∀ (n : Nat) (y : Int), (yrs r i n y).length = cntY r n y
  | 0, _ => rfl
  | n + 1, y => by
    unfold yrs cntY
    rw [List.length_append, yrs_cnt r i n (y + 1)]
    have e : ((oneV r i y).2.2.2 = true) ↔ (resV y r.f3 r.f4.f0 r.f4.f1 r.f4.f2).2 = 0 := by
      show (((resV y r.f3 r.f4.f0 r.f4.f1 r.f4.f2).2 == 0) = true) ↔ _
      simp
    by_cases c : (resV y r.f3 r.f4.f0 r.f4.f1 r.f4.f2).2 = 0
    · rw [if_pos (e.2 c), if_pos c]; rfl
    · rw [if_neg (fun q => c (e.1 q)), if_neg c]; rfl
theorem gen_cnt (name : ByteArray) (last : Int) : ∀ (l : List S43) (i : Int), (gen name last l i).length = cntL name last l
  | [], _ => rfl
  | r :: rs, i => by
    unfold gen cntL cntR
    rw [List.length_append, gen_cnt name last rs (i + 1)]
    split
    · rw [yrs_cnt]
    · rfl
theorem cntL_take (name : ByteArray) (last : Int) (l : List S43) {i : Nat} (hi : i < l.length) : cntL name last (l.take (i + 1)) = cntL name last (l.take i) + cntR name last l[i] := by
  have h : ∀ (a : List S43) (r : S43), cntL name last (a ++ [r]) = cntL name last a + cntR name last r := by
    intro a r
    induction a with
    | nil => simp [cntL]
    | cons x a ih => simp only [List.cons_append, cntL, ih]; omega
  rw [List.take_succ_eq_append_getElem hi, h]
theorem cntY_succ (r : S43) : ∀ (n : Nat) (y : Int), cntY r (n + 1) y = cntY r n y + (if (resV (y + n) r.f3 r.f4.f0 r.f4.f1 r.f4.f2).2 = 0 then 1 else 0)
  | 0, y => by simp [cntY]
  | n + 1, y => by
    rw [cntY, cntY_succ r n (y + 1)]
    rw [show cntY r (n + 1) y = (if (resV y r.f3 r.f4.f0 r.f4.f1 r.f4.f2).2 = 0 then 1 else 0) + cntY r n (y + 1) from rfl]
    rw [show y + 1 + (n : Int) = y + ((n + 1 : Nat) : Int) by omega]
    omega
theorem cntY_le (r : S43) : ∀ (n : Nat) (y : Int), cntY r n y ≤ n
  | 0, _ => Nat.le_refl _
  | n + 1, y => by
    have := cntY_le r n (y + 1)
    unfold cntY
    split <;> omega
/-- In how many years of its a rule of that name is looked at. -/
def mR (name : ByteArray) (last : Int) (r : S43) : Nat := if r.f0.toList = name.toList then (min r.f2 last - r.f1 + 1).toNat else 0
theorem cnt_m (name : ByteArray) (last : Int) (r : S43) : cntR name last r = cntY r (mR name last r) r.f1 := by
  unfold cntR mR
  split <;> rfl
theorem cntR_le (name : ByteArray) (last : Int) {r : S43} (h : RuleOk r) : cntR name last r ≤ 9999 := by
  have h1 := cntY_le r (mR name last r) r.f1
  have h2 : mR name last r ≤ 9999 := by
    have := h.fr
    have := h.too
    unfold mR
    split <;> omega
  rw [cnt_m]
  omega
theorem cntL_le (name : ByteArray) (last : Int) : ∀ (l : List S43), (∀ r ∈ l, RuleOk r) → cntL name last l ≤ 10000 * l.length
  | [], _ => Nat.le_refl _
  | r :: rs, h => by
    have h1 := cntL_le name last rs (fun x hx => h x (List.mem_cons_of_mem _ hx))
    have h2 := cntR_le name last (h r List.mem_cons_self)
    rw [cntL, List.length_cons]
    omega
theorem res_iff {y m kd w d : Int} (ho : OnR kd w d) (h1 : 1 ≤ y) (h2 : y ≤ 9999) : (rresV y m kd w d).2 = decide ((resV y m kd w d).2 = 0) := by
  unfold rresV resV
  rw [if_pos ho, if_neg (show ¬ (y < 1 ∨ 9999 < y) by omega)]
  split <;> simp
end Go.Proofs.Ytdhljcnilclfbaa.Pure
