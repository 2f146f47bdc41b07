/- The check of rules that may be wrong, the first letter, and lists that rise, in plain lists. No condition beyond those each lemma names. -/
import Derived.Test.YtdhljcnilclfbaaG413q
import Derived.Test.YtdhljcnilclfbaaOx0
import Derived.Test.YtdhljcnilclfbaaOx19
import Derived.Test.YtdhljcnilclfbaaOx20
import Derived.Test.YtdhljcnilclfbaaOx23
import Derived.Test.YtdhljcnilclfbaaOx50
import Derived.Test.YtdhljcnilclfbaaOx55
import Derived.Test.YtdhljcnilclfbaaOx56
import Derived.Test.YtdhljcnilclfbaaOx57
import Derived.Test.YtdhljcnilclfbaaOx59
namespace Go.Proofs.Ytdhljcnilclfbaa.Pure
open Go.RowKit Go.Proofs.Ytdhljcnilclfbaa.O Go.Proofs.YtdhljcnilclfbaaW.PrintWords Go.Proofs.YtdhljcnilclfbaaW.PrintLast
open Go.Proofs.Ytdhljcnilclfbaa.Civ
set_option linter.unusedVariables false
set_option linter.unusedSimpArgs false
theorem wakes13 : Ev (fun k => solsticelaw13_wakes.f k) true := Ev.of solsticelaw13_wakes.mono (k := 60) (by decide +kernel)
/-! Rules that may be wrong -/
theorem rule_day_ev (r : S43) : Ev (fun k => rule_day.f k r.f0 r.f1 r.f2 r.f3 r.f4.f0 r.f4.f1 r.f4.f2 r.f5.f0 r.f5.f1 r.f6 r.f7) (decide (r.f4.f0 = 2 ∨ r.f4.f2 ≤ mostD r)) := by
  unfold rule_day.f
  refine evif (fun h1 => evs ?_) (fun h1 => evb (clen 2000 r.f3) ?_)
  · rw [eq_comm, decide_eq_true_eq]; exact Or.inl h1
  have e : ∀ m, mostD r = m → decide (r.f4.f2 ≤ m) = decide (r.f4.f0 = 2 ∨ r.f4.f2 ≤ mostD r) := fun m hm => by rw [hm, decide_eq_decide]; omega
  refine evif (fun ha => evif (fun hb => evif (fun hc => evs ?_) (fun hc => evs ?_)) (fun hb => evs ?_)) (fun ha => evs ?_)
  · have h28 : wrap64 (ln 2000 r.f3 - 1) = 28 := by rw [ha]; decide +kernel
    rw [h28]
    exact e 28 (by unfold mostD; rw [if_pos ⟨ha, hb, hc⟩])
  · exact e _ (by unfold mostD; rw [if_neg (fun h => hc h.2.2)])
  · exact e _ (by unfold mostD; rw [if_neg (fun h => hb h.2.1)])
  · exact e _ (by unfold mostD; rw [if_neg (fun h => ha h.1)])
theorem rule_wrong {r : S43} (h : ¬ RuleOk r) : Ev (fun k => rule_Check.f k r.f0 r.f1 r.f2 r.f3 r.f4.f0 r.f4.f1 r.f4.f2 r.f5.f0 r.f5.f1 r.f6 r.f7) 10 := by
  have j2 : ∀ b3 b4 b5 : Bool, (b3 = true → (1 ≤ r.f1 ∧ r.f1 ≤ 9999) ∧ r.f1 ≤ r.f2 ∧ r.f2 ≤ 9999) → (b4 = true → 1 ≤ r.f3 ∧ r.f3 ≤ 12) → (b5 = true → -86399 ≤ r.f6 ∧ r.f6 ≤ 86399) → Ev (fun k => rule_Check.j2 k b3 b4 b5 r.f0 r.f1 r.f2 r.f3 r.f4.f0 r.f4.f1 r.f4.f2 r.f5.f0 r.f5.f1 r.f6 r.f7) 10 := by
    intro b3 b4 b5 h3 h4 h5
    refine evstep ?_
    simp only [rule_Check.j2]
    refine evb (rule_name r.f0) ?_
    cases n : nameB r.f0 with
    | false => simp only [Bool.false_eq_true, if_false]; exact Ev.now _
    | true =>
    simp only [if_true]
    cases b3 with
    | false => simp only [Bool.false_eq_true, if_false]; exact Ev.now _
    | true =>
    simp only [if_true]
    cases b4 with
    | false => simp only [Bool.false_eq_true, if_false]; exact Ev.now _
    | true =>
    simp only [if_true]
    have hw := wcheck r.f4.f0 r.f4.f1 r.f4.f2
    by_cases ho : OnR r.f4.f0 r.f4.f1 r.f4.f2
    case neg =>
      rw [if_neg ho] at hw
      exact evb hw (by simp only [if_neg (show ¬ (8 : Int) = 0 by omega)]; exact Ev.now _)
    rw [if_pos ho] at hw
    refine evb hw ?_
    simp only [if_true]
    refine evb (rule_day_ev r) ?_
    by_cases hd : r.f4.f0 = 2 ∨ r.f4.f2 ≤ mostD r
    case neg => simp only [decide_eq_false hd, Bool.false_eq_true, if_false]; exact Ev.now _
    simp only [decide_eq_true hd, if_true, acheck, Option.bind_some]
    by_cases ha : -345600 ≤ r.f5.f0 ∧ r.f5.f0 ≤ 345600 ∧ 1 ≤ r.f5.f1 ∧ r.f5.f1 ≤ 3
    case neg => simp only [if_neg ha, if_neg (show ¬ (9 : Int) = 0 by omega)]; exact Ev.now _
    simp only [if_pos ha, if_true]
    cases b5 with
    | false => simp only [Bool.false_eq_true, if_false]; exact Ev.now _
    | true =>
    simp only [if_true]
    refine evb (rule_letter r.f7) ?_
    cases l : letB r.f7 with
    | false => simp only [Bool.false_eq_true, if_false]; exact Ev.now _
    | true => exact absurd ⟨n, (h3 rfl).1, (h3 rfl).2, h4 rfl, ho, ha, h5 rfl, l, hd⟩ h
  have j1 : ∀ b3 b4 : Bool, (b3 = true → (1 ≤ r.f1 ∧ r.f1 ≤ 9999) ∧ r.f1 ≤ r.f2 ∧ r.f2 ≤ 9999) → (b4 = true → 1 ≤ r.f3 ∧ r.f3 ≤ 12) → Ev (fun k => rule_Check.j1 k b3 b4 r.f0 r.f1 r.f2 r.f3 r.f4.f0 r.f4.f1 r.f4.f2 r.f5.f0 r.f5.f1 r.f6 r.f7) 10 := by
    intro b3 b4 h3 h4
    refine evstep ?_
    simp only [rule_Check.j1]
    refine evif (fun q => j2 _ _ _ h3 h4 (fun p => ?_)) (fun q => j2 _ _ _ h3 h4 (fun p => by cases p))
    have := of_decide_eq_true p
    omega
  have j0 : ∀ b3 : Bool, (b3 = true → (1 ≤ r.f1 ∧ r.f1 ≤ 9999) ∧ r.f1 ≤ r.f2 ∧ r.f2 ≤ 9999) → Ev (fun k => rule_Check.j0 k b3 r.f0 r.f1 r.f2 r.f3 r.f4.f0 r.f4.f1 r.f4.f2 r.f5.f0 r.f5.f1 r.f6 r.f7) 10 := by
    intro b3 h3
    refine evstep ?_
    simp only [rule_Check.j0]
    refine evif (fun q => j1 _ _ h3 (fun p => ?_)) (fun q => j1 _ _ h3 (fun p => by cases p))
    have := of_decide_eq_true p
    omega
  unfold rule_Check.f
  refine evif (fun h1 => evif (fun h2 => j0 _ (fun p => ?_)) (fun h2 => j0 _ (fun p => by cases p))) (fun h1 => j0 _ (fun p => by cases p))
  have := of_decide_eq_true p
  omega
theorem wrong_l2 (l : List S43) (hl : l.length ≤ 300) : ∀ (n i : Nat), i + n = l.length → (∃ (j : Nat) (hj : j < l.length), i ≤ j ∧ ¬ RuleOk l[j]) → Ev (fun k => api_Rule_33.l0 k l i) true
  | 0, i, h, ⟨j, hj, hij, _⟩ => absurd hj (by omega)
  | n + 1, i, h, ⟨j, hj, hij, hw⟩ => by
    have hi : i < l.length := by omega
    refine evstep ?_
    simp only [api_Rule_33.l0, if_pos (show ((i : Nat) : Int) < (l.length : Int) by omega), if_pos (show (0 : Int) ≤ ((i : Nat) : Int) by omega), rd43 l i hi, wsuc i (by omega)]
    by_cases ho : RuleOk l[i]
    · have hne : i ≠ j := fun e => by subst e; exact hw ho
      have ih := wrong_l2 l hl n (i + 1) (by omega) ⟨j, hj, by omega, hw⟩
      exact evb (rule_check ho) (by simpa using ih)
    · exact evb (rule_wrong ho) (by simp only [if_neg (show ¬ (10 : Int) = 0 by omega)]; first | exact Ev.now _ | (exact evs (by omega)) | (simp; exact Ev.now _))
theorem check_long (l : List S43) (last : Int) (hl : 200 < l.length) : Ev (fun k => onset_check.f k l last) 2 := by
  unfold onset_check.f
  simp only [if_pos (show (l.length : Int) > 200 by omega)]
  exact Ev.now _
theorem check_wrong (l : List S43) (last : Int) (hl : l.length ≤ 200) (h : ∃ (j : Nat) (hj : j < l.length), ¬ RuleOk l[j]) : Ev (fun k => onset_check.f k l last) 10 := by
  obtain ⟨j, hj, hw⟩ := h
  unfold onset_check.f
  simp only [if_neg (show ¬ (l.length : Int) > 200 by omega)]
  refine evb (g := fun k => api_Rule_33.f k l) (wrong_l2 l (by omega) l.length 0 (by omega) ⟨j, hj, Nat.zero_le _, hw⟩) ?_
  simp only [if_true]
  exact Ev.now _
theorem check_year (l : List S43) {last : Int} (hl : l.length ≤ 200) (h : last < 1 ∨ 9999 < last) (hok : ∀ j (hj : j < l.length), RuleOk l[j]) : Ev (fun k => onset_check.f k l last) 23 := by
  unfold onset_check.f
  simp only [if_neg (show ¬ (l.length : Int) > 200 by omega)]
  refine evb (g := fun k => api_Rule_33.f k l) (wrong_l l (by omega) hok l.length 0 (by omega)) ?_
  simp only [Bool.false_eq_true, if_false]
  refine evif (fun _ => Ev.now _) (fun h1 => evif (fun _ => Ev.now _) (fun h2 => absurd h (by omega)))
theorem of_err (name : ByteArray) {last e : Int} {l : List S43} (he : e ≠ 0) (h : Ev (fun k => onset_check.f k l last) e) : Ev (fun k => onset_Of.f k l name last) ([], e) := by
  unfold onset_Of.f
  refine evb h ?_
  simp only [if_neg he]
  exact Ev.now _
theorem letter_err (name : ByteArray) {e : Int} {l : List S43} (he : e ≠ 0) (h : Ev (fun k => onset_check.f k l 9999) e) : Ev (fun k => onset_Letter.f k l name) (⟨#[]⟩, e) := by
  unfold onset_Letter.f
  refine evb h ?_
  simp only [if_neg he]
  exact Ev.now _
/-! The first letter -/
def locV (r : S43) (y : Int) : Int := wrap64 (wrap64 ((resV y r.f3 r.f4.f0 r.f4.f1 r.f4.f2).1 * 86400) + r.f5.f0)
def fstY (r : S43) : Nat → Int → Option (Int × Int)
  | 0, _ => none
  | n + 1, y => if (resV y r.f3 r.f4.f0 r.f4.f1 r.f4.f2).2 = 0 then some (y, locV r y) else fstY r n (y + 1)
def firstR (i : Int) : Option (Int × Int) → Int × Int × Int × Bool
  | none => (0, 0, 0, false)
  | some p => (i, p.1, p.2, true)
theorem first_l (r : S43) (i : Int) (h2 : r.f2 ≤ 9999) : ∀ (n : Nat) (y : Int), y + n = r.f2 + 1 → 1 ≤ y → Ev (fun k => onset_first.l0 k i y r.f0 r.f1 r.f2 r.f3 r.f4.f0 r.f4.f1 r.f4.f2 r.f5.f0 r.f5.f1 r.f6 r.f7) (firstR i (fstY r n y))
  | 0, y, h, h1 => by
    refine evstep ?_
    simp only [onset_first.l0, if_neg (show ¬ y ≤ r.f2 by omega)]
    exact Ev.now _
  | n + 1, y, h, h1 => by
    have ih := first_l r i h2 n (y + 1) (by omega) (by omega)
    refine evstep ?_
    simp only [onset_first.l0, if_pos (show y ≤ r.f2 by omega)]
    refine evb (one_ev r i y) ?_
    unfold fstY
    by_cases c : (resV y r.f3 r.f4.f0 r.f4.f1 r.f4.f2).2 = 0
    · have e : (oneV r i y).2.2.2 = true := by show ((resV y r.f3 r.f4.f0 r.f4.f1 r.f4.f2).2 == 0) = true; rw [c]; rfl
      rw [if_pos c]
      simp only [if_pos e]
      exact Ev.now _
    · have e : ¬ (oneV r i y).2.2.2 = true := by show ¬ ((resV y r.f3 r.f4.f0 r.f4.f1 r.f4.f2).2 == 0) = true; simpa using c
      rw [if_neg c]
      simp only [if_neg e]
      rw [w64 (by omega) (by omega)]
      exact ih
def letS (name : ByteArray) (s : Int × ByteArray × Bool) (r : S43) : Int × ByteArray × Bool :=
  if r.f0.toList = name.toList then (if r.f6 = 0 then (match fstY r (r.f2 - r.f1 + 1).toNat r.f1 with
    | none => s
    | some p => if s.2.2 = true then (if p.2 < s.1 then (p.2, r.f7, true) else s) else (p.2, r.f7, true)) else s) else s
def letV (name : ByteArray) (l : List S43) (s : Int × ByteArray × Bool) : Int × ByteArray × Bool := l.foldl (letS name) s
theorem letter_l (name : ByteArray) (l : List S43) (hl : l.length ≤ 300) (hok : ∀ j (hj : j < l.length), RuleOk l[j]) : ∀ (n i : Nat) (s : Int × ByteArray × Bool) (b0 b1 : Int), i + n = l.length →
    Ev (fun k => onset_Letter.l0 k name s.2.1 s.2.2 l (l.length : Int) i b0 b1 s.1) ((letV name (l.drop i) s).2.1, 0)
  | 0, i, s, b0, b1, h => by
    refine evstep ?_
    rw [List.drop_eq_nil_of_le (by omega)]
    simp only [onset_Letter.l0, if_neg (show ¬ ((i : Nat) : Int) < (l.length : Int) by omega)]
    exact Ev.now _
  | n + 1, i, s, b0, b1, h => by
    have hi : i < l.length := by omega
    have ih := fun s b0 b1 => letter_l name l hl hok n (i + 1) s b0 b1 (by omega)
    have hd : l.drop i = l[i] :: l.drop (i + 1) := List.drop_eq_getElem_cons hi
    have hr := hok i hi
    refine evstep ?_
    rw [hd]
    simp only [onset_Letter.l0, if_pos (show ((i : Nat) : Int) < (l.length : Int) by omega), if_pos (show (0 : Int) ≤ ((i : Nat) : Int) by omega), rd43 l i hi]
    generalize l[i] = r at hr ⊢
    have step : letV name (r :: l.drop (i + 1)) s = letV name (l.drop (i + 1)) (letS name s r) := rfl
    rw [step]
    have skip : letS name s r = s → Ev (fun k => onset_Letter.j1 k name s.2.1 s.2.2 ((i : Nat) : Int) l (l.length : Int) ((i : Nat) : Int) true b0 b1 s.1 r.f0 r.f1 r.f2 r.f3 r.f4.f0 r.f4.f1 r.f4.f2 r.f5.f0 r.f5.f1 r.f6 r.f7) ((letV name (l.drop (i + 1)) (letS name s r)).2.1, 0) := fun e => by
      rw [e]
      refine evstep ?_
      simp only [onset_Letter.j1, if_true, wsuc i (by omega)]
      exact ih s b0 b1
    refine evif (fun hn => ?_) (fun hn => skip (by unfold letS; rw [if_neg hn]))
    by_cases h6 : r.f6 = 0
    case neg =>
      have e : (r.f6 != 0) = true := bne_iff_ne.mpr h6
      rw [e]
      exact skip (by unfold letS; rw [if_pos hn, if_neg h6])
    have e : (r.f6 != 0) = false := bne_eq_false_iff_eq.mpr h6
    rw [e]
    refine evstep ?_
    simp only [onset_Letter.j1, Bool.false_eq_true, if_false, wsuc i (by omega)]
    have hf : Ev (fun k => onset_first.f k r.f0 r.f1 r.f2 r.f3 r.f4.f0 r.f4.f1 r.f4.f2 r.f5.f0 r.f5.f1 r.f6 r.f7 ((i : Nat) : Int)) (firstR i (fstY r (r.f2 - r.f1 + 1).toNat r.f1)) := by
      unfold onset_first.f
      exact first_l r i hr.too.2 _ _ (by have := hr.too; omega) hr.fr.1
    refine evb hf ?_
    have es : letS name s r = (match fstY r (r.f2 - r.f1 + 1).toNat r.f1 with
      | none => s
      | some p => if s.2.2 = true then (if p.2 < s.1 then (p.2, r.f7, true) else s) else (p.2, r.f7, true)) := by unfold letS; rw [if_pos hn, if_pos h6]
    rw [es]
    cases hq : fstY r (r.f2 - r.f1 + 1).toNat r.f1 with
    | none =>
      simp only [firstR, Bool.false_eq_true, if_false]
      exact ih s b0 b1
    | some p =>
      simp only [firstR, if_true]
      refine evif (fun hm => evif (fun hp => ?_) (fun hp => ?_)) (fun hm => ?_)
      · rw [if_pos hm, if_pos hp]
        exact ih (p.2, r.f7, true) _ _
      · rw [if_pos hm, if_neg hp]
        exact ih s b0 b1
      · rw [if_neg hm]
        exact ih (p.2, r.f7, true) _ _
theorem letter_ev (name : ByteArray) (l : List S43) (hl : l.length ≤ 200) (hok : ∀ j (hj : j < l.length), RuleOk l[j]) : Ev (fun k => onset_Letter.f k l name) ((letV name l (0, ⟨#[]⟩, false)).2.1, 0) := by
  unfold onset_Letter.f
  refine evb (check_ok l hl (by omega) (by omega) hok) ?_
  simp only [if_true]
  exact letter_l name l (by omega) hok l.length 0 (0, ⟨#[]⟩, false) 0 0 (by omega)
theorem letV_take (name : ByteArray) (l : List S43) (s : Int × ByteArray × Bool) {i : Nat} (hi : i < l.length) : letV name (l.take (i + 1)) s = letS name (letV name (l.take i) s) l[i] := by
  unfold letV
  rw [List.take_succ_eq_append_getElem hi, List.foldl_append]
  rfl
theorem res_fst {y m kd w d : Int} (ho : OnR kd w d) (h1 : 1 ≤ y) (h2 : y ≤ 9999) (h : (resV y m kd w d).2 = 0) : (rresV y m kd w d).1 = (resV y m kd w d).1 := by
  unfold resV at h ⊢
  rw [if_pos ho, if_neg (show ¬ (y < 1 ∨ 9999 < y) by omega)] at h ⊢
  unfold rresV
  by_cases hc : Rt y m (fday y m kd d)
  · rw [if_pos hc, if_pos hc]
  · rw [if_neg hc] at h
    exact absurd h (by decide)
/-! Sorted lists -/
def le2 (x y : S37) : Bool := decide (x.f2 ≤ y.f2)
theorem rise_le {x y : S37} (h : rise37 x y) : x.f2 ≤ y.f2 := by unfold rise37 at h; omega
theorem merge_rise : ∀ (a b : List S37), a.Pairwise rise37 → b.Pairwise rise37 → (∀ x ∈ a, ∀ y ∈ b, before37 x y) → (List.merge a b le2).Pairwise rise37
  | [], b, _, hb, _ => by rw [List.nil_merge]; exact hb
  | x :: a, [], ha, _, _ => by rw [List.merge_right]; exact ha
  | x :: a, y :: b, ha, hb, hab => by
    rw [List.cons_merge_cons]
    obtain ⟨ha1, ha2⟩ := List.pairwise_cons.1 ha
    obtain ⟨hb1, hb2⟩ := List.pairwise_cons.1 hb
    by_cases hc : x.f2 ≤ y.f2
    · rw [if_pos (show le2 x y = true from decide_eq_true hc)]
      refine List.pairwise_cons.2 ⟨fun z hz => ?_, merge_rise a (y :: b) ha2 hb (fun p hp q hq => hab p (List.mem_cons_of_mem _ hp) q hq)⟩
      rcases List.mem_merge.1 hz with hz | hz
      · exact ha1 z hz
      · have h1 : y.f2 ≤ z.f2 := by
          rcases List.mem_cons.1 hz with rfl | hz
          · exact Int.le_refl _
          · exact rise_le (hb1 z hz)
        have h2 := hab x List.mem_cons_self z hz
        unfold before37 at h2
        unfold rise37
        omega
    · rw [if_neg (show ¬ le2 x y = true from fun q => hc (of_decide_eq_true q))]
      refine List.pairwise_cons.2 ⟨fun z hz => ?_, merge_rise (x :: a) b ha hb2 (fun p hp q hq => hab p hp q (List.mem_cons_of_mem _ hq))⟩
      rcases List.mem_merge.1 hz with hz | hz
      · have h1 : x.f2 ≤ z.f2 := by
          rcases List.mem_cons.1 hz with rfl | hz
          · exact Int.le_refl _
          · exact rise_le (ha1 z hz)
        exact Or.inl (by omega)
      · exact hb1 z hz
termination_by a b => a.length + b.length
theorem mrg_a {a b : List S37} {i k : Nat} (hi : i < a.length) (h : b.length ≤ k ∨ ∃ hk : k < b.length, a[i].f2 ≤ b[k].f2) : List.merge (a.drop i) (b.drop k) le2 = a[i] :: List.merge (a.drop (i + 1)) (b.drop k) le2 := by
  rw [List.drop_eq_getElem_cons hi]
  rcases h with h | ⟨hk, h⟩
  · rw [List.drop_eq_nil_of_le h, List.merge_right, List.merge_right]
  · rw [List.drop_eq_getElem_cons hk, List.cons_merge_cons, if_pos (show le2 a[i] b[k] = true from decide_eq_true h)]
theorem mrg_b {a b : List S37} {i k : Nat} (hk : k < b.length) (h : a.length ≤ i ∨ ∃ hi : i < a.length, b[k].f2 < a[i].f2) : List.merge (a.drop i) (b.drop k) le2 = b[k] :: List.merge (a.drop i) (b.drop (k + 1)) le2 := by
  rw [List.drop_eq_getElem_cons hk]
  rcases h with h | ⟨hi, h⟩
  · rw [List.drop_eq_nil_of_le h, List.nil_merge, List.nil_merge]
  · rw [List.drop_eq_getElem_cons hi, List.cons_merge_cons, if_neg (show ¬ le2 a[i] b[k] = true from fun q => by have := of_decide_eq_true q; omega)]
theorem le_of_rise {a b : S37} (h : rise37 a b) : le37 a b := by
  unfold rise37 at h
  unfold le37 lt37b
  simp only [Bool.or_eq_false_iff, Bool.and_eq_false_iff, decide_eq_false_iff_not]
  omega
/-- What rises, of the same onsets, is the list. -/
theorem rise_unique {s t : List S37} (h : s.Perm t) (hs : s.Pairwise rise37) (ht : t.Pairwise rise37) : s = t := sorted_unique _ _ h (hs.imp le_of_rise) (ht.imp le_of_rise)
/-! The list as the reference makes it -/
def genR (name : ByteArray) (last : Int) (r : S43) (i : Int) : List S37 := yrs r i (mR name last r) r.f1
theorem gen_take (name : ByteArray) (last : Int) (l : List S43) {i : Nat} (hi : i < l.length) : gen name last (l.take (i + 1)) 0 = gen name last (l.take i) 0 ++ genR name last l[i] i := by
  have h : ∀ (a : List S43) (r : S43) (j : Int), gen name last (a ++ [r]) j = gen name last a j ++ genR name last r (j + a.length) := by
    intro a r
    induction a with
    | nil =>
      intro j
      simp only [List.nil_append, gen, List.append_nil, List.length_nil, genR, mR]
      split <;> simp [yrs]
    | cons x a ih =>
      intro j
      simp only [List.cons_append, gen, ih, List.append_assoc, List.length_cons]
      congr 3
      omega
  rw [List.take_succ_eq_append_getElem hi, h]
  congr 2
  rw [List.length_take, Nat.min_eq_left (Nat.le_of_lt hi)]
  omega
theorem yrs_succ (r : S43) (i : Int) : ∀ (n : Nat) (y : Int), yrs r i (n + 1) y = yrs r i n y ++ (if (resV (y + n) r.f3 r.f4.f0 r.f4.f1 r.f4.f2).2 = 0 then [⟨i, y + n, locV r (y + n)⟩] else [])
  | 0, y => by
    unfold yrs
    have e : (oneV r i y).2.2.2 = true ↔ (resV y r.f3 r.f4.f0 r.f4.f1 r.f4.f2).2 = 0 := by
      show (((resV y r.f3 r.f4.f0 r.f4.f1 r.f4.f2).2 == 0) = true) ↔ _
      simp
    simp only [yrs, List.append_nil, List.nil_append, Int.natCast_zero, Int.add_zero]
    by_cases c : (resV y r.f3 r.f4.f0 r.f4.f1 r.f4.f2).2 = 0
    · rw [if_pos (e.2 c), if_pos c]; rfl
    · rw [if_neg (fun q => c (e.1 q)), if_neg c]
  | n + 1, y => by
    rw [yrs, yrs_succ r i n (y + 1), ← List.append_assoc]
    have e : y + 1 + (n : Int) = y + ((n + 1 : Nat) : Int) := by omega
    rw [e]
    conv => rhs; rw [yrs]
end Go.Proofs.Ytdhljcnilclfbaa.Pure
