/- What the checks of rules and the onsets of a name compute. No condition beyond those each lemma names. -/
import Derived.Test.YtdhljcnilclfbaaG413
import Derived.Test.YtdhljcnilclfbaaOx0
import Derived.Test.YtdhljcnilclfbaaOx12
import Derived.Test.YtdhljcnilclfbaaOx19
import Derived.Test.YtdhljcnilclfbaaOx20
import Derived.Test.YtdhljcnilclfbaaOx23
import Derived.Test.YtdhljcnilclfbaaOx31
import Derived.Test.YtdhljcnilclfbaaOx50
import Derived.Test.YtdhljcnilclfbaaOx55
import Derived.Test.YtdhljcnilclfbaaOx68
import Derived.Test.YtdhljcnilclfbaaOx73
import Derived.Test.YtdhljcnilclfbaaOx74
import Derived.Test.YtdhljcnilclfbaaOx75
namespace Go.Proofs.Ytdhljcnilclfbaa.Pure
open Go.RowKit Go.Proofs.Ytdhljcnilclfbaa.O Go.Proofs.YtdhljcnilclfbaaW.PrintWords Go.Proofs.YtdhljcnilclfbaaW.PrintLast
open Go.Proofs.Ytdhljcnilclfbaa.Civ
set_option linter.unusedVariables false
set_option linter.unusedSimpArgs false
theorem bt_range (s : ByteArray) (i : Int) : 0 ≤ bt s i ∧ bt s i < 256 := by
  unfold bt
  split
  · rename_i h
    have := (s[i.toNat]'h).toNat_lt
    omega
  · omega
def isDig (c : Int) : Bool := decide (48 ≤ c ∧ c ≤ 57)
def isLet (c : Int) : Bool := decide (65 ≤ c ∧ c ≤ 90 ∨ 97 ≤ c ∧ c ≤ 122)
def okc (o : List Int) (c : Int) : Bool := isLet c || (isDig c || o.contains c)
theorem rdig (c : Int) : solsticeref09_digit.f c = some (isDig c) := by
  unfold solsticeref09_digit.f isDig
  split
  · congr 1; rw [decide_eq_decide]; omega
  · congr 1; rw [eq_comm, decide_eq_false_iff_not]; omega
theorem ddig (c : Int) : rule_digit.f c = some (isDig c) := rdig c
theorem rlet (c : Int) : solsticeref09_letter.f c = some (isLet c) := by
  unfold solsticeref09_letter.f isLet
  by_cases h1 : c ≥ 65
  · rw [if_pos h1]
    by_cases h2 : c ≤ 90
    · rw [if_pos h2]; congr 1; rw [eq_comm, decide_eq_true_eq]; omega
    · rw [if_neg h2]
      by_cases h3 : c ≥ 97
      · rw [if_pos h3]; congr 1; rw [decide_eq_decide]; omega
      · rw [if_neg h3]; congr 1; rw [eq_comm, decide_eq_false_iff_not]; omega
  · rw [if_neg h1, if_neg (by omega)]; congr 1; rw [eq_comm, decide_eq_false_iff_not]; omega
theorem sign4_all : ∀ n : Fin 256, rule_sign.f ((n.1 : Nat) : Int) (⟨#[95, 43, 45, 47]⟩ : ByteArray) = some (okc [95, 43, 45, 47] ((n.1 : Nat) : Int)) := by decide +kernel
theorem sign2_all : ∀ n : Fin 256, rule_sign.f ((n.1 : Nat) : Int) (⟨#[43, 45]⟩ : ByteArray) = some (okc [43, 45] ((n.1 : Nat) : Int)) := by decide +kernel
theorem one4_all : ∀ n : Fin 256, solsticeref09_one.f 7 ((n.1 : Nat) : Int) (⟨#[95, 43, 45, 47]⟩ : ByteArray) = some (([95, 43, 45, 47] : List Int).contains ((n.1 : Nat) : Int)) := by decide +kernel
theorem fin_of {P : Int → Prop} (h : ∀ n : Fin 256, P ((n.1 : Nat) : Int)) (c : Int) (h0 : 0 ≤ c) (h1 : c < 256) : P c := by
  have := h ⟨c.toNat, by omega⟩
  simp only at this
  rwa [Int.toNat_of_nonneg h0] at this
theorem sign4 (c : Int) (h0 : 0 ≤ c) (h1 : c < 256) : rule_sign.f c (⟨#[95, 43, 45, 47]⟩ : ByteArray) = some (okc [95, 43, 45, 47] c) := fin_of (P := fun c => rule_sign.f c (⟨#[95, 43, 45, 47]⟩ : ByteArray) = some (okc [95, 43, 45, 47] c)) sign4_all c h0 h1
theorem sign2 (c : Int) (h0 : 0 ≤ c) (h1 : c < 256) : rule_sign.f c (⟨#[43, 45]⟩ : ByteArray) = some (okc [43, 45] c) := fin_of (P := fun c => rule_sign.f c (⟨#[43, 45]⟩ : ByteArray) = some (okc [43, 45] c)) sign2_all c h0 h1
theorem one4 (c : Int) (h0 : 0 ≤ c) (h1 : c < 256) : Ev (fun k => solsticeref09_one.f k c (⟨#[95, 43, 45, 47]⟩ : ByteArray)) (([95, 43, 45, 47] : List Int).contains c) :=
  Ev.of (solsticeref09_one.mono c _) (k := 7) (fin_of (P := fun c => solsticeref09_one.f 7 c (⟨#[95, 43, 45, 47]⟩ : ByteArray) = some (([95, 43, 45, 47] : List Int).contains c)) one4_all c h0 h1)
def allN (p : Int → Bool) (s : ByteArray) : Nat → Nat → Bool
  | 0, _ => true
  | n + 1, i => p (bt s i) && allN p s n (i + 1)
theorem allN_l {p : Int → Bool} {s O : ByteArray} (hp : ∀ c, 0 ≤ c → c < 256 → rule_sign.f c O = some (p c)) (hs : s.size ≤ 1000) : ∀ (n i : Nat), i + n = s.size → Ev (fun k => rule_all.l0 k s O (s.size : Int) i) (allN p s n i)
  | 0, i, h => by
    refine evstep ?_
    simp only [rule_all.l0, if_neg (show ¬ ((i : Nat) : Int) < (s.size : Int) by omega)]
    exact Ev.now _
  | n + 1, i, h => by
    have ih := allN_l hp hs n (i + 1) (by omega)
    refine evstep ?_
    simp only [rule_all.l0, if_pos (show ((i : Nat) : Int) < (s.size : Int) by omega), if_pos (show (0 : Int) ≤ ((i : Nat) : Int) by omega), hp _ (bt_range s i).1 (bt_range s i).2, Option.bind_some]
    unfold allN
    cases h1 : p (bt s i) with
    | true =>
      simp only [if_true, Bool.true_and, w64 (show -9223372036854775808 ≤ ((i : Nat) : Int) + 1 by omega) (show ((i : Nat) : Int) + 1 < 9223372036854775808 by omega)]
      simpa using ih
    | false => simp only [Bool.false_eq_true, if_false, Bool.false_and]; exact Ev.now _
theorem nameN_l {s : ByteArray} (hs : s.size ≤ 1000) : ∀ (n i : Nat), i + n = s.size → Ev (fun k => solsticeref09_Name.l0 k s i) (allN (okc [95, 43, 45, 47]) s n i)
  | 0, i, h => by
    refine evstep ?_
    simp only [solsticeref09_Name.l0, if_neg (show ¬ ((i : Nat) : Int) < (s.size : Int) by omega)]
    exact Ev.now _
  | n + 1, i, h => by
    have ih := nameN_l hs n (i + 1) (by omega)
    have hw : wrap64 ((i : Int) + 1) = ((i + 1 : Nat) : Int) := by rw [w64 (by omega) (by omega)]; omega
    refine evstep ?_
    simp only [solsticeref09_Name.l0, if_pos (show ((i : Nat) : Int) < (s.size : Int) by omega), if_pos (show (0 : Int) ≤ ((i : Nat) : Int) by omega), rlet, rdig, hw, Option.bind_some]
    unfold allN
    refine evif (fun h1 => ?_) (fun h1 => evif (fun h2 => ?_) (fun h2 => evb (one4 _ (bt_range s i).1 (bt_range s i).2) (evif (fun h3 => ?_) (fun h3 => evs ?_))))
    · have e : okc [95, 43, 45, 47] (bt s i) = true := by (unfold okc; rw [h1]; rfl)
      rw [e, Bool.true_and]
      exact ih
    · have e : okc [95, 43, 45, 47] (bt s i) = true := by (unfold okc; rw [h2]; simp)
      rw [e, Bool.true_and]
      exact ih
    · have e : okc [95, 43, 45, 47] (bt s i) = true := by (unfold okc; rw [h3]; simp)
      rw [e, Bool.true_and]
      exact ih
    · simp only [Bool.not_eq_true] at h1 h2 h3
      have e : okc [95, 43, 45, 47] (bt s i) = false := by (unfold okc; rw [h1, h2, h3]; rfl)
      rw [e, Bool.false_and]
theorem plainN_l {s : ByteArray} (hs : s.size ≤ 1000) : ∀ (n i : Nat), i + n = s.size → Ev (fun k => solsticeref09_Plain.l0 k s i) (allN (okc [43, 45]) s n i)
  | 0, i, h => by
    refine evstep ?_
    simp only [solsticeref09_Plain.l0, if_neg (show ¬ ((i : Nat) : Int) < (s.size : Int) by omega)]
    exact Ev.now _
  | n + 1, i, h => by
    have ih := plainN_l hs n (i + 1) (by omega)
    have hw : wrap64 ((i : Int) + 1) = ((i + 1 : Nat) : Int) := by rw [w64 (by omega) (by omega)]; omega
    refine evstep ?_
    simp only [solsticeref09_Plain.l0, if_pos (show ((i : Nat) : Int) < (s.size : Int) by omega), if_pos (show (0 : Int) ≤ ((i : Nat) : Int) by omega), rlet, rdig, hw, Option.bind_some]
    unfold allN
    refine evif (fun h1 => ?_) (fun h1 => evif (fun h2 => ?_) (fun h2 => evif (fun h3 => ?_) (fun h3 => evif (fun h4 => ?_) (fun h4 => evs ?_))))
    · have e : okc [43, 45] (bt s i) = true := by (unfold okc; rw [h1]; rfl)
      rw [e, Bool.true_and]
      exact ih
    · have e : okc [43, 45] (bt s i) = true := by (unfold okc; rw [h2]; simp)
      rw [e, Bool.true_and]
      exact ih
    · have e : okc [43, 45] (bt s i) = true := by (unfold okc; rw [h3]; simp)
      rw [e, Bool.true_and]
      exact ih
    · have e : okc [43, 45] (bt s i) = true := by (unfold okc; rw [h4]; simp)
      rw [e, Bool.true_and]
      exact ih
    · simp only [Bool.not_eq_true] at h1 h2
      have : ([43, 45] : List Int).contains (bt s i) = false := by
        simp only [List.contains_cons, List.contains_nil, Bool.or_false, Bool.or_eq_false_iff, beq_eq_false_iff_ne]
        exact ⟨h3, h4⟩
      have e : okc [43, 45] (bt s i) = false := by (unfold okc; rw [h1, h2, this]; rfl)
      rw [e, Bool.false_and]
def nameB (s : ByteArray) : Bool := decide (1 ≤ s.size ∧ s.size ≤ 40) && (!isDig (bt s 0) && (bt s 0 != 43 && (bt s 0 != 45 && allN (okc [95, 43, 45, 47]) s s.size 0)))
theorem ref_name (s : ByteArray) : Ev (fun k => solsticeref09_Name.f k s) (nameB s) := by
  have jt : Ev (fun k => solsticeref09_Name.j0 k s true) false := by
    refine evstep ?_
    simp only [solsticeref09_Name.j0, if_true]
    exact Ev.now _
  have jf (h : s.size ≤ 40) : Ev (fun k => solsticeref09_Name.j0 k s false) (allN (okc [95, 43, 45, 47]) s s.size 0) := by
    refine evstep ?_
    simp only [solsticeref09_Name.j0, Bool.false_eq_true, if_false]
    exact nameN_l (by omega) s.size 0 (by omega)
  unfold solsticeref09_Name.f nameB
  rw [rdig]
  simp only [Option.bind_some]
  refine evif (fun h1 => ?_) (fun h1 => evif (fun h2 => ?_) (fun h2 => evif (fun h3 => ?_) (fun h3 => absurd h3 (by omega))))
  · rw [decide_eq_false (by omega)]; simpa using jt
  · rw [decide_eq_false (by omega)]; simpa using jt
  · rw [decide_eq_true (show 1 ≤ s.size ∧ s.size ≤ 40 by omega)]
    refine evif (fun h4 => ?_) (fun h4 => evif (fun h5 => ?_) (fun h5 => ?_))
    · rw [h4]; simpa using jt
    · rw [h5]; simpa using jt
    · simp only [Bool.not_eq_true] at h4
      rw [h4]
      have e5 : (bt s 0 != 43) = true := bne_iff_ne.mpr h5
      rw [e5]
      cases h6 : bt s 0 == 45 with
      | true =>
        have : (bt s 0 != 45) = false := by rw [bne, h6]; rfl
        rw [this]; simpa using jt
      | false =>
        have : (bt s 0 != 45) = true := by rw [bne, h6]; rfl
        rw [this]; simpa using jf (by omega)
theorem rule_name (s : ByteArray) : Ev (fun k => rule_Name.f k s) (nameB s) := by
  unfold rule_Name.f nameB
  refine evif (fun h1 => evs ?_) (fun h1 => evif (fun h2 => evs ?_) (fun h2 => ?_))
  · rw [decide_eq_false (by omega)]; rfl
  · rw [decide_eq_false (by omega)]; rfl
  · rw [decide_eq_true (show 1 ≤ s.size ∧ s.size ≤ 40 by omega)]
    have ha := allN_l (s := s) sign4 (by omega) s.size 0 (by omega)
    refine evb (g := fun k => rule_all.f k s _) ha ?_
    cases h3 : allN (okc [95, 43, 45, 47]) s s.size 0 with
    | false => simp only [Bool.false_eq_true, if_false]; exact evs (by simp)
    | true =>
      simp only [if_true]
      rw [if_pos (by omega), ddig]
      simp only [Option.bind_some]
      refine evif (fun h4 => evs ?_) (fun h4 => evif (fun h5 => evs ?_) (fun h5 => evs ?_))
      · rw [h4]; rfl
      · rw [h5]; simp
      · simp only [Bool.not_eq_true] at h4
        rw [h4, show (bt s 0 != 43) = true from bne_iff_ne.mpr h5]; simp
def letB (s : ByteArray) : Bool := decide (s.size = 0) || (s.toList != [45] && (decide (s.size ≤ 6) && allN (okc [43, 45]) s s.size 0))
theorem ref_letter (s : ByteArray) : Ev (fun k => solsticeref09_Letter.f k s) (letB s) := by
  have jt : Ev (fun k => solsticeref09_Plain.j0 k s true) false := by
    refine evstep ?_
    simp only [solsticeref09_Plain.j0, if_true]
    exact Ev.now _
  have jf (h : s.size ≤ 6) : Ev (fun k => solsticeref09_Plain.j0 k s false) (allN (okc [43, 45]) s s.size 0) := by
    refine evstep ?_
    simp only [solsticeref09_Plain.j0, Bool.false_eq_true, if_false]
    exact plainN_l (by omega) s.size 0 (by omega)
  unfold solsticeref09_Letter.f letB
  refine evif (fun h1 => evs ?_) (fun h1 => evif (fun h2 => evs ?_) (fun h2 => evb (r := _) ?_ (Ev.now _)))
  · rw [decide_eq_true (by omega)]; rfl
  · rw [h2, decide_eq_false (by omega)]; rfl
  · rw [decide_eq_false (by omega), show (s.toList != [45]) = true from bne_iff_ne.mpr h2]
    simp only [Bool.false_or, Bool.true_and]
    unfold solsticeref09_Plain.f
    refine evif (fun h3 => absurd h3 (by omega)) (fun h3 => ?_)
    by_cases h4 : s.size ≤ 6
    · rw [decide_eq_false (by omega), decide_eq_true h4]; simpa using jf h4
    · rw [decide_eq_true (show (s.size : Int) > 6 by omega), decide_eq_false h4]; simpa using jt
theorem rule_letter (s : ByteArray) : Ev (fun k => rule_Letter.f k s) (letB s) := by
  unfold rule_Letter.f letB
  refine evif (fun h1 => ?_) (fun h1 => evs ?_)
  · have ha := allN_l (s := s) sign2 (by omega) s.size 0 (by omega)
    refine evb (g := fun k => rule_all.f k s _) ha ?_
    rw [decide_eq_true (show s.size ≤ 6 by omega)]
    by_cases h0 : s.size = 0
    · have e1 : allN (okc [43, 45]) s s.size 0 = true := by rw [h0]; rfl
      rw [e1, decide_eq_true h0]
      simp only [if_true]
      refine evs ?_
      have : s.toList ≠ [45] := by
        obtain ⟨d⟩ := s
        have hd : d = #[] := Array.eq_empty_of_size_eq_zero h0
        subst hd
        have e : (ByteArray.mk #[]).toList = [] := by
          unfold ByteArray.toList ByteArray.toList.loop
          rfl
        rw [e]
        decide
      rw [show (s.toList != [45]) = true from bne_iff_ne.mpr this]; rfl
    · rw [decide_eq_false h0]
      cases h3 : allN (okc [43, 45]) s s.size 0 with
      | false => simp only [Bool.false_eq_true, if_false]; exact evs (by simp)
      | true => simp only [if_true]; exact evs (by simp)
  · rw [decide_eq_false (by omega), decide_eq_false (by omega)]; simp
theorem in09 (a b c : Int) : solsticeref09_in.f a b c = some (decide (b ≤ a ∧ a ≤ c)) := by
  unfold solsticeref09_in.f
  split
  · congr 1; rw [decide_eq_decide]; omega
  · congr 1; rw [eq_comm, decide_eq_false_iff_not]; omega
theorem at01 (s kd : Int) : solsticeref01_At.f s kd = some (decide (-345600 ≤ s ∧ s ≤ 345600 ∧ 1 ≤ kd ∧ kd ≤ 3)) := by
  unfold solsticeref01_At.f
  rw [rin, rin]
  simp only [Option.bind_some]
  split
  · rename_i h; have := of_decide_eq_true h; congr 1; rw [decide_eq_decide]; omega
  · rename_i h; have := of_decide_eq_false (Bool.eq_false_iff.mpr h); congr 1; rw [eq_comm, decide_eq_false_iff_not]; omega
theorem day09 (n : Int) : solsticeref09_day.f n = some (decide (-86399 ≤ n ∧ n ≤ 86399)) := by
  unfold solsticeref09_day.f
  rw [in09]
  rfl
def mostD (r : S43) : Int := if r.f3 = 2 ∧ r.f4.f0 = 1 ∧ r.f2 > r.f1 then 28 else ln 2000 r.f3
structure RuleOk (r : S43) : Prop where
  name : nameB r.f0 = true
  fr : 1 ≤ r.f1 ∧ r.f1 ≤ 9999
  too : r.f1 ≤ r.f2 ∧ r.f2 ≤ 9999
  mo : 1 ≤ r.f3 ∧ r.f3 ≤ 12
  onr : OnR r.f4.f0 r.f4.f1 r.f4.f2
  at_ : -345600 ≤ r.f5.f0 ∧ r.f5.f0 ≤ 345600 ∧ 1 ≤ r.f5.f1 ∧ r.f5.f1 ≤ 3
  save : -86399 ≤ r.f6 ∧ r.f6 ≤ 86399
  let_ : letB r.f7 = true
  day : r.f4.f0 = 2 ∨ r.f4.f2 ≤ mostD r
theorem ref_rule (r : S43) : ∃ b, Ev (fun k => solsticeref09_Rule.f k r.f0 r.f1 r.f2 r.f3 r.f4.f0 r.f4.f1 r.f4.f2 r.f5.f0 r.f5.f1 r.f6 r.f7) b ∧ (b = true ↔ RuleOk r) := by
  have jt : Ev (fun k => solsticeref09_Rule.j0 k true r.f0 r.f1 r.f2 r.f3 r.f4.f0 r.f4.f1 r.f4.f2 r.f5.f0 r.f5.f1 r.f6 r.f7) false := by
    refine evstep ?_
    simp only [solsticeref09_Rule.j0, if_true]
    exact Ev.now _
  have hn := ref_name r.f0
  unfold solsticeref09_Rule.f
  simp only [in09, at01, day09, Option.bind_some]
  have nope {g : Nat → Option Bool} (q : ¬ RuleOk r) (h : Ev g false) : ∃ b, Ev g b ∧ (b = true ↔ RuleOk r) := ⟨false, h, fun h => Bool.noConfusion h, fun h => absurd h q⟩
  cases h1 : nameB r.f0 with
  | false => rw [h1] at hn; exact nope (fun q => by have := q.name; rw [h1] at this; cases this) (evb hn (by simpa using jt))
  | true =>
  rw [h1] at hn
  by_cases h2 : 1 ≤ r.f1 ∧ r.f1 ≤ 9999
  case neg =>
    exact nope (fun q => h2 q.fr) (evb hn (by simp only [if_true, decide_eq_false h2, Bool.false_eq_true, if_false]; exact jt))
  by_cases h3 : r.f1 ≤ r.f2 ∧ r.f2 ≤ 9999
  case neg =>
    exact nope (fun q => h3 q.too) (evb hn (by simp only [if_true, decide_eq_true h2, decide_eq_false h3, Bool.false_eq_true, if_false]; exact jt))
  by_cases h4 : 1 ≤ r.f3 ∧ r.f3 ≤ 12
  case neg =>
    exact nope (fun q => h4 q.mo) (evb hn (by simp only [if_true, decide_eq_true h2, decide_eq_true h3, decide_eq_false h4, Bool.false_eq_true, if_false]; exact jt))
  have ho := ron r.f4.f0 r.f4.f1 r.f4.f2
  by_cases h5 : OnR r.f4.f0 r.f4.f1 r.f4.f2
  case neg =>
    rw [decide_eq_false h5] at ho
    exact nope (fun q => h5 q.onr) (evb hn (by simp only [if_true, decide_eq_true h2, decide_eq_true h3, decide_eq_true h4]; exact evb ho (by simp only [Bool.false_eq_true, if_false]; exact jt)))
  rw [decide_eq_true h5] at ho
  by_cases h6 : -345600 ≤ r.f5.f0 ∧ r.f5.f0 ≤ 345600 ∧ 1 ≤ r.f5.f1 ∧ r.f5.f1 ≤ 3
  case neg =>
    exact nope (fun q => h6 q.at_) (evb hn (by simp only [if_true, decide_eq_true h2, decide_eq_true h3, decide_eq_true h4]; exact evb ho (by simp only [if_true, decide_eq_false h6, Bool.false_eq_true, if_false]; exact jt)))
  by_cases h7 : -86399 ≤ r.f6 ∧ r.f6 ≤ 86399
  case neg =>
    exact nope (fun q => h7 q.save) (evb hn (by simp only [if_true, decide_eq_true h2, decide_eq_true h3, decide_eq_true h4]; exact evb ho (by simp only [if_true, decide_eq_true h6, decide_eq_false h7, Bool.false_eq_true, if_false]; exact jt)))
  have hl := ref_letter r.f7
  cases h8 : letB r.f7 with
  | false => rw [h8] at hl; exact nope (fun q => by have := q.let_; rw [h8] at this; cases this) (evb hn (by simp only [if_true, decide_eq_true h2, decide_eq_true h3, decide_eq_true h4]; exact evb ho (by simp only [if_true, decide_eq_true h6, decide_eq_true h7]; exact evb hl (by simpa using jt))))
  | true =>
  rw [h8] at hl
  have fin : Ev (fun k => solsticeref09_Rule.j0 k (!true) r.f0 r.f1 r.f2 r.f3 r.f4.f0 r.f4.f1 r.f4.f2 r.f5.f0 r.f5.f1 r.f6 r.f7) (decide (r.f4.f0 = 2 ∨ r.f4.f2 ≤ mostD r)) := by
    refine evstep ?_
    simp only [solsticeref09_Rule.j0, Bool.not_true, Bool.false_eq_true, if_false]
    refine evb (rlen r.f3 (y := 2000) (by omega) (by omega)) ?_
    have fin1 {m : Int} (hm : mostD r = m) : Ev (fun _ : Nat => if r.f4.f0 = 2 then some true else some (decide (r.f4.f2 ≤ m))) (decide (r.f4.f0 = 2 ∨ r.f4.f2 ≤ mostD r)) := by
      refine evif (fun h => evs ?_) (fun h => evs ?_)
      · rw [eq_comm, decide_eq_true_eq]; exact Or.inl h
      · rw [hm, decide_eq_decide]; omega
    refine evif (fun ha => evif (fun hb => evif (fun hc => fin1 ?_) (fun hc => fin1 ?_)) (fun hb => fin1 ?_)) (fun ha => fin1 ?_)
    · unfold mostD; rw [if_pos ⟨ha, hb, hc⟩]
    · unfold mostD; rw [if_neg (fun h => hc h.2.2)]
    · unfold mostD; rw [if_neg (fun h => hb h.2.1)]
    · unfold mostD; rw [if_neg (fun h => ha h.1)]
  exact ⟨decide (r.f4.f0 = 2 ∨ r.f4.f2 ≤ mostD r), evb hn (by simp only [if_true, decide_eq_true h2, decide_eq_true h3, decide_eq_true h4]; exact evb ho (by simp only [if_true, decide_eq_true h6, decide_eq_true h7]; exact evb hl fin)), fun h => ⟨h1, h2, h3, h4, h5, h6, h7, h8, of_decide_eq_true h⟩, fun h => decide_eq_true h.day⟩
theorem rule_day_ok {r : S43} (h : RuleOk r) : Ev (fun k => rule_day.f k r.f0 r.f1 r.f2 r.f3 r.f4.f0 r.f4.f1 r.f4.f2 r.f5.f0 r.f5.f1 r.f6 r.f7) true := by
  unfold rule_day.f
  have hd := h.day
  refine evif (fun h1 => evs rfl) (fun h1 => evb (clen 2000 r.f3) ?_)
  have hd2 : r.f4.f2 ≤ mostD r := hd.resolve_left h1
  refine evif (fun ha => evif (fun hb => evif (fun hc => evs ?_) (fun hc => evs ?_)) (fun hb => evs ?_)) (fun ha => evs ?_)
  · unfold mostD at hd2
    rw [if_pos ⟨ha, hb, hc⟩] at hd2
    rw [ha]
    have : wrap64 (ln 2000 2 - 1) = 28 := by decide +kernel
    rw [this, decide_eq_true_eq]; exact hd2
  · unfold mostD at hd2; rw [if_neg (fun h => hc h.2.2)] at hd2; rw [decide_eq_true_eq]; exact hd2
  · unfold mostD at hd2; rw [if_neg (fun h => hb h.2.1)] at hd2; rw [decide_eq_true_eq]; exact hd2
  · unfold mostD at hd2; rw [if_neg (fun h => ha h.1)] at hd2; rw [decide_eq_true_eq]; exact hd2
theorem rule_check {r : S43} (h : RuleOk r) : Ev (fun k => rule_Check.f k r.f0 r.f1 r.f2 r.f3 r.f4.f0 r.f4.f1 r.f4.f2 r.f5.f0 r.f5.f1 r.f6 r.f7) 0 := by
  unfold rule_Check.f
  simp only [if_pos (show r.f1 ≥ 1 from h.fr.1), if_pos (show r.f2 ≥ r.f1 from h.too.1), decide_eq_true h.too.2]
  refine evstep ?_
  simp only [rule_Check.j0, if_pos (show r.f3 ≥ 1 from h.mo.1), decide_eq_true h.mo.2]
  refine evstep ?_
  simp only [rule_Check.j1, if_pos (show r.f6 > -86400 by have := h.save.1; omega), decide_eq_true (show r.f6 < 86400 by have := h.save.2; omega)]
  refine evstep ?_
  simp only [rule_Check.j2]
  have hn := rule_name r.f0
  rw [h.name] at hn
  refine evb hn ?_
  simp only [if_true]
  have hw := wcheck r.f4.f0 r.f4.f1 r.f4.f2
  rw [if_pos h.onr] at hw
  refine evb hw ?_
  simp only [if_true]
  refine evb (rule_day_ok h) ?_
  simp only [if_true, acheck, if_pos h.at_, Option.bind_some]
  have hl := rule_letter r.f7
  rw [h.let_] at hl
  exact evb hl (by simp only [if_true]; exact Ev.now _)
theorem rd43 (l : List S43) (i : Nat) (h : i < l.length) : rd_T43 l ((i : Nat) : Int) = l[i] := by
  unfold rd_T43
  simp [List.getD, h]
theorem rd37 (l : List S37) (i : Nat) (h : i < l.length) : rd_T37 l ((i : Nat) : Int) = l[i] := by
  unfold rd_T37
  simp [List.getD, h]
theorem wsuc (i : Nat) (h : i < 4611686018427387904) : wrap64 (((i : Nat) : Int) + 1) = ((i + 1 : Nat) : Int) := by rw [w64 (by omega) (by omega)]; omega
theorem exif {α : Type} {c : Prop} [Decidable c] {f g : Nat → Option α} (h : c → ∃ b, Ev f b) (k : ¬ c → ∃ b, Ev g b) : ∃ b, Ev (fun n => if c then f n else g n) b := by
  by_cases hc : c
  · simp only [if_pos hc]; exact h hc
  · simp only [if_neg hc]; exact k hc
theorem exstep {α : Type} {g : Nat → Option α} (h : ∃ b, Ev (fun k => g (k + 1)) b) : ∃ b, Ev g b := by
  obtain ⟨b, h⟩ := h
  exact ⟨b, evstep h⟩
theorem heavy_l (l : List S43) (hl : l.length ≤ 300) : ∀ (n i : Nat) (x3 : Int), i + n = l.length → ∃ b, Ev (fun k => solsticelaw13_Heavy.l0 k l x3 i) b
  | 0, i, x3, h => by
    refine exstep ?_
    simp only [solsticelaw13_Heavy.l0, if_neg (show ¬ ((i : Nat) : Int) < (l.length : Int) by omega)]
    exact ⟨_, Ev.now _⟩
  | n + 1, i, x3, h => by
    have ih := fun x => heavy_l l hl n (i + 1) x (by omega)
    have j1 : ∀ b, ∃ c, Ev (fun k => solsticelaw13_Heavy.j1 k l x3 i b) c := by
      intro b
      refine exstep ?_
      simp only [solsticelaw13_Heavy.j1]
      refine exif (fun _ => ⟨_, Ev.now _⟩) (fun _ => exif (fun _ => exif (fun _ => ?_) (fun hh => absurd (show ((i : Nat) : Int) < (l.length : Int) by omega) hh)) (fun hh => absurd (show (0 : Int) ≤ ((i : Nat) : Int) by omega) hh))
      simp only [wsuc i (by omega)]
      exact exif (fun _ => exif (fun _ => exif (fun _ => ih _) (fun _ => ih _)) (fun _ => ih _)) (fun _ => ih _)
    refine exstep ?_
    simp only [solsticelaw13_Heavy.l0, if_pos (show ((i : Nat) : Int) < (l.length : Int) by omega), if_pos (show (0 : Int) ≤ ((i : Nat) : Int) by omega)]
    exact exif (fun _ => j1 _) (fun _ => j1 _)
theorem heavy (l : List S43) : ∃ b, Ev (fun k => solsticelaw13_Heavy.f k l) b ∧ (b = false → l.length ≤ 300) := by
  unfold solsticelaw13_Heavy.f
  by_cases h : l.length ≤ 300
  · simp only [if_neg (show ¬ (l.length : Int) > 300 by omega)]
    obtain ⟨b, hb⟩ := heavy_l l h l.length 0 0 (by omega)
    exact ⟨b, hb, fun _ => h⟩
  · simp only [if_pos (show (l.length : Int) > 300 by omega)]
    exact ⟨true, Ev.now _, fun h => Bool.noConfusion h⟩
theorem right_l (l : List S43) (hl : l.length ≤ 300) : ∀ (n i : Nat), i + n = l.length → ∃ b, Ev (fun k => solsticelaw13_Right.l0 k l i) b ∧ (b = true ↔ ∀ j (hj : j < l.length), i ≤ j → RuleOk l[j])
  | 0, i, h => by
    refine ⟨true, evstep ?_, fun _ j hj hij => absurd hj (by omega), fun _ => rfl⟩
    simp only [solsticelaw13_Right.l0, if_neg (show ¬ ((i : Nat) : Int) < (l.length : Int) by omega)]
    exact Ev.now _
  | n + 1, i, h => by
    obtain ⟨b, hb, hok⟩ := right_l l hl n (i + 1) (by omega)
    have hi : i < l.length := by omega
    obtain ⟨c, hc, hcok⟩ := ref_rule l[i]
    have hg : ∀ d, Ev (fun k => if c = true then solsticelaw13_Right.l0 k l ((i + 1 : Nat) : Int) else some false) d → Ev (fun k => solsticelaw13_Right.l0 k l i) d := fun d hd => by
      refine evstep ?_
      simp only [solsticelaw13_Right.l0, if_pos (show ((i : Nat) : Int) < (l.length : Int) by omega), if_pos (show (0 : Int) ≤ ((i : Nat) : Int) by omega), rd43 l i hi, wsuc i (by omega)]
      exact evb hc hd
    cases c with
    | false => exact ⟨false, hg false (by simp only [Bool.false_eq_true, if_false]; exact Ev.now _), fun h => Bool.noConfusion h, fun h => hcok.2 (h i hi (Nat.le_refl _))⟩
    | true =>
      refine ⟨b, hg b (by simpa using hb), fun hbt j hj hij => ?_, fun h => hok.2 (fun j hj hij => h j hj (by omega))⟩
      by_cases e : j = i
      · subst e; exact hcok.1 rfl
      · exact hok.1 hbt j hj (by omega)
theorem right (l : List S43) (hl : l.length ≤ 300) : ∃ b, Ev (fun k => solsticelaw13_Right.f k l) b ∧ (b = true ↔ ∀ j (hj : j < l.length), RuleOk l[j]) := by
  obtain ⟨b, h1, h2⟩ := right_l l hl l.length 0 (by omega)
  exact ⟨b, h1, fun h j hj => h2.1 h j hj (by omega), fun h => h2.2 (fun j hj _ => h j hj)⟩
theorem wrong_l (l : List S43) (hl : l.length ≤ 300) (hok : ∀ j (hj : j < l.length), RuleOk l[j]) : ∀ (n i : Nat), i + n = l.length → Ev (fun k => api_Rule_33.l0 k l i) false
  | 0, i, h => by
    refine evstep ?_
    simp only [api_Rule_33.l0, if_neg (show ¬ ((i : Nat) : Int) < (l.length : Int) by omega)]
    exact Ev.now _
  | n + 1, i, h => by
    have ih := wrong_l l hl hok n (i + 1) (by omega)
    have hi : i < l.length := by omega
    refine evstep ?_
    simp only [api_Rule_33.l0, if_pos (show ((i : Nat) : Int) < (l.length : Int) by omega), if_pos (show (0 : Int) ≤ ((i : Nat) : Int) by omega), rd43 l i hi, wsuc i (by omega)]
    exact evb (rule_check (hok i hi)) (by simpa using ih)
theorem check_ok (l : List S43) {last : Int} (hl : l.length ≤ 200) (h1 : 1 ≤ last) (h2 : last ≤ 9999) (hok : ∀ j (hj : j < l.length), RuleOk l[j]) : Ev (fun k => onset_check.f k l last) 0 := by
  unfold onset_check.f
  simp only [if_neg (show ¬ (l.length : Int) > 200 by omega)]
  refine evb (g := fun k => api_Rule_33.f k l) (wrong_l l (by omega) hok l.length 0 (by omega)) ?_
  simp only [Bool.false_eq_true, if_false, if_neg (show ¬ last < 1 by omega), if_neg (show ¬ last > 9999 by omega)]
  exact Ev.now _
def oneV (r : S43) (i y : Int) : Int × Int × Int × Bool := (i, y, wrap64 (wrap64 ((resV y r.f3 r.f4.f0 r.f4.f1 r.f4.f2).1 * 86400) + r.f5.f0), (resV y r.f3 r.f4.f0 r.f4.f1 r.f4.f2).2 == 0)
theorem one_ev (r : S43) (i y : Int) : Ev (fun k => onset_one.f k r.f0 r.f1 r.f2 r.f3 r.f4.f0 r.f4.f1 r.f4.f2 r.f5.f0 r.f5.f1 r.f6 r.f7 i y) (oneV r i y) := by
  unfold onset_one.f
  exact evb (wres y r.f3 r.f4.f0 r.f4.f1 r.f4.f2) (Ev.now _)
def yrs (r : S43) (i : Int) : Nat → Int → List S37
  | 0, _ => []
  | n + 1, y => (if (oneV r i y).2.2.2 = true then [⟨i, y, (oneV r i y).2.2.1⟩] else []) ++ yrs r i n (y + 1)
theorem yrs_len (r : S43) (i : Int) : ∀ (n : Nat) (y : Int), (yrs r i n y).length ≤ n
  | 0, _ => Nat.le_refl _
  | n + 1, y => by
    have := yrs_len r i n (y + 1)
    unfold yrs
    rw [List.length_append]
    split <;> simp <;> omega
def gen (name : ByteArray) (last : Int) : List S43 → Int → List S37
  | [], _ => []
  | r :: rs, i => (if r.f0.toList = name.toList then yrs r i (min r.f2 last - r.f1 + 1).toNat r.f1 else []) ++ gen name last rs (i + 1)
theorem mn_min (a b : Int) : mn a b = min a b := by
  unfold mn
  split <;> omega
theorem years_l (name : ByteArray) (last : Int) (l : List S43) (r : S43) (i : Nat) (len : Int) (R : List S37 × Int) (hi : i < 4611686018427387904) (hr : r.f2 ≤ 9999) :
    ∀ (n : Nat) (y : Int) (acc : List S37), 1 ≤ y → (min r.f2 last - y + 1).toNat = n → acc.length + n < 5864062014805 → Ev (fun k => onset_Of.l0 k name last (acc ++ yrs r i n y) l len ((i + 1 : Nat) : Int)) R →
      Ev (fun k => onset_Of.l1 k name last acc i y l len i r.f0 r.f1 r.f2 r.f3 r.f4.f0 r.f4.f1 r.f4.f2 r.f5.f0 r.f5.f1 r.f6 r.f7) R
  | 0, y, acc, hy, hn, hacc, h => by
    refine evstep ?_
    simp only [onset_Of.l1, mn_min, if_neg (show ¬ y ≤ min r.f2 last by omega), wsuc i hi]
    simpa [yrs] using h
  | n + 1, y, acc, hy, hn, hacc, h => by
    have hle : y ≤ min r.f2 last := by omega
    have hw : wrap64 (y + 1) = y + 1 := w64 (by omega) (by omega)
    refine evstep ?_
    simp only [onset_Of.l1, mn_min, if_pos hle, hw]
    refine evb (one_ev r i y) ?_
    have e1 : (oneV r i y).1 = i := rfl
    have e2 : (oneV r i y).2.1 = y := rfl
    simp only [e1, e2]
    refine evif (fun hc => ?_) (fun hc => ?_)
    · simp only [if_pos (show acc.length < 5864062014805 by omega)]
      refine years_l name last l r i len R hi hr n (y + 1) _ (by omega) (by omega) (by simp; omega) ?_
      have : acc ++ yrs r i (n + 1) y = acc ++ [⟨i, y, (oneV r i y).2.2.1⟩] ++ yrs r i n (y + 1) := by
        rw [List.append_assoc]; congr 1; rw [yrs, if_pos hc]
      rw [← this]; exact h
    · refine years_l name last l r i len R hi hr n (y + 1) acc (by omega) (by omega) (by omega) ?_
      have : acc ++ yrs r i (n + 1) y = acc ++ yrs r i n (y + 1) := by
        congr 1; rw [yrs, if_neg hc]; rfl
      rw [← this]; exact h
theorem rules_l (name : ByteArray) (last : Int) (l : List S43) (hl : l.length ≤ 300) (hok : ∀ j (hj : j < l.length), RuleOk l[j]) : ∀ (n i : Nat) (acc : List S37), i + n = l.length → acc.length + 10000 * n < 4611686018427 →
    Ev (fun k => onset_Of.l0 k name last acc l (l.length : Int) i) (srt37 (acc ++ gen name last (l.drop i) i), 0)
  | 0, i, acc, h, hacc => by
    refine evstep ?_
    simp only [onset_Of.l0, if_neg (show ¬ ((i : Nat) : Int) < (l.length : Int) by omega), api_Onset_21.f, if_pos (show acc.length < 4611686018427387904 by omega), Option.bind_some]
    rw [List.drop_eq_nil_of_le (by omega)]
    refine evs ?_
    simp [gen]
  | n + 1, i, acc, h, hacc => by
    have hi : i < l.length := by omega
    have hd : l.drop i = l[i] :: l.drop (i + 1) := List.drop_eq_getElem_cons hi
    have ho := hok i hi
    refine evstep ?_
    simp only [onset_Of.l0, if_pos (show ((i : Nat) : Int) < (l.length : Int) by omega), if_pos (show (0 : Int) ≤ ((i : Nat) : Int) by omega), rd43 l i hi, wsuc i (by omega)]
    rw [hd]
    refine evif (fun hc => ?_) (fun hc => ?_)
    · have hlen := yrs_len l[i] i (min l[i].f2 last - l[i].f1 + 1).toNat l[i].f1
      have hb : (min l[i].f2 last - l[i].f1 + 1).toNat ≤ 9999 := by
        have := ho.fr; have := ho.too; omega
      refine years_l name last l l[i] i _ _ (by omega) ho.too.2 (min l[i].f2 last - l[i].f1 + 1).toNat l[i].f1 acc ho.fr.1 rfl (by omega) ?_
      have ih := rules_l name last l hl hok n (i + 1) (acc ++ yrs l[i] i (min l[i].f2 last - l[i].f1 + 1).toNat l[i].f1) (by omega) (by rw [List.length_append]; omega)
      rw [gen, if_pos hc, ← List.append_assoc]
      have e : ((i : Nat) : Int) + 1 = ((i + 1 : Nat) : Int) := by omega
      rw [e]; exact ih
    · have ih := rules_l name last l hl hok n (i + 1) acc (by omega) (by omega)
      rw [gen, if_neg hc, List.nil_append]
      have e : ((i : Nat) : Int) + 1 = ((i + 1 : Nat) : Int) := by omega
      rw [e]; exact ih
theorem of_ev (name : ByteArray) {last : Int} (l : List S43) (hl : l.length ≤ 200) (h1 : 1 ≤ last) (h2 : last ≤ 9999) (hok : ∀ j (hj : j < l.length), RuleOk l[j]) :
    Ev (fun k => onset_Of.f k l name last) (srt37 (gen name last l 0), 0) := by
  unfold onset_Of.f
  refine evb (check_ok l hl h1 h2 hok) ?_
  simp only [if_true]
  have := rules_l name last l (by omega) hok l.length 0 [] (by omega) (by simp; omega)
  simpa using this
end Go.Proofs.Ytdhljcnilclfbaa.Pure
