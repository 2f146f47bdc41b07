/- What the check of rules and the onset of a rule in a year compute. No condition beyond those each lemma names. -/
import Derived.Test.YtdhljcnilclfbaaG413
import Derived.Test.YtdhljcnilclfbaaOx0
import Derived.Test.YtdhljcnilclfbaaOx12
import Derived.Test.YtdhljcnilclfbaaOx19
import Derived.Test.YtdhljcnilclfbaaOx20
import Derived.Test.YtdhljcnilclfbaaOx23
import Derived.Test.YtdhljcnilclfbaaOx31
namespace Go.Proofs.Ytdhljcnilclfbaa.Pure
open Go.RowKit Go.Proofs.Ytdhljcnilclfbaa.O Go.Proofs.YtdhljcnilclfbaaW.PrintWords Go.Proofs.YtdhljcnilclfbaaW.PrintLast
open Go.Proofs.Ytdhljcnilclfbaa.Civ
theorem bt_range (s : ByteArray) (i : Int) : 0 ≤ bt s i ∧ bt s i < 256 := by
  unfold bt
  split
  · rename_i h
    have := (s[i.toNat]'h).toNat_lt
    omega
  · omega
def isDig (c : Int) : Bool := decide (48 ≤ c ∧ c ≤ 57)
def isLet (c : Int) : Bool := decide (65 ≤ c ∧ c ≤ 90 ∨ 97 ≤ c ∧ c ≤ 122)
def okc (o : List Int) (c : Int) : Bool := isLet c || (isDig c || o.contains c)
theorem ddig (c : Int) : rule_digit.f c = some (isDig c) := by
  unfold rule_digit.f isDig
  split
  · congr 1; rw [decide_eq_decide]; omega
  · congr 1; rw [eq_comm, decide_eq_false_iff_not]; omega
theorem sign4_all : ∀ n : Fin 256, rule_sign.f ((n.1 : Nat) : Int) (⟨#[95, 43, 45, 47]⟩ : ByteArray) = some (okc [95, 43, 45, 47] ((n.1 : Nat) : Int)) := by decide +kernel
theorem sign2_all : ∀ n : Fin 256, rule_sign.f ((n.1 : Nat) : Int) (⟨#[43, 45]⟩ : ByteArray) = some (okc [43, 45] ((n.1 : Nat) : Int)) := by decide +kernel
theorem fin_of {P : Int → Prop} (h : ∀ n : Fin 256, P ((n.1 : Nat) : Int)) (c : Int) (h0 : 0 ≤ c) (h1 : c < 256) : P c := by
  have := h ⟨c.toNat, by omega⟩
  simp only at this
  rwa [Int.toNat_of_nonneg h0] at this
theorem sign4 (c : Int) (h0 : 0 ≤ c) (h1 : c < 256) : rule_sign.f c (⟨#[95, 43, 45, 47]⟩ : ByteArray) = some (okc [95, 43, 45, 47] c) := fin_of (P := fun c => rule_sign.f c (⟨#[95, 43, 45, 47]⟩ : ByteArray) = some (okc [95, 43, 45, 47] c)) sign4_all c h0 h1
theorem sign2 (c : Int) (h0 : 0 ≤ c) (h1 : c < 256) : rule_sign.f c (⟨#[43, 45]⟩ : ByteArray) = some (okc [43, 45] c) := fin_of (P := fun c => rule_sign.f c (⟨#[43, 45]⟩ : ByteArray) = some (okc [43, 45] c)) sign2_all c h0 h1
def allN (p : Int → Bool) (s : ByteArray) : Nat → Nat → Bool
  | 0, _ => true
  | n + 1, i => p (bt s i) && allN p s n (i + 1)
theorem allN_l {p : Int → Bool} {s O : ByteArray} (hp : ∀ c, 0 ≤ c → c < 256 → rule_sign.f c O = some (p c)) (hs : s.size ≤ 1000) : ∀ (n i : Nat), i + n = s.size → Ev (fun k => rule_all.l0 k s O (s.size : Int) i) (allN p s n i)
  | 0, i, h => by
    refine evstep ?_
    simp only [rule_all.l0, if_neg (show ¬ ((i : Nat) : Int) < (s.size : Int) by omega)]
    exact Ev.now _
  | n + 1, i, h => by
    have ih := allN_l hp hs n (i + 1) (by omega)
    refine evstep ?_
    simp only [rule_all.l0, if_pos (show ((i : Nat) : Int) < (s.size : Int) by omega), if_pos (show (0 : Int) ≤ ((i : Nat) : Int) by omega), hp _ (bt_range s i).1 (bt_range s i).2, Option.bind_some]
    unfold allN
    cases h1 : p (bt s i) with
    | true =>
      simp only [if_true, Bool.true_and, w64 (show -9223372036854775808 ≤ ((i : Nat) : Int) + 1 by omega) (show ((i : Nat) : Int) + 1 < 9223372036854775808 by omega)]
      simpa using ih
    | false => simp only [Bool.false_eq_true, if_false, Bool.false_and]; exact Ev.now _
def nameB (s : ByteArray) : Bool := decide (1 ≤ s.size ∧ s.size ≤ 40) && (!isDig (bt s 0) && (bt s 0 != 43 && (bt s 0 != 45 && allN (okc [95, 43, 45, 47]) s s.size 0)))
theorem rule_name (s : ByteArray) : Ev (fun k => rule_Name.f k s) (nameB s) := by
  unfold rule_Name.f nameB
  refine evif (fun h1 => evs ?_) (fun h1 => evif (fun h2 => evs ?_) (fun h2 => ?_))
  · rw [decide_eq_false (by omega)]; rfl
  · rw [decide_eq_false (by omega)]; rfl
  · rw [decide_eq_true (show 1 ≤ s.size ∧ s.size ≤ 40 by omega)]
    have ha := allN_l (s := s) sign4 (by omega) s.size 0 (by omega)
    refine evb (g := fun k => rule_all.f k s _) ha ?_
    cases h3 : allN (okc [95, 43, 45, 47]) s s.size 0 with
    | false => simp only [Bool.false_eq_true, if_false]; exact evs (by simp)
    | true =>
      simp only [if_true]
      rw [if_pos (by omega), ddig]
      simp only [Option.bind_some]
      refine evif (fun h4 => evs ?_) (fun h4 => evif (fun h5 => evs ?_) (fun h5 => evs ?_))
      · rw [h4]; rfl
      · rw [h5]; simp
      · simp only [Bool.not_eq_true] at h4
        rw [h4, show (bt s 0 != 43) = true from bne_iff_ne.mpr h5]; simp
def letB (s : ByteArray) : Bool := decide (s.size = 0) || (s.toList != [45] && (decide (s.size ≤ 6) && allN (okc [43, 45]) s s.size 0))
theorem rule_letter (s : ByteArray) : Ev (fun k => rule_Letter.f k s) (letB s) := by
  unfold rule_Letter.f letB
  refine evif (fun h1 => ?_) (fun h1 => evs ?_)
  · have ha := allN_l (s := s) sign2 (by omega) s.size 0 (by omega)
    refine evb (g := fun k => rule_all.f k s _) ha ?_
    rw [decide_eq_true (show s.size ≤ 6 by omega)]
    by_cases h0 : s.size = 0
    · have e1 : allN (okc [43, 45]) s s.size 0 = true := by rw [h0]; rfl
      rw [e1, decide_eq_true h0]
      simp only [if_true]
      refine evs ?_
      have : s.toList ≠ [45] := by
        obtain ⟨d⟩ := s
        have hd : d = #[] := Array.eq_empty_of_size_eq_zero h0
        subst hd
        have e : (ByteArray.mk #[]).toList = [] := by
          unfold ByteArray.toList ByteArray.toList.loop
          rfl
        rw [e]
        decide
      rw [show (s.toList != [45]) = true from bne_iff_ne.mpr this]; rfl
    · rw [decide_eq_false h0]
      cases h3 : allN (okc [43, 45]) s s.size 0 with
      | false => simp only [Bool.false_eq_true, if_false]; exact evs (by simp)
      | true => simp only [if_true]; exact evs (by simp)
  · rw [decide_eq_false (by omega), decide_eq_false (by omega)]; simp
def mostD (r : S43) : Int := if r.f3 = 2 ∧ r.f4.f0 = 1 ∧ r.f2 > r.f1 then 28 else ln 2000 r.f3
structure RuleOk (r : S43) : Prop where
  name : nameB r.f0 = true
  fr : 1 ≤ r.f1 ∧ r.f1 ≤ 9999
  too : r.f1 ≤ r.f2 ∧ r.f2 ≤ 9999
  mo : 1 ≤ r.f3 ∧ r.f3 ≤ 12
  onr : OnR r.f4.f0 r.f4.f1 r.f4.f2
  at_ : -345600 ≤ r.f5.f0 ∧ r.f5.f0 ≤ 345600 ∧ 1 ≤ r.f5.f1 ∧ r.f5.f1 ≤ 3
  save : -86399 ≤ r.f6 ∧ r.f6 ≤ 86399
  let_ : letB r.f7 = true
  day : r.f4.f0 = 2 ∨ r.f4.f2 ≤ mostD r
theorem rule_day_ok {r : S43} (h : RuleOk r) : Ev (fun k => rule_day.f k r.f0 r.f1 r.f2 r.f3 r.f4.f0 r.f4.f1 r.f4.f2 r.f5.f0 r.f5.f1 r.f6 r.f7) true := by
  unfold rule_day.f
  have hd := h.day
  refine evif (fun h1 => evs rfl) (fun h1 => evb (clen 2000 r.f3) ?_)
  have hd2 : r.f4.f2 ≤ mostD r := hd.resolve_left h1
  refine evif (fun ha => evif (fun hb => evif (fun hc => evs ?_) (fun hc => evs ?_)) (fun hb => evs ?_)) (fun ha => evs ?_)
  · unfold mostD at hd2
    rw [if_pos ⟨ha, hb, hc⟩] at hd2
    rw [ha]
    have : wrap64 (ln 2000 2 - 1) = 28 := by decide +kernel
    rw [this, decide_eq_true_eq]; exact hd2
  · unfold mostD at hd2; rw [if_neg (fun h => hc h.2.2)] at hd2; rw [decide_eq_true_eq]; exact hd2
  · unfold mostD at hd2; rw [if_neg (fun h => hb h.2.1)] at hd2; rw [decide_eq_true_eq]; exact hd2
  · unfold mostD at hd2; rw [if_neg (fun h => ha h.1)] at hd2; rw [decide_eq_true_eq]; exact hd2
theorem rule_check {r : S43} (h : RuleOk r) : Ev (fun k => rule_Check.f k r.f0 r.f1 r.f2 r.f3 r.f4.f0 r.f4.f1 r.f4.f2 r.f5.f0 r.f5.f1 r.f6 r.f7) 0 := by
  unfold rule_Check.f
  simp only [if_pos (show r.f1 ≥ 1 from h.fr.1), if_pos (show r.f2 ≥ r.f1 from h.too.1), decide_eq_true h.too.2]
  refine evstep ?_
  simp only [rule_Check.j0, if_pos (show r.f3 ≥ 1 from h.mo.1), decide_eq_true h.mo.2]
  refine evstep ?_
  simp only [rule_Check.j1, if_pos (show r.f6 > -86400 by have := h.save.1; omega), decide_eq_true (show r.f6 < 86400 by have := h.save.2; omega)]
  refine evstep ?_
  simp only [rule_Check.j2]
  have hn := rule_name r.f0
  rw [h.name] at hn
  refine evb hn ?_
  simp only [if_true]
  have hw := wcheck r.f4.f0 r.f4.f1 r.f4.f2
  rw [if_pos h.onr] at hw
  refine evb hw ?_
  simp only [if_true]
  refine evb (rule_day_ok h) ?_
  simp only [if_true, acheck, if_pos h.at_, Option.bind_some]
  have hl := rule_letter r.f7
  rw [h.let_] at hl
  exact evb hl (by simp only [if_true]; exact Ev.now _)
theorem rd43 (l : List S43) (i : Nat) (h : i < l.length) : rd_T43 l ((i : Nat) : Int) = l[i] := by
  unfold rd_T43
  simp [List.getD, h]
theorem wsuc (i : Nat) (h : i < 4611686018427387904) : wrap64 (((i : Nat) : Int) + 1) = ((i + 1 : Nat) : Int) := by rw [w64 (by omega) (by omega)]; omega
theorem wrong_l (l : List S43) (hl : l.length ≤ 300) (hok : ∀ j (hj : j < l.length), RuleOk l[j]) : ∀ (n i : Nat), i + n = l.length → Ev (fun k => api_Rule_33.l0 k l i) false
  | 0, i, h => by
    refine evstep ?_
    simp only [api_Rule_33.l0, if_neg (show ¬ ((i : Nat) : Int) < (l.length : Int) by omega)]
    exact Ev.now _
  | n + 1, i, h => by
    have ih := wrong_l l hl hok n (i + 1) (by omega)
    have hi : i < l.length := by omega
    refine evstep ?_
    simp only [api_Rule_33.l0, if_pos (show ((i : Nat) : Int) < (l.length : Int) by omega), if_pos (show (0 : Int) ≤ ((i : Nat) : Int) by omega), rd43 l i hi, wsuc i (by omega)]
    exact evb (rule_check (hok i hi)) (by simpa using ih)
theorem check_ok (l : List S43) {last : Int} (hl : l.length ≤ 200) (h1 : 1 ≤ last) (h2 : last ≤ 9999) (hok : ∀ j (hj : j < l.length), RuleOk l[j]) : Ev (fun k => onset_check.f k l last) 0 := by
  unfold onset_check.f
  simp only [if_neg (show ¬ (l.length : Int) > 200 by omega)]
  refine evb (g := fun k => api_Rule_33.f k l) (wrong_l l (by omega) hok l.length 0 (by omega)) ?_
  simp only [Bool.false_eq_true, if_false, if_neg (show ¬ last < 1 by omega), if_neg (show ¬ last > 9999 by omega)]
  exact Ev.now _
def oneV (r : S43) (i y : Int) : Int × Int × Int × Bool := (i, y, wrap64 (wrap64 ((resV y r.f3 r.f4.f0 r.f4.f1 r.f4.f2).1 * 86400) + r.f5.f0), (resV y r.f3 r.f4.f0 r.f4.f1 r.f4.f2).2 == 0)
theorem one_ev (r : S43) (i y : Int) : Ev (fun k => onset_one.f k r.f0 r.f1 r.f2 r.f3 r.f4.f0 r.f4.f1 r.f4.f2 r.f5.f0 r.f5.f1 r.f6 r.f7 i y) (oneV r i y) := by
  unfold onset_one.f
  exact evb (wres y r.f3 r.f4.f0 r.f4.f1 r.f4.f2) (Ev.now _)
end Go.Proofs.Ytdhljcnilclfbaa.Pure
