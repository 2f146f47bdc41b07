/- OnsetLetters in plain lists: what the law computes is true at all arguments. No condition. -/
import Derived.Test.YtdhljcnilclfbaaG413m
import Derived.Test.YtdhljcnilclfbaaOx0
import Derived.Test.YtdhljcnilclfbaaOx56
import Derived.Test.YtdhljcnilclfbaaOx57
import Derived.Test.YtdhljcnilclfbaaOx59
import Derived.Test.YtdhljcnilclfbaaOx76
import Derived.Test.YtdhljcnilclfbaaOx86
namespace Go.Proofs.Ytdhljcnilclfbaa.Pure
open Go.RowKit Go.Proofs.Ytdhljcnilclfbaa.O Go.Proofs.YtdhljcnilclfbaaW.PrintWords Go.Proofs.YtdhljcnilclfbaaW.PrintLast
open Go.Proofs.Ytdhljcnilclfbaa.Civ
theorem um (a : Int) {n : Int} (hn : 0 < n) (hn' : n ≤ 1000000) : ∃ r, 0 ≤ r ∧ r < n ∧ wrap64 (Int.tmod (IntKind.u64.wrap a) n) = r := by
  have h0 : 0 ≤ IntKind.u64.wrap a := by rw [u64w]; omega
  have h1 := Int.emod_nonneg (IntKind.u64.wrap a) (Int.ne_of_gt hn)
  have h2 := Int.emod_lt_of_pos (IntKind.u64.wrap a) hn
  exact ⟨IntKind.u64.wrap a % n, h1, h2, by rw [tmod_nn n h0, w64 (by omega) (by omega)]⟩
theorem um1 (a : Int) {n : Int} (hn : 0 < n) (hn' : n ≤ 1000000) : ∃ r, 1 ≤ r ∧ r ≤ n ∧ wrap64 (1 + wrap64 (Int.tmod (IntKind.u64.wrap a) n)) = r := by
  obtain ⟨r, h0, h1, e⟩ := um a hn hn'
  exact ⟨1 + r, by omega, by omega, by rw [e, w64 (by omega) (by omega)]⟩
/-- A local time as UTC. -/
def utcV (s kd std sv : Int) : Int := if kd = 1 then s - std - sv else if kd = 2 then s - std else s
def utcP (s kd std sv : Int) : Prop := 1 ≤ kd ∧ kd ≤ 3 ∧ -4611686018427387904 ≤ s ∧ s ≤ 4611686018427387904 ∧ -345600 ≤ std ∧ std ≤ 345600 ∧ -345600 ≤ sv ∧ sv ≤ 345600
instance (s kd std sv : Int) : Decidable (utcP s kd std sv) := by unfold utcP; infer_instance
theorem wakes13 : Ev (fun k => solsticelaw13_wakes.f k) true := Ev.of solsticelaw13_wakes.mono (k := 60) (by decide +kernel)
theorem rnum_l (y m d b : Int) (hy : 0 ≤ y) (hy' : y ≤ 20000) (hb : -1000000000 ≤ b) (hb' : b ≤ 1000000000) (hm : m ≤ 13) (hd : 0 ≤ d) (hd' : d ≤ 1000000) : ∀ (n : Nat) (j : Int), 1 ≤ j → j + n = m → Ev (fun k => solsticeref01_Number.l0 k y (b + cum y j) j y m d) (b + cum y m + d - 1 - 719528) := by
  intro n
  induction n with
  | zero =>
    intro j h1 h2
    obtain rfl : j = m := by omega
    have hc := cum_bd y j h1 (by omega)
    have hp := lpi_01 y
    refine evstep ?_
    simp only [solsticeref01_Number.l0, Int.lt_irrefl, if_false]
    refine evs ?_
    rw [w64 (x := b + cum y j + d) (by omega) (by omega), w64 (x := b + cum y j + d - 1) (by omega) (by omega), w64 (by omega) (by omega)]
  | succ n ih =>
    intro j h1 h2
    refine evstep ?_
    simp only [solsticeref01_Number.l0, if_pos (show j < m by omega)]
    refine evb (rlen j (by omega) (by omega)) ?_
    have hc := cum_bd y j h1 (by omega)
    have hl := ln_bd y j h1 (by omega)
    have hp := lpi_01 y
    rw [w64 (x := b + cum y j + ln y j) (by omega) (by omega), w64 (x := j + 1) (by omega) (by omega), show b + cum y j + ln y j = b + cum y (j + 1) by rw [cum_succ y j h1 (by omega)]; omega]
    exact ih (j + 1) (by omega) (by omega)
theorem rnum' {y m d : Int} (hy : 0 ≤ y) (hy' : y ≤ 20000) (hm : 1 ≤ m) (hm' : m ≤ 13) (hd : 0 ≤ d) (hd' : d ≤ 1000000) : Ev (fun k => solsticeref01_Number.f k y m d) (num y m d) := by
  have ha : 365 * y + (y + 3) / 4 - (y + 99) / 100 + (y + 399) / 400 = ah y := by unfold ah; omega
  unfold solsticeref01_Number.f
  rw [w64 (x := y + 3) (by omega) (by omega), w64 (x := y + 99) (by omega) (by omega), w64 (x := y + 399) (by omega) (by omega), tdiv_nn 4 (by omega), tdiv_nn 100 (by omega), tdiv_nn 400 (by omega)]
  rw [w64 (x := 365 * y) (by omega) (by omega), w64 (x := (y + 3) / 4) (by omega) (by omega), w64 (x := (y + 99) / 100) (by omega) (by omega), w64 (x := (y + 399) / 400) (by omega) (by omega)]
  rw [w64 (x := 365 * y + (y + 3) / 4) (by omega) (by omega), w64 (x := 365 * y + (y + 3) / 4 - (y + 99) / 100) (by omega) (by omega), w64 (x := 365 * y + (y + 3) / 4 - (y + 99) / 100 + (y + 399) / 400) (by omega) (by omega), ha]
  have h1 := ah_le hy
  rw [ah_0] at h1
  have := rnum_l y m d (ah y) hy hy' (by omega) (by omega) hm' hd hd' (m - 1).toNat 1 (by omega) (by omega)
  rw [cum_1, Int.add_zero] at this
  rwa [show num y m d = ah y + cum y m + d - 1 - 719528 by unfold num; omega]
theorem rnum {y m d : Int} (h : Rt y m d) : Ev (fun k => solsticeref01_Number.f k y m d) (num y m d) := by
  obtain ⟨h1, h2, h3, h4, h5, h6⟩ := h
  have := ln_bd y m h3 h4
  exact rnum' h1 (by omega) h3 (by omega) (by omega) (by omega)
def LT : ByteArray := ⟨#[65, 66, 67, 68, 69, 70, 71, 72, 73, 74, 75, 76, 77, 78, 79, 80, 81, 82, 83, 84, 85, 86, 87, 88, 89, 90]⟩
def ltr (i : Nat) : ByteArray := LT.extract i (i + 1)
def nE : ByteArray := ⟨#[69]⟩
def nF : ByteArray := ⟨#[70]⟩
theorem ltr_all : ∀ i : Fin 20, (ltr i.1).data.toList ≠ [] ∧ (decide ((ltr i.1).size = 0) || ((ltr i.1).data.toList != [45] && (decide ((ltr i.1).size ≤ 6) && allN (okc [43, 45]) (ltr i.1) (ltr i.1).size 0))) = true := by decide +kernel
theorem ltr_ne {i : Nat} (h : i < 20) : (ltr i).data.toList ≠ [] := (ltr_all ⟨i, h⟩).1
theorem ltr_ok {i : Nat} (h : i < 20) : letB (ltr i) = true := by
  unfold letB
  rw [ByteArray.toList_eq]
  exact (ltr_all ⟨i, h⟩).2
theorem nE_ok : nameB nE = true := by decide +kernel
def yv (x0 : List Int) (i : Nat) : Int := wrap64 (1 + (wrap64 (Int.tmod (IntKind.u64.wrap (rd x0 ((i : Nat) : Int))) 3000)))
theorem yv_bd (x0 : List Int) (i : Nat) : 1 ≤ yv x0 i ∧ yv x0 i ≤ 3000 := by
  obtain ⟨r, h1, h2, e⟩ := um1 (rd x0 ((i : Nat) : Int)) (n := 3000) (by omega) (by omega)
  unfold yv
  rw [e]
  exact ⟨h1, h2⟩
def mon (i : Nat) : Int := wrap64 (1 + (Int.tmod ((i : Nat) : Int) 12))
theorem mon_bd {i : Nat} (h : i < 20) : 1 ≤ mon i ∧ mon i ≤ 12 := by
  unfold mon
  rw [tmod_if, if_pos (by omega), w64 (by omega) (by omega)]
  omega
def mkR (x0 : List Int) (x1 : List Bool) (i : Nat) : S43 := ⟨nE, yv x0 i, 9999, mon i, ⟨1, 0, 1⟩, ⟨0, 1⟩, if rdOf false x1 ((i : Nat) : Int) = true then 3600 else 0, ltr i⟩
def day1 (x0 : List Int) (i : Nat) : Int := num (yv x0 i) (mon i) 1
theorem rt1 (x0 : List Int) {i : Nat} (h : i < 20) : Rt (yv x0 i) (mon i) 1 := by
  have a := yv_bd x0 i
  have b := mon_bd h
  have c := ln_bd (yv x0 i) (mon i) b.1 b.2
  exact ⟨by omega, by omega, b.1, b.2, by omega, by omega⟩
theorem mkR_ok (x0 : List Int) (x1 : List Bool) {i : Nat} (h : i < 20) : RuleOk (mkR x0 x1 i) := by
  have a := yv_bd x0 i
  have b := mon_bd h
  refine ⟨nE_ok, ⟨a.1, ?_⟩, ⟨?_, ?_⟩, b, ?_, ?_, ?_, ltr_ok h, Or.inr ?_⟩
  · show yv x0 i ≤ 9999; omega
  · show yv x0 i ≤ 9999; omega
  · show (9999 : Int) ≤ 9999; omega
  · show OnR 1 0 1
    unfold OnR; omega
  · show -345600 ≤ (0 : Int) ∧ (0 : Int) ≤ 345600 ∧ (1 : Int) ≤ 1 ∧ (1 : Int) ≤ 3
    omega
  · show -86399 ≤ (if rdOf false x1 ((i : Nat) : Int) = true then (3600 : Int) else 0) ∧ (if rdOf false x1 ((i : Nat) : Int) = true then (3600 : Int) else 0) ≤ 86399
    split <;> omega
  · show (1 : Int) ≤ mostD (mkR x0 x1 i)
    have c := ln_bd 2000 (mkR x0 x1 i).f3 b.1 b.2
    unfold mostD
    split <;> omega
def rules (x0 : List Int) (x1 : List Bool) (n : Nat) : List S43 := (List.range n).map (mkR x0 x1)
theorem rules_len (x0 : List Int) (x1 : List Bool) (n : Nat) : (rules x0 x1 n).length = n := by simp [rules]
theorem rules_get (x0 : List Int) (x1 : List Bool) (n i : Nat) (h : i < n) : rd_T43 (rules x0 x1 n) ((i : Nat) : Int) = mkR x0 x1 i := by
  rw [rd43 _ i (by rw [rules_len]; exact h)]
  simp [rules]
def st (x0 : List Int) (x1 : List Bool) : Nat → Int × ByteArray
  | 0 => (0, ⟨#[]⟩)
  | n + 1 => if rdOf false x1 ((n : Nat) : Int) = true then st x0 x1 n else if (st x0 x1 n).2.data.toList = [] ∨ day1 x0 n < (st x0 x1 n).1 then (day1 x0 n, ltr n) else st x0 x1 n
theorem first_ev (x0 : List Int) (x1 : List Bool) {i : Nat} (h : i < 20) :
    Ev (fun k => onset_first.f k (mkR x0 x1 i).f0 (mkR x0 x1 i).f1 (mkR x0 x1 i).f2 (mkR x0 x1 i).f3 (mkR x0 x1 i).f4.f0 (mkR x0 x1 i).f4.f1 (mkR x0 x1 i).f4.f2 (mkR x0 x1 i).f5.f0 (mkR x0 x1 i).f5.f1 (mkR x0 x1 i).f6 (mkR x0 x1 i).f7 ((i : Nat) : Int))
      (((i : Nat) : Int), yv x0 i, day1 x0 i * 86400, true) := by
  have a := yv_bd x0 i
  have hr := rt1 x0 h
  have nb := num_bd hr
  unfold onset_first.f
  refine evstep ?_
  have hy : (mkR x0 x1 i).f1 ≤ (mkR x0 x1 i).f2 := by show yv x0 i ≤ 9999; omega
  simp only [onset_first.l0, if_pos hy]
  refine evb (one_ev (mkR x0 x1 i) ((i : Nat) : Int) (mkR x0 x1 i).f1) ?_
  have hres : resV (yv x0 i) (mon i) 1 0 1 = (day1 x0 i, 0) := by
    unfold resV
    rw [if_pos (show OnR 1 0 1 by unfold OnR; omega), if_neg (by omega), if_pos (show Rt (yv x0 i) (mon i) (fday (yv x0 i) (mon i) 1 1) from hr)]
    rfl
  have e : oneV (mkR x0 x1 i) ((i : Nat) : Int) (mkR x0 x1 i).f1 = (((i : Nat) : Int), yv x0 i, day1 x0 i * 86400, true) := by
    show (((i : Nat) : Int), yv x0 i, wrap64 (wrap64 ((resV (yv x0 i) (mon i) 1 0 1).1 * 86400) + 0), ((resV (yv x0 i) (mon i) 1 0 1).2 == 0)) = _
    rw [hres]
    show (((i : Nat) : Int), yv x0 i, wrap64 (wrap64 (day1 x0 i * 86400) + 0), ((0 : Int) == 0)) = _
    have w1 : wrap64 (day1 x0 i * 86400) = day1 x0 i * 86400 := w64 (by unfold day1; omega) (by unfold day1; omega)
    rw [w1, Int.add_zero, w1]
    rfl
  rw [e]
  simp only [if_true]
  exact Ev.now _
theorem letE_l (x0 : List Int) (x1 : List Bool) (n : Nat) (hn : n ≤ 20) : ∀ (m i : Nat) (met : Bool) (b0 b1 b2 : Int), i + m = n → (met = true ↔ (st x0 x1 i).2.data.toList ≠ []) → (met = true → b2 = (st x0 x1 i).1 * 86400) →
    Ev (fun k => onset_Letter.l0 k nE (st x0 x1 i).2 met (rules x0 x1 n) (n : Int) i b0 b1 b2) ((st x0 x1 n).2, 0)
  | 0, i, met, b0, b1, b2, h, h1, h2 => by
    have : i = n := by omega
    subst this
    refine evstep ?_
    simp only [onset_Letter.l0, Int.lt_irrefl, if_false]
    exact Ev.now _
  | m + 1, i, met, b0, b1, b2, h, h1, h2 => by
    have hi : i < n := by omega
    have hi20 : i < 20 := by omega
    refine evstep ?_
    simp only [onset_Letter.l0, rules_len, if_pos (show ((i : Nat) : Int) < (n : Int) by omega), if_pos (show (0 : Int) ≤ ((i : Nat) : Int) by omega), rules_get x0 x1 n i hi]
    have en : (mkR x0 x1 i).f0.toList = nE.toList := rfl
    simp only [if_pos en]
    refine evstep ?_
    simp only [onset_Letter.j1, wsuc i (by omega)]
    cases hs : rdOf false x1 ((i : Nat) : Int) with
    | true =>
      have e6 : ((mkR x0 x1 i).f6 != 0) = true := by
        show ((if rdOf false x1 ((i : Nat) : Int) = true then (3600 : Int) else 0) != 0) = true
        rw [hs]; rfl
      have es : st x0 x1 (i + 1) = st x0 x1 i := by rw [st, if_pos hs]
      simp only [e6, if_true]
      have ih := letE_l x0 x1 n hn m (i + 1) met b0 b1 b2 (by omega) (by rw [es]; exact h1) (by rw [es]; exact h2)
      rw [es] at ih
      exact ih
    | false =>
      have e6 : ((mkR x0 x1 i).f6 != 0) = false := by
        show ((if rdOf false x1 ((i : Nat) : Int) = true then (3600 : Int) else 0) != 0) = false
        rw [hs]; rfl
      simp only [e6, Bool.false_eq_true, if_false]
      refine evb (first_ev x0 x1 hi20) ?_
      simp only [if_true]
      have take (c0 c1 : Int) (hc : (st x0 x1 i).2.data.toList = [] ∨ day1 x0 i < (st x0 x1 i).1) : Ev (fun k => onset_Letter.l0 k nE (mkR x0 x1 i).f7 true (rules x0 x1 n) (n : Int) ((i + 1 : Nat) : Int) c0 c1 (day1 x0 i * 86400)) ((st x0 x1 n).2, 0) := by
        have es : st x0 x1 (i + 1) = (day1 x0 i, ltr i) := by rw [st, if_neg (by rw [hs]; decide), if_pos hc]
        have ih := letE_l x0 x1 n hn m (i + 1) true c0 c1 (day1 x0 i * 86400) (by omega) (by rw [es]; simp only [true_iff]; exact ltr_ne hi20) (by rw [es]; intro _; rfl)
        rw [es] at ih
        exact ih
      cases met with
      | false =>
        simp only [Bool.false_eq_true, if_false]
        have h0 : (st x0 x1 i).2.data.toList = [] := by
          by_cases hq : (st x0 x1 i).2.data.toList = []
          · exact hq
          · exact absurd (h1.2 hq) (by decide)
        exact take _ _ (Or.inl h0)
      | true =>
        simp only [if_true]
        have hb := h2 rfl
        have hne := h1.1 rfl
        refine evif (fun hc => take _ _ (Or.inr (by rw [hb] at hc; omega))) (fun hc => ?_)
        have es : st x0 x1 (i + 1) = st x0 x1 i := by
          rw [st, if_neg (by rw [hs]; decide), if_neg]
          rintro (hq | hq)
          · exact hne hq
          · rw [hb] at hc; omega
        have ih := letE_l x0 x1 n hn m (i + 1) true b0 b1 b2 (by omega) (by rw [es]; exact h1) (by rw [es]; exact h2)
        rw [es] at ih
        exact ih
theorem letF_l (x0 : List Int) (x1 : List Bool) (n : Nat) (hn : n ≤ 20) : ∀ (m i : Nat), i + m = n →
    Ev (fun k => onset_Letter.l0 k nF ⟨#[]⟩ false (rules x0 x1 n) (n : Int) i 0 0 0) (⟨#[]⟩, 0)
  | 0, i, h => by
    have : i = n := by omega
    subst this
    refine evstep ?_
    simp only [onset_Letter.l0, Int.lt_irrefl, if_false]
    exact Ev.now _
  | m + 1, i, h => by
    have hi : i < n := by omega
    have ih := letF_l x0 x1 n hn m (i + 1) (by omega)
    have en : ¬ (mkR x0 x1 i).f0.toList = nF.toList := by
      show ¬ nE.toList = nF.toList
      rw [ByteArray.toList_eq, ByteArray.toList_eq]
      decide
    refine evstep ?_
    simp only [onset_Letter.l0, rules_len, if_pos (show ((i : Nat) : Int) < (n : Int) by omega), if_pos (show (0 : Int) ≤ ((i : Nat) : Int) by omega), rules_get x0 x1 n i hi, if_neg en]
    refine evstep ?_
    simp only [onset_Letter.j1, if_true, wsuc i (by omega)]
    exact ih
theorem rules_ok (x0 : List Int) (x1 : List Bool) (n : Nat) (hn : n ≤ 20) : ∀ j (hj : j < (rules x0 x1 n).length), RuleOk (rules x0 x1 n)[j] := by
  intro j hj
  rw [rules_len] at hj
  have : (rules x0 x1 n)[j]'(by rw [rules_len]; exact hj) = mkR x0 x1 j := by simp [rules]
  rw [this]
  exact mkR_ok x0 x1 (by omega)
theorem letE (x0 : List Int) (x1 : List Bool) (n : Nat) (hn : n ≤ 20) : Ev (fun k => onset_Letter.f k (rules x0 x1 n) nE) ((st x0 x1 n).2, 0) := by
  unfold onset_Letter.f
  refine evb (check_ok (rules x0 x1 n) (by rw [rules_len]; omega) (by omega) (by omega) (rules_ok x0 x1 n hn)) ?_
  simp only [if_true, rules_len]
  exact letE_l x0 x1 n hn n 0 false 0 0 0 (by omega) (by simp [st]) (fun h => Bool.noConfusion h)
theorem letF (x0 : List Int) (x1 : List Bool) (n : Nat) (hn : n ≤ 20) : Ev (fun k => onset_Letter.f k (rules x0 x1 n) nF) (⟨#[]⟩, 0) := by
  unfold onset_Letter.f
  refine evb (check_ok (rules x0 x1 n) (by rw [rules_len]; omega) (by omega) (by omega) (rules_ok x0 x1 n hn)) ?_
  simp only [if_true, rules_len]
  exact letF_l x0 x1 n hn n 0 (by omega)
theorem letters_l (x0 : List Int) (x1 : List Bool) (hn : x0.length ≤ 20) (hs : x0.length ≤ x1.length) : ∀ (m i : Nat), i + m = x0.length →
    Ev (fun k => solsticelaw13_OnsetLetters.l0 k x0 x1 LT (rules x0 x1 i) (st x0 x1 i).1 (st x0 x1 i).2 i) true
  | 0, i, h => by
    have hi : i = x0.length := by omega
    subst hi
    refine evstep ?_
    simp only [solsticelaw13_OnsetLetters.l0, Int.lt_irrefl, if_false]
    refine evb (letE x0 x1 x0.length hn) ?_
    refine evb (letF x0 x1 x0.length hn) ?_
    have e0 : (ByteArray.mk #[]).toList = [] := by rw [ByteArray.toList_eq]
    simp only [if_true, e0]
    exact evb wakes13 (Ev.now _)
  | m + 1, i, h => by
    have hi : i < x0.length := by omega
    have hi20 : i < 20 := by omega
    have ih := letters_l x0 x1 hn hs m (i + 1) (by omega)
    have er : rules x0 x1 (i + 1) = rules x0 x1 i ++ [mkR x0 x1 i] := by
      unfold rules
      rw [List.range_succ, List.map_append]; rfl
    have el : LT.size = 26 := rfl
    have ex : LT.extract (((i : Nat) : Int)).toNat (((i + 1 : Nat) : Int)).toNat = ltr i := rfl
    refine evstep ?_
    simp only [solsticelaw13_OnsetLetters.l0, wsuc i (by omega), el, if_pos (show ((i : Nat) : Int) < (x0.length : Int) by omega), if_pos (show (0 : Int) ≤ ((i : Nat) : Int) by omega), if_pos (show ((i : Nat) : Int) ≤ ((i + 1 : Nat) : Int) by omega), if_pos (show ((i + 1 : Nat) : Int) ≤ ((26 : Nat) : Int) by omega), if_pos (show ((i : Nat) : Int) < (x1.length : Int) by omega), rules_len, if_pos (show i < 1353245080339 by omega), ex]
    have hnum := rnum (rt1 x0 hi20)
    cases hsv : rdOf false x1 ((i : Nat) : Int) with
    | true =>
      have es : st x0 x1 (i + 1) = st x0 x1 i := by rw [st, if_pos hsv]
      have em : mkR x0 x1 i = ⟨nE, yv x0 i, 9999, mon i, ⟨1, 0, 1⟩, ⟨0, 1⟩, 3600, ltr i⟩ := by unfold mkR; rw [if_pos hsv]
      rw [er, es, em] at ih
      simp only [if_true]
      exact ih
    | false =>
      have em : mkR x0 x1 i = ⟨nE, yv x0 i, 9999, mon i, ⟨1, 0, 1⟩, ⟨0, 1⟩, 0, ltr i⟩ := by unfold mkR; rw [if_neg (by rw [hsv]; decide)]
      simp only [Bool.false_eq_true, if_false]
      refine evb hnum ?_
      rw [ByteArray.toList_eq]
      have take (hc : (st x0 x1 i).2.data.toList = [] ∨ day1 x0 i < (st x0 x1 i).1) : Ev (fun k => solsticelaw13_OnsetLetters.l0 k x0 x1 LT (rules x0 x1 i ++ [⟨nE, yv x0 i, 9999, mon i, ⟨1, 0, 1⟩, ⟨0, 1⟩, 0, ltr i⟩]) (day1 x0 i) (ltr i) ((i + 1 : Nat) : Int)) true := by
        have es : st x0 x1 (i + 1) = (day1 x0 i, ltr i) := by rw [st, if_neg (by rw [hsv]; decide), if_pos hc]
        rw [er, es, em] at ih
        exact ih
      refine evif (fun hc => take (Or.inl hc)) (fun hc => evif (fun hd => take (Or.inr hd)) (fun hd => ?_))
      have es : st x0 x1 (i + 1) = st x0 x1 i := by
        rw [st, if_neg (by rw [hsv]; decide), if_neg]
        rintro (hq | hq)
        · exact hc hq
        · exact hd hq
      rw [er, es, em] at ih
      exact ih
theorem OnsetLetters (x0 : List Int) (x1 : List Bool) : ∃ k, solsticelaw13_OnsetLetters.f k x0 x1 = some true := by
  suffices h : Ev (fun k => solsticelaw13_OnsetLetters.f k x0 x1) true from h.rounds
  have jt : Ev (fun k => solsticelaw13_OnsetLetters.j0 k x0 x1 true) true := by
    refine evstep ?_
    simp only [solsticelaw13_OnsetLetters.j0, if_true]
    exact Ev.now _
  unfold solsticelaw13_OnsetLetters.f
  refine evif (fun _ => jt) (fun h1 => ?_)
  by_cases h2 : (x1.length : Int) < (x0.length : Int)
  · rw [decide_eq_true h2]; exact jt
  · rw [decide_eq_false h2]
    refine evstep ?_
    simp only [solsticelaw13_OnsetLetters.j0, Bool.false_eq_true, if_false]
    exact letters_l x0 x1 (by omega) (by omega) x0.length 0 (by omega)
end Go.Proofs.Ytdhljcnilclfbaa.Pure
