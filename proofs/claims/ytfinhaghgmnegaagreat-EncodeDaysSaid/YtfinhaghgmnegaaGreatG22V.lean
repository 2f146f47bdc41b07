/- What the small functions of layer 22 compute, and what a right rule lets, in plain numbers. No condition beyond those each lemma names. -/
import Derived.Test.YtfinhaghgmnegaaGreatG422
import Derived.Test.YtfinhaghgmnegaaGreatMHa
import Derived.Test.YtfinhaghgmnegaaGreatMOx3
import Derived.Test.YtfinhaghgmnegaaGreatOx150
import Derived.Test.YtfinhaghgmnegaaGreatOx26
import Derived.Test.YtfinhaghgmnegaaGreatMOx49
import Derived.Test.YtfinhaghgmnegaaGreatMOx87
namespace Go.Proofs.YtfinhaghgmnegaaGreat.Pure
open Go.RowKit Go.Proofs.YtfinhaghgmnegaaGreat.O Go.Proofs.YtfinhaghgmnegaaGreatW.PrintWords Go.Proofs.YtfinhaghgmnegaaGreatW.PrintLast
open Go.Proofs.YtfinhaghgmnegaaGreat.Civ
set_option linter.unusedVariables false
set_option linter.unusedSimpArgs false
/-! What the printed functions of layer 22 tell, in plain numbers. -/
theorem evp {α : Type} {c : Prop} [Decidable c] {f g : Nat → Option α} {r : α} (h : c) (k : Ev f r) : Ev (fun n => if c then f n else g n) r := by simp only [if_pos h]; exact k
theorem evn {α : Type} {c : Prop} [Decidable c] {f g : Nat → Option α} {r : α} (h : ¬ c) (k : Ev g r) : Ev (fun n => if c then f n else g n) r := by simp only [if_neg h]; exact k
theorem csplit {t : Int} (h : -9223372036854775808 ≤ t) (h' : t < 9223372036854775808) : clock_Split.f t = some (t / 86400, t % 86400) := by
  unfold clock_Split.f
  rw [tmod_if, tdiv_if]
  by_cases ht : 0 ≤ t
  · rw [if_pos ht, if_pos ht, if_neg (by omega), w64 (by omega) (by omega)]
  · rw [if_neg ht, if_neg ht]
    by_cases hz : -(-t % 86400) < 0
    · rw [if_pos hz, w64 (x := -(-t / 86400)) (by omega) (by omega), w64 (x := -(-t / 86400) - 1) (by omega) (by omega), w64 (by omega) (by omega)]
      congr 1
      exact Prod.ext (by show -(-t / 86400) - 1 = t / 86400; omega) (by show -(-t % 86400) + 86400 = t % 86400; omega)
    · rw [if_neg hz, w64 (by omega) (by omega)]
      congr 1
      exact Prod.ext (by show -(-t / 86400) = t / 86400; omega) (by show -(-t % 86400) = t % 86400; omega)
theorem fnum {y m d : Int} (h : Rt y m d) : Ev (fun k => filter_number.f k y m d) (num y m d) := by
  unfold filter_number.f
  exact evb (cnum h) (evs rfl)
theorem num_least : num 1 1 1 = -719162 := by decide
theorem num_most : num 10000 1 1 = 2932897 := by decide
theorem rt_first {y : Int} (h : 0 ≤ y) (h' : y ≤ 10000) : Rt y 1 1 := ⟨h, h', by omega, by omega, by omega, by have := (ln_bd y 1 (by omega) (by omega)).1; omega⟩
theorem fleast : Ev (fun k => filter_least.f k) (-62135596800) := by
  unfold filter_least.f
  refine evb (fnum (rt_first (by omega) (by omega))) (evs ?_)
  rw [num_least, w64 (by omega) (by omega)]
  rfl
theorem fmost : Ev (fun k => filter_most.f k) 253402300799 := by
  unfold filter_most.f
  refine evb (fnum (rt_first (by omega) (by omega))) (evs ?_)
  rw [num_most, w64 (x := 2932897 * 86400) (by omega) (by omega), w64 (by omega) (by omega)]
  rfl
/-- A time of a year from 1 to 9999. -/
def InT (t : Int) : Prop := -62135596800 ≤ t ∧ t ≤ 253402300799
instance (t : Int) : Decidable (InT t) := by unfold InT; infer_instance
theorem fin_ (t : Int) : Ev (fun k => filter_in.f k t) (decide (InT t)) := by
  unfold filter_in.f InT
  refine evb fleast (evif (fun h => evb fmost (evs ?_)) (fun h => evs ?_))
  · exact decide_eq_decide.2 ⟨fun a => ⟨h, a⟩, fun a => a.2⟩
  · exact (decide_eq_false (by omega)).symm
theorem cidx (l : List Int) (x : Int) (hl : l.length ≤ 1000000000) : ∀ (n j : Nat), j + n = l.length → ∃ r, Ev (fun k => slices_Index_int_int.l0 k l x (l.length : Int) (j : Int)) r ∧ (0 ≤ r ↔ x ∈ l.drop j)
  | 0, j, e => by
    refine ⟨-1, evstep ?_, ?_⟩
    · simp only [slices_Index_int_int.l0, if_neg (show ¬ ((j : Int) < (l.length : Int)) by omega)]
      exact Ev.now _
    · rw [List.drop_of_length_le (by omega)]
      simp
  | n + 1, j, e => by
    have hj : j < l.length := by omega
    have hd : l.drop j = l[j] :: l.drop (j + 1) := List.drop_eq_getElem_cons hj
    have hrd : rd l (j : Int) = l[j] := by unfold rd; simp [List.getD, hj]
    by_cases c : x = l[j]
    · refine ⟨j, evstep ?_, ?_⟩
      · simp only [slices_Index_int_int.l0, if_pos (show (j : Int) < (l.length : Int) by omega), if_pos (show 0 ≤ (j : Int) by omega), hrd, if_pos c]
        exact Ev.now _
      · rw [hd]
        exact ⟨fun _ => by rw [c]; exact List.mem_cons_self, fun _ => by omega⟩
    · obtain ⟨r, h1, h2⟩ := cidx l x hl n (j + 1) (by omega)
      refine ⟨r, evstep ?_, ?_⟩
      · simp only [slices_Index_int_int.l0, if_pos (show (j : Int) < (l.length : Int) by omega), if_pos (show 0 ≤ (j : Int) by omega), hrd, if_neg c, w64 (x := (j : Int) + 1) (by omega) (by omega)]
        exact h1
      · rw [h2, hd, List.mem_cons]
        exact ⟨Or.inr, fun h => h.resolve_left c⟩
theorem ccont (l : List Int) (x : Int) (hl : l.length ≤ 1000000000) : Ev (fun k => slices_Contains_int_int.f k l x) (decide (x ∈ l)) := by
  obtain ⟨r, h1, h2⟩ := cidx l x hl l.length 0 (by omega)
  unfold slices_Contains_int_int.f slices_Index_int_int.f
  refine evb h1 (evs ?_)
  rw [List.drop_zero] at h2
  exact decide_eq_decide.2 h2
def oneV (l : List Int) (n s : Int) (asked : Bool) : Bool := if l = [] then (!asked || n == s) else decide (n ∈ l)
theorem fone (l : List Int) (n s : Int) (asked : Bool) (hl : l.length ≤ 1000000000) : Ev (fun k => filter_one.f k l n s asked) (oneV l n s asked) := by
  unfold filter_one.f oneV
  by_cases c : l = []
  · subst c
    rw [if_pos rfl]
    simp only [List.length_nil, Int.natCast_zero, if_true]
    cases asked
    · exact Ev.now _
    · exact Ev.now _
  · rw [if_neg c]
    have : ¬ ((l.length : Int) = 0) := by
      intro h
      exact c (List.eq_nil_of_length_eq_zero (by omega))
    simp only [if_neg this]
    exact evb (ccont l n hl) (evs rfl)
def eitherV (l : List Int) (n many : Int) : Bool := decide (l = []) || decide (n ∈ l) || decide (n - many - 1 ∈ l)
theorem feither (l : List Int) (n many : Int) (hl : l.length ≤ 1000000000) (h1 : -1000000 ≤ n) (h2 : n ≤ 1000000) (h3 : -1000000 ≤ many) (h4 : many ≤ 1000000) : Ev (fun k => filter_either.f k l n many) (eitherV l n many) := by
  unfold filter_either.f eitherV
  by_cases c : l = []
  · subst c
    simp only [List.length_nil, Int.natCast_zero, if_true, decide_true, Bool.true_or]
    exact Ev.now _
  · have : ¬ ((l.length : Int) = 0) := by
      intro h
      exact c (List.eq_nil_of_length_eq_zero (by omega))
    simp only [if_neg this]
    rw [decide_eq_false c, Bool.false_or]
    refine evb (ccont l n hl) ?_
    by_cases c2 : n ∈ l
    · rw [decide_eq_true c2]
      exact Ev.now _
    · rw [decide_eq_false c2, w64 (x := n - many) (by omega) (by omega), w64 (by omega) (by omega), Bool.false_or]
      exact evb (ccont l _ hl) (evs rfl)
theorem num_12_28 (y : Int) : num y 12 28 = num (y + 1) 1 4 - 7 := by
  rw [num_1, ah_succ]
  unfold num
  have : cum y 12 = 334 + lpi y := by simp [cum]
  omega
theorem rt_4 {y : Int} (h : 0 ≤ y) (h' : y ≤ 10000) : Rt y 1 4 := ⟨h, h', by omega, by omega, by omega, by have := (ln_bd y 1 (by omega) (by omega)).1; omega⟩
theorem rt_28 {y : Int} (h : 0 ≤ y) (h' : y ≤ 10000) : Rt y 12 28 := ⟨h, h', by omega, by omega, by omega, by have := (ln_bd y 12 (by omega) (by omega)).1; omega⟩
theorem rt_31 {y : Int} (h : 0 ≤ y) (h' : y ≤ 10000) : Rt y 12 31 := ⟨h, h', by omega, by omega, by omega, by simp [ln]⟩
theorem fweeks {y k : Int} (h : 0 ≤ y) (h' : y ≤ 10000) (hk : 0 ≤ k) (hk' : k ≤ 6) : Ev (fun q => filter_weeks.f q y k) (fw y k, fw (y + 1) k - 1) := by
  unfold filter_weeks.f
  have b1 := num_bd (rt_4 h h')
  have b2 := num_bd (rt_28 h h')
  refine evb (fnum (rt_4 h h')) (evb (fnum (rt_28 h h')) ?_)
  simp only [cwd, Option.bind_some]
  have w1 := wd_bd (num y 1 4)
  have w2 := wd_bd (num y 12 28)
  have d1 := dnw_bd (num y 1 4) k
  have d2 := dnw_bd (num y 12 28) k
  rw [w64 (x := wd (num y 1 4) - k) (by omega) (by omega), w64 (x := wd (num y 1 4) - k + 7) (by omega) (by omega), w64 (x := wd (num y 12 28) - k) (by omega) (by omega), w64 (x := wd (num y 12 28) - k + 7) (by omega) (by omega), tmod_nn 7 (by omega), tmod_nn 7 (by omega)]
  have e1 : (wd (num y 1 4) - k + 7) % 7 = dnw (num y 1 4) k := by unfold dnw; omega
  have e2 : (wd (num y 12 28) - k + 7) % 7 = dnw (num y 12 28) k := by unfold dnw; omega
  rw [e1, e2, w64 (x := num y 1 4 - dnw (num y 1 4) k) (by omega) (by omega), w64 (x := num y 12 28 - dnw (num y 12 28) k) (by omega) (by omega), w64 (x := num y 12 28 - dnw (num y 12 28) k + 7) (by omega) (by omega), w64 (by omega) (by omega)]
  refine evs ?_
  have e3 := num_12_28 y
  have e4 : dnw (num y 12 28) k = dnw (num (y + 1) 1 4) k := by rw [e3]; unfold dnw wd; omega
  exact Prod.ext rfl (by show num y 12 28 - dnw (num y 12 28) k + 7 - 1 = fw (y + 1) k - 1; unfold fw; omega)
/-- A right rule. -/
structure Right (r : RR) : Prop where
  ok : okRecur r.fr r.iv r.ct r.un r.ua r.utc r.sec r.mi r.ho r.dy r.md r.yd r.wn r.mo r.sp r.wk = true
  ct0 : 0 ≤ r.ct
  ct1 : r.ct ≤ 100000
  en : (r.un = false ∧ r.ua = 0 ∧ r.utc = false) ∨ (r.un = true ∧ r.ct = 0 ∧ InT r.ua)
theorem dt_year {t : Int} (h : InT t) : 1 ≤ (dt (t / 86400)).1 ∧ (dt (t / 86400)).1 ≤ 9999 ∧ -719162 ≤ t / 86400 ∧ t / 86400 ≤ 2932896 := by
  unfold InT at h
  have hd : -719162 ≤ t / 86400 ∧ t / 86400 ≤ 2932896 := by omega
  have := (yr_range (n := t / 86400) (by omega) (by omega)).2 hd
  unfold yr at this
  exact ⟨this.1, this.2, hd.1, hd.2⟩
theorem fyear {t : Int} (h : InT t) : Ev (fun k => recur_year.f k t) true := by
  have hd := dt_year h
  unfold InT at h
  unfold recur_year.f
  simp only [csplit (t := t) (by omega) (by omega), Option.bind_some]
  refine evb (cdate_dt (by omega) (by omega)) ?_
  simp only [if_true]
  refine evp hd.1 ?_
  rw [decide_eq_true hd.2.1]
  exact Ev.now _
/-- What is known of a right rule's lists. -/
structure Lens (r : RR) : Prop where
  f0 : 1 ≤ r.fr
  f1 : r.fr ≤ 7
  w0 : 0 ≤ r.wk
  w1 : r.wk ≤ 6
  sec : r.sec.length ≤ 1000000000
  mi : r.mi.length ≤ 1000000000
  ho : r.ho.length ≤ 1000000000
  dy : r.dy.length ≤ 1000000000
  md : r.md.length ≤ 1000000000
  yd : r.yd.length ≤ 1000000000
  wn : r.wn.length ≤ 1000000000
  mo : r.mo.length ≤ 1000000000
  sp : r.sp.length ≤ 1000000000
  nums : ∀ x ∈ r.dy, -53 ≤ x.f0 ∧ x.f0 ≤ 53 ∧ 0 ≤ x.f1 ∧ x.f1 ≤ 6
theorem Right.lens {r : RR} (h : Right r) : Lens r := by
  have hh := h.ok
  simp only [okRecur, okList, Bool.and_eq_true, decide_eq_true_eq] at hh
  obtain ⟨⟨⟨⟨⟨⟨q1, q2⟩, q3, q4⟩, q5, q6⟩, ⟨⟨⟨⟨⟨⟨⟨p6, p7⟩, p8⟩, p10⟩, p11⟩, p12⟩, p13⟩, p14⟩⟩, ⟨p91, p92⟩, p93⟩, pb⟩ := hh
  refine ⟨q1, q2, q5, q6, p6.2, p7.2, p8.2, p93, p10.2, p11.2, p12.2, p13.2, p14.2, fun x hx => ?_⟩
  have := List.all_eq_true.1 p91 x hx
  simp only [okBy, Bool.and_eq_true, decide_eq_true_eq] at this
  exact ⟨this.1.1.2, this.1.2, this.1.1.1.1, this.1.1.1.2⟩
/-- A day's week's year. -/
noncomputable def wy (r : RR) (n : Int) : Int := (noV n r.wk).1
noncomputable def weekNoV (r : RR) (n : Int) : Bool := if r.wn = [] then true else eitherV r.wn (noV n r.wk).2.1 ((fw (wy r n + 1) r.wk - fw (wy r n) r.wk) / 7)
theorem yr_mid {n k : Int} (h : -719162 ≤ n) (h' : n ≤ 2932896) : 0 ≤ yr (mid n k) ∧ yr (mid n k) ≤ 10000 ∧ -719528 ≤ mid n k ∧ mid n k ≤ 2933262 := by
  have hd := dnw_bd n k
  have hm : -719528 ≤ mid n k ∧ mid n k ≤ 2933262 := by unfold mid; omega
  have := yr_bd hm.1 hm.2
  exact ⟨this.1, this.2.1, hm.1, hm.2⟩
theorem noV_in {n k : Int} (h : -719162 ≤ n) (h' : n ≤ 2932896) (hk : 0 ≤ k) (hk' : k ≤ 6) : noV n k = (yr (mid n k), (n - fw (yr (mid n k)) k) / 7 + 1, 0) := by
  have := (yr_range (n := n) (by omega) (by omega)).2 ⟨h, h'⟩
  unfold noV
  rw [if_pos ⟨hk, hk'⟩, if_pos ⟨by omega, by omega, this.1, this.2⟩]
/-- The days among which a weekday is counted. -/
noncomputable def fromV (r : RR) (n : Int) : Int := if r.fr = 6 ∨ r.mo ≠ [] then num (dt n).1 (dt n).2.1 1 else num (dt n).1 1 1
noncomputable def toV (r : RR) (n : Int) : Int := if r.fr = 6 ∨ r.mo ≠ [] then num (dt n).1 (dt n).2.1 1 + ln (dt n).1 (dt n).2.1 - 1 else num (dt n).1 12 31
noncomputable def numberedV (r : RR) (n : Int) (x : S44) : Bool := decide (x.f1 = wd n) && (decide (x.f0 = 0) || ((nthV (fromV r n) (toV r n) x.f0 x.f1).2 && ((nthV (fromV r n) (toV r n) x.f0 x.f1).1 == n)))
theorem rt_m1 {y m d : Int} (h : Rt y m d) : Rt y m 1 := ⟨h.1, h.2.1, h.2.2.1, h.2.2.2.1, by omega, by have := (ln_bd y m h.2.2.1 h.2.2.2.1).1; omega⟩
noncomputable def likeV (r : RR) (n first : Int) : Bool :=
  if 0 < r.yd.length + r.md.length + r.dy.length then true
  else if 0 < r.wn.length ∨ r.fr = 5 then wd n == wd first
  else if r.fr < 5 then true
  else if r.fr = 7 ∧ r.mo = [] ∧ (dt n).2.1 ≠ (dt first).2.1 then false
  else (dt n).2.2 == (dt first).2.2
noncomputable def dayV (r : RR) (first n : Int) : Bool :=
  oneV r.mo (dt n).2.1 0 false && (weekNoV r n && eitherV r.yd (yd n) (365 + lpi (dt n).1) && eitherV r.md (dt n).2.2 (ln (dt n).1 (dt n).2.1)) && (decide (r.dy = []) || r.dy.any (numberedV r n)) && likeV r n first
end Go.Proofs.YtfinhaghgmnegaaGreat.Pure
