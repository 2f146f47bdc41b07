/- Whether a right rule lets a time, as the functions of layer 22 compute it, in plain numbers. No condition beyond those each lemma names. -/
import Derived.Test.YtmhpmkbifhgnbaaG422D
import Derived.Test.YtmhpmkbifhgnbaaOx0
import Derived.Test.YtmhpmkbifhgnbaaOx10
import Derived.Test.YtmhpmkbifhgnbaaOx11
import Derived.Test.YtmhpmkbifhgnbaaOx17
import Derived.Test.YtmhpmkbifhgnbaaOx19
import Derived.Test.YtmhpmkbifhgnbaaOx23
import Derived.Test.YtmhpmkbifhgnbaaOx26
import Derived.Test.YtmhpmkbifhgnbaaOx27
import Derived.Test.YtmhpmkbifhgnbaaOx28
import Derived.Test.YtmhpmkbifhgnbaaOx29
import Derived.Test.YtmhpmkbifhgnbaaOx37
import Derived.Test.YtmhpmkbifhgnbaaOx38
import Derived.Test.YtmhpmkbifhgnbaaOx39
import Derived.Test.YtmhpmkbifhgnbaaOx40
import Derived.Test.YtmhpmkbifhgnbaaOx41
import Derived.Test.YtmhpmkbifhgnbaaOx43
import Derived.Test.YtmhpmkbifhgnbaaOx46
import Derived.Test.YtmhpmkbifhgnbaaOx47
import Derived.Test.YtmhpmkbifhgnbaaOx48
import Derived.Test.YtmhpmkbifhgnbaaOx9
namespace Go.Proofs.Ytmhpmkbifhgnbaa.Pure
open Go.RowKit Go.Proofs.Ytmhpmkbifhgnbaa.O Go.Proofs.YtmhpmkbifhgnbaaW.PrintWords Go.Proofs.YtmhpmkbifhgnbaaW.PrintLast
open Go.Proofs.Ytmhpmkbifhgnbaa.Civ
set_option linter.unusedVariables false
set_option linter.unusedSimpArgs false
/-! What the printed functions of layer 22 tell, in plain numbers. -/
theorem evp {α : Type} {c : Prop} [Decidable c] {f g : Nat → Option α} {r : α} (h : c) (k : Ev f r) : Ev (fun n => if c then f n else g n) r := by simp only [if_pos h]; exact k
theorem evn {α : Type} {c : Prop} [Decidable c] {f g : Nat → Option α} {r : α} (h : ¬ c) (k : Ev g r) : Ev (fun n => if c then f n else g n) r := by simp only [if_neg h]; exact k
theorem csplit {t : Int} (h : -9223372036854775808 ≤ t) (h' : t < 9223372036854775808) : clock_Split.f t = some (t / 86400, t % 86400) := by
  unfold clock_Split.f
  rw [tmod_if, tdiv_if]
  by_cases ht : 0 ≤ t
  · rw [if_pos ht, if_pos ht, if_neg (by omega), w64 (by omega) (by omega)]
  · rw [if_neg ht, if_neg ht]
    by_cases hz : -(-t % 86400) < 0
    · rw [if_pos hz, w64 (x := -(-t / 86400)) (by omega) (by omega), w64 (x := -(-t / 86400) - 1) (by omega) (by omega), w64 (by omega) (by omega)]
      congr 1
      exact Prod.ext (by show -(-t / 86400) - 1 = t / 86400; omega) (by show -(-t % 86400) + 86400 = t % 86400; omega)
    · rw [if_neg hz, w64 (by omega) (by omega)]
      congr 1
      exact Prod.ext (by show -(-t / 86400) = t / 86400; omega) (by show -(-t % 86400) = t % 86400; omega)
theorem fnum {y m d : Int} (h : Rt y m d) : Ev (fun k => filter_number.f k y m d) (num y m d) := by
  unfold filter_number.f
  exact evb (cnum h) (evs rfl)
theorem num_least : num 1 1 1 = -719162 := by decide
theorem num_most : num 10000 1 1 = 2932897 := by decide
theorem rt_first {y : Int} (h : 0 ≤ y) (h' : y ≤ 10000) : Rt y 1 1 := ⟨h, h', by omega, by omega, by omega, by have := (ln_bd y 1 (by omega) (by omega)).1; omega⟩
theorem fleast : Ev (fun k => filter_least.f k) (-62135596800) := by
  unfold filter_least.f
  refine evb (fnum (rt_first (by omega) (by omega))) (evs ?_)
  rw [num_least, w64 (by omega) (by omega)]
  rfl
theorem fmost : Ev (fun k => filter_most.f k) 253402300799 := by
  unfold filter_most.f
  refine evb (fnum (rt_first (by omega) (by omega))) (evs ?_)
  rw [num_most, w64 (x := 2932897 * 86400) (by omega) (by omega), w64 (by omega) (by omega)]
  rfl
/-- A time of a year from 1 to 9999. -/
def InT (t : Int) : Prop := -62135596800 ≤ t ∧ t ≤ 253402300799
instance (t : Int) : Decidable (InT t) := by unfold InT; infer_instance
theorem fin_ (t : Int) : Ev (fun k => filter_in.f k t) (decide (InT t)) := by
  unfold filter_in.f InT
  refine evb fleast (evif (fun h => evb fmost (evs ?_)) (fun h => evs ?_))
  · exact decide_eq_decide.2 ⟨fun a => ⟨h, a⟩, fun a => a.2⟩
  · exact (decide_eq_false (by omega)).symm
theorem cidx (l : List Int) (x : Int) (hl : l.length ≤ 1000000000) : ∀ (n j : Nat), j + n = l.length → ∃ r, Ev (fun k => slices_Index_int_int.l0 k l x (l.length : Int) (j : Int)) r ∧ (0 ≤ r ↔ x ∈ l.drop j)
  | 0, j, e => by
    refine ⟨-1, evstep ?_, ?_⟩
    · simp only [slices_Index_int_int.l0, if_neg (show ¬ ((j : Int) < (l.length : Int)) by omega)]
      exact Ev.now _
    · rw [List.drop_of_length_le (by omega)]
      simp
  | n + 1, j, e => by
    have hj : j < l.length := by omega
    have hd : l.drop j = l[j] :: l.drop (j + 1) := List.drop_eq_getElem_cons hj
    have hrd : rd l (j : Int) = l[j] := by unfold rd; simp [List.getD, hj]
    by_cases c : x = l[j]
    · refine ⟨j, evstep ?_, ?_⟩
      · simp only [slices_Index_int_int.l0, if_pos (show (j : Int) < (l.length : Int) by omega), if_pos (show 0 ≤ (j : Int) by omega), hrd, if_pos c]
        exact Ev.now _
      · rw [hd]
        exact ⟨fun _ => by rw [c]; exact List.mem_cons_self, fun _ => by omega⟩
    · obtain ⟨r, h1, h2⟩ := cidx l x hl n (j + 1) (by omega)
      refine ⟨r, evstep ?_, ?_⟩
      · simp only [slices_Index_int_int.l0, if_pos (show (j : Int) < (l.length : Int) by omega), if_pos (show 0 ≤ (j : Int) by omega), hrd, if_neg c, w64 (x := (j : Int) + 1) (by omega) (by omega)]
        exact h1
      · rw [h2, hd, List.mem_cons]
        exact ⟨Or.inr, fun h => h.resolve_left c⟩
theorem ccont (l : List Int) (x : Int) (hl : l.length ≤ 1000000000) : Ev (fun k => slices_Contains_int_int.f k l x) (decide (x ∈ l)) := by
  obtain ⟨r, h1, h2⟩ := cidx l x hl l.length 0 (by omega)
  unfold slices_Contains_int_int.f slices_Index_int_int.f
  refine evb h1 (evs ?_)
  rw [List.drop_zero] at h2
  exact decide_eq_decide.2 h2
def oneV (l : List Int) (n s : Int) (asked : Bool) : Bool := if l = [] then (!asked || n == s) else decide (n ∈ l)
theorem fone (l : List Int) (n s : Int) (asked : Bool) (hl : l.length ≤ 1000000000) : Ev (fun k => filter_one.f k l n s asked) (oneV l n s asked) := by
  unfold filter_one.f oneV
  by_cases c : l = []
  · subst c
    rw [if_pos rfl]
    simp only [List.length_nil, Int.natCast_zero, if_true]
    cases asked
    · exact Ev.now _
    · exact Ev.now _
  · rw [if_neg c]
    have : ¬ ((l.length : Int) = 0) := by
      intro h
      exact c (List.eq_nil_of_length_eq_zero (by omega))
    simp only [if_neg this]
    exact evb (ccont l n hl) (evs rfl)
def eitherV (l : List Int) (n many : Int) : Bool := decide (l = []) || decide (n ∈ l) || decide (n - many - 1 ∈ l)
theorem feither (l : List Int) (n many : Int) (hl : l.length ≤ 1000000000) (h1 : -1000000 ≤ n) (h2 : n ≤ 1000000) (h3 : -1000000 ≤ many) (h4 : many ≤ 1000000) : Ev (fun k => filter_either.f k l n many) (eitherV l n many) := by
  unfold filter_either.f eitherV
  by_cases c : l = []
  · subst c
    simp only [List.length_nil, Int.natCast_zero, if_true, decide_true, Bool.true_or]
    exact Ev.now _
  · have : ¬ ((l.length : Int) = 0) := by
      intro h
      exact c (List.eq_nil_of_length_eq_zero (by omega))
    simp only [if_neg this]
    rw [decide_eq_false c, Bool.false_or]
    refine evb (ccont l n hl) ?_
    by_cases c2 : n ∈ l
    · rw [decide_eq_true c2]
      exact Ev.now _
    · rw [decide_eq_false c2, w64 (x := n - many) (by omega) (by omega), w64 (by omega) (by omega), Bool.false_or]
      exact evb (ccont l _ hl) (evs rfl)
theorem num_12_28 (y : Int) : num y 12 28 = num (y + 1) 1 4 - 7 := by
  rw [num_1, ah_succ]
  unfold num
  have : cum y 12 = 334 + lpi y := by simp [cum]
  omega
theorem rt_4 {y : Int} (h : 0 ≤ y) (h' : y ≤ 10000) : Rt y 1 4 := ⟨h, h', by omega, by omega, by omega, by have := (ln_bd y 1 (by omega) (by omega)).1; omega⟩
theorem rt_28 {y : Int} (h : 0 ≤ y) (h' : y ≤ 10000) : Rt y 12 28 := ⟨h, h', by omega, by omega, by omega, by have := (ln_bd y 12 (by omega) (by omega)).1; omega⟩
theorem rt_31 {y : Int} (h : 0 ≤ y) (h' : y ≤ 10000) : Rt y 12 31 := ⟨h, h', by omega, by omega, by omega, by simp [ln]⟩
/-- A rule. -/
structure RR where
  fr : Int
  iv : Int
  ct : Int
  un : Bool
  ua : Int
  utc : Bool
  sec : List Int
  mi : List Int
  ho : List Int
  dy : List S47
  md : List Int
  yd : List Int
  wn : List Int
  mo : List Int
  sp : List Int
  wk : Int
/-- A right rule. -/
structure Right (r : RR) : Prop where
  ok : okRecur r.fr r.iv r.ct r.un r.ua r.utc r.sec r.mi r.ho r.dy r.md r.yd r.wn r.mo r.sp r.wk = true
  ct0 : 0 ≤ r.ct
  ct1 : r.ct ≤ 100000
  yd0 : r.yd = []
  md0 : r.md = []
  mo0 : r.mo = []
  wn0 : r.wn = []
  en : (r.un = false ∧ r.ua = 0 ∧ r.utc = false) ∨ (r.un = true ∧ r.ct = 0 ∧ InT r.ua)
theorem dt_year {t : Int} (h : InT t) : 1 ≤ (dt (t / 86400)).1 ∧ (dt (t / 86400)).1 ≤ 9999 ∧ -719162 ≤ t / 86400 ∧ t / 86400 ≤ 2932896 := by
  unfold InT at h
  have hd : -719162 ≤ t / 86400 ∧ t / 86400 ≤ 2932896 := by omega
  have := (yr_range (n := t / 86400) (by omega) (by omega)).2 hd
  unfold yr at this
  exact ⟨this.1, this.2, hd.1, hd.2⟩
theorem fyear {t : Int} (h : InT t) : Ev (fun k => recur_year.f k t) true := by
  have hd := dt_year h
  unfold InT at h
  unfold recur_year.f
  simp only [csplit (t := t) (by omega) (by omega), Option.bind_some]
  refine evb (cdate_dt (by omega) (by omega)) ?_
  simp only [if_true]
  refine evp hd.1 ?_
  rw [decide_eq_true hd.2.1]
  exact Ev.now _
theorem fends {r : RR} (h : Right r) : Ev (fun k => recur_ends.f k r.fr r.iv r.ct r.un r.ua r.utc r.sec r.mi r.ho r.dy r.md r.yd r.wn r.mo r.sp r.wk) true := by
  unfold recur_ends.f
  refine evn (by have := h.ct0; omega) (evn (by have := h.ct1; omega) ?_)
  rcases h.en with ⟨e1, e2, e3⟩ | ⟨e1, e2, e3⟩
  · simp only [e1, Bool.false_eq_true, if_false]
    refine evstep ?_
    simp only [recur_ends.j0, Bool.false_eq_true, if_false, e1, e2, e3, if_true]
    exact Ev.now _
  · simp only [e1, if_true, e2]
    refine evstep ?_
    simp only [recur_ends.j0, if_true, gt_iff_lt, Int.lt_irrefl, decide_false, Bool.false_eq_true, if_false]
    exact evb (fyear e3) (evs rfl)
theorem fcheck {r : RR} (h : Right r) : Ev (fun k => recur_Check.f k r.fr r.iv r.ct r.un r.ua r.utc r.sec r.mi r.ho r.dy r.md r.yd r.wn r.mo r.sp r.wk) 0 := by
  unfold recur_Check.f
  refine evp h.ok ?_
  exact evb (fends h) (by simp only [if_true]; exact Ev.now _)
/-- What is known of a right rule's lists. -/
structure Lens (r : RR) : Prop where
  f0 : 1 ≤ r.fr
  f1 : r.fr ≤ 7
  w0 : 0 ≤ r.wk
  w1 : r.wk ≤ 6
  sec : r.sec.length ≤ 1000000000
  mi : r.mi.length ≤ 1000000000
  ho : r.ho.length ≤ 1000000000
  dy : r.dy.length ≤ 1000000000
  md : r.md.length ≤ 1000000000
  yd : r.yd.length ≤ 1000000000
  wn : r.wn.length ≤ 1000000000
  mo : r.mo.length ≤ 1000000000
  sp : r.sp.length ≤ 1000000000
  yd0 : r.yd = []
  md0 : r.md = []
  mo0 : r.mo = []
  wn0 : r.wn = []
  nums : ∀ x ∈ r.dy, -53 ≤ x.f0 ∧ x.f0 ≤ 53 ∧ 0 ≤ x.f1 ∧ x.f1 ≤ 6
theorem Right.lens {r : RR} (h : Right r) : Lens r := by
  have hh := h.ok
  simp only [okRecur, okList, Bool.and_eq_true, decide_eq_true_eq] at hh
  obtain ⟨⟨⟨⟨⟨⟨q1, q2⟩, q3, q4⟩, q5, q6⟩, ⟨⟨⟨⟨⟨⟨⟨p6, p7⟩, p8⟩, p10⟩, p11⟩, p12⟩, p13⟩, p14⟩⟩, ⟨p91, p92⟩, p93⟩, pb⟩ := hh
  refine ⟨q1, q2, q5, q6, p6.2, p7.2, p8.2, p93, p10.2, p11.2, p12.2, p13.2, p14.2, h.yd0, h.md0, h.mo0, h.wn0, fun x hx => ?_⟩
  have := List.all_eq_true.1 p91 x hx
  simp only [okBy, Bool.and_eq_true, decide_eq_true_eq] at this
  exact ⟨this.1.1.2, this.1.2, this.1.1.1.1, this.1.1.1.2⟩
def clockV (r : RR) (s x : Int) : Bool := oneV r.sec (x % 60) (s % 60) (decide (r.fr > 1)) && oneV r.mi (x % 3600 / 60) (s % 3600 / 60) (decide (r.fr > 2)) && oneV r.ho (x / 3600) (s / 3600) (decide (r.fr > 3))
theorem fclock {r : RR} (h : Lens r) {s x : Int} (hs : 0 ≤ s) (hs' : s < 86400) (hx : 0 ≤ x) (hx' : x < 86400) : Ev (fun k => filter_Clock.f k r.fr r.iv r.ct r.un r.ua r.utc r.sec r.mi r.ho r.dy r.md r.yd r.wn r.mo r.sp r.wk s x) (clockV r s x) := by
  unfold filter_Clock.f clockV
  rw [tmod_nn 60 hx, tmod_nn 60 hs, tmod_nn 3600 hx, tmod_nn 3600 hs, tdiv_nn 60 (a := x % 3600) (by omega), tdiv_nn 60 (a := s % 3600) (by omega), tdiv_nn 3600 hx, tdiv_nn 3600 hs, w64 (x := x % 3600 / 60) (by omega) (by omega), w64 (x := s % 3600 / 60) (by omega) (by omega), w64 (x := x / 3600) (by omega) (by omega), w64 (x := s / 3600) (by omega) (by omega)]
  refine evb (fone _ _ _ _ h.sec) ?_
  cases oneV r.sec (x % 60) (s % 60) (decide (r.fr > 1))
  · simp only [Bool.false_eq_true, if_false, Bool.false_and]; exact Ev.now _
  simp only [if_true, Bool.true_and]
  refine evb (fone _ _ _ _ h.mi) ?_
  cases oneV r.mi (x % 3600 / 60) (s % 3600 / 60) (decide (r.fr > 2))
  · simp only [Bool.false_eq_true, if_false, Bool.false_and]; exact Ev.now _
  simp only [if_true, Bool.true_and]
  exact evb (fone _ _ _ _ h.ho) (evs rfl)
theorem fweekNo {r : RR} (h : Lens r) (n : Int) : Ev (fun k => filter_weekNo.f k r.fr r.iv r.ct r.un r.ua r.utc r.sec r.mi r.ho r.dy r.md r.yd r.wn r.mo r.sp r.wk n) true := by
  unfold filter_weekNo.f
  simp only [h.wn0, List.length_nil, Int.natCast_zero, if_true]
  exact Ev.now _
/-- The days among which a weekday is counted. -/
noncomputable def fromV (r : RR) (n : Int) : Int := if r.fr = 6 ∨ r.mo ≠ [] then num (dt n).1 (dt n).2.1 1 else num (dt n).1 1 1
noncomputable def toV (r : RR) (n : Int) : Int := if r.fr = 6 ∨ r.mo ≠ [] then num (dt n).1 (dt n).2.1 1 + ln (dt n).1 (dt n).2.1 - 1 else num (dt n).1 12 31
noncomputable def numberedV (r : RR) (n : Int) (x : S47) : Bool := decide (x.f1 = wd n) && (decide (x.f0 = 0) || ((nthV (fromV r n) (toV r n) x.f0 x.f1).2 && ((nthV (fromV r n) (toV r n) x.f0 x.f1).1 == n)))
theorem rt_m1 {y m d : Int} (h : Rt y m d) : Rt y m 1 := ⟨h.1, h.2.1, h.2.2.1, h.2.2.2.1, by omega, by have := (ln_bd y m h.2.2.1 h.2.2.2.1).1; omega⟩
theorem fnumbered {r : RR} (h : Lens r) {n : Int} (hn : -719162 ≤ n) (hn' : n ≤ 2932896) (x : S47) : Ev (fun k => filter_numbered.f k r.fr r.iv r.ct r.un r.ua r.utc r.sec r.mi r.ho r.dy r.md r.yd r.wn r.mo r.sp r.wk (dt n).1 (dt n).2.1 (dt n).2.2 n x.f0 x.f1) (numberedV r n x) := by
  have hs := dt_spec (n := n) (by omega) (by omega)
  have hR := hs.1
  unfold filter_numbered.f numberedV
  simp only [cwd, Option.bind_some]
  refine evif (fun c1 => ?_) (fun c1 => by rw [decide_eq_false c1, Bool.false_and]; exact Ev.now _)
  rw [decide_eq_true c1, Bool.true_and]
  refine evif (fun c2 => by rw [decide_eq_true c2, Bool.true_or]; exact Ev.now _) (fun c2 => ?_)
  rw [decide_eq_false c2, Bool.false_or]
  have b1 := num_bd (rt_first hR.1 hR.2.1)
  have b2 := num_bd (rt_31 hR.1 hR.2.1)
  have b3 := num_bd (rt_m1 hR)
  have b4 := ln_bd (dt n).1 (dt n).2.1 hR.2.2.1 hR.2.2.2.1
  have tail : ∀ p : Int × Bool, (if p.2 = true then (some (p.1 == n)) else (some false)) = some (p.2 && (p.1 == n)) := fun p => by cases p.2 <;> rfl
  have key : ∀ b : Bool, (b = true ↔ (r.fr = 6 ∨ r.mo ≠ [])) → Ev (fun k => filter_numbered.j0 k n (num (dt n).1 1 1) (num (dt n).1 12 31) b (dt n).1 (dt n).2.1 (dt n).2.2 x.f0 x.f1) ((nthV (fromV r n) (toV r n) x.f0 x.f1).2 && ((nthV (fromV r n) (toV r n) x.f0 x.f1).1 == n)) := by
    intro b hb
    refine evstep ?_
    simp only [filter_numbered.j0]
    by_cases c : r.fr = 6 ∨ r.mo ≠ []
    · have e : b = true := hb.2 c
      subst e
      simp only [if_true]
      unfold fromV toV
      rw [if_pos c, if_pos c]
      refine evb (fnum (rt_m1 hR)) (evb (clen _ _) ?_)
      rw [w64 (x := num (dt n).1 (dt n).2.1 1 + ln (dt n).1 (dt n).2.1) (by omega) (by omega), w64 (by omega) (by omega)]
      exact evb (wnth (by omega) (by omega) (by omega) (by omega)) (by simp only [tail]; exact Ev.now _)
    · have e : b = false := by cases b with | false => rfl | true => exact absurd (hb.1 rfl) c
      subst e
      simp only [Bool.false_eq_true, if_false]
      unfold fromV toV
      rw [if_neg c, if_neg c]
      exact evb (wnth (by omega) (by omega) (by omega) (by omega)) (by simp only [tail]; exact Ev.now _)
  refine evb (fnum (rt_first hR.1 hR.2.1)) (evb (fnum (rt_31 hR.1 hR.2.1)) ?_)
  refine evif (fun c3 => key true ⟨fun _ => Or.inl c3, fun _ => rfl⟩) (fun c3 => key _ ⟨fun e => Or.inr (fun e2 => ?_), fun e => ?_⟩)
  · rw [e2] at e
    simp at e
  · rw [decide_eq_true_eq]
    have := e.resolve_left c3
    have : r.mo.length ≠ 0 := fun e3 => this (List.eq_nil_of_length_eq_zero e3)
    omega
theorem evAny (g : Nat → S47 → Option Bool) (p : S47 → Bool) : ∀ l : List S47, (∀ x ∈ l, Ev (fun k => g k x) (p x)) → Ev (fun k => anyO (g k) l) (l.any p) := by
  intro l hl
  have hb : ∃ K, ∀ k, K ≤ k → ∀ x ∈ l, g k x = some (p x) := by
    induction l with
    | nil => exact ⟨0, fun k _ x hx => absurd hx (List.not_mem_nil)⟩
    | cons y ys ih =>
      obtain ⟨K1, h1⟩ := ih (fun x hx => hl x (List.mem_cons_of_mem _ hx))
      obtain ⟨K2, h2⟩ := hl y List.mem_cons_self
      refine ⟨max K1 K2, fun k hk x hx => ?_⟩
      rcases List.mem_cons.1 hx with e | e
      · subst e; exact h2 k (by omega)
      · exact h1 k (by omega) x e
  obtain ⟨K, hK⟩ := hb
  refine ⟨K, fun k hk => ?_⟩
  show anyO (g k) l = some (l.any p)
  unfold anyO
  rw [if_pos (List.all_eq_true.2 fun x hx => by rw [hK k hk x hx]; rfl)]
  congr 1
  rw [Bool.eq_iff_iff, List.any_eq_true, List.any_eq_true]
  constructor
  · rintro ⟨x, hx, hb⟩; exact ⟨x, hx, by rw [hK k hk x hx] at hb; simpa using hb⟩
  · rintro ⟨x, hx, hb⟩; exact ⟨x, hx, by rw [hK k hk x hx, hb]; rfl⟩
noncomputable def likeV (r : RR) (n first : Int) : Bool :=
  if 0 < r.yd.length + r.md.length + r.dy.length then true
  else if 0 < r.wn.length ∨ r.fr = 5 then wd n == wd first
  else if r.fr < 5 then true
  else if r.fr = 7 ∧ r.mo = [] ∧ (dt n).2.1 ≠ (dt first).2.1 then false
  else (dt n).2.2 == (dt first).2.2
theorem flike {r : RR} (h : Lens r) (n first : Int) : Ev (fun k => filter_like.f k r.fr r.iv r.ct r.un r.ua r.utc r.sec r.mi r.ho r.dy r.md r.yd r.wn r.mo r.sp r.wk (dt n).1 (dt n).2.1 (dt n).2.2 (dt first).1 (dt first).2.1 (dt first).2.2 n first) (likeV r n first) := by
  have l1 := h.yd
  have l2 := h.md
  have l3 := h.dy
  unfold filter_like.f likeV
  rw [w64 (x := (r.yd.length : Int) + r.md.length) (by omega) (by omega), w64 (by omega) (by omega)]
  by_cases c0 : 0 < r.yd.length + r.md.length + r.dy.length
  · rw [if_pos c0]
    simp only [if_pos (show (r.yd.length : Int) + r.md.length + r.dy.length > 0 by omega)]
    exact Ev.now _
  · rw [if_neg c0]
    simp only [if_neg (show ¬ ((r.yd.length : Int) + r.md.length + r.dy.length > 0) by omega)]
    have key : ∀ b : Bool, (b = true ↔ (0 < r.wn.length ∨ r.fr = 5)) → Ev (fun k => filter_like.j0 k n first b r.fr r.iv r.ct r.un r.ua r.utc r.sec r.mi r.ho r.dy r.md r.yd r.wn r.mo r.sp r.wk (dt n).1 (dt n).2.1 (dt n).2.2 (dt first).1 (dt first).2.1 (dt first).2.2) (if 0 < r.wn.length ∨ r.fr = 5 then wd n == wd first else if r.fr < 5 then true else if r.fr = 7 ∧ r.mo = [] ∧ (dt n).2.1 ≠ (dt first).2.1 then false else (dt n).2.2 == (dt first).2.2) := by
      intro b hb
      refine evstep ?_
      simp only [filter_like.j0, cwd, Option.bind_some]
      by_cases c : 0 < r.wn.length ∨ r.fr = 5
      · have e : b = true := hb.2 c
        subst e
        rw [if_pos c]
        simp only [if_true]
        exact Ev.now _
      · have e : b = false := by cases b with | false => rfl | true => exact absurd (hb.1 rfl) c
        subst e
        rw [if_neg c]
        simp only [Bool.false_eq_true, if_false]
        refine evif (fun c2 => by rw [if_pos c2]; exact Ev.now _) (fun c2 => ?_)
        rw [if_neg c2]
        refine evif (fun c3 => ?_) (fun c3 => ?_)
        · simp only [h.mo0, List.length_nil, Int.natCast_zero, if_true]
          refine evif (fun c5 => ?_) (fun c5 => ?_)
          · rw [if_neg (fun e => e.2.2 c5)]
            exact Ev.now _
          · rw [if_pos ⟨c3, trivial, c5⟩]
            exact Ev.now _
        · rw [if_neg (fun e => c3 e.1)]
          exact Ev.now _
    refine evif (fun c1 => absurd c1 (by rw [h.wn0]; simp)) (fun c1 => key _ ⟨fun e => Or.inr (by simpa using e), fun e => ?_⟩)
    have := e.resolve_left (by omega)
    simpa using this
noncomputable def dayV (r : RR) (first n : Int) : Bool := (decide (r.dy = []) || r.dy.any (numberedV r n)) && likeV r n first
theorem eitherV_nil {l : List Int} (h : l = []) (n many : Int) : eitherV l n many = true := by subst h; rfl
theorem fday_ {r : RR} (h : Lens r) {first n : Int} (hf : -719162 ≤ first) (hf' : first ≤ 2932896) (hn : -719162 ≤ n) (hn' : n ≤ 2932896) : Ev (fun k => filter_Day.f k r.fr r.iv r.ct r.un r.ua r.utc r.sec r.mi r.ho r.dy r.md r.yd r.wn r.mo r.sp r.wk first n) (dayV r first n) := by
  have hs := dt_spec (n := n) (by omega) (by omega)
  have hR := hs.1
  have hl := ln_bd (dt n).1 (dt n).2.1 hR.2.2.1 hR.2.2.2.1
  have hyd : 1 ≤ yd n ∧ yd n ≤ 366 := by
    have b := yr_bd (n := n) (by omega) (by omega)
    have a := ah_succ (yr n)
    have l := lpi_01 (yr n)
    unfold yd
    omega
  have hdd := hR.2.2.2.2
  unfold filter_Day.f dayV
  refine evb (cdate_dt (by omega) (by omega)) (evb (cdate_dt (by omega) (by omega)) ?_)
  dsimp only
  refine evb (fone _ _ _ _ h.mo) ?_
  rw [show oneV r.mo (dt n).2.1 0 false = true by rw [h.mo0]; rfl]
  simp only [if_true]
  refine evb (cyd_dt (by omega) (by omega)) (evb (fnum (rt_31 hR.1 hR.2.1)) (evb (fnum (rt_first hR.1 hR.2.1)) (evb (fweekNo h n) ?_)))
  have key : Ev (fun k => filter_Day.j0 k first false r.fr r.iv r.ct r.un r.ua r.utc r.sec r.mi r.ho r.dy r.md r.yd r.wn r.mo r.sp r.wk n (dt n).1 (dt n).2.1 (dt n).2.2 (dt first).1 (dt first).2.1 (dt first).2.2) ((decide (r.dy = []) || r.dy.any (numberedV r n)) && likeV r n first) := by
    refine evstep ?_
    simp only [filter_Day.j0]
    · simp only [Bool.false_eq_true, if_false]
      by_cases c : r.dy = []
      · simp only [c, List.length_nil, Int.natCast_zero, gt_iff_lt, Int.lt_irrefl, if_false, decide_true, Bool.true_or, Bool.true_and]
        have := flike h n first
        rw [c] at this
        exact evb this (evs rfl)
      · have hp : (r.dy.length : Int) > 0 := by
          have : r.dy.length ≠ 0 := fun e3 => c (List.eq_nil_of_length_eq_zero e3)
          omega
        simp only [if_pos hp]
        rw [decide_eq_false c, Bool.false_or]
        have ha : Ev (fun k => api_ByDay_73.f k r.dy r.fr r.iv r.ct r.un r.ua r.utc r.sec r.mi r.ho r.dy r.md r.yd r.wn r.mo r.sp r.wk (dt n).1 (dt n).2.1 (dt n).2.2 n) (r.dy.any (numberedV r n)) := by
          unfold api_ByDay_73.f
          refine evp h.dy ?_
          exact evAny _ _ _ (fun x _ => fnumbered h hn hn' x)
        refine evb ha ?_
        cases r.dy.any (numberedV r n)
        · simp only [Bool.false_eq_true, if_false, Bool.false_and]; exact Ev.now _
        · simp only [if_true, Bool.true_and]
          exact evb (flike h n first) (evs rfl)
  have e1 : num (dt n).1 12 31 - num (dt n).1 1 1 + 1 = 365 + lpi (dt n).1 := by
    rw [num_1]
    unfold num
    have : cum (dt n).1 12 = 334 + lpi (dt n).1 := by simp [cum]
    omega
  have b1 := num_bd (rt_first hR.1 hR.2.1)
  have b2 := num_bd (rt_31 hR.1 hR.2.1)
  have l01 := lpi_01 (dt n).1
  have e2 : wrap64 (wrap64 (num (dt n).1 12 31 - num (dt n).1 1 1) + 1) = 365 + lpi (dt n).1 := by
    rw [w64 (x := num (dt n).1 12 31 - num (dt n).1 1 1) (by omega) (by omega), w64 (by omega) (by omega)]
    exact e1
  rw [e2, cum_dt (by omega) (by omega)]
  simp only [if_true]
  refine evb (feither _ _ _ h.yd (by omega) (by omega) (by omega) (by omega)) ?_
  rw [eitherV_nil h.yd0]
  simp only [if_true]
  refine evb (clen _ _) (evb (feither _ _ _ h.md (by omega) (by omega) (by omega) (by omega)) ?_)
  rw [eitherV_nil h.md0]
  exact key
noncomputable def letsV (r : RR) (s t : Int) : Bool := clockV r (s % 86400) (t % 86400) && dayV r (s / 86400) (t / 86400)
theorem flets {r : RR} (h : Right r) {s t : Int} (c1 : InT s) (c2 : InT t) : Ev (fun k => filter_Lets.f k r.fr r.iv r.ct r.un r.ua r.utc r.sec r.mi r.ho r.dy r.md r.yd r.wn r.mo r.sp r.wk s t) (letsV r s t) := by
  have hl := h.lens
  unfold filter_Lets.f letsV
  refine evb (fcheck h) ?_
  simp only [if_true]
  refine evb (fin_ s) ?_
  rw [decide_eq_true c1]
  simp only [if_true]
  refine evb (fin_ t) ?_
  rw [decide_eq_true c2]
  have y1 := dt_year c1
  have y2 := dt_year c2
  unfold InT at c1 c2
  refine evstep ?_
  simp only [filter_Lets.j0, Bool.not_true, Bool.false_eq_true, if_false, csplit (t := s) (by omega) (by omega), csplit (t := t) (by omega) (by omega), Option.bind_some]
  refine evb (fclock hl (by omega) (by omega) (by omega) (by omega)) ?_
  cases clockV r (s % 86400) (t % 86400)
  · simp only [Bool.false_eq_true, if_false, Bool.false_and]; exact Ev.now _
  · simp only [if_true, Bool.true_and]
    exact evb (fday_ hl y1.2.2.1 y1.2.2.2 y2.2.2.1 y2.2.2.2) (evs rfl)
end Go.Proofs.Ytmhpmkbifhgnbaa.Pure
