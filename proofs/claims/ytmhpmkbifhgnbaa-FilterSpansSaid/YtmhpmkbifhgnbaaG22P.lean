/- A time's period and a period's span by a right rule, as the functions of layer 22 compute them, in plain numbers, and how they hang together. No condition beyond those each lemma names. -/
import Derived.Test.YtmhpmkbifhgnbaaG422P
import Derived.Test.YtmhpmkbifhgnbaaMOx0
import Derived.Test.YtmhpmkbifhgnbaaMOx10
import Derived.Test.YtmhpmkbifhgnbaaOx11
import Derived.Test.YtmhpmkbifhgnbaaOx23
import Derived.Test.YtmhpmkbifhgnbaaMOx34
import Derived.Test.YtmhpmkbifhgnbaaOx35
import Derived.Test.YtmhpmkbifhgnbaaMOx42
import Derived.Test.YtmhpmkbifhgnbaaOx49
import Derived.Test.YtmhpmkbifhgnbaaOx50
namespace Go.Proofs.Ytmhpmkbifhgnbaa.Pure
open Go.RowKit Go.Proofs.Ytmhpmkbifhgnbaa.O Go.Proofs.YtmhpmkbifhgnbaaW.PrintWords Go.Proofs.YtmhpmkbifhgnbaaW.PrintLast
open Go.Proofs.Ytmhpmkbifhgnbaa.Civ
set_option linter.unusedVariables false
set_option linter.unusedSimpArgs false
/-! What the printed functions of layer 22 tell, in plain numbers. -/
theorem evp {α : Type} {c : Prop} [Decidable c] {f g : Nat → Option α} {r : α} (h : c) (k : Ev f r) : Ev (fun n => if c then f n else g n) r := by simp only [if_pos h]; exact k
theorem evn {α : Type} {c : Prop} [Decidable c] {f g : Nat → Option α} {r : α} (h : ¬ c) (k : Ev g r) : Ev (fun n => if c then f n else g n) r := by simp only [if_neg h]; exact k
theorem csplit {t : Int} (h : -9223372036854775808 ≤ t) (h' : t < 9223372036854775808) : clock_Split.f t = some (t / 86400, t % 86400) := by
  unfold clock_Split.f
  rw [tmod_if, tdiv_if]
  by_cases ht : 0 ≤ t
  · rw [if_pos ht, if_pos ht, if_neg (by omega), w64 (by omega) (by omega)]
  · rw [if_neg ht, if_neg ht]
    by_cases hz : -(-t % 86400) < 0
    · rw [if_pos hz, w64 (x := -(-t / 86400)) (by omega) (by omega), w64 (x := -(-t / 86400) - 1) (by omega) (by omega), w64 (by omega) (by omega)]
      congr 1
      exact Prod.ext (by show -(-t / 86400) - 1 = t / 86400; omega) (by show -(-t % 86400) + 86400 = t % 86400; omega)
    · rw [if_neg hz, w64 (by omega) (by omega)]
      congr 1
      exact Prod.ext (by show -(-t / 86400) = t / 86400; omega) (by show -(-t % 86400) = t % 86400; omega)
theorem fnum {y m d : Int} (h : Rt y m d) : Ev (fun k => filter_number.f k y m d) (num y m d) := by
  unfold filter_number.f
  exact evb (cnum h) (evs rfl)
theorem num_least : num 1 1 1 = -719162 := by decide
theorem num_most : num 10000 1 1 = 2932897 := by decide
theorem rt_first {y : Int} (h : 0 ≤ y) (h' : y ≤ 10000) : Rt y 1 1 := ⟨h, h', by omega, by omega, by omega, by have := (ln_bd y 1 (by omega) (by omega)).1; omega⟩
theorem fleast : Ev (fun k => filter_least.f k) (-62135596800) := by
  unfold filter_least.f
  refine evb (fnum (rt_first (by omega) (by omega))) (evs ?_)
  rw [num_least, w64 (by omega) (by omega)]
  rfl
theorem fmost : Ev (fun k => filter_most.f k) 253402300799 := by
  unfold filter_most.f
  refine evb (fnum (rt_first (by omega) (by omega))) (evs ?_)
  rw [num_most, w64 (x := 2932897 * 86400) (by omega) (by omega), w64 (by omega) (by omega)]
  rfl
/-- A time of a year from 1 to 9999. -/
def InT (t : Int) : Prop := -62135596800 ≤ t ∧ t ≤ 253402300799
instance (t : Int) : Decidable (InT t) := by unfold InT; infer_instance
theorem fin_ (t : Int) : Ev (fun k => filter_in.f k t) (decide (InT t)) := by
  unfold filter_in.f InT
  refine evb fleast (evif (fun h => evb fmost (evs ?_)) (fun h => evs ?_))
  · exact decide_eq_decide.2 ⟨fun a => ⟨h, a⟩, fun a => a.2⟩
  · exact (decide_eq_false (by omega)).symm
theorem num_12_28 (y : Int) : num y 12 28 = num (y + 1) 1 4 - 7 := by
  rw [num_1, ah_succ]
  unfold num
  have : cum y 12 = 334 + lpi y := by simp [cum]
  omega
theorem rt_4 {y : Int} (h : 0 ≤ y) (h' : y ≤ 10000) : Rt y 1 4 := ⟨h, h', by omega, by omega, by omega, by have := (ln_bd y 1 (by omega) (by omega)).1; omega⟩
theorem rt_28 {y : Int} (h : 0 ≤ y) (h' : y ≤ 10000) : Rt y 12 28 := ⟨h, h', by omega, by omega, by omega, by have := (ln_bd y 12 (by omega) (by omega)).1; omega⟩
theorem rt_31 {y : Int} (h : 0 ≤ y) (h' : y ≤ 10000) : Rt y 12 31 := ⟨h, h', by omega, by omega, by omega, by simp [ln]⟩
theorem fweeks {y k : Int} (h : 0 ≤ y) (h' : y ≤ 10000) (hk : 0 ≤ k) (hk' : k ≤ 6) : Ev (fun q => filter_weeks.f q y k) (fw y k, fw (y + 1) k - 1) := by
  unfold filter_weeks.f
  have b1 := num_bd (rt_4 h h')
  have b2 := num_bd (rt_28 h h')
  refine evb (fnum (rt_4 h h')) (evb (fnum (rt_28 h h')) ?_)
  simp only [cwd, Option.bind_some]
  have w1 := wd_bd (num y 1 4)
  have w2 := wd_bd (num y 12 28)
  have d1 := dnw_bd (num y 1 4) k
  have d2 := dnw_bd (num y 12 28) k
  rw [w64 (x := wd (num y 1 4) - k) (by omega) (by omega), w64 (x := wd (num y 1 4) - k + 7) (by omega) (by omega), w64 (x := wd (num y 12 28) - k) (by omega) (by omega), w64 (x := wd (num y 12 28) - k + 7) (by omega) (by omega), tmod_nn 7 (by omega), tmod_nn 7 (by omega)]
  have e1 : (wd (num y 1 4) - k + 7) % 7 = dnw (num y 1 4) k := by unfold dnw; omega
  have e2 : (wd (num y 12 28) - k + 7) % 7 = dnw (num y 12 28) k := by unfold dnw; omega
  rw [e1, e2, w64 (x := num y 1 4 - dnw (num y 1 4) k) (by omega) (by omega), w64 (x := num y 12 28 - dnw (num y 12 28) k) (by omega) (by omega), w64 (x := num y 12 28 - dnw (num y 12 28) k + 7) (by omega) (by omega), w64 (by omega) (by omega)]
  refine evs ?_
  have e3 := num_12_28 y
  have e4 : dnw (num y 12 28) k = dnw (num (y + 1) 1 4) k := by rw [e3]; unfold dnw wd; omega
  exact Prod.ext rfl (by show num y 12 28 - dnw (num y 12 28) k + 7 - 1 = fw (y + 1) k - 1; unfold fw; omega)
/-- A rule. -/
structure RR where
  fr : Int
  iv : Int
  ct : Int
  un : Bool
  ua : Int
  utc : Bool
  sec : List Int
  mi : List Int
  ho : List Int
  dy : List S47
  md : List Int
  yd : List Int
  wn : List Int
  mo : List Int
  sp : List Int
  wk : Int
/-- A right rule. -/
structure Right (r : RR) : Prop where
  ok : okRecur r.fr r.iv r.ct r.un r.ua r.utc r.sec r.mi r.ho r.dy r.md r.yd r.wn r.mo r.sp r.wk = true
  ct0 : 0 ≤ r.ct
  ct1 : r.ct ≤ 100000
  en : (r.un = false ∧ r.ua = 0 ∧ r.utc = false) ∨ (r.un = true ∧ r.ct = 0 ∧ InT r.ua)
theorem dt_year {t : Int} (h : InT t) : 1 ≤ (dt (t / 86400)).1 ∧ (dt (t / 86400)).1 ≤ 9999 ∧ -719162 ≤ t / 86400 ∧ t / 86400 ≤ 2932896 := by
  unfold InT at h
  have hd : -719162 ≤ t / 86400 ∧ t / 86400 ≤ 2932896 := by omega
  have := (yr_range (n := t / 86400) (by omega) (by omega)).2 hd
  unfold yr at this
  exact ⟨this.1, this.2, hd.1, hd.2⟩
theorem fyear {t : Int} (h : InT t) : Ev (fun k => recur_year.f k t) true := by
  have hd := dt_year h
  unfold InT at h
  unfold recur_year.f
  simp only [csplit (t := t) (by omega) (by omega), Option.bind_some]
  refine evb (cdate_dt (by omega) (by omega)) ?_
  simp only [if_true]
  refine evp hd.1 ?_
  rw [decide_eq_true hd.2.1]
  exact Ev.now _
theorem fends {r : RR} (h : Right r) : Ev (fun k => recur_ends.f k r.fr r.iv r.ct r.un r.ua r.utc r.sec r.mi r.ho r.dy r.md r.yd r.wn r.mo r.sp r.wk) true := by
  unfold recur_ends.f
  refine evn (by have := h.ct0; omega) (evn (by have := h.ct1; omega) ?_)
  rcases h.en with ⟨e1, e2, e3⟩ | ⟨e1, e2, e3⟩
  · simp only [e1, Bool.false_eq_true, if_false]
    refine evstep ?_
    simp only [recur_ends.j0, Bool.false_eq_true, if_false, e1, e2, e3, if_true]
    exact Ev.now _
  · simp only [e1, if_true, e2]
    refine evstep ?_
    simp only [recur_ends.j0, if_true, gt_iff_lt, Int.lt_irrefl, decide_false, Bool.false_eq_true, if_false]
    exact evb (fyear e3) (evs rfl)
theorem fcheck {r : RR} (h : Right r) : Ev (fun k => recur_Check.f k r.fr r.iv r.ct r.un r.ua r.utc r.sec r.mi r.ho r.dy r.md r.yd r.wn r.mo r.sp r.wk) 0 := by
  unfold recur_Check.f
  refine evp h.ok ?_
  exact evb (fends h) (by simp only [if_true]; exact Ev.now _)
/-- What is known of a right rule's lists. -/
structure Lens (r : RR) : Prop where
  f0 : 1 ≤ r.fr
  f1 : r.fr ≤ 7
  w0 : 0 ≤ r.wk
  w1 : r.wk ≤ 6
  sec : r.sec.length ≤ 1000000000
  mi : r.mi.length ≤ 1000000000
  ho : r.ho.length ≤ 1000000000
  dy : r.dy.length ≤ 1000000000
  md : r.md.length ≤ 1000000000
  yd : r.yd.length ≤ 1000000000
  wn : r.wn.length ≤ 1000000000
  mo : r.mo.length ≤ 1000000000
  sp : r.sp.length ≤ 1000000000
  nums : ∀ x ∈ r.dy, -53 ≤ x.f0 ∧ x.f0 ≤ 53 ∧ 0 ≤ x.f1 ∧ x.f1 ≤ 6
theorem Right.lens {r : RR} (h : Right r) : Lens r := by
  have hh := h.ok
  simp only [okRecur, okList, Bool.and_eq_true, decide_eq_true_eq] at hh
  obtain ⟨⟨⟨⟨⟨⟨q1, q2⟩, q3, q4⟩, q5, q6⟩, ⟨⟨⟨⟨⟨⟨⟨p6, p7⟩, p8⟩, p10⟩, p11⟩, p12⟩, p13⟩, p14⟩⟩, ⟨p91, p92⟩, p93⟩, pb⟩ := hh
  refine ⟨q1, q2, q5, q6, p6.2, p7.2, p8.2, p93, p10.2, p11.2, p12.2, p13.2, p14.2, fun x hx => ?_⟩
  have := List.all_eq_true.1 p91 x hx
  simp only [okBy, Bool.and_eq_true, decide_eq_true_eq] at this
  exact ⟨this.1.1.2, this.1.2, this.1.1.1.1, this.1.1.1.2⟩
/-- A day's week's year. -/
noncomputable def wy (r : RR) (n : Int) : Int := (noV n r.wk).1
theorem yr_mid {n k : Int} (h : -719162 ≤ n) (h' : n ≤ 2932896) : 0 ≤ yr (mid n k) ∧ yr (mid n k) ≤ 10000 ∧ -719528 ≤ mid n k ∧ mid n k ≤ 2933262 := by
  have hd := dnw_bd n k
  have hm : -719528 ≤ mid n k ∧ mid n k ≤ 2933262 := by unfold mid; omega
  have := yr_bd hm.1 hm.2
  exact ⟨this.1, this.2.1, hm.1, hm.2⟩
theorem noV_in {n k : Int} (h : -719162 ≤ n) (h' : n ≤ 2932896) (hk : 0 ≤ k) (hk' : k ≤ 6) : noV n k = (yr (mid n k), (n - fw (yr (mid n k)) k) / 7 + 1, 0) := by
  have := (yr_range (n := n) (by omega) (by omega)).2 ⟨h, h'⟩
  unfold noV
  rw [if_pos ⟨hk, hk'⟩, if_pos ⟨by omega, by omega, this.1, this.2⟩]
theorem negdiv_ {a b : Int} (hb : 0 < b) : a / b = if -a % b = 0 then -(-a / b) else -(-a / b) - 1 := by
  have e1 := Int.mul_ediv_add_emod (-a) b
  have e3 := Int.emod_nonneg (-a) (show b ≠ 0 by omega)
  have e4 := Int.emod_lt_of_pos (-a) hb
  generalize hq : -a / b = q at *
  generalize hz : -a % b = z at *
  split
  · rename_i c
    refine Int.ediv_eq_iff_of_pos hb |>.2 ⟨?_, ?_⟩
    · rw [Int.neg_mul, Int.mul_comm q b]; omega
    · rw [Int.neg_mul, Int.mul_comm q b]; omega
  · rename_i c
    refine Int.ediv_eq_iff_of_pos hb |>.2 ⟨?_, ?_⟩
    · rw [Int.sub_mul, Int.neg_mul, Int.mul_comm q b]; omega
    · rw [Int.sub_mul, Int.neg_mul, Int.mul_comm q b]; omega
theorem fdown {a b : Int} (h : -4611686018427387904 ≤ a) (h' : a ≤ 4611686018427387904) (hb : 0 < b) : filter_down.f a b = some (a / b) := by
  unfold filter_down.f
  rw [if_neg (by omega), tmod_if, tdiv_if]
  have q1 : -4611686018427387904 ≤ a / b := by
    refine (Int.le_ediv_iff_mul_le hb).2 ?_
    have : 4611686018427387904 * 1 ≤ 4611686018427387904 * b := Int.mul_le_mul_of_nonneg_left (by omega) (by omega)
    omega
  have q2 : a / b ≤ 4611686018427387904 := by
    refine Int.ediv_le_of_le_mul hb ?_
    have : 4611686018427387904 * 1 ≤ 4611686018427387904 * b := Int.mul_le_mul_of_nonneg_left (by omega) (by omega)
    omega
  by_cases c : 0 ≤ a
  · rw [if_pos c, if_pos c, if_neg (by have := Int.emod_nonneg a (show b ≠ 0 by omega); omega), w64 (by omega) (by omega)]
  · rw [if_neg c, if_neg c]
    have e3 := Int.emod_nonneg (-a) (show b ≠ 0 by omega)
    have e5 := negdiv_ (a := a) hb
    by_cases z : -a % b = 0
    · rw [if_pos z] at e5
      rw [z, if_neg (by omega), ← e5, w64 (by omega) (by omega)]
    · rw [if_neg z] at e5
      rw [if_pos (by omega), w64 (x := -(-a / b)) (by omega) (by omega), ← e5, w64 (by omega) (by omega)]
noncomputable def perV (r : RR) (t : Int) : Int :=
  if r.fr = 1 then t else if r.fr = 2 then t / 60 else if r.fr = 3 then t / 3600 else if r.fr = 4 then t / 86400 else if r.fr = 5 then (t / 86400 + 4 - r.wk) / 7
  else if r.fr = 6 then 12 * (dt (t / 86400)).1 + (dt (t / 86400)).2.1 - 1 else if r.wn = [] then (dt (t / 86400)).1 else wy r (t / 86400)
theorem fperiod {r : RR} (h : Lens r) {t : Int} (ht : InT t) : Ev (fun k => filter_period.f k r.fr r.iv r.ct r.un r.ua r.utc r.sec r.mi r.ho r.dy r.md r.yd r.wn r.mo r.sp r.wk t) (perV r t) := by
  have y := dt_year ht
  have hs := dt_spec (n := t / 86400) (by omega) (by omega)
  have hm := hs.1.2.2
  unfold InT at ht
  unfold filter_period.f perV
  have w0 := h.w0
  have w1 := h.w1
  simp only [csplit (t := t) (by omega) (by omega), Option.bind_some, fdown (a := t) (b := 60) (by omega) (by omega) (by omega), fdown (a := t) (b := 3600) (by omega) (by omega) (by omega)]
  rw [w64 (x := t / 86400 + 4) (by omega) (by omega), w64 (x := t / 86400 + 4 - r.wk) (by omega) (by omega), fdown (b := 7) (by omega) (by omega) (by omega)]
  refine evb (cdate_dt (by omega) (by omega)) ?_
  refine evif (fun c => by rw [if_pos c]; exact Ev.now _) (fun c => ?_)
  rw [if_neg c]
  refine evif (fun c => by rw [if_pos c]; exact Ev.now _) (fun c => ?_)
  rw [if_neg c]
  refine evif (fun c => by rw [if_pos c]; exact Ev.now _) (fun c => ?_)
  rw [if_neg c]
  refine evif (fun c => by rw [if_pos c]; exact Ev.now _) (fun c => ?_)
  rw [if_neg c]
  refine evif (fun c => by rw [if_pos c]; exact Ev.now _) (fun c => ?_)
  rw [if_neg c]
  refine evif (fun c => ?_) (fun c => ?_)
  · rw [if_pos c]
    dsimp only
    rw [w64 (x := 12 * (dt (t / 86400)).1) (by omega) (by omega), w64 (x := 12 * (dt (t / 86400)).1 + (dt (t / 86400)).2.1) (by omega) (by omega), w64 (by omega) (by omega)]
    exact Ev.now _
  · rw [if_neg c]
    by_cases e : r.wn = []
    · rw [if_pos e]
      simp only [e, List.length_nil, Int.natCast_zero, gt_iff_lt, Int.lt_irrefl, if_false]
      exact Ev.now _
    · rw [if_neg e]
      have : (r.wn.length : Int) > 0 := by
        have : r.wn.length ≠ 0 := fun e3 => e (List.eq_nil_of_length_eq_zero e3)
        omega
      refine evp this ?_
      exact evb (wno _ _) (evs rfl)
theorem fPeriod {r : RR} (h : Right r) {t : Int} (c : InT t) : Ev (fun k => filter_Period.f k r.fr r.iv r.ct r.un r.ua r.utc r.sec r.mi r.ho r.dy r.md r.yd r.wn r.mo r.sp r.wk t) (perV r t, 0) := by
  unfold filter_Period.f
  refine evb (fcheck h) ?_
  simp only [if_true]
  refine evb (fin_ t) ?_
  rw [decide_eq_true c]
  simp only [if_true]
  exact evb (fperiod h.lens c) (evs rfl)
theorem in_least : InT (-62135596800) := by decide
theorem in_most : InT 253402300799 := by decide
theorem dt_least : dt (-62135596800 / 86400) = (1, 1, 1) := by
  rw [show (-62135596800 / 86400 : Int) = num 1 1 1 by decide]
  exact dt_num (rt_first (by omega) (by omega))
theorem dt_most : dt (253402300799 / 86400) = (9999, 12, 31) := by
  rw [show (253402300799 / 86400 : Int) = num 9999 12 31 by decide]
  exact dt_num (rt_31 (by omega) (by omega))
noncomputable def wholeV (r : RR) (p : Int) : Int × Int :=
  if r.fr = 4 then (p, p) else if r.fr = 5 then (7 * p - 4 + r.wk, 7 * p - 4 + r.wk + 6)
  else if r.fr = 6 then (num (p / 12) (p % 12 + 1) 1, num (p / 12) (p % 12 + 1) 1 + ln (p / 12) (p % 12 + 1) - 1)
  else if r.wn = [] then (num p 1 1, num p 12 31) else (fw p r.wk, fw (p + 1) r.wk - 1)
/-- A period's first and last time, whether or not of a year from 1 to 9999. -/
noncomputable def spanW (r : RR) (p : Int) : Int × Int :=
  if r.fr = 1 then (p, p) else if r.fr = 2 then (60 * p, 60 * p + 59) else if r.fr = 3 then (3600 * p, 3600 * p + 3599)
  else (86400 * (wholeV r p).1, 86400 * (wholeV r p).2 + 86399)
/-- A period between the first and the last one. -/
def InP (r : RR) (p : Int) : Prop := perV r (-62135596800) ≤ p ∧ p ≤ perV r 253402300799
noncomputable instance (r : RR) (p : Int) : Decidable (InP r p) := by unfold InP; infer_instance
noncomputable def spanV (r : RR) (p : Int) : Int × Int × Int :=
  if InP r p ∧ InT (spanW r p).1 ∧ InT (spanW r p).2 then ((spanW r p).1, (spanW r p).2, 0) else (0, 0, 23)
theorem wy_bd {r : RR} {n : Int} (h : Lens r) (hn : -719162 ≤ n) (hn' : n ≤ 2932896) : 0 ≤ wy r n ∧ wy r n ≤ 10000 := by
  have hm := yr_mid (k := r.wk) hn hn'
  unfold wy
  rw [noV_in hn hn' h.w0 h.w1]
  exact ⟨hm.1, hm.2.1⟩
/-- What bounds a period between the first and the last one has. -/
theorem inP_bd {r : RR} (h : Lens r) {p : Int} (hp : InP r p) : (r.fr = 1 → -62135596800 ≤ p ∧ p ≤ 253402300799) ∧ (r.fr = 2 → -1035593280 ≤ p ∧ p ≤ 4223371679) ∧ (r.fr = 3 → -17259888 ≤ p ∧ p ≤ 70389527) ∧
    (r.fr = 4 → -719162 ≤ p ∧ p ≤ 2932896) ∧ (r.fr = 5 → -102740 ≤ p ∧ p ≤ 418986) ∧ (r.fr = 6 → 12 ≤ p ∧ p ≤ 119999) ∧ (r.fr = 7 → r.wn = [] → 1 ≤ p ∧ p ≤ 9999) ∧ (r.fr = 7 → r.wn ≠ [] → 0 ≤ p ∧ p ≤ 10000) := by
  have w0 := h.w0
  have w1 := h.w1
  unfold InP perV at hp
  rw [dt_least, dt_most] at hp
  refine ⟨fun e => ?_, fun e => ?_, fun e => ?_, fun e => ?_, fun e => ?_, fun e => ?_, fun e e2 => ?_, fun e e2 => ?_⟩
  · simp only [e] at hp; exact hp
  · simp only [e] at hp; simp at hp; omega
  · simp only [e] at hp; simp at hp; omega
  · simp only [e] at hp; simp at hp; omega
  · simp only [e] at hp; simp at hp; omega
  · simp only [e] at hp; simp at hp; omega
  · simp only [e, e2] at hp; simp at hp; omega
  · simp only [e, if_neg e2] at hp
    have a := wy_bd (n := -62135596800 / 86400) h (by decide) (by decide)
    have b := wy_bd (n := 253402300799 / 86400) h (by decide) (by decide)
    simp only [show ¬ ((7 : Int) = 1) by decide, show ¬ ((7 : Int) = 2) by decide, show ¬ ((7 : Int) = 3) by decide, show ¬ ((7 : Int) = 4) by decide, show ¬ ((7 : Int) = 5) by decide, show ¬ ((7 : Int) = 6) by decide, if_false] at hp
    omega
theorem whole_bd {r : RR} (h : Lens r) {p : Int} (hp : InP r p) (h4 : ¬ r.fr = 1) (h2 : ¬ r.fr = 2) (h3 : ¬ r.fr = 3) : -800000 ≤ (wholeV r p).1 ∧ (wholeV r p).1 ≤ 3000000 ∧ -800000 ≤ (wholeV r p).2 ∧ (wholeV r p).2 ≤ 3000000 := by
  have b := inP_bd h hp
  have f0 := h.f0
  have f1 := h.f1
  have w0 := h.w0
  have w1 := h.w1
  unfold wholeV
  split
  · have := b.2.2.2.1 (by assumption); dsimp only; omega
  split
  · have := b.2.2.2.2.1 (by assumption); dsimp only; omega
  split
  · have c := b.2.2.2.2.2.1 (by assumption)
    have l := ln_bd (p / 12) (p % 12 + 1) (by omega) (by omega)
    have a := num_bd (y := p / 12) (m := p % 12 + 1) (d := 1) ⟨by omega, by omega, by omega, by omega, by omega, by omega⟩
    dsimp only; omega
  split
  · have c := b.2.2.2.2.2.2.1 (by omega) (by assumption)
    have a := num_bd (rt_first (y := p) (by omega) (by omega))
    have a2 := num_bd (rt_31 (y := p) (by omega) (by omega))
    dsimp only; omega
  · have c := b.2.2.2.2.2.2.2 (by omega) (by assumption)
    have a := fw_bd p r.wk
    have a2 := fw_bd (p + 1) r.wk
    have e1 := ah_bd (y := p) (by omega) (by omega)
    have e2 := ah_bd (y := p + 1) (by omega) (by omega)
    dsimp only; omega
theorem fwhole {r : RR} (h : Lens r) {p : Int} (hp : InP r p) (h1 : ¬ r.fr = 1) (h2 : ¬ r.fr = 2) (h3 : ¬ r.fr = 3) : Ev (fun k => filter_whole.f k r.fr r.iv r.ct r.un r.ua r.utc r.sec r.mi r.ho r.dy r.md r.yd r.wn r.mo r.sp r.wk p) (wholeV r p) := by
  have b := inP_bd h hp
  have f0 := h.f0
  have f1 := h.f1
  have w0 := h.w0
  have w1 := h.w1
  unfold filter_whole.f wholeV
  refine evif (fun c => by rw [if_pos c]; exact Ev.now _) (fun c4 => ?_)
  rw [if_neg c4]
  refine evif (fun c => ?_) (fun c5 => ?_)
  · have d := b.2.2.2.2.1 c
    rw [if_pos c, w64 (x := 7 * p) (by omega) (by omega), w64 (x := 7 * p - 4) (by omega) (by omega), w64 (x := 7 * p - 4 + r.wk) (by omega) (by omega), w64 (x := 7 * p - 4 + r.wk + 7) (by omega) (by omega), w64 (by omega) (by omega)]
    exact evs (Prod.ext rfl (by show 7 * p - 4 + r.wk + 7 - 1 = 7 * p - 4 + r.wk + 6; omega))
  rw [if_neg c5]
  refine evif (fun c => ?_) (fun c6 => ?_)
  · have d := b.2.2.2.2.2.1 c
    have l := ln_bd (p / 12) (p % 12 + 1) (by omega) (by omega)
    have hr : Rt (p / 12) (p % 12 + 1) 1 := ⟨by omega, by omega, by omega, by omega, by omega, by omega⟩
    have a := num_bd hr
    rw [if_pos c, tdiv_nn 12 (by omega), tmod_nn 12 (by omega), w64 (x := p / 12) (by omega) (by omega), w64 (x := p % 12 + 1) (by omega) (by omega)]
    refine evb (fnum hr) (evb (clen _ _) (evs ?_))
    rw [w64 (x := num (p / 12) (p % 12 + 1) 1 + ln (p / 12) (p % 12 + 1)) (by omega) (by omega), w64 (by omega) (by omega)]
  rw [if_neg c6]
  by_cases e : r.wn = []
  · have d := b.2.2.2.2.2.2.1 (by omega) e
    rw [if_pos e]
    simp only [e, List.length_nil, Int.natCast_zero, gt_iff_lt, Int.lt_irrefl, if_false]
    exact evb (fnum (rt_first (by omega) (by omega))) (evb (fnum (rt_31 (by omega) (by omega))) (evs rfl))
  · have d := b.2.2.2.2.2.2.2 (by omega) e
    rw [if_neg e]
    have : (r.wn.length : Int) > 0 := by
      have : r.wn.length ≠ 0 := fun e3 => e (List.eq_nil_of_length_eq_zero e3)
      omega
    refine evp this ?_
    exact evb (fweeks (by omega) (by omega) w0 w1) (evs rfl)
theorem fSpan {r : RR} (h : Right r) {p : Int} (pl : perV r (-62135596800) ≤ p) : Ev (fun k => filter_Span.f k r.fr r.iv r.ct r.un r.ua r.utc r.sec r.mi r.ho r.dy r.md r.yd r.wn r.mo r.sp r.wk p) (spanV r p) := by
  have hl := h.lens
  unfold filter_Span.f
  refine evb (fcheck h) ?_
  simp only [if_true]
  refine evb fleast (evb (fperiod hl in_least) ?_)
  have stop : ∀ b : Bool, b = true → ¬ InP r p → Ev (fun k => filter_Span.j0 k p b r.fr r.iv r.ct r.un r.ua r.utc r.sec r.mi r.ho r.dy r.md r.yd r.wn r.mo r.sp r.wk) (spanV r p) := fun b hb hp => by
    subst hb
    unfold spanV
    rw [if_neg (fun e => hp e.1)]
    exact evstep (by simp only [filter_Span.j0, if_true]; exact Ev.now _)
  have j1 : InP r p → ∀ a b : Int, a = (spanW r p).1 → b = (spanW r p).2 → Ev (fun k => filter_Span.j1 k a b) (spanV r p) := fun hp a b ea eb => by
    refine evstep ?_
    simp only [filter_Span.j1]
    unfold spanV
    rw [← ea, ← eb]
    refine evb (fin_ a) ?_
    by_cases c : InT a
    · rw [decide_eq_true c]
      simp only [if_true]
      refine evb (fin_ b) ?_
      by_cases c2 : InT b
      · rw [decide_eq_true c2]
        simp only [if_true]
        rw [if_pos ⟨hp, c, c2⟩]
        exact Ev.now _
      · rw [decide_eq_false c2]
        simp only [Bool.false_eq_true, if_false]
        rw [if_neg (fun e => c2 e.2.2)]
        exact Ev.now _
    · rw [decide_eq_false c]
      simp only [Bool.false_eq_true, if_false]
      rw [if_neg (fun e => c e.2.1)]
      exact Ev.now _
  refine evn (by omega) ?_
  refine evb fmost (evb (fperiod hl in_most) ?_)
  by_cases c2 : p > perV r 253402300799
  · exact stop _ (decide_eq_true c2) (fun e => by unfold InP at e; omega)
  · have hp : InP r p := ⟨by omega, by omega⟩
    have b := inP_bd hl hp
    rw [decide_eq_false c2]
    refine evstep ?_
    simp only [filter_Span.j0, Bool.false_eq_true, if_false]
    refine evif (fun c => j1 hp _ _ (by unfold spanW; rw [if_pos c]) (by unfold spanW; rw [if_pos c])) (fun c1 => ?_)
    refine evif (fun c => ?_) (fun c2 => ?_)
    · have d := b.2.1 c
      rw [w64 (x := p * 60) (by omega) (by omega), w64 (x := p * 60 + 60) (by omega) (by omega), w64 (by omega) (by omega)]
      exact j1 hp _ _ (by unfold spanW; rw [if_neg c1, if_pos c]; show p * 60 = 60 * p; omega) (by unfold spanW; rw [if_neg c1, if_pos c]; show p * 60 + 60 - 1 = 60 * p + 59; omega)
    refine evif (fun c => ?_) (fun c3 => ?_)
    · have d := b.2.2.1 c
      rw [w64 (x := p * 3600) (by omega) (by omega), w64 (x := p * 3600 + 3600) (by omega) (by omega), w64 (by omega) (by omega)]
      exact j1 hp _ _ (by unfold spanW; rw [if_neg c1, if_neg c2, if_pos c]; show p * 3600 = 3600 * p; omega) (by unfold spanW; rw [if_neg c1, if_neg c2, if_pos c]; show p * 3600 + 3600 - 1 = 3600 * p + 3599; omega)
    have wb := whole_bd hl hp c1 c2 c3
    refine evb (fwhole hl hp c1 c2 c3) ?_
    rw [w64 (x := (wholeV r p).1 * 86400) (by omega) (by omega), w64 (x := (wholeV r p).2 * 86400) (by omega) (by omega), w64 (x := (wholeV r p).2 * 86400 + 86400) (by omega) (by omega), w64 (by omega) (by omega)]
    exact j1 hp _ _ (by unfold spanW; rw [if_neg c1, if_neg c2, if_neg c3]; show (wholeV r p).1 * 86400 = 86400 * (wholeV r p).1; omega) (by unfold spanW; rw [if_neg c1, if_neg c2, if_neg c3]; show (wholeV r p).2 * 86400 + 86400 - 1 = 86400 * (wholeV r p).2 + 86399; omega)
theorem fw_lt {a b k : Int} (h : fw a k < fw b k) : a < b := by
  by_cases c : a < b
  · exact c
  exfalso
  have e := ah_le (a := b) (b := a) (by omega)
  have b1 := fw_bd a k
  have b2 := fw_bd b k
  by_cases q : a = b
  · subst q; omega
  · omega
/-- A day's period. -/
noncomputable def perD (r : RR) (n : Int) : Int := if r.fr = 4 then n else if r.fr = 5 then (n + 4 - r.wk) / 7 else if r.fr = 6 then 12 * (dt n).1 + (dt n).2.1 - 1 else if r.wn = [] then (dt n).1 else wy r n
theorem perV_D {r : RR} (h1 : ¬ r.fr = 1) (h2 : ¬ r.fr = 2) (h3 : ¬ r.fr = 3) (t : Int) : perV r t = perD r (t / 86400) := by
  unfold perV perD
  rw [if_neg h1, if_neg h2, if_neg h3]
theorem wy_fw {r : RR} (h : Lens r) {n : Int} (hn : -719162 ≤ n) (hn' : n ≤ 2932896) : fw (wy r n) r.wk ≤ n ∧ n < fw (wy r n + 1) r.wk := by
  have m := yr_mid (k := r.wk) hn hn'
  unfold wy
  rw [noV_in hn hn' h.w0 h.w1]
  exact mid_fw m.2.2.1 m.2.2.2
theorem num_31 (y : Int) : num y 12 31 = ah (y + 1) - 719528 - 1 := by
  unfold num
  have e : cum y 12 = 334 + lpi y := by simp [cum]
  have := ah_succ y
  omega
theorem whole_in {r : RR} (h : Lens r) {n : Int} (hn : -719162 ≤ n) (hn' : n ≤ 2932896) : (wholeV r (perD r n)).1 ≤ n ∧ n ≤ (wholeV r (perD r n)).2 := by
  have hs := dt_spec (n := n) (by omega) (by omega)
  have w0 := h.w0
  have w1 := h.w1
  obtain ⟨⟨y0, y1, m0, m1, d0, d1⟩, e⟩ := hs
  unfold wholeV perD
  by_cases c4 : r.fr = 4
  · simp only [if_pos c4]; omega
  by_cases c5 : r.fr = 5
  · simp only [if_neg c4, if_pos c5]; omega
  by_cases c6 : r.fr = 6
  · simp only [if_neg c4, if_neg c5, if_pos c6]
    rw [show (12 * (dt n).1 + (dt n).2.1 - 1) / 12 = (dt n).1 by omega, show (12 * (dt n).1 + (dt n).2.1 - 1) % 12 + 1 = (dt n).2.1 by omega]
    unfold num at *
    omega
  by_cases c7 : r.wn = []
  · simp only [if_neg c4, if_neg c5, if_neg c6, if_pos c7]
    rw [num_31, num_1]
    have := num_in ⟨y0, y1, m0, m1, d0, d1⟩
    rw [e] at this
    omega
  · simp only [if_neg c4, if_neg c5, if_neg c6, if_neg c7]
    have := wy_fw h hn hn'
    omega
theorem whole_eq {r : RR} (h : Lens r) {n p : Int} (hn : -719162 ≤ n) (hn' : n ≤ 2932896) (b6 : r.fr = 6 → 0 ≤ p ∧ p ≤ 120011) (l : (wholeV r p).1 ≤ n) (u : n ≤ (wholeV r p).2) : perD r n = p := by
  have w0 := h.w0
  have w1 := h.w1
  unfold wholeV at l u
  unfold perD
  by_cases c4 : r.fr = 4
  · simp only [if_pos c4] at *; omega
  by_cases c5 : r.fr = 5
  · simp only [if_neg c4, if_pos c5] at *; omega
  by_cases c6 : r.fr = 6
  · simp only [if_neg c4, if_neg c5, if_pos c6] at *
    have b := b6 c6
    have e : n = num (p / 12) (p % 12 + 1) (n - num (p / 12) (p % 12 + 1) 1 + 1) := by unfold num; omega
    have hr : Rt (p / 12) (p % 12 + 1) (n - num (p / 12) (p % 12 + 1) 1 + 1) := ⟨by omega, by omega, by omega, by omega, by omega, by omega⟩
    rw [e, dt_num hr]
    show 12 * (p / 12) + (p % 12 + 1) - 1 = p
    omega
  by_cases c7 : r.wn = []
  · simp only [if_neg c4, if_neg c5, if_neg c6, if_pos c7] at *
    rw [num_1] at l
    rw [num_31] at u
    exact yr_eq (by omega) (by omega) (by omega) (by omega)
  · simp only [if_neg c4, if_neg c5, if_neg c6, if_neg c7] at *
    have m := yr_mid (k := r.wk) hn hn'
    unfold wy
    rw [noV_in hn hn' w0 w1]
    exact mid_yr m.2.2.1 m.2.2.2 l (by omega)
theorem whole_next (r : RR) (p : Int) : (wholeV r (p + 1)).1 = (wholeV r p).2 + 1 := by
  unfold wholeV
  by_cases c4 : r.fr = 4
  · simp only [if_pos c4]
  by_cases c5 : r.fr = 5
  · simp only [if_neg c4, if_pos c5]; omega
  by_cases c6 : r.fr = 6
  · simp only [if_neg c4, if_neg c5, if_pos c6]
    by_cases q : p % 12 = 11
    · rw [show (p + 1) / 12 = p / 12 + 1 by omega, show (p + 1) % 12 + 1 = 1 by omega, q]
      show num (p / 12 + 1) 1 1 = num (p / 12) 12 1 + ln (p / 12) 12 - 1 + 1
      have e := num_31 (p / 12)
      rw [num_1]
      have e2 : ln (p / 12) 12 = 31 := by simp [ln]
      unfold num at *
      omega
    · rw [show (p + 1) / 12 = p / 12 by omega, show (p + 1) % 12 + 1 = p % 12 + 1 + 1 by omega]
      have := cum_succ (p / 12) (p % 12 + 1) (by omega) (by omega)
      unfold num
      omega
  by_cases c7 : r.wn = []
  · simp only [if_neg c4, if_neg c5, if_neg c6, if_pos c7]
    rw [num_31, num_1]
    omega
  · simp only [if_neg c4, if_neg c5, if_neg c6, if_neg c7]
    omega
theorem whole_len (r : RR) (p : Int) : (wholeV r p).1 ≤ (wholeV r p).2 ∧ (wholeV r p).2 ≤ (wholeV r p).1 + 371 := by
  unfold wholeV
  by_cases c4 : r.fr = 4
  · simp only [if_pos c4]; omega
  by_cases c5 : r.fr = 5
  · simp only [if_neg c4, if_pos c5]; omega
  by_cases c6 : r.fr = 6
  · simp only [if_neg c4, if_neg c5, if_pos c6]
    have := ln_bd (p / 12) (p % 12 + 1) (by omega) (by omega)
    omega
  have a := ah_succ p
  have l := lpi_01 p
  by_cases c7 : r.wn = []
  · simp only [if_neg c4, if_neg c5, if_neg c6, if_pos c7]
    rw [num_31, num_1]
    omega
  · simp only [if_neg c4, if_neg c5, if_neg c6, if_neg c7]
    have b1 := fw_bd p r.wk
    have b2 := fw_bd (p + 1) r.wk
    omega
theorem inP_per {r : RR} (h : Lens r) {t : Int} (ht : InT t) : InP r (perV r t) := by
  have y := dt_year ht
  have hm := (dt_spec (n := t / 86400) (by omega) (by omega)).1.2.2
  have ht' := ht
  unfold InT at ht'
  have f0 := h.f0
  have f1 := h.f1
  unfold InP perV
  rw [dt_least, dt_most]
  by_cases c1 : r.fr = 1
  · simp only [if_pos c1]; omega
  by_cases c2 : r.fr = 2
  · simp only [if_neg c1, if_pos c2]; omega
  by_cases c3 : r.fr = 3
  · simp only [if_neg c1, if_neg c2, if_pos c3]; omega
  by_cases c4 : r.fr = 4
  · simp only [if_neg c1, if_neg c2, if_neg c3, if_pos c4]; omega
  by_cases c5 : r.fr = 5
  · simp only [if_neg c1, if_neg c2, if_neg c3, if_neg c4, if_pos c5]; omega
  by_cases c6 : r.fr = 6
  · simp only [if_neg c1, if_neg c2, if_neg c3, if_neg c4, if_neg c5, if_pos c6]; omega
  by_cases c7 : r.wn = []
  · simp only [if_neg c1, if_neg c2, if_neg c3, if_neg c4, if_neg c5, if_neg c6, if_pos c7]; omega
  · simp only [if_neg c1, if_neg c2, if_neg c3, if_neg c4, if_neg c5, if_neg c6, if_neg c7]
    have a1 := wy_fw (n := -62135596800 / 86400) h (by decide) (by decide)
    have a2 := wy_fw (n := t / 86400) h y.2.2.1 y.2.2.2
    have a3 := wy_fw (n := 253402300799 / 86400) h (by decide) (by decide)
    constructor
    · have := fw_lt (a := wy r (-62135596800 / 86400)) (b := wy r (t / 86400) + 1) (k := r.wk) (by omega)
      omega
    · have := fw_lt (a := wy r (t / 86400)) (b := wy r (253402300799 / 86400) + 1) (k := r.wk) (by omega)
      omega
theorem span_in {r : RR} (h : Lens r) {t : Int} (ht : InT t) : (spanW r (perV r t)).1 ≤ t ∧ t ≤ (spanW r (perV r t)).2 := by
  have y := dt_year ht
  by_cases c1 : r.fr = 1
  · unfold spanW perV; simp only [if_pos c1]; omega
  by_cases c2 : r.fr = 2
  · unfold spanW perV; simp only [if_neg c1, if_pos c2]; omega
  by_cases c3 : r.fr = 3
  · unfold spanW perV; simp only [if_neg c1, if_neg c2, if_pos c3]; omega
  rw [perV_D c1 c2 c3]
  have w := whole_in h y.2.2.1 y.2.2.2
  unfold spanW
  simp only [if_neg c1, if_neg c2, if_neg c3]
  omega
theorem span_eq {r : RR} (h : Lens r) {x p : Int} (hx : InT x) (b6 : r.fr = 6 → 0 ≤ p ∧ p ≤ 120011) (l : (spanW r p).1 ≤ x) (u : x ≤ (spanW r p).2) : perV r x = p := by
  have y := dt_year hx
  unfold spanW at l u
  by_cases c1 : r.fr = 1
  · unfold perV; simp only [if_pos c1] at *; omega
  by_cases c2 : r.fr = 2
  · unfold perV; simp only [if_neg c1, if_pos c2] at *; omega
  by_cases c3 : r.fr = 3
  · unfold perV; simp only [if_neg c1, if_neg c2, if_pos c3] at *; omega
  rw [perV_D c1 c2 c3]
  simp only [if_neg c1, if_neg c2, if_neg c3] at l u
  exact whole_eq h y.2.2.1 y.2.2.2 b6 (by omega) (by omega)
theorem span_next (r : RR) (p : Int) : (spanW r (p + 1)).1 = (spanW r p).2 + 1 := by
  unfold spanW
  by_cases c1 : r.fr = 1
  · simp only [if_pos c1]
  by_cases c2 : r.fr = 2
  · simp only [if_neg c1, if_pos c2]; omega
  by_cases c3 : r.fr = 3
  · simp only [if_neg c1, if_neg c2, if_pos c3]; omega
  simp only [if_neg c1, if_neg c2, if_neg c3]
  have := whole_next r p
  omega
theorem span_out {r : RR} (h : Lens r) {t : Int} (ht : InT t) (ho : ¬ (InT (spanW r (perV r t)).1 ∧ InT (spanW r (perV r t)).2)) : (dt (t / 86400)).1 < 3 ∨ 9997 < (dt (t / 86400)).1 := by
  have y := dt_year ht
  have si := span_in h ht
  have b := yr_bd (n := t / 86400) (by omega) (by omega)
  have key : t / 86400 < -719162 + 371 ∨ 2932896 - 371 < t / 86400 := by
    unfold InT at ht ho
    unfold spanW at ho si
    by_cases c1 : r.fr = 1
    · unfold perV at *; simp only [if_pos c1] at *; omega
    by_cases c2 : r.fr = 2
    · unfold perV at *; simp only [if_neg c1, if_pos c2] at *; omega
    by_cases c3 : r.fr = 3
    · unfold perV at *; simp only [if_neg c1, if_neg c2, if_pos c3] at *; omega
    simp only [if_neg c1, if_neg c2, if_neg c3] at ho si
    have l := whole_len r (perV r t)
    omega
  have e3 : ah 3 = 1096 := by decide
  have e9 : ah 9998 = 3651695 := by decide
  rcases key with k | k
  · left
    exact ah_mono (by have : yr (t / 86400) = (dt (t / 86400)).1 := rfl; rw [← this, e3]; omega)
  · right
    have := ah_mono (a := 9998) (b := (dt (t / 86400)).1 + 1) (by have : yr (t / 86400) = (dt (t / 86400)).1 := rfl; rw [← this, e9]; omega)
    omega
end Go.Proofs.Ytmhpmkbifhgnbaa.Pure
