/- What the functions of layer 23 compute, in plain lists. No condition. -/
/- What the functions below the rules answer, as contracts. No condition beyond those each lemma names. -/
import Derived.Test.YtjjaiahfkiojlaaGreatMG22W2
import Derived.Test.YtjjaiahfkiojlaaGreatMHo
import Derived.Test.YtjjaiahfkiojlaaGreatMOx22
import Derived.Test.YtjjaiahfkiojlaaGreatMOx20
import Derived.Test.YtjjaiahfkiojlaaGreatMOx3
import Derived.Test.YtjjaiahfkiojlaaGreatMOx57
import Derived.Test.YtjjaiahfkiojlaaGreatMOx44
import Derived.Test.YtjjaiahfkiojlaaGreatOx45
import Derived.Test.YtjjaiahfkiojlaaGreatMOx61
import Derived.Test.YtjjaiahfkiojlaaGreatMOx7
namespace Go.Proofs.YtjjaiahfkiojlaaGreat.Pure
open Go.RowKit Go.Proofs.YtjjaiahfkiojlaaGreat.O Go.Proofs.YtjjaiahfkiojlaaGreatW.PrintWords Go.Proofs.YtjjaiahfkiojlaaGreatW.PrintLast
open Go.Proofs.YtjjaiahfkiojlaaGreat.Civ
set_option linter.unusedVariables false
set_option linter.unusedSimpArgs false
/-- A list, rising. -/
def srt (l : List Int) : List Int := l.mergeSort fun x y => decide (x ≤ y)
def choiceV (l : List Int) (n : Int) : List Int := if l = [] then [n] else srt l
/-- The times of day that a rule lets, of a period that begins at a time of day. -/
def hoursV (r : RR) (s f : Int) : List Int := choiceV r.ho (if 3 < r.fr then s / 3600 else f / 3600)
def minsV (r : RR) (s f : Int) : List Int := choiceV r.mi (if 2 < r.fr then s % 3600 / 60 else f % 3600 / 60)
def secsV (r : RR) (s f : Int) : List Int := choiceV r.sec (if 1 < r.fr then s % 60 else f % 60)
def clk1 (h m : Int) (ss : List Int) : List Int := ss.map fun x => h * 3600 + m * 60 + x
def clk2 (h : Int) (ms ss : List Int) : List Int := ms.flatMap fun m => clk1 h m ss
def clk3 (hs ms ss : List Int) : List Int := hs.flatMap fun h => clk2 h ms ss
def clocksV (r : RR) (s f : Int) : List Int := clk3 (hoursV r s f) (minsV r s f) (secsV r s f)
/-- A day's times within bounds. -/
def inL (a b d : Int) (ts : List Int) : List Int := (ts.map fun x => d * 86400 + x).filter fun t => !(decide (t < a) || decide (b < t))
noncomputable def dayL (r : RR) (first a b : Int) (ts : List Int) (d : Int) : List Int := if dayV r first d then inL a b d ts else []
/-- The times of n days. -/
noncomputable def daysL (r : RR) (first a b : Int) (ts : List Int) (d : Int) (n : Nat) : List Int := (List.range n).flatMap fun (i : Nat) => dayL r first a b ts (d + (i : Int))
/-- The times that a rule lets from a time to another one. -/
noncomputable def letsL (r : RR) (s a b : Int) : List Int := daysL r (s / 86400) a b (clocksV r (s % 86400) (a % 86400)) (a / 86400) (b / 86400 + 1 - a / 86400).toNat
/-- Those of times that a rule's SetPos asks for. -/
def asked (sp : List Int) (n : Nat) (i : Nat) : Bool := decide ((i : Int) + 1 ∈ sp) || decide ((i : Int) - n ∈ sp)
def picksV (sp l : List Int) (k : Nat) : List Int := ((List.range k).filter (asked sp l.length)).filterMap fun i => l[i]?
def placesV (r : RR) (l : List Int) : List Int := if r.sp = [] then l else picksV r.sp l l.length
/-- What a worker has. -/
structure St where
  sp : Int
  ct : Int
  out : List Int
def tellV (from_ to_ : Int) (s : St) (t : Int) : St := ⟨s.sp, s.ct + 1, if from_ ≤ t ∧ t ≤ to_ then s.out ++ [t] else s.out⟩
def goesV (r : RR) (start : Int) (ct t : Int) : Bool := decide (start < t) && (!r.un || decide (t ≤ r.ua)) && (decide (r.ct = 0) || decide (ct < r.ct))
def passV (r : RR) (start from_ to_ : Int) (s : St) (l : List Int) : St := l.foldl (fun s t => if goesV r start s.ct t then tellV from_ to_ s t else s) s
/-- A period is gone through. -/
noncomputable def stepV (r : RR) (start from_ to_ F : Int) (s : St) (a b : Int) : Option St :=
  if F < s.sp + 1 then none
  else if F < s.sp + 1 + (((letsL r start a b).take (F.toNat + 1)).length : Nat) then none
  else some (passV r start from_ to_ ⟨s.sp + 1 + (((letsL r start a b).take (F.toNat + 1)).length : Nat), s.ct, s.out⟩ (placesV r ((letsL r start a b).take (F.toNat + 1))))
def endsV (r : RR) (to_ : Int) (ct a : Int) : Bool := decide (to_ < a) || (r.un && decide (r.ua < a)) || (decide (0 < r.ct) && decide (r.ct ≤ ct))
noncomputable def worksV (r : RR) (start from_ to_ F : Int) : Nat → Int → St → Option St
  | 0, _, _ => none
  | k + 1, p, s => if (spanV r p).2.2 ≠ 0 ∨ endsV r to_ s.ct (spanV r p).1 = true then some s
    else match stepV r start from_ to_ F s (spanV r p).1 (spanV r p).2.1 with
      | none => none
      | some s' => worksV r start from_ to_ F k (p + r.iv) s'
/-- The first period that is gone through; false: none is. -/
noncomputable def beginV (r : RR) (start from_ : Int) : Int × Bool :=
  if (spanV r (perV r start)).2.2 ≠ 0 ∨ 0 < r.ct ∨ from_ ≤ start then (perV r start, decide ((spanV r (perV r start)).2.2 = 0))
  else if InT from_ then (perV r start + (perV r from_ - perV r start + r.iv - 1) / r.iv * r.iv, true) else (0, false)
noncomputable def goneV (r : RR) (start from_ to_ F : Int) : Option St :=
  if (beginV r start from_).2 then worksV r start from_ to_ F (F.toNat + 2) (beginV r start from_).1 (tellV from_ to_ ⟨0, 0, []⟩ start) else some (tellV from_ to_ ⟨0, 0, []⟩ start)
def mayT (from_ to_ F : Int) : Prop := from_ ≤ to_ ∧ -4611686018427387904 ≤ from_ ∧ from_ ≤ 4611686018427387904 ∧ -4611686018427387904 ≤ to_ ∧ to_ ≤ 4611686018427387904 ∧ 0 ≤ F ∧ F ≤ 200000
instance (a b c : Int) : Decidable (mayT a b c) := by unfold mayT; infer_instance
/-- A rule's times, what they cost, or why not. -/
noncomputable def timesV (r : RR) (start from_ to_ F : Int) : List Int × Int × Int :=
  if mayT from_ to_ F then (match goneV r start from_ to_ F with | none => ([], 0, 22) | some s => (s.out, s.sp, 0)) else ([], 0, 1)
/-- A period's times. -/
noncomputable def ofV (r : RR) (start p : Int) : List Int × Int := if (spanV r p).2.2 = 0 then (placesV r (letsL r start (spanV r p).1 (spanV r p).2.1), 0) else ([], (spanV r p).2.2)
/-! The pieces -/
theorem clk1_len (h m : Int) (ss : List Int) : (clk1 h m ss).length = ss.length := by simp [clk1]
theorem clk2_len (h : Int) (ms ss : List Int) : (clk2 h ms ss).length = ms.length * ss.length := by
  induction ms with
  | nil => simp [clk2]
  | cons m l ih =>
    have : clk2 h (m :: l) ss = clk1 h m ss ++ clk2 h l ss := rfl
    rw [this, List.length_append, ih, clk1_len, List.length_cons, Nat.succ_mul, Nat.add_comm]
theorem clk3_len (hs ms ss : List Int) : (clk3 hs ms ss).length = hs.length * (ms.length * ss.length) := by
  induction hs with
  | nil => simp [clk3]
  | cons m l ih =>
    have : clk3 (m :: l) ms ss = clk2 m ms ss ++ clk3 l ms ss := rfl
    rw [this, List.length_append, ih, clk2_len, List.length_cons, Nat.succ_mul, Nat.add_comm]
theorem clk1_succ (h m : Int) (ss : List Int) {i : Nat} (hi : i < ss.length) : clk1 h m (ss.take (i + 1)) = clk1 h m (ss.take i) ++ [h * 3600 + m * 60 + ss[i]] := by
  unfold clk1
  rw [List.take_add_one, List.getElem?_eq_getElem hi, List.map_append]
  rfl
theorem clk2_succ (h : Int) (ms ss : List Int) {i : Nat} (hi : i < ms.length) : clk2 h (ms.take (i + 1)) ss = clk2 h (ms.take i) ss ++ clk1 h ms[i] ss := by
  unfold clk2
  rw [List.take_add_one, List.getElem?_eq_getElem hi, List.flatMap_append]
  simp
theorem clk3_succ (hs ms ss : List Int) {i : Nat} (hi : i < hs.length) : clk3 (hs.take (i + 1)) ms ss = clk3 (hs.take i) ms ss ++ clk2 hs[i] ms ss := by
  unfold clk3
  rw [List.take_add_one, List.getElem?_eq_getElem hi, List.flatMap_append]
  simp
theorem srt_len (l : List Int) : (srt l).length = l.length := by unfold srt; simp
theorem choice_len (l : List Int) (n : Int) : (choiceV l n).length ≤ l.length + 1 := by
  unfold choiceV
  split
  · simp
  · rw [srt_len]; omega
theorem srt_mem (l : List Int) (x : Int) : x ∈ srt l ↔ x ∈ l := by unfold srt; simp
theorem inL_succ (a b d : Int) (ts : List Int) {j : Nat} (hj : j < ts.length) : inL a b d (ts.take (j + 1)) = inL a b d (ts.take j) ++ (if (decide (d * 86400 + ts[j] < a) || decide (b < d * 86400 + ts[j])) = true then [] else [d * 86400 + ts[j]]) := by
  unfold inL
  rw [List.take_add_one, List.getElem?_eq_getElem hj, List.map_append, List.filter_append]
  congr 1
  simp only [Option.toList_some, List.map_cons, List.map_nil, List.filter_cons, List.filter_nil]
  cases hc : (decide (d * 86400 + ts[j] < a) || decide (b < d * 86400 + ts[j])) <;> simp [hc]
theorem inL_len (a b d : Int) (ts : List Int) : (inL a b d ts).length ≤ ts.length := by
  unfold inL
  exact Nat.le_trans (List.length_filter_le _ _) (by simp)
theorem inL_pre (a b d : Int) (ts : List Int) (j : Nat) : inL a b d (ts.take j) <+: inL a b d ts := by
  unfold inL
  exact ((List.take_prefix j ts).map _).filter _
theorem daysL_succ (r : RR) (first a b : Int) (ts : List Int) (d : Int) (i : Nat) : daysL r first a b ts d (i + 1) = daysL r first a b ts d i ++ dayL r first a b ts (d + (i : Int)) := by
  unfold daysL
  rw [List.range_succ, List.flatMap_append]
  simp
theorem daysL_pre (r : RR) (first a b : Int) (ts : List Int) (d : Int) {i n : Nat} (h : i ≤ n) : daysL r first a b ts d i <+: daysL r first a b ts d n := by
  induction n with
  | zero =>
    obtain rfl : i = 0 := by omega
    exact List.prefix_rfl
  | succ n ih =>
    by_cases q : i = n + 1
    · subst q; exact List.prefix_rfl
    · exact (ih (by omega)).trans (by rw [daysL_succ]; exact List.prefix_append _ _)
theorem dayL_len (r : RR) (first a b : Int) (ts : List Int) (d : Int) : (dayL r first a b ts d).length ≤ ts.length := by
  unfold dayL
  split
  · exact inL_len _ _ _ _
  · simp
theorem daysL_len (r : RR) (first a b : Int) (ts : List Int) (d : Int) (n : Nat) : (daysL r first a b ts d n).length ≤ n * ts.length := by
  induction n with
  | zero => simp [daysL]
  | succ n ih =>
    rw [daysL_succ, List.length_append, Nat.succ_mul]
    exact Nat.add_le_add ih (dayL_len _ _ _ _ _ _)
theorem take_pre {l L : List Int} {n : Nat} (h : l <+: L) (hl : l.length = n) : L.take n = l := by
  have := List.prefix_iff_eq_take.1 h
  rw [hl] at this
  exact this.symm
theorem picks_succ (sp l : List Int) {i : Nat} (hi : i < l.length) : picksV sp l (i + 1) = picksV sp l i ++ (if asked sp l.length i = true then [l[i]] else []) := by
  unfold picksV
  rw [List.range_succ, List.filter_append, List.filterMap_append]
  congr 1
  cases hc : asked sp l.length i <;> simp [hc, hi]
theorem picks_len (sp l : List Int) (k : Nat) : (picksV sp l k).length ≤ k := by
  unfold picksV
  exact Nat.le_trans (List.length_filterMap_le _ _) (Nat.le_trans (List.length_filter_le _ _) (by simp))
theorem pass_snoc (r : RR) (start from_ to_ : Int) (s : St) (l : List Int) (t : Int) : passV r start from_ to_ s (l ++ [t]) = if goesV r start (passV r start from_ to_ s l).ct t then tellV from_ to_ (passV r start from_ to_ s l) t else passV r start from_ to_ s l := by
  unfold passV
  rw [List.foldl_append]
  rfl
/-- The last of a rule's times, whether there is one, what it cost, or why not. -/
def askV (to_ back : Int) : Int × Int := if (-4611686018427387904 ≤ to_ ∧ to_ ≤ 4611686018427387904) ∧ 0 ≤ back ∧ back ≤ 4611686018427387904 then (to_, back) else (0, -1)
noncomputable def lastV (r : RR) (st to_ back F : Int) : Int × Bool × Int × Int :=
  if (timesV r st ((askV to_ back).1 - (askV to_ back).2) (askV to_ back).1 F).2.2 ≠ 0 ∨ (timesV r st ((askV to_ back).1 - (askV to_ back).2) (askV to_ back).1 F).1 = [] then (0, false, (timesV r st ((askV to_ back).1 - (askV to_ back).2) (askV to_ back).1 F).2.1, (timesV r st ((askV to_ back).1 - (askV to_ back).2) (askV to_ back).1 F).2.2)
  else ((timesV r st ((askV to_ back).1 - (askV to_ back).2) (askV to_ back).1 F).1.getD ((timesV r st ((askV to_ back).1 - (askV to_ back).2) (askV to_ back).1 F).1.length - 1) 0, true, (timesV r st ((askV to_ back).1 - (askV to_ back).2) (askV to_ back).1 F).2.1, 0)
theorem ask_bd (to_ back : Int) : -9223372036854775808 ≤ (askV to_ back).1 - (askV to_ back).2 ∧ (askV to_ back).1 - (askV to_ back).2 < 9223372036854775808 := by
  unfold askV
  split
  · dsimp only; omega
  · decide
end Go.Proofs.YtjjaiahfkiojlaaGreat.Pure

namespace Go.Proofs.YtjjaiahfkiojlaaGreat.Pure
open Go.RowKit Go.Proofs.YtjjaiahfkiojlaaGreat.O Go.Proofs.YtjjaiahfkiojlaaGreatW.PrintWords Go.Proofs.YtjjaiahfkiojlaaGreatW.PrintLast
open Go.Proofs.YtjjaiahfkiojlaaGreat.Civ
set_option linter.unusedVariables false
set_option linter.unusedSimpArgs false
/-- A call returns this, and leaves what lay below. -/
abbrev Rets (w : World) (v : Value) : Ending → World → Prop := fun e w' => e = .returned v ∧ Below w.heap.size w w'
theorem rets_drawn {v : Value} {w : World} {e : Ending} {w' : World} (h : e = .returned v ∧ Drawn0 w w') : Rets w v e w' := by
  obtain ⟨rfl, n, rfl⟩ := h
  exact ⟨rfl, pw_below_drewN (Below.refl _ _) n⟩
section
variable {w : World}
theorem date_on {n : Int} (h : -719528 ≤ n) (h' : n ≤ 2933262) : Calls Tryz.prog 73 #[.int .i64 n] w (Rets w (.tuple #[.agg #[.int .i64 (dt n).1, .int .i64 (dt n).2.1, .int .i64 (dt n).2.2], .int .i64 0])) := by
  obtain ⟨k, hk⟩ := (cdate_dt h h').rounds
  exact civil_Date.calls k n _ _ _ _ w hk
theorem wday_on (n : Int) : Calls Tryz.prog 111 #[.int .i64 n] w (Rets w (.int .i64 (wd n))) := (civil_Weekday.calls n _ w (cwd n)).mono fun _ _ => rets_drawn
theorem one_on {A : Option Addr} {c : Nat} {l : List Int} (n s : Int) (asked : Bool) (hk : Kd.C (Kd.int .i64) w A l.length l) (hc : l.length ≤ c) (hl : l.length ≤ 1000000000) : Calls Tryz.prog 84 #[.slice A l.length c, .int .i64 n, .int .i64 s, .bool asked] w (Rets w (.bool (oneV l n s asked))) := by
  obtain ⟨k, h⟩ := (fone l n s asked hl).rounds
  exact (filter_one.calls k A c l n s asked _ w hk hc h).mono fun _ _ => rets_drawn
theorem either_on {A : Option Addr} {c : Nat} {l : List Int} {n m : Int} (hk : Kd.C (Kd.int .i64) w A l.length l) (hc : l.length ≤ c) (hl : l.length ≤ 1000000000) (h1 : -1000000 ≤ n) (h2 : n ≤ 1000000) (h3 : -1000000 ≤ m) (h4 : m ≤ 1000000) : Calls Tryz.prog 87 #[.slice A l.length c, .int .i64 n, .int .i64 m] w (Rets w (.bool (eitherV l n m))) := by
  obtain ⟨k, h⟩ := (feither l n m hl h1 h2 h3 h4).rounds
  exact (filter_either.calls k A c l n m _ w hk hc h).mono fun _ _ => rets_drawn
theorem num_on {y m d : Int} (h : Rt y m d) : Calls Tryz.prog 76 #[.int .i64 y, .int .i64 m, .int .i64 d] w (Rets w (.int .i64 (num y m d))) := by
  obtain ⟨k, hk⟩ := (fnum h).rounds
  exact filter_number.calls k y m d _ w hk
theorem len_on (y m : Int) : Calls Tryz.prog 77 #[.int .i64 y, .int .i64 m] w (Rets w (.int .i64 (ln y m))) := by
  obtain ⟨k, hk⟩ := (clen y m).rounds
  exact civil_Len.calls k y m _ w hk
theorem yday_on {n : Int} (h : -719528 ≤ n) (h' : n ≤ 2933262) : Calls Tryz.prog 85 #[.int .i64 n] w (Rets w (.tuple #[.int .i64 (yd n), .int .i64 0])) := by
  obtain ⟨k, hk⟩ := (cyd_dt h h').rounds
  rw [cum_dt h h'] at hk
  exact civil_YearDay.calls k n _ _ w hk
theorem wno_on (n k : Int) : Calls Tryz.prog 75 #[.int .i64 n, .int .i64 k] w (Rets w (.tuple #[.int .i64 (noV n k).1, .int .i64 (noV n k).2.1, .int .i64 (noV n k).2.2])) := by
  obtain ⟨q, hq⟩ := (wno n k).rounds
  exact week_No.calls q n k _ _ _ w hq
theorem weeks_on {y k : Int} (h : 0 ≤ y) (h' : y ≤ 10000) (hk : 0 ≤ k) (hk' : k ≤ 6) : Calls Tryz.prog 78 #[.int .i64 y, .int .i64 k] w (Rets w (.tuple #[.int .i64 (fw y k), .int .i64 (fw (y + 1) k - 1)])) := by
  obtain ⟨q, hq⟩ := (fweeks h h' hk hk').rounds
  exact filter_weeks.calls q y k _ _ w hq
theorem nth_on {f t k x : Int} (hf : -9223372036854775808 ≤ f) (hf' : f < 9223372036854775808) (ht : -9223372036854775808 ≤ t) (ht' : t < 9223372036854775808) : Calls Tryz.prog 114 #[.int .i64 f, .int .i64 t, .int .i64 k, .int .i64 x] w (Rets w (.tuple #[.int .i64 (nthV f t k x).1, .bool (nthV f t k x).2])) := by
  obtain ⟨q, hq⟩ := (wnth hf hf' ht ht').rounds
  exact (week_Nth.calls q f t k x _ _ w hq).mono fun _ _ => rets_drawn
theorem inT_on (t : Int) : Calls Tryz.prog 41 #[.int .i64 t] w (Rets w (.bool (decide (InT t)))) := by
  obtain ⟨q, hq⟩ := (fin_ t).rounds
  exact filter_in.calls q t _ w hq
theorem split_on {t : Int} (h : -9223372036854775808 ≤ t) (h' : t < 9223372036854775808) : Calls Tryz.prog 51 #[.int .i64 t] w (Rets w (.tuple #[.int .i64 (t / 86400), .int .i64 (t % 86400)])) := (clock_Split.calls t _ _ w (csplit h h')).mono fun _ _ => rets_drawn
end
end Go.Proofs.YtjjaiahfkiojlaaGreat.Pure
