-- What some functions of the program compute: a text of this claim's own (lines first written by the kit's tool, some proved anew).
/- A time's period and a period's span by a right rule, in plain numbers. No condition beyond those each lemma names. -/
/- What the functions of layer 23 compute, in plain lists. No condition. -/
import Derived.Test.YtfinhaghgmnegaaGreatMOx3
import Derived.Test.YtfinhaghgmnegaaGreatG22V
namespace Go.Proofs.YtfinhaghgmnegaaGreat.O
open Go.RowKit Go.Proofs.YtfinhaghgmnegaaGreatW.PrintWords Go.Proofs.YtfinhaghgmnegaaGreatW.PrintLast Go.Proofs.YtfinhaghgmnegaaGreatW.PrintMore
attribute [local go_sem] max2_int min2_int max_two min_two max_three min_three max_four min_four   -- for this text's walks alone
set_option linter.unusedVariables false
set_option linter.unusedSimpArgs false

/-! ### filter_down: function 68 -/
def filter_down.f (a0 : Int) (a1 : Int) : Option (Int) := if a1 = 0 then (none) else (if (Int.tmod a0 a1) < 0 then (some (wrap64 ((wrap64 (Int.tdiv a0 a1)) - 1))) else (some (wrap64 (Int.tdiv a0 a1))))
set_option maxHeartbeats 8000000 in
set_option maxRecDepth 100000 in
theorem filter_down.calls (a0 : Int) (a1 : Int) (r : Int) (w : World) (h : filter_down.f a0 a1 = some r) :
    Calls Tryz.prog 68 #[.int .i64 a0, .int .i64 a1] w fun e w' => e = .returned (.int .i64 r) ∧ Drawn0 w w' := by
  have H : (if a1 = 0 then (none) else (if (Int.tmod a0 a1) < 0 then (some (wrap64 ((wrap64 (Int.tdiv a0 a1)) - 1))) else (some (wrap64 (Int.tdiv a0 a1))))) = some r := h
  clear h
  by_cases c3 : a1 = 0
  · rw [if_pos c3] at H
    exact absurd H (by simp)
  · rw [if_neg c3] at H
    have c3b0 : (a1 == 0) = false := beq_eq_false_iff_ne.mpr c3
    have c3b1 : (a1 != 0) = true := bne_iff_ne.mpr c3
    by_cases c4 : (Int.tmod a0 a1) < 0
    · rw [if_pos c4] at H
      have c4b0 : decide ((Int.tmod a0 a1) < 0) = true := decide_eq_true c4
      clear c4
      obtain rfl := Option.some.inj H
      go_enter Tryz.func68, Tryz.ntmps68
      go_wp2
      go_ret
      exact ⟨by first | rfl | (simp; done) | (simp [*]; done), by repeat (first | exact Drawn0.refl _ | apply Drawn0.step)⟩
    · rw [if_neg c4] at H
      have c4b0 : decide ((Int.tmod a0 a1) < 0) = false := decide_eq_false c4
      clear c4
      obtain rfl := Option.some.inj H
      go_enter Tryz.func68, Tryz.ntmps68
      go_wp2
      go_ret
      exact ⟨by first | rfl | (simp; done) | (simp [*]; done), by repeat (first | exact Drawn0.refl _ | apply Drawn0.step)⟩

end Go.Proofs.YtfinhaghgmnegaaGreat.O

namespace Go.Proofs.YtfinhaghgmnegaaGreat.Pure
open Go.RowKit Go.Proofs.YtfinhaghgmnegaaGreat.O Go.Proofs.YtfinhaghgmnegaaGreatW.PrintWords Go.Proofs.YtfinhaghgmnegaaGreatW.PrintLast
open Go.Proofs.YtfinhaghgmnegaaGreat.Civ
set_option linter.unusedVariables false
set_option linter.unusedSimpArgs false
theorem negdiv_ {a b : Int} (hb : 0 < b) : a / b = if -a % b = 0 then -(-a / b) else -(-a / b) - 1 := by
  have e1 := Int.mul_ediv_add_emod (-a) b
  have e3 := Int.emod_nonneg (-a) (show b ≠ 0 by omega)
  have e4 := Int.emod_lt_of_pos (-a) hb
  generalize hq : -a / b = q at *
  generalize hz : -a % b = z at *
  split
  · rename_i c
    refine Int.ediv_eq_iff_of_pos hb |>.2 ⟨?_, ?_⟩
    · rw [Int.neg_mul, Int.mul_comm q b]; omega
    · rw [Int.neg_mul, Int.mul_comm q b]; omega
  · rename_i c
    refine Int.ediv_eq_iff_of_pos hb |>.2 ⟨?_, ?_⟩
    · rw [Int.sub_mul, Int.neg_mul, Int.mul_comm q b]; omega
    · rw [Int.sub_mul, Int.neg_mul, Int.mul_comm q b]; omega
theorem fdown {a b : Int} (h : -4611686018427387904 ≤ a) (h' : a ≤ 4611686018427387904) (hb : 0 < b) : filter_down.f a b = some (a / b) := by
  unfold filter_down.f
  rw [if_neg (by omega), tmod_if, tdiv_if]
  have q1 : -4611686018427387904 ≤ a / b := by
    refine (Int.le_ediv_iff_mul_le hb).2 ?_
    have : 4611686018427387904 * 1 ≤ 4611686018427387904 * b := Int.mul_le_mul_of_nonneg_left (by omega) (by omega)
    omega
  have q2 : a / b ≤ 4611686018427387904 := by
    refine Int.ediv_le_of_le_mul hb ?_
    have : 4611686018427387904 * 1 ≤ 4611686018427387904 * b := Int.mul_le_mul_of_nonneg_left (by omega) (by omega)
    omega
  by_cases c : 0 ≤ a
  · rw [if_pos c, if_pos c, if_neg (by have := Int.emod_nonneg a (show b ≠ 0 by omega); omega), w64 (by omega) (by omega)]
  · rw [if_neg c, if_neg c]
    have e3 := Int.emod_nonneg (-a) (show b ≠ 0 by omega)
    have e5 := negdiv_ (a := a) hb
    by_cases z : -a % b = 0
    · rw [if_pos z] at e5
      rw [z, if_neg (by omega), ← e5, w64 (by omega) (by omega)]
    · rw [if_neg z] at e5
      rw [if_pos (by omega), w64 (x := -(-a / b)) (by omega) (by omega), ← e5, w64 (by omega) (by omega)]
noncomputable def perV (r : RR) (t : Int) : Int :=
  if r.fr = 1 then t else if r.fr = 2 then t / 60 else if r.fr = 3 then t / 3600 else if r.fr = 4 then t / 86400 else if r.fr = 5 then (t / 86400 + 4 - r.wk) / 7
  else if r.fr = 6 then 12 * (dt (t / 86400)).1 + (dt (t / 86400)).2.1 - 1 else if r.wn = [] then (dt (t / 86400)).1 else wy r (t / 86400)
theorem in_least : InT (-62135596800) := by decide
theorem in_most : InT 253402300799 := by decide
theorem dt_least : dt (-62135596800 / 86400) = (1, 1, 1) := by
  rw [show (-62135596800 / 86400 : Int) = num 1 1 1 by decide]
  exact dt_num (rt_first (by omega) (by omega))
theorem dt_most : dt (253402300799 / 86400) = (9999, 12, 31) := by
  rw [show (253402300799 / 86400 : Int) = num 9999 12 31 by decide]
  exact dt_num (rt_31 (by omega) (by omega))
noncomputable def wholeV (r : RR) (p : Int) : Int × Int :=
  if r.fr = 4 then (p, p) else if r.fr = 5 then (7 * p - 4 + r.wk, 7 * p - 4 + r.wk + 6)
  else if r.fr = 6 then (num (p / 12) (p % 12 + 1) 1, num (p / 12) (p % 12 + 1) 1 + ln (p / 12) (p % 12 + 1) - 1)
  else if r.wn = [] then (num p 1 1, num p 12 31) else (fw p r.wk, fw (p + 1) r.wk - 1)
/-- A period's first and last time, whether or not of a year from 1 to 9999. -/
noncomputable def spanW (r : RR) (p : Int) : Int × Int :=
  if r.fr = 1 then (p, p) else if r.fr = 2 then (60 * p, 60 * p + 59) else if r.fr = 3 then (3600 * p, 3600 * p + 3599)
  else (86400 * (wholeV r p).1, 86400 * (wholeV r p).2 + 86399)
/-- A period between the first and the last one. -/
def InP (r : RR) (p : Int) : Prop := perV r (-62135596800) ≤ p ∧ p ≤ perV r 253402300799
noncomputable instance (r : RR) (p : Int) : Decidable (InP r p) := by unfold InP; infer_instance
noncomputable def spanV (r : RR) (p : Int) : Int × Int × Int :=
  if InP r p ∧ InT (spanW r p).1 ∧ InT (spanW r p).2 then ((spanW r p).1, (spanW r p).2, 0) else (0, 0, 23)
theorem wy_bd {r : RR} {n : Int} (h : Lens r) (hn : -719162 ≤ n) (hn' : n ≤ 2932896) : 0 ≤ wy r n ∧ wy r n ≤ 10000 := by
  have hm := yr_mid (k := r.wk) hn hn'
  unfold wy
  rw [noV_in hn hn' h.w0 h.w1]
  exact ⟨hm.1, hm.2.1⟩
/-- What bounds a period between the first and the last one has. -/
theorem inP_bd {r : RR} (h : Lens r) {p : Int} (hp : InP r p) : (r.fr = 1 → -62135596800 ≤ p ∧ p ≤ 253402300799) ∧ (r.fr = 2 → -1035593280 ≤ p ∧ p ≤ 4223371679) ∧ (r.fr = 3 → -17259888 ≤ p ∧ p ≤ 70389527) ∧
    (r.fr = 4 → -719162 ≤ p ∧ p ≤ 2932896) ∧ (r.fr = 5 → -102740 ≤ p ∧ p ≤ 418986) ∧ (r.fr = 6 → 12 ≤ p ∧ p ≤ 119999) ∧ (r.fr = 7 → r.wn = [] → 1 ≤ p ∧ p ≤ 9999) ∧ (r.fr = 7 → r.wn ≠ [] → 0 ≤ p ∧ p ≤ 10000) := by
  have w0 := h.w0
  have w1 := h.w1
  unfold InP perV at hp
  rw [dt_least, dt_most] at hp
  refine ⟨fun e => ?_, fun e => ?_, fun e => ?_, fun e => ?_, fun e => ?_, fun e => ?_, fun e e2 => ?_, fun e e2 => ?_⟩
  · simp only [e] at hp; exact hp
  · simp only [e] at hp; simp at hp; omega
  · simp only [e] at hp; simp at hp; omega
  · simp only [e] at hp; simp at hp; omega
  · simp only [e] at hp; simp at hp; omega
  · simp only [e] at hp; simp at hp; omega
  · simp only [e, e2] at hp; simp at hp; omega
  · simp only [e, if_neg e2] at hp
    have a := wy_bd (n := -62135596800 / 86400) h (by decide) (by decide)
    have b := wy_bd (n := 253402300799 / 86400) h (by decide) (by decide)
    simp only [show ¬ ((7 : Int) = 1) by decide, show ¬ ((7 : Int) = 2) by decide, show ¬ ((7 : Int) = 3) by decide, show ¬ ((7 : Int) = 4) by decide, show ¬ ((7 : Int) = 5) by decide, show ¬ ((7 : Int) = 6) by decide, if_false] at hp
    omega
theorem whole_bd {r : RR} (h : Lens r) {p : Int} (hp : InP r p) (h4 : ¬ r.fr = 1) (h2 : ¬ r.fr = 2) (h3 : ¬ r.fr = 3) : -800000 ≤ (wholeV r p).1 ∧ (wholeV r p).1 ≤ 3000000 ∧ -800000 ≤ (wholeV r p).2 ∧ (wholeV r p).2 ≤ 3000000 := by
  have b := inP_bd h hp
  have f0 := h.f0
  have f1 := h.f1
  have w0 := h.w0
  have w1 := h.w1
  unfold wholeV
  split
  · have := b.2.2.2.1 (by assumption); dsimp only; omega
  split
  · have := b.2.2.2.2.1 (by assumption); dsimp only; omega
  split
  · have c := b.2.2.2.2.2.1 (by assumption)
    have l := ln_bd (p / 12) (p % 12 + 1) (by omega) (by omega)
    have a := num_bd (y := p / 12) (m := p % 12 + 1) (d := 1) ⟨by omega, by omega, by omega, by omega, by omega, by omega⟩
    dsimp only; omega
  split
  · have c := b.2.2.2.2.2.2.1 (by omega) (by assumption)
    have a := num_bd (rt_first (y := p) (by omega) (by omega))
    have a2 := num_bd (rt_31 (y := p) (by omega) (by omega))
    dsimp only; omega
  · have c := b.2.2.2.2.2.2.2 (by omega) (by assumption)
    have a := fw_bd p r.wk
    have a2 := fw_bd (p + 1) r.wk
    have e1 := ah_bd (y := p) (by omega) (by omega)
    have e2 := ah_bd (y := p + 1) (by omega) (by omega)
    dsimp only; omega
end Go.Proofs.YtfinhaghgmnegaaGreat.Pure

namespace Go.Proofs.YtfinhaghgmnegaaGreat.Pure
open Go.RowKit Go.Proofs.YtfinhaghgmnegaaGreat.O Go.Proofs.YtfinhaghgmnegaaGreatW.PrintWords Go.Proofs.YtfinhaghgmnegaaGreatW.PrintLast
open Go.Proofs.YtfinhaghgmnegaaGreat.Civ
set_option linter.unusedVariables false
set_option linter.unusedSimpArgs false
/-- A list, rising. -/
def srt (l : List Int) : List Int := l.mergeSort fun x y => decide (x ≤ y)
def choiceV (l : List Int) (n : Int) : List Int := if l = [] then [n] else srt l
/-- The times of day that a rule lets, of a period that begins at a time of day. -/
def hoursV (r : RR) (s f : Int) : List Int := choiceV r.ho (if 3 < r.fr then s / 3600 else f / 3600)
def minsV (r : RR) (s f : Int) : List Int := choiceV r.mi (if 2 < r.fr then s % 3600 / 60 else f % 3600 / 60)
def secsV (r : RR) (s f : Int) : List Int := choiceV r.sec (if 1 < r.fr then s % 60 else f % 60)
def clk1 (h m : Int) (ss : List Int) : List Int := ss.map fun x => h * 3600 + m * 60 + x
def clk2 (h : Int) (ms ss : List Int) : List Int := ms.flatMap fun m => clk1 h m ss
def clk3 (hs ms ss : List Int) : List Int := hs.flatMap fun h => clk2 h ms ss
def clocksV (r : RR) (s f : Int) : List Int := clk3 (hoursV r s f) (minsV r s f) (secsV r s f)
/-- A day's times within bounds. -/
def inL (a b d : Int) (ts : List Int) : List Int := (ts.map fun x => d * 86400 + x).filter fun t => !(decide (t < a) || decide (b < t))
noncomputable def dayL (r : RR) (first a b : Int) (ts : List Int) (d : Int) : List Int := if dayV r first d then inL a b d ts else []
/-- The times of n days. -/
noncomputable def daysL (r : RR) (first a b : Int) (ts : List Int) (d : Int) (n : Nat) : List Int := (List.range n).flatMap fun (i : Nat) => dayL r first a b ts (d + (i : Int))
/-- The times that a rule lets from a time to another one. -/
noncomputable def letsL (r : RR) (s a b : Int) : List Int := daysL r (s / 86400) a b (clocksV r (s % 86400) (a % 86400)) (a / 86400) (b / 86400 + 1 - a / 86400).toNat
/-- Those of times that a rule's SetPos asks for. -/
def asked (sp : List Int) (n : Nat) (i : Nat) : Bool := decide ((i : Int) + 1 ∈ sp) || decide ((i : Int) - n ∈ sp)
def picksV (sp l : List Int) (k : Nat) : List Int := ((List.range k).filter (asked sp l.length)).filterMap fun i => l[i]?
def placesV (r : RR) (l : List Int) : List Int := if r.sp = [] then l else picksV r.sp l l.length
/-- What a worker has. -/
structure St where
  sp : Int
  ct : Int
  out : List Int
def tellV (from_ to_ : Int) (s : St) (t : Int) : St := ⟨s.sp, s.ct + 1, if from_ ≤ t ∧ t ≤ to_ then s.out ++ [t] else s.out⟩
def goesV (r : RR) (start : Int) (ct t : Int) : Bool := decide (start < t) && (!r.un || decide (t ≤ r.ua)) && (decide (r.ct = 0) || decide (ct < r.ct))
def passV (r : RR) (start from_ to_ : Int) (s : St) (l : List Int) : St := l.foldl (fun s t => if goesV r start s.ct t then tellV from_ to_ s t else s) s
/-- A period is gone through. -/
noncomputable def stepV (r : RR) (start from_ to_ F : Int) (s : St) (a b : Int) : Option St :=
  if F < s.sp + 1 then none
  else if F < s.sp + 1 + (((letsL r start a b).take (F.toNat + 1)).length : Nat) then none
  else some (passV r start from_ to_ ⟨s.sp + 1 + (((letsL r start a b).take (F.toNat + 1)).length : Nat), s.ct, s.out⟩ (placesV r ((letsL r start a b).take (F.toNat + 1))))
def endsV (r : RR) (to_ : Int) (ct a : Int) : Bool := decide (to_ < a) || (r.un && decide (r.ua < a)) || (decide (0 < r.ct) && decide (r.ct ≤ ct))
noncomputable def worksV (r : RR) (start from_ to_ F : Int) : Nat → Int → St → Option St
  | 0, _, _ => none
  | k + 1, p, s => if (spanV r p).2.2 ≠ 0 ∨ endsV r to_ s.ct (spanV r p).1 = true then some s
    else match stepV r start from_ to_ F s (spanV r p).1 (spanV r p).2.1 with
      | none => none
      | some s' => worksV r start from_ to_ F k (p + r.iv) s'
/-- The first period that is gone through; false: none is. -/
noncomputable def beginV (r : RR) (start from_ : Int) : Int × Bool :=
  if (spanV r (perV r start)).2.2 ≠ 0 ∨ 0 < r.ct ∨ from_ ≤ start then (perV r start, decide ((spanV r (perV r start)).2.2 = 0))
  else if InT from_ then (perV r start + (perV r from_ - perV r start + r.iv - 1) / r.iv * r.iv, true) else (0, false)
noncomputable def goneV (r : RR) (start from_ to_ F : Int) : Option St :=
  if (beginV r start from_).2 then worksV r start from_ to_ F (F.toNat + 2) (beginV r start from_).1 (tellV from_ to_ ⟨0, 0, []⟩ start) else some (tellV from_ to_ ⟨0, 0, []⟩ start)
def mayT (from_ to_ F : Int) : Prop := from_ ≤ to_ ∧ -4611686018427387904 ≤ from_ ∧ from_ ≤ 4611686018427387904 ∧ -4611686018427387904 ≤ to_ ∧ to_ ≤ 4611686018427387904 ∧ 0 ≤ F ∧ F ≤ 200000
instance (a b c : Int) : Decidable (mayT a b c) := by unfold mayT; infer_instance
/-- A rule's times, what they cost, or why not. -/
noncomputable def timesV (r : RR) (start from_ to_ F : Int) : List Int × Int × Int :=
  if mayT from_ to_ F then (match goneV r start from_ to_ F with | none => ([], 0, 22) | some s => (s.out, s.sp, 0)) else ([], 0, 1)
/-! The pieces -/
theorem clk1_len (h m : Int) (ss : List Int) : (clk1 h m ss).length = ss.length := by simp [clk1]
theorem clk2_len (h : Int) (ms ss : List Int) : (clk2 h ms ss).length = ms.length * ss.length := by
  induction ms with
  | nil => simp [clk2]
  | cons m l ih =>
    have : clk2 h (m :: l) ss = clk1 h m ss ++ clk2 h l ss := rfl
    rw [this, List.length_append, ih, clk1_len, List.length_cons, Nat.succ_mul, Nat.add_comm]
theorem clk3_len (hs ms ss : List Int) : (clk3 hs ms ss).length = hs.length * (ms.length * ss.length) := by
  induction hs with
  | nil => simp [clk3]
  | cons m l ih =>
    have : clk3 (m :: l) ms ss = clk2 m ms ss ++ clk3 l ms ss := rfl
    rw [this, List.length_append, ih, clk2_len, List.length_cons, Nat.succ_mul, Nat.add_comm]
theorem clk1_succ (h m : Int) (ss : List Int) {i : Nat} (hi : i < ss.length) : clk1 h m (ss.take (i + 1)) = clk1 h m (ss.take i) ++ [h * 3600 + m * 60 + ss[i]] := by
  unfold clk1
  rw [List.take_add_one, List.getElem?_eq_getElem hi, List.map_append]
  rfl
theorem clk2_succ (h : Int) (ms ss : List Int) {i : Nat} (hi : i < ms.length) : clk2 h (ms.take (i + 1)) ss = clk2 h (ms.take i) ss ++ clk1 h ms[i] ss := by
  unfold clk2
  rw [List.take_add_one, List.getElem?_eq_getElem hi, List.flatMap_append]
  simp
theorem clk3_succ (hs ms ss : List Int) {i : Nat} (hi : i < hs.length) : clk3 (hs.take (i + 1)) ms ss = clk3 (hs.take i) ms ss ++ clk2 hs[i] ms ss := by
  unfold clk3
  rw [List.take_add_one, List.getElem?_eq_getElem hi, List.flatMap_append]
  simp
theorem srt_len (l : List Int) : (srt l).length = l.length := by unfold srt; simp
theorem choice_len (l : List Int) (n : Int) : (choiceV l n).length ≤ l.length + 1 := by
  unfold choiceV
  split
  · simp
  · rw [srt_len]; omega
theorem srt_mem (l : List Int) (x : Int) : x ∈ srt l ↔ x ∈ l := by unfold srt; simp
theorem inL_succ (a b d : Int) (ts : List Int) {j : Nat} (hj : j < ts.length) : inL a b d (ts.take (j + 1)) = inL a b d (ts.take j) ++ (if (decide (d * 86400 + ts[j] < a) || decide (b < d * 86400 + ts[j])) = true then [] else [d * 86400 + ts[j]]) := by
  unfold inL
  rw [List.take_add_one, List.getElem?_eq_getElem hj, List.map_append, List.filter_append]
  congr 1
  simp only [Option.toList_some, List.map_cons, List.map_nil, List.filter_cons, List.filter_nil]
  cases hc : (decide (d * 86400 + ts[j] < a) || decide (b < d * 86400 + ts[j])) <;> simp [hc]
theorem inL_len (a b d : Int) (ts : List Int) : (inL a b d ts).length ≤ ts.length := by
  unfold inL
  exact Nat.le_trans (List.length_filter_le _ _) (by simp)
theorem inL_pre (a b d : Int) (ts : List Int) (j : Nat) : inL a b d (ts.take j) <+: inL a b d ts := by
  unfold inL
  exact ((List.take_prefix j ts).map _).filter _
theorem daysL_succ (r : RR) (first a b : Int) (ts : List Int) (d : Int) (i : Nat) : daysL r first a b ts d (i + 1) = daysL r first a b ts d i ++ dayL r first a b ts (d + (i : Int)) := by
  unfold daysL
  rw [List.range_succ, List.flatMap_append]
  simp
theorem daysL_pre (r : RR) (first a b : Int) (ts : List Int) (d : Int) {i n : Nat} (h : i ≤ n) : daysL r first a b ts d i <+: daysL r first a b ts d n := by
  induction n with
  | zero =>
    obtain rfl : i = 0 := by omega
    exact List.prefix_rfl
  | succ n ih =>
    by_cases q : i = n + 1
    · subst q; exact List.prefix_rfl
    · exact (ih (by omega)).trans (by rw [daysL_succ]; exact List.prefix_append _ _)
theorem dayL_len (r : RR) (first a b : Int) (ts : List Int) (d : Int) : (dayL r first a b ts d).length ≤ ts.length := by
  unfold dayL
  split
  · exact inL_len _ _ _ _
  · simp
theorem daysL_len (r : RR) (first a b : Int) (ts : List Int) (d : Int) (n : Nat) : (daysL r first a b ts d n).length ≤ n * ts.length := by
  induction n with
  | zero => simp [daysL]
  | succ n ih =>
    rw [daysL_succ, List.length_append, Nat.succ_mul]
    exact Nat.add_le_add ih (dayL_len _ _ _ _ _ _)
theorem take_pre {l L : List Int} {n : Nat} (h : l <+: L) (hl : l.length = n) : L.take n = l := by
  have := List.prefix_iff_eq_take.1 h
  rw [hl] at this
  exact this.symm
theorem picks_succ (sp l : List Int) {i : Nat} (hi : i < l.length) : picksV sp l (i + 1) = picksV sp l i ++ (if asked sp l.length i = true then [l[i]] else []) := by
  unfold picksV
  rw [List.range_succ, List.filter_append, List.filterMap_append]
  congr 1
  cases hc : asked sp l.length i <;> simp [hc, hi]
theorem picks_len (sp l : List Int) (k : Nat) : (picksV sp l k).length ≤ k := by
  unfold picksV
  exact Nat.le_trans (List.length_filterMap_le _ _) (Nat.le_trans (List.length_filter_le _ _) (by simp))
theorem pass_snoc (r : RR) (start from_ to_ : Int) (s : St) (l : List Int) (t : Int) : passV r start from_ to_ s (l ++ [t]) = if goesV r start (passV r start from_ to_ s l).ct t then tellV from_ to_ (passV r start from_ to_ s l) t else passV r start from_ to_ s l := by
  unfold passV
  rw [List.foldl_append]
  rfl
end Go.Proofs.YtfinhaghgmnegaaGreat.Pure
