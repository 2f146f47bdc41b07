/- Whether a right rule lets a time: Check and Lets as contracts. No condition beyond those each lemma names. -/
-- What some functions of the program compute: a text of this claim's own (lines first written by the kit's tool, some proved anew).
/- A time's period and a period's span by a right rule, in plain numbers. No condition beyond those each lemma names. -/
import Derived.Test.YtmhpmkbifhgnbaaHS1
import Derived.Test.YtmhpmkbifhgnbaaMMOx0
import Derived.Test.YtmhpmkbifhgnbaaMHd
import Derived.Test.YtmhpmkbifhgnbaaOx23
import Derived.Test.YtmhpmkbifhgnbaaMMHS0
namespace Go.Proofs.Ytmhpmkbifhgnbaa.Pure
open Go.RowKit Go.Proofs.Ytmhpmkbifhgnbaa.O Go.Proofs.YtmhpmkbifhgnbaaW.PrintWords Go.Proofs.YtmhpmkbifhgnbaaW.PrintLast
open Go.Proofs.Ytmhpmkbifhgnbaa.Civ
set_option linter.unusedVariables false
set_option linter.unusedSimpArgs false
theorem rul_opens {w : World} {cs : Array Value} {r : RR} (R : Rul w cs r) : ∃ (A6 : Option Addr) (k6 : Nat) (A7 : Option Addr) (k7 : Nat) (A8 : Option Addr) (k8 : Nat) (A9 : Option Addr) (k9 : Nat) (A10 : Option Addr) (k10 : Nat) (A11 : Option Addr) (k11 : Nat) (A12 : Option Addr) (k12 : Nat) (A13 : Option Addr) (k13 : Nat) (A14 : Option Addr) (k14 : Nat),
    cs = #[.int .i64 r.fr, .int .i64 r.iv, .int .i64 r.ct, .bool r.un, .int .i64 r.ua, .bool r.utc, .slice A6 r.sec.length k6, .slice A7 r.mi.length k7, .slice A8 r.ho.length k8, .slice A9 r.dy.length k9, .slice A10 r.md.length k10, .slice A11 r.yd.length k11, .slice A12 r.wn.length k12, .slice A13 r.mo.length k13, .slice A14 r.sp.length k14, .int .i64 r.wk] ∧
    (r.sec.length ≤ k6 ∧ Kd.C (Kd.int .i64) w A6 r.sec.length r.sec) ∧ (r.mi.length ≤ k7 ∧ Kd.C (Kd.int .i64) w A7 r.mi.length r.mi) ∧ (r.ho.length ≤ k8 ∧ Kd.C (Kd.int .i64) w A8 r.ho.length r.ho) ∧ (r.dy.length ≤ k9 ∧ Kd.C k47 w A9 r.dy.length r.dy) ∧ (r.md.length ≤ k10 ∧ Kd.C (Kd.int .i64) w A10 r.md.length r.md) ∧ (r.yd.length ≤ k11 ∧ Kd.C (Kd.int .i64) w A11 r.yd.length r.yd) ∧ (r.wn.length ≤ k12 ∧ Kd.C (Kd.int .i64) w A12 r.wn.length r.wn) ∧ (r.mo.length ≤ k13 ∧ Kd.C (Kd.int .i64) w A13 r.mo.length r.mo) ∧ (r.sp.length ≤ k14 ∧ Kd.C (Kd.int .i64) w A14 r.sp.length r.sp) := by
  obtain ⟨A6, k6, e6, h6⟩ := R.c6
  obtain ⟨A7, k7, e7, h7⟩ := R.c7
  obtain ⟨A8, k8, e8, h8⟩ := R.c8
  obtain ⟨A9, k9, e9, h9⟩ := R.c9
  obtain ⟨A10, k10, e10, h10⟩ := R.c10
  obtain ⟨A11, k11, e11, h11⟩ := R.c11
  obtain ⟨A12, k12, e12, h12⟩ := R.c12
  obtain ⟨A13, k13, e13, h13⟩ := R.c13
  obtain ⟨A14, k14, e14, h14⟩ := R.c14
  refine ⟨A6, k6, A7, k7, A8, k8, A9, k9, A10, k10, A11, k11, A12, k12, A13, k13, A14, k14, ?_, h6, h7, h8, h9, h10, h11, h12, h13, h14⟩
  have hs := R.sz
  have e0 := R.c0
  have e1 := R.c1
  have e2 := R.c2
  have e3 := R.c3
  have e4 := R.c4
  have e5 := R.c5
  have e15 := R.c15
  obtain ⟨l⟩ := cs
  replace hs : l.length = 16 := hs
  match l, hs with
  | [v0, v1, v2, v3, v4, v5, v6, v7, v8, v9, v10, v11, v12, v13, v14, v15], _ =>
    simp at e0 e1 e2 e3 e4 e5 e6 e7 e8 e9 e10 e11 e12 e13 e14 e15
    rw [e0, e1, e2, e3, e4, e5, e6, e7, e8, e9, e10, e11, e12, e13, e14, e15]
theorem fends {r : RR} (h : Right r) : Ev (fun k => recur_ends.f k r.fr r.iv r.ct r.un r.ua r.utc r.sec r.mi r.ho r.dy r.md r.yd r.wn r.mo r.sp r.wk) true := by
  unfold recur_ends.f
  refine evn (by have := h.ct0; omega) (evn (by have := h.ct1; omega) ?_)
  rcases h.en with ⟨e1, e2, e3⟩ | ⟨e1, e2, e3⟩
  · simp only [e1, Bool.false_eq_true, if_false]
    refine evstep ?_
    simp only [recur_ends.j0, Bool.false_eq_true, if_false, e1, e2, e3, if_true]
    exact Ev.now _
  · simp only [e1, if_true, e2]
    refine evstep ?_
    simp only [recur_ends.j0, if_true, gt_iff_lt, Int.lt_irrefl, decide_false, Bool.false_eq_true, if_false]
    exact evb (fyear e3) (evs rfl)
theorem fcheck {r : RR} (h : Right r) : Ev (fun k => recur_Check.f k r.fr r.iv r.ct r.un r.ua r.utc r.sec r.mi r.ho r.dy r.md r.yd r.wn r.mo r.sp r.wk) 0 := by
  unfold recur_Check.f
  refine evp h.ok ?_
  exact evb (fends h) (by simp only [if_true]; exact Ev.now _)
theorem check_on {w : World} {cs : Array Value} {r : RR} (R : Rul w cs r) (h : Right r) : Calls Try.prog 33 #[.agg cs] w (Rets w (.int .i64 0)) := by
  obtain ⟨A6, k6, A7, k7, A8, k8, A9, k9, A10, k10, A11, k11, A12, k12, A13, k13, A14, k14, rfl, h6, h7, h8, h9, h10, h11, h12, h13, h14⟩ := rul_opens R
  obtain ⟨k, hk⟩ := (fcheck h).rounds
  exact recur_Check.calls k r.fr r.iv r.ct r.un r.ua r.utc A6 k6 r.sec A7 k7 r.mi A8 k8 r.ho A9 k9 r.dy A10 k10 r.md A11 k11 r.yd A12 k12 r.wn A13 k13 r.mo A14 k14 r.sp r.wk 0 w h6.2 h6.1 h7.2 h7.1 h8.2 h8.1 h9.2 h9.1 h10.2 h10.1 h11.2 h11.1 h12.2 h12.1 h13.2 h13.1 h14.2 h14.1 hk
set_option maxRecDepth 100000
set_option maxHeartbeats 4000000
theorem lets_on {w : World} {cs : Array Value} {r : RR} (R : Rul w cs r) (hr : Right r) {s t : Int} (hs : -9223372036854775808 ≤ s) (hs' : s < 9223372036854775808) (ht : -9223372036854775808 ≤ t) (ht' : t < 9223372036854775808) : Calls Try.prog 12 #[.agg cs, .int .i64 s, .int .i64 t] w (Rets w (.bool (letsV r s t))) := by
  have h := hr.lens
  unfold letsV
  refine en_ Try.func12 rfl rfl rfl fun a K => sr_ (bx_ K (On.nil w) rfl rfl rfl rfl rfl rfl fun a g0 W M K => run_ 1 K rfl fun a K => nil_ (wp_seq (sr_ (lda_ K M 0 rfl rfl rfl rfl rfl rfl rfl R.sz fun a K => cl_ K Try.func33 (by kernel_rfl) rfl rfl rfl rfl rfl rfl ((check_on (R.below M.bl) hr).mono ?_)))))
  rintro _ w1 ⟨rfl, b1⟩
  replace M := M.call b1
  refine ⟨_, rfl, fun a K => run_ 3 K rfl fun a K => cl_ K Try.func34 (by kernel_rfl) rfl rfl rfl rfl rfl rfl ((inT_on s).mono ?_)⟩
  rintro _ w2 ⟨rfl, b2⟩
  replace M := M.call b2
  refine ⟨_, rfl, fun a K => ?_⟩
  by_cases c1 : InT s
  case neg =>
    rw [decide_eq_false c1]
    exact run_ 7 (fx_ K (decide_eq_false c1)) rfl fun a K => nil_ (ct_ K rfl rfl (sr_ (run_ 1 K rfl fun a K => nil_ (ret_ rfl K rfl ⟨rfl, M.bl⟩))))
  rw [decide_eq_true c1]
  refine run_ 4 (fx_ K (decide_eq_true c1)) rfl fun a K => cl_ K Try.func34 (by kernel_rfl) rfl rfl rfl rfl rfl rfl ((inT_on t).mono ?_)
  rintro _ w3 ⟨rfl, b3⟩
  replace M := M.call b3
  refine ⟨_, rfl, fun a K => ?_⟩
  by_cases c2 : InT t
  case neg =>
    rw [decide_eq_false c2]
    exact run_ 2 (fx_ K (decide_eq_false c2)) rfl fun a K => nil_ (ct_ K rfl rfl (sr_ (run_ 1 K rfl fun a K => nil_ (ret_ rfl K rfl ⟨rfl, M.bl⟩))))
  rw [decide_eq_true c2]
  have y1 := dt_year c1
  have y2 := dt_year c2
  have m1 : 0 ≤ s % 86400 ∧ s % 86400 < 86400 ∧ 0 ≤ t % 86400 ∧ t % 86400 < 86400 := by omega
  refine run_ 2 (fx_ K (decide_eq_true c2)) rfl fun a K => nil_ (cs_ K rfl rfl (sr_ (run_ 1 K rfl fun a K => cl_ K Try.func36 (by kernel_rfl) rfl rfl rfl rfl rfl rfl ((split_on hs hs').mono ?_))))
  rintro _ w4 ⟨rfl, b4⟩
  refine ⟨_, rfl, fun a K => run_ 5 K rfl fun a K => nil_ (sr_ (run_ 1 K rfl fun a K => cl_ K Try.func36 (by kernel_rfl) rfl rfl rfl rfl rfl rfl ((split_on ht ht').mono ?_)))⟩
  rintro _ w5 ⟨rfl, b5⟩
  replace M := (M.call b4).call b5
  refine ⟨_, rfl, fun a K => run_ 5 K rfl fun a K => nil_ (sr_ (lda_ K M 0 rfl rfl rfl rfl rfl rfl rfl R.sz fun a K => run_ 2 K rfl fun a K => cl_ K Try.func37 (by kernel_rfl) rfl rfl rfl rfl rfl rfl ((clock_on (R.below M.bl) h m1.1 m1.2.1 m1.2.2.1 m1.2.2.2).mono ?_)))⟩
  rintro _ w6 ⟨rfl, b6⟩
  replace M := M.call b6
  refine ⟨_, rfl, fun a K => ?_⟩
  cases v1 : clockV r (s % 86400) (t % 86400) with
  | false => exact run_ 7 (fx_ K v1) rfl fun a K => nil_ (ret_ rfl K rfl ⟨rfl, M.bl⟩)
  | true =>
  refine run_ 1 (fx_ K v1) rfl fun a K => lda_ K M 0 rfl rfl rfl rfl rfl rfl rfl R.sz fun a K => run_ 2 K rfl fun a K => cl_ K Try.func38 (by kernel_rfl) rfl rfl rfl rfl rfl rfl ((day_on (R.below M.bl) h y1.2.2.1 y1.2.2.2 y2.2.2.1 y2.2.2.2).mono ?_)
  rintro _ w7 ⟨rfl, b7⟩
  exact ⟨_, rfl, fun a K => run_ 2 K rfl fun a K => nil_ (ret_ rfl K rfl ⟨rfl, (M.call b7).bl⟩)⟩
end Go.Proofs.Ytmhpmkbifhgnbaa.Pure

namespace Go.Proofs.Ytmhpmkbifhgnbaa.O
open Go.RowKit Go.Proofs.YtmhpmkbifhgnbaaW.PrintWords Go.Proofs.YtmhpmkbifhgnbaaW.PrintLast Go.Proofs.YtmhpmkbifhgnbaaW.PrintMore
attribute [local go_sem] max2_int min2_int max_two min_two max_three min_three max_four min_four   -- for this text's walks alone
set_option linter.unusedVariables false
set_option linter.unusedSimpArgs false

/-! ### filter_down: function 68 -/
def filter_down.f (a0 : Int) (a1 : Int) : Option (Int) := if a1 = 0 then (none) else (if (Int.tmod a0 a1) < 0 then (some (wrap64 ((wrap64 (Int.tdiv a0 a1)) - 1))) else (some (wrap64 (Int.tdiv a0 a1))))
set_option maxHeartbeats 8000000 in
set_option maxRecDepth 100000 in
theorem filter_down.calls (a0 : Int) (a1 : Int) (r : Int) (w : World) (h : filter_down.f a0 a1 = some r) :
    Calls Try.prog 68 #[.int .i64 a0, .int .i64 a1] w fun e w' => e = .returned (.int .i64 r) ∧ Drawn0 w w' := by
  have H : (if a1 = 0 then (none) else (if (Int.tmod a0 a1) < 0 then (some (wrap64 ((wrap64 (Int.tdiv a0 a1)) - 1))) else (some (wrap64 (Int.tdiv a0 a1))))) = some r := h
  clear h
  by_cases c3 : a1 = 0
  · rw [if_pos c3] at H
    exact absurd H (by simp)
  · rw [if_neg c3] at H
    have c3b0 : (a1 == 0) = false := beq_eq_false_iff_ne.mpr c3
    have c3b1 : (a1 != 0) = true := bne_iff_ne.mpr c3
    by_cases c4 : (Int.tmod a0 a1) < 0
    · rw [if_pos c4] at H
      have c4b0 : decide ((Int.tmod a0 a1) < 0) = true := decide_eq_true c4
      clear c4
      obtain rfl := Option.some.inj H
      go_enter Try.func68, Try.ntmps68
      go_wp2
      go_ret
      exact ⟨by first | rfl | (simp; done) | (simp [*]; done), by repeat (first | exact Drawn0.refl _ | apply Drawn0.step)⟩
    · rw [if_neg c4] at H
      have c4b0 : decide ((Int.tmod a0 a1) < 0) = false := decide_eq_false c4
      clear c4
      obtain rfl := Option.some.inj H
      go_enter Try.func68, Try.ntmps68
      go_wp2
      go_ret
      exact ⟨by first | rfl | (simp; done) | (simp [*]; done), by repeat (first | exact Drawn0.refl _ | apply Drawn0.step)⟩

end Go.Proofs.Ytmhpmkbifhgnbaa.O

namespace Go.Proofs.Ytmhpmkbifhgnbaa.Pure
open Go.RowKit Go.Proofs.Ytmhpmkbifhgnbaa.O Go.Proofs.YtmhpmkbifhgnbaaW.PrintWords Go.Proofs.YtmhpmkbifhgnbaaW.PrintLast
open Go.Proofs.Ytmhpmkbifhgnbaa.Civ
set_option linter.unusedVariables false
set_option linter.unusedSimpArgs false
theorem negdiv_ {a b : Int} (hb : 0 < b) : a / b = if -a % b = 0 then -(-a / b) else -(-a / b) - 1 := by
  have e1 := Int.mul_ediv_add_emod (-a) b
  have e3 := Int.emod_nonneg (-a) (show b ≠ 0 by omega)
  have e4 := Int.emod_lt_of_pos (-a) hb
  generalize hq : -a / b = q at *
  generalize hz : -a % b = z at *
  split
  · rename_i c
    refine Int.ediv_eq_iff_of_pos hb |>.2 ⟨?_, ?_⟩
    · rw [Int.neg_mul, Int.mul_comm q b]; omega
    · rw [Int.neg_mul, Int.mul_comm q b]; omega
  · rename_i c
    refine Int.ediv_eq_iff_of_pos hb |>.2 ⟨?_, ?_⟩
    · rw [Int.sub_mul, Int.neg_mul, Int.mul_comm q b]; omega
    · rw [Int.sub_mul, Int.neg_mul, Int.mul_comm q b]; omega
theorem fdown {a b : Int} (h : -4611686018427387904 ≤ a) (h' : a ≤ 4611686018427387904) (hb : 0 < b) : filter_down.f a b = some (a / b) := by
  unfold filter_down.f
  rw [if_neg (by omega), tmod_if, tdiv_if]
  have q1 : -4611686018427387904 ≤ a / b := by
    refine (Int.le_ediv_iff_mul_le hb).2 ?_
    have : 4611686018427387904 * 1 ≤ 4611686018427387904 * b := Int.mul_le_mul_of_nonneg_left (by omega) (by omega)
    omega
  have q2 : a / b ≤ 4611686018427387904 := by
    refine Int.ediv_le_of_le_mul hb ?_
    have : 4611686018427387904 * 1 ≤ 4611686018427387904 * b := Int.mul_le_mul_of_nonneg_left (by omega) (by omega)
    omega
  by_cases c : 0 ≤ a
  · rw [if_pos c, if_pos c, if_neg (by have := Int.emod_nonneg a (show b ≠ 0 by omega); omega), w64 (by omega) (by omega)]
  · rw [if_neg c, if_neg c]
    have e3 := Int.emod_nonneg (-a) (show b ≠ 0 by omega)
    have e5 := negdiv_ (a := a) hb
    by_cases z : -a % b = 0
    · rw [if_pos z] at e5
      rw [z, if_neg (by omega), ← e5, w64 (by omega) (by omega)]
    · rw [if_neg z] at e5
      rw [if_pos (by omega), w64 (x := -(-a / b)) (by omega) (by omega), ← e5, w64 (by omega) (by omega)]
noncomputable def perV (r : RR) (t : Int) : Int :=
  if r.fr = 1 then t else if r.fr = 2 then t / 60 else if r.fr = 3 then t / 3600 else if r.fr = 4 then t / 86400 else if r.fr = 5 then (t / 86400 + 4 - r.wk) / 7
  else if r.fr = 6 then 12 * (dt (t / 86400)).1 + (dt (t / 86400)).2.1 - 1 else if r.wn = [] then (dt (t / 86400)).1 else wy r (t / 86400)
theorem in_least : InT (-62135596800) := by decide
theorem in_most : InT 253402300799 := by decide
theorem dt_least : dt (-62135596800 / 86400) = (1, 1, 1) := by
  rw [show (-62135596800 / 86400 : Int) = num 1 1 1 by decide]
  exact dt_num (rt_first (by omega) (by omega))
theorem dt_most : dt (253402300799 / 86400) = (9999, 12, 31) := by
  rw [show (253402300799 / 86400 : Int) = num 9999 12 31 by decide]
  exact dt_num (rt_31 (by omega) (by omega))
noncomputable def wholeV (r : RR) (p : Int) : Int × Int :=
  if r.fr = 4 then (p, p) else if r.fr = 5 then (7 * p - 4 + r.wk, 7 * p - 4 + r.wk + 6)
  else if r.fr = 6 then (num (p / 12) (p % 12 + 1) 1, num (p / 12) (p % 12 + 1) 1 + ln (p / 12) (p % 12 + 1) - 1)
  else if r.wn = [] then (num p 1 1, num p 12 31) else (fw p r.wk, fw (p + 1) r.wk - 1)
/-- A period's first and last time, whether or not of a year from 1 to 9999. -/
noncomputable def spanW (r : RR) (p : Int) : Int × Int :=
  if r.fr = 1 then (p, p) else if r.fr = 2 then (60 * p, 60 * p + 59) else if r.fr = 3 then (3600 * p, 3600 * p + 3599)
  else (86400 * (wholeV r p).1, 86400 * (wholeV r p).2 + 86399)
/-- A period between the first and the last one. -/
def InP (r : RR) (p : Int) : Prop := perV r (-62135596800) ≤ p ∧ p ≤ perV r 253402300799
noncomputable instance (r : RR) (p : Int) : Decidable (InP r p) := by unfold InP; infer_instance
noncomputable def spanV (r : RR) (p : Int) : Int × Int × Int :=
  if InP r p ∧ InT (spanW r p).1 ∧ InT (spanW r p).2 then ((spanW r p).1, (spanW r p).2, 0) else (0, 0, 23)
theorem wy_bd {r : RR} {n : Int} (h : Lens r) (hn : -719162 ≤ n) (hn' : n ≤ 2932896) : 0 ≤ wy r n ∧ wy r n ≤ 10000 := by
  have hm := yr_mid (k := r.wk) hn hn'
  unfold wy
  rw [noV_in hn hn' h.w0 h.w1]
  exact ⟨hm.1, hm.2.1⟩
/-- What bounds a period between the first and the last one has. -/
theorem inP_bd {r : RR} (h : Lens r) {p : Int} (hp : InP r p) : (r.fr = 1 → -62135596800 ≤ p ∧ p ≤ 253402300799) ∧ (r.fr = 2 → -1035593280 ≤ p ∧ p ≤ 4223371679) ∧ (r.fr = 3 → -17259888 ≤ p ∧ p ≤ 70389527) ∧
    (r.fr = 4 → -719162 ≤ p ∧ p ≤ 2932896) ∧ (r.fr = 5 → -102740 ≤ p ∧ p ≤ 418986) ∧ (r.fr = 6 → 12 ≤ p ∧ p ≤ 119999) ∧ (r.fr = 7 → r.wn = [] → 1 ≤ p ∧ p ≤ 9999) ∧ (r.fr = 7 → r.wn ≠ [] → 0 ≤ p ∧ p ≤ 10000) := by
  have w0 := h.w0
  have w1 := h.w1
  unfold InP perV at hp
  rw [dt_least, dt_most] at hp
  refine ⟨fun e => ?_, fun e => ?_, fun e => ?_, fun e => ?_, fun e => ?_, fun e => ?_, fun e e2 => ?_, fun e e2 => ?_⟩
  · simp only [e] at hp; exact hp
  · simp only [e] at hp; simp at hp; omega
  · simp only [e] at hp; simp at hp; omega
  · simp only [e] at hp; simp at hp; omega
  · simp only [e] at hp; simp at hp; omega
  · simp only [e] at hp; simp at hp; omega
  · simp only [e, e2] at hp; simp at hp; omega
  · simp only [e, if_neg e2] at hp
    have a := wy_bd (n := -62135596800 / 86400) h (by decide) (by decide)
    have b := wy_bd (n := 253402300799 / 86400) h (by decide) (by decide)
    simp only [show ¬ ((7 : Int) = 1) by decide, show ¬ ((7 : Int) = 2) by decide, show ¬ ((7 : Int) = 3) by decide, show ¬ ((7 : Int) = 4) by decide, show ¬ ((7 : Int) = 5) by decide, show ¬ ((7 : Int) = 6) by decide, if_false] at hp
    omega
theorem whole_bd {r : RR} (h : Lens r) {p : Int} (hp : InP r p) (h4 : ¬ r.fr = 1) (h2 : ¬ r.fr = 2) (h3 : ¬ r.fr = 3) : -800000 ≤ (wholeV r p).1 ∧ (wholeV r p).1 ≤ 3000000 ∧ -800000 ≤ (wholeV r p).2 ∧ (wholeV r p).2 ≤ 3000000 := by
  have b := inP_bd h hp
  have f0 := h.f0
  have f1 := h.f1
  have w0 := h.w0
  have w1 := h.w1
  unfold wholeV
  split
  · have := b.2.2.2.1 (by assumption); dsimp only; omega
  split
  · have := b.2.2.2.2.1 (by assumption); dsimp only; omega
  split
  · have c := b.2.2.2.2.2.1 (by assumption)
    have l := ln_bd (p / 12) (p % 12 + 1) (by omega) (by omega)
    have a := num_bd (y := p / 12) (m := p % 12 + 1) (d := 1) ⟨by omega, by omega, by omega, by omega, by omega, by omega⟩
    dsimp only; omega
  split
  · have c := b.2.2.2.2.2.2.1 (by omega) (by assumption)
    have a := num_bd (rt_first (y := p) (by omega) (by omega))
    have a2 := num_bd (rt_31 (y := p) (by omega) (by omega))
    dsimp only; omega
  · have c := b.2.2.2.2.2.2.2 (by omega) (by assumption)
    have a := fw_bd p r.wk
    have a2 := fw_bd (p + 1) r.wk
    have e1 := ah_bd (y := p) (by omega) (by omega)
    have e2 := ah_bd (y := p + 1) (by omega) (by omega)
    dsimp only; omega
end Go.Proofs.Ytmhpmkbifhgnbaa.Pure
