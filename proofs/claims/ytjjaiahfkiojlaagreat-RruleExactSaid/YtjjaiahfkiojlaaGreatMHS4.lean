/- Whether a right rule lets a time: Check and Lets as contracts. No condition beyond those each lemma names. -/
/- A time's period and a period's span: the functions of layer 22 as contracts. No condition beyond those each lemma names. -/
/- A period's span: the functions of layer 22 as contracts. No condition beyond those each lemma names. -/
import Derived.Test.YtjjaiahfkiojlaaGreatHS1
import Derived.Test.YtjjaiahfkiojlaaGreatMOx0
import Derived.Test.YtjjaiahfkiojlaaGreatOx150
import Derived.Test.YtjjaiahfkiojlaaGreatMHd
import Derived.Test.YtjjaiahfkiojlaaGreatMHS0
import Derived.Test.YtjjaiahfkiojlaaGreatMOx57
namespace Go.Proofs.YtjjaiahfkiojlaaGreat.Pure
open Go.RowKit Go.Proofs.YtjjaiahfkiojlaaGreat.O Go.Proofs.YtjjaiahfkiojlaaGreatW.PrintWords Go.Proofs.YtjjaiahfkiojlaaGreatW.PrintLast
open Go.Proofs.YtjjaiahfkiojlaaGreat.Civ
set_option linter.unusedVariables false
set_option linter.unusedSimpArgs false
theorem rul_opens {w : World} {cs : Array Value} {r : RR} (R : Rul w cs r) : ∃ (A6 : Option Addr) (k6 : Nat) (A7 : Option Addr) (k7 : Nat) (A8 : Option Addr) (k8 : Nat) (A9 : Option Addr) (k9 : Nat) (A10 : Option Addr) (k10 : Nat) (A11 : Option Addr) (k11 : Nat) (A12 : Option Addr) (k12 : Nat) (A13 : Option Addr) (k13 : Nat) (A14 : Option Addr) (k14 : Nat),
    cs = #[.int .i64 r.fr, .int .i64 r.iv, .int .i64 r.ct, .bool r.un, .int .i64 r.ua, .bool r.utc, .slice A6 r.sec.length k6, .slice A7 r.mi.length k7, .slice A8 r.ho.length k8, .slice A9 r.dy.length k9, .slice A10 r.md.length k10, .slice A11 r.yd.length k11, .slice A12 r.wn.length k12, .slice A13 r.mo.length k13, .slice A14 r.sp.length k14, .int .i64 r.wk] ∧
    (r.sec.length ≤ k6 ∧ Kd.C (Kd.int .i64) w A6 r.sec.length r.sec) ∧ (r.mi.length ≤ k7 ∧ Kd.C (Kd.int .i64) w A7 r.mi.length r.mi) ∧ (r.ho.length ≤ k8 ∧ Kd.C (Kd.int .i64) w A8 r.ho.length r.ho) ∧ (r.dy.length ≤ k9 ∧ Kd.C k67 w A9 r.dy.length r.dy) ∧ (r.md.length ≤ k10 ∧ Kd.C (Kd.int .i64) w A10 r.md.length r.md) ∧ (r.yd.length ≤ k11 ∧ Kd.C (Kd.int .i64) w A11 r.yd.length r.yd) ∧ (r.wn.length ≤ k12 ∧ Kd.C (Kd.int .i64) w A12 r.wn.length r.wn) ∧ (r.mo.length ≤ k13 ∧ Kd.C (Kd.int .i64) w A13 r.mo.length r.mo) ∧ (r.sp.length ≤ k14 ∧ Kd.C (Kd.int .i64) w A14 r.sp.length r.sp) := by
  obtain ⟨A6, k6, e6, h6⟩ := R.c6
  obtain ⟨A7, k7, e7, h7⟩ := R.c7
  obtain ⟨A8, k8, e8, h8⟩ := R.c8
  obtain ⟨A9, k9, e9, h9⟩ := R.c9
  obtain ⟨A10, k10, e10, h10⟩ := R.c10
  obtain ⟨A11, k11, e11, h11⟩ := R.c11
  obtain ⟨A12, k12, e12, h12⟩ := R.c12
  obtain ⟨A13, k13, e13, h13⟩ := R.c13
  obtain ⟨A14, k14, e14, h14⟩ := R.c14
  refine ⟨A6, k6, A7, k7, A8, k8, A9, k9, A10, k10, A11, k11, A12, k12, A13, k13, A14, k14, ?_, h6, h7, h8, h9, h10, h11, h12, h13, h14⟩
  have hs := R.sz
  have e0 := R.c0
  have e1 := R.c1
  have e2 := R.c2
  have e3 := R.c3
  have e4 := R.c4
  have e5 := R.c5
  have e15 := R.c15
  obtain ⟨l⟩ := cs
  replace hs : l.length = 16 := hs
  match l, hs with
  | [v0, v1, v2, v3, v4, v5, v6, v7, v8, v9, v10, v11, v12, v13, v14, v15], _ =>
    simp at e0 e1 e2 e3 e4 e5 e6 e7 e8 e9 e10 e11 e12 e13 e14 e15
    rw [e0, e1, e2, e3, e4, e5, e6, e7, e8, e9, e10, e11, e12, e13, e14, e15]
theorem fends {r : RR} (h : Right r) : Ev (fun k => recur_ends.f k r.fr r.iv r.ct r.un r.ua r.utc r.sec r.mi r.ho r.dy r.md r.yd r.wn r.mo r.sp r.wk) true := by
  unfold recur_ends.f
  refine evn (by have := h.ct0; omega) (evn (by have := h.ct1; omega) ?_)
  rcases h.en with ⟨e1, e2, e3⟩ | ⟨e1, e2, e3⟩
  · simp only [e1, Bool.false_eq_true, if_false]
    refine evstep ?_
    simp only [recur_ends.j0, Bool.false_eq_true, if_false, e1, e2, e3, if_true]
    exact Ev.now _
  · simp only [e1, if_true, e2]
    refine evstep ?_
    simp only [recur_ends.j0, if_true, gt_iff_lt, Int.lt_irrefl, decide_false, Bool.false_eq_true, if_false]
    exact evb (fyear e3) (evs rfl)
theorem fcheck {r : RR} (h : Right r) : Ev (fun k => recur_Check.f k r.fr r.iv r.ct r.un r.ua r.utc r.sec r.mi r.ho r.dy r.md r.yd r.wn r.mo r.sp r.wk) 0 := by
  unfold recur_Check.f
  refine evp h.ok ?_
  exact evb (fends h) (by simp only [if_true]; exact Ev.now _)
theorem check_on {w : World} {cs : Array Value} {r : RR} (R : Rul w cs r) (h : Right r) : Calls Tryz.prog 40 #[.agg cs] w (Rets w (.int .i64 0)) := by
  obtain ⟨A6, k6, A7, k7, A8, k8, A9, k9, A10, k10, A11, k11, A12, k12, A13, k13, A14, k14, rfl, h6, h7, h8, h9, h10, h11, h12, h13, h14⟩ := rul_opens R
  obtain ⟨k, hk⟩ := (fcheck h).rounds
  exact recur_Check.calls k r.fr r.iv r.ct r.un r.ua r.utc A6 k6 r.sec A7 k7 r.mi A8 k8 r.ho A9 k9 r.dy A10 k10 r.md A11 k11 r.yd A12 k12 r.wn A13 k13 r.mo A14 k14 r.sp r.wk 0 w h6.2 h6.1 h7.2 h7.1 h8.2 h8.1 h9.2 h9.1 h10.2 h10.1 h11.2 h11.1 h12.2 h12.1 h13.2 h13.1 h14.2 h14.1 hk
set_option maxRecDepth 100000
set_option maxHeartbeats 4000000
end Go.Proofs.YtjjaiahfkiojlaaGreat.Pure

namespace Go.Proofs.YtjjaiahfkiojlaaGreat.Pure
open Go.RowKit Go.Proofs.YtjjaiahfkiojlaaGreat.O Go.Proofs.YtjjaiahfkiojlaaGreatW.PrintWords Go.Proofs.YtjjaiahfkiojlaaGreatW.PrintLast
open Go.Proofs.YtjjaiahfkiojlaaGreat.Civ
set_option linter.unusedVariables false
set_option linter.unusedSimpArgs false
set_option maxRecDepth 100000
set_option maxHeartbeats 4000000
theorem down_on {w : World} {a b : Int} (h : -4611686018427387904 ≤ a) (h' : a ≤ 4611686018427387904) (hb : 0 < b) : Calls Tryz.prog 74 #[.int .i64 a, .int .i64 b] w (Rets w (.int .i64 (a / b))) := (filter_down.calls a b _ w (fdown h h' hb)).mono fun _ _ => rets_drawn
theorem least_on {w : World} : Calls Tryz.prog 43 #[] w (Rets w (.int .i64 (-62135596800))) := by
  obtain ⟨k, h⟩ := fleast.rounds
  exact filter_least.calls k _ w h
theorem most_on {w : World} : Calls Tryz.prog 44 #[] w (Rets w (.int .i64 253402300799)) := by
  obtain ⟨k, h⟩ := fmost.rounds
  exact filter_most.calls k _ w h
theorem period_on {w : World} {cs : Array Value} {r : RR} (R : Rul w cs r) (h : Lens r) {t : Int} (ht : InT t) : Calls Tryz.prog 42 #[.agg cs, .int .i64 t] w (Rets w (.int .i64 (perV r t))) := by
  obtain ⟨A12, k12, e12, q12, h12⟩ := R.c12
  have y := dt_year ht
  have hm := (dt_spec (n := t / 86400) (by omega) (by omega)).1.2.2
  unfold InT at ht
  have w0 := h.w0
  have w1 := h.w1
  have c1 : ∀ w, Calls Tryz.prog 51 #[.int .i64 t] w (Rets w (.tuple #[.int .i64 (t / 86400), .int .i64 (t % 86400)])) := fun _ => split_on (by omega) (by omega)
  have c2 : ∀ w, Calls Tryz.prog 73 #[.int .i64 (t / 86400)] w (Rets w (.tuple #[.agg #[.int .i64 (dt (t / 86400)).1, .int .i64 (dt (t / 86400)).2.1, .int .i64 (dt (t / 86400)).2.2], .int .i64 0])) := fun _ => date_on (by omega) (by omega)
  have c3 : ∀ w, Calls Tryz.prog 74 #[.int .i64 t, .int .i64 60] w (Rets w (.int .i64 (t / 60))) := fun _ => down_on (by omega) (by omega) (by omega)
  have c4 : ∀ w, Calls Tryz.prog 74 #[.int .i64 t, .int .i64 3600] w (Rets w (.int .i64 (t / 3600))) := fun _ => down_on (by omega) (by omega) (by omega)
  have c5 : ∀ w, Calls Tryz.prog 74 #[.int .i64 (wrap64 (wrap64 (t / 86400 + 4) - r.wk)), .int .i64 7] w (Rets w (.int .i64 ((t / 86400 + 4 - r.wk) / 7))) := fun _ => by
    rw [w64 (x := t / 86400 + 4) (by omega) (by omega), w64 (x := t / 86400 + 4 - r.wk) (by omega) (by omega)]
    exact down_on (by omega) (by omega) (by omega)
  have e6 : wrap64 (wrap64 (wrap64 (12 * (dt (t / 86400)).1) + (dt (t / 86400)).2.1) - 1) = 12 * (dt (t / 86400)).1 + (dt (t / 86400)).2.1 - 1 := by
    rw [w64 (x := 12 * (dt (t / 86400)).1) (by omega) (by omega), w64 (x := 12 * (dt (t / 86400)).1 + (dt (t / 86400)).2.1) (by omega) (by omega), w64 (by omega) (by omega)]
  clear y hm ht w0 w1
  unfold perV
  refine en_ Tryz.func42 rfl rfl rfl fun a K => sr_ (bx_ K (On.nil w) rfl rfl rfl rfl rfl rfl fun a g0 W M K => run_ 1 K rfl fun a K => nil_ (sr_ (run_ 1 K rfl fun a K => cl_ K Tryz.func51 (by kernel_rfl) rfl rfl rfl rfl rfl rfl ((c1 _).mono ?_))))
  rintro _ w1 ⟨rfl, b1⟩
  refine ⟨_, rfl, fun a K => run_ 5 K rfl fun a K => nil_ (sr_ (run_ 1 K rfl fun a K => cl_ K Tryz.func73 (by kernel_rfl) rfl rfl rfl rfl rfl rfl ((c2 _).mono ?_)))⟩
  rintro _ w2 ⟨rfl, b2⟩
  refine ⟨_, rfl, fun a K => run_ 3 K rfl fun a K => nw_ K ((M.call b1).call b2) rfl rfl rfl rfl rfl rfl rfl (fun _ => rfl) rfl rfl rfl fun a g1 W M K => run_ 1 K rfl fun a K => nil_ (wp_seq (sr_ (run_ 1 K rfl fun a K => ld_ K M 1 rfl rfl rfl rfl rfl rfl R.c0 rfl fun a K => nil_ (wp_block (sr_ (run_ 2 K rfl fun a K => nil_ ?_))))))⟩
  by_cases d1 : r.fr = 1
  · rw [if_pos d1]
    exact ct_ K rfl (decide_eq_true d1) (sr_ (run_ 2 K rfl fun a K => nil_ (ret_ rfl K rfl ⟨rfl, M.bl⟩)))
  rw [if_neg d1]
  refine cf_ K rfl (decide_eq_false d1) (sr_ (run_ 2 K rfl fun a K => nil_ ?_))
  by_cases d2 : r.fr = 2
  · rw [if_pos d2]
    refine ct_ K rfl (decide_eq_true d2) (sr_ (run_ 1 K rfl fun a K => cl_ K Tryz.func74 (by kernel_rfl) rfl rfl rfl rfl rfl rfl ((c3 _).mono ?_)))
    rintro _ w3 ⟨rfl, b3⟩
    exact ⟨_, rfl, fun a K => run_ 1 K rfl fun a K => nil_ (ret_ rfl K rfl ⟨rfl, (M.call b3).bl⟩)⟩
  rw [if_neg d2]
  refine cf_ K rfl (decide_eq_false d2) (sr_ (run_ 2 K rfl fun a K => nil_ ?_))
  by_cases d3 : r.fr = 3
  · rw [if_pos d3]
    refine ct_ K rfl (decide_eq_true d3) (sr_ (run_ 1 K rfl fun a K => cl_ K Tryz.func74 (by kernel_rfl) rfl rfl rfl rfl rfl rfl ((c4 _).mono ?_)))
    rintro _ w3 ⟨rfl, b3⟩
    exact ⟨_, rfl, fun a K => run_ 1 K rfl fun a K => nil_ (ret_ rfl K rfl ⟨rfl, (M.call b3).bl⟩)⟩
  rw [if_neg d3]
  refine cf_ K rfl (decide_eq_false d3) (sr_ (run_ 2 K rfl fun a K => nil_ ?_))
  by_cases d4 : r.fr = 4
  · rw [if_pos d4]
    exact ct_ K rfl (decide_eq_true d4) (sr_ (run_ 2 K rfl fun a K => nil_ (ret_ rfl K rfl ⟨rfl, M.bl⟩)))
  rw [if_neg d4]
  refine cf_ K rfl (decide_eq_false d4) (sr_ (run_ 2 K rfl fun a K => nil_ ?_))
  by_cases d5 : r.fr = 5
  · rw [if_pos d5]
    refine ct_ K rfl (decide_eq_true d5) (sr_ (run_ 3 K rfl fun a K => ld_ K M 1 rfl rfl rfl rfl rfl rfl R.c15 rfl fun a K => run_ 1 K rfl fun a K => cl_ K Tryz.func74 (by kernel_rfl) rfl rfl rfl rfl rfl rfl ((c5 _).mono ?_)))
    rintro _ w3 ⟨rfl, b3⟩
    exact ⟨_, rfl, fun a K => run_ 1 K rfl fun a K => nil_ (ret_ rfl K rfl ⟨rfl, (M.call b3).bl⟩)⟩
  rw [if_neg d5]
  refine cf_ K rfl (decide_eq_false d5) (sr_ (run_ 2 K rfl fun a K => nil_ ?_))
  by_cases d6 : r.fr = 6
  · rw [if_pos d6]
    exact ct_ K rfl (decide_eq_true d6) (sr_ (run_ 1 K rfl fun a K => ld_ K M 0 rfl rfl rfl rfl rfl rfl rfl rfl fun a K => run_ 2 K rfl fun a K => ld_ K M 0 rfl rfl rfl rfl rfl rfl rfl rfl fun a K => run_ 3 K rfl fun a K => nil_ (ret_ rfl K rfl ⟨by rw [e6], M.bl⟩)))
  rw [if_neg d6]
  refine cf_ K rfl (decide_eq_false d6) (sb_ (wp_seq (sr_ (run_ 1 K rfl fun a K => ld_ K M 1 rfl rfl rfl rfl rfl rfl e12 rfl fun a K => run_ 2 K rfl fun a K => nil_ ?_))))
  by_cases d7 : r.wn = []
  · rw [if_pos d7]
    exact cs_ K rfl ((pos_ _).trans (decide_eq_false (by rw [d7]; decide))) (sr_ (run_ 1 K rfl fun a K => ld_ K M 0 rfl rfl rfl rfl rfl rfl rfl rfl fun a K => run_ 1 K rfl fun a K => nil_ (ret_ rfl K rfl ⟨rfl, M.bl⟩)))
  rw [if_neg d7]
  refine ct_ K rfl ((pos_ _).trans (decide_eq_true (Nat.pos_of_ne_zero fun q => d7 ((nil_iff _).1 q)))) (sr_ (run_ 2 K rfl fun a K => ld_ K M 1 rfl rfl rfl rfl rfl rfl R.c15 rfl fun a K => cl_ K Tryz.func75 (by kernel_rfl) rfl rfl rfl rfl rfl rfl ((wno_on _ _).mono ?_)))
  rintro _ w3 ⟨rfl, b3⟩
  exact ⟨_, rfl, fun a K => run_ 7 K rfl fun a K => nil_ (sr_ (run_ 2 K rfl fun a K => nil_ (ret_ rfl K rfl ⟨rfl, (M.call b3).bl⟩)))⟩
theorem Period_on {w : World} {cs : Array Value} {r : RR} (R : Rul w cs r) (h : Right r) (t : Int) : Calls Tryz.prog 16 #[.agg cs, .int .i64 t] w (Rets w (if InT t then .tuple #[.int .i64 (perV r t), .int .i64 0] else .tuple #[.int .i64 0, .int .i64 23])) := by
  refine en_ Tryz.func16 rfl rfl rfl fun a K => sr_ (bx_ K (On.nil w) rfl rfl rfl rfl rfl rfl fun a g0 W M K => run_ 2 K rfl fun a K => nil_ (sr_ (lda_ K M 0 rfl rfl rfl rfl rfl rfl rfl R.sz fun a K => cl_ K Tryz.func40 (by kernel_rfl) rfl rfl rfl rfl rfl rfl ((check_on (R.below M.bl) h).mono ?_))))
  rintro _ w1 ⟨rfl, b1⟩
  replace M := M.call b1
  refine ⟨_, rfl, fun a K => run_ 1 K rfl fun a K => nil_ (bk_ (sr_ (run_ 3 K rfl fun a K => nil_ (cf_ K rfl rfl (sr_ (run_ 1 K rfl fun a K => cl_ K Tryz.func41 (by kernel_rfl) rfl rfl rfl rfl rfl rfl ((inT_on t).mono ?_)))))))⟩
  rintro _ w2 ⟨rfl, b2⟩
  replace M := M.call b2
  refine ⟨_, rfl, fun a K => ?_⟩
  by_cases c : InT t
  · rw [if_pos c]
    refine run_ 2 (fx_ K (decide_eq_true c)) rfl fun a K => nil_ (cf_ K rfl rfl (sb_ (sr_ (lda_ K M 0 rfl rfl rfl rfl rfl rfl rfl R.sz fun a K => run_ 1 K rfl fun a K => cl_ K Tryz.func42 (by kernel_rfl) rfl rfl rfl rfl rfl rfl ((period_on (R.below M.bl) h.lens c).mono ?_)))))
    rintro _ w3 ⟨rfl, b3⟩
    exact ⟨_, rfl, fun a K => run_ 2 K rfl fun a K => nil_ (ret2_ rfl K rfl rfl ⟨rfl, (M.call b3).bl⟩)⟩
  · rw [if_neg c]
    exact run_ 2 (fx_ K (decide_eq_false c)) rfl fun a K => nil_ (ct_ K rfl rfl (sr_ (run_ 2 K rfl fun a K => nil_ (ret2_ rfl K rfl rfl ⟨rfl, M.bl⟩))))
end Go.Proofs.YtjjaiahfkiojlaaGreat.Pure

namespace Go.Proofs.YtjjaiahfkiojlaaGreat.Pure
open Go.RowKit Go.Proofs.YtjjaiahfkiojlaaGreat.O Go.Proofs.YtjjaiahfkiojlaaGreatW.PrintWords Go.Proofs.YtjjaiahfkiojlaaGreatW.PrintLast
open Go.Proofs.YtjjaiahfkiojlaaGreat.Civ
set_option linter.unusedVariables false
set_option linter.unusedSimpArgs false
set_option maxRecDepth 100000
set_option maxHeartbeats 4000000
theorem whole_on {w : World} {cs : Array Value} {r : RR} (R : Rul w cs r) (h : Lens r) {p : Int} (hp : InP r p) (h1 : ¬ r.fr = 1) (h2 : ¬ r.fr = 2) (h3 : ¬ r.fr = 3) : Calls Tryz.prog 45 #[.agg cs, .int .i64 p] w (Rets w (.tuple #[.int .i64 (wholeV r p).1, .int .i64 (wholeV r p).2])) := by
  obtain ⟨A12, k12, e12, q12, h12⟩ := R.c12
  have b := inP_bd h hp
  have f0 := h.f0
  have f1 := h.f1
  have w0 := h.w0
  have w1 := h.w1
  have c5 : r.fr = 5 → wrap64 (wrap64 (wrap64 (7 * p) - 4) + r.wk) = 7 * p - 4 + r.wk ∧ wrap64 (wrap64 (wrap64 (wrap64 (wrap64 (7 * p) - 4) + r.wk) + 7) - 1) = 7 * p - 4 + r.wk + 6 := fun c => by
    have d := b.2.2.2.2.1 c
    rw [w64 (x := 7 * p) (by omega) (by omega), w64 (x := 7 * p - 4) (by omega) (by omega), w64 (x := 7 * p - 4 + r.wk) (by omega) (by omega), w64 (x := 7 * p - 4 + r.wk + 7) (by omega) (by omega), w64 (by omega) (by omega)]
    omega
  have c6 : r.fr = 6 → Rt (p / 12) (p % 12 + 1) 1 ∧ wrap64 (Int.tdiv p 12) = p / 12 ∧ wrap64 (Int.tmod p 12 + 1) = p % 12 + 1 ∧ wrap64 (wrap64 (num (p / 12) (p % 12 + 1) 1 + ln (p / 12) (p % 12 + 1)) - 1) = num (p / 12) (p % 12 + 1) 1 + ln (p / 12) (p % 12 + 1) - 1 := fun c => by
    have d := b.2.2.2.2.2.1 c
    have l := ln_bd (p / 12) (p % 12 + 1) (by omega) (by omega)
    have hr : Rt (p / 12) (p % 12 + 1) 1 := ⟨by omega, by omega, by omega, by omega, by omega, by omega⟩
    have a := num_bd hr
    rw [tdiv_nn 12 (by omega), tmod_nn 12 (by omega), w64 (x := p / 12) (by omega) (by omega), w64 (x := p % 12 + 1) (by omega) (by omega), w64 (x := num (p / 12) (p % 12 + 1) 1 + ln (p / 12) (p % 12 + 1)) (by omega) (by omega), w64 (by omega) (by omega)]
    exact ⟨hr, rfl, rfl, rfl⟩
  have c7 : ¬ r.fr = 4 → ¬ r.fr = 5 → ¬ r.fr = 6 → r.wn = [] → 1 ≤ p ∧ p ≤ 9999 := fun _ _ _ e => b.2.2.2.2.2.2.1 (by omega) e
  have c8 : ¬ r.fr = 4 → ¬ r.fr = 5 → ¬ r.fr = 6 → r.wn ≠ [] → 0 ≤ p ∧ p ≤ 10000 := fun _ _ _ e => b.2.2.2.2.2.2.2 (by omega) e
  clear b f0 f1
  unfold wholeV
  refine en_ Tryz.func45 rfl rfl rfl fun a K => sr_ (bx_ K (On.nil w) rfl rfl rfl rfl rfl rfl fun a g0 W M K => run_ 2 K rfl fun a K => nil_ (wp_seq (sr_ (run_ 1 K rfl fun a K => ld_ K M 0 rfl rfl rfl rfl rfl rfl R.c0 rfl fun a K => nil_ (wp_block (sr_ (run_ 2 K rfl fun a K => nil_ ?_)))))))
  by_cases d4 : r.fr = 4
  · rw [if_pos d4]
    exact ct_ K rfl (decide_eq_true d4) (sr_ (run_ 4 K rfl fun a K => nil_ (ret2_ rfl K rfl rfl ⟨rfl, M.bl⟩)))
  rw [if_neg d4]
  refine cf_ K rfl (decide_eq_false d4) (sr_ (run_ 2 K rfl fun a K => nil_ ?_))
  by_cases d5 : r.fr = 5
  · rw [if_pos d5]
    obtain ⟨x1, x2⟩ := c5 d5
    exact ct_ K rfl (decide_eq_true d5) (sr_ (run_ 4 K rfl fun a K => ld_ K M 0 rfl rfl rfl rfl rfl rfl R.c15 rfl fun a K => run_ 2 K rfl fun a K => nil_ (sr_ (run_ 6 K rfl fun a K => nil_ (ret2_ rfl K rfl rfl ⟨by rw [x2, x1], M.bl⟩)))))
  rw [if_neg d5]
  refine cf_ K rfl (decide_eq_false d5) (sr_ (run_ 2 K rfl fun a K => nil_ ?_))
  by_cases d6 : r.fr = 6
  · rw [if_pos d6]
    obtain ⟨x0, x1, x2, x3⟩ := c6 d6
    have y1 : ∀ w, Calls Tryz.prog 76 #[.int .i64 (wrap64 (Int.tdiv p 12)), .int .i64 (wrap64 (Int.tmod p 12 + 1)), .int .i64 1] w (Rets w (.int .i64 (num (p / 12) (p % 12 + 1) 1))) := fun _ => by rw [x1, x2]; exact num_on x0
    have y2 : ∀ w, Calls Tryz.prog 77 #[.int .i64 (wrap64 (Int.tdiv p 12)), .int .i64 (wrap64 (Int.tmod p 12 + 1))] w (Rets w (.int .i64 (ln (p / 12) (p % 12 + 1)))) := fun _ => by rw [x1, x2]; exact len_on _ _
    refine ct_ K rfl (decide_eq_true d6) (sr_ (run_ 5 K rfl fun a K => cl_ K Tryz.func76 (by kernel_rfl) rfl rfl rfl rfl rfl rfl ((y1 _).mono ?_)))
    rintro _ w3 ⟨rfl, b3⟩
    refine ⟨_, rfl, fun a K => run_ 1 K rfl fun a K => nil_ (sr_ (run_ 7 K rfl fun a K => cl_ K Tryz.func77 (by kernel_rfl) rfl rfl rfl rfl rfl rfl ((y2 _).mono ?_)))⟩
    rintro _ w4 ⟨rfl, b4⟩
    exact ⟨_, rfl, fun a K => run_ 4 K rfl fun a K => nil_ (ret2_ rfl K rfl rfl ⟨by rw [x3], ((M.call b3).call b4).bl⟩)⟩
  rw [if_neg d6]
  refine cf_ K rfl (decide_eq_false d6) (sb_ (wp_seq (sr_ (run_ 1 K rfl fun a K => ld_ K M 0 rfl rfl rfl rfl rfl rfl e12 rfl fun a K => run_ 2 K rfl fun a K => nil_ ?_))))
  by_cases d7 : r.wn = []
  · rw [if_pos d7]
    have x := c7 d4 d5 d6 d7
    refine cs_ K rfl ((pos_ _).trans (decide_eq_false (by rw [d7]; decide))) (sr_ (run_ 1 K rfl fun a K => cl_ K Tryz.func76 (by kernel_rfl) rfl rfl rfl rfl rfl rfl ((num_on (rt_first (by omega) (by omega))).mono ?_)))
    rintro _ w3 ⟨rfl, b3⟩
    refine ⟨_, rfl, fun a K => run_ 1 K rfl fun a K => cl_ K Tryz.func76 (by kernel_rfl) rfl rfl rfl rfl rfl rfl ((num_on (rt_31 (by omega) (by omega))).mono ?_)⟩
    rintro _ w4 ⟨rfl, b4⟩
    exact ⟨_, rfl, fun a K => run_ 2 K rfl fun a K => nil_ (ret2_ rfl K rfl rfl ⟨rfl, ((M.call b3).call b4).bl⟩)⟩
  rw [if_neg d7]
  have x := c8 d4 d5 d6 d7
  refine ct_ K rfl ((pos_ _).trans (decide_eq_true (Nat.pos_of_ne_zero fun q => d7 ((nil_iff _).1 q)))) (sr_ (run_ 2 K rfl fun a K => ld_ K M 0 rfl rfl rfl rfl rfl rfl R.c15 rfl fun a K => cl_ K Tryz.func78 (by kernel_rfl) rfl rfl rfl rfl rfl rfl ((weeks_on x.1 x.2 w0 w1).mono ?_)))
  rintro _ w3 ⟨rfl, b3⟩
  exact ⟨_, rfl, fun a K => run_ 4 K rfl fun a K => nil_ (ret2_ rfl K rfl rfl ⟨rfl, (M.call b3).bl⟩)⟩
theorem Span_on {w : World} {cs : Array Value} {r : RR} (R : Rul w cs r) (h : Right r) (p : Int) : Calls Tryz.prog 17 #[.agg cs, .int .i64 p] w (Rets w (.tuple #[.int .i64 (spanV r p).1, .int .i64 (spanV r p).2.1, .int .i64 (spanV r p).2.2])) := by
  have hl := h.lens
  refine en_ Tryz.func17 rfl rfl rfl fun a K => sr_ (bx_ K (On.nil w) rfl rfl rfl rfl rfl rfl fun a g0 W M K => run_ 3 K rfl fun a K => nil_ (sr_ (lda_ K M 0 rfl rfl rfl rfl rfl rfl rfl R.sz fun a K => cl_ K Tryz.func40 (by kernel_rfl) rfl rfl rfl rfl rfl rfl ((check_on (R.below M.bl) h).mono ?_))))
  rintro _ w1 ⟨rfl, b1⟩
  replace M := M.call b1
  refine ⟨_, rfl, fun a K => run_ 1 K rfl fun a K => nil_ (wp_seq (sr_ (run_ 2 K rfl fun a K => nil_ (cs_ K rfl rfl (wp_seq (dseq_ (by kernel_rfl) rfl rfl M.drew (dp_ 1 11 [0] K rfl rfl (by kernel_rfl) fun a K => dlda_ 3 1 K M.drew 0 rfl rfl rfl rfl rfl rfl rfl rfl R.sz (by kernel_rfl) fun a K => dc_ 7 2 K Tryz.func43 (by kernel_rfl) rfl rfl rfl rfl rfl rfl rfl (by kernel_rfl) (least_on.mono ?_))))))))⟩
  rintro _ w2 ⟨rfl, b2⟩
  replace M := M.drew.call b2
  refine ⟨_, rfl, M, fun a K => dc_ 15 3 K Tryz.func42 (by kernel_rfl) rfl rfl rfl rfl rfl rfl rfl (by kernel_rfl) ((period_on (R.below M.bl) hl in_least).mono ?_)⟩
  rintro _ w3 ⟨rfl, b3⟩
  replace M := M.call b3
  refine ⟨_, rfl, M, fun a K => dp_ 31 7 [4] K rfl rfl (by kernel_rfl) fun a K => ?_⟩
  by_cases c1 : p < perV r (-62135596800)
  · rw [show spanV r p = (0, 0, 23) by unfold spanV; rw [if_neg (fun e => by have := e.1.1; omega)]]
    exact dp_ 4095 0 [5, 6, 7, 8, 9, 10, 11] (fx_ K (decide_eq_true c1)) rfl rfl (by kernel_rfl) fun a K => dend_ (by kernel_rfl) (ct_ K rfl rfl (sr_ (run_ 3 K rfl fun a K => nil_ (ret3_ rfl K rfl rfl rfl ⟨rfl, M.bl⟩))))
  refine dp_ 127 5 [5, 6] (fx_ K (decide_eq_false c1)) rfl rfl (by kernel_rfl) fun a K => dlda_ 255 7 K M 0 rfl rfl rfl rfl rfl rfl rfl rfl R.sz (by kernel_rfl) fun a K => dc_ 511 8 K Tryz.func44 (by kernel_rfl) rfl rfl rfl rfl rfl rfl rfl (by kernel_rfl) (most_on.mono ?_)
  rintro _ w4 ⟨rfl, b4⟩
  replace M := M.call b4
  refine ⟨_, rfl, M, fun a K => dc_ 1023 9 K Tryz.func42 (by kernel_rfl) rfl rfl rfl rfl rfl rfl rfl (by kernel_rfl) ((period_on (R.below M.bl) hl in_most).mono ?_)⟩
  rintro _ w5 ⟨rfl, b5⟩
  replace M := M.call b5
  refine ⟨_, rfl, M, fun a K => dp_ 4095 0 [10, 11] K rfl rfl (by kernel_rfl) fun a K => dend_ (by kernel_rfl) ?_⟩
  by_cases c2 : perV r 253402300799 < p
  · rw [show spanV r p = (0, 0, 23) by unfold spanV; rw [if_neg (fun e => by have := e.1.2; omega)]]
    exact ct_ K rfl (decide_eq_true c2) (sr_ (run_ 3 K rfl fun a K => nil_ (ret3_ rfl K rfl rfl rfl ⟨rfl, M.bl⟩)))
  have hp : InP r p := ⟨by omega, by omega⟩
  have b := inP_bd hl hp
  have g2 : r.fr = 2 → wrap64 (p * 60) = 60 * p ∧ wrap64 (wrap64 (wrap64 (p * 60) + 60) - 1) = 60 * p + 59 := fun c => by
    have d := b.2.1 c
    rw [w64 (x := p * 60) (by omega) (by omega), w64 (x := p * 60 + 60) (by omega) (by omega), w64 (by omega) (by omega)]
    omega
  have g3 : r.fr = 3 → wrap64 (p * 3600) = 3600 * p ∧ wrap64 (wrap64 (wrap64 (p * 3600) + 3600) - 1) = 3600 * p + 3599 := fun c => by
    have d := b.2.2.1 c
    rw [w64 (x := p * 3600) (by omega) (by omega), w64 (x := p * 3600 + 3600) (by omega) (by omega), w64 (by omega) (by omega)]
    omega
  have g4 : ¬ r.fr = 1 → ¬ r.fr = 2 → ¬ r.fr = 3 → wrap64 ((wholeV r p).1 * 86400) = 86400 * (wholeV r p).1 ∧ wrap64 (wrap64 (wrap64 ((wholeV r p).2 * 86400) + 86400) - 1) = 86400 * (wholeV r p).2 + 86399 := fun c1 c2 c3 => by
    have wb := whole_bd hl hp c1 c2 c3
    rw [w64 (x := (wholeV r p).1 * 86400) (by omega) (by omega), w64 (x := (wholeV r p).2 * 86400) (by omega) (by omega), w64 (x := (wholeV r p).2 * 86400 + 86400) (by omega) (by omega), w64 (by omega) (by omega)]
    omega
  clear b
  refine cs_ K rfl (decide_eq_false c2) (wp_seq (sr_ (run_ 1 K rfl fun a K => ld_ K M 0 rfl rfl rfl rfl rfl rfl R.c0 rfl fun a K => nil_ (wp_block (sr_ (run_ 2 K rfl fun a K => nil_ ?_))))))
  by_cases d1 : r.fr = 1
  case' pos =>
    refine ct_ K rfl (decide_eq_true d1) (rg_ (run_ 4 K rfl fun a K => nb_ ?_))
    replace K := ks_ (i := 4) (u := .int .i64 (spanW r p).1) (ks_ (i := 5) (u := .int .i64 (spanW r p).2) K rfl (by unfold spanW; rw [if_pos d1])) rfl (by unfold spanW; rw [if_pos d1])
  case' neg =>
    refine cf_ K rfl (decide_eq_false d1) (sr_ (run_ 2 K rfl fun a K => nil_ ?_))
    by_cases d2 : r.fr = 2
    case' pos =>
      refine ct_ K rfl (decide_eq_true d2) (rg_ (run_ 8 K rfl fun a K => nb_ ?_))
      replace K := ks_ (i := 4) (u := .int .i64 (spanW r p).1) (ks_ (i := 5) (u := .int .i64 (spanW r p).2) K rfl (by unfold spanW; rw [if_neg d1, if_pos d2, (g2 d2).2])) rfl (by unfold spanW; rw [if_neg d1, if_pos d2, (g2 d2).1])
    case' neg =>
      refine cf_ K rfl (decide_eq_false d2) (sr_ (run_ 2 K rfl fun a K => nil_ ?_))
      by_cases d3 : r.fr = 3
      case' pos =>
        refine ct_ K rfl (decide_eq_true d3) (rg_ (run_ 8 K rfl fun a K => nb_ ?_))
        replace K := ks_ (i := 4) (u := .int .i64 (spanW r p).1) (ks_ (i := 5) (u := .int .i64 (spanW r p).2) K rfl (by unfold spanW; rw [if_neg d1, if_neg d2, if_pos d3, (g3 d3).2])) rfl (by unfold spanW; rw [if_neg d1, if_neg d2, if_pos d3, (g3 d3).1])
      case' neg =>
        refine cf_ K rfl (decide_eq_false d3) (sr_ (lda_ K M 0 rfl rfl rfl rfl rfl rfl rfl R.sz fun a K => run_ 1 K rfl fun a K => cl_ K Tryz.func45 (by kernel_rfl) rfl rfl rfl rfl rfl rfl ((whole_on (R.below M.bl) hl hp d1 d2 d3).mono ?_)))
        rintro _ w6 ⟨rfl, b6⟩
        replace M := M.call b6
        refine ⟨_, rfl, fun a K => run_ 5 K rfl fun a K => nil_ (rg_ (run_ 8 K rfl fun a K => nb_ ?_))⟩
        replace K := ks_ (i := 4) (u := .int .i64 (spanW r p).1) (ks_ (i := 5) (u := .int .i64 (spanW r p).2) K rfl (by unfold spanW; rw [if_neg d1, if_neg d2, if_neg d3, (g4 d1 d2 d3).2])) rfl (by unfold spanW; rw [if_neg d1, if_neg d2, if_neg d3, (g4 d1 d2 d3).1])
  all_goals
    clear g2 g3 g4
    refine wp_seq (sr_ (run_ 1 K rfl fun a K => cl_ K Tryz.func41 (by kernel_rfl) rfl rfl rfl rfl rfl rfl ((inT_on _).mono ?_)))
    rintro _ w7 ⟨rfl, b7⟩
    replace M := M.call b7
    refine ⟨_, rfl, fun a K => ?_⟩
    by_cases t1 : InT (spanW r p).1
    case neg =>
      rw [show spanV r p = (0, 0, 23) by unfold spanV; rw [if_neg (fun e => t1 e.2.1)]]
      exact run_ 6 (fx_ K (decide_eq_false t1)) rfl fun a K => nil_ (ct_ K rfl rfl (sr_ (run_ 3 K rfl fun a K => nil_ (ret3_ rfl K rfl rfl rfl ⟨rfl, M.bl⟩))))
    refine run_ 3 (fx_ K (decide_eq_true t1)) rfl fun a K => cl_ K Tryz.func41 (by kernel_rfl) rfl rfl rfl rfl rfl rfl ((inT_on _).mono ?_)
    rintro _ w8 ⟨rfl, b8⟩
    replace M := M.call b8
    refine ⟨_, rfl, fun a K => ?_⟩
    by_cases t2 : InT (spanW r p).2
    case neg =>
      rw [show spanV r p = (0, 0, 23) by unfold spanV; rw [if_neg (fun e => t2 e.2.2)]]
      exact run_ 2 (fx_ K (decide_eq_false t2)) rfl fun a K => nil_ (ct_ K rfl rfl (sr_ (run_ 3 K rfl fun a K => nil_ (ret3_ rfl K rfl rfl rfl ⟨rfl, M.bl⟩))))
    rw [show spanV r p = ((spanW r p).1, (spanW r p).2, 0) by unfold spanV; rw [if_pos ⟨hp, t1, t2⟩]]
    exact run_ 2 (fx_ K (decide_eq_true t2)) rfl fun a K => nil_ (cs_ K rfl rfl (sr_ (run_ 5 K rfl fun a K => nil_ (ret3_ rfl K rfl rfl rfl ⟨rfl, M.bl⟩))))
end Go.Proofs.YtjjaiahfkiojlaaGreat.Pure
