/- Whether a right rule lets a time: Check and Lets as contracts. No condition beyond those each lemma names. -/
/- A time's period and a period's span: the functions of layer 22 as contracts. No condition beyond those each lemma names. -/
import Derived.Test.YtfinhaghgmnegaaGreatHS1
import Derived.Test.YtfinhaghgmnegaaGreatMOx3
import Derived.Test.YtfinhaghgmnegaaGreatOx150
import Derived.Test.YtfinhaghgmnegaaGreatOx27
import Derived.Test.YtfinhaghgmnegaaGreatMT23p
import Derived.Test.YtfinhaghgmnegaaGreatMOx49
namespace Go.Proofs.YtfinhaghgmnegaaGreat.Pure
open Go.RowKit Go.Proofs.YtfinhaghgmnegaaGreat.O Go.Proofs.YtfinhaghgmnegaaGreatW.PrintWords Go.Proofs.YtfinhaghgmnegaaGreatW.PrintLast
open Go.Proofs.YtfinhaghgmnegaaGreat.Civ
set_option linter.unusedVariables false
set_option linter.unusedSimpArgs false
theorem rul_opens {w : World} {cs : Array Value} {r : RR} (R : Rul w cs r) : ∃ (A6 : Option Addr) (k6 : Nat) (A7 : Option Addr) (k7 : Nat) (A8 : Option Addr) (k8 : Nat) (A9 : Option Addr) (k9 : Nat) (A10 : Option Addr) (k10 : Nat) (A11 : Option Addr) (k11 : Nat) (A12 : Option Addr) (k12 : Nat) (A13 : Option Addr) (k13 : Nat) (A14 : Option Addr) (k14 : Nat),
    cs = #[.int .i64 r.fr, .int .i64 r.iv, .int .i64 r.ct, .bool r.un, .int .i64 r.ua, .bool r.utc, .slice A6 r.sec.length k6, .slice A7 r.mi.length k7, .slice A8 r.ho.length k8, .slice A9 r.dy.length k9, .slice A10 r.md.length k10, .slice A11 r.yd.length k11, .slice A12 r.wn.length k12, .slice A13 r.mo.length k13, .slice A14 r.sp.length k14, .int .i64 r.wk] ∧
    (r.sec.length ≤ k6 ∧ Kd.C (Kd.int .i64) w A6 r.sec.length r.sec) ∧ (r.mi.length ≤ k7 ∧ Kd.C (Kd.int .i64) w A7 r.mi.length r.mi) ∧ (r.ho.length ≤ k8 ∧ Kd.C (Kd.int .i64) w A8 r.ho.length r.ho) ∧ (r.dy.length ≤ k9 ∧ Kd.C k44 w A9 r.dy.length r.dy) ∧ (r.md.length ≤ k10 ∧ Kd.C (Kd.int .i64) w A10 r.md.length r.md) ∧ (r.yd.length ≤ k11 ∧ Kd.C (Kd.int .i64) w A11 r.yd.length r.yd) ∧ (r.wn.length ≤ k12 ∧ Kd.C (Kd.int .i64) w A12 r.wn.length r.wn) ∧ (r.mo.length ≤ k13 ∧ Kd.C (Kd.int .i64) w A13 r.mo.length r.mo) ∧ (r.sp.length ≤ k14 ∧ Kd.C (Kd.int .i64) w A14 r.sp.length r.sp) := by
  obtain ⟨A6, k6, e6, h6⟩ := R.c6
  obtain ⟨A7, k7, e7, h7⟩ := R.c7
  obtain ⟨A8, k8, e8, h8⟩ := R.c8
  obtain ⟨A9, k9, e9, h9⟩ := R.c9
  obtain ⟨A10, k10, e10, h10⟩ := R.c10
  obtain ⟨A11, k11, e11, h11⟩ := R.c11
  obtain ⟨A12, k12, e12, h12⟩ := R.c12
  obtain ⟨A13, k13, e13, h13⟩ := R.c13
  obtain ⟨A14, k14, e14, h14⟩ := R.c14
  refine ⟨A6, k6, A7, k7, A8, k8, A9, k9, A10, k10, A11, k11, A12, k12, A13, k13, A14, k14, ?_, h6, h7, h8, h9, h10, h11, h12, h13, h14⟩
  have hs := R.sz
  have e0 := R.c0
  have e1 := R.c1
  have e2 := R.c2
  have e3 := R.c3
  have e4 := R.c4
  have e5 := R.c5
  have e15 := R.c15
  obtain ⟨l⟩ := cs
  replace hs : l.length = 16 := hs
  match l, hs with
  | [v0, v1, v2, v3, v4, v5, v6, v7, v8, v9, v10, v11, v12, v13, v14, v15], _ =>
    simp at e0 e1 e2 e3 e4 e5 e6 e7 e8 e9 e10 e11 e12 e13 e14 e15
    rw [e0, e1, e2, e3, e4, e5, e6, e7, e8, e9, e10, e11, e12, e13, e14, e15]
theorem fends {r : RR} (h : Right r) : Ev (fun k => recur_ends.f k r.fr r.iv r.ct r.un r.ua r.utc r.sec r.mi r.ho r.dy r.md r.yd r.wn r.mo r.sp r.wk) true := by
  unfold recur_ends.f
  refine evn (by have := h.ct0; omega) (evn (by have := h.ct1; omega) ?_)
  rcases h.en with ⟨e1, e2, e3⟩ | ⟨e1, e2, e3⟩
  · simp only [e1, Bool.false_eq_true, if_false]
    refine evstep ?_
    simp only [recur_ends.j0, Bool.false_eq_true, if_false, e1, e2, e3, if_true]
    exact Ev.now _
  · simp only [e1, if_true, e2]
    refine evstep ?_
    simp only [recur_ends.j0, if_true, gt_iff_lt, Int.lt_irrefl, decide_false, Bool.false_eq_true, if_false]
    exact evb (fyear e3) (evs rfl)
theorem fcheck {r : RR} (h : Right r) : Ev (fun k => recur_Check.f k r.fr r.iv r.ct r.un r.ua r.utc r.sec r.mi r.ho r.dy r.md r.yd r.wn r.mo r.sp r.wk) 0 := by
  unfold recur_Check.f
  refine evp h.ok ?_
  exact evb (fends h) (by simp only [if_true]; exact Ev.now _)
theorem check_on {w : World} {cs : Array Value} {r : RR} (R : Rul w cs r) (h : Right r) : Calls Tryz.prog 9 #[.agg cs] w (Rets w (.int .i64 0)) := by
  obtain ⟨A6, k6, A7, k7, A8, k8, A9, k9, A10, k10, A11, k11, A12, k12, A13, k13, A14, k14, rfl, h6, h7, h8, h9, h10, h11, h12, h13, h14⟩ := rul_opens R
  obtain ⟨k, hk⟩ := (fcheck h).rounds
  exact recur_Check.calls k r.fr r.iv r.ct r.un r.ua r.utc A6 k6 r.sec A7 k7 r.mi A8 k8 r.ho A9 k9 r.dy A10 k10 r.md A11 k11 r.yd A12 k12 r.wn A13 k13 r.mo A14 k14 r.sp r.wk 0 w h6.2 h6.1 h7.2 h7.1 h8.2 h8.1 h9.2 h9.1 h10.2 h10.1 h11.2 h11.1 h12.2 h12.1 h13.2 h13.1 h14.2 h14.1 hk
set_option maxRecDepth 100000
set_option maxHeartbeats 4000000
end Go.Proofs.YtfinhaghgmnegaaGreat.Pure

namespace Go.Proofs.YtfinhaghgmnegaaGreat.Pure
open Go.RowKit Go.Proofs.YtfinhaghgmnegaaGreat.O Go.Proofs.YtfinhaghgmnegaaGreatW.PrintWords Go.Proofs.YtfinhaghgmnegaaGreatW.PrintLast
open Go.Proofs.YtfinhaghgmnegaaGreat.Civ
set_option linter.unusedVariables false
set_option linter.unusedSimpArgs false
set_option maxRecDepth 100000
set_option maxHeartbeats 4000000
theorem down_on {w : World} {a b : Int} (h : -4611686018427387904 ≤ a) (h' : a ≤ 4611686018427387904) (hb : 0 < b) : Calls Tryz.prog 68 #[.int .i64 a, .int .i64 b] w (Rets w (.int .i64 (a / b))) := (filter_down.calls a b _ w (fdown h h' hb)).mono fun _ _ => rets_drawn
theorem least_on {w : World} : Calls Tryz.prog 61 #[] w (Rets w (.int .i64 (-62135596800))) := by
  obtain ⟨k, h⟩ := fleast.rounds
  exact filter_least.calls k _ w h
theorem most_on {w : World} : Calls Tryz.prog 62 #[] w (Rets w (.int .i64 253402300799)) := by
  obtain ⟨k, h⟩ := fmost.rounds
  exact filter_most.calls k _ w h
theorem period_on {w : World} {cs : Array Value} {r : RR} (R : Rul w cs r) (h : Lens r) {t : Int} (ht : InT t) : Calls Tryz.prog 60 #[.agg cs, .int .i64 t] w (Rets w (.int .i64 (perV r t))) := by
  obtain ⟨A12, k12, e12, q12, h12⟩ := R.c12
  have y := dt_year ht
  have hm := (dt_spec (n := t / 86400) (by omega) (by omega)).1.2.2
  unfold InT at ht
  have w0 := h.w0
  have w1 := h.w1
  have c1 : ∀ w, Calls Tryz.prog 36 #[.int .i64 t] w (Rets w (.tuple #[.int .i64 (t / 86400), .int .i64 (t % 86400)])) := fun _ => split_on (by omega) (by omega)
  have c2 : ∀ w, Calls Tryz.prog 57 #[.int .i64 (t / 86400)] w (Rets w (.tuple #[.agg #[.int .i64 (dt (t / 86400)).1, .int .i64 (dt (t / 86400)).2.1, .int .i64 (dt (t / 86400)).2.2], .int .i64 0])) := fun _ => date_on (by omega) (by omega)
  have c3 : ∀ w, Calls Tryz.prog 68 #[.int .i64 t, .int .i64 60] w (Rets w (.int .i64 (t / 60))) := fun _ => down_on (by omega) (by omega) (by omega)
  have c4 : ∀ w, Calls Tryz.prog 68 #[.int .i64 t, .int .i64 3600] w (Rets w (.int .i64 (t / 3600))) := fun _ => down_on (by omega) (by omega) (by omega)
  have c5 : ∀ w, Calls Tryz.prog 68 #[.int .i64 (wrap64 (wrap64 (t / 86400 + 4) - r.wk)), .int .i64 7] w (Rets w (.int .i64 ((t / 86400 + 4 - r.wk) / 7))) := fun _ => by
    rw [w64 (x := t / 86400 + 4) (by omega) (by omega), w64 (x := t / 86400 + 4 - r.wk) (by omega) (by omega)]
    exact down_on (by omega) (by omega) (by omega)
  have e6 : wrap64 (wrap64 (wrap64 (12 * (dt (t / 86400)).1) + (dt (t / 86400)).2.1) - 1) = 12 * (dt (t / 86400)).1 + (dt (t / 86400)).2.1 - 1 := by
    rw [w64 (x := 12 * (dt (t / 86400)).1) (by omega) (by omega), w64 (x := 12 * (dt (t / 86400)).1 + (dt (t / 86400)).2.1) (by omega) (by omega), w64 (by omega) (by omega)]
  clear y hm ht w0 w1
  unfold perV
  refine en_ Tryz.func60 rfl rfl rfl fun a K => sr_ (bx_ K (On.nil w) rfl rfl rfl rfl rfl rfl fun a g0 W M K => run_ 1 K rfl fun a K => nil_ (sr_ (run_ 1 K rfl fun a K => cl_ K Tryz.func36 (by kernel_rfl) rfl rfl rfl rfl rfl rfl ((c1 _).mono ?_))))
  rintro _ w1 ⟨rfl, b1⟩
  refine ⟨_, rfl, fun a K => run_ 5 K rfl fun a K => nil_ (sr_ (run_ 1 K rfl fun a K => cl_ K Tryz.func57 (by kernel_rfl) rfl rfl rfl rfl rfl rfl ((c2 _).mono ?_)))⟩
  rintro _ w2 ⟨rfl, b2⟩
  refine ⟨_, rfl, fun a K => run_ 3 K rfl fun a K => nw_ K ((M.call b1).call b2) rfl rfl rfl rfl rfl rfl rfl (fun _ => rfl) rfl rfl rfl fun a g1 W M K => run_ 1 K rfl fun a K => nil_ (wp_seq (sr_ (run_ 1 K rfl fun a K => ld_ K M 1 rfl rfl rfl rfl rfl rfl R.c0 rfl fun a K => nil_ (wp_block (sr_ (run_ 2 K rfl fun a K => nil_ ?_))))))⟩
  by_cases d1 : r.fr = 1
  · rw [if_pos d1]
    exact ct_ K rfl (decide_eq_true d1) (sr_ (run_ 2 K rfl fun a K => nil_ (ret_ rfl K rfl ⟨rfl, M.bl⟩)))
  rw [if_neg d1]
  refine cf_ K rfl (decide_eq_false d1) (sr_ (run_ 2 K rfl fun a K => nil_ ?_))
  by_cases d2 : r.fr = 2
  · rw [if_pos d2]
    refine ct_ K rfl (decide_eq_true d2) (sr_ (run_ 1 K rfl fun a K => cl_ K Tryz.func68 (by kernel_rfl) rfl rfl rfl rfl rfl rfl ((c3 _).mono ?_)))
    rintro _ w3 ⟨rfl, b3⟩
    exact ⟨_, rfl, fun a K => run_ 1 K rfl fun a K => nil_ (ret_ rfl K rfl ⟨rfl, (M.call b3).bl⟩)⟩
  rw [if_neg d2]
  refine cf_ K rfl (decide_eq_false d2) (sr_ (run_ 2 K rfl fun a K => nil_ ?_))
  by_cases d3 : r.fr = 3
  · rw [if_pos d3]
    refine ct_ K rfl (decide_eq_true d3) (sr_ (run_ 1 K rfl fun a K => cl_ K Tryz.func68 (by kernel_rfl) rfl rfl rfl rfl rfl rfl ((c4 _).mono ?_)))
    rintro _ w3 ⟨rfl, b3⟩
    exact ⟨_, rfl, fun a K => run_ 1 K rfl fun a K => nil_ (ret_ rfl K rfl ⟨rfl, (M.call b3).bl⟩)⟩
  rw [if_neg d3]
  refine cf_ K rfl (decide_eq_false d3) (sr_ (run_ 2 K rfl fun a K => nil_ ?_))
  by_cases d4 : r.fr = 4
  · rw [if_pos d4]
    exact ct_ K rfl (decide_eq_true d4) (sr_ (run_ 2 K rfl fun a K => nil_ (ret_ rfl K rfl ⟨rfl, M.bl⟩)))
  rw [if_neg d4]
  refine cf_ K rfl (decide_eq_false d4) (sr_ (run_ 2 K rfl fun a K => nil_ ?_))
  by_cases d5 : r.fr = 5
  · rw [if_pos d5]
    refine ct_ K rfl (decide_eq_true d5) (sr_ (run_ 3 K rfl fun a K => ld_ K M 1 rfl rfl rfl rfl rfl rfl R.c15 rfl fun a K => run_ 1 K rfl fun a K => cl_ K Tryz.func68 (by kernel_rfl) rfl rfl rfl rfl rfl rfl ((c5 _).mono ?_)))
    rintro _ w3 ⟨rfl, b3⟩
    exact ⟨_, rfl, fun a K => run_ 1 K rfl fun a K => nil_ (ret_ rfl K rfl ⟨rfl, (M.call b3).bl⟩)⟩
  rw [if_neg d5]
  refine cf_ K rfl (decide_eq_false d5) (sr_ (run_ 2 K rfl fun a K => nil_ ?_))
  by_cases d6 : r.fr = 6
  · rw [if_pos d6]
    exact ct_ K rfl (decide_eq_true d6) (sr_ (run_ 1 K rfl fun a K => ld_ K M 0 rfl rfl rfl rfl rfl rfl rfl rfl fun a K => run_ 2 K rfl fun a K => ld_ K M 0 rfl rfl rfl rfl rfl rfl rfl rfl fun a K => run_ 3 K rfl fun a K => nil_ (ret_ rfl K rfl ⟨by rw [e6], M.bl⟩)))
  rw [if_neg d6]
  refine cf_ K rfl (decide_eq_false d6) (sb_ (wp_seq (sr_ (run_ 1 K rfl fun a K => ld_ K M 1 rfl rfl rfl rfl rfl rfl e12 rfl fun a K => run_ 2 K rfl fun a K => nil_ ?_))))
  by_cases d7 : r.wn = []
  · rw [if_pos d7]
    exact cs_ K rfl ((pos_ _).trans (decide_eq_false (by rw [d7]; decide))) (sr_ (run_ 1 K rfl fun a K => ld_ K M 0 rfl rfl rfl rfl rfl rfl rfl rfl fun a K => run_ 1 K rfl fun a K => nil_ (ret_ rfl K rfl ⟨rfl, M.bl⟩)))
  rw [if_neg d7]
  refine ct_ K rfl ((pos_ _).trans (decide_eq_true (Nat.pos_of_ne_zero fun q => d7 ((nil_iff _).1 q)))) (sr_ (run_ 2 K rfl fun a K => ld_ K M 1 rfl rfl rfl rfl rfl rfl R.c15 rfl fun a K => cl_ K Tryz.func69 (by kernel_rfl) rfl rfl rfl rfl rfl rfl ((wno_on _ _).mono ?_)))
  rintro _ w3 ⟨rfl, b3⟩
  exact ⟨_, rfl, fun a K => run_ 7 K rfl fun a K => nil_ (sr_ (run_ 2 K rfl fun a K => nil_ (ret_ rfl K rfl ⟨rfl, (M.call b3).bl⟩)))⟩
theorem Period_on {w : World} {cs : Array Value} {r : RR} (R : Rul w cs r) (h : Right r) (t : Int) : Calls Tryz.prog 59 #[.agg cs, .int .i64 t] w (Rets w (if InT t then .tuple #[.int .i64 (perV r t), .int .i64 0] else .tuple #[.int .i64 0, .int .i64 23])) := by
  refine en_ Tryz.func59 rfl rfl rfl fun a K => sr_ (bx_ K (On.nil w) rfl rfl rfl rfl rfl rfl fun a g0 W M K => run_ 2 K rfl fun a K => nil_ (sr_ (lda_ K M 0 rfl rfl rfl rfl rfl rfl rfl R.sz fun a K => cl_ K Tryz.func9 (by kernel_rfl) rfl rfl rfl rfl rfl rfl ((check_on (R.below M.bl) h).mono ?_))))
  rintro _ w1 ⟨rfl, b1⟩
  replace M := M.call b1
  refine ⟨_, rfl, fun a K => run_ 1 K rfl fun a K => nil_ (bk_ (sr_ (run_ 3 K rfl fun a K => nil_ (cf_ K rfl rfl (sr_ (run_ 1 K rfl fun a K => cl_ K Tryz.func64 (by kernel_rfl) rfl rfl rfl rfl rfl rfl ((inT_on t).mono ?_)))))))⟩
  rintro _ w2 ⟨rfl, b2⟩
  replace M := M.call b2
  refine ⟨_, rfl, fun a K => ?_⟩
  by_cases c : InT t
  · rw [if_pos c]
    refine run_ 2 (fx_ K (decide_eq_true c)) rfl fun a K => nil_ (cf_ K rfl rfl (sb_ (sr_ (lda_ K M 0 rfl rfl rfl rfl rfl rfl rfl R.sz fun a K => run_ 1 K rfl fun a K => cl_ K Tryz.func60 (by kernel_rfl) rfl rfl rfl rfl rfl rfl ((period_on (R.below M.bl) h.lens c).mono ?_)))))
    rintro _ w3 ⟨rfl, b3⟩
    exact ⟨_, rfl, fun a K => run_ 2 K rfl fun a K => nil_ (ret2_ rfl K rfl rfl ⟨rfl, (M.call b3).bl⟩)⟩
  · rw [if_neg c]
    exact run_ 2 (fx_ K (decide_eq_false c)) rfl fun a K => nil_ (ct_ K rfl rfl (sr_ (run_ 2 K rfl fun a K => nil_ (ret2_ rfl K rfl rfl ⟨rfl, M.bl⟩))))
end Go.Proofs.YtfinhaghgmnegaaGreat.Pure
