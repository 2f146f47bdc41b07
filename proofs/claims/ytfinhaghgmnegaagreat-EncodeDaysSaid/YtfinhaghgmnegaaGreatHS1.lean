/- Whether a right rule lets a day, a time: the functions of layer 22 as contracts. No condition beyond those each lemma names. -/
import Derived.Test.YtfinhaghgmnegaaGreatMHS0
import Derived.Test.YtfinhaghgmnegaaGreatMOx3
namespace Go.Proofs.YtfinhaghgmnegaaGreat.Pure
open Go.RowKit Go.Proofs.YtfinhaghgmnegaaGreat.O Go.Proofs.YtfinhaghgmnegaaGreatW.PrintWords Go.Proofs.YtfinhaghgmnegaaGreatW.PrintLast
open Go.Proofs.YtfinhaghgmnegaaGreat.Civ
set_option linter.unusedVariables false
set_option linter.unusedSimpArgs false
set_option maxRecDepth 100000
set_option maxHeartbeats 4000000
theorem sum3 {a b c : Nat} (h1 : a ≤ 1000000000) (h2 : b ≤ 1000000000) (h3 : c ≤ 1000000000) : decide (0 < wrap64 (wrap64 ((a : Int) + b) + c)) = decide (0 < a + b + c) := by
  rw [w64 (x := (a : Int) + b) (by omega) (by omega), w64 (by omega) (by omega)]
  exact decide_eq_decide.2 (by omega)
theorem pos_ (a : Nat) : decide ((0 : Int) < (a : Int)) = decide (0 < a) := decide_eq_decide.2 (by omega)
theorem nil_len (a : Nat) : decide ((a : Int) = 0) = decide (a = 0) := decide_eq_decide.2 (by omega)
theorem nil_iff {α : Type} (l : List α) : l.length = 0 ↔ l = [] := List.length_eq_zero_iff
theorem like_on {w : World} {cs : Array Value} {r : RR} (R : Rul w cs r) (h : Lens r) (n first : Int) : Calls Tryz.prog 85 #[.agg cs, .agg #[.int .i64 (dt n).1, .int .i64 (dt n).2.1, .int .i64 (dt n).2.2], .agg #[.int .i64 (dt first).1, .int .i64 (dt first).2.1, .int .i64 (dt first).2.2], .int .i64 n, .int .i64 first] w (Rets w (.bool (likeV r n first))) := by
  obtain ⟨A9, k9, e9, _, _⟩ := R.c9
  obtain ⟨A10, k10, e10, _, _⟩ := R.c10
  obtain ⟨A11, k11, e11, _, _⟩ := R.c11
  obtain ⟨A12, k12, e12, _, _⟩ := R.c12
  obtain ⟨A13, k13, e13, _, _⟩ := R.c13
  have ew := sum3 h.yd h.md h.dy
  unfold likeV
  refine en_ Tryz.func85 rfl rfl rfl fun a K => sr_ (bx_ K (On.nil w) rfl rfl rfl rfl rfl rfl fun a g0 W M K => bx_ K M rfl rfl rfl rfl rfl rfl fun a g1 W M K => bx_ K M rfl rfl rfl rfl rfl rfl fun a g2 W M K => run_ 1 K rfl fun a K => nil_ ?_)
  refine wp_seq (sr_ (run_ 1 K rfl fun a K => ld_ K M 2 rfl rfl rfl rfl rfl rfl e11 rfl fun a K => run_ 2 K rfl fun a K => ld_ K M 2 rfl rfl rfl rfl rfl rfl e10 rfl fun a K => run_ 3 K rfl fun a K => ld_ K M 2 rfl rfl rfl rfl rfl rfl e9 rfl fun a K => run_ 3 K rfl fun a K => nil_ ?_))
  by_cases c0 : 0 < r.yd.length + r.md.length + r.dy.length
  · rw [if_pos c0]
    exact ct_ K rfl (ew.trans (decide_eq_true c0)) (sr_ (run_ 1 K rfl fun a K => nil_ (ret_ rfl K rfl ⟨rfl, M.bl⟩)))
  rw [if_neg c0]
  refine cs_ K rfl (ew.trans (decide_eq_false c0)) (wp_seq (sr_ (run_ 1 K rfl fun a K => ld_ K M 2 rfl rfl rfl rfl rfl rfl e12 rfl fun a K => run_ 2 K rfl fun a K => ?_)))
  by_cases c1 : 0 < r.wn.length ∨ r.fr = 5
  · rw [if_pos c1]
    by_cases c2 : 0 < r.wn.length
    case' pos => refine run_ 5 (fx_ K ((pos_ _).trans (decide_eq_true c2))) rfl fun a K => nil_ (ct_ K rfl rfl ?_)
    case' neg => refine run_ 2 (fx_ K ((pos_ _).trans (decide_eq_false c2))) rfl fun a K => ld_ K M 2 rfl rfl rfl rfl rfl rfl R.c0 rfl fun a K => run_ 2 K rfl fun a K => nil_ (ct_ K rfl (decide_eq_true (c1.resolve_left c2)) ?_)
    all_goals
      refine sr_ (run_ 1 K rfl fun a K => cl_ K Tryz.func39 (by kernel_rfl) rfl rfl rfl rfl rfl rfl ((wday_on n).mono ?_))
      rintro _ w1 ⟨rfl, b1⟩
      refine ⟨_, rfl, fun a K => run_ 1 K rfl fun a K => cl_ K Tryz.func39 (by kernel_rfl) rfl rfl rfl rfl rfl rfl ((wday_on first).mono ?_)⟩
      rintro _ w2 ⟨rfl, b2⟩
      exact ⟨_, rfl, fun a K => run_ 2 K rfl fun a K => nil_ (ret_ rfl K rfl ⟨rfl, ((M.call b1).call b2).bl⟩)⟩
  rw [if_neg c1]
  rw [not_or] at c1
  refine run_ 2 (fx_ K ((pos_ _).trans (decide_eq_false c1.1))) rfl fun a K => ld_ K M 2 rfl rfl rfl rfl rfl rfl R.c0 rfl fun a K => run_ 2 K rfl fun a K => nil_ (cs_ K rfl (decide_eq_false c1.2) (wp_seq (sr_ (run_ 1 K rfl fun a K => ld_ K M 2 rfl rfl rfl rfl rfl rfl R.c0 rfl fun a K => run_ 1 K rfl fun a K => nil_ ?_))))
  by_cases c3 : r.fr < 5
  · rw [if_pos c3]
    exact ct_ K rfl (decide_eq_true c3) (sr_ (run_ 1 K rfl fun a K => nil_ (ret_ rfl K rfl ⟨rfl, M.bl⟩)))
  rw [if_neg c3]
  refine cs_ K rfl (decide_eq_false c3) (wp_seq (sr_ (run_ 1 K rfl fun a K => ld_ K M 2 rfl rfl rfl rfl rfl rfl R.c0 rfl fun a K => run_ 1 K rfl fun a K => ?_)))
  by_cases c4 : r.fr = 7
  case' neg => refine run_ 13 (fx_ K (decide_eq_false c4)) rfl fun a K => nil_ (cs_ K rfl rfl ?_)
  case' pos =>
    refine run_ 2 (fx_ K (decide_eq_true c4)) rfl fun a K => ld_ K M 2 rfl rfl rfl rfl rfl rfl e13 rfl fun a K => run_ 2 K rfl fun a K => ?_
    by_cases c5 : r.mo = []
    case' neg => refine run_ 8 (fx_ K ((nil_len _).trans (decide_eq_false fun q => c5 ((nil_iff _).1 q)))) rfl fun a K => nil_ (cs_ K rfl rfl ?_)
    case' pos =>
      refine run_ 3 (fx_ K ((nil_len _).trans (decide_eq_true ((nil_iff _).2 c5)))) rfl fun a K => ld_ K M 1 rfl rfl rfl rfl rfl rfl rfl rfl fun a K => run_ 1 K rfl fun a K => ld_ K M 0 rfl rfl rfl rfl rfl rfl rfl rfl fun a K => run_ 2 K rfl fun a K => nil_ ?_
      by_cases c6 : (dt n).2.1 = (dt first).2.1
      case neg =>
        rw [if_pos ⟨c4, c5, c6⟩]
        exact ct_ K rfl (by rw [decide_eq_false c6]; rfl) (sr_ (run_ 1 K rfl fun a K => nil_ (ret_ rfl K rfl ⟨rfl, M.bl⟩)))
      case' pos => refine cs_ K rfl (by rw [decide_eq_true c6]; rfl) ?_
  all_goals
    rw [if_neg (by first | exact fun q => c4 q.1 | exact fun q => c5 q.2.1 | exact fun q => q.2.2 c6)]
    exact sr_ (run_ 1 K rfl fun a K => ld_ K M 1 rfl rfl rfl rfl rfl rfl rfl rfl fun a K => run_ 1 K rfl fun a K => ld_ K M 0 rfl rfl rfl rfl rfl rfl rfl rfl fun a K => run_ 2 K rfl fun a K => nil_ (ret_ rfl K rfl ⟨rfl, M.bl⟩))
theorem weekNo_on {w : World} {cs : Array Value} {r : RR} (R : Rul w cs r) (h : Lens r) {n : Int} (hn : -719162 ≤ n) (hn' : n ≤ 2932896) : Calls Tryz.prog 81 #[.agg cs, .int .i64 n] w (Rets w (.bool (weekNoV r n))) := by
  obtain ⟨A12, k12, e12, q12, h12⟩ := R.c12
  have hv := noV_in hn hn' h.w0 h.w1
  have hm := yr_mid (k := r.wk) hn hn'
  have hy : wy r n = yr (mid n r.wk) := by unfold wy; rw [hv]
  have e1 : (noV n r.wk).1 = wy r n := rfl
  have b1 := fw_bd (wy r n) r.wk
  have b2 := fw_bd (wy r n + 1) r.wk
  have a1 := ah_succ (wy r n)
  have l1 := lpi_01 (wy r n)
  have a2 := ah_bd (y := wy r n) (by rw [hy]; exact hm.1) (by rw [hy]; omega)
  have f7 := fw_7 (wy r n) (wy r n + 1) r.wk
  have m1 := mid_fw hm.2.2.1 hm.2.2.2
  rw [← hy] at m1
  have e2 : (noV n r.wk).2.1 = (n - fw (wy r n) r.wk) / 7 + 1 := by rw [hv, hy]
  have f1 : wrap64 (Int.tdiv (wrap64 (wrap64 (fw (wy r n + 1) r.wk - 1 - fw (wy r n) r.wk) + 1)) 7) = (fw (wy r n + 1) r.wk - fw (wy r n) r.wk) / 7 := by
    rw [w64 (x := fw (wy r n + 1) r.wk - 1 - fw (wy r n) r.wk) (by omega) (by omega), w64 (x := fw (wy r n + 1) r.wk - 1 - fw (wy r n) r.wk + 1) (by omega) (by omega), tdiv_nn 7 (by omega), w64 (by omega) (by omega)]
    congr 1
    omega
  have c1 : -1000000 ≤ (noV n r.wk).2.1 ∧ (noV n r.wk).2.1 ≤ 1000000 ∧ -1000000 ≤ (fw (wy r n + 1) r.wk - fw (wy r n) r.wk) / 7 ∧ (fw (wy r n + 1) r.wk - fw (wy r n) r.wk) / 7 ≤ 1000000 := by rw [e2]; omega
  have hwk : ∀ w, Calls Tryz.prog 71 #[.int .i64 (noV n r.wk).1, .int .i64 r.wk] w (Rets w (.tuple #[.int .i64 (fw (wy r n) r.wk), .int .i64 (fw (wy r n + 1) r.wk - 1)])) := fun w => by rw [e1]; exact weeks_on (by rw [hy]; exact hm.1) (by rw [hy]; exact hm.2.1) h.w0 h.w1
  have hei : ∀ W, Below w.heap.size w W → Calls Tryz.prog 82 #[.slice A12 r.wn.length k12, .int .i64 (noV n r.wk).2.1, .int .i64 (wrap64 (Int.tdiv (wrap64 (wrap64 (fw (wy r n + 1) r.wk - 1 - fw (wy r n) r.wk) + 1)) 7))] W (Rets W (.bool (eitherV r.wn (noV n r.wk).2.1 ((fw (wy r n + 1) r.wk - fw (wy r n) r.wk) / 7)))) := fun W hW => by
    rw [f1]
    exact either_on (Kd.C_below h12 hW) q12 h.wn c1.1 c1.2.1 c1.2.2.1 c1.2.2.2
  clear hv hm hy b1 b2 a1 l1 a2 f7 m1 e2 e1 c1 f1
  unfold weekNoV
  refine en_ Tryz.func81 rfl rfl rfl fun a K => sr_ (bx_ K (On.nil w) rfl rfl rfl rfl rfl rfl fun a g0 W M K => run_ 1 K rfl fun a K => nil_ (wp_seq (sr_ ?_)))
  refine run_ 1 K rfl fun a K => ld_ K M 0 rfl rfl rfl rfl rfl rfl e12 rfl fun a K => run_ 2 K rfl fun a K => nil_ ?_
  by_cases c : r.wn = []
  · rw [if_pos c]
    exact ct_ K rfl ((nil_len _).trans (decide_eq_true ((nil_iff _).2 c))) (sr_ (run_ 1 K rfl fun a K => nil_ (ret_ rfl K rfl ⟨rfl, M.bl⟩)))
  rw [if_neg c]
  refine cs_ K rfl ((nil_len _).trans (decide_eq_false fun q => c ((nil_iff _).1 q))) (sr_ (run_ 2 K rfl fun a K => ld_ K M 0 rfl rfl rfl rfl rfl rfl R.c15 rfl fun a K => cl_ K Tryz.func69 (by kernel_rfl) rfl rfl rfl rfl rfl rfl ((wno_on n r.wk).mono ?_)))
  rintro _ w1 ⟨rfl, b1⟩
  refine ⟨_, rfl, fun a K => run_ 7 K rfl fun a K => nil_ (sr_ (run_ 2 K rfl fun a K => ld_ K (M.call b1) 0 rfl rfl rfl rfl rfl rfl R.c15 rfl fun a K => cl_ K Tryz.func71 (by kernel_rfl) rfl rfl rfl rfl rfl rfl ((hwk _).mono ?_)))⟩
  rintro _ w2 ⟨rfl, b2⟩
  have M := (M.call b1).call b2
  refine ⟨_, rfl, fun a K => run_ 5 K rfl fun a K => nil_ (sr_ (run_ 1 K rfl fun a K => ld_ K M 0 rfl rfl rfl rfl rfl rfl e12 rfl fun a K => run_ 6 K rfl fun a K => cl_ K Tryz.func82 (by kernel_rfl) rfl rfl rfl rfl rfl rfl ((hei _ M.bl).mono ?_)))⟩
  rintro _ w3 ⟨rfl, b3⟩
  exact ⟨_, rfl, fun a K => run_ 1 K rfl fun a K => nil_ (ret_ rfl K rfl ⟨rfl, (M.call b3).bl⟩)⟩
theorem numbered_on {w : World} {cs : Array Value} {r : RR} (R : Rul w cs r) {n : Int} (hn : -719162 ≤ n) (hn' : n ≤ 2932896) (x : S44) : Calls Tryz.prog 84 #[.agg cs, .agg #[.int .i64 (dt n).1, .int .i64 (dt n).2.1, .int .i64 (dt n).2.2], .int .i64 n, .agg #[.int .i64 x.f0, .int .i64 x.f1]] w (Rets w (.bool (numberedV r n x))) := by
  obtain ⟨A13, k13, e13, _, _⟩ := R.c13
  have hR := (dt_spec (n := n) (by omega) (by omega)).1
  have b1 := num_bd (rt_first hR.1 hR.2.1)
  have b2 := num_bd (rt_31 hR.1 hR.2.1)
  have b3 := num_bd (rt_m1 hR)
  have b4 := ln_bd (dt n).1 (dt n).2.1 hR.2.2.1 hR.2.2.2.1
  have c1 : ∀ w, Calls Tryz.prog 70 #[.int .i64 (dt n).1, .int .i64 1, .int .i64 1] w (Rets w (.int .i64 (num (dt n).1 1 1))) := fun _ => num_on (rt_first hR.1 hR.2.1)
  have c2 : ∀ w, Calls Tryz.prog 70 #[.int .i64 (dt n).1, .int .i64 12, .int .i64 31] w (Rets w (.int .i64 (num (dt n).1 12 31))) := fun _ => num_on (rt_31 hR.1 hR.2.1)
  have c3 : ∀ w, Calls Tryz.prog 70 #[.int .i64 (dt n).1, .int .i64 (dt n).2.1, .int .i64 1] w (Rets w (.int .i64 (num (dt n).1 (dt n).2.1 1))) := fun _ => num_on (rt_m1 hR)
  have c4 : ∀ w, Calls Tryz.prog 89 #[.int .i64 (num (dt n).1 (dt n).2.1 1), .int .i64 (wrap64 (wrap64 (num (dt n).1 (dt n).2.1 1 + ln (dt n).1 (dt n).2.1) - 1)), .int .i64 x.f0, .int .i64 x.f1] w (Rets w (.tuple #[.int .i64 (nthV (num (dt n).1 (dt n).2.1 1) (num (dt n).1 (dt n).2.1 1 + ln (dt n).1 (dt n).2.1 - 1) x.f0 x.f1).1, .bool (nthV (num (dt n).1 (dt n).2.1 1) (num (dt n).1 (dt n).2.1 1 + ln (dt n).1 (dt n).2.1 - 1) x.f0 x.f1).2])) := fun _ => by
    rw [w64 (x := num (dt n).1 (dt n).2.1 1 + ln (dt n).1 (dt n).2.1) (by omega) (by omega), w64 (by omega) (by omega)]
    exact nth_on (by omega) (by omega) (by omega) (by omega)
  have c5 : ∀ w, Calls Tryz.prog 89 #[.int .i64 (num (dt n).1 1 1), .int .i64 (num (dt n).1 12 31), .int .i64 x.f0, .int .i64 x.f1] w (Rets w (.tuple #[.int .i64 (nthV (num (dt n).1 1 1) (num (dt n).1 12 31) x.f0 x.f1).1, .bool (nthV (num (dt n).1 1 1) (num (dt n).1 12 31) x.f0 x.f1).2])) := fun _ => nth_on (by omega) (by omega) (by omega) (by omega)
  clear b1 b2 b3 b4 hR hn hn'
  unfold numberedV
  refine en_ Tryz.func84 rfl rfl rfl fun a K => sr_ (bx_ K (On.nil w) rfl rfl rfl rfl rfl rfl fun a g0 W M K => bx_ K M rfl rfl rfl rfl rfl rfl fun a g1 W M K => bx_ K M rfl rfl rfl rfl rfl rfl fun a g2 W M K => run_ 1 K rfl fun a K => nil_ ?_)
  refine wp_seq (dseq_ (by kernel_rfl) rfl rfl M.drew (dp_ 5 3 [0, 2] K rfl rfl (by kernel_rfl) fun a K => dld_ 7 1 K M.drew 0 rfl rfl rfl rfl rfl rfl rfl rfl rfl (by kernel_rfl) fun a K => dc_ 15 3 K Tryz.func39 (by kernel_rfl) rfl rfl rfl rfl rfl rfl rfl (by kernel_rfl) ((wday_on n).mono ?_)))
  rintro _ w1 ⟨rfl, b1⟩
  replace M := M.drew.call b1
  refine ⟨_, rfl, M, fun a K => dp_ 31 0 [4] K rfl rfl (by kernel_rfl) fun a K => dend_ (by kernel_rfl) ?_⟩
  by_cases d1 : x.f1 = wd n
  case neg =>
    rw [decide_eq_false d1]
    exact ct_ K rfl (by rw [decide_eq_false d1]; rfl) (sr_ (run_ 1 K rfl fun a K => nil_ (ret_ rfl K rfl ⟨rfl, M.bl⟩)))
  rw [decide_eq_true d1]
  refine cs_ K rfl (by rw [decide_eq_true d1]; rfl) (wp_seq (sr_ (run_ 1 K rfl fun a K => ld_ K M 0 rfl rfl rfl rfl rfl rfl rfl rfl fun a K => run_ 1 K rfl fun a K => nil_ ?_)))
  by_cases d2 : x.f0 = 0
  · rw [decide_eq_true d2]
    exact ct_ K rfl (decide_eq_true d2) (sr_ (run_ 1 K rfl fun a K => nil_ (ret_ rfl K rfl ⟨rfl, M.bl⟩)))
  rw [decide_eq_false d2]
  refine cs_ K rfl (decide_eq_false d2) (dseq_ (by kernel_rfl) rfl rfl M.drew (dp_ 9 6 [0, 3] K rfl rfl (by kernel_rfl) fun a K => dld_ 11 1 K M.drew 1 rfl rfl rfl rfl rfl rfl rfl rfl rfl (by kernel_rfl) fun a K => dld_ 27 4 K M.drew 1 rfl rfl rfl rfl rfl rfl rfl rfl rfl (by kernel_rfl) fun a K => dc_ 31 2 K Tryz.func70 (by kernel_rfl) rfl rfl rfl rfl rfl rfl rfl (by kernel_rfl) ((c1 _).mono ?_)))
  rintro _ w2 ⟨rfl, b2⟩
  replace M := M.drew.call b2
  refine ⟨_, rfl, M, fun a K => dc_ 63 5 K Tryz.func70 (by kernel_rfl) rfl rfl rfl rfl rfl rfl rfl (by kernel_rfl) ((c2 _).mono ?_)⟩
  rintro _ w3 ⟨rfl, b3⟩
  replace M := M.call b3
  refine ⟨_, rfl, M, fun a K => dp_ 255 0 [6, 7] K rfl rfl (by kernel_rfl) fun a K => dend_ (by kernel_rfl) ?_⟩
  refine wp_seq (sr_ (run_ 1 K rfl fun a K => ld_ K M 2 rfl rfl rfl rfl rfl rfl R.c0 rfl fun a K => run_ 1 K rfl fun a K => ?_))
  have tail : ∀ p : Int × Bool, p.2 = false → (p.2 && (p.1 == n)) = false := fun p hp => by rw [hp]; rfl
  by_cases c : r.fr = 6 ∨ r.mo ≠ []
  · rw [show fromV r n = num (dt n).1 (dt n).2.1 1 by unfold fromV; rw [if_pos c], show toV r n = num (dt n).1 (dt n).2.1 1 + ln (dt n).1 (dt n).2.1 - 1 by unfold toV; rw [if_pos c]]
    by_cases d3 : r.fr = 6
    case' pos => refine run_ 6 (fx_ K (decide_eq_true d3)) rfl fun a K => nil_ (ct_ K rfl rfl ?_)
    case' neg => refine run_ 2 (fx_ K (decide_eq_false d3)) rfl fun a K => ld_ K M 2 rfl rfl rfl rfl rfl rfl e13 rfl fun a K => run_ 3 K rfl fun a K => nil_ (ct_ K rfl ((pos_ _).trans (decide_eq_true (Nat.pos_of_ne_zero fun q => c.resolve_left d3 ((nil_iff _).1 q)))) ?_)
    all_goals
      refine sr_ (run_ 1 K rfl fun a K => ld_ K M 1 rfl rfl rfl rfl rfl rfl rfl rfl fun a K => run_ 1 K rfl fun a K => ld_ K M 1 rfl rfl rfl rfl rfl rfl rfl rfl fun a K => cl_ K Tryz.func70 (by kernel_rfl) rfl rfl rfl rfl rfl rfl ((c3 _).mono ?_))
      rintro _ w4 ⟨rfl, b4⟩
      refine ⟨_, rfl, fun a K => run_ 1 K rfl fun a K => nil_ (wp_region_lit (run_ 2 K rfl fun a K => ld_ K (M.call b4) 1 rfl rfl rfl rfl rfl rfl rfl rfl fun a K => run_ 1 K rfl fun a K => ld_ K (M.call b4) 1 rfl rfl rfl rfl rfl rfl rfl rfl fun a K => cl_ K Tryz.func13 (by kernel_rfl) rfl rfl rfl rfl rfl rfl ((len_on _ _).mono ?_)))⟩
      rintro _ w5 ⟨rfl, b5⟩
      have M := (M.call b4).call b5
      refine ⟨_, rfl, fun a K => run_ 3 K rfl fun a K => nil_ (sr_ (run_ 3 K rfl fun a K => ld_ K M 0 rfl rfl rfl rfl rfl rfl rfl rfl fun a K => run_ 1 K rfl fun a K => ld_ K M 0 rfl rfl rfl rfl rfl rfl rfl rfl fun a K => cl_ K Tryz.func89 (by kernel_rfl) rfl rfl rfl rfl rfl rfl ((c4 _).mono ?_)))⟩
      rintro _ w6 ⟨rfl, b6⟩
      refine ⟨_, rfl, fun a K => run_ 5 K rfl fun a K => nil_ (sr_ ?_)⟩
      cases hp : (nthV (num (dt n).1 (dt n).2.1 1) (num (dt n).1 (dt n).2.1 1 + ln (dt n).1 (dt n).2.1 - 1) x.f0 x.f1).2 with
      | false => exact run_ 7 (fx_ K hp) rfl fun a K => nil_ (ret_ rfl K rfl ⟨rfl, (M.call b6).bl⟩)
      | true => exact run_ 7 (fx_ K hp) rfl fun a K => nil_ (ret_ rfl K rfl ⟨rfl, (M.call b6).bl⟩)
  · rw [show fromV r n = num (dt n).1 1 1 by unfold fromV; rw [if_neg c], show toV r n = num (dt n).1 12 31 by unfold toV; rw [if_neg c]]
    rw [not_or] at c
    refine run_ 2 (fx_ K (decide_eq_false c.1)) rfl fun a K => ld_ K M 2 rfl rfl rfl rfl rfl rfl e13 rfl fun a K => run_ 3 K rfl fun a K => nil_ (cs_ K rfl ((pos_ _).trans (decide_eq_false fun q => c.2 fun q2 => by rw [q2] at q; exact absurd q (by decide))) (sr_ (run_ 3 K rfl fun a K => ld_ K M 0 rfl rfl rfl rfl rfl rfl rfl rfl fun a K => run_ 1 K rfl fun a K => ld_ K M 0 rfl rfl rfl rfl rfl rfl rfl rfl fun a K => cl_ K Tryz.func89 (by kernel_rfl) rfl rfl rfl rfl rfl rfl ((c5 _).mono ?_))))
    rintro _ w6 ⟨rfl, b6⟩
    refine ⟨_, rfl, fun a K => run_ 5 K rfl fun a K => nil_ (sr_ ?_)⟩
    cases hp : (nthV (num (dt n).1 1 1) (num (dt n).1 12 31) x.f0 x.f1).2 with
    | false => exact run_ 7 (fx_ K hp) rfl fun a K => nil_ (ret_ rfl K rfl ⟨rfl, (M.call b6).bl⟩)
    | true => exact run_ 7 (fx_ K hp) rfl fun a K => nil_ (ret_ rfl K rfl ⟨rfl, (M.call b6).bl⟩)
/-- Day's function value, at one weekday. -/
theorem day1_on {w w0 : World} {cs : Array Value} {r : RR} (R : Rul w cs r) {n : Int} (hn : -719162 ≤ n) (hn' : n ≤ 2932896) (x : S44) {L : List (Nat × Obj)} (M : On L w0 w) {k0 k1 k2 g0 g1 g2 : Nat} (h0 : L[k0]? = some (g0, .cells cs 29 (0, 0))) (h1 : L[k1]? = some (g1, .cells #[.int .i64 (dt n).1, .int .i64 (dt n).2.1, .int .i64 (dt n).2.2] 53 (0, 0))) (h2 : L[k2]? = some (g2, .cells #[.int .i64 n] 3 (0, 0))) :
    Calls Tryz.prog 83 #[.agg #[.int .i64 x.f0, .int .i64 x.f1], .pointer (some ⟨g0, 0, none⟩), .pointer (some ⟨g1, 0, none⟩), .pointer (some ⟨g2, 0, none⟩)] w (Rets w (.bool (numberedV r n x))) := by
  refine en_ Tryz.func83 rfl rfl rfl fun a K => sr_ (bx_ K M.here rfl rfl rfl rfl rfl rfl fun a g W M K => run_ 1 K rfl fun a K => nil_ (sr_ ?_))
  refine lda_ K M (k0 + 1) h0 rfl rfl rfl rfl rfl rfl R.sz fun a K => lda_ K M (k1 + 1) h1 rfl rfl rfl rfl rfl rfl rfl fun a K => ld_ K M (k2 + 1) h2 rfl rfl rfl rfl rfl rfl rfl fun a K => lda_ K M 0 rfl rfl rfl rfl rfl rfl rfl rfl fun a K => cl_ K Tryz.func84 (by kernel_rfl) rfl rfl rfl rfl rfl rfl ((numbered_on (R.below M.bl) hn hn' x).mono ?_)
  rintro _ w1 ⟨rfl, b1⟩
  exact ⟨_, rfl, fun a K => run_ 1 K rfl fun a K => nil_ (ret_ rfl K rfl ⟨rfl, (M.call b1).bl⟩)⟩
theorem ent74 : ∀ args w, (callFunc 83 args).run Tryz.prog w = .ok (.enter 83 args) w := enters_of Tryz.func83 (by kernel_rfl) rfl
theorem any_on {w w0 : World} {cs : Array Value} {r : RR} (R : Rul w cs r) {n : Int} (hn : -719162 ≤ n) (hn' : n ≤ 2932896) {L : List (Nat × Obj)} (M : On L w0 w) (k0 k1 k2 : Nat) {g0 g1 g2 c : Nat} {A : Option Addr} {l : List S44} (h0 : L[k0]? = some (g0, .cells cs 29 (0, 0))) (h1 : L[k1]? = some (g1, .cells #[.int .i64 (dt n).1, .int .i64 (dt n).2.1, .int .i64 (dt n).2.2] 53 (0, 0))) (h2 : L[k2]? = some (g2, .cells #[.int .i64 n] 3 (0, 0))) (hk : Kd.C k44 w A l.length l) (hl : l.length ≤ 1000000000) :
    Calls Tryz.prog 46 #[.slice A l.length c, .func (.func 83) #[] #[.pointer (some ⟨g0, 0, none⟩), .pointer (some ⟨g1, 0, none⟩), .pointer (some ⟨g2, 0, none⟩)]] w (Rets w (.bool (l.any (numberedV r n)))) :=
  conf_by (numberedV r n) 83 _ ent74 A c l w hk hl (fun W hW x _ => day1_on (R.below hW) hn hn' x (M.call hW) h0 h1 h2)
theorem day_on {w : World} {cs : Array Value} {r : RR} (R : Rul w cs r) (h : Lens r) {first n : Int} (hf : -719162 ≤ first) (hf' : first ≤ 2932896) (hn : -719162 ≤ n) (hn' : n ≤ 2932896) : Calls Tryz.prog 74 #[.agg cs, .int .i64 first, .int .i64 n] w (Rets w (.bool (dayV r first n))) := by
  obtain ⟨A9, k9, e9, q9, h9⟩ := R.c9
  obtain ⟨A10, k10, e10, q10, h10⟩ := R.c10
  obtain ⟨A11, k11, e11, q11, h11⟩ := R.c11
  obtain ⟨A13, k13, e13, q13, h13⟩ := R.c13
  have hR := (dt_spec (n := n) (by omega) (by omega)).1
  have hl := ln_bd (dt n).1 (dt n).2.1 hR.2.2.1 hR.2.2.2.1
  have hyd : 1 ≤ yd n ∧ yd n ≤ 366 := by
    have b := yr_bd (n := n) (by omega) (by omega)
    have a := ah_succ (yr n)
    have l := lpi_01 (yr n)
    unfold yd
    omega
  have hdd := hR.2.2.2.2
  have e1 : num (dt n).1 12 31 - num (dt n).1 1 1 + 1 = 365 + lpi (dt n).1 := by
    rw [num_1]
    unfold num
    have : cum (dt n).1 12 = 334 + lpi (dt n).1 := by simp [cum]
    omega
  have b1 := num_bd (rt_first hR.1 hR.2.1)
  have b2 := num_bd (rt_31 hR.1 hR.2.1)
  have l01 := lpi_01 (dt n).1
  have e2 : wrap64 (wrap64 (num (dt n).1 12 31 - num (dt n).1 1 1) + 1) = 365 + lpi (dt n).1 := by
    rw [w64 (x := num (dt n).1 12 31 - num (dt n).1 1 1) (by omega) (by omega), w64 (by omega) (by omega)]
    exact e1
  have p1 : -719528 ≤ n ∧ n ≤ 2933262 ∧ -719528 ≤ first ∧ first ≤ 2933262 := by omega
  have c1 : ∀ w, Calls Tryz.prog 70 #[.int .i64 (dt n).1, .int .i64 1, .int .i64 1] w (Rets w (.int .i64 (num (dt n).1 1 1))) := fun _ => num_on (rt_first hR.1 hR.2.1)
  have c2 : ∀ w, Calls Tryz.prog 70 #[.int .i64 (dt n).1, .int .i64 12, .int .i64 31] w (Rets w (.int .i64 (num (dt n).1 12 31))) := fun _ => num_on (rt_31 hR.1 hR.2.1)
  have c3 : ∀ W, Below w.heap.size w W → Calls Tryz.prog 82 #[.slice A11 r.yd.length k11, .int .i64 (yd n), .int .i64 (wrap64 (wrap64 (num (dt n).1 12 31 - num (dt n).1 1 1) + 1))] W (Rets W (.bool (eitherV r.yd (yd n) (365 + lpi (dt n).1)))) := fun W hW => by
    rw [e2]
    exact either_on (Kd.C_below h11 hW) q11 h.yd (by omega) (by omega) (by omega) (by omega)
  have c4 : ∀ W, Below w.heap.size w W → Calls Tryz.prog 82 #[.slice A10 r.md.length k10, .int .i64 (dt n).2.2, .int .i64 (ln (dt n).1 (dt n).2.1)] W (Rets W (.bool (eitherV r.md (dt n).2.2 (ln (dt n).1 (dt n).2.1)))) := fun W hW => either_on (Kd.C_below h10 hW) q10 h.md (by omega) (by omega) (by omega) (by omega)
  clear hR hl hyd hdd e1 b1 b2 l01 e2
  unfold dayV
  refine en_ Tryz.func74 rfl rfl rfl fun a K => sr_ (bx_ K (On.nil w) rfl rfl rfl rfl rfl rfl fun a g0 W M K => bxi_ K M rfl rfl rfl rfl rfl rfl fun a g1 W M K => run_ 1 K rfl fun a K => nil_ (sr_ ?_))
  refine ld_ K M 0 rfl rfl rfl rfl rfl rfl rfl rfl fun a K => cl_ K Tryz.func57 (by kernel_rfl) rfl rfl rfl rfl rfl rfl ((date_on p1.1 p1.2.1).mono ?_)
  rintro _ w1 ⟨rfl, b1⟩
  refine ⟨_, rfl, fun a K => run_ 3 K rfl fun a K => nw_ K (M.call b1) rfl rfl rfl rfl rfl rfl rfl (fun _ => rfl) rfl rfl rfl fun a g2 W M K => run_ 1 K rfl fun a K => nil_ (sr_ (run_ 1 K rfl fun a K => cl_ K Tryz.func57 (by kernel_rfl) rfl rfl rfl rfl rfl rfl ((date_on p1.2.2.1 p1.2.2.2).mono ?_)))⟩
  rintro _ w2 ⟨rfl, b2⟩
  refine ⟨_, rfl, fun a K => run_ 3 K rfl fun a K => nw_ K (M.call b2) rfl rfl rfl rfl rfl rfl rfl (fun _ => rfl) rfl rfl rfl fun a g3 W M K => run_ 1 K rfl fun a K => nil_ (wp_seq (sr_ (run_ 1 K rfl fun a K => ld_ K M 3 rfl rfl rfl rfl rfl rfl e13 rfl fun a K => run_ 1 K rfl fun a K => ld_ K M 1 rfl rfl rfl rfl rfl rfl rfl rfl fun a K => cl_ K Tryz.func80 (by kernel_rfl) rfl rfl rfl rfl rfl rfl ((one_on _ _ _ (Kd.C_below h13 M.bl) q13 h.mo).mono ?_))))⟩
  rintro _ w3 ⟨rfl, b3⟩
  replace M := M.call b3
  refine ⟨_, rfl, fun a K => ?_⟩
  cases v1 : oneV r.mo (dt n).2.1 0 false with
  | false => exact run_ 1 (fx_ K v1) rfl fun a K => nil_ (ct_ K rfl rfl (sr_ (run_ 1 K rfl fun a K => nil_ (ret_ rfl K rfl ⟨rfl, M.bl⟩))))
  | true =>
  refine run_ 1 (fx_ K v1) rfl fun a K => nil_ (cs_ K rfl rfl (sr_ (ld_ K M 2 rfl rfl rfl rfl rfl rfl rfl rfl fun a K => cl_ K Tryz.func76 (by kernel_rfl) rfl rfl rfl rfl rfl rfl ((yday_on p1.1 p1.2.1).mono ?_))))
  rintro _ w4 ⟨rfl, b4⟩
  replace M := M.call b4
  refine ⟨_, rfl, fun a K => run_ 5 K rfl fun a K => nil_ (dseq_ (by kernel_rfl) rfl rfl M.drew (dp_ 9 7 [0, 3] K rfl rfl (by kernel_rfl) fun a K => dld_ 11 1 K M.drew 1 rfl rfl rfl rfl rfl rfl rfl rfl rfl (by kernel_rfl) fun a K => dld_ 27 4 K M.drew 1 rfl rfl rfl rfl rfl rfl rfl rfl rfl (by kernel_rfl) fun a K => dc_ 31 2 K Tryz.func70 (by kernel_rfl) rfl rfl rfl rfl rfl rfl rfl (by kernel_rfl) ((c2 _).mono ?_)))⟩
  rintro _ w5 ⟨rfl, b5⟩
  replace M := M.drew.call b5
  refine ⟨_, rfl, M, fun a K => dc_ 63 5 K Tryz.func70 (by kernel_rfl) rfl rfl rfl rfl rfl rfl rfl (by kernel_rfl) ((c1 _).mono ?_)⟩
  rintro _ w6 ⟨rfl, b6⟩
  replace M := M.call b6
  refine ⟨_, rfl, M, fun a K => dp_ 511 0 [6, 7, 8] K rfl rfl (by kernel_rfl) fun a K => dend_ (by kernel_rfl) ?_⟩
  have hlike := fun W (hW : Below w.heap.size w W) => like_on (R.below hW) h n first
  -- region 7: a chain of three
  refine wp_seq (dseq_ (by kernel_rfl) rfl rfl M.drew (dlda_ 1 0 K M.drew 3 rfl rfl rfl rfl rfl rfl rfl rfl R.sz (by kernel_rfl) fun a K => dld_ 3 1 K M.drew 2 rfl rfl rfl rfl rfl rfl rfl rfl rfl (by kernel_rfl) fun a K => dc_ 7 2 K Tryz.func81 (by kernel_rfl) rfl rfl rfl rfl rfl rfl rfl (by kernel_rfl) ((weekNo_on (R.below M.drew.bl) h hn hn').mono ?_)))
  rintro _ w7 ⟨rfl, b7⟩
  replace M := M.drew.call b7
  refine ⟨_, rfl, M, fun a K => ?_⟩
  cases v2 : weekNoV r n with
  | false => exact dp_ 33554431 0 [3, 4, 5, 6, 7, 8, 9, 10, 11, 12, 13, 14, 15, 16, 17, 18, 19, 20, 21, 22, 23, 24] (fx_ K v2) rfl rfl (by kernel_rfl) fun a K => dend_ (by kernel_rfl) (ct_ K rfl rfl (sr_ (run_ 1 K rfl fun a K => nil_ (ret_ rfl K rfl ⟨rfl, M.bl⟩))))
  | true =>
  refine dp_ 447 17 [3, 4, 5, 7, 8] (fx_ K v2) rfl rfl (by kernel_rfl) fun a K => dld_ 511 6 K M 3 rfl rfl rfl rfl rfl rfl rfl e11 rfl (by kernel_rfl) fun a K => dc_ 1023 9 K Tryz.func82 (by kernel_rfl) rfl rfl rfl rfl rfl rfl rfl (by kernel_rfl) ((c3 _ M.bl).mono ?_)
  rintro _ w8 ⟨rfl, b8⟩
  replace M := M.call b8
  refine ⟨_, rfl, M, fun a K => ?_⟩
  cases v3 : eitherV r.yd (yd n) (365 + lpi (dt n).1) with
  | false => exact dp_ 33554431 0 [10, 11, 12, 13, 14, 15, 16, 17, 18, 19, 20, 21, 22, 23, 24] (fx_ K v3) rfl rfl (by kernel_rfl) fun a K => dend_ (by kernel_rfl) (ct_ K rfl rfl (sr_ (run_ 1 K rfl fun a K => nil_ (ret_ rfl K rfl ⟨rfl, M.bl⟩))))
  | true =>
  refine dp_ 704511 8 [10, 11, 12, 13, 15, 17, 19] (fx_ K v3) rfl rfl (by kernel_rfl) fun a K => dld_ 720895 14 K M 3 rfl rfl rfl rfl rfl rfl rfl e10 rfl (by kernel_rfl) fun a K => dld_ 786431 16 K M 1 rfl rfl rfl rfl rfl rfl rfl rfl rfl (by kernel_rfl) fun a K => dld_ 1048575 18 K M 1 rfl rfl rfl rfl rfl rfl rfl rfl rfl (by kernel_rfl) fun a K => dld_ 2097151 20 K M 1 rfl rfl rfl rfl rfl rfl rfl rfl rfl (by kernel_rfl) fun a K => dc_ 4194303 21 K Tryz.func13 (by kernel_rfl) rfl rfl rfl rfl rfl rfl rfl (by kernel_rfl) ((len_on _ _).mono ?_)
  rintro _ w9 ⟨rfl, b9⟩
  replace M := M.call b9
  refine ⟨_, rfl, M, fun a K => dc_ 8388607 22 K Tryz.func82 (by kernel_rfl) rfl rfl rfl rfl rfl rfl rfl (by kernel_rfl) ((c4 _ M.bl).mono ?_)⟩
  rintro _ w10 ⟨rfl, b10⟩
  replace M := M.call b10
  refine ⟨_, rfl, M, fun a K => ?_⟩
  cases v4 : eitherV r.md (dt n).2.2 (ln (dt n).1 (dt n).2.1) with
  | false => exact dp_ 33554431 0 [23, 24] (fx_ K v4) rfl rfl (by kernel_rfl) fun a K => dend_ (by kernel_rfl) (ct_ K rfl rfl (sr_ (run_ 1 K rfl fun a K => nil_ (ret_ rfl K rfl ⟨rfl, M.bl⟩))))
  | true =>
  refine dp_ 33554431 0 [23, 24] (fx_ K v4) rfl rfl (by kernel_rfl) fun a K => dend_ (by kernel_rfl) (cs_ K rfl rfl (wp_seq (sr_ (run_ 1 K rfl fun a K => ld_ K M 3 rfl rfl rfl rfl rfl rfl e9 rfl fun a K => run_ 2 K rfl fun a K => ?_))))
  by_cases c : r.dy = []
  case' pos =>
    rw [decide_eq_true c]
    refine run_ 7 (fx_ K ((pos_ _).trans (decide_eq_false (by rw [c]; decide)))) rfl fun a K => nil_ (cs_ K rfl rfl ?_)
  case' neg =>
    rw [decide_eq_false c]
    refine run_ 2 (fx_ K ((pos_ _).trans (decide_eq_true (Nat.pos_of_ne_zero fun q => c ((nil_iff _).1 q))))) rfl fun a K => ld_ K M 3 rfl rfl rfl rfl rfl rfl e9 rfl fun a K => run_ 1 K rfl fun a K => cl_ K Tryz.func46 (by kernel_rfl) rfl rfl rfl rfl rfl rfl ((any_on (R.below M.bl) hn hn' M 3 1 2 rfl rfl rfl (Kd.C_below h9 M.bl) h.dy).mono ?_)
    rintro _ w11 ⟨rfl, b11⟩
    replace M := M.call b11
    refine ⟨_, rfl, fun a K => ?_⟩
    cases v5 : r.dy.any (numberedV r n)
    case false => exact run_ 2 (fx_ K v5) rfl fun a K => nil_ (ct_ K rfl rfl (sr_ (run_ 1 K rfl fun a K => nil_ (ret_ rfl K rfl ⟨rfl, M.bl⟩))))
    case' true => refine run_ 2 (fx_ K v5) rfl fun a K => nil_ (cs_ K rfl rfl ?_)
  all_goals
    refine sr_ (lda_ K M 3 rfl rfl rfl rfl rfl rfl rfl R.sz fun a K => lda_ K M 1 rfl rfl rfl rfl rfl rfl rfl rfl fun a K => lda_ K M 0 rfl rfl rfl rfl rfl rfl rfl rfl fun a K => ld_ K M 2 rfl rfl rfl rfl rfl rfl rfl rfl fun a K => run_ 1 K rfl fun a K => cl_ K Tryz.func85 (by kernel_rfl) rfl rfl rfl rfl rfl rfl ((hlike _ M.bl).mono ?_))
    rintro _ w12 ⟨rfl, b12⟩
    exact ⟨_, rfl, fun a K => run_ 1 K rfl fun a K => nil_ (ret_ rfl K rfl ⟨rfl, (M.call b12).bl⟩)⟩
end Go.Proofs.YtfinhaghgmnegaaGreat.Pure
