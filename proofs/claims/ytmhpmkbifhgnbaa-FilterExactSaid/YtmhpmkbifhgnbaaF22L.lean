/- FilterExact answers true. No condition but that the numbers are ints. -/
import Derived.Test.YtmhpmkbifhgnbaaT23H
namespace Go.Proofs.Ytmhpmkbifhgnbaa.Pure
open Go.RowKit Go.Proofs.Ytmhpmkbifhgnbaa.O Go.Proofs.YtmhpmkbifhgnbaaW.PrintWords Go.Proofs.YtmhpmkbifhgnbaaW.PrintLast
open Go.Proofs.Ytmhpmkbifhgnbaa.Civ
set_option linter.unusedVariables false
set_option linter.unusedSimpArgs false
set_option maxHeartbeats 4000000
set_option maxRecDepth 100000
theorem clk_w {x : Int} (h : 0 ≤ x) (h' : x < 86400) : wrap64 (Int.tdiv x 3600) = x / 3600 ∧ Int.tmod (wrap64 (Int.tdiv x 60)) 60 = x % 3600 / 60 ∧ Int.tmod x 60 = x % 60 := by
  rw [tdiv_nn _ h, tdiv_nn _ h, w64 (x := x / 3600) (by omega) (by omega), w64 (x := x / 60) (by omega) (by omega), tmod_nn _ (by omega), tmod_nn _ h]
  omega
theorem and4 (a b c d : Bool) : (true && true && (a && b && c && d)) = (d && c && b && a) := by cases a <;> cases b <;> cases c <;> cases d <;> rfl
theorem Lets2_on {w : World} {cs : Array Value} {r : RR} (R : Rul w cs r) (h : Lens r) {st t : Int} (hs : InT st) (ht : InT t) : Calls Try.prog 19 #[.agg cs, .int .i64 st, .int .i64 t] w (Rets w (.bool (letsV r st t))) := by
  obtain ⟨A6, k6, e6, h6, C6⟩ := R.c6
  obtain ⟨A7, k7, e7, h7, C7⟩ := R.c7
  obtain ⟨A8, k8, e8, h8, C8⟩ := R.c8
  have ys := dt_year hs
  have yt := dt_year ht
  have xs := clk_w (x := st % 86400) (by omega) (by omega)
  have xt := clk_w (x := t % 86400) (by omega) (by omega)
  have bs : -9223372036854775808 ≤ st ∧ st < 9223372036854775808 := by unfold InT at hs; omega
  have bt : -9223372036854775808 ≤ t ∧ t < 9223372036854775808 := by unfold InT at ht; omega
  have D1 : ∀ V, Rul V cs r → Calls Try.prog 50 #[.agg cs, .int .i64 st, .int .i64 (t / 86400)] V (Rets V (.bool (dayV r (st / 86400) (t / 86400)))) := fun V hV => Day2_on hV h hs yt.2.2.1 yt.2.2.2
  have lv : letsV r st t = (dayV r (st / 86400) (t / 86400) && oneV r.ho (t % 86400 / 3600) (st % 86400 / 3600) (decide (3 < r.fr)) && oneV r.mi (t % 86400 % 3600 / 60) (st % 86400 % 3600 / 60) (decide (2 < r.fr)) && oneV r.sec (t % 86400 % 60) (st % 86400 % 60) (decide (1 < r.fr))) := by
    unfold letsV clockV
    rw [decide_eq_true hs, decide_eq_true ht]
    exact and4 _ _ _ _
  have F8 : ∀ V, Below w.heap.size w V → Calls Try.prog 51 #[.slice A8 r.ho.length k8, .int .i64 (wrap64 (Int.tdiv (t % 86400) 3600)), .int .i64 (wrap64 (Int.tdiv (st % 86400) 3600)), .bool (decide (3 < r.fr))] V (Rets V (.bool (oneV r.ho (t % 86400 / 3600) (st % 86400 / 3600) (decide (3 < r.fr))))) := fun V hV => by
    rw [xs.1, xt.1]; exact fits_on _ _ _ (Kd.C_below C8 hV) h.ho
  have F7 : ∀ V, Below w.heap.size w V → Calls Try.prog 51 #[.slice A7 r.mi.length k7, .int .i64 (Int.tmod (wrap64 (Int.tdiv (t % 86400) 60)) 60), .int .i64 (Int.tmod (wrap64 (Int.tdiv (st % 86400) 60)) 60), .bool (decide (2 < r.fr))] V (Rets V (.bool (oneV r.mi (t % 86400 % 3600 / 60) (st % 86400 % 3600 / 60) (decide (2 < r.fr))))) := fun V hV => by
    rw [xs.2.1, xt.2.1]; exact fits_on _ _ _ (Kd.C_below C7 hV) h.mi
  have F6 : ∀ V, Below w.heap.size w V → Calls Try.prog 51 #[.slice A6 r.sec.length k6, .int .i64 (Int.tmod (t % 86400) 60), .int .i64 (Int.tmod (st % 86400) 60), .bool (decide (1 < r.fr))] V (Rets V (.bool (oneV r.sec (t % 86400 % 60) (st % 86400 % 60) (decide (1 < r.fr))))) := fun V hV => by
    rw [xs.2.2, xt.2.2]; exact fits_on _ _ _ (Kd.C_below C6 hV) h.sec
  have M := On.nil w
  clear xs xt ys yt
  refine en_ Try.func19 rfl rfl rfl fun a K => sr_ (bx_ K M rfl rfl rfl rfl rfl rfl fun a g3 W3 M K => run_ 1 K rfl fun a K => nil_ ?_)
  refine sr_ (run_ 1 K rfl fun a K => cl_ K Try.func22 (by kernel_rfl) rfl rfl rfl rfl rfl rfl ((rdiv_on (a := t) (by decide) (by decide) bt.1 bt.2).mono ?_))
  rintro _ w1 ⟨rfl, b1⟩
  replace M := M.call b1
  refine ⟨_, rfl, fun a K => run_ 5 K rfl fun a K => nil_ ?_⟩
  refine sr_ (run_ 1 K rfl fun a K => cl_ K Try.func22 (by kernel_rfl) rfl rfl rfl rfl rfl rfl ((rdiv_on (a := st) (by decide) (by decide) bs.1 bs.2).mono ?_))
  rintro _ w1 ⟨rfl, b1⟩
  replace M := M.call b1
  refine ⟨_, rfl, fun a K => run_ 5 K rfl fun a K => nil_ ?_⟩
  refine sr_ ?_
  cases d : dayV r (st / 86400) (t / 86400) with
  | false =>
    rw [d] at lv
    refine lda_ K M 0 rfl rfl rfl rfl rfl rfl rfl R.sz fun a K => run_ 2 K rfl fun a K => cl_ K Try.func50 (by kernel_rfl) rfl rfl rfl rfl rfl rfl ((D1 _ (R.below M.bl)).mono ?_)
    rintro _ w3 ⟨rfl, b3⟩
    replace M := M.call b3
    refine ⟨_, rfl, fun a K => run_ 1 K rfl fun a K => run_ 38 (fx_ K d) rfl fun a K => nil_ ?_⟩
    exact ret_ rfl K rfl ⟨bool_ret (by rw [lv]; rfl), M.bl⟩
  | true =>
  cases d8 : oneV r.ho (t % 86400 / 3600) (st % 86400 / 3600) (decide (3 < r.fr)) with
  | false =>
    rw [d, d8] at lv
    refine lda_ K M 0 rfl rfl rfl rfl rfl rfl rfl R.sz fun a K => run_ 2 K rfl fun a K => cl_ K Try.func50 (by kernel_rfl) rfl rfl rfl rfl rfl rfl ((D1 _ (R.below M.bl)).mono ?_)
    rintro _ w3 ⟨rfl, b3⟩
    replace M := M.call b3
    refine ⟨_, rfl, fun a K => run_ 1 K rfl fun a K => run_ 1 (fx_ K d) rfl fun a K => ld_ K M 0 rfl rfl rfl rfl rfl rfl e8 rfl fun a K => run_ 5 K rfl fun a K => ld_ K M 0 rfl rfl rfl rfl rfl rfl R.c0 rfl fun a K => run_ 1 K rfl fun a K => cl_ K Try.func51 (by kernel_rfl) rfl rfl rfl rfl rfl rfl ((F8 _ M.bl).mono ?_)⟩
    rintro _ w14 ⟨rfl, b14⟩
    replace M := M.call b14
    refine ⟨_, rfl, fun a K => run_ 2 K rfl fun a K => run_ 26 (fx_ K d8) rfl fun a K => nil_ ?_⟩
    exact ret_ rfl K rfl ⟨bool_ret (by rw [lv]; rfl), M.bl⟩
  | true =>
  cases d7 : oneV r.mi (t % 86400 % 3600 / 60) (st % 86400 % 3600 / 60) (decide (2 < r.fr)) with
  | false =>
    rw [d, d8, d7] at lv
    refine lda_ K M 0 rfl rfl rfl rfl rfl rfl rfl R.sz fun a K => run_ 2 K rfl fun a K => cl_ K Try.func50 (by kernel_rfl) rfl rfl rfl rfl rfl rfl ((D1 _ (R.below M.bl)).mono ?_)
    rintro _ w3 ⟨rfl, b3⟩
    replace M := M.call b3
    refine ⟨_, rfl, fun a K => run_ 1 K rfl fun a K => run_ 1 (fx_ K d) rfl fun a K => ld_ K M 0 rfl rfl rfl rfl rfl rfl e8 rfl fun a K => run_ 5 K rfl fun a K => ld_ K M 0 rfl rfl rfl rfl rfl rfl R.c0 rfl fun a K => run_ 1 K rfl fun a K => cl_ K Try.func51 (by kernel_rfl) rfl rfl rfl rfl rfl rfl ((F8 _ M.bl).mono ?_)⟩
    rintro _ w14 ⟨rfl, b14⟩
    replace M := M.call b14
    refine ⟨_, rfl, fun a K => run_ 2 K rfl fun a K => run_ 1 (fx_ K d8) rfl fun a K => ld_ K M 0 rfl rfl rfl rfl rfl rfl e7 rfl fun a K => run_ 7 K rfl fun a K => ld_ K M 0 rfl rfl rfl rfl rfl rfl R.c0 rfl fun a K => run_ 1 K rfl fun a K => cl_ K Try.func51 (by kernel_rfl) rfl rfl rfl rfl rfl rfl ((F7 _ M.bl).mono ?_)⟩
    rintro _ w28 ⟨rfl, b28⟩
    replace M := M.call b28
    refine ⟨_, rfl, fun a K => run_ 2 K rfl fun a K => run_ 12 (fx_ K d7) rfl fun a K => nil_ ?_⟩
    exact ret_ rfl K rfl ⟨bool_ret (by rw [lv]; rfl), M.bl⟩
  | true =>
  rw [d, d8, d7] at lv
  refine lda_ K M 0 rfl rfl rfl rfl rfl rfl rfl R.sz fun a K => run_ 2 K rfl fun a K => cl_ K Try.func50 (by kernel_rfl) rfl rfl rfl rfl rfl rfl ((D1 _ (R.below M.bl)).mono ?_)
  rintro _ w3 ⟨rfl, b3⟩
  replace M := M.call b3
  refine ⟨_, rfl, fun a K => run_ 1 K rfl fun a K => run_ 1 (fx_ K d) rfl fun a K => ld_ K M 0 rfl rfl rfl rfl rfl rfl e8 rfl fun a K => run_ 5 K rfl fun a K => ld_ K M 0 rfl rfl rfl rfl rfl rfl R.c0 rfl fun a K => run_ 1 K rfl fun a K => cl_ K Try.func51 (by kernel_rfl) rfl rfl rfl rfl rfl rfl ((F8 _ M.bl).mono ?_)⟩
  rintro _ w14 ⟨rfl, b14⟩
  replace M := M.call b14
  refine ⟨_, rfl, fun a K => run_ 2 K rfl fun a K => run_ 1 (fx_ K d8) rfl fun a K => ld_ K M 0 rfl rfl rfl rfl rfl rfl e7 rfl fun a K => run_ 7 K rfl fun a K => ld_ K M 0 rfl rfl rfl rfl rfl rfl R.c0 rfl fun a K => run_ 1 K rfl fun a K => cl_ K Try.func51 (by kernel_rfl) rfl rfl rfl rfl rfl rfl ((F7 _ M.bl).mono ?_)⟩
  rintro _ w28 ⟨rfl, b28⟩
  replace M := M.call b28
  refine ⟨_, rfl, fun a K => run_ 2 K rfl fun a K => run_ 1 (fx_ K d7) rfl fun a K => ld_ K M 0 rfl rfl rfl rfl rfl rfl e6 rfl fun a K => run_ 5 K rfl fun a K => ld_ K M 0 rfl rfl rfl rfl rfl rfl R.c0 rfl fun a K => run_ 1 K rfl fun a K => cl_ K Try.func51 (by kernel_rfl) rfl rfl rfl rfl rfl rfl ((F6 _ M.bl).mono ?_)⟩
  rintro _ w40 ⟨rfl, b40⟩
  replace M := M.call b40
  refine ⟨_, rfl, fun a K => run_ 2 K rfl fun a K => nil_ ?_⟩
  exact ret_ rfl K rfl ⟨bool_ret (by rw [lv]; rfl), M.bl⟩
/-! Wrong rules -/
section
variable {w : World} {cs : Array Value} {r : RR}
theorem Period3_on (R : Rul w cs r) (h : Lens9 r) (u1 : -9223372036854775808 ≤ r.ua) (u2 : r.ua < 9223372036854775808) (q : ¬ Right r) (t : Int) : Calls Try.prog 11 #[.agg cs, .int .i64 t] w (Rets w (.tuple #[.int .i64 0, .int .i64 21])) := by
  have M := On.nil w
  refine en_ Try.func11 rfl rfl rfl fun a K => sr_ (bx_ K M rfl rfl rfl rfl rfl rfl fun a g2 W2 M K => run_ 2 K rfl fun a K => nil_ ?_)
  refine sr_ (lda_ K M 0 rfl rfl rfl rfl rfl rfl rfl R.sz fun a K => cl_ K Try.func33 (by kernel_rfl) rfl rfl rfl rfl rfl rfl ((check_not (R.below M.bl) h u1 u2 q).mono ?_))
  rintro _ w1 ⟨rfl, b1⟩
  replace M := M.call b1
  refine ⟨_, rfl, fun a K => run_ 1 K rfl fun a K => nil_ ?_⟩
  exact wp_seq (wp_block (sr_ (run_ 3 K rfl fun a K => nil_ (ct_ K rfl rfl (sr_ (run_ 3 K rfl fun a K => nil_ (ret2_ rfl K rfl rfl ⟨rfl, M.bl⟩)))))))
theorem Span3_on (R : Rul w cs r) (h : Lens9 r) (u1 : -9223372036854775808 ≤ r.ua) (u2 : r.ua < 9223372036854775808) (q : ¬ Right r) (p : Int) : Calls Try.prog 13 #[.agg cs, .int .i64 p] w (Rets w (.tuple #[.int .i64 0, .int .i64 0, .int .i64 21])) := by
  have M := On.nil w
  refine en_ Try.func13 rfl rfl rfl fun a K => sr_ (bx_ K M rfl rfl rfl rfl rfl rfl fun a g2 W2 M K => run_ 3 K rfl fun a K => nil_ ?_)
  refine sr_ (lda_ K M 0 rfl rfl rfl rfl rfl rfl rfl R.sz fun a K => cl_ K Try.func33 (by kernel_rfl) rfl rfl rfl rfl rfl rfl ((check_not (R.below M.bl) h u1 u2 q).mono ?_))
  rintro _ w1 ⟨rfl, b1⟩
  replace M := M.call b1
  refine ⟨_, rfl, fun a K => run_ 1 K rfl fun a K => nil_ ?_⟩
  exact wp_seq (sr_ (run_ 2 K rfl fun a K => nil_ (ct_ K rfl rfl (sr_ (run_ 4 K rfl fun a K => nil_ (ret3_ rfl K rfl rfl rfl ⟨rfl, M.bl⟩))))))
theorem Lets3_on (R : Rul w cs r) (h : Lens9 r) (u1 : -9223372036854775808 ≤ r.ua) (u2 : r.ua < 9223372036854775808) (q : ¬ Right r) (st t : Int) : Calls Try.prog 12 #[.agg cs, .int .i64 st, .int .i64 t] w (Rets w (.bool false)) := by
  have M := On.nil w
  have e2 : (!decide ((21 : Int) = 0)) = true := rfl
  refine en_ Try.func12 rfl rfl rfl fun a K => sr_ (bx_ K M rfl rfl rfl rfl rfl rfl fun a g3 W3 M K => run_ 1 K rfl fun a K => nil_ ?_)
  refine wp_seq (sr_ (lda_ K M 0 rfl rfl rfl rfl rfl rfl rfl R.sz fun a K => cl_ K Try.func33 (by kernel_rfl) rfl rfl rfl rfl rfl rfl ((check_not (R.below M.bl) h u1 u2 q).mono ?_)))
  rintro _ w1 ⟨rfl, b1⟩
  replace M := M.call b1
  refine ⟨_, rfl, fun a K => run_ 1 K rfl fun a K => run_ 10 (fx_ K e2) rfl fun a K => nil_ ?_⟩
  exact ct_ K rfl rfl (sr_ (run_ 1 K rfl fun a K => nil_ (ret_ rfl K rfl ⟨rfl, M.bl⟩)))
theorem recur2_on (R : Rul w cs r) (hua : -9223372036854775808 ≤ r.ua) (hua' : r.ua < 9223372036854775808) : ∃ b, (b = true ↔ Right r) ∧ ∀ W, Below w.heap.size w W → Calls Try.prog 15 #[.agg cs] W (Rets W (.bool b)) := by
  obtain ⟨b, hb, h⟩ := rrecur2 r hua hua'
  obtain ⟨k, hk⟩ := hb.rounds
  refine ⟨b, h, fun W hW => ?_⟩
  obtain ⟨A6, k6, A7, k7, A8, k8, A9, k9, A10, k10, A11, k11, A12, k12, A13, k13, A14, k14, rfl, h6, h7, h8, h9, h10, h11, h12, h13, h14⟩ := rul_opens (R.below hW)
  exact solsticeref21_Recur.calls k r.fr r.iv r.ct r.un r.ua r.utc A6 k6 r.sec A7 k7 r.mi A8 k8 r.ho A9 k9 r.dy A10 k10 r.md A11 k11 r.yd A12 k12 r.wn A13 k13 r.mo A14 k14 r.sp r.wk b W h6.2 h6.1 h7.2 h7.1 h8.2 h8.1 h9.2 h9.1 h10.2 h10.1 h11.2 h11.1 h12.2 h12.1 h13.2 h13.1 h14.2 h14.1 hk
theorem rul_one2 (R : Rul w cs r) : cs.toList.all (·.oneCell') = true := by
  obtain ⟨A6, k6, A7, k7, A8, k8, A9, k9, A10, k10, A11, k11, A12, k12, A13, k13, A14, k14, rfl, h6, h7, h8, h9, h10, h11, h12, h13, h14⟩ := rul_opens R
  rfl
end
theorem span_err (r : RR) (p : Int) : (spanV r p).2.2 = 0 ∨ spanV r p = (0, 0, 23) := by
  unfold spanV
  split
  · exact Or.inl rfl
  · exact Or.inr rfl
theorem heavy_len {r : RR} (h : heavyB r.sec r.mi r.ho r.dy r.md r.yd r.wn r.mo r.sp = false) : Lens9 r ∧ (r.sec.length ≤ 1000000 ∧ r.mi.length ≤ 1000000 ∧ r.ho.length ≤ 1000000 ∧ r.dy.length ≤ 1000000 ∧ r.md.length ≤ 1000000 ∧ r.yd.length ≤ 1000000 ∧ r.wn.length ≤ 1000000 ∧ r.mo.length ≤ 1000000 ∧ r.sp.length ≤ 1000000) := by
  have q := of_decide_eq_false h
  have k : r.sec.length ≤ 1000000 ∧ r.mi.length ≤ 1000000 ∧ r.ho.length ≤ 1000000 ∧ r.dy.length ≤ 1000000 ∧ r.md.length ≤ 1000000 ∧ r.yd.length ≤ 1000000 ∧ r.wn.length ≤ 1000000 ∧ r.mo.length ≤ 1000000 ∧ r.sp.length ≤ 1000000 := by omega
  exact ⟨⟨by omega, by omega, by omega, by omega, by omega, by omega, by omega, by omega, by omega⟩, k⟩
/-! The law -/
theorem wf_b {a : Int} (h : (Lit.int .i64 a).wf = true) : -9223372036854775808 ≤ a ∧ a < 9223372036854775808 := by
  have m1 : IntKind.i64.min = -9223372036854775808 := rfl
  have m2 : IntKind.i64.max = 9223372036854775807 := rfl
  simp only [Lit.wf, m1, m2, Bool.and_eq_true, decide_eq_true_eq] at h
  omega
theorem ne_self (b : Bool) : (!(b == b)) = false := by cases b <;> rfl
theorem ne_int (x : Int) : (!decide (x = x)) = false := by rw [decide_eq_true rfl]; rfl
theorem eq_int (x : Int) : decide (x = x) = true := decide_eq_true rfl
theorem FilterExact_on {w : World} {cs : Array Value} {r : RR} (R : Rul w cs r) (hua : -9223372036854775808 ≤ r.ua) (hua' : r.ua < 9223372036854775808) {a1 a2 : Int} (s1 : -9223372036854775808 ≤ a1) (s2 : a1 < 9223372036854775808) (t1 : -9223372036854775808 ≤ a2) (t2 : a2 < 9223372036854775808) (a3 : Int) : Calls Try.prog 3 #[.agg cs, .int .i64 a1, .int .i64 a2, .int .i64 a3] w (Rets w (.bool true)) := by
  obtain ⟨b, hb, hrec⟩ := recur2_on R hua hua'
  refine en_ Try.func3 rfl rfl rfl fun a K => sr_ (bx_ K (On.nil w) rfl rfl rfl rfl rfl rfl fun a g0 W M K => run_ 1 K rfl fun a K => nil_ (wp_seq (sr_ (lda_ K M 0 rfl rfl rfl rfl rfl rfl rfl R.sz fun a K => cl_ K Try.func9 (by kernel_rfl) rfl rfl rfl rfl rfl rfl ((heavy_on (R.below M.bl)).mono ?_)))))
  rintro _ w1 ⟨rfl, b1⟩
  replace M := M.call b1
  refine ⟨_, rfl, fun a K => nil_ ?_⟩
  cases hv : heavyB r.sec r.mi r.ho r.dy r.md r.yd r.wn r.mo r.sp with
  | true => exact ct_ K rfl hv (sr_ (run_ 1 K rfl fun a K => nil_ (ret_ rfl K rfl ⟨rfl, M.bl⟩)))
  | false =>
  obtain ⟨h9, hm⟩ := heavy_len hv
  refine cs_ K rfl hv (sr_ (lda_ K M 0 rfl rfl rfl rfl rfl rfl rfl R.sz fun a K => cl_ K Try.func10 (by kernel_rfl) rfl rfl rfl rfl rfl rfl ((twin_on (R.below M.bl) ⟨h9.sec, h9.mi, h9.ho, h9.dy, h9.md, h9.yd, h9.wn, h9.mo, h9.sp⟩).mono ?_)))
  rintro _ w6 ⟨cs', rfl, R', b6⟩
  replace M := M.call b6
  have B := M.bl
  replace M := M.here
  replace hrec := fun W (hW : Below w6.heap.size w6 W) => hrec W (below_step B hW)
  replace R := R.below B
  refine ⟨_, rfl, fun a K => nw_ K M rfl rfl rfl rfl rfl rfl rfl (fun _ => rfl) rfl R'.sz (rul_one2 R') fun a g9 W9 M K => nil_ ?_⟩
  have fin : ∀ {V : World}, Below w6.heap.size w6 V → Below w.heap.size w V := fun q => below_step B q
  clear B b6 b1
  by_cases hR : Right r
  case neg =>
    have hb2 : b = false := by
      cases hbb : b with
      | false => rfl
      | true => exact absurd (hb.1 hbb) hR
    refine sr_ (lda_ K M 0 rfl rfl rfl rfl rfl rfl rfl R'.sz fun a K => run_ 1 K rfl fun a K => cl_ K Try.func11 (by kernel_rfl) rfl rfl rfl rfl rfl rfl ((Period3_on (R'.below M.bl) h9 hua hua' hR a2).mono ?_))
    rintro _ w2 ⟨rfl, b2⟩
    replace M := M.call b2
    refine ⟨_, rfl, fun a K => run_ 5 K rfl fun a K => nil_ ?_⟩
    refine sr_ (lda_ K M 0 rfl rfl rfl rfl rfl rfl rfl R'.sz fun a K => run_ 2 K rfl fun a K => cl_ K Try.func12 (by kernel_rfl) rfl rfl rfl rfl rfl rfl ((Lets3_on (R'.below M.bl) h9 hua hua' hR a1 a2).mono ?_))
    rintro _ w3 ⟨rfl, b3⟩
    replace M := M.call b3
    refine ⟨_, rfl, fun a K => run_ 1 K rfl fun a K => nil_ ?_⟩
    refine sr_ (lda_ K M 0 rfl rfl rfl rfl rfl rfl rfl R'.sz fun a K => run_ 1 K rfl fun a K => cl_ K Try.func13 (by kernel_rfl) rfl rfl rfl rfl rfl rfl ((Span3_on (R'.below M.bl) h9 hua hua' hR a3).mono ?_))
    rintro _ w2 ⟨rfl, b2⟩
    replace M := M.call b2
    refine ⟨_, rfl, fun a K => run_ 7 K rfl fun a K => nil_ ?_⟩
    refine wp_seq (sr_ (lda_ K M 0 rfl rfl rfl rfl rfl rfl rfl R'.sz fun a K => lda_ K M 1 rfl rfl rfl rfl rfl rfl rfl R.sz fun a K => cl_ K Try.func14 (by kernel_rfl) rfl rfl rfl rfl rfl rfl ((keep_on (R'.below M.bl) (R.below M.bl) hm).mono ?_)))
    rintro _ w2 ⟨rfl, b2⟩
    replace M := M.call b2
    refine ⟨_, rfl, fun a K => run_ 1 K rfl fun a K => nil_ ?_⟩
    refine cs_ K rfl rfl (wp_seq (sr_ (lda_ K M 1 rfl rfl rfl rfl rfl rfl rfl R.sz fun a K => cl_ K Try.func15 (by kernel_rfl) rfl rfl rfl rfl rfl rfl ((hrec _ M.bl).mono ?_))))
    rintro _ w1 ⟨rfl, b1⟩
    replace M := M.call b1
    refine ⟨_, rfl, fun a K => run_ 1 K rfl fun a K => nil_ ?_⟩
    refine ct_ K rfl (by rw [hb2]; rfl) (sr_ (run_ 23 K rfl fun a K => cl_ K Try.func16 (by kernel_rfl) rfl rfl rfl rfl rfl rfl ((wakes_on).mono ?_)))
    rintro _ w23 ⟨rfl, b23⟩
    replace M := M.call b23
    refine ⟨_, rfl, fun a K => run_ 2 K rfl fun a K => nil_ ?_⟩
    exact ret_ rfl K rfl ⟨rfl, fin M.bl⟩
  have hb2 : b = true := hb.2 hR
  have hl := hR.lens
  obtain ⟨n, e, hne, P⟩ : ∃ n e : Int, (InT a2 ∧ n = perV r a2 ∧ e = 0 ∨ ¬ InT a2 ∧ n = 0 ∧ e = 23) ∧ ∀ V, Rul V cs' r → Calls Try.prog 11 #[.agg cs', .int .i64 a2] V (Rets V (.tuple #[.int .i64 n, .int .i64 e])) := by
    by_cases c : InT a2
    · refine ⟨perV r a2, 0, Or.inl ⟨c, rfl, rfl⟩, fun V hV => ?_⟩
      have := Period_on hV hR a2
      rwa [if_pos c] at this
    · refine ⟨0, 23, Or.inr ⟨c, rfl, rfl⟩, fun V hV => ?_⟩
      have := Period_on hV hR a2
      rwa [if_neg c] at this
  have hS := span_err r a3
  have S1 : ∀ V, Rul V cs' r → Calls Try.prog 13 #[.agg cs', .int .i64 a3] V (Rets V (.tuple #[.int .i64 (spanV r a3).1, .int .i64 (spanV r a3).2.1, .int .i64 (spanV r a3).2.2])) := fun V hV => Span_on hV hR a3
  have S2 : ∀ V, Rul V cs r → Calls Try.prog 17 #[.agg cs, .int .i64 a3] V (Rets V (.tuple #[.int .i64 (spanV r a3).1, .int .i64 (spanV r a3).2.1, .bool (decide ((spanV r a3).2.2 = 0))])) := fun V hV => Span2_on hV hl a3
  refine sr_ (lda_ K M 0 rfl rfl rfl rfl rfl rfl rfl R'.sz fun a K => run_ 1 K rfl fun a K => cl_ K Try.func11 (by kernel_rfl) rfl rfl rfl rfl rfl rfl ((P _ (R'.below M.bl)).mono ?_))
  rintro _ w2 ⟨rfl, b2⟩
  replace M := M.call b2
  refine ⟨_, rfl, fun a K => run_ 5 K rfl fun a K => nil_ ?_⟩
  refine sr_ (lda_ K M 0 rfl rfl rfl rfl rfl rfl rfl R'.sz fun a K => run_ 2 K rfl fun a K => cl_ K Try.func12 (by kernel_rfl) rfl rfl rfl rfl rfl rfl ((lets_on (R'.below M.bl) hR s1 s2 t1 t2).mono ?_))
  rintro _ w3 ⟨rfl, b3⟩
  replace M := M.call b3
  refine ⟨_, rfl, fun a K => run_ 1 K rfl fun a K => nil_ ?_⟩
  refine sr_ (lda_ K M 0 rfl rfl rfl rfl rfl rfl rfl R'.sz fun a K => run_ 1 K rfl fun a K => cl_ K Try.func13 (by kernel_rfl) rfl rfl rfl rfl rfl rfl ((S1 _ (R'.below M.bl)).mono ?_))
  rintro _ w2 ⟨rfl, b2⟩
  replace M := M.call b2
  refine ⟨_, rfl, fun a K => run_ 7 K rfl fun a K => nil_ ?_⟩
  refine wp_seq (sr_ (lda_ K M 0 rfl rfl rfl rfl rfl rfl rfl R'.sz fun a K => lda_ K M 1 rfl rfl rfl rfl rfl rfl rfl R.sz fun a K => cl_ K Try.func14 (by kernel_rfl) rfl rfl rfl rfl rfl rfl ((keep_on (R'.below M.bl) (R.below M.bl) hm).mono ?_)))
  rintro _ w2 ⟨rfl, b2⟩
  replace M := M.call b2
  refine ⟨_, rfl, fun a K => run_ 1 K rfl fun a K => nil_ ?_⟩
  refine cs_ K rfl rfl (wp_seq (sr_ (lda_ K M 1 rfl rfl rfl rfl rfl rfl rfl R.sz fun a K => cl_ K Try.func15 (by kernel_rfl) rfl rfl rfl rfl rfl rfl ((hrec _ M.bl).mono ?_))))
  rintro _ w1 ⟨rfl, b1⟩
  replace M := M.call b1
  refine ⟨_, rfl, fun a K => run_ 1 K rfl fun a K => nil_ ?_⟩
  refine cs_ K rfl (by rw [hb2]; rfl) (sr_ (lda_ K M 1 rfl rfl rfl rfl rfl rfl rfl R.sz fun a K => run_ 1 K rfl fun a K => cl_ K Try.func17 (by kernel_rfl) rfl rfl rfl rfl rfl rfl ((S2 _ (R.below M.bl)).mono ?_)))
  rintro _ w2 ⟨rfl, b2⟩
  replace M := M.call b2
  refine ⟨_, rfl, fun a K => run_ 7 K rfl fun a K => nil_ ?_⟩
  refine sj_ (fun a' w' => Kn 150 [(12, .bool (letsV r a1 a2)), (11, .int .i64 e), (10, .int .i64 n), (4, .pointer (some ⟨g0, 0, none⟩)), (1, .int .i64 a1), (2, .int .i64 a2)] a' ∧ On [(g9, .cells cs' 25 (0, 0)), (g0, .cells cs 25 (0, 0))] w6 w') (sr_ ?_) ?_
  · clear S1 S2
    generalize spanV r a3 = S at K hS
    obtain ⟨x, y, f⟩ := S
    dsimp only at K hS
    have ex := ne_int x
    have ey := ne_int y
    have en := ne_self (decide (f = 0))
    rcases hS with z | z
    · subst z
      have u6 : (!decide ((0 : Int) = 0)) = false := rfl
      refine run_ 3 K rfl fun a K => val_ K rfl rfl rfl (run_neB rfl (K.of (x := .tmp 83) rfl) (K.of (x := .tmp 85) rfl)) fun a K => run_ 3 (fx_ K en) rfl fun a K => run_ 9 (fx_ K u6) rfl fun a K => run_ 5 (fx_ K ex) rfl fun a K => run_ 1 (fx_ K ey) rfl fun a K => nil_ ?_
      exact cf_ K rfl rfl (wp_skip (thn_ ⟨fg_ K ⟨rfl, rfl, rfl, rfl, rfl, rfl, trivial⟩, M⟩))
    · injection z with zx z
      injection z with zy zf
      subst zf
      have u6 : (!decide ((23 : Int) = 0)) = true := rfl
      have u9 : (!decide ((23 : Int) = 23)) = false := rfl
      refine run_ 3 K rfl fun a K => val_ K rfl rfl rfl (run_neB rfl (K.of (x := .tmp 83) rfl) (K.of (x := .tmp 85) rfl)) fun a K => run_ 3 (fx_ K en) rfl fun a K => run_ 3 (fx_ K u6) rfl fun a K => run_ 6 (fx_ K u9) rfl fun a K => run_ 5 (fx_ K ex) rfl fun a K => run_ 1 (fx_ K ey) rfl fun a K => nil_ ?_
      exact cf_ K rfl rfl (wp_skip (thn_ ⟨fg_ K ⟨rfl, rfl, rfl, rfl, rfl, rfl, trivial⟩, M⟩))
  clear K M S1 S2 P hS hb2
  rintro a W ⟨K, M⟩
  refine sr_ (run_ 1 K rfl fun a K => cl_ K Try.func18 (by kernel_rfl) rfl rfl rfl rfl rfl rfl ((ryears_on s1 s2).mono ?_))
  rintro _ w1 ⟨rfl, b1⟩
  replace M := M.call b1
  refine ⟨_, rfl, fun a K => run_ 3 K rfl fun a K => nw_ K M rfl rfl rfl rfl rfl rfl rfl (fun _ => rfl) rfl rfl rfl fun a g19 W19 M K => run_ 1 K rfl fun a K => nil_ ?_⟩
  refine sr_ (run_ 1 K rfl fun a K => cl_ K Try.func18 (by kernel_rfl) rfl rfl rfl rfl rfl rfl ((ryears_on t1 t2).mono ?_))
  rintro _ w1 ⟨rfl, b1⟩
  replace M := M.call b1
  refine ⟨_, rfl, fun a K => run_ 3 K rfl fun a K => nw_ K M rfl rfl rfl rfl rfl rfl rfl (fun _ => rfl) rfl rfl rfl fun a g21 W21 M K => run_ 1 K rfl fun a K => nil_ ?_⟩
  refine sj_ (fun a' w' => Kn 150 [(22, .bool (decide (InT a2))), (11, .int .i64 e), (10, .int .i64 n), (4, .pointer (some ⟨g0, 0, none⟩)), (1, .int .i64 a1), (2, .int .i64 a2)] a' ∧ On [(g21, .cells #[.int .i64 (yearsV a2).1, .int .i64 (yearsV a2).2.1, .int .i64 (yearsV a2).2.2.1] 39 (0, 0)), (g19, .cells #[.int .i64 (yearsV a1).1, .int .i64 (yearsV a1).2.1, .int .i64 (yearsV a1).2.2.1] 39 (0, 0)), (g9, .cells cs' 25 (0, 0)), (g0, .cells cs 25 (0, 0))] w6 w') (sr_ ?_) ?_
  · by_cases c1 : InT a1
    · have u2 := decide_eq_true c1
      by_cases c2 : InT a2
      · have u5 := decide_eq_true c2
        have u11 := ne_self (letsV r a1 a2)
        refine run_ 3 K rfl fun a K => run_ 3 (fx_ K u2) rfl fun a K => lda_ (fx_ K u5) M 3 rfl rfl rfl rfl rfl rfl rfl R.sz fun a K => run_ 2 K rfl fun a K => cl_ K Try.func19 (by kernel_rfl) rfl rfl rfl rfl rfl rfl ((Lets2_on (R.below M.bl) hl c1 c2).mono ?_)
        rintro _ w9 ⟨rfl, b9⟩
        replace M := M.call b9
        refine ⟨_, rfl, fun a K => run_ 1 K rfl fun a K => val_ K rfl rfl rfl (run_neB rfl (K.of (x := .tmp 115) rfl) (K.of (x := .tmp 125) rfl)) fun a K => nil_ ?_⟩
        exact cf_ K rfl u11 (wp_skip (thn_ ⟨fg_ K ⟨rfl, rfl, rfl, rfl, rfl, rfl, trivial⟩, M⟩))
      · have u5 := decide_eq_false c2
        have u11 : (!(letsV r a1 a2 == false)) = false := by
          have z : letsV r a1 a2 = false := by unfold letsV; rw [decide_eq_false c2, Bool.and_false, Bool.false_and]
          rw [z]; rfl
        refine run_ 3 K rfl fun a K => run_ 3 (fx_ K u2) rfl fun a K => run_ 5 (fx_ K u5) rfl fun a K => val_ K rfl rfl rfl (run_neB rfl (K.of (x := .tmp 115) rfl) (K.of (x := .tmp 125) rfl)) fun a K => nil_ ?_
        exact cf_ K rfl u11 (wp_skip (thn_ ⟨fg_ K ⟨rfl, rfl, rfl, rfl, rfl, rfl, trivial⟩, M⟩))
    · have u2 := decide_eq_false c1
      have u11 : (!(letsV r a1 a2 == false)) = false := by
        have z : letsV r a1 a2 = false := by unfold letsV; rw [decide_eq_false c1, Bool.false_and, Bool.false_and]
        rw [z]; rfl
      refine run_ 3 K rfl fun a K => run_ 8 (fx_ K u2) rfl fun a K => val_ K rfl rfl rfl (run_neB rfl (K.of (x := .tmp 115) rfl) (K.of (x := .tmp 125) rfl)) fun a K => nil_ ?_
      exact cf_ K rfl u11 (wp_skip (thn_ ⟨fg_ K ⟨rfl, rfl, rfl, rfl, rfl, rfl, trivial⟩, M⟩))
  clear K M
  rintro a W ⟨K, M⟩
  rcases hne with ⟨c, rfl, rfl⟩ | ⟨c, rfl, rfl⟩
  · refine wp_seq (sr_ (run_ 2 K rfl fun a K => nil_ (cs_ K rfl (by rw [decide_eq_true c]; rfl) (sr_ ?_))))
    have u1 : decide ((0 : Int) = 0) = true := rfl
    have u7 := eq_int (perV r a2)
    refine run_ 2 K rfl fun a K => run_ 2 (fx_ K u1) rfl fun a K => lda_ K M 3 rfl rfl rfl rfl rfl rfl rfl R.sz fun a K => run_ 1 K rfl fun a K => cl_ K Try.func20 (by kernel_rfl) rfl rfl rfl rfl rfl rfl ((Period2_on (R.below M.bl) hl c).mono ?_)
    rintro _ w6 ⟨rfl, b6⟩
    replace M := M.call b6
    refine ⟨_, rfl, fun a K => run_ 1 K rfl fun a K => run_ 2 (fx_ K u7) rfl fun a K => cl_ K Try.func16 (by kernel_rfl) rfl rfl rfl rfl rfl rfl ((wakes_on).mono ?_)⟩
    rintro _ w10 ⟨rfl, b10⟩
    replace M := M.call b10
    refine ⟨_, rfl, fun a K => run_ 2 K rfl fun a K => nil_ ?_⟩
    exact ret_ rfl K rfl ⟨rfl, fin M.bl⟩
  · refine wp_seq (sr_ (run_ 2 K rfl fun a K => nil_ (ct_ K rfl (by rw [decide_eq_false c]; rfl) (sr_ ?_))))
    have u1 : decide ((23 : Int) = 23) = true := rfl
    have u4 : decide ((0 : Int) = 0) = true := rfl
    refine run_ 2 K rfl fun a K => run_ 3 (fx_ K u1) rfl fun a K => run_ 2 (fx_ K u4) rfl fun a K => cl_ K Try.func16 (by kernel_rfl) rfl rfl rfl rfl rfl rfl ((wakes_on).mono ?_)
    rintro _ w7 ⟨rfl, b7⟩
    replace M := M.call b7
    refine ⟨_, rfl, fun a K => run_ 2 K rfl fun a K => nil_ ?_⟩
    exact ret_ rfl K rfl ⟨rfl, fin M.bl⟩
end Go.Proofs.Ytmhpmkbifhgnbaa.Pure
