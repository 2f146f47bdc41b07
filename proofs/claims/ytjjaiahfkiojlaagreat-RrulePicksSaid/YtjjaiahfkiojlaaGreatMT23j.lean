/- A period's times, as a contract. No condition beyond those each lemma names. -/
/- How periods and spans hang together, in plain numbers. No condition beyond those each lemma names. -/
/- Where a worker begins, as a contract. No condition beyond those each lemma names. -/
import Derived.Test.YtjjaiahfkiojlaaGreatT23h
import Derived.Test.YtjjaiahfkiojlaaGreatMHS0
import Derived.Test.YtjjaiahfkiojlaaGreatMOx150
namespace Go.Proofs.YtjjaiahfkiojlaaGreat.Pure
open Go.RowKit Go.Proofs.YtjjaiahfkiojlaaGreat.O Go.Proofs.YtjjaiahfkiojlaaGreatW.PrintWords Go.Proofs.YtjjaiahfkiojlaaGreatW.PrintLast
open Go.Proofs.YtjjaiahfkiojlaaGreat.Civ
set_option linter.unusedVariables false
set_option linter.unusedSimpArgs false
set_option maxRecDepth 100000
set_option maxHeartbeats 4000000
theorem year_on {w : World} {t : Int} (h : InT t) : Calls Tryz.prog 79 #[.int .i64 t] w (Rets w (.bool true)) := by
  have s := day_split h
  have y := dt_year h
  refine en_ Tryz.func79 rfl rfl rfl fun a K => sr_ (run_ 1 K rfl fun a K => nil_ (sr_ (run_ 1 K rfl fun a K => cl_ K Tryz.func51 (by kernel_rfl) rfl rfl rfl rfl rfl rfl ((split_on s.1 s.2.1).mono ?_))))
  rintro _ w1 ⟨rfl, b1⟩
  refine ⟨_, rfl, fun a K => run_ 5 K rfl fun a K => nil_ (sr_ (run_ 1 K rfl fun a K => cl_ K Tryz.func73 (by kernel_rfl) rfl rfl rfl rfl rfl rfl ((date_on (Int.le_trans (by decide) y.2.2.1) (Int.le_trans y.2.2.2 (by decide))).mono ?_)))⟩
  rintro _ w2 ⟨rfl, b2⟩
  have M : On [] w w2 := ((On.nil w).call b1).call b2
  refine ⟨_, rfl, fun a K => run_ 3 K rfl fun a K => nw_ K M rfl rfl rfl rfl rfl rfl rfl (fun _ => rfl) rfl rfl rfl fun a g W M K => run_ 1 K rfl fun a K => nil_ (sr_ (run_ 3 K rfl fun a K => ?_))⟩
  refine run_ 1 (fx_ (c := true) K rfl) rfl fun a K => ld_ K M 0 rfl rfl rfl rfl rfl rfl rfl rfl fun a K => run_ 3 K rfl fun a K => ?_
  exact run_ 1 (fx_ (c := true) K (decide_eq_true y.1)) rfl fun a K => ld_ K M 0 rfl rfl rfl rfl rfl rfl rfl rfl fun a K => run_ 3 K rfl fun a K => nil_ (ret_ rfl K rfl ⟨by rw [← decide_eq_true y.2.1], M.bl⟩)
theorem check46_on {w : World} {cs : Array Value} {r : RR} {s : Int} (R : Rul w cs r) (h : Right r) (hs : InT s) : Calls Tryz.prog 46 #[.agg cs, .int .i64 s] w (Rets w (.int .i64 0)) := by
  refine en_ Tryz.func46 rfl rfl rfl fun a K => sr_ (bx_ K (On.nil w) rfl rfl rfl rfl rfl rfl fun a g0 W M K => run_ 1 K rfl fun a K => nil_ (sr_ (lda_ K M 0 rfl rfl rfl rfl rfl rfl rfl R.sz fun a K => cl_ K Tryz.func40 (by kernel_rfl) rfl rfl rfl rfl rfl rfl ((check_on (R.below M.bl) h).mono ?_))))
  rintro _ w1 ⟨rfl, b1⟩
  replace M := M.call b1
  refine ⟨_, rfl, fun a K => run_ 1 K rfl fun a K => nil_ (wp_seq (sr_ (run_ 3 K rfl fun a K => run_ 1 (fx_ (c := true) K rfl) rfl fun a K => cl_ K Tryz.func79 (by kernel_rfl) rfl rfl rfl rfl rfl rfl ((year_on hs).mono ?_))))⟩
  rintro _ w4 ⟨rfl, b4⟩
  replace M := M.call b4
  exact ⟨_, rfl, fun a K => run_ 2 K rfl fun a K => nil_ (cs_ K rfl rfl (sr_ (run_ 2 K rfl fun a K => nil_ (ret_ rfl K rfl ⟨rfl, M.bl⟩))))⟩
theorem lets_len {r : RR} (hw : Few r) {s p q : Int} (hp : InT p) (hq : InT q) : (letsL r s p q).length ≤ 4000000000000 := by
  have h1 := daysL_len r (s / 86400) p q (clocksV r (s % 86400) (p % 86400)) (p / 86400) (q / 86400 + 1 - p / 86400).toNat
  have h2 := let_n hp hq
  have h3 := clk_len hw (s % 86400) (p % 86400)
  have h4 := Nat.mul_le_mul h2 h3
  unfold letsL
  omega
theorem spanOk_in {r : RR} {p : Int} (h : (spanV r p).2.2 = 0) : InT (spanV r p).1 ∧ InT (spanV r p).2.1 := by
  unfold spanV at h ⊢
  split at h
  · rename_i e
    rw [if_pos e]
    exact e.2
  · cases h
theorem span_errno {r : RR} {p : Int} (h : (spanV r p).2.2 ≠ 0) : (spanV r p).2.2 = 23 := by
  unfold spanV at h ⊢
  split at h
  · exact absurd rfl h
  · rename_i e
    rw [if_neg e]
theorem eq0_ {n : Int} (h : n = 0) : decide (n = 0) = true := decide_eq_true h
theorem ne0_ {n : Int} (h : ¬ n = 0) : (!decide (n = 0)) = true := by rw [decide_eq_false h]; rfl
theorem ne0f_ {n : Int} (h : n = 0) : (!decide (n = 0)) = false := by rw [decide_eq_true h]; rfl
theorem of_on {w : World} {cs : Array Value} {r : RR} (R : Rul w cs r) (h : Right r) (hw : Few r) {s p : Int} (hs : InT s) :
    Calls Tryz.prog 24 #[.agg cs, .int .i64 s, .int .i64 p] w fun e W' => ∃ v', e = .returned (.tuple #[v', .int .i64 (ofV r s p).2]) ∧ Kd.R (Kd.int .i64) 3 W' w.heap.size (fun _ => True) v' (ofV r s p).1 ∧ Below w.heap.size w W' := by
  have fl : Tryz.prog.follows .mixedOrders = true := by kernel_rfl
  refine en_ Tryz.func24 rfl rfl rfl fun a K => sr_ (bx_ K (On.nil w) rfl rfl rfl rfl rfl rfl fun a g0 W M K => run_ 2 K rfl fun a K => nil_ (sr_ (lda_ K M 0 rfl rfl rfl rfl rfl rfl rfl R.sz fun a K => run_ 1 K rfl fun a K => cl_ K Tryz.func46 (by kernel_rfl) rfl rfl rfl rfl rfl rfl ((check46_on (R.below M.bl) h hs).mono ?_))))
  rintro _ w2 ⟨rfl, b2⟩
  replace M := M.call b2
  refine ⟨_, rfl, fun a K => run_ 1 K rfl fun a K => nil_ (wp_seq (sr_ (run_ 2 K rfl fun a K => nil_ (cs_ K rfl rfl (sr_ (lda_ K M 0 rfl rfl rfl rfl rfl rfl rfl R.sz fun a K => run_ 1 K rfl fun a K => cl_ K Tryz.func17 (by kernel_rfl) rfl rfl rfl rfl rfl rfl ((Span_on (R.below M.bl) h p).mono ?_)))))))⟩
  rintro _ w3 ⟨rfl, b3⟩
  replace M := M.call b3
  refine ⟨_, rfl, fun a K => run_ 7 K rfl fun a K => nil_ (wp_seq (sr_ (run_ 2 K rfl fun a K => nil_ ?_)))⟩
  unfold ofV
  by_cases c : (spanV r p).2.2 = 0
  case neg =>
    rw [if_neg c]
    exact ct_ K rfl (ne0_ c) (sr_ (run_ 3 K rfl fun a K => nil_ (ret2_ rfl K rfl rfl ⟨_, rfl, Kd.R_nil _ _ _ _ _, M.bl⟩)))
  rw [if_pos c]
  obtain ⟨i1, i2⟩ := spanOk_in c
  have len := lets_len (s := s) hw i1 i2
  refine cs_ K rfl (ne0f_ c) ?_
  generalize (spanV r p).1 = A at i1 len K ⊢
  generalize (spanV r p).2.1 = B at i2 len K ⊢
  refine dseq_ fl rfl rfl M.drew (dp_ 28 6 [2, 3, 4] K rfl rfl (by kernel_rfl) fun a K => dlda_ 29 0 K M.drew 0 rfl rfl rfl rfl rfl rfl rfl rfl R.sz (by kernel_rfl) fun a K => dlda_ 31 1 K M.drew 0 rfl rfl rfl rfl rfl rfl rfl rfl R.sz (by kernel_rfl) fun a K => dc_ 63 5 K Tryz.func56 (by kernel_rfl) rfl rfl rfl rfl rfl rfl rfl (by kernel_rfl) ((letss_on (R.below M.drew.bl) h hw hs i1 i2 (show (0 : Int) ≤ 4611686018427387904 by decide)).mono ?_))
  rintro _ w5 ⟨v5, rfl, R5, b5⟩
  rw [all_take (Int.le_trans (Int.ofNat_le.2 len) (by decide))] at R5
  replace R5 := Kd.R_lower R5 M.drew.bl.size
  replace M := M.drew.call b5
  refine ⟨_, rfl, M, fun a K => ?_⟩
  unfold placesV
  by_cases d : r.sp = []
  · rw [if_pos d]
    refine dc_ 127 6 K Tryz.func55 (by kernel_rfl) rfl rfl rfl rfl rfl rfl rfl (by kernel_rfl) ((places_nil (R.below M.bl) d).mono ?_)
    rintro _ w6 ⟨rfl, b6⟩
    replace M := M.call b6
    exact ⟨_, rfl, M, fun a K => dp_ 511 0 [7, 8] K rfl rfl (by kernel_rfl) fun a K => dend_ (by kernel_rfl) (ret2_ rfl K rfl rfl ⟨_, rfl, Kd.R_below R5 b6, M.bl⟩)⟩
  · rw [if_neg d]
    obtain ⟨A5, c5, e5, _, C5⟩ := Kd.R_reads R5
    subst e5
    refine dc_ 127 6 K Tryz.func55 (by kernel_rfl) rfl rfl rfl rfl rfl rfl rfl (by kernel_rfl) ((places_own (R.below M.bl) d h.lens.sp C5 (Nat.le_trans len (by decide))).mono ?_)
    rintro _ w6 ⟨v6, rfl, R6, b6⟩
    have sz := M.bl.size
    replace M := M.call b6
    exact ⟨_, rfl, M, fun a K => dp_ 511 0 [7, 8] K rfl rfl (by kernel_rfl) fun a K => dend_ (by kernel_rfl) (ret2_ rfl K rfl rfl ⟨_, rfl, Kd.R_lower R6 sz, M.bl⟩)⟩
end Go.Proofs.YtjjaiahfkiojlaaGreat.Pure

namespace Go.Proofs.YtjjaiahfkiojlaaGreat.Pure
open Go.RowKit Go.Proofs.YtjjaiahfkiojlaaGreat.O Go.Proofs.YtjjaiahfkiojlaaGreatW.PrintWords Go.Proofs.YtjjaiahfkiojlaaGreatW.PrintLast
open Go.Proofs.YtjjaiahfkiojlaaGreat.Civ
set_option linter.unusedVariables false
set_option linter.unusedSimpArgs false
theorem fw_lt {a b k : Int} (h : fw a k < fw b k) : a < b := by
  by_cases c : a < b
  · exact c
  exfalso
  have e := ah_le (a := b) (b := a) (by omega)
  have b1 := fw_bd a k
  have b2 := fw_bd b k
  by_cases q : a = b
  · subst q; omega
  · omega
/-- A day's period. -/
noncomputable def perD (r : RR) (n : Int) : Int := if r.fr = 4 then n else if r.fr = 5 then (n + 4 - r.wk) / 7 else if r.fr = 6 then 12 * (dt n).1 + (dt n).2.1 - 1 else if r.wn = [] then (dt n).1 else wy r n
theorem perV_D {r : RR} (h1 : ¬ r.fr = 1) (h2 : ¬ r.fr = 2) (h3 : ¬ r.fr = 3) (t : Int) : perV r t = perD r (t / 86400) := by
  unfold perV perD
  rw [if_neg h1, if_neg h2, if_neg h3]
theorem wy_fw {r : RR} (h : Lens r) {n : Int} (hn : -719162 ≤ n) (hn' : n ≤ 2932896) : fw (wy r n) r.wk ≤ n ∧ n < fw (wy r n + 1) r.wk := by
  have m := yr_mid (k := r.wk) hn hn'
  unfold wy
  rw [noV_in hn hn' h.w0 h.w1]
  exact mid_fw m.2.2.1 m.2.2.2
theorem num_31 (y : Int) : num y 12 31 = ah (y + 1) - 719528 - 1 := by
  unfold num
  have e : cum y 12 = 334 + lpi y := by simp [cum]
  have := ah_succ y
  omega
theorem whole_in {r : RR} (h : Lens r) {n : Int} (hn : -719162 ≤ n) (hn' : n ≤ 2932896) : (wholeV r (perD r n)).1 ≤ n ∧ n ≤ (wholeV r (perD r n)).2 := by
  have hs := dt_spec (n := n) (by omega) (by omega)
  have w0 := h.w0
  have w1 := h.w1
  obtain ⟨⟨y0, y1, m0, m1, d0, d1⟩, e⟩ := hs
  unfold wholeV perD
  by_cases c4 : r.fr = 4
  · simp only [if_pos c4]; omega
  by_cases c5 : r.fr = 5
  · simp only [if_neg c4, if_pos c5]; omega
  by_cases c6 : r.fr = 6
  · simp only [if_neg c4, if_neg c5, if_pos c6]
    rw [show (12 * (dt n).1 + (dt n).2.1 - 1) / 12 = (dt n).1 by omega, show (12 * (dt n).1 + (dt n).2.1 - 1) % 12 + 1 = (dt n).2.1 by omega]
    unfold num at *
    omega
  by_cases c7 : r.wn = []
  · simp only [if_neg c4, if_neg c5, if_neg c6, if_pos c7]
    rw [num_31, num_1]
    have := num_in ⟨y0, y1, m0, m1, d0, d1⟩
    rw [e] at this
    omega
  · simp only [if_neg c4, if_neg c5, if_neg c6, if_neg c7]
    have := wy_fw h hn hn'
    omega
theorem whole_eq {r : RR} (h : Lens r) {n p : Int} (hn : -719162 ≤ n) (hn' : n ≤ 2932896) (b6 : r.fr = 6 → 0 ≤ p ∧ p ≤ 120011) (l : (wholeV r p).1 ≤ n) (u : n ≤ (wholeV r p).2) : perD r n = p := by
  have w0 := h.w0
  have w1 := h.w1
  unfold wholeV at l u
  unfold perD
  by_cases c4 : r.fr = 4
  · simp only [if_pos c4] at *; omega
  by_cases c5 : r.fr = 5
  · simp only [if_neg c4, if_pos c5] at *; omega
  by_cases c6 : r.fr = 6
  · simp only [if_neg c4, if_neg c5, if_pos c6] at *
    have b := b6 c6
    have e : n = num (p / 12) (p % 12 + 1) (n - num (p / 12) (p % 12 + 1) 1 + 1) := by unfold num; omega
    have hr : Rt (p / 12) (p % 12 + 1) (n - num (p / 12) (p % 12 + 1) 1 + 1) := ⟨by omega, by omega, by omega, by omega, by omega, by omega⟩
    rw [e, dt_num hr]
    show 12 * (p / 12) + (p % 12 + 1) - 1 = p
    omega
  by_cases c7 : r.wn = []
  · simp only [if_neg c4, if_neg c5, if_neg c6, if_pos c7] at *
    rw [num_1] at l
    rw [num_31] at u
    exact yr_eq (by omega) (by omega) (by omega) (by omega)
  · simp only [if_neg c4, if_neg c5, if_neg c6, if_neg c7] at *
    have m := yr_mid (k := r.wk) hn hn'
    unfold wy
    rw [noV_in hn hn' w0 w1]
    exact mid_yr m.2.2.1 m.2.2.2 l (by omega)
theorem whole_next (r : RR) (p : Int) : (wholeV r (p + 1)).1 = (wholeV r p).2 + 1 := by
  unfold wholeV
  by_cases c4 : r.fr = 4
  · simp only [if_pos c4]
  by_cases c5 : r.fr = 5
  · simp only [if_neg c4, if_pos c5]; omega
  by_cases c6 : r.fr = 6
  · simp only [if_neg c4, if_neg c5, if_pos c6]
    by_cases q : p % 12 = 11
    · rw [show (p + 1) / 12 = p / 12 + 1 by omega, show (p + 1) % 12 + 1 = 1 by omega, q]
      show num (p / 12 + 1) 1 1 = num (p / 12) 12 1 + ln (p / 12) 12 - 1 + 1
      have e := num_31 (p / 12)
      rw [num_1]
      have e2 : ln (p / 12) 12 = 31 := by simp [ln]
      unfold num at *
      omega
    · rw [show (p + 1) / 12 = p / 12 by omega, show (p + 1) % 12 + 1 = p % 12 + 1 + 1 by omega]
      have := cum_succ (p / 12) (p % 12 + 1) (by omega) (by omega)
      unfold num
      omega
  by_cases c7 : r.wn = []
  · simp only [if_neg c4, if_neg c5, if_neg c6, if_pos c7]
    rw [num_31, num_1]
    omega
  · simp only [if_neg c4, if_neg c5, if_neg c6, if_neg c7]
    omega
theorem whole_len (r : RR) (p : Int) : (wholeV r p).1 ≤ (wholeV r p).2 ∧ (wholeV r p).2 ≤ (wholeV r p).1 + 371 := by
  unfold wholeV
  by_cases c4 : r.fr = 4
  · simp only [if_pos c4]; omega
  by_cases c5 : r.fr = 5
  · simp only [if_neg c4, if_pos c5]; omega
  by_cases c6 : r.fr = 6
  · simp only [if_neg c4, if_neg c5, if_pos c6]
    have := ln_bd (p / 12) (p % 12 + 1) (by omega) (by omega)
    omega
  have a := ah_succ p
  have l := lpi_01 p
  by_cases c7 : r.wn = []
  · simp only [if_neg c4, if_neg c5, if_neg c6, if_pos c7]
    rw [num_31, num_1]
    omega
  · simp only [if_neg c4, if_neg c5, if_neg c6, if_neg c7]
    have b1 := fw_bd p r.wk
    have b2 := fw_bd (p + 1) r.wk
    omega
theorem inP_per {r : RR} (h : Lens r) {t : Int} (ht : InT t) : InP r (perV r t) := by
  have y := dt_year ht
  have hm := (dt_spec (n := t / 86400) (by omega) (by omega)).1.2.2
  have ht' := ht
  unfold InT at ht'
  have f0 := h.f0
  have f1 := h.f1
  unfold InP perV
  rw [dt_least, dt_most]
  by_cases c1 : r.fr = 1
  · simp only [if_pos c1]; omega
  by_cases c2 : r.fr = 2
  · simp only [if_neg c1, if_pos c2]; omega
  by_cases c3 : r.fr = 3
  · simp only [if_neg c1, if_neg c2, if_pos c3]; omega
  by_cases c4 : r.fr = 4
  · simp only [if_neg c1, if_neg c2, if_neg c3, if_pos c4]; omega
  by_cases c5 : r.fr = 5
  · simp only [if_neg c1, if_neg c2, if_neg c3, if_neg c4, if_pos c5]; omega
  by_cases c6 : r.fr = 6
  · simp only [if_neg c1, if_neg c2, if_neg c3, if_neg c4, if_neg c5, if_pos c6]; omega
  by_cases c7 : r.wn = []
  · simp only [if_neg c1, if_neg c2, if_neg c3, if_neg c4, if_neg c5, if_neg c6, if_pos c7]; omega
  · simp only [if_neg c1, if_neg c2, if_neg c3, if_neg c4, if_neg c5, if_neg c6, if_neg c7]
    have a1 := wy_fw (n := -62135596800 / 86400) h (by decide) (by decide)
    have a2 := wy_fw (n := t / 86400) h y.2.2.1 y.2.2.2
    have a3 := wy_fw (n := 253402300799 / 86400) h (by decide) (by decide)
    constructor
    · have := fw_lt (a := wy r (-62135596800 / 86400)) (b := wy r (t / 86400) + 1) (k := r.wk) (by omega)
      omega
    · have := fw_lt (a := wy r (t / 86400)) (b := wy r (253402300799 / 86400) + 1) (k := r.wk) (by omega)
      omega
theorem span_in {r : RR} (h : Lens r) {t : Int} (ht : InT t) : (spanW r (perV r t)).1 ≤ t ∧ t ≤ (spanW r (perV r t)).2 := by
  have y := dt_year ht
  by_cases c1 : r.fr = 1
  · unfold spanW perV; simp only [if_pos c1]; omega
  by_cases c2 : r.fr = 2
  · unfold spanW perV; simp only [if_neg c1, if_pos c2]; omega
  by_cases c3 : r.fr = 3
  · unfold spanW perV; simp only [if_neg c1, if_neg c2, if_pos c3]; omega
  rw [perV_D c1 c2 c3]
  have w := whole_in h y.2.2.1 y.2.2.2
  unfold spanW
  simp only [if_neg c1, if_neg c2, if_neg c3]
  omega
theorem span_eq {r : RR} (h : Lens r) {x p : Int} (hx : InT x) (b6 : r.fr = 6 → 0 ≤ p ∧ p ≤ 120011) (l : (spanW r p).1 ≤ x) (u : x ≤ (spanW r p).2) : perV r x = p := by
  have y := dt_year hx
  unfold spanW at l u
  by_cases c1 : r.fr = 1
  · unfold perV; simp only [if_pos c1] at *; omega
  by_cases c2 : r.fr = 2
  · unfold perV; simp only [if_neg c1, if_pos c2] at *; omega
  by_cases c3 : r.fr = 3
  · unfold perV; simp only [if_neg c1, if_neg c2, if_pos c3] at *; omega
  rw [perV_D c1 c2 c3]
  simp only [if_neg c1, if_neg c2, if_neg c3] at l u
  exact whole_eq h y.2.2.1 y.2.2.2 b6 (by omega) (by omega)
theorem span_next (r : RR) (p : Int) : (spanW r (p + 1)).1 = (spanW r p).2 + 1 := by
  unfold spanW
  by_cases c1 : r.fr = 1
  · simp only [if_pos c1]
  by_cases c2 : r.fr = 2
  · simp only [if_neg c1, if_pos c2]; omega
  by_cases c3 : r.fr = 3
  · simp only [if_neg c1, if_neg c2, if_pos c3]; omega
  simp only [if_neg c1, if_neg c2, if_neg c3]
  have := whole_next r p
  omega
theorem span_out {r : RR} (h : Lens r) {t : Int} (ht : InT t) (ho : ¬ (InT (spanW r (perV r t)).1 ∧ InT (spanW r (perV r t)).2)) : (dt (t / 86400)).1 < 3 ∨ 9997 < (dt (t / 86400)).1 := by
  have y := dt_year ht
  have si := span_in h ht
  have b := yr_bd (n := t / 86400) (by omega) (by omega)
  have key : t / 86400 < -719162 + 371 ∨ 2932896 - 371 < t / 86400 := by
    unfold InT at ht ho
    unfold spanW at ho si
    by_cases c1 : r.fr = 1
    · unfold perV at *; simp only [if_pos c1] at *; omega
    by_cases c2 : r.fr = 2
    · unfold perV at *; simp only [if_neg c1, if_pos c2] at *; omega
    by_cases c3 : r.fr = 3
    · unfold perV at *; simp only [if_neg c1, if_neg c2, if_pos c3] at *; omega
    simp only [if_neg c1, if_neg c2, if_neg c3] at ho si
    have l := whole_len r (perV r t)
    omega
  have e3 : ah 3 = 1096 := by decide
  have e9 : ah 9998 = 3651695 := by decide
  rcases key with k | k
  · left
    exact ah_mono (by have : yr (t / 86400) = (dt (t / 86400)).1 := rfl; rw [← this, e3]; omega)
  · right
    have := ah_mono (a := 9998) (b := (dt (t / 86400)).1 + 1) (by have : yr (t / 86400) = (dt (t / 86400)).1 := rfl; rw [← this, e9]; omega)
    omega
theorem spanW_le (r : RR) (p : Int) : (spanW r p).1 ≤ (spanW r p).2 := by
  unfold spanW
  split
  · exact Int.le_refl _
  split
  · dsimp only; omega
  split
  · dsimp only; omega
  · have := (whole_len r p).1
    dsimp only; omega
theorem span_rise (r : RR) (p : Int) (n : Nat) : (spanW r p).1 + n ≤ (spanW r (p + n)).1 ∧ (spanW r p).2 + n ≤ (spanW r (p + n)).2 := by
  induction n with
  | zero => simp
  | succ n ih =>
    have e := span_next r (p + n)
    have a := spanW_le r (p + n)
    have b := spanW_le r (p + n + 1)
    have e2 : p + ((n + 1 : Nat) : Int) = p + n + 1 := by omega
    rw [e2]
    omega
theorem span_lt (r : RR) {p q : Int} (h : p < q) : (spanW r p).2 < (spanW r q).1 := by
  have := (span_rise r (p + 1) (q - p - 1).toNat).1
  rw [show p + 1 + ((q - p - 1).toNat : Int) = q by omega] at this
  have := span_next r p
  omega
theorem per_mono {r : RR} (h : Lens r) {t u : Int} (ht : InT t) (hu : InT u) (l : t ≤ u) : perV r t ≤ perV r u := by
  refine Int.not_lt.1 fun c => ?_
  have := span_lt r c
  have a := span_in h ht
  have b := span_in h hu
  omega
theorem inP_small {r : RR} (h : Lens r) {p : Int} (hp : InP r p) : -62135596800 ≤ p ∧ p ≤ 253402300799 := by
  have b := inP_bd h hp
  have f0 := h.f0
  have f1 := h.f1
  have : r.fr = 1 ∨ r.fr = 2 ∨ r.fr = 3 ∨ r.fr = 4 ∨ r.fr = 5 ∨ r.fr = 6 ∨ r.fr = 7 := by omega
  rcases this with e | e | e | e | e | e | e
  · exact b.1 e
  · have := b.2.1 e; omega
  · have := b.2.2.1 e; omega
  · have := b.2.2.2.1 e; omega
  · have := b.2.2.2.2.1 e; omega
  · have := b.2.2.2.2.2.1 e; omega
  · by_cases q : r.wn = []
    · have := b.2.2.2.2.2.2.1 e q; omega
    · have := b.2.2.2.2.2.2.2 e q; omega
theorem Right.iv {r : RR} (h : Right r) : 1 ≤ r.iv ∧ r.iv ≤ 1000 := by
  have hh := h.ok
  simp only [okRecur, Bool.and_eq_true, decide_eq_true_eq] at hh
  exact hh.1.1.1.1.2
/-- The first period's numbers. -/
theorem over_w {r : RR} (h : Right r) {t u : Int} (ht : InT t) (hu : InT u) (l : t ≤ u) :
    wrap64 (Int.tdiv (wrap64 (wrap64 (wrap64 (perV r u - perV r t) + r.iv) - 1)) r.iv) = (perV r u - perV r t + r.iv - 1) / r.iv ∧ wrap64 (perV r t + wrap64 ((perV r u - perV r t + r.iv - 1) / r.iv * r.iv)) = perV r t + (perV r u - perV r t + r.iv - 1) / r.iv * r.iv ∧ r.iv ≠ 0 := by
  have m := per_mono h.lens ht hu l
  have a := inP_small h.lens (inP_per h.lens ht)
  have b := inP_small h.lens (inP_per h.lens hu)
  obtain ⟨i1, i2⟩ := h.iv
  generalize perV r u = U at m b ⊢
  generalize perV r t = T at m a ⊢
  generalize r.iv = I at i1 i2 ⊢
  have e0 : 0 ≤ U - T + I - 1 := by omega
  have d0 : 0 ≤ (U - T + I - 1) / I := Int.ediv_nonneg e0 (by omega)
  have d1 : (U - T + I - 1) / I * I ≤ U - T + I - 1 := Int.ediv_mul_le _ (by omega)
  have d2 : (U - T + I - 1) / I ≤ U - T + I - 1 := Int.ediv_le_self _ e0
  have d3 : 0 ≤ (U - T + I - 1) / I * I := Int.mul_nonneg d0 (by omega)
  rw [w64 (x := U - T) (by omega) (by omega), w64 (x := U - T + I) (by omega) (by omega), w64 (x := U - T + I - 1) (by omega) (by omega), tdiv_nn I e0]
  generalize (U - T + I - 1) / I = D at d0 d1 d2 d3 ⊢
  rw [w64 (x := D) (by omega) (by omega), w64 (x := D * I) (by omega) (by omega), w64 (by omega) (by omega)]
  exact ⟨rfl, rfl, by omega⟩
end Go.Proofs.YtjjaiahfkiojlaaGreat.Pure

namespace Go.Proofs.YtjjaiahfkiojlaaGreat.Pure
open Go.RowKit Go.Proofs.YtjjaiahfkiojlaaGreat.O Go.Proofs.YtjjaiahfkiojlaaGreatW.PrintWords Go.Proofs.YtjjaiahfkiojlaaGreatW.PrintLast
open Go.Proofs.YtjjaiahfkiojlaaGreat.Civ
set_option linter.unusedVariables false
set_option linter.unusedSimpArgs false
set_option maxRecDepth 100000
set_option maxHeartbeats 4000000
/-- What is behind a part, joined. -/
theorem sj_ (J : Act → World → Prop) {a : Act} {w : World} {x y : Code} {Q : Exit → Act → World → Prop} (h : x.wp Tryz.prog (Exit.then J Q) a w) (k : ∀ a' w', J a' w' → y.wp Tryz.prog Q a' w') : (Code.seq x y).wp Tryz.prog Q a w := by
  refine wp_seq (wp_mono h (fun e a' w' hq => ?_))
  cases e with
  | normal => exact k _ _ hq
  | _ => exact hq
theorem on_mem {L : List (Nat × Obj)} {w0 W : World} (M : On L w0 W) {p : Nat × Obj} (hp : p ∈ L) : W.heap[p.1]? = some p.2 := by
  obtain ⟨k, hk, e⟩ := List.mem_iff_getElem.1 hp
  exact M.me k p.1 p.2 (by rw [List.getElem?_eq_getElem hk, e])
theorem on_of {L : List (Nat × Obj)} {w0 W : World} (bl : Below w0.heap.size w0 W) (me : ∀ p ∈ L, W.heap[p.1]? = some p.2) (nd : (L.map (·.1)).Nodup) : On L w0 W := ⟨bl, fun k g o e => me (g, o) (List.mem_of_getElem? e), nd⟩
/-- A block more, behind the first two. -/
theorem on_third {L : List (Nat × Obj)} {w0 W : World} {p q : Nat × Obj} {g : Nat} {o : Obj} (M : On (p :: q :: L) w0 W) (hg : W.heap[g]? = some o) (hne : ∀ x ∈ p :: q :: L, x.1 ≠ g) : On (p :: q :: (g, o) :: L) w0 W := by
  refine on_of M.bl (fun x hx => ?_) ?_
  · rcases List.mem_cons.1 hx with rfl | hx
    · exact on_mem M (.head _)
    rcases List.mem_cons.1 hx with rfl | hx
    · exact on_mem M (.tail _ (.head _))
    rcases List.mem_cons.1 hx with rfl | hx
    · exact hg
    · exact on_mem M (.tail _ (.tail _ hx))
  · have nd := M.nd
    simp only [List.map_cons, List.nodup_cons, List.mem_cons, List.mem_map, not_or, not_exists, not_and] at nd ⊢
    have h1 := hne p (.head _)
    have h2 := hne q (.tail _ (.head _))
    exact ⟨⟨nd.1.1, h1, nd.1.2⟩, ⟨h2, nd.2.1⟩, fun x hx => hne x (.tail _ (.tail _ hx)), nd.2.2⟩
theorem on_less {L : List (Nat × Obj)} {w0 W : World} {p q x : Nat × Obj} (M : On (p :: q :: x :: L) w0 W) : On (p :: q :: L) w0 W := by
  refine on_of M.bl (fun y hy => ?_) ?_
  · rcases List.mem_cons.1 hy with rfl | hy
    · exact on_mem M (.head _)
    rcases List.mem_cons.1 hy with rfl | hy
    · exact on_mem M (.tail _ (.head _))
    · exact on_mem M (.tail _ (.tail _ (.tail _ hy)))
  · have nd := M.nd
    simp only [List.map_cons, List.nodup_cons, List.mem_cons, not_or] at nd ⊢
    exact ⟨⟨nd.1.1, nd.1.2.2⟩, nd.2.1.2, nd.2.2.2⟩
theorem ne0n_ {n : Int} (h : ¬ ¬ n = 0) : (!decide (n = 0)) = false := ne0f_ (Decidable.not_not.1 h)
theorem quo_ {m n : Int} (h : n ≠ 0) : binE .quo m n = some (.int .i64 (wrap64 (Int.tdiv m n))) := by
  simp only [binE, decide_eq_false h]
theorem begins_on {L : List (Nat × Obj)} {w0 W : World} (M : On L w0 W) {gw gm : Nat} {r : RR} {s : Sl} {st from_ to_ ct : Int} {v : Value} (hL : L[0]? = some (gw, .cells (wc r s st from_ to_ gm ct v) 86 (0, 0))) (R : Rul W (rc r s) r) (h : Right r) (hs : InT st) :
    Calls Tryz.prog 80 #[.pointer (some ⟨gw, 0, none⟩)] W (Rets W (.tuple #[.int .i64 (beginV r st from_).1, .bool (beginV r st from_).2])) := by
  have fl : Tryz.prog.follows .mixedOrders = true := by kernel_rfl
  replace M := M.here
  obtain ⟨g, hg⟩ : ∃ g, g = decide ((spanV r (perV r st)).2.2 ≠ 0 ∨ 0 < r.ct ∨ from_ ≤ st) := ⟨_, rfl⟩
  have P1 : ∀ V, Rul V (rc r s) r → Calls Tryz.prog 16 #[.agg (rc r s), .int .i64 st] V (Rets V (.tuple #[.int .i64 (perV r st), .int .i64 0])) := fun V hV => by
    have := Period_on hV h st
    rw [if_pos hs] at this
    exact this
  refine en_ Tryz.func80 rfl rfl rfl fun a K => sr_ (run_ 2 K rfl fun a K => nil_ ?_)
  refine dseq_ fl rfl rfl M.drew (dp_ 119 8 [0, 1, 2, 4, 5, 6] K rfl rfl (by kernel_rfl) fun a K => dldr_ 127 3 K M.drew 0 rfl hL rfl rfl rfl rfl rfl (by kernel_rfl) fun a K => dld_ 255 7 K M.drew 0 rfl hL rfl rfl rfl rfl rfl rfl rfl (by kernel_rfl) fun a K => dc_ 511 8 K Tryz.func16 (by kernel_rfl) rfl rfl rfl rfl rfl rfl rfl (by kernel_rfl) ((P1 _ (R.below M.drew.bl)).mono ?_))
  rintro _ W1 ⟨rfl, b8⟩
  replace M := M.drew.call b8
  refine ⟨_, rfl, M, fun a K => dp_ 16383 0 [9, 10, 12, 11, 13] K rfl rfl (by kernel_rfl) fun a K => dend_ (by kernel_rfl) ?_⟩
  refine sr_ (run_ 3 K rfl fun a K => ldr_ K M 0 hL rfl rfl rfl rfl rfl fun a K => run_ 1 K rfl fun a K => cl_ K Tryz.func17 (by kernel_rfl) rfl rfl rfl rfl rfl rfl ((Span_on (R.below M.bl) h (perV r st)).mono ?_))
  rintro _ W2 ⟨rfl, b5⟩
  replace M := M.call b5
  refine ⟨_, rfl, fun a K => run_ 7 K rfl fun a K => nil_ (wp_seq ?_)⟩
  refine sj_ (fun a' w' => w' = W2.drew ∧ Kn 96 [(53, .bool g), (8, .int .i64 (spanV r (perV r st)).2.2), (4, .int .i64 (perV r st)), (0, .pointer (some ⟨gw, 0, none⟩))] a') (draw_ fl rfl rfl M.drew (dp_ 7 18 [0, 1, 2] K rfl rfl (by kernel_rfl) fun a K => ?_)) ?_
  replace M := M.drew
  by_cases c1 : ¬ (spanV r (perV r st)).2.2 = 0
  case pos =>
    refine dp_ 2097151 0 [3, 4, 5, 6, 7, 8, 9, 10, 11, 12, 13, 14, 15, 16, 17, 18, 19, 20] (fx_ K (ne0_ c1)) rfl rfl (by kernel_rfl) fun a K => dend_ (by kernel_rfl) ?_
    exact ⟨rfl, fg_ (ks_ (i := 53) (u := .bool g) K rfl (congrArg Value.bool (by rw [hg]; simp [c1]))) ⟨rfl, rfl, rfl, rfl, trivial⟩⟩
  case neg =>
    refine dp_ 127 14 [3, 4, 5, 6] (fx_ K (ne0n_ c1)) rfl rfl (by kernel_rfl) fun a K => dld_ 255 7 K M 0 rfl hL rfl rfl rfl rfl rfl rfl rfl (by kernel_rfl) fun a K => dp_ 2047 10 [8, 9, 10] K rfl rfl (by kernel_rfl) fun a K => ?_
    by_cases c2 : 0 < r.ct
    case pos =>
      refine dp_ 2097151 0 [11, 12, 13, 14, 15, 16, 17, 18, 19, 20] (fx_ K (decide_eq_true c2)) rfl rfl (by kernel_rfl) fun a K => dend_ (by kernel_rfl) ?_
      exact ⟨rfl, fg_ (ks_ (i := 53) (u := .bool g) K rfl (congrArg Value.bool (by rw [hg]; simp [c2]))) ⟨rfl, rfl, rfl, rfl, trivial⟩⟩
    case neg =>
      refine dp_ 245759 4 [11, 12, 13, 15, 16, 17] (fx_ K (decide_eq_false c2)) rfl rfl (by kernel_rfl) fun a K => dld_ 262143 14 K M 0 rfl hL rfl rfl rfl rfl rfl rfl rfl (by kernel_rfl) fun a K => dld_ 524287 18 K M 0 rfl hL rfl rfl rfl rfl rfl rfl rfl (by kernel_rfl) fun a K => dp_ 2097151 0 [19, 20] K rfl rfl (by kernel_rfl) fun a K => dend_ (by kernel_rfl) ?_
      exact ⟨rfl, fg_ (ks_ (i := 53) (u := .bool g) K rfl (congrArg Value.bool (by rw [hg]; simp [c1, c2]))) ⟨rfl, rfl, rfl, rfl, trivial⟩⟩
  rintro a _ ⟨rfl, K⟩
  replace M := M.drew
  unfold beginV
  cases g with
  | true =>
    rw [if_pos (of_decide_eq_true hg.symm)]
    exact ct_ K rfl rfl (sr_ (run_ 5 K rfl fun a K => nil_ (ret2_ rfl K rfl rfl ⟨rfl, M.bl⟩)))
  | false =>
  have hn := of_decide_eq_false hg.symm
  rw [if_neg hn]
  have hlt : st ≤ from_ := by
    refine Int.not_lt.1 fun q => hn (Or.inr (Or.inr (Int.le_of_lt q)))
  refine cs_ K rfl rfl ?_
  refine dseq_ fl rfl rfl M.drew (dp_ 119 8 [0, 1, 2, 4, 5, 6] K rfl rfl (by kernel_rfl) fun a K => dldr_ 127 3 K M.drew 0 rfl hL rfl rfl rfl rfl rfl (by kernel_rfl) fun a K => dld_ 255 7 K M.drew 0 rfl hL rfl rfl rfl rfl rfl rfl rfl (by kernel_rfl) fun a K => dc_ 511 8 K Tryz.func16 (by kernel_rfl) rfl rfl rfl rfl rfl rfl rfl (by kernel_rfl) ((Period_on (R.below M.drew.bl) h from_).mono ?_))
  rintro _ W3 ⟨rfl, b9⟩
  replace M := M.drew.call b9
  refine ⟨_, rfl, M, fun a K => ?_⟩
  by_cases hf : InT from_
  case neg =>
    rw [if_neg hf] at K ⊢
    exact dp_ 16383 0 [9, 10, 12, 11, 13] K rfl rfl (by kernel_rfl) fun a K => dend_ (by kernel_rfl) (wp_seq (sr_ (run_ 2 K rfl fun a K => nil_ (ct_ K rfl rfl (sr_ (run_ 2 K rfl fun a K => nil_ (ret2_ rfl K rfl rfl ⟨rfl, M.bl⟩)))))))
  rw [if_pos hf] at K ⊢
  obtain ⟨o1, o2, o3⟩ := over_w h hs hf hlt
  refine dp_ 16383 0 [9, 10, 12, 11, 13] K rfl rfl (by kernel_rfl) fun a K => dend_ (by kernel_rfl) (wp_seq (sr_ (run_ 2 K rfl fun a K => nil_ (cs_ K rfl rfl ?_))))
  have dz : decide (r.iv = 0) = false := decide_eq_false o3
  refine dseq_ fl rfl rfl M.drew (dp_ 15487 6 [0, 1, 2, 3, 4, 5, 6, 10, 11, 12, 13] K rfl rfl (by kernel_rfl) fun a K => dld_ 15615 7 K M.drew 0 rfl hL rfl rfl rfl rfl rfl rfl rfl (by kernel_rfl) fun a K => dp_ 16383 3 [8, 9] K rfl rfl (by kernel_rfl) fun a K => dld_ 32767 14 K M.drew 0 rfl hL rfl rfl rfl rfl rfl rfl rfl (by kernel_rfl) fun a K => dt_ 65535 15 K M.drew rfl rfl rfl rfl (by kernel_rfl) (fun W hW => run_bin rfl Tryz.underlying3 Tryz.underlying3 (K.of (x := .tmp 80) rfl) (K.of (x := .tmp 85) rfl) (quo_ o3)) fun a K => dp_ 131071 0 [16] K rfl rfl (by kernel_rfl) fun a K => dend_ (by kernel_rfl) ?_)
  replace M := M.drew
  replace K := ks_ (i := 10) K rfl (congrArg (Value.int .i64) o1)
  refine sr_ (run_ 6 K rfl fun a K => ld_ K M 0 hL rfl rfl rfl rfl rfl rfl rfl fun a K => run_ 4 K rfl fun a K => nil_ (ret2_ rfl K rfl rfl ⟨by rw [← o2], M.bl⟩))
end Go.Proofs.YtjjaiahfkiojlaaGreat.Pure
