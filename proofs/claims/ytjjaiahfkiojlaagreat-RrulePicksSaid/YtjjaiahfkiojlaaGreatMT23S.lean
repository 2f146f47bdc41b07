-- What Heavy tells of a rule: a text of this claim's own.
/- Heavy and the reference's Recur and Years as contracts. No condition beyond those each lemma names. -/
/- A period's times are those that the rule lets, and they rise, in plain numbers. No condition beyond those each lemma names. -/
import Derived.Test.YtjjaiahfkiojlaaGreatHk
import Derived.Test.YtjjaiahfkiojlaaGreatMOx10
import Derived.Test.YtjjaiahfkiojlaaGreatGSV23
import Derived.Test.YtjjaiahfkiojlaaGreatOx12
import Derived.Test.YtjjaiahfkiojlaaGreatOx152
import Derived.Test.YtjjaiahfkiojlaaGreatMT23j
import Derived.Test.YtjjaiahfkiojlaaGreatMOx8
import Derived.Test.YtjjaiahfkiojlaaGreatMOx150
namespace Go.Proofs.YtjjaiahfkiojlaaGreat.O
open Go.RowKit Go.Proofs.YtjjaiahfkiojlaaGreatW.PrintWords Go.Proofs.YtjjaiahfkiojlaaGreatW.PrintLast Go.Proofs.YtjjaiahfkiojlaaGreatW.PrintMore
set_option maxRecDepth 100000
set_option linter.unusedVariables false
set_option linter.unusedSimpArgs false
/-- Has a rule a list that is long? -/
def heavyB (l0_6 : List Int) (l0_7 : List Int) (l0_8 : List Int) (l0_9 : List (S67)) (l0_10 : List Int) (l0_11 : List Int) (l0_12 : List Int) (l0_13 : List Int) (l0_14 : List Int) : Bool := decide (70 < l0_6.length ∨ 70 < l0_7.length ∨ 30 < l0_8.length ∨ 60 < l0_9.length ∨ 70 < l0_10.length ∨ 60 < l0_11.length ∨ 60 < l0_12.length ∨ 20 < l0_13.length ∨ 60 < l0_14.length)
set_option maxHeartbeats 8000000 in
set_option maxRecDepth 100000 in
theorem solsticelaw21_Heavy.calls (a0_0 : Int) (a0_1 : Int) (a0_2 : Int) (a0_3 : Bool) (a0_4 : Int) (a0_5 : Bool) (A0_6 : Option Addr) (c0_6 : Nat) (l0_6 : List Int) (A0_7 : Option Addr) (c0_7 : Nat) (l0_7 : List Int) (A0_8 : Option Addr) (c0_8 : Nat) (l0_8 : List Int) (A0_9 : Option Addr) (c0_9 : Nat) (l0_9 : List (S67)) (A0_10 : Option Addr) (c0_10 : Nat) (l0_10 : List Int) (A0_11 : Option Addr) (c0_11 : Nat) (l0_11 : List Int) (A0_12 : Option Addr) (c0_12 : Nat) (l0_12 : List Int) (A0_13 : Option Addr) (c0_13 : Nat) (l0_13 : List Int) (A0_14 : Option Addr) (c0_14 : Nat) (l0_14 : List Int) (a0_15 : Int) (w : World) :
    Calls Tryz.prog 12 #[.agg #[.int .i64 a0_0, .int .i64 a0_1, .int .i64 a0_2, .bool a0_3, .int .i64 a0_4, .bool a0_5, .slice A0_6 l0_6.length c0_6, .slice A0_7 l0_7.length c0_7, .slice A0_8 l0_8.length c0_8, .slice A0_9 l0_9.length c0_9, .slice A0_10 l0_10.length c0_10, .slice A0_11 l0_11.length c0_11, .slice A0_12 l0_12.length c0_12, .slice A0_13 l0_13.length c0_13, .slice A0_14 l0_14.length c0_14, .int .i64 a0_15]] w fun e w' => e = .returned (.bool (heavyB l0_6 l0_7 l0_8 l0_9 l0_10 l0_11 l0_12 l0_13 l0_14)) ∧ Below w.heap.size w w' := by
  go_enter Tryz.func12, Tryz.ntmps12
  refine act_abs (fun a => a.eval (.tmp 0) = .agg #[.int .i64 a0_0, .int .i64 a0_1, .int .i64 a0_2, .bool a0_3, .int .i64 a0_4, .bool a0_5, .slice A0_6 l0_6.length c0_6, .slice A0_7 l0_7.length c0_7, .slice A0_8 l0_8.length c0_8, .slice A0_9 l0_9.length c0_9, .slice A0_10 l0_10.length c0_10, .slice A0_11 l0_11.length c0_11, .slice A0_12 l0_12.length c0_12, .slice A0_13 l0_13.length c0_13, .slice A0_14 l0_14.length c0_14, .int .i64 a0_15] ∧ a.tmps.size = 55 ∧ a.defers = []) ⟨rfl, rfl, rfl⟩ ?_
  rintro a ⟨h0, S, D⟩
  refine wp_seq (wp_region_lit ?_)
  refine sv_ S rfl (by decide) (wanted_none rfl) (run_box rfl h0) (fun a1 S1 F1 v1 => ?_)
  refine sv_ S1 rfl (by decide) (wanted_none rfl) (run_assign rfl) (fun a2 S2 F2 v2 => ?_)
  have p := (F2.e 1).trans v1
  have D2 : a2.defers = [] := F2.df.trans (F1.df.trans D)
  have K := blk_new w (.cells #[.int .i64 a0_0, .int .i64 a0_1, .int .i64 a0_2, .bool a0_3, .int .i64 a0_4, .bool a0_5, .slice A0_6 l0_6.length c0_6, .slice A0_7 l0_7.length c0_7, .slice A0_8 l0_8.length c0_8, .slice A0_9 l0_9.length c0_9, .slice A0_10 l0_10.length c0_10, .slice A0_11 l0_11.length c0_11, .slice A0_12 l0_12.length c0_12, .slice A0_13 l0_13.length c0_13, .slice A0_14 l0_14.length c0_14, .int .i64 a0_15] 25 (0, 0))
  have B := below_alloc (Below.refl w.heap.size w) (.cells #[.int .i64 a0_0, .int .i64 a0_1, .int .i64 a0_2, .bool a0_3, .int .i64 a0_4, .bool a0_5, .slice A0_6 l0_6.length c0_6, .slice A0_7 l0_7.length c0_7, .slice A0_8 l0_8.length c0_8, .slice A0_9 l0_9.length c0_9, .slice A0_10 l0_10.length c0_10, .slice A0_11 l0_11.length c0_11, .slice A0_12 l0_12.length c0_12, .slice A0_13 l0_13.length c0_13, .slice A0_14 l0_14.length c0_14, .int .i64 a0_15] 25 (0, 0))
  clear S S1 F1 F2 v1 v2 h0 D
  generalize w.alloc (.cells #[.int .i64 a0_0, .int .i64 a0_1, .int .i64 a0_2, .bool a0_3, .int .i64 a0_4, .bool a0_5, .slice A0_6 l0_6.length c0_6, .slice A0_7 l0_7.length c0_7, .slice A0_8 l0_8.length c0_8, .slice A0_9 l0_9.length c0_9, .slice A0_10 l0_10.length c0_10, .slice A0_11 l0_11.length c0_11, .slice A0_12 l0_12.length c0_12, .slice A0_13 l0_13.length c0_13, .slice A0_14 l0_14.length c0_14, .int .i64 a0_15] 25 (0, 0)) = W at *
  show Code.wp Tryz.prog _ _ a2 W
  refine wp_seq (wp_region_lit ?_)
  refine first_len S2 p (by decide) ((blk_cell K 6).trans rfl) (Or.inl rfl) rfl rfl rfl rfl rfl rfl rfl rfl rfl rfl rfl rfl (by decide) (fun b1 F1 v1 => ?_)
  refine link_len (F1.sz.trans S2) (by decide) ((F1.e 1).trans p) v1 (by decide) ((blk_cell K 7).trans rfl) (Or.inl rfl) rfl rfl rfl rfl rfl rfl rfl rfl rfl rfl rfl rfl rfl rfl rfl rfl rfl rfl rfl (by decide) (fun b2 G2 v2 => ?_)
  have F2 := F1.trans (G2.m (lo' := 3))
  refine link_len (F2.sz.trans S2) (by decide) ((F2.e 1).trans p) v2 (by decide) ((blk_cell K 8).trans rfl) (Or.inl rfl) rfl rfl rfl rfl rfl rfl rfl rfl rfl rfl rfl rfl rfl rfl rfl rfl rfl rfl rfl (by decide) (fun b3 G3 v3 => ?_)
  have F3 := F2.trans (G3.m (lo' := 3))
  refine link_len (F3.sz.trans S2) (by decide) ((F3.e 1).trans p) v3 (by decide) ((blk_cell K 9).trans rfl) (Or.inr rfl) rfl rfl rfl rfl rfl rfl rfl rfl rfl rfl rfl rfl rfl rfl rfl rfl rfl rfl rfl (by decide) (fun b4 G4 v4 => ?_)
  have F4 := F3.trans (G4.m (lo' := 3))
  refine link_len (F4.sz.trans S2) (by decide) ((F4.e 1).trans p) v4 (by decide) ((blk_cell K 10).trans rfl) (Or.inl rfl) rfl rfl rfl rfl rfl rfl rfl rfl rfl rfl rfl rfl rfl rfl rfl rfl rfl rfl rfl (by decide) (fun b5 G5 v5 => ?_)
  have F5 := F4.trans (G5.m (lo' := 3))
  refine link_len (F5.sz.trans S2) (by decide) ((F5.e 1).trans p) v5 (by decide) ((blk_cell K 11).trans rfl) (Or.inl rfl) rfl rfl rfl rfl rfl rfl rfl rfl rfl rfl rfl rfl rfl rfl rfl rfl rfl rfl rfl (by decide) (fun b6 G6 v6 => ?_)
  have F6 := F5.trans (G6.m (lo' := 3))
  refine link_len (F6.sz.trans S2) (by decide) ((F6.e 1).trans p) v6 (by decide) ((blk_cell K 12).trans rfl) (Or.inl rfl) rfl rfl rfl rfl rfl rfl rfl rfl rfl rfl rfl rfl rfl rfl rfl rfl rfl rfl rfl (by decide) (fun b7 G7 v7 => ?_)
  have F7 := F6.trans (G7.m (lo' := 3))
  refine link_len (F7.sz.trans S2) (by decide) ((F7.e 1).trans p) v7 (by decide) ((blk_cell K 13).trans rfl) (Or.inl rfl) rfl rfl rfl rfl rfl rfl rfl rfl rfl rfl rfl rfl rfl rfl rfl rfl rfl rfl rfl (by decide) (fun b8 G8 v8 => ?_)
  have F8 := F7.trans (G8.m (lo' := 3))
  refine link_len (F8.sz.trans S2) (by decide) ((F8.e 1).trans p) v8 (by decide) ((blk_cell K 14).trans rfl) (Or.inl rfl) rfl rfl rfl rfl rfl rfl rfl rfl rfl rfl rfl rfl rfl rfl rfl rfl rfl rfl rfl (by decide) (fun b9 G9 v9 => ?_)
  have F9 := F8.trans (G9.m (lo' := 3))
  refine st_ rfl (wanted_none rfl) (run_assign rfl) ?_
  show Code.wp Tryz.prog Code.ret _ _ W
  refine wp_ret ?_
  have e : (b9.put (some 2) (b9.eval (.tmp 54))).eval (.tmp 2) = .bool (heavyB l0_6 l0_7 l0_8 l0_9 l0_10 l0_11 l0_12 l0_13 l0_14) := (eval_same (by rw [F9.sz, S2]; decide)).trans (v9.trans (congrArg Value.bool (by unfold heavyB; rw [Bool.eq_iff_iff]; simp only [Bool.or_eq_true, decide_eq_true_eq]; omega)))
  have d : (b9.put (some 2) (b9.eval (.tmp 54))).defers = [] := F9.df.trans D2
  generalize b9.put (some 2) (b9.eval (.tmp 54)) = z at *
  refine bodyPost_ret (results_tmp rfl _ _ _) d ?_
  unfold Act.eval at e
  dsimp only at e
  rw [e]
  exact ⟨rfl, B⟩
end Go.Proofs.YtjjaiahfkiojlaaGreat.O

namespace Go.Proofs.YtjjaiahfkiojlaaGreat.Pure
open Go.RowKit Go.Proofs.YtjjaiahfkiojlaaGreat.O Go.Proofs.YtjjaiahfkiojlaaGreatW.PrintWords Go.Proofs.YtjjaiahfkiojlaaGreatW.PrintLast
open Go.Proofs.YtjjaiahfkiojlaaGreat.Civ
set_option linter.unusedVariables false
set_option linter.unusedSimpArgs false
set_option maxRecDepth 100000
set_option maxHeartbeats 4000000
theorem heavy_on {w : World} {cs : Array Value} {r : RR} (R : Rul w cs r) : Calls Tryz.prog 12 #[.agg cs] w (Rets w (.bool (heavyB r.sec r.mi r.ho r.dy r.md r.yd r.wn r.mo r.sp))) := by
  obtain ⟨A6, k6, A7, k7, A8, k8, A9, k9, A10, k10, A11, k11, A12, k12, A13, k13, A14, k14, rfl, h6, h7, h8, h9, h10, h11, h12, h13, h14⟩ := rul_opens R
  exact solsticelaw21_Heavy.calls r.fr r.iv r.ct r.un r.ua r.utc A6 k6 r.sec A7 k7 r.mi A8 k8 r.ho A9 k9 r.dy A10 k10 r.md A11 k11 r.yd A12 k12 r.wn A13 k13 r.mo A14 k14 r.sp r.wk w
/-- The reference's Recur: where it says so, the rule is right. -/
theorem recur_on {w : World} {cs : Array Value} {r : RR} (R : Rul w cs r) (hua : -9223372036854775808 ≤ r.ua) (hua' : r.ua < 9223372036854775808) : ∃ b, (b = true → Right r) ∧ ∀ W, Below w.heap.size w W → Calls Tryz.prog 13 #[.agg cs] W (Rets W (.bool b)) := by
  obtain ⟨b, hb, h⟩ := rrecur r hua hua'
  obtain ⟨k, hk⟩ := hb.rounds
  refine ⟨b, h, fun W hW => ?_⟩
  obtain ⟨A6, k6, A7, k7, A8, k8, A9, k9, A10, k10, A11, k11, A12, k12, A13, k13, A14, k14, rfl, h6, h7, h8, h9, h10, h11, h12, h13, h14⟩ := rul_opens (R.below hW)
  exact solsticeref21_Recur.calls k r.fr r.iv r.ct r.un r.ua r.utc A6 k6 r.sec A7 k7 r.mi A8 k8 r.ho A9 k9 r.dy A10 k10 r.md A11 k11 r.yd A12 k12 r.wn A13 k13 r.mo A14 k14 r.sp r.wk b W h6.2 h6.1 h7.2 h7.1 h8.2 h8.1 h9.2 h9.1 h10.2 h10.1 h11.2 h11.1 h12.2 h12.1 h13.2 h13.1 h14.2 h14.1 hk
theorem years_on {t : Int} (h : -9223372036854775808 ≤ t) (h' : t < 9223372036854775808) (w : World) : Calls Tryz.prog 15 #[.int .i64 t] w (Rets w (.tuple #[.agg #[.int .i64 (yearsV t).1, .int .i64 (yearsV t).2.1, .int .i64 (yearsV t).2.2.1], .bool (yearsV t).2.2.2])) := by
  obtain ⟨k, hk⟩ := (ryears h h').rounds
  exact solsticeref16_Years.calls k t _ _ _ _ w hk
end Go.Proofs.YtjjaiahfkiojlaaGreat.Pure

namespace Go.Proofs.YtjjaiahfkiojlaaGreat.Pure
open Go.RowKit Go.Proofs.YtjjaiahfkiojlaaGreat.O Go.Proofs.YtjjaiahfkiojlaaGreatW.PrintWords Go.Proofs.YtjjaiahfkiojlaaGreatW.PrintLast
open Go.Proofs.YtjjaiahfkiojlaaGreat.Civ
set_option linter.unusedVariables false
set_option linter.unusedSimpArgs false
/-! What is told, told by what a rule lets -/
theorem choice_mem (l : List Int) (n x : Int) : x ∈ choiceV l n ↔ (l = [] ∧ x = n) ∨ (l ≠ [] ∧ x ∈ l) := by
  unfold choiceV
  split
  · rename_i h
    simp [h]
  · rename_i h
    rw [srt_mem]
    simp [h]
theorem clk_mem (hs ms ss : List Int) (x : Int) : x ∈ clk3 hs ms ss ↔ ∃ h ∈ hs, ∃ m ∈ ms, ∃ s ∈ ss, h * 3600 + m * 60 + s = x := by
  unfold clk3 clk2 clk1
  simp only [List.mem_flatMap, List.mem_map]
theorem clocks_mem {r : RR} (h : Right r) {s f x : Int} (hs : 0 ≤ s) (hs' : s < 86400) (hf : 0 ≤ f) (hf' : f < 86400) (hx : 0 ≤ x) (hx' : x < 86400) : x ∈ clocksV r s f ↔ x / 3600 ∈ hoursV r s f ∧ x % 3600 / 60 ∈ minsV r s f ∧ x % 60 ∈ secsV r s f := by
  obtain ⟨b1, b2, b3⟩ := clk_in h hs hs' hf hf'
  unfold clocksV
  rw [clk_mem]
  constructor
  · rintro ⟨a, ha, b, hb, c, hc, rfl⟩
    have q1 := b1 a ha
    have q2 := b2 b hb
    have q3 := b3 c hc
    have e1 : (a * 3600 + b * 60 + c) / 3600 = a := by omega
    have e2 : (a * 3600 + b * 60 + c) % 3600 / 60 = b := by omega
    have e3 : (a * 3600 + b * 60 + c) % 60 = c := by omega
    rw [e1, e2, e3]
    exact ⟨ha, hb, hc⟩
  · rintro ⟨q1, q2, q3⟩
    exact ⟨_, q1, _, q2, _, q3, by omega⟩
theorem one_choice (l : List Int) (n s own : Int) (asked : Bool) (h : asked = false → n = own) : n ∈ choiceV l (if asked = true then s else own) ↔ oneV l n s asked = true := by
  rw [choice_mem]
  unfold oneV
  by_cases c : l = []
  · cases asked with
    | true => simp [c]
    | false => simp [c, h rfl]
  · simp [c]
theorem clock_eq {r : RR} (h : Right r) {s f x : Int} (hs : 0 ≤ s) (hs' : s < 86400) (hf : 0 ≤ f) (hf' : f < 86400) (hx : 0 ≤ x) (hx' : x < 86400) (h3 : ¬ 3 < r.fr → x / 3600 = f / 3600) (h2 : ¬ 2 < r.fr → x % 3600 / 60 = f % 3600 / 60) (h1 : ¬ 1 < r.fr → x % 60 = f % 60) : x ∈ clocksV r s f ↔ clockV r s x = true := by
  rw [clocks_mem h hs hs' hf hf' hx hx']
  have a3 := one_choice r.ho (x / 3600) (s / 3600) (f / 3600) (decide (3 < r.fr)) (fun q => h3 (of_decide_eq_false q))
  have a2 := one_choice r.mi (x % 3600 / 60) (s % 3600 / 60) (f % 3600 / 60) (decide (2 < r.fr)) (fun q => h2 (of_decide_eq_false q))
  have a1 := one_choice r.sec (x % 60) (s % 60) (f % 60) (decide (1 < r.fr)) (fun q => h1 (of_decide_eq_false q))
  simp only [decide_eq_true_eq] at a1 a2 a3
  unfold clockV hoursV minsV secsV
  simp only [Bool.and_eq_true]
  rw [a3, a2, a1]
  constructor
  · rintro ⟨q1, q2, q3⟩; exact ⟨⟨q3, q2⟩, q1⟩
  · rintro ⟨⟨q3, q2⟩, q1⟩; exact ⟨q1, q2, q3⟩
theorem lets_mem {r : RR} (h : Right r) {st a b t : Int} : t ∈ letsL r st a b ↔ a ≤ t ∧ t ≤ b ∧ dayV r (st / 86400) (t / 86400) = true ∧ t % 86400 ∈ clocksV r (st % 86400) (a % 86400) := by
  have cd := clk_day h (s := st % 86400) (f := a % 86400) (by omega) (by omega) (by omega) (by omega)
  unfold letsL daysL
  generalize clocksV r (st % 86400) (a % 86400) = ts at cd
  simp only [List.mem_flatMap, List.mem_range]
  constructor
  · rintro ⟨i, hi, ht⟩
    unfold dayL at ht
    split at ht
    · rename_i hd
      unfold inL at ht
      simp only [List.mem_filter, List.mem_map] at ht
      obtain ⟨⟨x, hx, rfl⟩, hb⟩ := ht
      have c := cd x hx
      have e1 : ((a / 86400 + (i : Int)) * 86400 + x) / 86400 = a / 86400 + (i : Int) := by omega
      have e2 : ((a / 86400 + (i : Int)) * 86400 + x) % 86400 = x := by omega
      rw [e1, e2]
      simp at hb
      exact ⟨hb.1, hb.2, hd, hx⟩
    · cases ht
  · rintro ⟨h1, h2, h3, h4⟩
    refine ⟨(t / 86400 - a / 86400).toNat, by omega, ?_⟩
    have e : a / 86400 + (((t / 86400 - a / 86400).toNat : Nat) : Int) = t / 86400 := by omega
    rw [e]
    unfold dayL
    rw [if_pos h3]
    unfold inL
    simp only [List.mem_filter, List.mem_map]
    refine ⟨⟨_, h4, by omega⟩, ?_⟩
    rw [decide_eq_false (by omega), decide_eq_false (by omega)]
    rfl
/-- The times of a period: those within it that the rule lets. -/
theorem lets_spec {r : RR} (h : Right r) {st p t : Int} : t ∈ letsL r st (spanW r p).1 (spanW r p).2 ↔ (spanW r p).1 ≤ t ∧ t ≤ (spanW r p).2 ∧ dayV r (st / 86400) (t / 86400) = true ∧ clockV r (st % 86400) (t % 86400) = true := by
  rw [lets_mem h]
  constructor
  · rintro ⟨h1, h2, h3, h4⟩
    refine ⟨h1, h2, h3, ?_⟩
    have key := (clock_eq h (s := st % 86400) (f := (spanW r p).1 % 86400) (x := t % 86400) (by omega) (by omega) (by omega) (by omega) (by omega) (by omega) ?_ ?_ ?_).1 h4
    · exact key
    all_goals
      intro q
      unfold spanW at h1 h2 ⊢
      have f0 := h.lens.f0
      by_cases c1 : r.fr = 1
      · simp only [if_pos c1] at h1 h2 ⊢; omega
      by_cases c2 : r.fr = 2
      · simp only [if_neg c1, if_pos c2] at h1 h2 ⊢; omega
      by_cases c3 : r.fr = 3
      · simp only [if_neg c1, if_neg c2, if_pos c3] at h1 h2 ⊢; omega
      omega
  · rintro ⟨h1, h2, h3, h4⟩
    refine ⟨h1, h2, h3, ?_⟩
    refine (clock_eq h (s := st % 86400) (f := (spanW r p).1 % 86400) (x := t % 86400) (by omega) (by omega) (by omega) (by omega) (by omega) (by omega) ?_ ?_ ?_).2 h4
    all_goals
      intro q
      unfold spanW at h1 h2 ⊢
      have f0 := h.lens.f0
      by_cases c1 : r.fr = 1
      · simp only [if_pos c1] at h1 h2 ⊢; omega
      by_cases c2 : r.fr = 2
      · simp only [if_neg c1, if_pos c2] at h1 h2 ⊢; omega
      by_cases c3 : r.fr = 3
      · simp only [if_neg c1, if_neg c2, if_pos c3] at h1 h2 ⊢; omega
      omega
/-! They rise -/
theorem nodup_list {l : List Int} {b m : Int} {neg : Bool} (h : okList l b m neg = true) : l.Nodup := by
  simp only [okList, Bool.and_eq_true, decide_eq_true_eq] at h
  have h1 := h.1
  simp only [rightB, Bool.and_eq_true, Bool.not_eq_true'] at h1
  have := h1.2
  unfold dupI at this
  exact Classical.not_not.1 (of_decide_eq_false this)
theorem choice_rise {l : List Int} (n : Int) (h : l.Nodup) : (choiceV l n).Pairwise (· < ·) := by
  unfold choiceV
  split
  · simp
  · have p : (srt l).Perm l := List.mergeSort_perm _ _
    have s : (srt l).Pairwise (· ≤ ·) := by
      have := List.pairwise_mergeSort (le := fun x y : Int => decide (x ≤ y)) (fun a b c q1 q2 => by simp at q1 q2 ⊢; omega) (fun a b => by simp; omega) l
      unfold srt
      exact this.imp (fun q => by simpa using q)
    have nd : (srt l).Pairwise (· ≠ ·) := p.nodup_iff.2 h
    exact (s.and nd).imp (fun q => by omega)
theorem Right.nodups {r : RR} (h : Right r) : r.sec.Nodup ∧ r.mi.Nodup ∧ r.ho.Nodup := by
  have hh := h.ok
  simp only [okRecur, Bool.and_eq_true, decide_eq_true_eq] at hh
  obtain ⟨⟨⟨⟨⟨⟨q1, q2⟩, q3, q4⟩, q5, q6⟩, ⟨⟨⟨⟨⟨⟨⟨p6, p7⟩, p8⟩, p10⟩, p11⟩, p12⟩, p13⟩, p14⟩⟩, ⟨p91, p92⟩, p93⟩, pb⟩ := hh
  exact ⟨nodup_list p6, nodup_list p7, nodup_list p8⟩
theorem clocks_rise {r : RR} (h : Right r) {s f : Int} (hs : 0 ≤ s) (hs' : s < 86400) (hf : 0 ≤ f) (hf' : f < 86400) : (clocksV r s f).Pairwise (· < ·) := by
  obtain ⟨n1, n2, n3⟩ := h.nodups
  obtain ⟨b1, b2, b3⟩ := clk_in h hs hs' hf hf'
  have r1 : (hoursV r s f).Pairwise (· < ·) := choice_rise _ n3
  have r2 : (minsV r s f).Pairwise (· < ·) := choice_rise _ n2
  have r3 : (secsV r s f).Pairwise (· < ·) := choice_rise _ n1
  unfold clocksV
  generalize hoursV r s f = hs1 at b1 r1 ⊢
  generalize minsV r s f = ms at b2 r2 ⊢
  generalize secsV r s f = ss at b3 r3 ⊢
  have c1 : ∀ a m, (clk1 a m ss).Pairwise (· < ·) := fun a m => by
    unfold clk1
    rw [List.pairwise_map]
    exact r3.imp (fun q => by omega)
  have m1 : ∀ a m x, x ∈ clk1 a m ss → a * 3600 + m * 60 ≤ x ∧ x ≤ a * 3600 + m * 60 + 59 := fun a m x hx => by
    unfold clk1 at hx
    simp only [List.mem_map] at hx
    obtain ⟨c, hc, rfl⟩ := hx
    have := b3 c hc
    omega
  have c2 : ∀ a, (clk2 a ms ss).Pairwise (· < ·) := fun a => by
    unfold clk2
    rw [List.pairwise_flatMap]
    refine ⟨fun m _ => c1 a m, r2.imp (fun {m m'} q x hx y hy => ?_)⟩
    have := m1 _ _ _ hx
    have := m1 _ _ _ hy
    omega
  have m2 : ∀ a x, x ∈ clk2 a ms ss → a * 3600 ≤ x ∧ x ≤ a * 3600 + 3599 := fun a x hx => by
    unfold clk2 at hx
    simp only [List.mem_flatMap] at hx
    obtain ⟨m, hm, hx⟩ := hx
    have := b2 m hm
    have := m1 _ _ _ hx
    omega
  unfold clk3
  rw [List.pairwise_flatMap]
  refine ⟨fun a _ => c2 a, r1.imp (fun {a a'} q x hx y hy => ?_)⟩
  have := m2 _ _ hx
  have := m2 _ _ hy
  omega
theorem lets_rise {r : RR} (h : Right r) {st a b : Int} : (letsL r st a b).Pairwise (· < ·) := by
  have cr := clocks_rise h (s := st % 86400) (f := a % 86400) (by omega) (by omega) (by omega) (by omega)
  have cd := clk_day h (s := st % 86400) (f := a % 86400) (by omega) (by omega) (by omega) (by omega)
  unfold letsL daysL
  generalize clocksV r (st % 86400) (a % 86400) = ts at cr cd
  have one : ∀ d, (dayL r (st / 86400) a b ts d).Pairwise (· < ·) := fun d => by
    unfold dayL
    split
    · unfold inL
      exact List.Pairwise.filter _ (by rw [List.pairwise_map]; exact cr.imp (fun q => by omega))
    · exact List.Pairwise.nil
  have mem : ∀ d x, x ∈ dayL r (st / 86400) a b ts d → d * 86400 ≤ x ∧ x < d * 86400 + 86400 := fun d x hx => by
    unfold dayL at hx
    split at hx
    · unfold inL at hx
      simp only [List.mem_filter, List.mem_map] at hx
      obtain ⟨⟨y, hy, rfl⟩, _⟩ := hx
      have := cd y hy
      omega
    · cases hx
  rw [List.pairwise_flatMap]
  refine ⟨fun i _ => one _, List.pairwise_lt_range.imp (fun {i j} q x hx y hy => ?_)⟩
  have := mem _ _ hx
  have := mem _ _ hy
  omega
end Go.Proofs.YtjjaiahfkiojlaaGreat.Pure
