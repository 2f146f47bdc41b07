-- What Heavy tells of a rule: a text of this claim's own.
/- Heavy, the reference's Recur, Some, Years, wakes: as contracts. No condition beyond those each lemma names. -/
/- wakes of the statements of layer 22 answers true. No condition. -/
import Derived.Test.YtmhpmkbifhgnbaaHk
import Derived.Test.YtmhpmkbifhgnbaaMHS4
import Derived.Test.YtmhpmkbifhgnbaaMOx57
import Derived.Test.YtmhpmkbifhgnbaaMGSV
import Derived.Test.YtmhpmkbifhgnbaaOx62
import Derived.Test.YtmhpmkbifhgnbaaOx65
import Derived.Test.YtmhpmkbifhgnbaaMMOx0
namespace Go.Proofs.Ytmhpmkbifhgnbaa.O
open Go.RowKit Go.Proofs.YtmhpmkbifhgnbaaW.PrintWords Go.Proofs.YtmhpmkbifhgnbaaW.PrintLast Go.Proofs.YtmhpmkbifhgnbaaW.PrintMore
set_option linter.unusedVariables false
set_option linter.unusedSimpArgs false
/-- Has a rule a list that is long? -/
def heavyB (l0_6 : List Int) (l0_7 : List Int) (l0_8 : List Int) (l0_9 : List (S47)) (l0_10 : List Int) (l0_11 : List Int) (l0_12 : List Int) (l0_13 : List Int) (l0_14 : List Int) : Bool := decide (70 < l0_6.length ∨ 70 < l0_7.length ∨ 30 < l0_8.length ∨ 60 < l0_9.length ∨ 70 < l0_10.length ∨ 60 < l0_11.length ∨ 60 < l0_12.length ∨ 20 < l0_13.length ∨ 60 < l0_14.length)
set_option maxHeartbeats 8000000 in
set_option maxRecDepth 100000 in
theorem solsticelaw21_Heavy.calls (a0_0 : Int) (a0_1 : Int) (a0_2 : Int) (a0_3 : Bool) (a0_4 : Int) (a0_5 : Bool) (A0_6 : Option Addr) (c0_6 : Nat) (l0_6 : List Int) (A0_7 : Option Addr) (c0_7 : Nat) (l0_7 : List Int) (A0_8 : Option Addr) (c0_8 : Nat) (l0_8 : List Int) (A0_9 : Option Addr) (c0_9 : Nat) (l0_9 : List (S47)) (A0_10 : Option Addr) (c0_10 : Nat) (l0_10 : List Int) (A0_11 : Option Addr) (c0_11 : Nat) (l0_11 : List Int) (A0_12 : Option Addr) (c0_12 : Nat) (l0_12 : List Int) (A0_13 : Option Addr) (c0_13 : Nat) (l0_13 : List Int) (A0_14 : Option Addr) (c0_14 : Nat) (l0_14 : List Int) (a0_15 : Int) (w : World) :
    Calls Try.prog 9 #[.agg #[.int .i64 a0_0, .int .i64 a0_1, .int .i64 a0_2, .bool a0_3, .int .i64 a0_4, .bool a0_5, .slice A0_6 l0_6.length c0_6, .slice A0_7 l0_7.length c0_7, .slice A0_8 l0_8.length c0_8, .slice A0_9 l0_9.length c0_9, .slice A0_10 l0_10.length c0_10, .slice A0_11 l0_11.length c0_11, .slice A0_12 l0_12.length c0_12, .slice A0_13 l0_13.length c0_13, .slice A0_14 l0_14.length c0_14, .int .i64 a0_15]] w fun e w' => e = .returned (.bool (heavyB l0_6 l0_7 l0_8 l0_9 l0_10 l0_11 l0_12 l0_13 l0_14)) ∧ Below w.heap.size w w' := by
  go_enter Try.func9, Try.ntmps9
  refine act_abs (fun a => a.eval (.tmp 0) = .agg #[.int .i64 a0_0, .int .i64 a0_1, .int .i64 a0_2, .bool a0_3, .int .i64 a0_4, .bool a0_5, .slice A0_6 l0_6.length c0_6, .slice A0_7 l0_7.length c0_7, .slice A0_8 l0_8.length c0_8, .slice A0_9 l0_9.length c0_9, .slice A0_10 l0_10.length c0_10, .slice A0_11 l0_11.length c0_11, .slice A0_12 l0_12.length c0_12, .slice A0_13 l0_13.length c0_13, .slice A0_14 l0_14.length c0_14, .int .i64 a0_15] ∧ a.tmps.size = 55 ∧ a.defers = []) ⟨rfl, rfl, rfl⟩ ?_
  rintro a ⟨h0, S, D⟩
  refine wp_seq (wp_region_lit ?_)
  refine sv_ S rfl (by decide) (wanted_none rfl) (run_box rfl h0) (fun a1 S1 F1 v1 => ?_)
  refine sv_ S1 rfl (by decide) (wanted_none rfl) (run_assign rfl) (fun a2 S2 F2 v2 => ?_)
  have p := (F2.e 1).trans v1
  have D2 : a2.defers = [] := F2.df.trans (F1.df.trans D)
  have K := blk_new w (.cells #[.int .i64 a0_0, .int .i64 a0_1, .int .i64 a0_2, .bool a0_3, .int .i64 a0_4, .bool a0_5, .slice A0_6 l0_6.length c0_6, .slice A0_7 l0_7.length c0_7, .slice A0_8 l0_8.length c0_8, .slice A0_9 l0_9.length c0_9, .slice A0_10 l0_10.length c0_10, .slice A0_11 l0_11.length c0_11, .slice A0_12 l0_12.length c0_12, .slice A0_13 l0_13.length c0_13, .slice A0_14 l0_14.length c0_14, .int .i64 a0_15] 25 (0, 0))
  have B := below_alloc (Below.refl w.heap.size w) (.cells #[.int .i64 a0_0, .int .i64 a0_1, .int .i64 a0_2, .bool a0_3, .int .i64 a0_4, .bool a0_5, .slice A0_6 l0_6.length c0_6, .slice A0_7 l0_7.length c0_7, .slice A0_8 l0_8.length c0_8, .slice A0_9 l0_9.length c0_9, .slice A0_10 l0_10.length c0_10, .slice A0_11 l0_11.length c0_11, .slice A0_12 l0_12.length c0_12, .slice A0_13 l0_13.length c0_13, .slice A0_14 l0_14.length c0_14, .int .i64 a0_15] 25 (0, 0))
  clear S S1 F1 F2 v1 v2 h0 D
  generalize w.alloc (.cells #[.int .i64 a0_0, .int .i64 a0_1, .int .i64 a0_2, .bool a0_3, .int .i64 a0_4, .bool a0_5, .slice A0_6 l0_6.length c0_6, .slice A0_7 l0_7.length c0_7, .slice A0_8 l0_8.length c0_8, .slice A0_9 l0_9.length c0_9, .slice A0_10 l0_10.length c0_10, .slice A0_11 l0_11.length c0_11, .slice A0_12 l0_12.length c0_12, .slice A0_13 l0_13.length c0_13, .slice A0_14 l0_14.length c0_14, .int .i64 a0_15] 25 (0, 0)) = W at *
  show Code.wp Try.prog _ _ a2 W
  refine wp_seq (wp_region_lit ?_)
  refine first_len S2 p (by decide) ((blk_cell K 6).trans rfl) (Or.inl rfl) rfl rfl rfl rfl rfl rfl rfl rfl rfl rfl rfl rfl (by decide) (fun b1 F1 v1 => ?_)
  refine link_len (F1.sz.trans S2) (by decide) ((F1.e 1).trans p) v1 (by decide) ((blk_cell K 7).trans rfl) (Or.inl rfl) rfl rfl rfl rfl rfl rfl rfl rfl rfl rfl rfl rfl rfl rfl rfl rfl rfl rfl rfl (by decide) (fun b2 G2 v2 => ?_)
  have F2 := F1.trans (G2.m (lo' := 3))
  refine link_len (F2.sz.trans S2) (by decide) ((F2.e 1).trans p) v2 (by decide) ((blk_cell K 8).trans rfl) (Or.inl rfl) rfl rfl rfl rfl rfl rfl rfl rfl rfl rfl rfl rfl rfl rfl rfl rfl rfl rfl rfl (by decide) (fun b3 G3 v3 => ?_)
  have F3 := F2.trans (G3.m (lo' := 3))
  refine link_len (F3.sz.trans S2) (by decide) ((F3.e 1).trans p) v3 (by decide) ((blk_cell K 9).trans rfl) (Or.inr rfl) rfl rfl rfl rfl rfl rfl rfl rfl rfl rfl rfl rfl rfl rfl rfl rfl rfl rfl rfl (by decide) (fun b4 G4 v4 => ?_)
  have F4 := F3.trans (G4.m (lo' := 3))
  refine link_len (F4.sz.trans S2) (by decide) ((F4.e 1).trans p) v4 (by decide) ((blk_cell K 10).trans rfl) (Or.inl rfl) rfl rfl rfl rfl rfl rfl rfl rfl rfl rfl rfl rfl rfl rfl rfl rfl rfl rfl rfl (by decide) (fun b5 G5 v5 => ?_)
  have F5 := F4.trans (G5.m (lo' := 3))
  refine link_len (F5.sz.trans S2) (by decide) ((F5.e 1).trans p) v5 (by decide) ((blk_cell K 11).trans rfl) (Or.inl rfl) rfl rfl rfl rfl rfl rfl rfl rfl rfl rfl rfl rfl rfl rfl rfl rfl rfl rfl rfl (by decide) (fun b6 G6 v6 => ?_)
  have F6 := F5.trans (G6.m (lo' := 3))
  refine link_len (F6.sz.trans S2) (by decide) ((F6.e 1).trans p) v6 (by decide) ((blk_cell K 12).trans rfl) (Or.inl rfl) rfl rfl rfl rfl rfl rfl rfl rfl rfl rfl rfl rfl rfl rfl rfl rfl rfl rfl rfl (by decide) (fun b7 G7 v7 => ?_)
  have F7 := F6.trans (G7.m (lo' := 3))
  refine link_len (F7.sz.trans S2) (by decide) ((F7.e 1).trans p) v7 (by decide) ((blk_cell K 13).trans rfl) (Or.inl rfl) rfl rfl rfl rfl rfl rfl rfl rfl rfl rfl rfl rfl rfl rfl rfl rfl rfl rfl rfl (by decide) (fun b8 G8 v8 => ?_)
  have F8 := F7.trans (G8.m (lo' := 3))
  refine link_len (F8.sz.trans S2) (by decide) ((F8.e 1).trans p) v8 (by decide) ((blk_cell K 14).trans rfl) (Or.inl rfl) rfl rfl rfl rfl rfl rfl rfl rfl rfl rfl rfl rfl rfl rfl rfl rfl rfl rfl rfl (by decide) (fun b9 G9 v9 => ?_)
  have F9 := F8.trans (G9.m (lo' := 3))
  refine st_ rfl (wanted_none rfl) (run_assign rfl) ?_
  show Code.wp Try.prog Code.ret _ _ W
  refine wp_ret ?_
  have e : (b9.put (some 2) (b9.eval (.tmp 54))).eval (.tmp 2) = .bool (heavyB l0_6 l0_7 l0_8 l0_9 l0_10 l0_11 l0_12 l0_13 l0_14) := (eval_same (by rw [F9.sz, S2]; decide)).trans (v9.trans (congrArg Value.bool (by unfold heavyB; rw [Bool.eq_iff_iff]; simp only [Bool.or_eq_true, decide_eq_true_eq]; omega)))
  have d : (b9.put (some 2) (b9.eval (.tmp 54))).defers = [] := F9.df.trans D2
  generalize b9.put (some 2) (b9.eval (.tmp 54)) = z at *
  refine bodyPost_ret (results_tmp rfl _ _ _) d ?_
  unfold Act.eval at e
  dsimp only at e
  rw [e]
  exact ⟨rfl, B⟩
end Go.Proofs.Ytmhpmkbifhgnbaa.O

namespace Go.Proofs.Ytmhpmkbifhgnbaa.Pure
open Go.RowKit Go.Proofs.Ytmhpmkbifhgnbaa.O Go.Proofs.YtmhpmkbifhgnbaaW.PrintWords Go.Proofs.YtmhpmkbifhgnbaaW.PrintLast
open Go.Proofs.Ytmhpmkbifhgnbaa.Civ
set_option linter.unusedVariables false
set_option linter.unusedSimpArgs false
set_option maxRecDepth 100000
set_option maxHeartbeats 4000000
theorem heavy_on {w : World} {cs : Array Value} {r : RR} (R : Rul w cs r) : Calls Try.prog 9 #[.agg cs] w (Rets w (.bool (heavyB r.sec r.mi r.ho r.dy r.md r.yd r.wn r.mo r.sp))) := by
  obtain ⟨A6, k6, A7, k7, A8, k8, A9, k9, A10, k10, A11, k11, A12, k12, A13, k13, A14, k14, rfl, h6, h7, h8, h9, h10, h11, h12, h13, h14⟩ := rul_opens R
  exact solsticelaw21_Heavy.calls r.fr r.iv r.ct r.un r.ua r.utc A6 k6 r.sec A7 k7 r.mi A8 k8 r.ho A9 k9 r.dy A10 k10 r.md A11 k11 r.yd A12 k12 r.wn A13 k13 r.mo A14 k14 r.sp r.wk w
/-- The reference's Recur: where it says so, the rule is right. -/
theorem recur_on {w : World} {cs : Array Value} {r : RR} (R : Rul w cs r) (hua : -9223372036854775808 ≤ r.ua) (hua' : r.ua < 9223372036854775808) : ∃ b, (b = true → Right r) ∧ ∀ W, Below w.heap.size w W → Calls Try.prog 15 #[.agg cs] W (Rets W (.bool b)) := by
  obtain ⟨b, hb, h⟩ := rrecur r hua hua'
  obtain ⟨k, hk⟩ := hb.rounds
  refine ⟨b, h, fun W hW => ?_⟩
  obtain ⟨A6, k6, A7, k7, A8, k8, A9, k9, A10, k10, A11, k11, A12, k12, A13, k13, A14, k14, rfl, h6, h7, h8, h9, h10, h11, h12, h13, h14⟩ := rul_opens (R.below hW)
  exact solsticeref21_Recur.calls k r.fr r.iv r.ct r.un r.ua r.utc A6 k6 r.sec A7 k7 r.mi A8 k8 r.ho A9 k9 r.dy A10 k10 r.md A11 k11 r.yd A12 k12 r.wn A13 k13 r.mo A14 k14 r.sp r.wk b W h6.2 h6.1 h7.2 h7.1 h8.2 h8.1 h9.2 h9.1 h10.2 h10.1 h11.2 h11.1 h12.2 h12.1 h13.2 h13.1 h14.2 h14.1 hk
theorem some_on (a : Int) : ∃ t, InT t ∧ ∀ w, Calls Try.prog 21 #[.int .i64 a] w (Rets w (.int .i64 t)) := by
  obtain ⟨t, ht, h⟩ := some20 a
  obtain ⟨k, hk⟩ := h.rounds
  exact ⟨t, ht, fun w => solsticelaw20_Some.calls k a _ w hk⟩
theorem years_on {t : Int} (h : -9223372036854775808 ≤ t) (h' : t < 9223372036854775808) (w : World) : Calls Try.prog 18 #[.int .i64 t] w (Rets w (.tuple #[.agg #[.int .i64 (yearsV t).1, .int .i64 (yearsV t).2.1, .int .i64 (yearsV t).2.2.1], .bool (yearsV t).2.2.2])) := by
  obtain ⟨k, hk⟩ := (ryears h h').rounds
  exact solsticeref16_Years.calls k t _ _ _ _ w hk
def r0 : RR := ⟨5, 1, 0, false, 0, false, [], [], [], [⟨0, 5⟩], [], [], [], [], [], 1⟩
theorem r0_right : Right r0 := ⟨by decide, by decide, by decide, Or.inl ⟨rfl, rfl, rfl⟩⟩
theorem r0_per : perV r0 0 = 0 := by decide
theorem r0_span : spanV r0 0 = (-259200, 345599, 0) := by
  unfold spanV
  rw [if_pos (by decide)]
  rfl
theorem r0_a : letsV r0 0 86400 = true := by decide
theorem r0_b : letsV r0 0 0 = false := by decide
theorem r0_c : letsV r0 0 86401 = false := by decide
end Go.Proofs.Ytmhpmkbifhgnbaa.Pure

namespace Go.Proofs.Ytmhpmkbifhgnbaa.Pure
open Go.RowKit Go.Proofs.Ytmhpmkbifhgnbaa.O Go.Proofs.YtmhpmkbifhgnbaaW.PrintWords Go.Proofs.YtmhpmkbifhgnbaaW.PrintLast
open Go.Proofs.Ytmhpmkbifhgnbaa.Civ
set_option linter.unusedVariables false
set_option linter.unusedSimpArgs false
set_option maxRecDepth 100000
set_option maxHeartbeats 4000000
section
variable {ρ : Operand → Value} {o : Oper} {w : World}
theorem run_b47 (ho : o.op = .build 47 #[(1, .const (.int .i64 5))]) (hc : ∀ v, ρ (.const v) = v) : (execOp ρ o).run Try.prog w = .ok (.value (.agg #[.int .i64 0, .int .i64 5])) w := by
  have hu47 := Try.underlying47
  unfold execOp; rw [ho]
  first | (go_simp; done) | (go_simp; simp [hc]; done) | (simp only [hc, List.map_toArray, List.map_cons, List.map_nil]; go_simp)
theorem run_bs23 {x : Operand} {a b : Int} (ho : o.op = .buildSlice 23 1 #[(0, x)]) (hx : ρ x = .agg #[.int .i64 a, .int .i64 b]) : (execOp ρ o).run Try.prog w = .ok (.value (.slice (some ⟨w.heap.size, 0, none⟩) 1 1)) (w.alloc (.cells #[.int .i64 a, .int .i64 b] 47 (0, 0))) := by
  have hu47 := Try.underlying47
  have hu23 := Try.underlying23
  unfold execOp; rw [ho]
  first | (go_simp; done) | (simp only [hx, List.map_toArray, List.map_cons, List.map_nil]; go_simp; done) | (simp only [hx, List.map_toArray, List.map_cons, List.map_nil]; go_simp; rfl)
theorem run_bs22 {x : Operand} {a : Int} (ho : o.op = .buildSlice 22 1 #[(0, x)]) (hx : ρ x = .int .i64 a) : (execOp ρ o).run Try.prog w = .ok (.value (.slice (some ⟨w.heap.size, 0, none⟩) 1 1)) (w.alloc (.cells #[.int .i64 a] 3 (0, 0))) := by
  have hu22 := Try.underlying22
  unfold execOp; rw [ho]
  first | (go_simp; done) | (simp only [hx, List.map_toArray, List.map_cons, List.map_nil]; go_simp; done) | (simp only [hx, List.map_toArray, List.map_cons, List.map_nil]; go_simp; rfl)
theorem run_b25 {x : Operand} {A : Option Addr} {n c : Nat} (ho : o.op = .build 25 #[(0, .const (.int .i64 5)), (1, .const (.int .i64 1)), (9, x), (15, .const (.int .i64 1))]) (hc : ∀ v, ρ (.const v) = v) (hx : ρ x = .slice A n c) : (execOp ρ o).run Try.prog w = .ok (.value (.agg (c16 r0 (.slice none 0 0) (.slice none 0 0) (.slice none 0 0) (.slice A n c) (.slice none 0 0) (.slice none 0 0) (.slice none 0 0) (.slice none 0 0) (.slice none 0 0)))) w := by
  have hu25 := Try.underlying25
  unfold execOp; rw [ho]
  simp only [hx, hc, List.map_toArray, List.map_cons, List.map_nil]
  first | (go_simp; done) | (go_simp; rfl)
end
theorem inl_nil (w : World) : InL w (some (.slice none 0 0)) [] := ⟨none, 0, rfl, Nat.le_refl _, rfl, by simp, fun h => absurd h (by simp)⟩
theorem ind_one {W : World} {g : Nat} {x : S47} (h : W.heap[g]? = some (.cells #[.int .i64 x.f0, .int .i64 x.f1] 47 (0, 0))) : InD W (some (.slice (some ⟨g, 0, none⟩) 1 1)) [x] := by
  refine ⟨_, _, rfl, Nat.le_refl _, rfl, by simp, fun _ => ⟨_, rfl, fun j p hp => ?_⟩⟩
  have hj := (List.getElem?_eq_some_iff.1 hp).1
  obtain rfl : j = 0 := by simpa using hj
  obtain rfl : x = p := by simpa using hp
  refine ⟨_, rfl, k47_mk W x, fun i u hu => ?_⟩
  match i, hu with
  | 0, hu => exact ((blk_cell h 0).trans rfl).trans hu
  | 1, hu => exact ((blk_cell h 1).trans rfl).trans hu
theorem wakes_on {w : World} : Calls Try.prog 16 #[] w (Rets w (.bool true)) := by
  refine en_ Try.func16 rfl rfl rfl fun a K => sr_ (run_ 1 K rfl fun a K => nil_ (sr_ (val_ K rfl rfl rfl (run_b47 rfl (fun _ => rfl)) fun a K => val_ K rfl rfl rfl (run_bs23 rfl (K.of (x := .tmp 7) rfl)) fun a K => val_ K rfl rfl rfl (run_b25 rfl (fun _ => rfl) (K.of (x := .tmp 8) rfl)) fun a K => ?_)))
  have B0 := below_alloc (Below.refl w.heap.size w) (.cells #[.int .i64 0, .int .i64 5] 47 (0, 0))
  have D := ind_one (x := ⟨0, 5⟩) (blk_new w (.cells #[.int .i64 0, .int .i64 5] 47 (0, 0)))
  generalize w.alloc (.cells #[.int .i64 0, .int .i64 5] 47 (0, 0)) = W0 at *
  have R : Rul W0 (c16 r0 (.slice none 0 0) (.slice none 0 0) (.slice none 0 0) (.slice (some ⟨w.heap.size, 0, none⟩) 1 1) (.slice none 0 0) (.slice none 0 0) (.slice none 0 0) (.slice none 0 0) (.slice none 0 0)) r0 := ⟨rfl, rfl, rfl, rfl, rfl, rfl, rfl, inl_nil W0, inl_nil W0, inl_nil W0, D, inl_nil W0, inl_nil W0, inl_nil W0, inl_nil W0, inl_nil W0, rfl⟩
  refine nw_ K (On.nil W0) rfl rfl rfl rfl rfl rfl rfl (fun _ => rfl) rfl rfl rfl fun a g W M K => nil_ (sr_ ?_)
  refine lda_ K M 0 rfl rfl rfl rfl rfl rfl rfl rfl fun a K => cl_ K Try.func11 (by kernel_rfl) rfl rfl rfl rfl rfl rfl ((Period_on (R.below M.bl) r0_right 0).mono ?_)
  rw [if_pos (show InT 0 by decide), r0_per]
  rintro _ w1 ⟨rfl, b1⟩
  replace M := M.call b1
  refine ⟨_, rfl, fun a K => run_ 5 K rfl fun a K => nil_ (sr_ (lda_ K M 0 rfl rfl rfl rfl rfl rfl rfl rfl fun a K => run_ 1 K rfl fun a K => cl_ K Try.func13 (by kernel_rfl) rfl rfl rfl rfl rfl rfl ((Span_on (R.below M.bl) r0_right 0).mono ?_)))⟩
  rw [r0_span]
  rintro _ w2 ⟨rfl, b2⟩
  replace M := M.call b2
  refine ⟨_, rfl, fun a K => run_ 7 K rfl fun a K => nil_ (sr_ (run_ 11 K rfl fun a K => run_ 2 (fx_ (c := true) K (by show decide (wrap64 (345599 - -259200) = 604799) = true; rw [w64 (by omega) (by omega)]; rfl)) rfl fun a K => lda_ K M 0 rfl rfl rfl rfl rfl rfl rfl rfl fun a K => cl_ K Try.func12 (by kernel_rfl) rfl rfl rfl rfl rfl rfl ((lets_on (R.below M.bl) r0_right (by decide) (by decide) (by decide) (by decide)).mono ?_)))⟩
  rw [r0_a]
  rintro _ w3 ⟨rfl, b3⟩
  replace M := M.call b3
  refine ⟨_, rfl, fun a K => run_ 2 K rfl fun a K => lda_ K M 0 rfl rfl rfl rfl rfl rfl rfl rfl fun a K => cl_ K Try.func12 (by kernel_rfl) rfl rfl rfl rfl rfl rfl ((lets_on (R.below M.bl) r0_right (by decide) (by decide) (by decide) (by decide)).mono ?_)⟩
  rw [r0_b]
  rintro _ w4 ⟨rfl, b4⟩
  replace M := M.call b4
  refine ⟨_, rfl, fun a K => run_ 3 K rfl fun a K => lda_ K M 0 rfl rfl rfl rfl rfl rfl rfl rfl fun a K => cl_ K Try.func12 (by kernel_rfl) rfl rfl rfl rfl rfl rfl ((lets_on (R.below M.bl) r0_right (by decide) (by decide) (by decide) (by decide)).mono ?_)⟩
  rw [r0_c]
  rintro _ w5 ⟨rfl, b5⟩
  exact ⟨_, rfl, fun a K => run_ 3 K rfl fun a K => nil_ (ret_ rfl K rfl ⟨rfl, below_step B0 (M.call b5).bl⟩)⟩
end Go.Proofs.Ytmhpmkbifhgnbaa.Pure
