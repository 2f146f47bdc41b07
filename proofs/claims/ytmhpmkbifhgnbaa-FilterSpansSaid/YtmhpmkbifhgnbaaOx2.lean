-- What Heavy tells of a rule: a text of this claim's own.
import Derived.Test.YtmhpmkbifhgnbaaHk
namespace Go.Proofs.Ytmhpmkbifhgnbaa.O
open Go.RowKit Go.Proofs.YtmhpmkbifhgnbaaW.PrintWords Go.Proofs.YtmhpmkbifhgnbaaW.PrintLast Go.Proofs.YtmhpmkbifhgnbaaW.PrintMore
set_option linter.unusedVariables false
set_option linter.unusedSimpArgs false
/-- Has a rule a list that is long? -/
def heavyB (l0_6 : List Int) (l0_7 : List Int) (l0_8 : List Int) (l0_9 : List (S47)) (l0_10 : List Int) (l0_11 : List Int) (l0_12 : List Int) (l0_13 : List Int) (l0_14 : List Int) : Bool := decide (70 < l0_6.length ∨ 70 < l0_7.length ∨ 30 < l0_8.length ∨ 60 < l0_9.length ∨ 70 < l0_10.length ∨ 60 < l0_11.length ∨ 60 < l0_12.length ∨ 20 < l0_13.length ∨ 60 < l0_14.length)
set_option maxHeartbeats 8000000 in
set_option maxRecDepth 100000 in
theorem solsticelaw21_Heavy.calls (a0_0 : Int) (a0_1 : Int) (a0_2 : Int) (a0_3 : Bool) (a0_4 : Int) (a0_5 : Bool) (A0_6 : Option Addr) (c0_6 : Nat) (l0_6 : List Int) (A0_7 : Option Addr) (c0_7 : Nat) (l0_7 : List Int) (A0_8 : Option Addr) (c0_8 : Nat) (l0_8 : List Int) (A0_9 : Option Addr) (c0_9 : Nat) (l0_9 : List (S47)) (A0_10 : Option Addr) (c0_10 : Nat) (l0_10 : List Int) (A0_11 : Option Addr) (c0_11 : Nat) (l0_11 : List Int) (A0_12 : Option Addr) (c0_12 : Nat) (l0_12 : List Int) (A0_13 : Option Addr) (c0_13 : Nat) (l0_13 : List Int) (A0_14 : Option Addr) (c0_14 : Nat) (l0_14 : List Int) (a0_15 : Int) (w : World) :
    Calls Try.prog 9 #[.agg #[.int .i64 a0_0, .int .i64 a0_1, .int .i64 a0_2, .bool a0_3, .int .i64 a0_4, .bool a0_5, .slice A0_6 l0_6.length c0_6, .slice A0_7 l0_7.length c0_7, .slice A0_8 l0_8.length c0_8, .slice A0_9 l0_9.length c0_9, .slice A0_10 l0_10.length c0_10, .slice A0_11 l0_11.length c0_11, .slice A0_12 l0_12.length c0_12, .slice A0_13 l0_13.length c0_13, .slice A0_14 l0_14.length c0_14, .int .i64 a0_15]] w fun e w' => e = .returned (.bool (heavyB l0_6 l0_7 l0_8 l0_9 l0_10 l0_11 l0_12 l0_13 l0_14)) ∧ Below w.heap.size w w' := by
  go_enter Try.func9, Try.ntmps9
  refine act_abs (fun a => a.eval (.tmp 0) = .agg #[.int .i64 a0_0, .int .i64 a0_1, .int .i64 a0_2, .bool a0_3, .int .i64 a0_4, .bool a0_5, .slice A0_6 l0_6.length c0_6, .slice A0_7 l0_7.length c0_7, .slice A0_8 l0_8.length c0_8, .slice A0_9 l0_9.length c0_9, .slice A0_10 l0_10.length c0_10, .slice A0_11 l0_11.length c0_11, .slice A0_12 l0_12.length c0_12, .slice A0_13 l0_13.length c0_13, .slice A0_14 l0_14.length c0_14, .int .i64 a0_15] ∧ a.tmps.size = 55 ∧ a.defers = []) ⟨rfl, rfl, rfl⟩ ?_
  rintro a ⟨h0, S, D⟩
  refine wp_seq (wp_region_lit ?_)
  refine sv_ S rfl (by decide) (wanted_none rfl) (run_box rfl h0) (fun a1 S1 F1 v1 => ?_)
  refine sv_ S1 rfl (by decide) (wanted_none rfl) (run_assign rfl) (fun a2 S2 F2 v2 => ?_)
  have p := (F2.e 1).trans v1
  have D2 : a2.defers = [] := F2.df.trans (F1.df.trans D)
  have K := blk_new w (.cells #[.int .i64 a0_0, .int .i64 a0_1, .int .i64 a0_2, .bool a0_3, .int .i64 a0_4, .bool a0_5, .slice A0_6 l0_6.length c0_6, .slice A0_7 l0_7.length c0_7, .slice A0_8 l0_8.length c0_8, .slice A0_9 l0_9.length c0_9, .slice A0_10 l0_10.length c0_10, .slice A0_11 l0_11.length c0_11, .slice A0_12 l0_12.length c0_12, .slice A0_13 l0_13.length c0_13, .slice A0_14 l0_14.length c0_14, .int .i64 a0_15] 25 (0, 0))
  have B := below_alloc (Below.refl w.heap.size w) (.cells #[.int .i64 a0_0, .int .i64 a0_1, .int .i64 a0_2, .bool a0_3, .int .i64 a0_4, .bool a0_5, .slice A0_6 l0_6.length c0_6, .slice A0_7 l0_7.length c0_7, .slice A0_8 l0_8.length c0_8, .slice A0_9 l0_9.length c0_9, .slice A0_10 l0_10.length c0_10, .slice A0_11 l0_11.length c0_11, .slice A0_12 l0_12.length c0_12, .slice A0_13 l0_13.length c0_13, .slice A0_14 l0_14.length c0_14, .int .i64 a0_15] 25 (0, 0))
  clear S S1 F1 F2 v1 v2 h0 D
  generalize w.alloc (.cells #[.int .i64 a0_0, .int .i64 a0_1, .int .i64 a0_2, .bool a0_3, .int .i64 a0_4, .bool a0_5, .slice A0_6 l0_6.length c0_6, .slice A0_7 l0_7.length c0_7, .slice A0_8 l0_8.length c0_8, .slice A0_9 l0_9.length c0_9, .slice A0_10 l0_10.length c0_10, .slice A0_11 l0_11.length c0_11, .slice A0_12 l0_12.length c0_12, .slice A0_13 l0_13.length c0_13, .slice A0_14 l0_14.length c0_14, .int .i64 a0_15] 25 (0, 0)) = W at *
  show Code.wp Try.prog _ _ a2 W
  refine wp_seq (wp_region_lit ?_)
  refine first_len S2 p (by decide) ((blk_cell K 6).trans rfl) (Or.inl rfl) rfl rfl rfl rfl rfl rfl rfl rfl rfl rfl rfl rfl (by decide) (fun b1 F1 v1 => ?_)
  refine link_len (F1.sz.trans S2) (by decide) ((F1.e 1).trans p) v1 (by decide) ((blk_cell K 7).trans rfl) (Or.inl rfl) rfl rfl rfl rfl rfl rfl rfl rfl rfl rfl rfl rfl rfl rfl rfl rfl rfl rfl rfl (by decide) (fun b2 G2 v2 => ?_)
  have F2 := F1.trans (G2.m (lo' := 3))
  refine link_len (F2.sz.trans S2) (by decide) ((F2.e 1).trans p) v2 (by decide) ((blk_cell K 8).trans rfl) (Or.inl rfl) rfl rfl rfl rfl rfl rfl rfl rfl rfl rfl rfl rfl rfl rfl rfl rfl rfl rfl rfl (by decide) (fun b3 G3 v3 => ?_)
  have F3 := F2.trans (G3.m (lo' := 3))
  refine link_len (F3.sz.trans S2) (by decide) ((F3.e 1).trans p) v3 (by decide) ((blk_cell K 9).trans rfl) (Or.inr rfl) rfl rfl rfl rfl rfl rfl rfl rfl rfl rfl rfl rfl rfl rfl rfl rfl rfl rfl rfl (by decide) (fun b4 G4 v4 => ?_)
  have F4 := F3.trans (G4.m (lo' := 3))
  refine link_len (F4.sz.trans S2) (by decide) ((F4.e 1).trans p) v4 (by decide) ((blk_cell K 10).trans rfl) (Or.inl rfl) rfl rfl rfl rfl rfl rfl rfl rfl rfl rfl rfl rfl rfl rfl rfl rfl rfl rfl rfl (by decide) (fun b5 G5 v5 => ?_)
  have F5 := F4.trans (G5.m (lo' := 3))
  refine link_len (F5.sz.trans S2) (by decide) ((F5.e 1).trans p) v5 (by decide) ((blk_cell K 11).trans rfl) (Or.inl rfl) rfl rfl rfl rfl rfl rfl rfl rfl rfl rfl rfl rfl rfl rfl rfl rfl rfl rfl rfl (by decide) (fun b6 G6 v6 => ?_)
  have F6 := F5.trans (G6.m (lo' := 3))
  refine link_len (F6.sz.trans S2) (by decide) ((F6.e 1).trans p) v6 (by decide) ((blk_cell K 12).trans rfl) (Or.inl rfl) rfl rfl rfl rfl rfl rfl rfl rfl rfl rfl rfl rfl rfl rfl rfl rfl rfl rfl rfl (by decide) (fun b7 G7 v7 => ?_)
  have F7 := F6.trans (G7.m (lo' := 3))
  refine link_len (F7.sz.trans S2) (by decide) ((F7.e 1).trans p) v7 (by decide) ((blk_cell K 13).trans rfl) (Or.inl rfl) rfl rfl rfl rfl rfl rfl rfl rfl rfl rfl rfl rfl rfl rfl rfl rfl rfl rfl rfl (by decide) (fun b8 G8 v8 => ?_)
  have F8 := F7.trans (G8.m (lo' := 3))
  refine link_len (F8.sz.trans S2) (by decide) ((F8.e 1).trans p) v8 (by decide) ((blk_cell K 14).trans rfl) (Or.inl rfl) rfl rfl rfl rfl rfl rfl rfl rfl rfl rfl rfl rfl rfl rfl rfl rfl rfl rfl rfl (by decide) (fun b9 G9 v9 => ?_)
  have F9 := F8.trans (G9.m (lo' := 3))
  refine st_ rfl (wanted_none rfl) (run_assign rfl) ?_
  show Code.wp Try.prog Code.ret _ _ W
  refine wp_ret ?_
  have e : (b9.put (some 2) (b9.eval (.tmp 54))).eval (.tmp 2) = .bool (heavyB l0_6 l0_7 l0_8 l0_9 l0_10 l0_11 l0_12 l0_13 l0_14) := (eval_same (by rw [F9.sz, S2]; decide)).trans (v9.trans (congrArg Value.bool (by unfold heavyB; rw [Bool.eq_iff_iff]; simp only [Bool.or_eq_true, decide_eq_true_eq]; omega)))
  have d : (b9.put (some 2) (b9.eval (.tmp 54))).defers = [] := F9.df.trans D2
  generalize b9.put (some 2) (b9.eval (.tmp 54)) = z at *
  refine bodyPost_ret (results_tmp rfl _ _ _) d ?_
  unfold Act.eval at e
  dsimp only at e
  rw [e]
  exact ⟨rfl, B⟩
end Go.Proofs.Ytmhpmkbifhgnbaa.O
