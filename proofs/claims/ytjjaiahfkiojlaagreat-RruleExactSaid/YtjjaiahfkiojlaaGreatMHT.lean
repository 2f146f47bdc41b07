-- What Heavy tells of a rule: a text of this claim's own.
/- Heavy and the reference's Recur and Years as contracts. No condition beyond those each lemma names. -/
-- What some functions of the program compute: a text of this claim's own (lines first written by the kit's tool, some proved anew).
/- A twin of a rule, as a contract. No condition beyond those each lemma names. -/
import Derived.Test.YtjjaiahfkiojlaaGreatHk
import Derived.Test.YtjjaiahfkiojlaaGreatMT23H
import Derived.Test.YtjjaiahfkiojlaaGreatMT23P4
import Derived.Test.YtjjaiahfkiojlaaGreatOx12
import Derived.Test.YtjjaiahfkiojlaaGreatOx152
import Derived.Test.YtjjaiahfkiojlaaGreatMOx0
import Derived.Test.YtjjaiahfkiojlaaGreatMHS4
import Derived.Test.YtjjaiahfkiojlaaGreatMT23c
namespace Go.Proofs.YtjjaiahfkiojlaaGreat.O
open Go.RowKit Go.Proofs.YtjjaiahfkiojlaaGreatW.PrintWords Go.Proofs.YtjjaiahfkiojlaaGreatW.PrintLast Go.Proofs.YtjjaiahfkiojlaaGreatW.PrintMore
set_option maxRecDepth 100000
set_option linter.unusedVariables false
set_option linter.unusedSimpArgs false
/-- Has a rule a list that is long? -/
def heavyB (l0_6 : List Int) (l0_7 : List Int) (l0_8 : List Int) (l0_9 : List (S67)) (l0_10 : List Int) (l0_11 : List Int) (l0_12 : List Int) (l0_13 : List Int) (l0_14 : List Int) : Bool := decide (70 < l0_6.length ∨ 70 < l0_7.length ∨ 30 < l0_8.length ∨ 60 < l0_9.length ∨ 70 < l0_10.length ∨ 60 < l0_11.length ∨ 60 < l0_12.length ∨ 20 < l0_13.length ∨ 60 < l0_14.length)
set_option maxHeartbeats 8000000 in
set_option maxRecDepth 100000 in
theorem solsticelaw21_Heavy.calls (a0_0 : Int) (a0_1 : Int) (a0_2 : Int) (a0_3 : Bool) (a0_4 : Int) (a0_5 : Bool) (A0_6 : Option Addr) (c0_6 : Nat) (l0_6 : List Int) (A0_7 : Option Addr) (c0_7 : Nat) (l0_7 : List Int) (A0_8 : Option Addr) (c0_8 : Nat) (l0_8 : List Int) (A0_9 : Option Addr) (c0_9 : Nat) (l0_9 : List (S67)) (A0_10 : Option Addr) (c0_10 : Nat) (l0_10 : List Int) (A0_11 : Option Addr) (c0_11 : Nat) (l0_11 : List Int) (A0_12 : Option Addr) (c0_12 : Nat) (l0_12 : List Int) (A0_13 : Option Addr) (c0_13 : Nat) (l0_13 : List Int) (A0_14 : Option Addr) (c0_14 : Nat) (l0_14 : List Int) (a0_15 : Int) (w : World) :
    Calls Tryz.prog 12 #[.agg #[.int .i64 a0_0, .int .i64 a0_1, .int .i64 a0_2, .bool a0_3, .int .i64 a0_4, .bool a0_5, .slice A0_6 l0_6.length c0_6, .slice A0_7 l0_7.length c0_7, .slice A0_8 l0_8.length c0_8, .slice A0_9 l0_9.length c0_9, .slice A0_10 l0_10.length c0_10, .slice A0_11 l0_11.length c0_11, .slice A0_12 l0_12.length c0_12, .slice A0_13 l0_13.length c0_13, .slice A0_14 l0_14.length c0_14, .int .i64 a0_15]] w fun e w' => e = .returned (.bool (heavyB l0_6 l0_7 l0_8 l0_9 l0_10 l0_11 l0_12 l0_13 l0_14)) ∧ Below w.heap.size w w' := by
  go_enter Tryz.func12, Tryz.ntmps12
  refine act_abs (fun a => a.eval (.tmp 0) = .agg #[.int .i64 a0_0, .int .i64 a0_1, .int .i64 a0_2, .bool a0_3, .int .i64 a0_4, .bool a0_5, .slice A0_6 l0_6.length c0_6, .slice A0_7 l0_7.length c0_7, .slice A0_8 l0_8.length c0_8, .slice A0_9 l0_9.length c0_9, .slice A0_10 l0_10.length c0_10, .slice A0_11 l0_11.length c0_11, .slice A0_12 l0_12.length c0_12, .slice A0_13 l0_13.length c0_13, .slice A0_14 l0_14.length c0_14, .int .i64 a0_15] ∧ a.tmps.size = 55 ∧ a.defers = []) ⟨rfl, rfl, rfl⟩ ?_
  rintro a ⟨h0, S, D⟩
  refine wp_seq (wp_region_lit ?_)
  refine sv_ S rfl (by decide) (wanted_none rfl) (run_box rfl h0) (fun a1 S1 F1 v1 => ?_)
  refine sv_ S1 rfl (by decide) (wanted_none rfl) (run_assign rfl) (fun a2 S2 F2 v2 => ?_)
  have p := (F2.e 1).trans v1
  have D2 : a2.defers = [] := F2.df.trans (F1.df.trans D)
  have K := blk_new w (.cells #[.int .i64 a0_0, .int .i64 a0_1, .int .i64 a0_2, .bool a0_3, .int .i64 a0_4, .bool a0_5, .slice A0_6 l0_6.length c0_6, .slice A0_7 l0_7.length c0_7, .slice A0_8 l0_8.length c0_8, .slice A0_9 l0_9.length c0_9, .slice A0_10 l0_10.length c0_10, .slice A0_11 l0_11.length c0_11, .slice A0_12 l0_12.length c0_12, .slice A0_13 l0_13.length c0_13, .slice A0_14 l0_14.length c0_14, .int .i64 a0_15] 25 (0, 0))
  have B := below_alloc (Below.refl w.heap.size w) (.cells #[.int .i64 a0_0, .int .i64 a0_1, .int .i64 a0_2, .bool a0_3, .int .i64 a0_4, .bool a0_5, .slice A0_6 l0_6.length c0_6, .slice A0_7 l0_7.length c0_7, .slice A0_8 l0_8.length c0_8, .slice A0_9 l0_9.length c0_9, .slice A0_10 l0_10.length c0_10, .slice A0_11 l0_11.length c0_11, .slice A0_12 l0_12.length c0_12, .slice A0_13 l0_13.length c0_13, .slice A0_14 l0_14.length c0_14, .int .i64 a0_15] 25 (0, 0))
  clear S S1 F1 F2 v1 v2 h0 D
  generalize w.alloc (.cells #[.int .i64 a0_0, .int .i64 a0_1, .int .i64 a0_2, .bool a0_3, .int .i64 a0_4, .bool a0_5, .slice A0_6 l0_6.length c0_6, .slice A0_7 l0_7.length c0_7, .slice A0_8 l0_8.length c0_8, .slice A0_9 l0_9.length c0_9, .slice A0_10 l0_10.length c0_10, .slice A0_11 l0_11.length c0_11, .slice A0_12 l0_12.length c0_12, .slice A0_13 l0_13.length c0_13, .slice A0_14 l0_14.length c0_14, .int .i64 a0_15] 25 (0, 0)) = W at *
  show Code.wp Tryz.prog _ _ a2 W
  refine wp_seq (wp_region_lit ?_)
  refine first_len S2 p (by decide) ((blk_cell K 6).trans rfl) (Or.inl rfl) rfl rfl rfl rfl rfl rfl rfl rfl rfl rfl rfl rfl (by decide) (fun b1 F1 v1 => ?_)
  refine link_len (F1.sz.trans S2) (by decide) ((F1.e 1).trans p) v1 (by decide) ((blk_cell K 7).trans rfl) (Or.inl rfl) rfl rfl rfl rfl rfl rfl rfl rfl rfl rfl rfl rfl rfl rfl rfl rfl rfl rfl rfl (by decide) (fun b2 G2 v2 => ?_)
  have F2 := F1.trans (G2.m (lo' := 3))
  refine link_len (F2.sz.trans S2) (by decide) ((F2.e 1).trans p) v2 (by decide) ((blk_cell K 8).trans rfl) (Or.inl rfl) rfl rfl rfl rfl rfl rfl rfl rfl rfl rfl rfl rfl rfl rfl rfl rfl rfl rfl rfl (by decide) (fun b3 G3 v3 => ?_)
  have F3 := F2.trans (G3.m (lo' := 3))
  refine link_len (F3.sz.trans S2) (by decide) ((F3.e 1).trans p) v3 (by decide) ((blk_cell K 9).trans rfl) (Or.inr rfl) rfl rfl rfl rfl rfl rfl rfl rfl rfl rfl rfl rfl rfl rfl rfl rfl rfl rfl rfl (by decide) (fun b4 G4 v4 => ?_)
  have F4 := F3.trans (G4.m (lo' := 3))
  refine link_len (F4.sz.trans S2) (by decide) ((F4.e 1).trans p) v4 (by decide) ((blk_cell K 10).trans rfl) (Or.inl rfl) rfl rfl rfl rfl rfl rfl rfl rfl rfl rfl rfl rfl rfl rfl rfl rfl rfl rfl rfl (by decide) (fun b5 G5 v5 => ?_)
  have F5 := F4.trans (G5.m (lo' := 3))
  refine link_len (F5.sz.trans S2) (by decide) ((F5.e 1).trans p) v5 (by decide) ((blk_cell K 11).trans rfl) (Or.inl rfl) rfl rfl rfl rfl rfl rfl rfl rfl rfl rfl rfl rfl rfl rfl rfl rfl rfl rfl rfl (by decide) (fun b6 G6 v6 => ?_)
  have F6 := F5.trans (G6.m (lo' := 3))
  refine link_len (F6.sz.trans S2) (by decide) ((F6.e 1).trans p) v6 (by decide) ((blk_cell K 12).trans rfl) (Or.inl rfl) rfl rfl rfl rfl rfl rfl rfl rfl rfl rfl rfl rfl rfl rfl rfl rfl rfl rfl rfl (by decide) (fun b7 G7 v7 => ?_)
  have F7 := F6.trans (G7.m (lo' := 3))
  refine link_len (F7.sz.trans S2) (by decide) ((F7.e 1).trans p) v7 (by decide) ((blk_cell K 13).trans rfl) (Or.inl rfl) rfl rfl rfl rfl rfl rfl rfl rfl rfl rfl rfl rfl rfl rfl rfl rfl rfl rfl rfl (by decide) (fun b8 G8 v8 => ?_)
  have F8 := F7.trans (G8.m (lo' := 3))
  refine link_len (F8.sz.trans S2) (by decide) ((F8.e 1).trans p) v8 (by decide) ((blk_cell K 14).trans rfl) (Or.inl rfl) rfl rfl rfl rfl rfl rfl rfl rfl rfl rfl rfl rfl rfl rfl rfl rfl rfl rfl rfl (by decide) (fun b9 G9 v9 => ?_)
  have F9 := F8.trans (G9.m (lo' := 3))
  refine st_ rfl (wanted_none rfl) (run_assign rfl) ?_
  show Code.wp Tryz.prog Code.ret _ _ W
  refine wp_ret ?_
  have e : (b9.put (some 2) (b9.eval (.tmp 54))).eval (.tmp 2) = .bool (heavyB l0_6 l0_7 l0_8 l0_9 l0_10 l0_11 l0_12 l0_13 l0_14) := (eval_same (by rw [F9.sz, S2]; decide)).trans (v9.trans (congrArg Value.bool (by unfold heavyB; rw [Bool.eq_iff_iff]; simp only [Bool.or_eq_true, decide_eq_true_eq]; omega)))
  have d : (b9.put (some 2) (b9.eval (.tmp 54))).defers = [] := F9.df.trans D2
  generalize b9.put (some 2) (b9.eval (.tmp 54)) = z at *
  refine bodyPost_ret (results_tmp rfl _ _ _) d ?_
  unfold Act.eval at e
  dsimp only at e
  rw [e]
  exact ⟨rfl, B⟩
end Go.Proofs.YtjjaiahfkiojlaaGreat.O

namespace Go.Proofs.YtjjaiahfkiojlaaGreat.Pure
open Go.RowKit Go.Proofs.YtjjaiahfkiojlaaGreat.O Go.Proofs.YtjjaiahfkiojlaaGreatW.PrintWords Go.Proofs.YtjjaiahfkiojlaaGreatW.PrintLast
open Go.Proofs.YtjjaiahfkiojlaaGreat.Civ
set_option linter.unusedVariables false
set_option linter.unusedSimpArgs false
set_option maxRecDepth 100000
set_option maxHeartbeats 4000000
theorem heavy_on {w : World} {cs : Array Value} {r : RR} (R : Rul w cs r) : Calls Tryz.prog 12 #[.agg cs] w (Rets w (.bool (heavyB r.sec r.mi r.ho r.dy r.md r.yd r.wn r.mo r.sp))) := by
  obtain ⟨A6, k6, A7, k7, A8, k8, A9, k9, A10, k10, A11, k11, A12, k12, A13, k13, A14, k14, rfl, h6, h7, h8, h9, h10, h11, h12, h13, h14⟩ := rul_opens R
  exact solsticelaw21_Heavy.calls r.fr r.iv r.ct r.un r.ua r.utc A6 k6 r.sec A7 k7 r.mi A8 k8 r.ho A9 k9 r.dy A10 k10 r.md A11 k11 r.yd A12 k12 r.wn A13 k13 r.mo A14 k14 r.sp r.wk w
end Go.Proofs.YtjjaiahfkiojlaaGreat.Pure

namespace Go.Proofs.YtjjaiahfkiojlaaGreat.O
open Go.RowKit Go.Proofs.YtjjaiahfkiojlaaGreatW.PrintWords Go.Proofs.YtjjaiahfkiojlaaGreatW.PrintLast Go.Proofs.YtjjaiahfkiojlaaGreatW.PrintMore
attribute [local go_sem] max2_int min2_int max_two min_two max_three min_three max_four min_four   -- for this text's walks alone
set_option linter.unusedVariables false
set_option linter.unusedSimpArgs false

/-! ### solsticekeep_TwinInts: function 54 -/
def solsticekeep_TwinInts.f (l0 : List Int) : Option (List Int) := if ([] : List Int).length + l0.length < 17592186044416 then (some (([] : List Int) ++ l0)) else (none)
set_option maxHeartbeats 8000000 in
set_option maxRecDepth 100000 in
theorem solsticekeep_TwinInts.calls (A0 : Option Addr) (c0 : Nat) (l0 : List Int) (r : List Int) (w : World) (hr0 : Kd.C (Kd.int .i64) w A0 l0.length l0) (hc0 : l0.length ≤ c0) (h : solsticekeep_TwinInts.f l0 = some r) :
    Calls Tryz.prog 54 #[.slice A0 l0.length c0] w fun e w' => ∃ v0_ : Value, e = .returned (v0_) ∧ Kd.R (Kd.int .i64) 3 w' w.heap.size (fun _ => True) v0_ r ∧ Below w.heap.size w w' := by
  have HR0 := Aside0.mk hr0
  have HC0 := Aside0.mk hc0
  clear hr0 hc0
  have HB := Aside0.mk (Below.refl w.heap.size w)
  have H : (if ([] : List Int).length + l0.length < 17592186044416 then (some (([] : List Int) ++ l0)) else (none)) = some r := h
  clear h
  by_cases c2 : ([] : List Int).length + l0.length < 17592186044416
  · rw [if_pos c2] at H
    have LMc2 := Aside0.mk c2
    clear c2
    obtain ⟨y457, hy457⟩ : ∃ y_ : List Int, y_ = (([] : List Int) ++ l0) := ⟨_, rfl⟩
    replace H : (some y457) = some r := by first | (rw [hy457]; with_reducible exact H) | (have H2_ := (Option.bind_some _ _).symm.trans H; rw [hy457]; with_reducible exact H2_) | (have H2_ := (Option.bind_some _ _).symm.trans H; with_reducible exact H2_) | with_reducible exact H | (rw [hy457]; exact H) | exact H
    have Ny457 := Aside0.mk hy457
    clear hy457
    obtain rfl := Option.some.inj H
    go_enter Tryz.func54, Tryz.ntmps54
    go_wp2_with (first | ((with_reducible refine gate_builtin (b := .append) (xs := #[.tmp 4, .tmp 5]) rfl ?_); at_builtin; refine Kd.R_append_rows (Kd.int .i64) (w0 := w) w.heap.size rfl (.tmp 4) (.tmp 5) 22 3 (.int .i64 0) 8 rfl Tryz.underlying22 info3 rfl (by decide) (by omega) (.slice none 0 0) ([] : List Int) l0 _ _ _ (fun _ => True) (fun _ => False) rfl rfl ?aO ?aR (fun _ _ h => h) (fun _ h => h.elim) ?aF ?aB ?aS ?aL ?_; (case aR => repeat (first | exact HR0.out | (with_reducible refine Kd.C_alloc ?_ _) | (with_reducible refine Kd.C_drewN ?_ _) | (with_reducible refine Kd.C_drew ?_))); (case aB => exact (by repeat (first | (with_reducible first | exact HB.out | apply below_alloc | apply pw_below_drewN | apply below_drew1) | exact HB.out))); (case aF => exact (fun _ _ => trivial)); (case aO => exact ((Kd.R_nil _ _ _ _ (fun _ => True)))); (case aS => exact (below_size (by repeat (first | (with_reducible first | exact HB.out | apply below_alloc | apply pw_below_drewN | apply below_drew1) | exact HB.out)))); (case aL => have := LMc2.out; omega); intro v458 w3 ho hb hg hat; rw [← Ny457.out] at ho; have n0_ := Aside0.mk (hb); have n1_ := Aside0.mk (ho); clear HB; have HB := n0_; have HO459 := n1_; clear n0_ n1_; clear ho hb hg hat))
    go_ret
    exact ⟨_, by first | rfl | (simp [errW_none, errW_some] <;> rfl) | (simp [*, errW_none, errW_some] <;> rfl), by (with_reducible repeat (first | apply Kd.R_alloc | apply Kd.R_drewN | apply Kd.R_drew)); exact HO459.out, by repeat (first | (with_reducible first | exact HB.out | apply below_alloc | apply pw_below_drewN | apply below_drew1) | exact HB.out)⟩
  · rw [if_neg c2] at H
    exact absurd H (by simp)

end Go.Proofs.YtjjaiahfkiojlaaGreat.O

namespace Go.Proofs.YtjjaiahfkiojlaaGreat.Pure
open Go.RowKit Go.Proofs.YtjjaiahfkiojlaaGreat.O Go.Proofs.YtjjaiahfkiojlaaGreatW.PrintWords Go.Proofs.YtjjaiahfkiojlaaGreatW.PrintLast
open Go.Proofs.YtjjaiahfkiojlaaGreat.Civ
set_option linter.unusedVariables false
set_option linter.unusedSimpArgs false
set_option maxRecDepth 100000
set_option maxHeartbeats 4000000
/-- A twin of a list: an own row. -/
theorem twin1_on {w : World} {A : Option Addr} {c : Nat} {l : List Int} (hk : Kd.C (Kd.int .i64) w A l.length l) (hc : l.length ≤ c) (hl : l.length ≤ 1000000000) :
    Calls Tryz.prog 54 #[.slice A l.length c] w fun e w' => ∃ A' c', e = .returned (.slice A' l.length c') ∧ Kd.R (Kd.int .i64) 3 w' w.heap.size (fun _ => True) (.slice A' l.length c') l ∧ Below w.heap.size w w' := by
  refine (solsticekeep_TwinInts.calls A c l l w hk hc (by unfold solsticekeep_TwinInts.f; rw [if_pos (by simp; omega)]; rfl)).mono ?_
  rintro e w' ⟨v, rfl, h, hb⟩
  obtain ⟨A', c', rfl, _⟩ := Kd.R_reads h
  exact ⟨A', c', rfl, h, hb⟩
theorem tw_inl {Ls : List (Value × List Int)} {b : Nat} {W : World} (h : Tw Ls b W) {v : Value} {l : List Int} {cs : Array Value} {i : Nat} (j : Nat) (hp : Ls[j]? = some (v, l)) (hc : cs[i]? = some v) : InL W cs[i]? l := by
  obtain ⟨A, c, e, h1, h2⟩ := Kd.R_reads (h _ (List.mem_of_getElem? hp))
  exact ⟨A, c, by rw [hc]; exact congrArg some e, h1, h2⟩
theorem twin_on {w : World} {cs : Array Value} {r : RR} (R : Rul w cs r) (hl : r.sec.length ≤ 1000000000 ∧ r.mi.length ≤ 1000000000 ∧ r.ho.length ≤ 1000000000 ∧ r.dy.length ≤ 1000000000 ∧ r.md.length ≤ 1000000000 ∧ r.yd.length ≤ 1000000000 ∧ r.wn.length ≤ 1000000000 ∧ r.mo.length ≤ 1000000000 ∧ r.sp.length ≤ 1000000000) :
    Calls Tryz.prog 21 #[.agg cs] w fun e w' => ∃ cs', e = .returned (.agg cs') ∧ Rul w' cs' r ∧ Below w.heap.size w w' := by
  obtain ⟨A6, k6, A7, k7, A8, k8, A9, k9, A10, k10, A11, k11, A12, k12, A13, k13, A14, k14, rfl, h6, h7, h8, h9, h10, h11, h12, h13, h14⟩ := rul_opens R
  obtain ⟨l6, l7, l8, l9, l10, l11, l12, l13, l14⟩ := hl
  have fl : Tryz.prog.follows .mixedOrders = true := by kernel_rfl
  refine en_ Tryz.func21 rfl rfl rfl fun a K => sr_ (bx_ K (On.nil w) rfl rfl rfl rfl rfl rfl fun a g1 W M K => al_ K M rfl rfl rfl rfl rfl fun a g2 W z hz G2 M K => nil_ (sr_ ?_))
  refine lda_ K M 1 rfl rfl rfl rfl rfl rfl rfl rfl fun a K => nwG_ K M rfl rfl rfl rfl rfl rfl rfl (fun _ => rfl) rfl rfl rfl fun a g3 W G3 M K => nil_ ?_
  -- what the loads read stays: the block of the argument
  obtain ⟨C1, hC⟩ : ∃ C, C = c16 r (.slice A6 r.sec.length k6) (.slice A7 r.mi.length k7) (.slice A8 r.ho.length k8) (.slice A9 r.dy.length k9) (.slice A10 r.md.length k10) (.slice A11 r.yd.length k11) (.slice A12 r.wn.length k12) (.slice A13 r.mo.length k13) (.slice A14 r.sp.length k14) := ⟨_, rfl⟩
  replace M : On [(g3, .cells (c16 r (.slice A6 r.sec.length k6) (.slice A7 r.mi.length k7) (.slice A8 r.ho.length k8) (.slice A9 r.dy.length k9) (.slice A10 r.md.length k10) (.slice A11 r.yd.length k11) (.slice A12 r.wn.length k12) (.slice A13 r.mo.length k13) (.slice A14 r.sp.length k14)) 25 (0, 0)), (g2, .cells z 25 (0, 0)), (g1, .cells C1 25 (0, 0))] w W := by rw [hC]; exact M
  have e6 : C1[6]? = some (.slice A6 r.sec.length k6) := by rw [hC]; rfl
  have e7 : C1[7]? = some (.slice A7 r.mi.length k7) := by rw [hC]; rfl
  have e8 : C1[8]? = some (.slice A8 r.ho.length k8) := by rw [hC]; rfl
  have e9 : C1[9]? = some (.slice A9 r.dy.length k9) := by rw [hC]; rfl
  have e10 : C1[10]? = some (.slice A10 r.md.length k10) := by rw [hC]; rfl
  have e11 : C1[11]? = some (.slice A11 r.yd.length k11) := by rw [hC]; rfl
  have e12 : C1[12]? = some (.slice A12 r.wn.length k12) := by rw [hC]; rfl
  have e13 : C1[13]? = some (.slice A13 r.mo.length k13) := by rw [hC]; rfl
  have e14 : C1[14]? = some (.slice A14 r.sp.length k14) := by rw [hC]; rfl
  have hS : ∀ {L : List (Nat × Obj)} {W : World} (k : Nat), L[k]? = some (g1, .cells C1 25 (0, 0)) → On L w W → W.heap[g1]? = some (.cells C1 25 (0, 0)) := fun k e M => M.me k _ _ e
  have ld : ∀ {W : World} {ρ : Operand → Value} {o : Oper} {x : Operand} {i : Nat} {v : Value}, C1[i]? = some v → okV 22 v = true → o.op = .load 22 x → ρ x = .pointer (some ⟨g1, i, none⟩) → W.heap[g1]? = some (.cells C1 25 (0, 0)) → (execOp ρ o).run Tryz.prog W = .ok (.value v) W := fun hc hv ho hx hb => run_ld hv ho hx ((blk_cell hb _).trans hc)
  refine dseq_ (S := fun W => W.heap[g1]? = some (.cells C1 25 (0, 0))) fl rfl rfl (hS 2 rfl M.drew) (dp_ 73 12 [0, 3, 6] K rfl rfl (by kernel_rfl) fun a K => dt_ 75 1 K (hS 2 rfl M.drew) rfl rfl rfl rfl (by kernel_rfl) (fun W hW => ld e6 rfl rfl (K.of (x := .tmp 5) rfl) hW) fun a K => dt_ 91 4 K (hS 2 rfl M.drew) rfl rfl rfl rfl (by kernel_rfl) (fun W hW => ld e7 rfl rfl (K.of (x := .tmp 8) rfl) hW) fun a K => dt_ 219 7 K (hS 2 rfl M.drew) rfl rfl rfl rfl (by kernel_rfl) (fun W hW => ld e8 rfl rfl (K.of (x := .tmp 11) rfl) hW) fun a K => dc_ 223 2 K Tryz.func54 (by kernel_rfl) rfl rfl rfl rfl rfl rfl rfl (by kernel_rfl) ((twin1_on (Kd.C_below h6.2 M.drew.bl) h6.1 l6).mono ?_))
  rintro _ w1 ⟨B6, q6, rfl, t6, b1⟩
  have u1 : w.heap.size ≤ W.drew.heap.size := M.drew.bl.size
  replace M := M.drew.call b1
  have T := Tw.cons (Ls := []) (b := w.heap.size) (fun p hp => absurd hp List.not_mem_nil) t6 u1
  refine ⟨_, rfl, hS 2 rfl M, fun a K => dp_ 735 7 [9] K rfl rfl (by kernel_rfl) fun a K => dc_ 767 5 K Tryz.func54 (by kernel_rfl) rfl rfl rfl rfl rfl rfl rfl (by kernel_rfl) ((twin1_on (Kd.C_below h7.2 M.bl) h7.1 l7).mono ?_)⟩
  rintro _ w2 ⟨B7, q7, rfl, t7, b2⟩
  replace T := (T.below b2).cons t7 M.bl.size
  replace M := M.call b2
  refine ⟨_, rfl, hS 2 rfl M, fun a K => dc_ 1023 8 K Tryz.func54 (by kernel_rfl) rfl rfl rfl rfl rfl rfl rfl (by kernel_rfl) ((twin1_on (Kd.C_below h8.2 M.bl) h8.1 l8).mono ?_)⟩
  rintro _ w3 ⟨B8, q8, rfl, t8, b3⟩
  replace T := (T.below b3).cons t8 M.bl.size
  replace M := M.call b3
  refine ⟨_, rfl, hS 2 rfl M, fun a K => dst_ 2047 10 K M 0 rfl rfl G3 rfl rfl rfl rfl rfl rfl (Nat.le_of_ble_eq_true rfl) (by kernel_rfl) (fun W M => hS 2 rfl M) fun W hW M2 => dp_ 4095 3 [11] K rfl rfl (by kernel_rfl) fun a K => ?_⟩
  subst hW
  replace T := T.set (M.me 0 _ _ rfl) (by decide) 6 (.slice B6 r.sec.length q6)
  replace M := M2
  refine dst_ 8191 12 K M 0 rfl rfl G3 rfl rfl rfl rfl rfl rfl (Nat.le_of_ble_eq_true rfl) (by kernel_rfl) (fun W M => hS 2 rfl M) fun W hW M2 => dp_ 16383 1 [13] K rfl rfl (by kernel_rfl) fun a K => ?_
  subst hW
  replace T := T.set (M.me 0 _ _ rfl) (by decide) 7 (.slice B7 r.mi.length q7)
  replace M := M2
  refine dst_ 32767 14 K M 0 rfl rfl G3 rfl rfl rfl rfl rfl rfl (Nat.le_of_ble_eq_true rfl) (by kernel_rfl) (fun W M => hS 2 rfl M) fun W hW M2 => dend_ (by kernel_rfl) ?_
  subst hW
  replace T := T.set (M.me 0 _ _ rfl) (by decide) 8 (.slice B8 r.ho.length q8)
  replace M : On [(g3, .cells (c16 r (.slice B6 r.sec.length q6) (.slice B7 r.mi.length q7) (.slice B8 r.ho.length q8) (.slice A9 r.dy.length k9) (.slice A10 r.md.length k10) (.slice A11 r.yd.length k11) (.slice A12 r.wn.length k12) (.slice A13 r.mo.length k13) (.slice A14 r.sp.length k14)) 25 (0, 0)), (g2, .cells z 25 (0, 0)), (g1, .cells C1 25 (0, 0))] w _ := M2
  refine dseq_ (S := fun W => W.heap[g1]? = some (.cells C1 25 (0, 0))) fl rfl rfl (hS 2 rfl M.drew) (dp_ 73 12 [0, 3, 6] K rfl rfl (by kernel_rfl) fun a K => dt_ 75 1 K (hS 2 rfl M.drew) rfl rfl rfl rfl (by kernel_rfl) (fun W hW => ld e10 rfl rfl (K.of (x := .tmp 17) rfl) hW) fun a K => dt_ 91 4 K (hS 2 rfl M.drew) rfl rfl rfl rfl (by kernel_rfl) (fun W hW => ld e11 rfl rfl (K.of (x := .tmp 20) rfl) hW) fun a K => dt_ 219 7 K (hS 2 rfl M.drew) rfl rfl rfl rfl (by kernel_rfl) (fun W hW => ld e12 rfl rfl (K.of (x := .tmp 23) rfl) hW) fun a K => dc_ 223 2 K Tryz.func54 (by kernel_rfl) rfl rfl rfl rfl rfl rfl rfl (by kernel_rfl) ((twin1_on (Kd.C_below h10.2 M.drew.bl) h10.1 l10).mono ?_))
  rintro _ w4 ⟨B10, q10, rfl, t10, b4⟩
  replace T := (T.drew.below b4).cons t10 M.drew.bl.size
  replace M := M.drew.call b4
  refine ⟨_, rfl, hS 2 rfl M, fun a K => dp_ 735 7 [9] K rfl rfl (by kernel_rfl) fun a K => dc_ 767 5 K Tryz.func54 (by kernel_rfl) rfl rfl rfl rfl rfl rfl rfl (by kernel_rfl) ((twin1_on (Kd.C_below h11.2 M.bl) h11.1 l11).mono ?_)⟩
  rintro _ w5 ⟨B11, q11, rfl, t11, b5⟩
  replace T := (T.below b5).cons t11 M.bl.size
  replace M := M.call b5
  refine ⟨_, rfl, hS 2 rfl M, fun a K => dc_ 1023 8 K Tryz.func54 (by kernel_rfl) rfl rfl rfl rfl rfl rfl rfl (by kernel_rfl) ((twin1_on (Kd.C_below h12.2 M.bl) h12.1 l12).mono ?_)⟩
  rintro _ w6 ⟨B12, q12, rfl, t12, b6⟩
  replace T := (T.below b6).cons t12 M.bl.size
  replace M := M.call b6
  refine ⟨_, rfl, hS 2 rfl M, fun a K => dst_ 2047 10 K M 0 rfl rfl G3 rfl rfl rfl rfl rfl rfl (Nat.le_of_ble_eq_true rfl) (by kernel_rfl) (fun W M => hS 2 rfl M) fun W hW M2 => dp_ 4095 3 [11] K rfl rfl (by kernel_rfl) fun a K => ?_⟩
  subst hW
  replace T := T.set (M.me 0 _ _ rfl) (by decide) 10 (.slice B10 r.md.length q10)
  replace M := M2
  refine dst_ 8191 12 K M 0 rfl rfl G3 rfl rfl rfl rfl rfl rfl (Nat.le_of_ble_eq_true rfl) (by kernel_rfl) (fun W M => hS 2 rfl M) fun W hW M2 => dp_ 16383 1 [13] K rfl rfl (by kernel_rfl) fun a K => ?_
  subst hW
  replace T := T.set (M.me 0 _ _ rfl) (by decide) 11 (.slice B11 r.yd.length q11)
  replace M := M2
  refine dst_ 32767 14 K M 0 rfl rfl G3 rfl rfl rfl rfl rfl rfl (Nat.le_of_ble_eq_true rfl) (by kernel_rfl) (fun W M => hS 2 rfl M) fun W hW M2 => dend_ (by kernel_rfl) ?_
  subst hW
  replace T := T.set (M.me 0 _ _ rfl) (by decide) 12 (.slice B12 r.wn.length q12)
  replace M : On [(g3, .cells (c16 r (.slice B6 r.sec.length q6) (.slice B7 r.mi.length q7) (.slice B8 r.ho.length q8) (.slice A9 r.dy.length k9) (.slice B10 r.md.length q10) (.slice B11 r.yd.length q11) (.slice B12 r.wn.length q12) (.slice A13 r.mo.length k13) (.slice A14 r.sp.length k14)) 25 (0, 0)), (g2, .cells z 25 (0, 0)), (g1, .cells C1 25 (0, 0))] w _ := M2
  refine dseq_ (S := fun W => W.heap[g1]? = some (.cells C1 25 (0, 0))) fl rfl rfl (hS 2 rfl M.drew) (dp_ 9 10 [0, 3] K rfl rfl (by kernel_rfl) fun a K => dt_ 11 1 K (hS 2 rfl M.drew) rfl rfl rfl rfl (by kernel_rfl) (fun W hW => ld e13 rfl rfl (K.of (x := .tmp 29) rfl) hW) fun a K => dt_ 27 4 K (hS 2 rfl M.drew) rfl rfl rfl rfl (by kernel_rfl) (fun W hW => ld e14 rfl rfl (K.of (x := .tmp 32) rfl) hW) fun a K => dc_ 31 2 K Tryz.func54 (by kernel_rfl) rfl rfl rfl rfl rfl rfl rfl (by kernel_rfl) ((twin1_on (Kd.C_below h13.2 M.drew.bl) h13.1 l13).mono ?_))
  rintro _ w7 ⟨B13, q13, rfl, t13, b7⟩
  replace T := (T.drew.below b7).cons t13 M.drew.bl.size
  replace M := M.drew.call b7
  refine ⟨_, rfl, hS 2 rfl M, fun a K => dp_ 95 6 [6] K rfl rfl (by kernel_rfl) fun a K => dc_ 127 5 K Tryz.func54 (by kernel_rfl) rfl rfl rfl rfl rfl rfl rfl (by kernel_rfl) ((twin1_on (Kd.C_below h14.2 M.bl) h14.1 l14).mono ?_)⟩
  rintro _ w8 ⟨B14, q14, rfl, t14, b8⟩
  replace T := (T.below b8).cons t14 M.bl.size
  replace M := M.call b8
  refine ⟨_, rfl, hS 2 rfl M, fun a K => dst_ 255 7 K M 0 rfl rfl G3 rfl rfl rfl rfl rfl rfl (Nat.le_of_ble_eq_true rfl) (by kernel_rfl) (fun W M => hS 2 rfl M) fun W hW M2 => dp_ 511 3 [8] K rfl rfl (by kernel_rfl) fun a K => ?_⟩
  subst hW
  replace T := T.set (M.me 0 _ _ rfl) (by decide) 13 (.slice B13 r.mo.length q13)
  replace M := M2
  refine dst_ 1023 9 K M 0 rfl rfl G3 rfl rfl rfl rfl rfl rfl (Nat.le_of_ble_eq_true rfl) (by kernel_rfl) (fun W M => hS 2 rfl M) fun W hW M2 => dp_ 2047 1 [10] K rfl rfl (by kernel_rfl) fun a K => ?_
  subst hW
  replace T := T.set (M.me 0 _ _ rfl) (by decide) 14 (.slice B14 r.sp.length q14)
  replace M := M2
  refine dst_ 4095 11 K M 0 rfl rfl G3 rfl rfl rfl rfl rfl rfl (Nat.le_of_ble_eq_true rfl) (by kernel_rfl) (fun W M => hS 2 rfl M) fun W hW M2 => dend_ (by kernel_rfl) ?_
  subst hW
  replace T := T.set (M.me 0 _ _ rfl) (by decide) 9 (.slice none 0 0)
  replace M : On [(g3, .cells (c16 r (.slice B6 r.sec.length q6) (.slice B7 r.mi.length q7) (.slice B8 r.ho.length q8) (.slice none 0 0) (.slice B10 r.md.length q10) (.slice B11 r.yd.length q11) (.slice B12 r.wn.length q12) (.slice B13 r.mo.length q13) (.slice B14 r.sp.length q14)) 25 (0, 0)), (g2, .cells z 25 (0, 0)), (g1, .cells C1 25 (0, 0))] w _ := M2
  refine sr_ (run_ 1 K rfl fun a K => ld_ K M 0 rfl rfl rfl rfl rfl rfl rfl rfl fun a K => run_ 1 K rfl fun a K => ld_ K M 2 rfl rfl rfl rfl rfl rfl e9 rfl fun a K => ?_)
  refine ap_ (k := k67) (t := 23) (e := 67) K M rfl rfl rfl rfl Tryz.underlying23 info67 rfl (by decide) (by decide) rfl rfl (Kd.R_nil _ _ _ _ _) (Kd.C_below h9.2 M.bl) (fun x cs h => by rw [k67_open h]; exact k67_mkM _ _ _ x) (fun p _ q => nomatch (show some p.1 = none from q)) (by simp; omega) fun a v9 w9 g9 R9 M9 F9 K => ?_
  replace T := T.grown g9
  replace M := M9
  obtain ⟨B9, q9, rfl, s9, t9⟩ := Kd.R_reads R9
  refine run_ 1 K rfl fun a K => stc_ K M 0 rfl G3 rfl rfl rfl rfl rfl rfl (Nat.le_of_ble_eq_true rfl) fun W hW M2 => nil_ ?_
  subst hW
  replace T := T.set (M.me 0 _ _ rfl) (by decide) 9 (.slice B9 ([] ++ r.dy).length q9)
  replace R9 := Kd.R_set R9 (M.me 0 _ _ rfl) (fun q hq => by simp [k67, Kd.iso, Kd.pair, Kd.int, Kd.scalar] at hq; omega) 9 (.slice B9 ([] ++ r.dy).length q9)
  replace M : On [(g3, .cells (c16 r (.slice B6 r.sec.length q6) (.slice B7 r.mi.length q7) (.slice B8 r.ho.length q8) (.slice B9 ([] ++ r.dy).length q9) (.slice B10 r.md.length q10) (.slice B11 r.yd.length q11) (.slice B12 r.wn.length q12) (.slice B13 r.mo.length q13) (.slice B14 r.sp.length q14)) 25 (0, 0)), (g2, .cells z 25 (0, 0)), (g1, .cells C1 25 (0, 0))] w _ := M2
  refine sr_ (lda_ K M 0 rfl rfl rfl rfl rfl rfl rfl rfl fun a K => stw_ K M 1 rfl G2 rfl rfl rfl rfl rfl rfl hz rfl rfl fun W hW M2 => nil_ ?_)
  subst hW
  have T2 := T.row (M.me 1 _ _ rfl) (by decide) (c16 r (.slice B6 r.sec.length q6) (.slice B7 r.mi.length q7) (.slice B8 r.ho.length q8) (.slice B9 ([] ++ r.dy).length q9) (.slice B10 r.md.length q10) (.slice B11 r.yd.length q11) (.slice B12 r.wn.length q12) (.slice B13 r.mo.length q13) (.slice B14 r.sp.length q14))
  have R2 := Kd.R_mono (Kd.R_move (Kd.R_types R9 (M.me 1 _ _ rfl) (fun q hq => by simp [k67, Kd.iso, Kd.pair, Kd.int, Kd.scalar] at hq; omega)) (fun k hk => setRow_other _ g2 k (c16 r (.slice B6 r.sec.length q6) (.slice B7 r.mi.length q7) (.slice B8 r.ho.length q8) (.slice B9 ([] ++ r.dy).length q9) (.slice B10 r.md.length q10) (.slice B11 r.yd.length q11) (.slice B12 r.wn.length q12) (.slice B13 r.mo.length q13) (.slice B14 r.sp.length q14)) hk.2)) (fun _ hk => hk.1)
  obtain ⟨B, q, e, s, t⟩ := Kd.R_reads R2
  refine retc_ (k := 1) rfl K M2 rfl rfl rfl rfl ⟨_, rfl, ⟨rfl, rfl, rfl, rfl, rfl, rfl, rfl, tw_inl T2 7 rfl rfl, tw_inl T2 6 rfl rfl, tw_inl T2 5 rfl rfl, ⟨B, q, congrArg some e, s, t⟩, tw_inl T2 4 rfl rfl, tw_inl T2 3 rfl rfl, tw_inl T2 2 rfl rfl, tw_inl T2 1 rfl rfl, tw_inl T2 0 rfl rfl, rfl⟩, M2.bl⟩
end Go.Proofs.YtjjaiahfkiojlaaGreat.Pure
