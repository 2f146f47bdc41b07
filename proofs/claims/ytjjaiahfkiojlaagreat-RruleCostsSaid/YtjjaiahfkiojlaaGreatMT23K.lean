-- What Heavy tells of a rule: a text of this claim's own.
/- Heavy and the reference's Recur and Years as contracts. No condition beyond those each lemma names. -/
/- What a rule's times cost, in plain numbers. No condition beyond those each lemma names. -/
/- RruleCosts answers true. No condition but that the rule's end is an int. -/
import Derived.Test.YtjjaiahfkiojlaaGreatHk
import Derived.Test.YtjjaiahfkiojlaaGreatMOx10
import Derived.Test.YtjjaiahfkiojlaaGreatGSV23
import Derived.Test.YtjjaiahfkiojlaaGreatOx12
import Derived.Test.YtjjaiahfkiojlaaGreatOx152
import Derived.Test.YtjjaiahfkiojlaaGreatMOx8
import Derived.Test.YtjjaiahfkiojlaaGreatMT23w
namespace Go.Proofs.YtjjaiahfkiojlaaGreat.O
open Go.RowKit Go.Proofs.YtjjaiahfkiojlaaGreatW.PrintWords Go.Proofs.YtjjaiahfkiojlaaGreatW.PrintLast Go.Proofs.YtjjaiahfkiojlaaGreatW.PrintMore
set_option maxRecDepth 100000
set_option linter.unusedVariables false
set_option linter.unusedSimpArgs false
/-- Has a rule a list that is long? -/
def heavyB (l0_6 : List Int) (l0_7 : List Int) (l0_8 : List Int) (l0_9 : List (S67)) (l0_10 : List Int) (l0_11 : List Int) (l0_12 : List Int) (l0_13 : List Int) (l0_14 : List Int) : Bool := decide (70 < l0_6.length ∨ 70 < l0_7.length ∨ 30 < l0_8.length ∨ 60 < l0_9.length ∨ 70 < l0_10.length ∨ 60 < l0_11.length ∨ 60 < l0_12.length ∨ 20 < l0_13.length ∨ 60 < l0_14.length)
set_option maxHeartbeats 8000000 in
set_option maxRecDepth 100000 in
theorem solsticelaw21_Heavy.calls (a0_0 : Int) (a0_1 : Int) (a0_2 : Int) (a0_3 : Bool) (a0_4 : Int) (a0_5 : Bool) (A0_6 : Option Addr) (c0_6 : Nat) (l0_6 : List Int) (A0_7 : Option Addr) (c0_7 : Nat) (l0_7 : List Int) (A0_8 : Option Addr) (c0_8 : Nat) (l0_8 : List Int) (A0_9 : Option Addr) (c0_9 : Nat) (l0_9 : List (S67)) (A0_10 : Option Addr) (c0_10 : Nat) (l0_10 : List Int) (A0_11 : Option Addr) (c0_11 : Nat) (l0_11 : List Int) (A0_12 : Option Addr) (c0_12 : Nat) (l0_12 : List Int) (A0_13 : Option Addr) (c0_13 : Nat) (l0_13 : List Int) (A0_14 : Option Addr) (c0_14 : Nat) (l0_14 : List Int) (a0_15 : Int) (w : World) :
    Calls Tryz.prog 12 #[.agg #[.int .i64 a0_0, .int .i64 a0_1, .int .i64 a0_2, .bool a0_3, .int .i64 a0_4, .bool a0_5, .slice A0_6 l0_6.length c0_6, .slice A0_7 l0_7.length c0_7, .slice A0_8 l0_8.length c0_8, .slice A0_9 l0_9.length c0_9, .slice A0_10 l0_10.length c0_10, .slice A0_11 l0_11.length c0_11, .slice A0_12 l0_12.length c0_12, .slice A0_13 l0_13.length c0_13, .slice A0_14 l0_14.length c0_14, .int .i64 a0_15]] w fun e w' => e = .returned (.bool (heavyB l0_6 l0_7 l0_8 l0_9 l0_10 l0_11 l0_12 l0_13 l0_14)) ∧ Below w.heap.size w w' := by
  go_enter Tryz.func12, Tryz.ntmps12
  refine act_abs (fun a => a.eval (.tmp 0) = .agg #[.int .i64 a0_0, .int .i64 a0_1, .int .i64 a0_2, .bool a0_3, .int .i64 a0_4, .bool a0_5, .slice A0_6 l0_6.length c0_6, .slice A0_7 l0_7.length c0_7, .slice A0_8 l0_8.length c0_8, .slice A0_9 l0_9.length c0_9, .slice A0_10 l0_10.length c0_10, .slice A0_11 l0_11.length c0_11, .slice A0_12 l0_12.length c0_12, .slice A0_13 l0_13.length c0_13, .slice A0_14 l0_14.length c0_14, .int .i64 a0_15] ∧ a.tmps.size = 55 ∧ a.defers = []) ⟨rfl, rfl, rfl⟩ ?_
  rintro a ⟨h0, S, D⟩
  refine wp_seq (wp_region_lit ?_)
  refine sv_ S rfl (by decide) (wanted_none rfl) (run_box rfl h0) (fun a1 S1 F1 v1 => ?_)
  refine sv_ S1 rfl (by decide) (wanted_none rfl) (run_assign rfl) (fun a2 S2 F2 v2 => ?_)
  have p := (F2.e 1).trans v1
  have D2 : a2.defers = [] := F2.df.trans (F1.df.trans D)
  have K := blk_new w (.cells #[.int .i64 a0_0, .int .i64 a0_1, .int .i64 a0_2, .bool a0_3, .int .i64 a0_4, .bool a0_5, .slice A0_6 l0_6.length c0_6, .slice A0_7 l0_7.length c0_7, .slice A0_8 l0_8.length c0_8, .slice A0_9 l0_9.length c0_9, .slice A0_10 l0_10.length c0_10, .slice A0_11 l0_11.length c0_11, .slice A0_12 l0_12.length c0_12, .slice A0_13 l0_13.length c0_13, .slice A0_14 l0_14.length c0_14, .int .i64 a0_15] 25 (0, 0))
  have B := below_alloc (Below.refl w.heap.size w) (.cells #[.int .i64 a0_0, .int .i64 a0_1, .int .i64 a0_2, .bool a0_3, .int .i64 a0_4, .bool a0_5, .slice A0_6 l0_6.length c0_6, .slice A0_7 l0_7.length c0_7, .slice A0_8 l0_8.length c0_8, .slice A0_9 l0_9.length c0_9, .slice A0_10 l0_10.length c0_10, .slice A0_11 l0_11.length c0_11, .slice A0_12 l0_12.length c0_12, .slice A0_13 l0_13.length c0_13, .slice A0_14 l0_14.length c0_14, .int .i64 a0_15] 25 (0, 0))
  clear S S1 F1 F2 v1 v2 h0 D
  generalize w.alloc (.cells #[.int .i64 a0_0, .int .i64 a0_1, .int .i64 a0_2, .bool a0_3, .int .i64 a0_4, .bool a0_5, .slice A0_6 l0_6.length c0_6, .slice A0_7 l0_7.length c0_7, .slice A0_8 l0_8.length c0_8, .slice A0_9 l0_9.length c0_9, .slice A0_10 l0_10.length c0_10, .slice A0_11 l0_11.length c0_11, .slice A0_12 l0_12.length c0_12, .slice A0_13 l0_13.length c0_13, .slice A0_14 l0_14.length c0_14, .int .i64 a0_15] 25 (0, 0)) = W at *
  show Code.wp Tryz.prog _ _ a2 W
  refine wp_seq (wp_region_lit ?_)
  refine first_len S2 p (by decide) ((blk_cell K 6).trans rfl) (Or.inl rfl) rfl rfl rfl rfl rfl rfl rfl rfl rfl rfl rfl rfl (by decide) (fun b1 F1 v1 => ?_)
  refine link_len (F1.sz.trans S2) (by decide) ((F1.e 1).trans p) v1 (by decide) ((blk_cell K 7).trans rfl) (Or.inl rfl) rfl rfl rfl rfl rfl rfl rfl rfl rfl rfl rfl rfl rfl rfl rfl rfl rfl rfl rfl (by decide) (fun b2 G2 v2 => ?_)
  have F2 := F1.trans (G2.m (lo' := 3))
  refine link_len (F2.sz.trans S2) (by decide) ((F2.e 1).trans p) v2 (by decide) ((blk_cell K 8).trans rfl) (Or.inl rfl) rfl rfl rfl rfl rfl rfl rfl rfl rfl rfl rfl rfl rfl rfl rfl rfl rfl rfl rfl (by decide) (fun b3 G3 v3 => ?_)
  have F3 := F2.trans (G3.m (lo' := 3))
  refine link_len (F3.sz.trans S2) (by decide) ((F3.e 1).trans p) v3 (by decide) ((blk_cell K 9).trans rfl) (Or.inr rfl) rfl rfl rfl rfl rfl rfl rfl rfl rfl rfl rfl rfl rfl rfl rfl rfl rfl rfl rfl (by decide) (fun b4 G4 v4 => ?_)
  have F4 := F3.trans (G4.m (lo' := 3))
  refine link_len (F4.sz.trans S2) (by decide) ((F4.e 1).trans p) v4 (by decide) ((blk_cell K 10).trans rfl) (Or.inl rfl) rfl rfl rfl rfl rfl rfl rfl rfl rfl rfl rfl rfl rfl rfl rfl rfl rfl rfl rfl (by decide) (fun b5 G5 v5 => ?_)
  have F5 := F4.trans (G5.m (lo' := 3))
  refine link_len (F5.sz.trans S2) (by decide) ((F5.e 1).trans p) v5 (by decide) ((blk_cell K 11).trans rfl) (Or.inl rfl) rfl rfl rfl rfl rfl rfl rfl rfl rfl rfl rfl rfl rfl rfl rfl rfl rfl rfl rfl (by decide) (fun b6 G6 v6 => ?_)
  have F6 := F5.trans (G6.m (lo' := 3))
  refine link_len (F6.sz.trans S2) (by decide) ((F6.e 1).trans p) v6 (by decide) ((blk_cell K 12).trans rfl) (Or.inl rfl) rfl rfl rfl rfl rfl rfl rfl rfl rfl rfl rfl rfl rfl rfl rfl rfl rfl rfl rfl (by decide) (fun b7 G7 v7 => ?_)
  have F7 := F6.trans (G7.m (lo' := 3))
  refine link_len (F7.sz.trans S2) (by decide) ((F7.e 1).trans p) v7 (by decide) ((blk_cell K 13).trans rfl) (Or.inl rfl) rfl rfl rfl rfl rfl rfl rfl rfl rfl rfl rfl rfl rfl rfl rfl rfl rfl rfl rfl (by decide) (fun b8 G8 v8 => ?_)
  have F8 := F7.trans (G8.m (lo' := 3))
  refine link_len (F8.sz.trans S2) (by decide) ((F8.e 1).trans p) v8 (by decide) ((blk_cell K 14).trans rfl) (Or.inl rfl) rfl rfl rfl rfl rfl rfl rfl rfl rfl rfl rfl rfl rfl rfl rfl rfl rfl rfl rfl (by decide) (fun b9 G9 v9 => ?_)
  have F9 := F8.trans (G9.m (lo' := 3))
  refine st_ rfl (wanted_none rfl) (run_assign rfl) ?_
  show Code.wp Tryz.prog Code.ret _ _ W
  refine wp_ret ?_
  have e : (b9.put (some 2) (b9.eval (.tmp 54))).eval (.tmp 2) = .bool (heavyB l0_6 l0_7 l0_8 l0_9 l0_10 l0_11 l0_12 l0_13 l0_14) := (eval_same (by rw [F9.sz, S2]; decide)).trans (v9.trans (congrArg Value.bool (by unfold heavyB; rw [Bool.eq_iff_iff]; simp only [Bool.or_eq_true, decide_eq_true_eq]; omega)))
  have d : (b9.put (some 2) (b9.eval (.tmp 54))).defers = [] := F9.df.trans D2
  generalize b9.put (some 2) (b9.eval (.tmp 54)) = z at *
  refine bodyPost_ret (results_tmp rfl _ _ _) d ?_
  unfold Act.eval at e
  dsimp only at e
  rw [e]
  exact ⟨rfl, B⟩
end Go.Proofs.YtjjaiahfkiojlaaGreat.O

namespace Go.Proofs.YtjjaiahfkiojlaaGreat.Pure
open Go.RowKit Go.Proofs.YtjjaiahfkiojlaaGreat.O Go.Proofs.YtjjaiahfkiojlaaGreatW.PrintWords Go.Proofs.YtjjaiahfkiojlaaGreatW.PrintLast
open Go.Proofs.YtjjaiahfkiojlaaGreat.Civ
set_option linter.unusedVariables false
set_option linter.unusedSimpArgs false
set_option maxRecDepth 100000
set_option maxHeartbeats 4000000
theorem heavy_on {w : World} {cs : Array Value} {r : RR} (R : Rul w cs r) : Calls Tryz.prog 12 #[.agg cs] w (Rets w (.bool (heavyB r.sec r.mi r.ho r.dy r.md r.yd r.wn r.mo r.sp))) := by
  obtain ⟨A6, k6, A7, k7, A8, k8, A9, k9, A10, k10, A11, k11, A12, k12, A13, k13, A14, k14, rfl, h6, h7, h8, h9, h10, h11, h12, h13, h14⟩ := rul_opens R
  exact solsticelaw21_Heavy.calls r.fr r.iv r.ct r.un r.ua r.utc A6 k6 r.sec A7 k7 r.mi A8 k8 r.ho A9 k9 r.dy A10 k10 r.md A11 k11 r.yd A12 k12 r.wn A13 k13 r.mo A14 k14 r.sp r.wk w
/-- The reference's Recur: where it says so, the rule is right. -/
theorem recur_on {w : World} {cs : Array Value} {r : RR} (R : Rul w cs r) (hua : -9223372036854775808 ≤ r.ua) (hua' : r.ua < 9223372036854775808) : ∃ b, (b = true → Right r) ∧ ∀ W, Below w.heap.size w W → Calls Tryz.prog 13 #[.agg cs] W (Rets W (.bool b)) := by
  obtain ⟨b, hb, h⟩ := rrecur r hua hua'
  obtain ⟨k, hk⟩ := hb.rounds
  refine ⟨b, h, fun W hW => ?_⟩
  obtain ⟨A6, k6, A7, k7, A8, k8, A9, k9, A10, k10, A11, k11, A12, k12, A13, k13, A14, k14, rfl, h6, h7, h8, h9, h10, h11, h12, h13, h14⟩ := rul_opens (R.below hW)
  exact solsticeref21_Recur.calls k r.fr r.iv r.ct r.un r.ua r.utc A6 k6 r.sec A7 k7 r.mi A8 k8 r.ho A9 k9 r.dy A10 k10 r.md A11 k11 r.yd A12 k12 r.wn A13 k13 r.mo A14 k14 r.sp r.wk b W h6.2 h6.1 h7.2 h7.1 h8.2 h8.1 h9.2 h9.1 h10.2 h10.1 h11.2 h11.1 h12.2 h12.1 h13.2 h13.1 h14.2 h14.1 hk
theorem years_on {t : Int} (h : -9223372036854775808 ≤ t) (h' : t < 9223372036854775808) (w : World) : Calls Tryz.prog 15 #[.int .i64 t] w (Rets w (.tuple #[.agg #[.int .i64 (yearsV t).1, .int .i64 (yearsV t).2.1, .int .i64 (yearsV t).2.2.1], .bool (yearsV t).2.2.2])) := by
  obtain ⟨k, hk⟩ := (ryears h h').rounds
  exact solsticeref16_Years.calls k t _ _ _ _ w hk
end Go.Proofs.YtjjaiahfkiojlaaGreat.Pure

namespace Go.Proofs.YtjjaiahfkiojlaaGreat.Pure
open Go.RowKit Go.Proofs.YtjjaiahfkiojlaaGreat.O Go.Proofs.YtjjaiahfkiojlaaGreatW.PrintWords Go.Proofs.YtjjaiahfkiojlaaGreatW.PrintLast
open Go.Proofs.YtjjaiahfkiojlaaGreat.Civ
set_option linter.unusedVariables false
set_option linter.unusedSimpArgs false
/-! The fuel -/
theorem fuel_run {r : RR} {st from_ to_ F F' : Int} (hF : 0 ≤ F) (hF' : 0 ≤ F') : ∀ (k : Nat) (p : Int) (S S' : St), 0 ≤ S.sp → S.sp ≤ F' → worksV r st from_ to_ F k p S = some S' → S.sp ≤ S'.sp ∧ (S'.sp ≤ F' → ∀ k' : Nat, (F' - S.sp).toNat < k' → worksV r st from_ to_ F' k' p S = some S') ∧ (F' < S'.sp → ∀ k' : Nat, worksV r st from_ to_ F' k' p S = none) := by
  intro k
  induction k with
  | zero => intro p S S' _ _ e; cases e
  | succ k ih =>
    intro p S S' h0 h1 e
    rw [worksV] at e
    by_cases c : (spanV r p).2.2 ≠ 0 ∨ endsV r to_ S.ct (spanV r p).1 = true
    · rw [if_pos c] at e
      obtain rfl := Option.some.inj e
      refine ⟨Int.le_refl _, fun _ k' hk => ?_, fun q => absurd h1 (Int.not_le.2 q)⟩
      obtain ⟨k', rfl⟩ : ∃ j, k' = j + 1 := ⟨k' - 1, by omega⟩
      exact step_end c
    · rw [if_neg c] at e
      cases hs : stepV r st from_ to_ F S (spanV r p).1 (spanV r p).2.1 with
      | none => rw [hs] at e; cases e
      | some S1 =>
        rw [hs] at e
        dsimp only at e
        unfold stepV at hs
        split at hs
        · cases hs
        split at hs
        · cases hs
        rename_i c1 c2
        have hlen : (letsL r st (spanV r p).1 (spanV r p).2.1).length ≤ F.toNat := by
          rw [List.length_take] at c2
          omega
        have hfull : (letsL r st (spanV r p).1 (spanV r p).2.1).take (F.toNat + 1) = letsL r st (spanV r p).1 (spanV r p).2.1 := List.take_of_length_le (by omega)
        rw [hfull] at hs c2
        have hs1 := Option.some.inj hs
        generalize hl : letsL r st (spanV r p).1 (spanV r p).2.1 = l at hs1 c2 hlen
        have esp : S1.sp = S.sp + 1 + (l.length : Nat) := by
          rw [← hs1]
          exact (pass_len r st from_ to_ _ _).1
        by_cases d : S1.sp ≤ F'
        · have i := ih (p + r.iv) S1 S' (by omega) d e
          have st' : stepV r st from_ to_ F' S (spanV r p).1 (spanV r p).2.1 = some S1 := by
            unfold stepV
            rw [hl, List.take_of_length_le (show l.length ≤ F'.toNat + 1 by omega), if_neg (by omega), if_neg (by omega), hs1]
          refine ⟨by omega, fun q k' hk => ?_, fun q k' => ?_⟩
          · obtain ⟨k', rfl⟩ : ∃ j, k' = j + 1 := ⟨k' - 1, by omega⟩
            rw [worksV, if_neg c, st']
            exact i.2.1 q k' (by omega)
          · cases k' with
            | zero => rfl
            | succ k' =>
              rw [worksV, if_neg c, st']
              exact i.2.2 q k'
        · have mono : ∀ (k : Nat) (p : Int) (A B : St), worksV r st from_ to_ F k p A = some B → A.sp ≤ B.sp := by
            intro k
            induction k with
            | zero => intro p A B q; cases q
            | succ k ih2 =>
              intro p A B q
              rw [worksV] at q
              split at q
              · obtain rfl := Option.some.inj q; exact Int.le_refl _
              · split at q
                · cases q
                · rename_i A2 ha
                  have := ih2 _ _ _ q
                  unfold stepV at ha
                  split at ha
                  · cases ha
                  split at ha
                  · cases ha
                  have e2 := Option.some.inj ha
                  have : A2.sp = A.sp + 1 + (((letsL r st (spanV r p).1 (spanV r p).2.1).take (F.toNat + 1)).length : Nat) := by
                    rw [← e2]
                    exact (pass_len r st from_ to_ _ _).1
                  omega
          have m := mono _ _ _ _ e
          have st' : stepV r st from_ to_ F' S (spanV r p).1 (spanV r p).2.1 = none := by
            unfold stepV
            rw [hl]
            by_cases d1 : F' < S.sp + 1
            · rw [if_pos d1]
            · rw [if_neg d1, if_pos (by rw [List.length_take]; omega)]
          refine ⟨by omega, fun q => absurd q (by omega), fun _ k' => ?_⟩
          cases k' with
          | zero => rfl
          | succ k' => rw [worksV, if_neg c, st']
theorem times_errno {r : RR} {st from_ to_ F : Int} (h : mayT from_ to_ F) : (timesV r st from_ to_ F).2.2 = 0 ∨ (timesV r st from_ to_ F).2.2 = 22 := by
  unfold timesV
  rw [if_pos h]
  split
  · exact Or.inr rfl
  · exact Or.inl rfl
/-- With as much fuel as it costs the same is told, with less nothing. -/
theorem times_fuel {r : RR} {st from_ to_ F : Int} (h : mayT from_ to_ F) (h0 : (timesV r st from_ to_ F).2.2 = 0) : (0 ≤ (timesV r st from_ to_ F).2.1 ∧ (timesV r st from_ to_ F).2.1 ≤ F) ∧ ((timesV r st from_ to_ F).1.length : Int) ≤ (timesV r st from_ to_ F).2.1 + 1 ∧ (∀ F', (timesV r st from_ to_ F).2.1 ≤ F' → F' ≤ 200000 → timesV r st from_ to_ F' = timesV r st from_ to_ F) ∧ (∀ F', 0 ≤ F' → F' < (timesV r st from_ to_ F).2.1 → timesV r st from_ to_ F' = ([], 0, 22)) := by
  have hF := h.2.2.2.2.2.1
  have hF2 := h.2.2.2.2.2.2
  cases hg : goneV r st from_ to_ F with
  | none =>
    unfold timesV at h0
    rw [if_pos h, hg] at h0
    cases h0
  | some S =>
    have e : timesV r st from_ to_ F = (S.out, S.sp, 0) := by
      unfold timesV
      rw [if_pos h, hg]
    rw [e]
    dsimp only
    have t0 := tame_0 (from_ := from_) (to_ := to_) (st := st) hF
    have tame : Tame F S := by
      have key : ∀ (k : Nat) (p : Int) (A B : St), Tame F A → worksV r st from_ to_ F k p A = some B → Tame F B := fun k => by
        induction k with
        | zero => intro p A B _ q; cases q
        | succ k ih =>
          intro p A B hA q
          unfold worksV at q
          split at q
          · obtain rfl := Option.some.inj q; exact hA
          · split at q
            · cases q
            · rename_i A2 ha
              exact ih _ _ _ (step_tame hA ha).1 q
      unfold goneV at hg
      split at hg
      · exact key _ _ _ _ t0 hg
      · obtain rfl := Option.some.inj hg; exact t0
    obtain ⟨q1, q2, q3, q4, q5⟩ := tame
    refine ⟨⟨q1, q2⟩, by omega, fun F' a b => ?_, fun F' a b => ?_⟩
    · have hg' : goneV r st from_ to_ F' = some S := by
        unfold goneV at hg ⊢
        split
        · rename_i hb
          rw [if_pos hb] at hg
          exact (fuel_run hF (by omega) _ _ _ _ t0.1 (by show (0 : Int) ≤ F'; omega) hg).2.1 a _ (by show (F' - 0).toNat < _; omega)
        · rename_i hb
          rw [if_neg hb] at hg
          exact hg
      unfold timesV
      rw [if_pos ⟨h.1, h.2.1, h.2.2.1, h.2.2.2.1, h.2.2.2.2.1, by omega, b⟩, hg']
    · have hg' : goneV r st from_ to_ F' = none := by
        unfold goneV at hg ⊢
        split
        · rename_i hb
          rw [if_pos hb] at hg
          exact (fuel_run hF a _ _ _ _ t0.1 (by show (0 : Int) ≤ F'; omega) hg).2.2 b _
        · rename_i hb
          rw [if_neg hb] at hg
          obtain rfl := Option.some.inj hg
          exact absurd b (by show ¬ F' < (0 : Int); omega)
      unfold timesV
      rw [if_pos ⟨h.1, h.2.1, h.2.2.1, h.2.2.2.1, h.2.2.2.2.1, a, by omega⟩, hg']
end Go.Proofs.YtjjaiahfkiojlaaGreat.Pure

namespace Go.Proofs.YtjjaiahfkiojlaaGreat.Pure
open Go.RowKit Go.Proofs.YtjjaiahfkiojlaaGreat.O Go.Proofs.YtjjaiahfkiojlaaGreatW.PrintWords Go.Proofs.YtjjaiahfkiojlaaGreatW.PrintLast
open Go.Proofs.YtjjaiahfkiojlaaGreat.Civ
set_option linter.unusedVariables false
set_option linter.unusedSimpArgs false
set_option maxRecDepth 100000
set_option maxHeartbeats 4000000
theorem remu_ {m n : Int} (h : n ≠ 0) : binU .rem 28 28 m n = some (.int .u64 (Int.tmod m n)) := by
  simp only [binU, decide_eq_false h]
  rfl
theorem neq_f {a b : Int} (h : a = b) : (!decide (a = b)) = false := by rw [decide_eq_true h]; rfl
theorem few_of {r : RR} (h : heavyB r.sec r.mi r.ho r.dy r.md r.yd r.wn r.mo r.sp = false) : Few r := by
  unfold heavyB at h
  have := of_decide_eq_false h
  exact ⟨by omega, by omega, by omega⟩
theorem umB (a : Int) {n : Int} (hn : 0 < n) (hn' : n ≤ 1000000000000) : ∃ r, 0 ≤ r ∧ r < n ∧ wrap64 (Int.tmod (IntKind.u64.wrap a) n) = r := by
  have h1 := Int.emod_nonneg (IntKind.u64.wrap a) (show n ≠ 0 by omega)
  have h2 := Int.emod_lt_of_pos (IntKind.u64.wrap a) hn
  refine ⟨IntKind.u64.wrap a % n, h1, h2, ?_⟩
  rw [tmod_nn n (by rw [u64w]; omega), w64 (by omega) (by omega)]
theorem um_c {c : Int} (a : Int) (h0 : 0 ≤ c) (h1 : c ≤ 200000) (h2 : ¬ c = 0) : IntKind.u64.wrap c ≠ 0 ∧ ∃ r, 0 ≤ r ∧ r < c ∧ wrap64 (Int.tmod (IntKind.u64.wrap a) (IntKind.u64.wrap c)) = r := by
  have e : IntKind.u64.wrap c = c := by rw [u64w]; omega
  rw [e]
  exact ⟨h2, umB a (by omega) (by omega)⟩
theorem cost_gt {l : List Int} {c : Int} (h0 : 0 ≤ c) (h1 : c ≤ 200000) (h : (l.length : Int) ≤ c + 1) : decide (wrap64 (c + 1) < (l.length : Int)) = false := by
  rw [w64 (by omega) (by omega)]
  exact decide_eq_false (by omega)
theorem RruleCosts_on {w : World} {cs : Array Value} {r : RR} (R : Rul w cs r) (u1 : -9223372036854775808 ≤ r.ua) (u2 : r.ua < 9223372036854775808) (a1 a2 a3 : Int) : Calls Tryz.prog 7 #[.agg cs, .int .i64 a1, .int .i64 a2, .int .i64 a3] w (Rets w (.bool true)) := by
  have fl : Tryz.prog.follows .mixedOrders = true := by kernel_rfl
  obtain ⟨b, hb, hrec⟩ := recur_on R u1 u2
  obtain ⟨q, q1, q2, eq⟩ := umB a2 (n := 100000000) (by decide) (by decide)
  refine en_ Tryz.func7 rfl rfl rfl fun a K => sr_ (bx_ K (On.nil w) rfl rfl rfl rfl rfl rfl fun a g0 W M K => run_ 1 K rfl fun a K => nil_ (wp_seq (sr_ (lda_ K M 0 rfl rfl rfl rfl rfl rfl rfl R.sz fun a K => cl_ K Tryz.func12 (by kernel_rfl) rfl rfl rfl rfl rfl rfl ((heavy_on (R.below M.bl)).mono ?_)))))
  rintro _ w1 ⟨rfl, b1⟩
  replace M := M.call b1
  refine ⟨_, rfl, fun a K => run_ 1 K rfl fun a K => ?_⟩
  cases hh : heavyB r.sec r.mi r.ho r.dy r.md r.yd r.wn r.mo r.sp with
  | true => exact run_ 4 (fx_ K hh) rfl fun a K => nil_ (ct_ K rfl rfl (sr_ (run_ 1 K rfl fun a K => nil_ (ret_ rfl K rfl ⟨rfl, M.bl⟩))))
  | false =>
  have hw := few_of hh
  refine lda_ (fx_ K hh) M 0 rfl rfl rfl rfl rfl rfl rfl R.sz fun a K => cl_ K Tryz.func13 (by kernel_rfl) rfl rfl rfl rfl rfl rfl ((hrec _ M.bl).mono ?_)
  rintro _ w2 ⟨rfl, b2⟩
  replace M := M.call b2
  refine ⟨_, rfl, fun a K => run_ 2 K rfl fun a K => nil_ ?_⟩
  cases b with
  | false => exact ct_ K rfl rfl (sr_ (run_ 1 K rfl fun a K => nil_ (ret_ rfl K rfl ⟨rfl, M.bl⟩)))
  | true =>
  have h := hb rfl
  refine cs_ K rfl rfl (sr_ (run_ 1 K rfl fun a K => cl_ K Tryz.func14 (by kernel_rfl) rfl rfl rfl rfl rfl rfl ((some_on a1).mono ?_)))
  rintro _ w3 ⟨t, ht, rfl, b3⟩
  replace M := M.call b3
  have t1 : -62135596800 ≤ t ∧ t ≤ 253402300799 := by unfold InT at ht; exact ht
  have hmay : mayT t (t + q) 3000 := by unfold mayT; omega
  have eto : wrap64 (t + wrap64 (Int.tmod (IntKind.u64.wrap a2) 100000000)) = t + q := by rw [eq, w64 (by omega) (by omega)]
  have en := times_errno (r := r) (st := t) hmay
  have fu := times_fuel (r := r) (st := t) hmay
  have len := times_len (r := r) (st := t) (from_ := t) (to_ := t + q) (F := 3000)
  clear eq q1 q2 t1 hmay
  refine ⟨_, rfl, fun a K => run_ 1 K rfl fun a K => nil_ (sr_ (run_ 7 K rfl fun a K => nil_ ?_))⟩
  replace K := fg_ (E' := [(9, .int .i64 (t + q)), (1, .int .i64 t), (3, .int .i64 a3), (4, .pointer (some ⟨g0, 0, none⟩))]) (ks_ (i := 9) (u := .int .i64 (t + q)) K rfl (congrArg (Value.int .i64) eto)) ⟨rfl, rfl, rfl, rfl, trivial⟩
  clear eto
  refine sr_ (lda_ K M 0 rfl rfl rfl rfl rfl rfl rfl R.sz fun a K => run_ 3 K rfl fun a K => cl_ K Tryz.func18 (by kernel_rfl) rfl rfl rfl rfl rfl rfl ((Times_on (R.below M.bl) h hw ht).mono ?_))
  rintro _ w4 ⟨v4, rfl, R4, b4⟩
  replace M := M.call b4
  have T2 : ∀ F', (timesV r t t (t + q) 3000).2.2 = 0 → (timesV r t t (t + q) 3000).2.1 ≤ F' → F' ≤ 200000 → ∀ V, Rul V cs r → Calls Tryz.prog 18 #[.agg cs, .int .i64 t, .int .i64 t, .int .i64 (t + q), .int .i64 F'] V fun e W' => ∃ v', e = .returned (.tuple #[v', .int .i64 (timesV r t t (t + q) 3000).2.1, .int .i64 0]) ∧ Kd.R (Kd.int .i64) 3 W' V.heap.size (fun _ => True) v' (timesV r t t (t + q) 3000).1 ∧ Below V.heap.size V W' := fun F' e0 q1 q2 V hV => by
    have := Times_on (from_ := t) (to_ := t + q) (F := F') hV h hw ht
    rw [(fu e0).2.2.1 F' q1 q2, e0] at this
    exact this
  have T3 : ∀ F', (timesV r t t (t + q) 3000).2.2 = 0 → 0 ≤ F' → F' < (timesV r t t (t + q) 3000).2.1 → ∀ V, Rul V cs r → Calls Tryz.prog 18 #[.agg cs, .int .i64 t, .int .i64 t, .int .i64 (t + q), .int .i64 F'] V fun e W' => ∃ v', e = .returned (.tuple #[v', .int .i64 0, .int .i64 22]) ∧ Below V.heap.size V W' := fun F' e0 q1 q2 V hV => by
    have := Times_on (from_ := t) (to_ := t + q) (F := F') hV h hw ht
    rw [(fu e0).2.2.2 F' q1 q2] at this
    exact this.mono fun e W' hh => by obtain ⟨v', h1, _, h3⟩ := hh; exact ⟨v', h1, h3⟩
  generalize (timesV r t t (t + q) 3000).1 = l at R4 fu len T2
  generalize (timesV r t t (t + q) 3000).2.1 = c at fu T2 T3 ⊢
  generalize (timesV r t t (t + q) 3000).2.2 = z at en fu T2 T3 ⊢
  obtain ⟨A4, c4, e4, h4, C4⟩ := Kd.R_reads R4
  subst e4
  clear R4
  refine ⟨_, rfl, fun a K => run_ 7 K rfl fun a K => nil_ (wp_seq (sr_ (run_ 2 K rfl fun a K => nil_ ?_)))⟩
  by_cases ez : z = 0
  case neg =>
    obtain rfl : z = 22 := en.resolve_left ez
    refine ct_ K rfl (ne0_ ez) (sr_ (run_ 3 K rfl fun a K => cl_ (fx_ (c := true) K rfl) Tryz.func19 (by kernel_rfl) rfl rfl rfl rfl rfl rfl (wakes_on.mono ?_)))
    rintro _ w5 ⟨rfl, b5⟩
    exact ⟨_, rfl, fun a K => run_ 2 K rfl fun a K => nil_ (ret_ rfl K rfl ⟨rfl, (M.call b5).bl⟩)⟩
  obtain ⟨⟨c0, c3000⟩, lc, _, _⟩ := fu ez
  replace T2 := T2 c ez (Int.le_refl _) (Int.le_trans c3000 (by decide))
  replace T3 := fun F' => T3 F' ez
  have c2 : c ≤ 200000 := Int.le_trans c3000 (by decide)
  clear fu en c3000
  refine cs_ K rfl (ne0f_ ez) (sr_ (lda_ K M 0 rfl rfl rfl rfl rfl rfl rfl R.sz fun a K => run_ 4 K rfl fun a K => cl_ K Tryz.func18 (by kernel_rfl) rfl rfl rfl rfl rfl rfl ((T2 _ (R.below M.bl)).mono ?_)))
  rintro _ w5 ⟨v5, rfl, R5, b5⟩
  replace M := M.call b5
  replace C4 := Kd.C_below C4 b5
  obtain ⟨A5, c5, e5, h5, C5⟩ := Kd.R_reads R5
  subst e5
  clear R5 T2
  have eg := cost_gt c0 c2 lc
  refine ⟨_, rfl, fun a K => run_ 7 K rfl fun a K => nil_ (wp_seq (sr_ (run_ 3 K rfl fun a K => run_ 5 (fx_ (c := false) K rfl) rfl fun a K => ?_)))⟩
  refine run_ 2 (fx_ (c := false) K (neq_f rfl)) rfl fun a K => cl_ K Tryz.func26 (by kernel_rfl) rfl rfl rfl rfl rfl rfl ((ints_on C5 h5 C4 h4 (Nat.le_trans len (by decide))).mono ?_)
  rintro _ w6 ⟨rfl, b6⟩
  replace M := M.call b6
  refine ⟨_, rfl, fun a K => run_ 3 K rfl fun a K => run_ 6 (fx_ (c := false) K rfl) rfl fun a K => nil_ (cs_ K rfl eg (wp_seq (sr_ (run_ 2 K rfl fun a K => nil_ ?_))))⟩
  by_cases cz : c = 0
  case pos =>
    refine ct_ K rfl (decide_eq_true cz) (sr_ (cl_ K Tryz.func19 (by kernel_rfl) rfl rfl rfl rfl rfl rfl (wakes_on.mono ?_)))
    rintro _ w7 ⟨rfl, b7⟩
    exact ⟨_, rfl, fun a K => run_ 1 K rfl fun a K => nil_ (ret_ rfl K rfl ⟨rfl, (M.call b7).bl⟩)⟩
  obtain ⟨hz, f, f0, f1, ef⟩ := um_c a3 c0 c2 cz
  replace T3 : ∀ V, Rul V cs r → Calls Tryz.prog 18 #[.agg cs, .int .i64 t, .int .i64 t, .int .i64 (t + q), .int .i64 (wrap64 (Int.tmod (IntKind.u64.wrap a3) (IntKind.u64.wrap c)))] V fun e W' => ∃ v', e = .returned (.tuple #[v', .int .i64 0, .int .i64 22]) ∧ Below V.heap.size V W' := fun V hV => by rw [ef]; exact T3 f f0 f1 V hV
  clear f0 f1 ef c0 c2 lc eg
  refine cs_ K rfl (decide_eq_false cz) ?_
  refine dseq_ fl rfl rfl M.drew (dp_ 254 11 [1, 2, 3, 4, 5, 6, 7] K rfl rfl (by kernel_rfl) fun a K => dlda_ 255 0 K M.drew 0 rfl rfl rfl rfl rfl rfl rfl rfl R.sz (by kernel_rfl) fun a K => dt_ 511 8 K M.drew rfl rfl rfl rfl (by kernel_rfl) (fun W hW => run_binU rfl (K.of (x := .tmp 89) rfl) (K.of (x := .tmp 91) rfl) (remu_ hz)) fun a K => dp_ 1023 8 [9] K rfl rfl (by kernel_rfl) fun a K => dc_ 2047 10 K Tryz.func18 (by kernel_rfl) rfl rfl rfl rfl rfl rfl rfl (by kernel_rfl) ((T3 _ (R.below M.drew.bl)).mono ?_))
  rintro _ w7 ⟨v7, rfl, b7⟩
  replace M := M.drew.call b7
  refine ⟨_, rfl, M, fun a K => dp_ 262143 0 [11, 12, 15, 13, 16, 14, 17] K rfl rfl (by kernel_rfl) fun a K => dend_ (by kernel_rfl) ?_⟩
  refine sr_ (run_ 3 K rfl fun a K => cl_ (fx_ (c := true) K rfl) Tryz.func19 (by kernel_rfl) rfl rfl rfl rfl rfl rfl (wakes_on.mono ?_))
  rintro _ w8 ⟨rfl, b8⟩
  exact ⟨_, rfl, fun a K => run_ 2 K rfl fun a K => nil_ (ret_ rfl K rfl ⟨rfl, (M.call b8).bl⟩)⟩
end Go.Proofs.YtjjaiahfkiojlaaGreat.Pure
