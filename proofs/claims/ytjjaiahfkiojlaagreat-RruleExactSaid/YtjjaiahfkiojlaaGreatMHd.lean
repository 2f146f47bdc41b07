-- What some functions of the program compute: a text of this claim's own (lines first written by the kit's tool, some proved anew).
-- What a function of the program computes: a text of this claim's own.
-- What beside and Check of a rule compute, where all is right: a text of this claim's own.
import Derived.Test.YtjjaiahfkiojlaaGreatMOx0
import Derived.Test.YtjjaiahfkiojlaaGreatOx21
import Derived.Test.YtjjaiahfkiojlaaGreatHm
import Derived.Test.YtjjaiahfkiojlaaGreatMHb
import Derived.Test.YtjjaiahfkiojlaaGreatHc
namespace Go.Proofs.YtjjaiahfkiojlaaGreat.O
open Go.RowKit Go.Proofs.YtjjaiahfkiojlaaGreatW.PrintWords Go.Proofs.YtjjaiahfkiojlaaGreatW.PrintLast Go.Proofs.YtjjaiahfkiojlaaGreatW.PrintMore
attribute [local go_sem] max2_int min2_int max_two min_two max_three min_three max_four min_four   -- for this text's walks alone
set_option linter.unusedVariables false
set_option linter.unusedSimpArgs false

/-! ### clock_Split: function 51 -/
def clock_Split.f (a0 : Int) : Option (Int × Int) := if (Int.tmod a0 86400) < 0 then (some (wrap64 ((wrap64 (Int.tdiv a0 86400)) - 1), wrap64 ((Int.tmod a0 86400) + 86400))) else (some (wrap64 (Int.tdiv a0 86400), Int.tmod a0 86400))
set_option maxHeartbeats 8000000 in
set_option maxRecDepth 100000 in
theorem clock_Split.calls (a0 : Int) (r1 : Int) (r2 : Int) (w : World) (h : clock_Split.f a0 = some (r1, r2)) :
    Calls Tryz.prog 51 #[.int .i64 a0] w fun e w' => e = .returned (.tuple #[.int .i64 r1, .int .i64 r2]) ∧ Drawn0 w w' := by
  have H : (if (Int.tmod a0 86400) < 0 then (some (wrap64 ((wrap64 (Int.tdiv a0 86400)) - 1), wrap64 ((Int.tmod a0 86400) + 86400))) else (some (wrap64 (Int.tdiv a0 86400), Int.tmod a0 86400))) = some (r1, r2) := h
  clear h
  by_cases c2 : (Int.tmod a0 86400) < 0
  · rw [if_pos c2] at H
    have c2b0 : decide ((Int.tmod a0 86400) < 0) = true := decide_eq_true c2
    clear c2
    simp only [Option.some.injEq, Prod.mk.injEq] at H
    obtain ⟨rfl, rfl⟩ := H
    go_enter Tryz.func51, Tryz.ntmps51
    go_wp2
    go_ret2
    exact ⟨by first | rfl | (simp; done) | (simp [*]; done), by repeat (first | exact Drawn0.refl _ | apply Drawn0.step)⟩
  · rw [if_neg c2] at H
    have c2b0 : decide ((Int.tmod a0 86400) < 0) = false := decide_eq_false c2
    clear c2
    simp only [Option.some.injEq, Prod.mk.injEq] at H
    obtain ⟨rfl, rfl⟩ := H
    go_enter Tryz.func51, Tryz.ntmps51
    go_wp2
    go_ret2
    exact ⟨by first | rfl | (simp; done) | (simp [*]; done), by repeat (first | exact Drawn0.refl _ | apply Drawn0.step)⟩

end Go.Proofs.YtjjaiahfkiojlaaGreat.O

namespace Go.Proofs.YtjjaiahfkiojlaaGreat.O
open Go.RowKit Go.Proofs.YtjjaiahfkiojlaaGreatW.PrintWords Go.Proofs.YtjjaiahfkiojlaaGreatW.PrintLast Go.Proofs.YtjjaiahfkiojlaaGreatW.PrintMore
attribute [local go_sem] max2_int min2_int max_two min_two max_three min_three max_four min_four   -- for this text's walks alone
set_option linter.unusedVariables false
set_option linter.unusedSimpArgs false

/-! ### recur_year: function 102 -/
def recur_year.f (k : Nat) (a0 : Int) : Option (Bool) := (clock_Split.f a0).bind fun bt181 => ((civil_Date.f k bt181.1).bind fun bt183 => (if bt183.2.2.2 = 0 then (if bt183.1 ≥ 1 then (some (decide (bt183.1 ≤ 9999))) else (some false)) else (some false)))
set_option maxHeartbeats 8000000 in
set_option maxRecDepth 100000 in
theorem recur_year.calls (k : Nat) (a0 : Int) (r : Bool) (w : World) (h : recur_year.f k a0 = some r) :
    Calls Tryz.prog 102 #[.int .i64 a0] w fun e w' => e = .returned (.bool r) ∧ Below w.heap.size w w' := by
  have hu30 := Tryz.underlying30
  have HB := Aside0.mk (Below.refl w.heap.size w)
  have H : ((clock_Split.f a0).bind fun bt181 => ((civil_Date.f k bt181.1).bind fun bt183 => (if bt183.2.2.2 = 0 then (if bt183.1 ≥ 1 then (some (decide (bt183.1 ≤ 9999))) else (some false)) else (some false)))) = some r := h
  clear h
  replace H := Option.bind_eq_some_iff.mp H
  obtain ⟨⟨t181, t182⟩, A20, H⟩ := H
  replace H : ((civil_Date.f k t181).bind fun bt183 => (if bt183.2.2.2 = 0 then (if bt183.1 ≥ 1 then (some (decide (bt183.1 ≤ 9999))) else (some false)) else (some false))) = some r := H
  have A2 := Aside0.mk A20
  clear A20
  replace H := Option.bind_eq_some_iff.mp H
  obtain ⟨⟨t183, t184, t185, t186⟩, A30, H⟩ := H
  replace H : (if t186 = 0 then (if t183 ≥ 1 then (some (decide (t183 ≤ 9999))) else (some false)) else (some false)) = some r := H
  have A3 := Aside0.mk A30
  clear A30
  by_cases c4 : t186 = 0
  · rw [if_pos c4] at H
    have c4b0 : (t186 == 0) = true := beq_iff_eq.mpr c4
    have c4b1 : (t186 != 0) = false := bne_eq_false_iff_eq.mpr c4
    clear c4
    by_cases c5 : t183 ≥ 1
    · rw [if_pos c5] at H
      have c5b0 : decide (1 ≤ t183) = true := decide_eq_true c5
      clear c5
      obtain rfl := Option.some.inj H
      go_enter Tryz.func102, Tryz.ntmps102
      go_wp2_with (first | ((with_reducible refine gate_callee (f := 51) rfl ?_); refine goesL_ (some 9) rfl rfl Tryz.func51 (by kernel_rfl) rfl #[.int .i64 a0] rfl (by (try simp only [List.map_toArray, List.map_cons, List.map_nil]); first | done | rfl | (simp only [List.length_drop, List.length_take]; rfl)) ?_; (with_reducible refine (clock_Split.calls a0 t181 t182 _ A2.out).mono ?_); rintro e w' ⟨rfl, ⟨nd, rfl⟩⟩; refine ⟨_, rfl, ?_⟩) | ((with_reducible refine gate_callee (f := 73) rfl ?_); refine goesL_ (some 14) rfl rfl Tryz.func73 (by kernel_rfl) rfl #[.int .i64 t181] rfl (by (try simp only [List.map_toArray, List.map_cons, List.map_nil]); first | done | rfl | (simp only [List.length_drop, List.length_take]; rfl)) ?_; (with_reducible refine (civil_Date.calls k t181 t183 t184 t185 t186 _ A3.out).mono ?_); rintro e w6 ⟨rfl, hb⟩; refine ⟨_, rfl, ?_⟩; have n0_ := Aside0.mk (below_step (by repeat (first | (with_reducible first | exact HB.out | apply below_alloc | apply pw_below_drewN | apply below_drew1) | exact HB.out)) hb); clear HB; have HB := n0_; clear n0_; (try clear hb); (try clear hb2); (try clear hk); (try clear hi)) | ((with_reducible refine gate_dst (N := 5) rfl ?_); refine box_event ?hg (N := 5) ?hd (cs := #[.int .i64 0, .int .i64 0, .int .i64 0]) (t := 30) ?hr ?_; (case hd => rfl); (case hg => rfl); (case hr => first | (go_simp; done) | (go_simp; rfl)); intro gb187 hg w7 hbox hb; have n0_ := Aside0.mk (below_step (by repeat (first | (with_reducible first | exact HB.out | apply below_alloc | apply pw_below_drewN | apply below_drew1) | exact HB.out)) hb); have n1_ := Aside0.mk (hbox); have n2_ := Aside0.mk ((by rw [hg]; exact (below_size (by repeat (first | (with_reducible first | exact HB.out | apply below_alloc | apply pw_below_drewN | apply below_drew1) | exact HB.out))) : w.heap.size ≤ gb187)); have n3_ := Aside0.mk ((by rw [hg]; exact (below_size (by repeat (first | (with_reducible first | exact HB.out | apply below_alloc | apply pw_below_drewN | apply below_drew1) | exact HB.out))) : w.heap.size ≤ gb187)); clear HB; have HB := n0_; have BK187 := n1_; have GW187 := n2_; have GE187 := n3_; clear n0_ n1_ n2_ n3_; clear hb hbox hg; have hcz8_0 : w7.cell? ⟨gb187, 0, none⟩ = some (.int .i64 0) := (blk_cell BK187.out 0).trans rfl; have hcz8_1 : w7.cell? ⟨gb187, 1, none⟩ = some (.int .i64 0) := (blk_cell BK187.out 1).trans rfl; have hcz8_2 : w7.cell? ⟨gb187, 2, none⟩ = some (.int .i64 0) := (blk_cell BK187.out 2).trans rfl; have hfz8_0 := blk_frozen BK187.out 0; have hfz8_1 := blk_frozen BK187.out 1; have hfz8_2 := blk_frozen BK187.out 2))
      go_ret
      exact ⟨by first | rfl | (simp [errW_none, errW_some] <;> rfl) | (simp [*, errW_none, errW_some] <;> rfl), by repeat (first | (with_reducible first | exact HB.out | apply below_alloc | apply pw_below_drewN | apply below_drew1 | refine below_set ?_ GE187.out) | exact HB.out)⟩
    · rw [if_neg c5] at H
      have c5b0 : decide (1 ≤ t183) = false := decide_eq_false c5
      clear c5
      obtain rfl := Option.some.inj H
      go_enter Tryz.func102, Tryz.ntmps102
      go_wp2_with (first | ((with_reducible refine gate_callee (f := 51) rfl ?_); refine goesL_ (some 9) rfl rfl Tryz.func51 (by kernel_rfl) rfl #[.int .i64 a0] rfl (by (try simp only [List.map_toArray, List.map_cons, List.map_nil]); first | done | rfl | (simp only [List.length_drop, List.length_take]; rfl)) ?_; (with_reducible refine (clock_Split.calls a0 t181 t182 _ A2.out).mono ?_); rintro e w' ⟨rfl, ⟨nd, rfl⟩⟩; refine ⟨_, rfl, ?_⟩) | ((with_reducible refine gate_callee (f := 73) rfl ?_); refine goesL_ (some 14) rfl rfl Tryz.func73 (by kernel_rfl) rfl #[.int .i64 t181] rfl (by (try simp only [List.map_toArray, List.map_cons, List.map_nil]); first | done | rfl | (simp only [List.length_drop, List.length_take]; rfl)) ?_; (with_reducible refine (civil_Date.calls k t181 t183 t184 t185 t186 _ A3.out).mono ?_); rintro e w9 ⟨rfl, hb⟩; refine ⟨_, rfl, ?_⟩; have n0_ := Aside0.mk (below_step (by repeat (first | (with_reducible first | exact HB.out | apply below_alloc | apply pw_below_drewN | apply below_drew1) | exact HB.out)) hb); clear HB; have HB := n0_; clear n0_; (try clear hb); (try clear hb2); (try clear hk); (try clear hi)) | ((with_reducible refine gate_dst (N := 5) rfl ?_); refine box_event ?hg (N := 5) ?hd (cs := #[.int .i64 0, .int .i64 0, .int .i64 0]) (t := 30) ?hr ?_; (case hd => rfl); (case hg => rfl); (case hr => first | (go_simp; done) | (go_simp; rfl)); intro gb187 hg w10 hbox hb; have n0_ := Aside0.mk (below_step (by repeat (first | (with_reducible first | exact HB.out | apply below_alloc | apply pw_below_drewN | apply below_drew1) | exact HB.out)) hb); have n1_ := Aside0.mk (hbox); have n2_ := Aside0.mk ((by rw [hg]; exact (below_size (by repeat (first | (with_reducible first | exact HB.out | apply below_alloc | apply pw_below_drewN | apply below_drew1) | exact HB.out))) : w.heap.size ≤ gb187)); have n3_ := Aside0.mk ((by rw [hg]; exact (below_size (by repeat (first | (with_reducible first | exact HB.out | apply below_alloc | apply pw_below_drewN | apply below_drew1) | exact HB.out))) : w.heap.size ≤ gb187)); clear HB; have HB := n0_; have BK187 := n1_; have GW187 := n2_; have GE187 := n3_; clear n0_ n1_ n2_ n3_; clear hb hbox hg; have hcz11_0 : w10.cell? ⟨gb187, 0, none⟩ = some (.int .i64 0) := (blk_cell BK187.out 0).trans rfl; have hcz11_1 : w10.cell? ⟨gb187, 1, none⟩ = some (.int .i64 0) := (blk_cell BK187.out 1).trans rfl; have hcz11_2 : w10.cell? ⟨gb187, 2, none⟩ = some (.int .i64 0) := (blk_cell BK187.out 2).trans rfl; have hfz11_0 := blk_frozen BK187.out 0; have hfz11_1 := blk_frozen BK187.out 1; have hfz11_2 := blk_frozen BK187.out 2))
      go_ret
      exact ⟨by first | rfl | (simp [errW_none, errW_some] <;> rfl) | (simp [*, errW_none, errW_some] <;> rfl), by repeat (first | (with_reducible first | exact HB.out | apply below_alloc | apply pw_below_drewN | apply below_drew1 | refine below_set ?_ GE187.out) | exact HB.out)⟩
  · rw [if_neg c4] at H
    have c4b0 : (t186 == 0) = false := beq_eq_false_iff_ne.mpr c4
    have c4b1 : (t186 != 0) = true := bne_iff_ne.mpr c4
    obtain rfl := Option.some.inj H
    go_enter Tryz.func102, Tryz.ntmps102
    go_wp2_with (first | ((with_reducible refine gate_callee (f := 51) rfl ?_); refine goesL_ (some 9) rfl rfl Tryz.func51 (by kernel_rfl) rfl #[.int .i64 a0] rfl (by (try simp only [List.map_toArray, List.map_cons, List.map_nil]); first | done | rfl | (simp only [List.length_drop, List.length_take]; rfl)) ?_; (with_reducible refine (clock_Split.calls a0 t181 t182 _ A2.out).mono ?_); rintro e w' ⟨rfl, ⟨nd, rfl⟩⟩; refine ⟨_, rfl, ?_⟩) | ((with_reducible refine gate_callee (f := 73) rfl ?_); refine goesL_ (some 14) rfl rfl Tryz.func73 (by kernel_rfl) rfl #[.int .i64 t181] rfl (by (try simp only [List.map_toArray, List.map_cons, List.map_nil]); first | done | rfl | (simp only [List.length_drop, List.length_take]; rfl)) ?_; (with_reducible refine (civil_Date.calls k t181 t183 t184 t185 t186 _ A3.out).mono ?_); rintro e w12 ⟨rfl, hb⟩; refine ⟨_, rfl, ?_⟩; have n0_ := Aside0.mk (below_step (by repeat (first | (with_reducible first | exact HB.out | apply below_alloc | apply pw_below_drewN | apply below_drew1) | exact HB.out)) hb); clear HB; have HB := n0_; clear n0_; (try clear hb); (try clear hb2); (try clear hk); (try clear hi)) | ((with_reducible refine gate_dst (N := 5) rfl ?_); refine box_event ?hg (N := 5) ?hd (cs := #[.int .i64 0, .int .i64 0, .int .i64 0]) (t := 30) ?hr ?_; (case hd => rfl); (case hg => rfl); (case hr => first | (go_simp; done) | (go_simp; rfl)); intro gb187 hg w13 hbox hb; have n0_ := Aside0.mk (below_step (by repeat (first | (with_reducible first | exact HB.out | apply below_alloc | apply pw_below_drewN | apply below_drew1) | exact HB.out)) hb); have n1_ := Aside0.mk (hbox); have n2_ := Aside0.mk ((by rw [hg]; exact (below_size (by repeat (first | (with_reducible first | exact HB.out | apply below_alloc | apply pw_below_drewN | apply below_drew1) | exact HB.out))) : w.heap.size ≤ gb187)); have n3_ := Aside0.mk ((by rw [hg]; exact (below_size (by repeat (first | (with_reducible first | exact HB.out | apply below_alloc | apply pw_below_drewN | apply below_drew1) | exact HB.out))) : w.heap.size ≤ gb187)); clear HB; have HB := n0_; have BK187 := n1_; have GW187 := n2_; have GE187 := n3_; clear n0_ n1_ n2_ n3_; clear hb hbox hg; have hcz14_0 : w13.cell? ⟨gb187, 0, none⟩ = some (.int .i64 0) := (blk_cell BK187.out 0).trans rfl; have hcz14_1 : w13.cell? ⟨gb187, 1, none⟩ = some (.int .i64 0) := (blk_cell BK187.out 1).trans rfl; have hcz14_2 : w13.cell? ⟨gb187, 2, none⟩ = some (.int .i64 0) := (blk_cell BK187.out 2).trans rfl; have hfz14_0 := blk_frozen BK187.out 0; have hfz14_1 := blk_frozen BK187.out 1; have hfz14_2 := blk_frozen BK187.out 2))
    go_ret
    exact ⟨by first | rfl | (simp [errW_none, errW_some] <;> rfl) | (simp [*, errW_none, errW_some] <;> rfl), by repeat (first | (with_reducible first | exact HB.out | apply below_alloc | apply pw_below_drewN | apply below_drew1 | refine below_set ?_ GE187.out) | exact HB.out)⟩

end Go.Proofs.YtjjaiahfkiojlaaGreat.O

namespace Go.Proofs.YtjjaiahfkiojlaaGreat.O
open Go.RowKit Go.Deep Go.Proofs.YtjjaiahfkiojlaaGreatW.PrintWords Go.Proofs.YtjjaiahfkiojlaaGreatW.PrintLast Go.Proofs.YtjjaiahfkiojlaaGreatW.PrintMore
set_option linter.unusedVariables false
set_option linter.unusedSimpArgs false
def recur_ends.j0 : Nat → Bool → Int → Int → Int → Bool → Int → Bool → List Int → List Int → List Int → List (S67) → List Int → List Int → List Int → List Int → List Int → Int → Option (Bool)
  | 0, _, _, _, _, _, _, _, _, _, _, _, _, _, _, _, _, _ => none
  | k + 1, x19, x189000, x189001, x189002, x189003, x189004, x189005, x189006, x189007, x189008, x189009, x189010, x189011, x189012, x189013, x189014, x189015 => if x19 = true then (some false) else (if x189003 = true then ((recur_year.f k x189004).bind fun t189 => (some t189)) else (if x189004 = 0 then (some (!x189005)) else (some false)))
def recur_ends.f (k : Nat) (a0_0 : Int) (a0_1 : Int) (a0_2 : Int) (a0_3 : Bool) (a0_4 : Int) (a0_5 : Bool) (l0_6 : List Int) (l0_7 : List Int) (l0_8 : List Int) (l0_9 : List (S67)) (l0_10 : List Int) (l0_11 : List Int) (l0_12 : List Int) (l0_13 : List Int) (l0_14 : List Int) (a0_15 : Int) : Option (Bool) := if a0_2 < 0 then (recur_ends.j0 k true a0_0 a0_1 a0_2 a0_3 a0_4 a0_5 l0_6 l0_7 l0_8 l0_9 l0_10 l0_11 l0_12 l0_13 l0_14 a0_15) else (if a0_2 > 100000 then (recur_ends.j0 k true a0_0 a0_1 a0_2 a0_3 a0_4 a0_5 l0_6 l0_7 l0_8 l0_9 l0_10 l0_11 l0_12 l0_13 l0_14 a0_15) else (if a0_3 = true then (recur_ends.j0 k (decide (a0_2 > 0)) a0_0 a0_1 a0_2 a0_3 a0_4 a0_5 l0_6 l0_7 l0_8 l0_9 l0_10 l0_11 l0_12 l0_13 l0_14 a0_15) else (recur_ends.j0 k false a0_0 a0_1 a0_2 a0_3 a0_4 a0_5 l0_6 l0_7 l0_8 l0_9 l0_10 l0_11 l0_12 l0_13 l0_14 a0_15)))
set_option maxHeartbeats 4000000 in
set_option maxRecDepth 100000 in
theorem recur_ends.calls (k : Nat) (a0_0 : Int) (a0_1 : Int) (a0_2 : Int) (a0_3 : Bool) (a0_4 : Int) (a0_5 : Bool) (A0_6 : Option Addr) (c0_6 : Nat) (l0_6 : List Int) (A0_7 : Option Addr) (c0_7 : Nat) (l0_7 : List Int) (A0_8 : Option Addr) (c0_8 : Nat) (l0_8 : List Int) (A0_9 : Option Addr) (c0_9 : Nat) (l0_9 : List (S67)) (A0_10 : Option Addr) (c0_10 : Nat) (l0_10 : List Int) (A0_11 : Option Addr) (c0_11 : Nat) (l0_11 : List Int) (A0_12 : Option Addr) (c0_12 : Nat) (l0_12 : List Int) (A0_13 : Option Addr) (c0_13 : Nat) (l0_13 : List Int) (A0_14 : Option Addr) (c0_14 : Nat) (l0_14 : List Int) (a0_15 : Int) (r : Bool) (w : World) (hr0_6 : Kd.C (Kd.int .i64) w A0_6 l0_6.length l0_6) (hc0_6 : l0_6.length ≤ c0_6) (hr0_7 : Kd.C (Kd.int .i64) w A0_7 l0_7.length l0_7) (hc0_7 : l0_7.length ≤ c0_7) (hr0_8 : Kd.C (Kd.int .i64) w A0_8 l0_8.length l0_8) (hc0_8 : l0_8.length ≤ c0_8) (hr0_9 : Kd.C k67 w A0_9 l0_9.length l0_9) (hc0_9 : l0_9.length ≤ c0_9) (hr0_10 : Kd.C (Kd.int .i64) w A0_10 l0_10.length l0_10) (hc0_10 : l0_10.length ≤ c0_10) (hr0_11 : Kd.C (Kd.int .i64) w A0_11 l0_11.length l0_11) (hc0_11 : l0_11.length ≤ c0_11) (hr0_12 : Kd.C (Kd.int .i64) w A0_12 l0_12.length l0_12) (hc0_12 : l0_12.length ≤ c0_12) (hr0_13 : Kd.C (Kd.int .i64) w A0_13 l0_13.length l0_13) (hc0_13 : l0_13.length ≤ c0_13) (hr0_14 : Kd.C (Kd.int .i64) w A0_14 l0_14.length l0_14) (hc0_14 : l0_14.length ≤ c0_14) (h : recur_ends.f k a0_0 a0_1 a0_2 a0_3 a0_4 a0_5 l0_6 l0_7 l0_8 l0_9 l0_10 l0_11 l0_12 l0_13 l0_14 a0_15 = some r) :
    Calls Tryz.prog 67 #[.agg #[.int .i64 a0_0, .int .i64 a0_1, .int .i64 a0_2, .bool a0_3, .int .i64 a0_4, .bool a0_5, .slice A0_6 l0_6.length c0_6, .slice A0_7 l0_7.length c0_7, .slice A0_8 l0_8.length c0_8, .slice A0_9 l0_9.length c0_9, .slice A0_10 l0_10.length c0_10, .slice A0_11 l0_11.length c0_11, .slice A0_12 l0_12.length c0_12, .slice A0_13 l0_13.length c0_13, .slice A0_14 l0_14.length c0_14, .int .i64 a0_15]] w fun e w' => e = .returned (.bool r) ∧ Below w.heap.size w w' := by
  unfold recur_ends.f at h
  refine en_ Tryz.func67 rfl rfl rfl fun a K => sr_ (bx_ K (On.nil w) rfl rfl rfl rfl rfl rfl fun a g1 W M K => run_ 1 K rfl fun a K => nil_ (wp_seq (sr_ ?_)))
  by_cases c1 : a0_2 < 0
  case' pos =>
    rw [if_pos c1] at h
    have u1 := decide_eq_true c1
    refine run_ 1 K rfl fun a K => ld_ K M 0 rfl rfl rfl rfl rfl rfl rfl rfl fun a K => run_ 1 K rfl fun a K => run_ 14 (fx_ K u1) rfl fun a K => nil_ ?_
  case' neg =>
    rw [if_neg c1] at h
    have u1 := decide_eq_false c1
    by_cases c2 : a0_2 > 100000
    case' pos =>
      rw [if_pos c2] at h
      have u2 : decide (100000 < a0_2) = true := decide_eq_true c2
      refine run_ 1 K rfl fun a K => ld_ K M 0 rfl rfl rfl rfl rfl rfl rfl rfl fun a K => run_ 1 K rfl fun a K => run_ 2 (fx_ K u1) rfl fun a K => ld_ K M 0 rfl rfl rfl rfl rfl rfl rfl rfl fun a K => run_ 1 K rfl fun a K => run_ 10 (fx_ K u2) rfl fun a K => nil_ ?_
    case' neg =>
      rw [if_neg c2] at h
      have u2 : decide (100000 < a0_2) = false := decide_eq_false c2
      by_cases c3 : a0_3 = true
      case' pos =>
        rw [if_pos c3] at h
        refine run_ 1 K rfl fun a K => ld_ K M 0 rfl rfl rfl rfl rfl rfl rfl rfl fun a K => run_ 1 K rfl fun a K => run_ 2 (fx_ K u1) rfl fun a K => ld_ K M 0 rfl rfl rfl rfl rfl rfl rfl rfl fun a K => run_ 1 K rfl fun a K => run_ 3 (fx_ K u2) rfl fun a K => ld_ K M 0 rfl rfl rfl rfl rfl rfl rfl rfl fun a K => run_ 1 K rfl fun a K => run_ 1 (fx_ K c3) rfl fun a K => ld_ K M 0 rfl rfl rfl rfl rfl rfl rfl rfl fun a K => run_ 3 K rfl fun a K => nil_ ?_
      case' neg =>
        rw [if_neg c3] at h
        have u3 : a0_3 = false := Bool.eq_false_iff.2 c3
        refine run_ 1 K rfl fun a K => ld_ K M 0 rfl rfl rfl rfl rfl rfl rfl rfl fun a K => run_ 1 K rfl fun a K => run_ 2 (fx_ K u1) rfl fun a K => ld_ K M 0 rfl rfl rfl rfl rfl rfl rfl rfl fun a K => run_ 1 K rfl fun a K => run_ 3 (fx_ K u2) rfl fun a K => ld_ K M 0 rfl rfl rfl rfl rfl rfl rfl rfl fun a K => run_ 1 K rfl fun a K => run_ 5 (fx_ K u3) rfl fun a K => nil_ ?_
  all_goals
    obtain ⟨B, hB, K⟩ : ∃ B, recur_ends.j0 k B a0_0 a0_1 a0_2 a0_3 a0_4 a0_5 l0_6 l0_7 l0_8 l0_9 l0_10 l0_11 l0_12 l0_13 l0_14 a0_15 = some r ∧ Kn 34 [(19, .bool B), (1, .pointer (some ⟨g1, 0, none⟩))] a := ⟨_, h, fg_ K ⟨rfl, rfl, trivial⟩⟩
    clear h
    cases k with
    | zero => cases (show (none : Option Bool) = some r from hB)
    | succ k =>
    replace hB : (if B = true then (some false) else (if a0_3 = true then ((recur_year.f k a0_4).bind fun t189 => (some t189)) else (if a0_4 = 0 then (some (!a0_5)) else (some false)))) = some r := hB
    cases B with
    | true =>
      rw [if_pos rfl] at hB
      obtain rfl := Option.some.inj hB
      exact ct_ K rfl rfl (sr_ (run_ 1 K rfl fun a K => nil_ (ret_ rfl K rfl ⟨rfl, M.bl⟩)))
    | false =>
    rw [if_neg (show ¬ (false = true) by decide)] at hB
    refine cs_ K rfl rfl (wp_seq (sr_ ?_))
    by_cases d3 : a0_3 = true
    case pos =>
      rw [if_pos d3] at hB
      obtain ⟨y, hy, hB⟩ := Option.bind_eq_some_iff.mp hB
      obtain rfl := Option.some.inj hB
      refine run_ 1 K rfl fun a K => ld_ K M 0 rfl rfl rfl rfl rfl rfl rfl rfl fun a K => run_ 1 K rfl fun a K => nil_ ?_
      refine cs_ K rfl (by rw [d3]; rfl) (sr_ ?_)
      refine run_ 1 K rfl fun a K => ld_ K M 0 rfl rfl rfl rfl rfl rfl rfl rfl fun a K => cl_ K Tryz.func102 (by kernel_rfl) rfl rfl rfl rfl rfl rfl ((recur_year.calls k a0_4 _ _ hy).mono ?_)
      rintro _ w2 ⟨rfl, b2⟩
      replace M := M.call b2
      refine ⟨_, rfl, fun a K => run_ 1 K rfl fun a K => nil_ ?_⟩
      exact ret_ rfl K rfl ⟨rfl, M.bl⟩
    rw [if_neg d3] at hB
    have d3f : a0_3 = false := Bool.eq_false_iff.2 d3
    refine run_ 1 K rfl fun a K => ld_ K M 0 rfl rfl rfl rfl rfl rfl rfl rfl fun a K => run_ 1 K rfl fun a K => nil_ ?_
    refine ct_ K rfl (by rw [d3f]; rfl) (sr_ ?_)
    by_cases d4 : a0_4 = 0
    case pos =>
      rw [if_pos d4] at hB
      obtain rfl := Option.some.inj hB
      have v4 := decide_eq_true d4
      refine run_ 1 K rfl fun a K => ld_ K M 0 rfl rfl rfl rfl rfl rfl rfl rfl fun a K => run_ 1 K rfl fun a K => run_ 2 (fx_ K v4) rfl fun a K => ld_ K M 0 rfl rfl rfl rfl rfl rfl rfl rfl fun a K => run_ 3 K rfl fun a K => nil_ ?_
      exact ret_ rfl K rfl ⟨rfl, M.bl⟩
    rw [if_neg d4] at hB
    obtain rfl := Option.some.inj hB
    have v4 := decide_eq_false d4
    refine run_ 1 K rfl fun a K => ld_ K M 0 rfl rfl rfl rfl rfl rfl rfl rfl fun a K => run_ 1 K rfl fun a K => run_ 6 (fx_ K v4) rfl fun a K => nil_ ?_
    exact ret_ rfl K rfl ⟨rfl, M.bl⟩
end Go.Proofs.YtjjaiahfkiojlaaGreat.O

namespace Go.Proofs.YtjjaiahfkiojlaaGreat.O
open Go.RowKit Go.Proofs.YtjjaiahfkiojlaaGreatW.PrintWords Go.Proofs.YtjjaiahfkiojlaaGreatW.PrintLast Go.Proofs.YtjjaiahfkiojlaaGreatW.PrintMore
set_option maxRecDepth 100000
set_option linter.unusedVariables false
set_option linter.unusedSimpArgs false
theorem ws_ (x : Int) (h0 : 0 ≤ x) (h1 : x ≤ 100000000000) : wrap64 x = x := by unfold wrap64; omega
/-- Parts that may stand beside one another. -/
def okBeside (a : Int) (n6 n7 n8 n9 n10 n11 n12 n13 n14 : Nat) : Bool := (!(decide (a = 5) && decide (0 < n10))) && (!((decide (a = 4) || decide (a = 5) || decide (a = 6)) && decide (0 < n11))) && (!(!decide (a = 7) && decide (0 < n12))) && (decide (n14 = 0) || decide (0 < n6 + n7 + n8 + n9 + n10 + n11 + n12 + n13))
set_option maxHeartbeats 4000000 in
set_option maxRecDepth 100000 in
theorem beside_calls (cs : Array Value) (a : Int) (A6 A7 A8 A9 A10 A11 A12 A13 A14 : Option Addr) (n6 n7 n8 n9 n10 n11 n12 n13 n14 k6 k7 k8 k9 k10 k11 k12 k13 k14 : Nat) (w : World) (hs : cs.size = 16)
    (h0 : cs[0]? = some (.int .i64 a))
    (h6 : cs[6]? = some (.slice A6 n6 k6)) (m6 : n6 ≤ 1000000000)
    (h7 : cs[7]? = some (.slice A7 n7 k7)) (m7 : n7 ≤ 1000000000)
    (h8 : cs[8]? = some (.slice A8 n8 k8)) (m8 : n8 ≤ 1000000000)
    (h9 : cs[9]? = some (.slice A9 n9 k9)) (m9 : n9 ≤ 1000000000)
    (h10 : cs[10]? = some (.slice A10 n10 k10)) (m10 : n10 ≤ 1000000000)
    (h11 : cs[11]? = some (.slice A11 n11 k11)) (m11 : n11 ≤ 1000000000)
    (h12 : cs[12]? = some (.slice A12 n12 k12)) (m12 : n12 ≤ 1000000000)
    (h13 : cs[13]? = some (.slice A13 n13 k13)) (m13 : n13 ≤ 1000000000)
    (h14 : cs[14]? = some (.slice A14 n14 k14)) (m14 : n14 ≤ 1000000000)
    (hok : okBeside a n6 n7 n8 n9 n10 n11 n12 n13 n14 = true) :
    Calls Tryz.prog 72 #[.agg cs] w fun e w' => e = .returned (.bool true) ∧ Below w.heap.size w w' := by
  simp only [okBeside, Bool.and_eq_true, Bool.or_eq_true, Bool.not_eq_true', Bool.and_eq_false_iff, Bool.not_eq_false', Bool.or_eq_false_iff, decide_eq_true_eq, decide_eq_false_iff_not] at hok
  obtain ⟨⟨⟨o1, o2⟩, o3⟩, o4⟩ := hok
  have HH := Aside0.mk (And.intro hs (And.intro h0 (And.intro h6 (And.intro h7 (And.intro h8 (And.intro h9 (And.intro h10 (And.intro h11 (And.intro h12 (And.intro h13 h14))))))))))
  have HM := Aside0.mk (And.intro m6 (And.intro m7 (And.intro m8 (And.intro m9 (And.intro m10 (And.intro m11 (And.intro m12 (And.intro m13 m14))))))))
  have HO := Aside0.mk o4
  have hcase : (a = 4 ∧ n11 = 0 ∧ n12 = 0) ∨ (a = 5 ∧ n10 = 0 ∧ n11 = 0 ∧ n12 = 0) ∨ (a = 6 ∧ n11 = 0 ∧ n12 = 0) ∨ a = 7 ∨ (a ≠ 4 ∧ a ≠ 5 ∧ a ≠ 6 ∧ a ≠ 7 ∧ n12 = 0) := by omega
  have HC := Aside0.mk hcase
  clear hs h0 h6 h7 h8 h9 h10 h11 h12 h13 h14 m6 m7 m8 m9 m10 m11 m12 m13 m14 o1 o2 o3 o4 hcase
  have hu25 := Tryz.underlying25
  go_enter Tryz.func72, Tryz.ntmps72
  go_upto_region 1 with (fail)
  refine wp_abs (fun W => W.heap[w.heap.size]? = some (.cells cs 25 (0, 0)) ∧ Below w.heap.size w W) ⟨blk_new w _, below_alloc (Below.refl _ _) _⟩ ?_
  rintro W ⟨b1, b2⟩
  obtain ⟨hs, h0, h6, h7, h8, h9, h10, h11, h12, h13, h14⟩ := HH.out
  have c0 : W.cell? ⟨w.heap.size, 0, none⟩ = some (.int .i64 a) := (blk_cell b1 0).trans h0
  have c6 : W.cell? ⟨w.heap.size, 6, none⟩ = some (.slice A6 n6 k6) := (blk_cell b1 6).trans h6
  have c7 : W.cell? ⟨w.heap.size, 7, none⟩ = some (.slice A7 n7 k7) := (blk_cell b1 7).trans h7
  have c8 : W.cell? ⟨w.heap.size, 8, none⟩ = some (.slice A8 n8 k8) := (blk_cell b1 8).trans h8
  have c9 : W.cell? ⟨w.heap.size, 9, none⟩ = some (.slice A9 n9 k9) := (blk_cell b1 9).trans h9
  have c10 : W.cell? ⟨w.heap.size, 10, none⟩ = some (.slice A10 n10 k10) := (blk_cell b1 10).trans h10
  have c11 : W.cell? ⟨w.heap.size, 11, none⟩ = some (.slice A11 n11 k11) := (blk_cell b1 11).trans h11
  have c12 : W.cell? ⟨w.heap.size, 12, none⟩ = some (.slice A12 n12 k12) := (blk_cell b1 12).trans h12
  have c13 : W.cell? ⟨w.heap.size, 13, none⟩ = some (.slice A13 n13 k13) := (blk_cell b1 13).trans h13
  have c14 : W.cell? ⟨w.heap.size, 14, none⟩ = some (.slice A14 n14 k14) := (blk_cell b1 14).trans h14
  have B2 := Aside0.mk b2
  clear b1 b2 hs h0 h6 h7 h8 h9 h10 h11 h12 h13 h14 HH
  obtain ⟨rfl, rfl, rfl⟩ | ⟨rfl, rfl, rfl, rfl⟩ | ⟨rfl, rfl, rfl⟩ | rfl | ⟨d4, d5, d6, d7, rfl⟩ := HC.out
  all_goals
    go_upto_region 5 with (fail)
    by_cases d14 : n14 = 0
    · subst d14
      go_wp2
      go_ret
      exact ⟨by simp, B2.out⟩
    · have d15 : ¬ (n14 : Int) = 0 := by omega
      clear d14
      go_wp2
      go_ret
      refine ⟨?_, B2.out⟩
      have e1 := HO.out
      have e2 := HM.out
      refine congrArg Ending.returned (congrArg Value.bool ?_)
      rw [Bool.or_eq_true]
      right
      rw [decide_eq_true_eq]
      obtain ⟨m6, m7, m8, m9, m10, m11, m12, m13, m14⟩ := e2
      simp (disch := omega) only [ws_]
      omega
end Go.Proofs.YtjjaiahfkiojlaaGreat.O
