-- What some functions of the program compute: a text of this claim's own (lines first written by the kit's tool, some proved anew).
import Derived.Test.YtfinhaghgmnegaaGreatMOx3
import Derived.Test.YtfinhaghgmnegaaGreatOx26
namespace Go.Proofs.YtfinhaghgmnegaaGreat.O
open Go.RowKit Go.Proofs.YtfinhaghgmnegaaGreatW.PrintWords Go.Proofs.YtfinhaghgmnegaaGreatW.PrintLast Go.Proofs.YtfinhaghgmnegaaGreatW.PrintMore
attribute [local go_sem] max2_int min2_int max_two min_two max_three min_three max_four min_four   -- for this text's walks alone
set_option linter.unusedVariables false
set_option linter.unusedSimpArgs false

/-! ### recur_ends: function 21 -/
def recur_ends.j0 : Nat → Bool → Int → Int → Int → Bool → Int → Bool → List Int → List Int → List Int → List (S44) → List Int → List Int → List Int → List Int → List Int → Int → Option (Bool)
  | 0, _, _, _, _, _, _, _, _, _, _, _, _, _, _, _, _, _ => none
  | k + 1, x19, x309000, x309001, x309002, x309003, x309004, x309005, x309006, x309007, x309008, x309009, x309010, x309011, x309012, x309013, x309014, x309015 => if x19 = true then (some false) else (if x309003 = true then ((recur_year.f k x309004).bind fun t309 => (some t309)) else (if x309004 = 0 then (some (!x309005)) else (some false)))
def recur_ends.f (k : Nat) (a0_0 : Int) (a0_1 : Int) (a0_2 : Int) (a0_3 : Bool) (a0_4 : Int) (a0_5 : Bool) (l0_6 : List Int) (l0_7 : List Int) (l0_8 : List Int) (l0_9 : List (S44)) (l0_10 : List Int) (l0_11 : List Int) (l0_12 : List Int) (l0_13 : List Int) (l0_14 : List Int) (a0_15 : Int) : Option (Bool) := if a0_2 < 0 then (recur_ends.j0 k true a0_0 a0_1 a0_2 a0_3 a0_4 a0_5 l0_6 l0_7 l0_8 l0_9 l0_10 l0_11 l0_12 l0_13 l0_14 a0_15) else (if a0_2 > 100000 then (recur_ends.j0 k true a0_0 a0_1 a0_2 a0_3 a0_4 a0_5 l0_6 l0_7 l0_8 l0_9 l0_10 l0_11 l0_12 l0_13 l0_14 a0_15) else (if a0_3 = true then (recur_ends.j0 k (decide (a0_2 > 0)) a0_0 a0_1 a0_2 a0_3 a0_4 a0_5 l0_6 l0_7 l0_8 l0_9 l0_10 l0_11 l0_12 l0_13 l0_14 a0_15) else (recur_ends.j0 k false a0_0 a0_1 a0_2 a0_3 a0_4 a0_5 l0_6 l0_7 l0_8 l0_9 l0_10 l0_11 l0_12 l0_13 l0_14 a0_15)))
set_option maxHeartbeats 8000000 in
set_option maxRecDepth 100000 in
theorem recur_ends.calls (k : Nat) (a0_0 : Int) (a0_1 : Int) (a0_2 : Int) (a0_3 : Bool) (a0_4 : Int) (a0_5 : Bool) (A0_6 : Option Addr) (c0_6 : Nat) (l0_6 : List Int) (A0_7 : Option Addr) (c0_7 : Nat) (l0_7 : List Int) (A0_8 : Option Addr) (c0_8 : Nat) (l0_8 : List Int) (A0_9 : Option Addr) (c0_9 : Nat) (l0_9 : List (S44)) (A0_10 : Option Addr) (c0_10 : Nat) (l0_10 : List Int) (A0_11 : Option Addr) (c0_11 : Nat) (l0_11 : List Int) (A0_12 : Option Addr) (c0_12 : Nat) (l0_12 : List Int) (A0_13 : Option Addr) (c0_13 : Nat) (l0_13 : List Int) (A0_14 : Option Addr) (c0_14 : Nat) (l0_14 : List Int) (a0_15 : Int) (r : Bool) (w : World) (hr0_6 : Kd.C (Kd.int .i64) w A0_6 l0_6.length l0_6) (hc0_6 : l0_6.length ≤ c0_6) (hr0_7 : Kd.C (Kd.int .i64) w A0_7 l0_7.length l0_7) (hc0_7 : l0_7.length ≤ c0_7) (hr0_8 : Kd.C (Kd.int .i64) w A0_8 l0_8.length l0_8) (hc0_8 : l0_8.length ≤ c0_8) (hr0_9 : Kd.C k44 w A0_9 l0_9.length l0_9) (hc0_9 : l0_9.length ≤ c0_9) (hr0_10 : Kd.C (Kd.int .i64) w A0_10 l0_10.length l0_10) (hc0_10 : l0_10.length ≤ c0_10) (hr0_11 : Kd.C (Kd.int .i64) w A0_11 l0_11.length l0_11) (hc0_11 : l0_11.length ≤ c0_11) (hr0_12 : Kd.C (Kd.int .i64) w A0_12 l0_12.length l0_12) (hc0_12 : l0_12.length ≤ c0_12) (hr0_13 : Kd.C (Kd.int .i64) w A0_13 l0_13.length l0_13) (hc0_13 : l0_13.length ≤ c0_13) (hr0_14 : Kd.C (Kd.int .i64) w A0_14 l0_14.length l0_14) (hc0_14 : l0_14.length ≤ c0_14) (h : recur_ends.f k a0_0 a0_1 a0_2 a0_3 a0_4 a0_5 l0_6 l0_7 l0_8 l0_9 l0_10 l0_11 l0_12 l0_13 l0_14 a0_15 = some r) :
    Calls Tryz.prog 21 #[.agg #[.int .i64 a0_0, .int .i64 a0_1, .int .i64 a0_2, .bool a0_3, .int .i64 a0_4, .bool a0_5, .slice A0_6 l0_6.length c0_6, .slice A0_7 l0_7.length c0_7, .slice A0_8 l0_8.length c0_8, .slice A0_9 l0_9.length c0_9, .slice A0_10 l0_10.length c0_10, .slice A0_11 l0_11.length c0_11, .slice A0_12 l0_12.length c0_12, .slice A0_13 l0_13.length c0_13, .slice A0_14 l0_14.length c0_14, .int .i64 a0_15]] w fun e w' => e = .returned (.bool r) ∧ Below w.heap.size w w' := by
  have hu29 := Tryz.underlying29
  have HR0_6 := Aside0.mk hr0_6
  have HC0_6 := Aside0.mk hc0_6
  clear hr0_6 hc0_6
  have HR0_7 := Aside0.mk hr0_7
  have HC0_7 := Aside0.mk hc0_7
  clear hr0_7 hc0_7
  have HR0_8 := Aside0.mk hr0_8
  have HC0_8 := Aside0.mk hc0_8
  clear hr0_8 hc0_8
  have HR0_9 := Aside0.mk hr0_9
  have HC0_9 := Aside0.mk hc0_9
  clear hr0_9 hc0_9
  have HR0_10 := Aside0.mk hr0_10
  have HC0_10 := Aside0.mk hc0_10
  clear hr0_10 hc0_10
  have HR0_11 := Aside0.mk hr0_11
  have HC0_11 := Aside0.mk hc0_11
  clear hr0_11 hc0_11
  have HR0_12 := Aside0.mk hr0_12
  have HC0_12 := Aside0.mk hc0_12
  clear hr0_12 hc0_12
  have HR0_13 := Aside0.mk hr0_13
  have HC0_13 := Aside0.mk hc0_13
  clear hr0_13 hc0_13
  have HR0_14 := Aside0.mk hr0_14
  have HC0_14 := Aside0.mk hc0_14
  clear hr0_14 hc0_14
  have HB := Aside0.mk (Below.refl w.heap.size w)
  have H : (if a0_2 < 0 then (recur_ends.j0 k true a0_0 a0_1 a0_2 a0_3 a0_4 a0_5 l0_6 l0_7 l0_8 l0_9 l0_10 l0_11 l0_12 l0_13 l0_14 a0_15) else (if a0_2 > 100000 then (recur_ends.j0 k true a0_0 a0_1 a0_2 a0_3 a0_4 a0_5 l0_6 l0_7 l0_8 l0_9 l0_10 l0_11 l0_12 l0_13 l0_14 a0_15) else (if a0_3 = true then (recur_ends.j0 k (decide (a0_2 > 0)) a0_0 a0_1 a0_2 a0_3 a0_4 a0_5 l0_6 l0_7 l0_8 l0_9 l0_10 l0_11 l0_12 l0_13 l0_14 a0_15) else (recur_ends.j0 k false a0_0 a0_1 a0_2 a0_3 a0_4 a0_5 l0_6 l0_7 l0_8 l0_9 l0_10 l0_11 l0_12 l0_13 l0_14 a0_15)))) = some r := h
  clear h
  have HC2 := Aside0.mk H
  clear H
  go_enter Tryz.func21, Tryz.ntmps21
  go_upto_region 1 with (first | ((with_reducible refine gate_dst (N := 1) rfl ?_); refine box_event ?hg (N := 1) ?hd (cs := #[.int .i64 a0_0, .int .i64 a0_1, .int .i64 a0_2, .bool a0_3, .int .i64 a0_4, .bool a0_5, .slice A0_6 l0_6.length c0_6, .slice A0_7 l0_7.length c0_7, .slice A0_8 l0_8.length c0_8, .slice A0_9 l0_9.length c0_9, .slice A0_10 l0_10.length c0_10, .slice A0_11 l0_11.length c0_11, .slice A0_12 l0_12.length c0_12, .slice A0_13 l0_13.length c0_13, .slice A0_14 l0_14.length c0_14, .int .i64 a0_15]) (t := 29) ?hr ?_; (case hd => rfl); (case hg => rfl); (case hr => first | (go_simp; done) | (go_simp; rfl)); intro gb308 hg w3 hbox hb; have n0_ := Aside0.mk (below_step (by repeat (first | (with_reducible first | exact HB.out | apply below_alloc | apply pw_below_drewN | apply below_drew1) | exact HB.out)) hb); have n1_ := Aside0.mk (hbox); have n2_ := Aside0.mk ((by rw [hg]; exact (below_size (by repeat (first | (with_reducible first | exact HB.out | apply below_alloc | apply pw_below_drewN | apply below_drew1) | exact HB.out))) : w.heap.size ≤ gb308)); have n3_ := Aside0.mk ((by rw [hg]; exact (below_size (by repeat (first | (with_reducible first | exact HB.out | apply below_alloc | apply pw_below_drewN | apply below_drew1) | exact HB.out))) : w.heap.size ≤ gb308)); clear HB; have HB := n0_; have BK308 := n1_; have GW308 := n2_; have GE308 := n3_; clear n0_ n1_ n2_ n3_; clear hb hbox hg))
  (try simp only [Act.put, List.setIfInBounds_toArray, List.set_cons_zero, List.set_cons_succ])
  go_cut [19] (fun v19 wc => ∃ (kq : Nat) (x19_1 : Bool), v19 = .bool x19_1 ∧ Aside0 (recur_ends.j0 kq x19_1 a0_0 a0_1 a0_2 a0_3 a0_4 a0_5 l0_6 l0_7 l0_8 l0_9 l0_10 l0_11 l0_12 l0_13 l0_14 a0_15 = some r) ∧ Aside0 (kq ≤ k) ∧ Aside0 (wc.heap[gb308]? = some (.cells #[.int .i64 a0_0, .int .i64 a0_1, .int .i64 a0_2, .bool a0_3, .int .i64 a0_4, .bool a0_5, (.slice A0_6 l0_6.length c0_6), (.slice A0_7 l0_7.length c0_7), (.slice A0_8 l0_8.length c0_8), (.slice A0_9 l0_9.length c0_9), (.slice A0_10 l0_10.length c0_10), (.slice A0_11 l0_11.length c0_11), (.slice A0_12 l0_12.length c0_12), (.slice A0_13 l0_13.length c0_13), (.slice A0_14 l0_14.length c0_14), .int .i64 a0_15] 29 (0, 0))) ∧ Aside0 (Below w.heap.size w wc))
  case first =>
    have H := HC2.out
    clear HC2
    by_cases c4 : a0_2 < 0
    · rw [if_pos c4] at H
      have c4b0 : decide (a0_2 < 0) = true := decide_eq_true c4
      clear c4
      (first | rw [c4b0] | (simp only [i64_w, i32_w]; rw [c4b0]) | skip)
      have H' := Aside0.mk H
      clear H
      have hcz5_0 : w3.cell? ⟨gb308, 0, none⟩ = some (.int .i64 a0_0) := (blk_cell BK308.out 0).trans rfl
      have hcz5_1 : w3.cell? ⟨gb308, 1, none⟩ = some (.int .i64 a0_1) := (blk_cell BK308.out 1).trans rfl
      have hcz5_2 : w3.cell? ⟨gb308, 2, none⟩ = some (.int .i64 a0_2) := (blk_cell BK308.out 2).trans rfl
      have hcz5_3 : w3.cell? ⟨gb308, 3, none⟩ = some (.bool a0_3) := (blk_cell BK308.out 3).trans rfl
      have hcz5_4 : w3.cell? ⟨gb308, 4, none⟩ = some (.int .i64 a0_4) := (blk_cell BK308.out 4).trans rfl
      have hcz5_5 : w3.cell? ⟨gb308, 5, none⟩ = some (.bool a0_5) := (blk_cell BK308.out 5).trans rfl
      have hcz5_6 : w3.cell? ⟨gb308, 6, none⟩ = some (.slice A0_6 l0_6.length c0_6) := (blk_cell BK308.out 6).trans rfl
      have hcz5_7 : w3.cell? ⟨gb308, 7, none⟩ = some (.slice A0_7 l0_7.length c0_7) := (blk_cell BK308.out 7).trans rfl
      have hcz5_8 : w3.cell? ⟨gb308, 8, none⟩ = some (.slice A0_8 l0_8.length c0_8) := (blk_cell BK308.out 8).trans rfl
      have hcz5_9 : w3.cell? ⟨gb308, 9, none⟩ = some (.slice A0_9 l0_9.length c0_9) := (blk_cell BK308.out 9).trans rfl
      have hcz5_10 : w3.cell? ⟨gb308, 10, none⟩ = some (.slice A0_10 l0_10.length c0_10) := (blk_cell BK308.out 10).trans rfl
      have hcz5_11 : w3.cell? ⟨gb308, 11, none⟩ = some (.slice A0_11 l0_11.length c0_11) := (blk_cell BK308.out 11).trans rfl
      have hcz5_12 : w3.cell? ⟨gb308, 12, none⟩ = some (.slice A0_12 l0_12.length c0_12) := (blk_cell BK308.out 12).trans rfl
      have hcz5_13 : w3.cell? ⟨gb308, 13, none⟩ = some (.slice A0_13 l0_13.length c0_13) := (blk_cell BK308.out 13).trans rfl
      have hcz5_14 : w3.cell? ⟨gb308, 14, none⟩ = some (.slice A0_14 l0_14.length c0_14) := (blk_cell BK308.out 14).trans rfl
      have hcz5_15 : w3.cell? ⟨gb308, 15, none⟩ = some (.int .i64 a0_15) := (blk_cell BK308.out 15).trans rfl
      have hfz5_0 := blk_frozen BK308.out 0
      have hfz5_1 := blk_frozen BK308.out 1
      have hfz5_2 := blk_frozen BK308.out 2
      have hfz5_3 := blk_frozen BK308.out 3
      have hfz5_4 := blk_frozen BK308.out 4
      have hfz5_5 := blk_frozen BK308.out 5
      have hfz5_6 := blk_frozen BK308.out 6
      have hfz5_7 := blk_frozen BK308.out 7
      have hfz5_8 := blk_frozen BK308.out 8
      have hfz5_9 := blk_frozen BK308.out 9
      have hfz5_10 := blk_frozen BK308.out 10
      have hfz5_11 := blk_frozen BK308.out 11
      have hfz5_12 := blk_frozen BK308.out 12
      have hfz5_13 := blk_frozen BK308.out 13
      have hfz5_14 := blk_frozen BK308.out 14
      have hfz5_15 := blk_frozen BK308.out 15
      go_wp2
      go_meet
      case rel => exact ⟨_, (true), (by first | rfl | (simp; done) | (simp [*]; done)), H', ⟨by first | omega | exact Nat.le_refl _⟩, ⟨by (with_reducible repeat (first | refine blk_drewN ?_ _ | refine blk_drew ?_ | refine blk_alloc ?_ _)); exact BK308.out⟩, ⟨by repeat (first | (with_reducible first | exact HB.out | apply below_alloc | apply pw_below_drewN | apply below_drew1 | refine below_set ?_ GE308.out) | exact HB.out)⟩⟩
    · rw [if_neg c4] at H
      have c4b0 : decide (a0_2 < 0) = false := decide_eq_false c4
      clear c4
      (first | rw [c4b0] | (simp only [i64_w, i32_w]; rw [c4b0]) | skip)
      by_cases c6 : a0_2 > 100000
      · rw [if_pos c6] at H
        have c6b0 : decide (100000 < a0_2) = true := decide_eq_true c6
        clear c6
        have H' := Aside0.mk H
        clear H
        have hcz7_0 : w3.cell? ⟨gb308, 0, none⟩ = some (.int .i64 a0_0) := (blk_cell BK308.out 0).trans rfl
        have hcz7_1 : w3.cell? ⟨gb308, 1, none⟩ = some (.int .i64 a0_1) := (blk_cell BK308.out 1).trans rfl
        have hcz7_2 : w3.cell? ⟨gb308, 2, none⟩ = some (.int .i64 a0_2) := (blk_cell BK308.out 2).trans rfl
        have hcz7_3 : w3.cell? ⟨gb308, 3, none⟩ = some (.bool a0_3) := (blk_cell BK308.out 3).trans rfl
        have hcz7_4 : w3.cell? ⟨gb308, 4, none⟩ = some (.int .i64 a0_4) := (blk_cell BK308.out 4).trans rfl
        have hcz7_5 : w3.cell? ⟨gb308, 5, none⟩ = some (.bool a0_5) := (blk_cell BK308.out 5).trans rfl
        have hcz7_6 : w3.cell? ⟨gb308, 6, none⟩ = some (.slice A0_6 l0_6.length c0_6) := (blk_cell BK308.out 6).trans rfl
        have hcz7_7 : w3.cell? ⟨gb308, 7, none⟩ = some (.slice A0_7 l0_7.length c0_7) := (blk_cell BK308.out 7).trans rfl
        have hcz7_8 : w3.cell? ⟨gb308, 8, none⟩ = some (.slice A0_8 l0_8.length c0_8) := (blk_cell BK308.out 8).trans rfl
        have hcz7_9 : w3.cell? ⟨gb308, 9, none⟩ = some (.slice A0_9 l0_9.length c0_9) := (blk_cell BK308.out 9).trans rfl
        have hcz7_10 : w3.cell? ⟨gb308, 10, none⟩ = some (.slice A0_10 l0_10.length c0_10) := (blk_cell BK308.out 10).trans rfl
        have hcz7_11 : w3.cell? ⟨gb308, 11, none⟩ = some (.slice A0_11 l0_11.length c0_11) := (blk_cell BK308.out 11).trans rfl
        have hcz7_12 : w3.cell? ⟨gb308, 12, none⟩ = some (.slice A0_12 l0_12.length c0_12) := (blk_cell BK308.out 12).trans rfl
        have hcz7_13 : w3.cell? ⟨gb308, 13, none⟩ = some (.slice A0_13 l0_13.length c0_13) := (blk_cell BK308.out 13).trans rfl
        have hcz7_14 : w3.cell? ⟨gb308, 14, none⟩ = some (.slice A0_14 l0_14.length c0_14) := (blk_cell BK308.out 14).trans rfl
        have hcz7_15 : w3.cell? ⟨gb308, 15, none⟩ = some (.int .i64 a0_15) := (blk_cell BK308.out 15).trans rfl
        have hfz7_0 := blk_frozen BK308.out 0
        have hfz7_1 := blk_frozen BK308.out 1
        have hfz7_2 := blk_frozen BK308.out 2
        have hfz7_3 := blk_frozen BK308.out 3
        have hfz7_4 := blk_frozen BK308.out 4
        have hfz7_5 := blk_frozen BK308.out 5
        have hfz7_6 := blk_frozen BK308.out 6
        have hfz7_7 := blk_frozen BK308.out 7
        have hfz7_8 := blk_frozen BK308.out 8
        have hfz7_9 := blk_frozen BK308.out 9
        have hfz7_10 := blk_frozen BK308.out 10
        have hfz7_11 := blk_frozen BK308.out 11
        have hfz7_12 := blk_frozen BK308.out 12
        have hfz7_13 := blk_frozen BK308.out 13
        have hfz7_14 := blk_frozen BK308.out 14
        have hfz7_15 := blk_frozen BK308.out 15
        go_wp2
        go_meet
        case rel => exact ⟨_, (true), (by first | rfl | (simp; done) | (simp [*]; done)), H', ⟨by first | omega | exact Nat.le_refl _⟩, ⟨by (with_reducible repeat (first | refine blk_drewN ?_ _ | refine blk_drew ?_ | refine blk_alloc ?_ _)); exact BK308.out⟩, ⟨by repeat (first | (with_reducible first | exact HB.out | apply below_alloc | apply pw_below_drewN | apply below_drew1 | refine below_set ?_ GE308.out) | exact HB.out)⟩⟩
      · rw [if_neg c6] at H
        have c6b0 : decide (100000 < a0_2) = false := decide_eq_false c6
        clear c6
        by_cases c8 : a0_3 = true
        · subst c8
          have H1 : (recur_ends.j0 k (decide (a0_2 > 0)) a0_0 a0_1 a0_2 true a0_4 a0_5 l0_6 l0_7 l0_8 l0_9 l0_10 l0_11 l0_12 l0_13 l0_14 a0_15) = some r := by rw [if_pos rfl] at H; exact H
          clear H
          have H := H1
          clear H1
          have H' := Aside0.mk H
          clear H
          have hcz9_0 : w3.cell? ⟨gb308, 0, none⟩ = some (.int .i64 a0_0) := (blk_cell BK308.out 0).trans rfl
          have hcz9_1 : w3.cell? ⟨gb308, 1, none⟩ = some (.int .i64 a0_1) := (blk_cell BK308.out 1).trans rfl
          have hcz9_2 : w3.cell? ⟨gb308, 2, none⟩ = some (.int .i64 a0_2) := (blk_cell BK308.out 2).trans rfl
          have hcz9_3 : w3.cell? ⟨gb308, 3, none⟩ = some (.bool true) := (blk_cell BK308.out 3).trans rfl
          have hcz9_4 : w3.cell? ⟨gb308, 4, none⟩ = some (.int .i64 a0_4) := (blk_cell BK308.out 4).trans rfl
          have hcz9_5 : w3.cell? ⟨gb308, 5, none⟩ = some (.bool a0_5) := (blk_cell BK308.out 5).trans rfl
          have hcz9_6 : w3.cell? ⟨gb308, 6, none⟩ = some (.slice A0_6 l0_6.length c0_6) := (blk_cell BK308.out 6).trans rfl
          have hcz9_7 : w3.cell? ⟨gb308, 7, none⟩ = some (.slice A0_7 l0_7.length c0_7) := (blk_cell BK308.out 7).trans rfl
          have hcz9_8 : w3.cell? ⟨gb308, 8, none⟩ = some (.slice A0_8 l0_8.length c0_8) := (blk_cell BK308.out 8).trans rfl
          have hcz9_9 : w3.cell? ⟨gb308, 9, none⟩ = some (.slice A0_9 l0_9.length c0_9) := (blk_cell BK308.out 9).trans rfl
          have hcz9_10 : w3.cell? ⟨gb308, 10, none⟩ = some (.slice A0_10 l0_10.length c0_10) := (blk_cell BK308.out 10).trans rfl
          have hcz9_11 : w3.cell? ⟨gb308, 11, none⟩ = some (.slice A0_11 l0_11.length c0_11) := (blk_cell BK308.out 11).trans rfl
          have hcz9_12 : w3.cell? ⟨gb308, 12, none⟩ = some (.slice A0_12 l0_12.length c0_12) := (blk_cell BK308.out 12).trans rfl
          have hcz9_13 : w3.cell? ⟨gb308, 13, none⟩ = some (.slice A0_13 l0_13.length c0_13) := (blk_cell BK308.out 13).trans rfl
          have hcz9_14 : w3.cell? ⟨gb308, 14, none⟩ = some (.slice A0_14 l0_14.length c0_14) := (blk_cell BK308.out 14).trans rfl
          have hcz9_15 : w3.cell? ⟨gb308, 15, none⟩ = some (.int .i64 a0_15) := (blk_cell BK308.out 15).trans rfl
          have hfz9_0 := blk_frozen BK308.out 0
          have hfz9_1 := blk_frozen BK308.out 1
          have hfz9_2 := blk_frozen BK308.out 2
          have hfz9_3 := blk_frozen BK308.out 3
          have hfz9_4 := blk_frozen BK308.out 4
          have hfz9_5 := blk_frozen BK308.out 5
          have hfz9_6 := blk_frozen BK308.out 6
          have hfz9_7 := blk_frozen BK308.out 7
          have hfz9_8 := blk_frozen BK308.out 8
          have hfz9_9 := blk_frozen BK308.out 9
          have hfz9_10 := blk_frozen BK308.out 10
          have hfz9_11 := blk_frozen BK308.out 11
          have hfz9_12 := blk_frozen BK308.out 12
          have hfz9_13 := blk_frozen BK308.out 13
          have hfz9_14 := blk_frozen BK308.out 14
          have hfz9_15 := blk_frozen BK308.out 15
          go_wp2
          go_meet
          case rel => exact ⟨_, (decide (a0_2 > 0)), (by first | rfl | (simp; done) | (simp [*]; done)), H', ⟨by first | omega | exact Nat.le_refl _⟩, ⟨by (with_reducible repeat (first | refine blk_drewN ?_ _ | refine blk_drew ?_ | refine blk_alloc ?_ _)); exact BK308.out⟩, ⟨by repeat (first | (with_reducible first | exact HB.out | apply below_alloc | apply pw_below_drewN | apply below_drew1 | refine below_set ?_ GE308.out) | exact HB.out)⟩⟩
        · replace c8 := Bool.eq_false_iff.mpr c8
          subst c8
          have H1 : (recur_ends.j0 k false a0_0 a0_1 a0_2 false a0_4 a0_5 l0_6 l0_7 l0_8 l0_9 l0_10 l0_11 l0_12 l0_13 l0_14 a0_15) = some r := by rw [if_neg (show ¬ (false = true) by decide)] at H; exact H
          clear H
          have H := H1
          clear H1
          have H' := Aside0.mk H
          clear H
          have hcz10_0 : w3.cell? ⟨gb308, 0, none⟩ = some (.int .i64 a0_0) := (blk_cell BK308.out 0).trans rfl
          have hcz10_1 : w3.cell? ⟨gb308, 1, none⟩ = some (.int .i64 a0_1) := (blk_cell BK308.out 1).trans rfl
          have hcz10_2 : w3.cell? ⟨gb308, 2, none⟩ = some (.int .i64 a0_2) := (blk_cell BK308.out 2).trans rfl
          have hcz10_3 : w3.cell? ⟨gb308, 3, none⟩ = some (.bool false) := (blk_cell BK308.out 3).trans rfl
          have hcz10_4 : w3.cell? ⟨gb308, 4, none⟩ = some (.int .i64 a0_4) := (blk_cell BK308.out 4).trans rfl
          have hcz10_5 : w3.cell? ⟨gb308, 5, none⟩ = some (.bool a0_5) := (blk_cell BK308.out 5).trans rfl
          have hcz10_6 : w3.cell? ⟨gb308, 6, none⟩ = some (.slice A0_6 l0_6.length c0_6) := (blk_cell BK308.out 6).trans rfl
          have hcz10_7 : w3.cell? ⟨gb308, 7, none⟩ = some (.slice A0_7 l0_7.length c0_7) := (blk_cell BK308.out 7).trans rfl
          have hcz10_8 : w3.cell? ⟨gb308, 8, none⟩ = some (.slice A0_8 l0_8.length c0_8) := (blk_cell BK308.out 8).trans rfl
          have hcz10_9 : w3.cell? ⟨gb308, 9, none⟩ = some (.slice A0_9 l0_9.length c0_9) := (blk_cell BK308.out 9).trans rfl
          have hcz10_10 : w3.cell? ⟨gb308, 10, none⟩ = some (.slice A0_10 l0_10.length c0_10) := (blk_cell BK308.out 10).trans rfl
          have hcz10_11 : w3.cell? ⟨gb308, 11, none⟩ = some (.slice A0_11 l0_11.length c0_11) := (blk_cell BK308.out 11).trans rfl
          have hcz10_12 : w3.cell? ⟨gb308, 12, none⟩ = some (.slice A0_12 l0_12.length c0_12) := (blk_cell BK308.out 12).trans rfl
          have hcz10_13 : w3.cell? ⟨gb308, 13, none⟩ = some (.slice A0_13 l0_13.length c0_13) := (blk_cell BK308.out 13).trans rfl
          have hcz10_14 : w3.cell? ⟨gb308, 14, none⟩ = some (.slice A0_14 l0_14.length c0_14) := (blk_cell BK308.out 14).trans rfl
          have hcz10_15 : w3.cell? ⟨gb308, 15, none⟩ = some (.int .i64 a0_15) := (blk_cell BK308.out 15).trans rfl
          have hfz10_0 := blk_frozen BK308.out 0
          have hfz10_1 := blk_frozen BK308.out 1
          have hfz10_2 := blk_frozen BK308.out 2
          have hfz10_3 := blk_frozen BK308.out 3
          have hfz10_4 := blk_frozen BK308.out 4
          have hfz10_5 := blk_frozen BK308.out 5
          have hfz10_6 := blk_frozen BK308.out 6
          have hfz10_7 := blk_frozen BK308.out 7
          have hfz10_8 := blk_frozen BK308.out 8
          have hfz10_9 := blk_frozen BK308.out 9
          have hfz10_10 := blk_frozen BK308.out 10
          have hfz10_11 := blk_frozen BK308.out 11
          have hfz10_12 := blk_frozen BK308.out 12
          have hfz10_13 := blk_frozen BK308.out 13
          have hfz10_14 := blk_frozen BK308.out 14
          have hfz10_15 := blk_frozen BK308.out 15
          go_wp2
          go_meet
          case rel => exact ⟨_, (false), (by first | rfl | (simp; done) | (simp [*]; done)), H', ⟨by first | omega | exact Nat.le_refl _⟩, ⟨by (with_reducible repeat (first | refine blk_drewN ?_ _ | refine blk_drew ?_ | refine blk_alloc ?_ _)); exact BK308.out⟩, ⟨by repeat (first | (with_reducible first | exact HB.out | apply below_alloc | apply pw_below_drewN | apply below_drew1 | refine below_set ?_ GE308.out) | exact HB.out)⟩⟩
  case rest =>
    clear HC2
    try clear c2
    try clear p2
    try clear c4
    try clear c4b0
    try clear c6
    try clear c6b0
    try clear c8
    try clear hcz10_0
    try clear hcz10_1
    try clear hcz10_10
    try clear hcz10_11
    try clear hcz10_12
    try clear hcz10_13
    try clear hcz10_14
    try clear hcz10_15
    try clear hcz10_2
    try clear hcz10_3
    try clear hcz10_4
    try clear hcz10_5
    try clear hcz10_6
    try clear hcz10_7
    try clear hcz10_8
    try clear hcz10_9
    try clear hcz5_0
    try clear hcz5_1
    try clear hcz5_10
    try clear hcz5_11
    try clear hcz5_12
    try clear hcz5_13
    try clear hcz5_14
    try clear hcz5_15
    try clear hcz5_2
    try clear hcz5_3
    try clear hcz5_4
    try clear hcz5_5
    try clear hcz5_6
    try clear hcz5_7
    try clear hcz5_8
    try clear hcz5_9
    try clear hcz7_0
    try clear hcz7_1
    try clear hcz7_10
    try clear hcz7_11
    try clear hcz7_12
    try clear hcz7_13
    try clear hcz7_14
    try clear hcz7_15
    try clear hcz7_2
    try clear hcz7_3
    try clear hcz7_4
    try clear hcz7_5
    try clear hcz7_6
    try clear hcz7_7
    try clear hcz7_8
    try clear hcz7_9
    try clear hcz9_0
    try clear hcz9_1
    try clear hcz9_10
    try clear hcz9_11
    try clear hcz9_12
    try clear hcz9_13
    try clear hcz9_14
    try clear hcz9_15
    try clear hcz9_2
    try clear hcz9_3
    try clear hcz9_4
    try clear hcz9_5
    try clear hcz9_6
    try clear hcz9_7
    try clear hcz9_8
    try clear hcz9_9
    try clear hfz10_0
    try clear hfz10_1
    try clear hfz10_10
    try clear hfz10_11
    try clear hfz10_12
    try clear hfz10_13
    try clear hfz10_14
    try clear hfz10_15
    try clear hfz10_2
    try clear hfz10_3
    try clear hfz10_4
    try clear hfz10_5
    try clear hfz10_6
    try clear hfz10_7
    try clear hfz10_8
    try clear hfz10_9
    try clear hfz5_0
    try clear hfz5_1
    try clear hfz5_10
    try clear hfz5_11
    try clear hfz5_12
    try clear hfz5_13
    try clear hfz5_14
    try clear hfz5_15
    try clear hfz5_2
    try clear hfz5_3
    try clear hfz5_4
    try clear hfz5_5
    try clear hfz5_6
    try clear hfz5_7
    try clear hfz5_8
    try clear hfz5_9
    try clear hfz7_0
    try clear hfz7_1
    try clear hfz7_10
    try clear hfz7_11
    try clear hfz7_12
    try clear hfz7_13
    try clear hfz7_14
    try clear hfz7_15
    try clear hfz7_2
    try clear hfz7_3
    try clear hfz7_4
    try clear hfz7_5
    try clear hfz7_6
    try clear hfz7_7
    try clear hfz7_8
    try clear hfz7_9
    try clear hfz9_0
    try clear hfz9_1
    try clear hfz9_10
    try clear hfz9_11
    try clear hfz9_12
    try clear hfz9_13
    try clear hfz9_14
    try clear hfz9_15
    try clear hfz9_2
    try clear hfz9_3
    try clear hfz9_4
    try clear hfz9_5
    try clear hfz9_6
    try clear hfz9_7
    try clear hfz9_8
    try clear hfz9_9
    obtain ⟨kq, x19_1, rfl, HA, HJ1, BK308, HB⟩ := hcut
    cases kq with
    | zero => exact absurd HA.out (by simp [recur_ends.j0])
    | succ kj1 =>
      have H := HA.out
      clear HA
      simp only [recur_ends.j0] at H
      by_cases c11 : x19_1 = true
      · subst c11
        have H1 : (some false) = some r := by rw [if_pos rfl] at H; exact H
        clear H
        have H := H1
        clear H1
        obtain rfl := Option.some.inj H
        go_wp2
        go_ret
        exact ⟨by first | rfl | (simp [errW_none, errW_some] <;> rfl) | (simp [*, errW_none, errW_some] <;> rfl), by repeat (first | (with_reducible first | exact HB.out | apply below_alloc | apply pw_below_drewN | apply below_drew1 | refine below_set ?_ GE308.out) | exact HB.out)⟩
      · replace c11 := Bool.eq_false_iff.mpr c11
        subst c11
        have H1 : (if a0_3 = true then ((recur_year.f kj1 a0_4).bind fun t309 => (some t309)) else (if a0_4 = 0 then (some (!a0_5)) else (some false))) = some r := by rw [if_neg (show ¬ (false = true) by decide)] at H; exact H
        clear H
        have H := H1
        clear H1
        by_cases c12 : a0_3 = true
        · subst c12
          have H1 : ((recur_year.f kj1 a0_4).bind fun t309 => (some t309)) = some r := by rw [if_pos rfl] at H; exact H
          clear H
          have H := H1
          clear H1
          replace H := Option.bind_eq_some_iff.mp H
          obtain ⟨t309, A130, H⟩ := H
          replace H : (some t309) = some r := H
          have A13 := Aside0.mk A130
          clear A130
          obtain rfl := Option.some.inj H
          have hcz14_0 : wc.cell? ⟨gb308, 0, none⟩ = some (.int .i64 a0_0) := (blk_cell BK308.out 0).trans rfl
          have hcz14_1 : wc.cell? ⟨gb308, 1, none⟩ = some (.int .i64 a0_1) := (blk_cell BK308.out 1).trans rfl
          have hcz14_2 : wc.cell? ⟨gb308, 2, none⟩ = some (.int .i64 a0_2) := (blk_cell BK308.out 2).trans rfl
          have hcz14_3 : wc.cell? ⟨gb308, 3, none⟩ = some (.bool true) := (blk_cell BK308.out 3).trans rfl
          have hcz14_4 : wc.cell? ⟨gb308, 4, none⟩ = some (.int .i64 a0_4) := (blk_cell BK308.out 4).trans rfl
          have hcz14_5 : wc.cell? ⟨gb308, 5, none⟩ = some (.bool a0_5) := (blk_cell BK308.out 5).trans rfl
          have hcz14_6 : wc.cell? ⟨gb308, 6, none⟩ = some (.slice A0_6 l0_6.length c0_6) := (blk_cell BK308.out 6).trans rfl
          have hcz14_7 : wc.cell? ⟨gb308, 7, none⟩ = some (.slice A0_7 l0_7.length c0_7) := (blk_cell BK308.out 7).trans rfl
          have hcz14_8 : wc.cell? ⟨gb308, 8, none⟩ = some (.slice A0_8 l0_8.length c0_8) := (blk_cell BK308.out 8).trans rfl
          have hcz14_9 : wc.cell? ⟨gb308, 9, none⟩ = some (.slice A0_9 l0_9.length c0_9) := (blk_cell BK308.out 9).trans rfl
          have hcz14_10 : wc.cell? ⟨gb308, 10, none⟩ = some (.slice A0_10 l0_10.length c0_10) := (blk_cell BK308.out 10).trans rfl
          have hcz14_11 : wc.cell? ⟨gb308, 11, none⟩ = some (.slice A0_11 l0_11.length c0_11) := (blk_cell BK308.out 11).trans rfl
          have hcz14_12 : wc.cell? ⟨gb308, 12, none⟩ = some (.slice A0_12 l0_12.length c0_12) := (blk_cell BK308.out 12).trans rfl
          have hcz14_13 : wc.cell? ⟨gb308, 13, none⟩ = some (.slice A0_13 l0_13.length c0_13) := (blk_cell BK308.out 13).trans rfl
          have hcz14_14 : wc.cell? ⟨gb308, 14, none⟩ = some (.slice A0_14 l0_14.length c0_14) := (blk_cell BK308.out 14).trans rfl
          have hcz14_15 : wc.cell? ⟨gb308, 15, none⟩ = some (.int .i64 a0_15) := (blk_cell BK308.out 15).trans rfl
          have hfz14_0 := blk_frozen BK308.out 0
          have hfz14_1 := blk_frozen BK308.out 1
          have hfz14_2 := blk_frozen BK308.out 2
          have hfz14_3 := blk_frozen BK308.out 3
          have hfz14_4 := blk_frozen BK308.out 4
          have hfz14_5 := blk_frozen BK308.out 5
          have hfz14_6 := blk_frozen BK308.out 6
          have hfz14_7 := blk_frozen BK308.out 7
          have hfz14_8 := blk_frozen BK308.out 8
          have hfz14_9 := blk_frozen BK308.out 9
          have hfz14_10 := blk_frozen BK308.out 10
          have hfz14_11 := blk_frozen BK308.out 11
          have hfz14_12 := blk_frozen BK308.out 12
          have hfz14_13 := blk_frozen BK308.out 13
          have hfz14_14 := blk_frozen BK308.out 14
          have hfz14_15 := blk_frozen BK308.out 15
          go_wp2_with (first | ((with_reducible refine gate_callee (f := 43) rfl ?_); refine goesL_ (some 33) rfl rfl Tryz.func43 (by kernel_rfl) rfl #[.int .i64 a0_4] rfl (by (try simp only [List.map_toArray, List.map_cons, List.map_nil]); first | done | rfl | (simp only [List.length_drop, List.length_take]; rfl)) ?_; (with_reducible refine (recur_year.calls kj1 a0_4 t309 _ A13.out).mono ?_); rintro e w15 ⟨rfl, hb⟩; refine ⟨_, rfl, ?_⟩; have n0_ := Aside0.mk (blk_below (g := gb308) (o := .cells #[.int .i64 a0_0, .int .i64 a0_1, .int .i64 a0_2, .bool true, .int .i64 a0_4, .bool a0_5, .slice A0_6 l0_6.length c0_6, .slice A0_7 l0_7.length c0_7, .slice A0_8 l0_8.length c0_8, .slice A0_9 l0_9.length c0_9, .slice A0_10 l0_10.length c0_10, .slice A0_11 l0_11.length c0_11, .slice A0_12 l0_12.length c0_12, .slice A0_13 l0_13.length c0_13, .slice A0_14 l0_14.length c0_14, .int .i64 a0_15] 29 (0, 0)) (by (with_reducible repeat (first | refine blk_drewN ?_ _ | refine blk_drew ?_ | refine blk_alloc ?_ _)); exact BK308.out) hb); have n1_ := Aside0.mk (below_step (by repeat (first | (with_reducible first | exact HB.out | apply below_alloc | apply pw_below_drewN | apply below_drew1 | refine below_set ?_ GE308.out) | exact HB.out)) hb); clear BK308; clear HB; have BK308 := n0_; have HB := n1_; clear n0_ n1_; (try clear hb); (try clear hb2); (try clear hk); (try clear hi)))
          go_ret
          exact ⟨by first | rfl | (simp [errW_none, errW_some] <;> rfl) | (simp [*, errW_none, errW_some] <;> rfl), by repeat (first | (with_reducible first | exact HB.out | apply below_alloc | apply pw_below_drewN | apply below_drew1 | refine below_set ?_ GE308.out) | exact HB.out)⟩
        · replace c12 := Bool.eq_false_iff.mpr c12
          subst c12
          have H1 : (if a0_4 = 0 then (some (!a0_5)) else (some false)) = some r := by rw [if_neg (show ¬ (false = true) by decide)] at H; exact H
          clear H
          have H := H1
          clear H1
          by_cases c16 : a0_4 = 0
          · rw [if_pos c16] at H
            have c16b0 : (a0_4 == 0) = true := beq_iff_eq.mpr c16
            have c16b1 : (a0_4 != 0) = false := bne_eq_false_iff_eq.mpr c16
            clear c16
            obtain rfl := Option.some.inj H
            have hcz17_0 : wc.cell? ⟨gb308, 0, none⟩ = some (.int .i64 a0_0) := (blk_cell BK308.out 0).trans rfl
            have hcz17_1 : wc.cell? ⟨gb308, 1, none⟩ = some (.int .i64 a0_1) := (blk_cell BK308.out 1).trans rfl
            have hcz17_2 : wc.cell? ⟨gb308, 2, none⟩ = some (.int .i64 a0_2) := (blk_cell BK308.out 2).trans rfl
            have hcz17_3 : wc.cell? ⟨gb308, 3, none⟩ = some (.bool false) := (blk_cell BK308.out 3).trans rfl
            have hcz17_4 : wc.cell? ⟨gb308, 4, none⟩ = some (.int .i64 a0_4) := (blk_cell BK308.out 4).trans rfl
            have hcz17_5 : wc.cell? ⟨gb308, 5, none⟩ = some (.bool a0_5) := (blk_cell BK308.out 5).trans rfl
            have hcz17_6 : wc.cell? ⟨gb308, 6, none⟩ = some (.slice A0_6 l0_6.length c0_6) := (blk_cell BK308.out 6).trans rfl
            have hcz17_7 : wc.cell? ⟨gb308, 7, none⟩ = some (.slice A0_7 l0_7.length c0_7) := (blk_cell BK308.out 7).trans rfl
            have hcz17_8 : wc.cell? ⟨gb308, 8, none⟩ = some (.slice A0_8 l0_8.length c0_8) := (blk_cell BK308.out 8).trans rfl
            have hcz17_9 : wc.cell? ⟨gb308, 9, none⟩ = some (.slice A0_9 l0_9.length c0_9) := (blk_cell BK308.out 9).trans rfl
            have hcz17_10 : wc.cell? ⟨gb308, 10, none⟩ = some (.slice A0_10 l0_10.length c0_10) := (blk_cell BK308.out 10).trans rfl
            have hcz17_11 : wc.cell? ⟨gb308, 11, none⟩ = some (.slice A0_11 l0_11.length c0_11) := (blk_cell BK308.out 11).trans rfl
            have hcz17_12 : wc.cell? ⟨gb308, 12, none⟩ = some (.slice A0_12 l0_12.length c0_12) := (blk_cell BK308.out 12).trans rfl
            have hcz17_13 : wc.cell? ⟨gb308, 13, none⟩ = some (.slice A0_13 l0_13.length c0_13) := (blk_cell BK308.out 13).trans rfl
            have hcz17_14 : wc.cell? ⟨gb308, 14, none⟩ = some (.slice A0_14 l0_14.length c0_14) := (blk_cell BK308.out 14).trans rfl
            have hcz17_15 : wc.cell? ⟨gb308, 15, none⟩ = some (.int .i64 a0_15) := (blk_cell BK308.out 15).trans rfl
            have hfz17_0 := blk_frozen BK308.out 0
            have hfz17_1 := blk_frozen BK308.out 1
            have hfz17_2 := blk_frozen BK308.out 2
            have hfz17_3 := blk_frozen BK308.out 3
            have hfz17_4 := blk_frozen BK308.out 4
            have hfz17_5 := blk_frozen BK308.out 5
            have hfz17_6 := blk_frozen BK308.out 6
            have hfz17_7 := blk_frozen BK308.out 7
            have hfz17_8 := blk_frozen BK308.out 8
            have hfz17_9 := blk_frozen BK308.out 9
            have hfz17_10 := blk_frozen BK308.out 10
            have hfz17_11 := blk_frozen BK308.out 11
            have hfz17_12 := blk_frozen BK308.out 12
            have hfz17_13 := blk_frozen BK308.out 13
            have hfz17_14 := blk_frozen BK308.out 14
            have hfz17_15 := blk_frozen BK308.out 15
            go_wp2
            go_ret
            exact ⟨by first | rfl | (simp [errW_none, errW_some] <;> rfl) | (simp [*, errW_none, errW_some] <;> rfl), by repeat (first | (with_reducible first | exact HB.out | apply below_alloc | apply pw_below_drewN | apply below_drew1 | refine below_set ?_ GE308.out) | exact HB.out)⟩
          · rw [if_neg c16] at H
            have c16b0 : (a0_4 == 0) = false := beq_eq_false_iff_ne.mpr c16
            have c16b1 : (a0_4 != 0) = true := bne_iff_ne.mpr c16
            obtain rfl := Option.some.inj H
            have hcz18_0 : wc.cell? ⟨gb308, 0, none⟩ = some (.int .i64 a0_0) := (blk_cell BK308.out 0).trans rfl
            have hcz18_1 : wc.cell? ⟨gb308, 1, none⟩ = some (.int .i64 a0_1) := (blk_cell BK308.out 1).trans rfl
            have hcz18_2 : wc.cell? ⟨gb308, 2, none⟩ = some (.int .i64 a0_2) := (blk_cell BK308.out 2).trans rfl
            have hcz18_3 : wc.cell? ⟨gb308, 3, none⟩ = some (.bool false) := (blk_cell BK308.out 3).trans rfl
            have hcz18_4 : wc.cell? ⟨gb308, 4, none⟩ = some (.int .i64 a0_4) := (blk_cell BK308.out 4).trans rfl
            have hcz18_5 : wc.cell? ⟨gb308, 5, none⟩ = some (.bool a0_5) := (blk_cell BK308.out 5).trans rfl
            have hcz18_6 : wc.cell? ⟨gb308, 6, none⟩ = some (.slice A0_6 l0_6.length c0_6) := (blk_cell BK308.out 6).trans rfl
            have hcz18_7 : wc.cell? ⟨gb308, 7, none⟩ = some (.slice A0_7 l0_7.length c0_7) := (blk_cell BK308.out 7).trans rfl
            have hcz18_8 : wc.cell? ⟨gb308, 8, none⟩ = some (.slice A0_8 l0_8.length c0_8) := (blk_cell BK308.out 8).trans rfl
            have hcz18_9 : wc.cell? ⟨gb308, 9, none⟩ = some (.slice A0_9 l0_9.length c0_9) := (blk_cell BK308.out 9).trans rfl
            have hcz18_10 : wc.cell? ⟨gb308, 10, none⟩ = some (.slice A0_10 l0_10.length c0_10) := (blk_cell BK308.out 10).trans rfl
            have hcz18_11 : wc.cell? ⟨gb308, 11, none⟩ = some (.slice A0_11 l0_11.length c0_11) := (blk_cell BK308.out 11).trans rfl
            have hcz18_12 : wc.cell? ⟨gb308, 12, none⟩ = some (.slice A0_12 l0_12.length c0_12) := (blk_cell BK308.out 12).trans rfl
            have hcz18_13 : wc.cell? ⟨gb308, 13, none⟩ = some (.slice A0_13 l0_13.length c0_13) := (blk_cell BK308.out 13).trans rfl
            have hcz18_14 : wc.cell? ⟨gb308, 14, none⟩ = some (.slice A0_14 l0_14.length c0_14) := (blk_cell BK308.out 14).trans rfl
            have hcz18_15 : wc.cell? ⟨gb308, 15, none⟩ = some (.int .i64 a0_15) := (blk_cell BK308.out 15).trans rfl
            have hfz18_0 := blk_frozen BK308.out 0
            have hfz18_1 := blk_frozen BK308.out 1
            have hfz18_2 := blk_frozen BK308.out 2
            have hfz18_3 := blk_frozen BK308.out 3
            have hfz18_4 := blk_frozen BK308.out 4
            have hfz18_5 := blk_frozen BK308.out 5
            have hfz18_6 := blk_frozen BK308.out 6
            have hfz18_7 := blk_frozen BK308.out 7
            have hfz18_8 := blk_frozen BK308.out 8
            have hfz18_9 := blk_frozen BK308.out 9
            have hfz18_10 := blk_frozen BK308.out 10
            have hfz18_11 := blk_frozen BK308.out 11
            have hfz18_12 := blk_frozen BK308.out 12
            have hfz18_13 := blk_frozen BK308.out 13
            have hfz18_14 := blk_frozen BK308.out 14
            have hfz18_15 := blk_frozen BK308.out 15
            go_wp2
            go_ret
            exact ⟨by first | rfl | (simp [errW_none, errW_some] <;> rfl) | (simp [*, errW_none, errW_some] <;> rfl), by repeat (first | (with_reducible first | exact HB.out | apply below_alloc | apply pw_below_drewN | apply below_drew1 | refine below_set ?_ GE308.out) | exact HB.out)⟩

end Go.Proofs.YtfinhaghgmnegaaGreat.O
