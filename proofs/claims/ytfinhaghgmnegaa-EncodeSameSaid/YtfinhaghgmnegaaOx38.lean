-- What some functions of the program compute: a text of this claim's own (lines first written by the kit's tool, some proved anew).
import Derived.Test.YtfinhaghgmnegaaOx0
import Derived.Test.YtfinhaghgmnegaaOP
import Derived.Test.YtfinhaghgmnegaaOx22
import Derived.Test.YtfinhaghgmnegaaOx37
namespace Go.Proofs.Ytfinhaghgmnegaa.O
open Go.RowKit Go.Proofs.YtfinhaghgmnegaaW.PrintWords Go.Proofs.YtfinhaghgmnegaaW.PrintLast Go.Proofs.YtfinhaghgmnegaaW.PrintMore
attribute [local go_sem] max2_int min2_int max_two min_two max_three min_three max_four min_four   -- for this text's walks alone
set_option linter.unusedVariables false
set_option linter.unusedSimpArgs false

/-! ### solsticeref01_Date: function 16 -/
mutual
def solsticeref01_Date.j1 : Nat → Int → Int → Option (Int × Int × Int)
  | 0, _, _ => none
  | k + 1, x0, x3 => (solsticeref01_Number.f k x3 1 1).bind fun t451 => (solsticeref01_Date.l1 k x3 (wrap64 (x0 - t451)) x3 1 1)
def solsticeref01_Date.l1 : Nat → Int → Int → Int → Int → Int → Option (Int × Int × Int)
  | 0, _, _, _, _, _ => none
  | k + 1, x3, x5, x451000, x451001, x451002 => if x5 > 0 then ((solsticeref01_Len.f k x3 x451001).bind fun t452 => (if x5 ≥ t452 then (solsticeref01_Date.l1 k x3 (wrap64 (x5 - t452)) x451000 (wrap64 (x451001 + 1)) x451002) else (solsticeref01_Date.l1 k x3 0 x451000 x451001 (wrap64 (x5 + 1))))) else (some (x451000, x451001, x451002))
def solsticeref01_Date.l0 : Nat → Int → Int → Option (Int × Int × Int)
  | 0, _, _ => none
  | k + 1, x0, x3 => if x3 < 10000 then ((solsticeref01_Number.f k (wrap64 (x3 + 1)) 1 1).bind fun t449 => (if t449 ≤ x0 then (solsticeref01_Date.l0 k x0 (wrap64 (x3 + 1))) else (solsticeref01_Date.j1 k x0 x3))) else (solsticeref01_Date.j1 k x0 x3)
end
def solsticeref01_Date.f (k : Nat) (a0 : Int) : Option (Int × Int × Int) := solsticeref01_Date.l0 k a0 (wrap64 (Int.tdiv (wrap64 (a0 + 719528)) 366))
set_option maxHeartbeats 8000000 in
set_option maxRecDepth 100000 in
theorem solsticeref01_Date.calls (k : Nat) (a0 : Int) (r1 : Int) (r2 : Int) (r3 : Int) (w : World) (h : solsticeref01_Date.f k a0 = some (r1, r2, r3)) :
    Calls Try.prog 16 #[.int .i64 a0] w fun e w' => e = .returned (.agg #[.int .i64 r1, .int .i64 r2, .int .i64 r3]) ∧ Below w.heap.size w w' := by
  have hu49 := Try.underlying49
  have HB := Aside0.mk (Below.refl w.heap.size w)
  have H : (solsticeref01_Date.l0 k a0 (wrap64 (Int.tdiv (wrap64 (a0 + 719528)) 366))) = some (r1, r2, r3) := h
  clear h
  have HC2 := Aside0.mk H
  clear H
  go_enter Try.func16, Try.ntmps16
  go_upto_block 0 with (first | ((with_reducible refine gate_dst (N := 2) rfl ?_); refine box_event ?hg (N := 2) ?hd (cs := #[.int .i64 0, .int .i64 0, .int .i64 0]) (t := 49) ?hr ?_; (case hd => rfl); (case hg => rfl); (case hr => first | (go_simp; done) | (go_simp; rfl)); intro gb448 hg w3 hbox hb; have n0_ := Aside0.mk (below_step (by repeat (first | (with_reducible first | exact HB.out | apply below_alloc | apply pw_below_drewN | apply below_drew1) | exact HB.out)) hb); have n1_ := Aside0.mk (hbox); have n2_ := Aside0.mk ((by rw [hg]; exact (below_size (by repeat (first | (with_reducible first | exact HB.out | apply below_alloc | apply pw_below_drewN | apply below_drew1) | exact HB.out))) : w.heap.size ≤ gb448)); have n3_ := Aside0.mk ((by rw [hg]; exact (below_size (by repeat (first | (with_reducible first | exact HB.out | apply below_alloc | apply pw_below_drewN | apply below_drew1) | exact HB.out))) : w.heap.size ≤ gb448)); clear HB; have HB := n0_; have BK448 := n1_; have GW448 := n2_; have GE448 := n3_; clear n0_ n1_ n2_ n3_; clear hb hbox hg))
  (try simp only [Act.put, List.setIfInBounds_toArray, List.set_cons_zero, List.set_cons_succ])
  go_cut [3] (fun v3 wc => ∃ (kq : Nat) (x3_1 : Int), v3 = .int .i64 x3_1 ∧ Aside0 (solsticeref01_Date.j1 kq a0 x3_1 = some (r1, r2, r3)) ∧ Aside0 (kq ≤ k) ∧ Aside0 (wc.heap[gb448]? = some (.cells #[.int .i64 0, .int .i64 0, .int .i64 0] 49 (0, 0))) ∧ Aside0 (Below w.heap.size w wc))
  case first =>
    have H := HC2.out
    clear HC2
    have H' := Aside0.mk H
    clear H
    go_wp2
    go_loopg [3] k (fun kq v3 w' => ∃ (x3_1 : Int), v3 = .int .i64 x3_1 ∧ Aside0 (solsticeref01_Date.l0 kq a0 x3_1 = some (r1, r2, r3)) ∧ Aside0 (kq ≤ k) ∧ Aside0 (w'.heap[gb448]? = some (.cells #[.int .i64 0, .int .i64 0, .int .i64 0] 49 (0, 0))) ∧ Aside0 (Below w.heap.size w w'))
    case atStart => exact ⟨(wrap64 (Int.tdiv (wrap64 (a0 + 719528)) 366)), (by first | rfl | (simp; done) | (simp [*]; done)), H', ⟨Nat.le_refl _⟩, ⟨by (with_reducible repeat (first | refine blk_drewN ?_ _ | refine blk_drew ?_ | refine blk_alloc ?_ _)); exact BK448.out⟩, ⟨by repeat (first | (with_reducible first | exact HB.out | apply below_alloc | apply pw_below_drewN | apply below_drew1 | refine below_set ?_ GE448.out) | exact HB.out)⟩⟩
    case round =>
      clear H'
      try clear c1
      try clear p2
      obtain ⟨x3_1, rfl, HA, HK1, BK448, HB⟩ := hrel
      cases gk with
      | zero => exact absurd HA.out (by simp [solsticeref01_Date.l0])
      | succ k1 =>
        have H := HA.out
        clear HA
        simp only [solsticeref01_Date.l0] at H
        by_cases c4 : x3_1 < 10000
        · rw [if_pos c4] at H
          have c4b0 : decide (x3_1 < 10000) = true := decide_eq_true c4
          clear c4
          (first | rw [c4b0] | (simp only [i64_w, i32_w]; rw [c4b0]) | skip)
          replace H := Option.bind_eq_some_iff.mp H
          obtain ⟨t449, A50, H⟩ := H
          replace H : (if t449 ≤ a0 then (solsticeref01_Date.l0 k1 a0 (wrap64 (x3_1 + 1))) else (solsticeref01_Date.j1 k1 a0 x3_1)) = some (r1, r2, r3) := H
          have A5 := Aside0.mk A50
          clear A50
          by_cases c6 : t449 ≤ a0
          · rw [if_pos c6] at H
            have c6b0 : decide (t449 ≤ a0) = true := decide_eq_true c6
            clear c6
            have H' := Aside0.mk H
            clear H
            go_wp2_with (first | (go_at_call 34; (with_reducible refine (solsticeref01_Number.calls k1 (wrap64 (x3_1 + 1)) 1 1 t449 _ A5.out).mono ?_); rintro e w7 ⟨rfl, hb⟩; have n0_ := Aside0.mk (blk_below (g := gb448) (o := .cells #[.int .i64 0, .int .i64 0, .int .i64 0] 49 (0, 0)) (by (with_reducible repeat (first | refine blk_drewN ?_ _ | refine blk_drew ?_ | refine blk_alloc ?_ _)); exact BK448.out) hb); have n1_ := Aside0.mk (below_step (by repeat (first | (with_reducible first | exact HB.out | apply below_alloc | apply pw_below_drewN | apply below_drew1 | refine below_set ?_ GE448.out) | exact HB.out)) hb); clear BK448; clear HB; have BK448 := n0_; have HB := n1_; clear n0_ n1_; (try clear hb); (try clear hb2); (try clear hk); (try clear hi)))
            go_roundg k1
            case measure => have := HK1.out; omega
            case rel => exact ⟨(wrap64 (x3_1 + 1)), (by first | rfl | (simp; done) | (simp [*]; done)), H', ⟨by have := HK1.out; omega⟩, ⟨by (with_reducible repeat (first | refine blk_drewN ?_ _ | refine blk_drew ?_ | refine blk_alloc ?_ _)); exact BK448.out⟩, ⟨by repeat (first | (with_reducible first | exact HB.out | apply below_alloc | apply pw_below_drewN | apply below_drew1 | refine below_set ?_ GE448.out) | exact HB.out)⟩⟩
          · rw [if_neg c6] at H
            have c6b0 : decide (t449 ≤ a0) = false := decide_eq_false c6
            clear c6
            have H' := Aside0.mk H
            clear H
            go_wp2_with (first | (go_at_call 34; (with_reducible refine (solsticeref01_Number.calls k1 (wrap64 (x3_1 + 1)) 1 1 t449 _ A5.out).mono ?_); rintro e w8 ⟨rfl, hb⟩; have n0_ := Aside0.mk (blk_below (g := gb448) (o := .cells #[.int .i64 0, .int .i64 0, .int .i64 0] 49 (0, 0)) (by (with_reducible repeat (first | refine blk_drewN ?_ _ | refine blk_drew ?_ | refine blk_alloc ?_ _)); exact BK448.out) hb); have n1_ := Aside0.mk (below_step (by repeat (first | (with_reducible first | exact HB.out | apply below_alloc | apply pw_below_drewN | apply below_drew1 | refine below_set ?_ GE448.out) | exact HB.out)) hb); clear BK448; clear HB; have BK448 := n0_; have HB := n1_; clear n0_ n1_; (try clear hb); (try clear hb2); (try clear hk); (try clear hi)))
            go_meet
            case rel => exact ⟨_, (x3_1), (by first | rfl | (simp; done) | (simp [*]; done)), H', ⟨by have := HK1.out; first | omega | exact Nat.le_refl _⟩, ⟨by (with_reducible repeat (first | refine blk_drewN ?_ _ | refine blk_drew ?_ | refine blk_alloc ?_ _)); exact BK448.out⟩, ⟨by repeat (first | (with_reducible first | exact HB.out | apply below_alloc | apply pw_below_drewN | apply below_drew1 | refine below_set ?_ GE448.out) | exact HB.out)⟩⟩
        · rw [if_neg c4] at H
          have c4b0 : decide (x3_1 < 10000) = false := decide_eq_false c4
          clear c4
          (first | rw [c4b0] | (simp only [i64_w, i32_w]; rw [c4b0]) | skip)
          have H' := Aside0.mk H
          clear H
          go_wp2
          go_meet
          case rel => exact ⟨_, (x3_1), (by first | rfl | (simp; done) | (simp [*]; done)), H', ⟨by have := HK1.out; first | omega | exact Nat.le_refl _⟩, ⟨by (with_reducible repeat (first | refine blk_drewN ?_ _ | refine blk_drew ?_ | refine blk_alloc ?_ _)); exact BK448.out⟩, ⟨by repeat (first | (with_reducible first | exact HB.out | apply below_alloc | apply pw_below_drewN | apply below_drew1 | refine below_set ?_ GE448.out) | exact HB.out)⟩⟩
  case rest =>
    clear HC2
    try clear c1
    try clear p2
    try clear c4
    try clear c4b0
    try clear c6
    try clear c6b0
    try clear p6
    try clear p2
    obtain ⟨kq, x3_1, rfl, HA, HJ1, BK448, HB⟩ := hcut
    cases kq with
    | zero => exact absurd HA.out (by simp [solsticeref01_Date.j1])
    | succ kj1 =>
      have H := HA.out
      clear HA
      simp only [solsticeref01_Date.j1] at H
      replace H := Option.bind_eq_some_iff.mp H
      obtain ⟨t451, A90, H⟩ := H
      replace H : (solsticeref01_Date.l1 kj1 x3_1 (wrap64 (a0 - t451)) x3_1 1 1) = some (r1, r2, r3) := H
      have A9 := Aside0.mk A90
      clear A90
      have H' := Aside0.mk H
      clear H
      go_wp2_with (first | ((with_reducible refine gate_dst (N := 4) rfl ?_); refine box_event ?hg (N := 4) ?hd (cs := #[.int .i64 0, .int .i64 0, .int .i64 0]) (t := 49) ?hr ?_; (case hd => rfl); (case hg => rfl); (case hr => first | (go_simp; done) | (go_simp; rfl)); intro gb450 hg w10 hbox hb; have n0_ := Aside0.mk (blk_below (g := gb448) (o := .cells #[.int .i64 0, .int .i64 0, .int .i64 0] 49 (0, 0)) (by (with_reducible repeat (first | refine blk_drewN ?_ _ | refine blk_drew ?_ | refine blk_alloc ?_ _)); exact BK448.out) hb); have n1_ := Aside0.mk (below_step (by repeat (first | (with_reducible first | exact HB.out | apply below_alloc | apply pw_below_drewN | apply below_drew1 | refine below_set ?_ GE448.out) | exact HB.out)) hb); have n2_ := Aside0.mk (hbox); have n3_ := Aside0.mk ((by rw [hg]; exact (below_size (by repeat (first | (with_reducible first | exact HB.out | apply below_alloc | apply pw_below_drewN | apply below_drew1 | refine below_set ?_ GE448.out) | exact HB.out))) : w.heap.size ≤ gb450)); have n4_ := Aside0.mk ((by rw [hg]; exact (below_size (by repeat (first | (with_reducible first | exact HB.out | apply below_alloc | apply pw_below_drewN | apply below_drew1 | refine below_set ?_ GE448.out) | exact HB.out))) : w.heap.size ≤ gb450)); have n5_ := Aside0.mk ((by rw [hg]; exact Nat.ne_of_lt (blk_lt (g := gb448) (o := .cells #[.int .i64 0, .int .i64 0, .int .i64 0] 49 (0, 0)) (by (with_reducible repeat (first | refine blk_drewN ?_ _ | refine blk_drew ?_ | refine blk_alloc ?_ _)); exact BK448.out)) : gb448 ≠ gb450)); have n6_ := Aside0.mk ((by rw [hg]; exact Nat.ne_of_gt (blk_lt (g := gb448) (o := .cells #[.int .i64 0, .int .i64 0, .int .i64 0] 49 (0, 0)) (by (with_reducible repeat (first | refine blk_drewN ?_ _ | refine blk_drew ?_ | refine blk_alloc ?_ _)); exact BK448.out)) : gb450 ≠ gb448)); clear BK448; clear HB; have BK448 := n0_; have HB := n1_; have BK450 := n2_; have GW450 := n3_; have GE450 := n4_; have NB448_450 := n5_; have NB450_448 := n6_; clear n0_ n1_ n2_ n3_ n4_ n5_ n6_; clear hb hbox hg; have hnb11 := NB450_448.out; have hnc11 := NB448_450.out; have hcz12_0 : w10.cell? ⟨gb450, 0, none⟩ = some (.int .i64 0) := (blk_cell BK450.out 0).trans rfl; have hcz12_1 : w10.cell? ⟨gb450, 1, none⟩ = some (.int .i64 0) := (blk_cell BK450.out 1).trans rfl; have hcz12_2 : w10.cell? ⟨gb450, 2, none⟩ = some (.int .i64 0) := (blk_cell BK450.out 2).trans rfl; have hfz12_0 := blk_frozen BK450.out 0; have hfz12_1 := blk_frozen BK450.out 1; have hfz12_2 := blk_frozen BK450.out 2) | ((with_reducible refine gate_callee (f := 34) rfl ?_); refine goesL_ (some 26) rfl rfl Try.func34 (by kernel_rfl) rfl #[.agg #[.int .i64 x3_1, .int .i64 1, .int .i64 1]] rfl (by (try simp only [List.map_toArray, List.map_cons, List.map_nil]); first | done | rfl | (simp only [List.length_drop, List.length_take]; rfl)) ?_; (with_reducible refine (solsticeref01_Number.calls kj1 x3_1 1 1 t451 _ A9.out).mono ?_); rintro e w13 ⟨rfl, hb⟩; refine ⟨_, rfl, ?_⟩; have n0_ := Aside0.mk (blk_below (g := gb448) (o := .cells #[.int .i64 0, .int .i64 0, .int .i64 0] 49 (0, 0)) (by (with_reducible repeat (first | refine blk_drewN ?_ _ | refine blk_drew ?_ | refine blk_alloc ?_ _)); refine blk_far ?_ NB448_450.out _; (with_reducible repeat (first | refine blk_drewN ?_ _ | refine blk_drew ?_ | refine blk_alloc ?_ _)); refine blk_far ?_ NB448_450.out _; (with_reducible repeat (first | refine blk_drewN ?_ _ | refine blk_drew ?_ | refine blk_alloc ?_ _)); refine blk_far ?_ NB448_450.out _; (with_reducible repeat (first | refine blk_drewN ?_ _ | refine blk_drew ?_ | refine blk_alloc ?_ _)); exact BK448.out) hb); have n1_ := Aside0.mk (blk_below (g := gb450) (o := .cells #[.int .i64 x3_1, .int .i64 1, .int .i64 1] 49 (0, 0)) (by (with_reducible repeat (first | refine blk_drewN ?_ _ | refine blk_drew ?_ | refine blk_alloc ?_ _)); refine puts3 (cs := #[.int .i64 0, .int .i64 0, .int .i64 0]) ?_ rfl; (with_reducible repeat (first | refine blk_drewN ?_ _ | refine blk_drew ?_ | refine blk_alloc ?_ _)); exact BK450.out) hb); have n2_ := Aside0.mk (below_step (by repeat (first | (with_reducible first | exact HB.out | apply below_alloc | apply pw_below_drewN | apply below_drew1 | refine below_set ?_ GE448.out | refine below_set ?_ GE450.out) | exact HB.out)) hb); clear BK448; clear BK450; clear HB; have BK448 := n0_; have BK450 := n1_; have HB := n2_; clear n0_ n1_ n2_; (try clear hb); (try clear hb2); (try clear hk); (try clear hi)))
      go_loopg [5] kj1 (fun kq v5 w' => ∃ (x5_2 : Int) (x451001_2 : Int) (x451002_2 : Int), v5 = .int .i64 x5_2 ∧ Aside0 (solsticeref01_Date.l1 kq x3_1 x5_2 x3_1 x451001_2 x451002_2 = some (r1, r2, r3)) ∧ Aside0 (kq ≤ kj1) ∧ Aside0 (w'.heap[gb448]? = some (.cells #[.int .i64 0, .int .i64 0, .int .i64 0] 49 (0, 0))) ∧ Aside0 (w'.heap[gb450]? = some (.cells #[.int .i64 x3_1, .int .i64 x451001_2, .int .i64 x451002_2] 49 (0, 0))) ∧ Aside0 (Below w.heap.size w w'))
      case atStart => exact ⟨(wrap64 (a0 - t451)), (1), (1), (by first | rfl | (simp; done) | (simp [*]; done)), H', ⟨Nat.le_refl _⟩, ⟨by (with_reducible repeat (first | refine blk_drewN ?_ _ | refine blk_drew ?_ | refine blk_alloc ?_ _)); exact BK448.out⟩, ⟨by (with_reducible repeat (first | refine blk_drewN ?_ _ | refine blk_drew ?_ | refine blk_alloc ?_ _)); exact BK450.out⟩, ⟨by repeat (first | (with_reducible first | exact HB.out | apply below_alloc | apply pw_below_drewN | apply below_drew1 | refine below_set ?_ GE448.out | refine below_set ?_ GE450.out) | exact HB.out)⟩⟩
      case round =>
        clear H'
        try clear c1
        try clear p2
        try clear c3
        try clear c4
        try clear c4b0
        try clear c6
        try clear c6b0
        try clear p6
        try clear c11
        try clear hcz12_0
        try clear hcz12_1
        try clear hcz12_2
        try clear hfz12_0
        try clear hfz12_1
        try clear hfz12_2
        try clear p2
        try clear p6
        obtain ⟨x5_2, x451001_2, x451002_2, rfl, HA, HK2, BK448, BK450, HB⟩ := hrel
        cases gk with
        | zero => exact absurd HA.out (by simp [solsticeref01_Date.l1])
        | succ k2 =>
          have H := HA.out
          clear HA
          simp only [solsticeref01_Date.l1] at H
          by_cases c14 : x5_2 > 0
          · rw [if_pos c14] at H
            have c14b0 : decide (0 < x5_2) = true := decide_eq_true c14
            clear c14
            replace H := Option.bind_eq_some_iff.mp H
            obtain ⟨t452, A150, H⟩ := H
            replace H : (if x5_2 ≥ t452 then (solsticeref01_Date.l1 k2 x3_1 (wrap64 (x5_2 - t452)) x3_1 (wrap64 (x451001_2 + 1)) x451002_2) else (solsticeref01_Date.l1 k2 x3_1 0 x3_1 x451001_2 (wrap64 (x5_2 + 1)))) = some (r1, r2, r3) := H
            have A15 := Aside0.mk A150
            clear A150
            by_cases c16 : x5_2 ≥ t452
            · rw [if_pos c16] at H
              have c16b0 : decide (t452 ≤ x5_2) = true := decide_eq_true c16
              clear c16
              have H' := Aside0.mk H
              clear H
              have hnb17 := NB450_448.out
              have hnc17 := NB448_450.out
              have hcz18_0 : wr.cell? ⟨gb450, 0, none⟩ = some (.int .i64 x3_1) := (blk_cell BK450.out 0).trans rfl
              have hcz18_1 : wr.cell? ⟨gb450, 1, none⟩ = some (.int .i64 x451001_2) := (blk_cell BK450.out 1).trans rfl
              have hcz18_2 : wr.cell? ⟨gb450, 2, none⟩ = some (.int .i64 x451002_2) := (blk_cell BK450.out 2).trans rfl
              have hfz18_0 := blk_frozen BK450.out 0
              have hfz18_1 := blk_frozen BK450.out 1
              have hfz18_2 := blk_frozen BK450.out 2
              go_wp2_with (first | ((with_reducible refine gate_callee (f := 27) rfl ?_); refine goesL_ (some 33) rfl rfl Try.func27 (by kernel_rfl) rfl #[.int .i64 x3_1, .int .i64 x451001_2] rfl (by (try simp only [List.map_toArray, List.map_cons, List.map_nil]); first | done | rfl | (simp only [List.length_drop, List.length_take]; rfl)) ?_; (with_reducible refine (solsticeref01_Len.calls k2 x3_1 x451001_2 t452 _ A15.out).mono ?_); rintro e w' ⟨rfl, ⟨nd, rfl⟩⟩; refine ⟨_, rfl, ?_⟩; (try (rw [drewN_self wr]; generalize hq_ : World.drewN wr _ = wr; have n0_ : Aside0 (wr.heap[gb448]? = some (.cells #[.int .i64 0, .int .i64 0, .int .i64 0] 49 (0, 0))) := ⟨by rw [← hq_]; exact (by (with_reducible repeat (first | refine blk_drewN ?_ _ | refine blk_drew ?_ | refine blk_alloc ?_ _)); exact BK448.out)⟩; have n1_ : Aside0 (wr.heap[gb450]? = some (.cells #[.int .i64 x3_1, .int .i64 x451001_2, .int .i64 x451002_2] 49 (0, 0))) := ⟨by rw [← hq_]; exact (by (with_reducible repeat (first | refine blk_drewN ?_ _ | refine blk_drew ?_ | refine blk_alloc ?_ _)); exact BK450.out)⟩; have n2_ : Aside0 (Below w.heap.size w wr) := ⟨by rw [← hq_]; exact (by repeat (first | (with_reducible first | exact HB.out | apply below_alloc | apply pw_below_drewN | apply below_drew1 | refine below_set ?_ GE448.out | refine below_set ?_ GE450.out) | exact HB.out))⟩; clear BK448 BK450 HB hq_; have BK448 := n0_; have BK450 := n1_; have HB := n2_; clear n0_ n1_ n2_)); have hcz18_0 : wr.cell? ⟨gb450, 0, none⟩ = some (.int .i64 x3_1) := (blk_cell BK450.out 0).trans rfl; have hcz18_1 : wr.cell? ⟨gb450, 1, none⟩ = some (.int .i64 x451001_2) := (blk_cell BK450.out 1).trans rfl; have hcz18_2 : wr.cell? ⟨gb450, 2, none⟩ = some (.int .i64 x451002_2) := (blk_cell BK450.out 2).trans rfl; have hfz18_0 := blk_frozen BK450.out 0; have hfz18_1 := blk_frozen BK450.out 1; have hfz18_2 := blk_frozen BK450.out 2))
              go_roundg k2
              case measure => have := HJ1.out; have := HK2.out; omega
              case rel => exact ⟨(wrap64 (x5_2 - t452)), (wrap64 (x451001_2 + 1)), (x451002_2), (by first | rfl | (simp; done) | (simp [*]; done)), H', ⟨by have := HJ1.out; have := HK2.out; omega⟩, ⟨by (with_reducible repeat (first | refine blk_drewN ?_ _ | refine blk_drew ?_ | refine blk_alloc ?_ _)); refine blk_far ?_ NB448_450.out _; (with_reducible repeat (first | refine blk_drewN ?_ _ | refine blk_drew ?_ | refine blk_alloc ?_ _)); exact BK448.out⟩, ⟨by (with_reducible repeat (first | refine blk_drewN ?_ _ | refine blk_drew ?_ | refine blk_alloc ?_ _)); refine blk_put (cs := #[.int .i64 x3_1, .int .i64 x451001_2, .int .i64 x451002_2]) ?_ 1 _ rfl; (with_reducible repeat (first | refine blk_drewN ?_ _ | refine blk_drew ?_ | refine blk_alloc ?_ _)); exact BK450.out⟩, ⟨by repeat (first | (with_reducible first | exact HB.out | apply below_alloc | apply pw_below_drewN | apply below_drew1 | refine below_set ?_ GE448.out | refine below_set ?_ GE450.out) | exact HB.out)⟩⟩
            · rw [if_neg c16] at H
              have c16b0 : decide (t452 ≤ x5_2) = false := decide_eq_false c16
              clear c16
              have H' := Aside0.mk H
              clear H
              have hnb19 := NB450_448.out
              have hnc19 := NB448_450.out
              have hcz20_0 : wr.cell? ⟨gb450, 0, none⟩ = some (.int .i64 x3_1) := (blk_cell BK450.out 0).trans rfl
              have hcz20_1 : wr.cell? ⟨gb450, 1, none⟩ = some (.int .i64 x451001_2) := (blk_cell BK450.out 1).trans rfl
              have hcz20_2 : wr.cell? ⟨gb450, 2, none⟩ = some (.int .i64 x451002_2) := (blk_cell BK450.out 2).trans rfl
              have hfz20_0 := blk_frozen BK450.out 0
              have hfz20_1 := blk_frozen BK450.out 1
              have hfz20_2 := blk_frozen BK450.out 2
              go_wp2_with (first | ((with_reducible refine gate_callee (f := 27) rfl ?_); refine goesL_ (some 33) rfl rfl Try.func27 (by kernel_rfl) rfl #[.int .i64 x3_1, .int .i64 x451001_2] rfl (by (try simp only [List.map_toArray, List.map_cons, List.map_nil]); first | done | rfl | (simp only [List.length_drop, List.length_take]; rfl)) ?_; (with_reducible refine (solsticeref01_Len.calls k2 x3_1 x451001_2 t452 _ A15.out).mono ?_); rintro e w' ⟨rfl, ⟨nd, rfl⟩⟩; refine ⟨_, rfl, ?_⟩; (try (rw [drewN_self wr]; generalize hq_ : World.drewN wr _ = wr; have n0_ : Aside0 (wr.heap[gb448]? = some (.cells #[.int .i64 0, .int .i64 0, .int .i64 0] 49 (0, 0))) := ⟨by rw [← hq_]; exact (by (with_reducible repeat (first | refine blk_drewN ?_ _ | refine blk_drew ?_ | refine blk_alloc ?_ _)); exact BK448.out)⟩; have n1_ : Aside0 (wr.heap[gb450]? = some (.cells #[.int .i64 x3_1, .int .i64 x451001_2, .int .i64 x451002_2] 49 (0, 0))) := ⟨by rw [← hq_]; exact (by (with_reducible repeat (first | refine blk_drewN ?_ _ | refine blk_drew ?_ | refine blk_alloc ?_ _)); exact BK450.out)⟩; have n2_ : Aside0 (Below w.heap.size w wr) := ⟨by rw [← hq_]; exact (by repeat (first | (with_reducible first | exact HB.out | apply below_alloc | apply pw_below_drewN | apply below_drew1 | refine below_set ?_ GE448.out | refine below_set ?_ GE450.out) | exact HB.out))⟩; clear BK448 BK450 HB hq_; have BK448 := n0_; have BK450 := n1_; have HB := n2_; clear n0_ n1_ n2_)); have hcz20_0 : wr.cell? ⟨gb450, 0, none⟩ = some (.int .i64 x3_1) := (blk_cell BK450.out 0).trans rfl; have hcz20_1 : wr.cell? ⟨gb450, 1, none⟩ = some (.int .i64 x451001_2) := (blk_cell BK450.out 1).trans rfl; have hcz20_2 : wr.cell? ⟨gb450, 2, none⟩ = some (.int .i64 x451002_2) := (blk_cell BK450.out 2).trans rfl; have hfz20_0 := blk_frozen BK450.out 0; have hfz20_1 := blk_frozen BK450.out 1; have hfz20_2 := blk_frozen BK450.out 2))
              go_roundg k2
              case measure => have := HJ1.out; have := HK2.out; omega
              case rel => exact ⟨(0), (x451001_2), (wrap64 (x5_2 + 1)), (by first | rfl | (simp; done) | (simp [*]; done)), H', ⟨by have := HJ1.out; have := HK2.out; omega⟩, ⟨by (with_reducible repeat (first | refine blk_drewN ?_ _ | refine blk_drew ?_ | refine blk_alloc ?_ _)); refine blk_far ?_ NB448_450.out _; (with_reducible repeat (first | refine blk_drewN ?_ _ | refine blk_drew ?_ | refine blk_alloc ?_ _)); exact BK448.out⟩, ⟨by (with_reducible repeat (first | refine blk_drewN ?_ _ | refine blk_drew ?_ | refine blk_alloc ?_ _)); refine blk_put (cs := #[.int .i64 x3_1, .int .i64 x451001_2, .int .i64 x451002_2]) ?_ 2 _ rfl; (with_reducible repeat (first | refine blk_drewN ?_ _ | refine blk_drew ?_ | refine blk_alloc ?_ _)); exact BK450.out⟩, ⟨by repeat (first | (with_reducible first | exact HB.out | apply below_alloc | apply pw_below_drewN | apply below_drew1 | refine below_set ?_ GE448.out | refine below_set ?_ GE450.out) | exact HB.out)⟩⟩
          · rw [if_neg c14] at H
            have c14b0 : decide (0 < x5_2) = false := decide_eq_false c14
            clear c14
            simp only [Option.some.injEq, Prod.mk.injEq] at H
            obtain ⟨rfl, rfl, rfl⟩ := H
            have hnb21 := NB450_448.out
            have hnc21 := NB448_450.out
            have hcz22_0 : wr.cell? ⟨gb450, 0, none⟩ = some (.int .i64 x3_1) := (blk_cell BK450.out 0).trans rfl
            have hcz22_1 : wr.cell? ⟨gb450, 1, none⟩ = some (.int .i64 x451001_2) := (blk_cell BK450.out 1).trans rfl
            have hcz22_2 : wr.cell? ⟨gb450, 2, none⟩ = some (.int .i64 x451002_2) := (blk_cell BK450.out 2).trans rfl
            have hfz22_0 := blk_frozen BK450.out 0
            have hfz22_1 := blk_frozen BK450.out 1
            have hfz22_2 := blk_frozen BK450.out 2
            have hcz23_0 : wr.cell? ⟨gb448, 0, none⟩ = some (.int .i64 0) := (blk_cell BK448.out 0).trans rfl
            have hcz23_1 : wr.cell? ⟨gb448, 1, none⟩ = some (.int .i64 0) := (blk_cell BK448.out 1).trans rfl
            have hcz23_2 : wr.cell? ⟨gb448, 2, none⟩ = some (.int .i64 0) := (blk_cell BK448.out 2).trans rfl
            have hfz23_0 := blk_frozen BK448.out 0
            have hfz23_1 := blk_frozen BK448.out 1
            have hfz23_2 := blk_frozen BK448.out 2
            go_wp2
            refine bodyPost_ret (results_cell_row rfl _ _ gb448 49 #[.int .i64 x3_1, .int .i64 x451001_2, .int .i64 x451002_2] (0, 0) _ rfl (by (with_reducible repeat (first | refine blk_drewN ?_ _ | refine blk_drew ?_ | refine blk_alloc ?_ _)); refine puts3 (cs := #[.int .i64 0, .int .i64 0, .int .i64 0]) ?_ rfl; (with_reducible repeat (first | refine blk_drewN ?_ _ | refine blk_drew ?_ | refine blk_alloc ?_ _)); exact BK448.out) Try.underlying49 rfl (by kernel_rfl)) rfl ?_
            exact ⟨by first | rfl | (simp [errW_none, errW_some] <;> rfl) | (simp only [i64_w]; done) | (simp only [i64_w]; rfl) | (simp [*, errW_none, errW_some] <;> rfl), by repeat (first | (with_reducible first | exact HB.out | apply below_alloc | apply pw_below_drewN | apply below_drew1 | refine below_set ?_ GE448.out | refine below_set ?_ GE450.out) | exact HB.out)⟩

end Go.Proofs.Ytfinhaghgmnegaa.O
