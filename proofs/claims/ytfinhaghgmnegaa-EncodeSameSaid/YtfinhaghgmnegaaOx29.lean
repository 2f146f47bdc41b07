-- What some functions of the program compute: a text of this claim's own (lines first written by the kit's tool, some proved anew).
import Derived.Test.YtfinhaghgmnegaaOx0
namespace Go.Proofs.Ytfinhaghgmnegaa.O
open Go.RowKit Go.Proofs.YtfinhaghgmnegaaW.PrintWords Go.Proofs.YtfinhaghgmnegaaW.PrintLast Go.Proofs.YtfinhaghgmnegaaW.PrintMore
attribute [local go_sem] max2_int min2_int max_two min_two max_three min_three max_four min_four   -- for this text's walks alone
set_option linter.unusedVariables false
set_option linter.unusedSimpArgs false

/-! ### solsticelaw07_Some: function 14 -/
def solsticelaw07_Some.f (a0 : Int) (a1 : Int) (a2 : Int) : Option (Int × Int × Int) := if (wrap64 (1 + (wrap64 (Int.tmod (IntKind.u64.wrap (a0)) 4)))) = 1 then (if (wrap64 (1 + (wrap64 (Int.tmod (IntKind.u64.wrap (a0)) 4)))) = 2 then (some (wrap64 (1 + (wrap64 (Int.tmod (IntKind.u64.wrap (a0)) 4))), 0, 0)) else (some (wrap64 (1 + (wrap64 (Int.tmod (IntKind.u64.wrap (a0)) 4))), 0, wrap64 (1 + (wrap64 (Int.tmod (IntKind.u64.wrap (a2)) 31)))))) else (if (wrap64 (1 + (wrap64 (Int.tmod (IntKind.u64.wrap (a0)) 4)))) = 2 then (some (wrap64 (1 + (wrap64 (Int.tmod (IntKind.u64.wrap (a0)) 4))), wrap64 (Int.tmod (IntKind.u64.wrap (a1)) 7), 0)) else (some (wrap64 (1 + (wrap64 (Int.tmod (IntKind.u64.wrap (a0)) 4))), wrap64 (Int.tmod (IntKind.u64.wrap (a1)) 7), wrap64 (1 + (wrap64 (Int.tmod (IntKind.u64.wrap (a2)) 31))))))
theorem wp_abs {P : Program} {c : Code} {Q : Exit → Act → World → Prop} {a : Act} {w : World} (F : World → Prop) (h : F w) (k : ∀ W, F W → Code.wp P c Q a W) : Code.wp P c Q a w := k w h
set_option maxHeartbeats 8000000 in
set_option maxRecDepth 100000 in
theorem solsticelaw07_Some.calls (a0 : Int) (a1 : Int) (a2 : Int) (r1 : Int) (r2 : Int) (r3 : Int) (w : World) (h : solsticelaw07_Some.f a0 a1 a2 = some (r1, r2, r3)) :
    Calls Try.prog 14 #[.int .i64 a0, .int .i64 a1, .int .i64 a2] w fun e w' => e = .returned (.agg #[.int .i64 r1, .int .i64 r2, .int .i64 r3]) ∧ Below w.heap.size w w' := by
  have hu23 := Try.underlying23
  have HB := Aside0.mk (Below.refl w.heap.size w)
  have H : (if (wrap64 (1 + (wrap64 (Int.tmod (IntKind.u64.wrap (a0)) 4)))) = 1 then (if (wrap64 (1 + (wrap64 (Int.tmod (IntKind.u64.wrap (a0)) 4)))) = 2 then (some (wrap64 (1 + (wrap64 (Int.tmod (IntKind.u64.wrap (a0)) 4))), 0, 0)) else (some (wrap64 (1 + (wrap64 (Int.tmod (IntKind.u64.wrap (a0)) 4))), 0, wrap64 (1 + (wrap64 (Int.tmod (IntKind.u64.wrap (a2)) 31)))))) else (if (wrap64 (1 + (wrap64 (Int.tmod (IntKind.u64.wrap (a0)) 4)))) = 2 then (some (wrap64 (1 + (wrap64 (Int.tmod (IntKind.u64.wrap (a0)) 4))), wrap64 (Int.tmod (IntKind.u64.wrap (a1)) 7), 0)) else (some (wrap64 (1 + (wrap64 (Int.tmod (IntKind.u64.wrap (a0)) 4))), wrap64 (Int.tmod (IntKind.u64.wrap (a1)) 7), wrap64 (1 + (wrap64 (Int.tmod (IntKind.u64.wrap (a2)) 31))))))) = some (r1, r2, r3) := h
  clear h
  go_enter Try.func14, Try.ntmps14
  go_upto_region 2 with (first | ((with_reducible refine gate_dst (N := 6) rfl ?_); refine box_event ?hg (N := 6) ?hd (cs := #[.int .i64 0, .int .i64 0, .int .i64 0]) (t := 23) ?hr ?_; (case hd => rfl); (case hg => rfl); (case hr => first | (go_simp; done) | (go_simp; rfl)); intro gb428 hg w6 hbox hb; have n0_ := Aside0.mk (below_step (by repeat (first | (with_reducible first | exact HB.out | apply below_alloc | apply pw_below_drewN | apply below_drew1) | exact HB.out)) hb); have n1_ := Aside0.mk (hbox); have n2_ := Aside0.mk ((by rw [hg]; exact (below_size (by repeat (first | (with_reducible first | exact HB.out | apply below_alloc | apply pw_below_drewN | apply below_drew1) | exact HB.out))) : w.heap.size ≤ gb428)); have n3_ := Aside0.mk ((by rw [hg]; exact (below_size (by repeat (first | (with_reducible first | exact HB.out | apply below_alloc | apply pw_below_drewN | apply below_drew1) | exact HB.out))) : w.heap.size ≤ gb428)); clear HB; have HB := n0_; have BK428 := n1_; have GW428 := n2_; have GE428 := n3_; clear n0_ n1_ n2_ n3_; clear hb hbox hg) | ((with_reducible refine gate_dst (N := 7) rfl ?_); refine box_event ?hg (N := 7) ?hd (cs := #[.int .i64 0, .int .i64 0, .int .i64 0]) (t := 23) ?hr ?_; (case hd => rfl); (case hg => rfl); (case hr => first | (go_simp; done) | (go_simp; rfl)); intro gb429 hg w7 hbox hb; have n0_ := Aside0.mk (blk_below (g := gb428) (o := .cells #[.int .i64 0, .int .i64 0, .int .i64 0] 23 (0, 0)) (by (with_reducible repeat (first | refine blk_drewN ?_ _ | refine blk_drew ?_ | refine blk_alloc ?_ _)); exact BK428.out) hb); have n1_ := Aside0.mk (below_step (by repeat (first | (with_reducible first | exact HB.out | apply below_alloc | apply pw_below_drewN | apply below_drew1 | refine below_set ?_ GE428.out) | exact HB.out)) hb); have n2_ := Aside0.mk (hbox); have n3_ := Aside0.mk ((by rw [hg]; exact (below_size (by repeat (first | (with_reducible first | exact HB.out | apply below_alloc | apply pw_below_drewN | apply below_drew1 | refine below_set ?_ GE428.out) | exact HB.out))) : w.heap.size ≤ gb429)); have n4_ := Aside0.mk ((by rw [hg]; exact (below_size (by repeat (first | (with_reducible first | exact HB.out | apply below_alloc | apply pw_below_drewN | apply below_drew1 | refine below_set ?_ GE428.out) | exact HB.out))) : w.heap.size ≤ gb429)); have n5_ := Aside0.mk ((by rw [hg]; exact Nat.ne_of_lt (blk_lt (g := gb428) (o := .cells #[.int .i64 0, .int .i64 0, .int .i64 0] 23 (0, 0)) (by (with_reducible repeat (first | refine blk_drewN ?_ _ | refine blk_drew ?_ | refine blk_alloc ?_ _)); exact BK428.out)) : gb428 ≠ gb429)); have n6_ := Aside0.mk ((by rw [hg]; exact Nat.ne_of_gt (blk_lt (g := gb428) (o := .cells #[.int .i64 0, .int .i64 0, .int .i64 0] 23 (0, 0)) (by (with_reducible repeat (first | refine blk_drewN ?_ _ | refine blk_drew ?_ | refine blk_alloc ?_ _)); exact BK428.out)) : gb429 ≠ gb428)); clear BK428; clear HB; have BK428 := n0_; have HB := n1_; have BK429 := n2_; have GW429 := n3_; have GE429 := n4_; have NB428_429 := n5_; have NB429_428 := n6_; clear n0_ n1_ n2_ n3_ n4_ n5_ n6_; clear hb hbox hg; have hnb8 := NB429_428.out; have hnc8 := NB428_429.out; have hcz9_0 : w7.cell? ⟨gb429, 0, none⟩ = some (.int .i64 0) := (blk_cell BK429.out 0).trans rfl; have hcz9_1 : w7.cell? ⟨gb429, 1, none⟩ = some (.int .i64 0) := (blk_cell BK429.out 1).trans rfl; have hcz9_2 : w7.cell? ⟨gb429, 2, none⟩ = some (.int .i64 0) := (blk_cell BK429.out 2).trans rfl; have hfz9_0 := blk_frozen BK429.out 0; have hfz9_1 := blk_frozen BK429.out 1; have hfz9_2 := blk_frozen BK429.out 2; have hcz10_0 : w7.cell? ⟨gb428, 0, none⟩ = some (.int .i64 0) := (blk_cell BK428.out 0).trans rfl; have hcz10_1 : w7.cell? ⟨gb428, 1, none⟩ = some (.int .i64 0) := (blk_cell BK428.out 1).trans rfl; have hcz10_2 : w7.cell? ⟨gb428, 2, none⟩ = some (.int .i64 0) := (blk_cell BK428.out 2).trans rfl; have hfz10_0 := blk_frozen BK428.out 0; have hfz10_1 := blk_frozen BK428.out 1; have hfz10_2 := blk_frozen BK428.out 2))
  refine wp_abs (fun W => W.heap[gb429]? = some (.cells #[.int .i64 (wrap64 (1 + (wrap64 (Int.tmod (IntKind.u64.wrap (a0)) 4)))), .int .i64 (wrap64 (Int.tmod (IntKind.u64.wrap (a1)) 7)), .int .i64 (wrap64 (1 + (wrap64 (Int.tmod (IntKind.u64.wrap (a2)) 31))))] 23 (0, 0)) ∧ W.heap[gb428]? = some (.cells #[.int .i64 0, .int .i64 0, .int .i64 0] 23 (0, 0)) ∧ Below w.heap.size w W) ⟨?_, ?_, ?_⟩ ?_
  · refine blk_put (cs := #[.int .i64 (wrap64 (1 + (wrap64 (Int.tmod (IntKind.u64.wrap (a0)) 4)))), .int .i64 (wrap64 (Int.tmod (IntKind.u64.wrap (a1)) 7)), .int .i64 0]) ?_ 2 _ rfl
    refine blk_put (cs := #[.int .i64 (wrap64 (1 + (wrap64 (Int.tmod (IntKind.u64.wrap (a0)) 4)))), .int .i64 0, .int .i64 0]) ?_ 1 _ rfl
    refine blk_put (cs := #[.int .i64 0, .int .i64 0, .int .i64 0]) ?_ 0 _ rfl
    exact BK429.out
  · refine blk_far ?_ NB428_429.out _
    refine blk_far ?_ NB428_429.out _
    refine blk_far ?_ NB428_429.out _
    exact BK428.out
  · refine below_set ?_ GE429.out
    refine below_set ?_ GE429.out
    refine below_set ?_ GE429.out
    exact HB.out
  rintro W ⟨b1, b2, b3⟩
  have hn := NB428_429.out
  have hn' := NB429_428.out
  have hb1 := Aside0.mk b1
  have hb2 := Aside0.mk b2
  have hb3 := Aside0.mk b3
  clear b1 b2 b3
  have c0 : W.cell? ⟨gb429, 0, none⟩ = some (.int .i64 (wrap64 (1 + (wrap64 (Int.tmod (IntKind.u64.wrap (a0)) 4))))) := (blk_cell hb1.out 0).trans rfl
  have c1 : W.cell? ⟨gb429, 1, none⟩ = some (.int .i64 (wrap64 (Int.tmod (IntKind.u64.wrap (a1)) 7))) := (blk_cell hb1.out 1).trans rfl
  have c2 : W.cell? ⟨gb429, 2, none⟩ = some (.int .i64 (wrap64 (1 + (wrap64 (Int.tmod (IntKind.u64.wrap (a2)) 31))))) := (blk_cell hb1.out 2).trans rfl
  have d0 : W.cell? ⟨gb428, 0, none⟩ = some (.int .i64 0) := (blk_cell hb2.out 0).trans rfl
  have d1 : W.cell? ⟨gb428, 1, none⟩ = some (.int .i64 0) := (blk_cell hb2.out 1).trans rfl
  have d2 : W.cell? ⟨gb428, 2, none⟩ = some (.int .i64 0) := (blk_cell hb2.out 2).trans rfl
  have f0 := blk_frozen hb1.out 0
  have f1 := blk_frozen hb1.out 1
  have f2 := blk_frozen hb1.out 2
  have g0 := blk_frozen hb2.out 0
  have g1 := blk_frozen hb2.out 1
  have g2 := blk_frozen hb2.out 2
  by_cases q1 : wrap64 (1 + (wrap64 (Int.tmod (IntKind.u64.wrap (a0)) 4))) = 1
  · have q2 : ¬ (wrap64 (1 + (wrap64 (Int.tmod (IntKind.u64.wrap (a0)) 4)))) = 2 := by omega
    rw [if_pos q1, if_neg q2] at H
    simp only [Option.some.injEq, Prod.mk.injEq] at H
    obtain ⟨rfl, rfl, rfl⟩ := H
    have t1b0 : ((wrap64 (1 + (wrap64 (Int.tmod (IntKind.u64.wrap (a0)) 4)))) == 1) = true := beq_iff_eq.mpr q1
    have t1b1 : ((wrap64 (1 + (wrap64 (Int.tmod (IntKind.u64.wrap (a0)) 4)))) != 1) = false := bne_eq_false_iff_eq.mpr q1
    have t2b0 : ((wrap64 (1 + (wrap64 (Int.tmod (IntKind.u64.wrap (a0)) 4)))) == 2) = false := beq_eq_false_iff_ne.mpr q2
    have t2b1 : ((wrap64 (1 + (wrap64 (Int.tmod (IntKind.u64.wrap (a0)) 4)))) != 2) = true := bne_iff_ne.mpr q2
    clear q1 q2
    go_upto_region 4 with (fail)
    refine wp_abs (fun W => W.heap[gb429]? = some (.cells #[.int .i64 (wrap64 (1 + (wrap64 (Int.tmod (IntKind.u64.wrap (a0)) 4)))), .int .i64 0, .int .i64 (wrap64 (1 + (wrap64 (Int.tmod (IntKind.u64.wrap (a2)) 31))))] 23 (0, 0)) ∧ W.heap[gb428]? = some (.cells #[.int .i64 0, .int .i64 0, .int .i64 0] 23 (0, 0)) ∧ Below w.heap.size w W) ⟨?_, ?_, ?_⟩ ?_
    · refine blk_put (cs := #[.int .i64 (wrap64 (1 + (wrap64 (Int.tmod (IntKind.u64.wrap (a0)) 4)))), .int .i64 (wrap64 (Int.tmod (IntKind.u64.wrap (a1)) 7)), .int .i64 (wrap64 (1 + (wrap64 (Int.tmod (IntKind.u64.wrap (a2)) 31))))]) ?_ 1 _ rfl
      exact hb1.out
    · refine blk_far ?_ NB428_429.out _
      exact hb2.out
    · refine below_set ?_ GE429.out
      exact hb3.out
    rintro W1 ⟨b1, b2, b3⟩
    clear c0 c1 c2 d0 d1 d2 f0 f1 f2 g0 g1 g2
    clear hb1 hb2 hb3
    have hb1 := Aside0.mk b1
    have hb2 := Aside0.mk b2
    have hb3 := Aside0.mk b3
    clear b1 b2 b3
    have c0 : W1.cell? ⟨gb429, 0, none⟩ = some (.int .i64 (wrap64 (1 + (wrap64 (Int.tmod (IntKind.u64.wrap (a0)) 4))))) := (blk_cell hb1.out 0).trans rfl
    have c1 : W1.cell? ⟨gb429, 1, none⟩ = some (.int .i64 0) := (blk_cell hb1.out 1).trans rfl
    have c2 : W1.cell? ⟨gb429, 2, none⟩ = some (.int .i64 (wrap64 (1 + (wrap64 (Int.tmod (IntKind.u64.wrap (a2)) 31))))) := (blk_cell hb1.out 2).trans rfl
    have d0 : W1.cell? ⟨gb428, 0, none⟩ = some (.int .i64 0) := (blk_cell hb2.out 0).trans rfl
    have d1 : W1.cell? ⟨gb428, 1, none⟩ = some (.int .i64 0) := (blk_cell hb2.out 1).trans rfl
    have d2 : W1.cell? ⟨gb428, 2, none⟩ = some (.int .i64 0) := (blk_cell hb2.out 2).trans rfl
    have f0 := blk_frozen hb1.out 0
    have f1 := blk_frozen hb1.out 1
    have f2 := blk_frozen hb1.out 2
    have g0 := blk_frozen hb2.out 0
    have g1 := blk_frozen hb2.out 1
    have g2 := blk_frozen hb2.out 2
    go_wp2
    refine bodyPost_ret (results_cell_row rfl _ _ gb428 23 #[.int .i64 (wrap64 (1 + (wrap64 (Int.tmod (IntKind.u64.wrap (a0)) 4)))), .int .i64 0, .int .i64 (wrap64 (1 + (wrap64 (Int.tmod (IntKind.u64.wrap (a2)) 31))))] (0, 0) _ rfl ?_ Try.underlying23 rfl (by kernel_rfl)) rfl ⟨rfl, ?_⟩
    · refine blk_put (cs := #[.int .i64 (wrap64 (1 + (wrap64 (Int.tmod (IntKind.u64.wrap (a0)) 4)))), .int .i64 0, .int .i64 0]) ?_ 2 _ rfl
      refine blk_put (cs := #[.int .i64 (wrap64 (1 + (wrap64 (Int.tmod (IntKind.u64.wrap (a0)) 4)))), .int .i64 0, .int .i64 0]) ?_ 1 _ rfl
      refine blk_put (cs := #[.int .i64 0, .int .i64 0, .int .i64 0]) ?_ 0 _ rfl
      exact hb2.out
    · refine below_set ?_ GE428.out
      refine below_set ?_ GE428.out
      refine below_set ?_ GE428.out
      exact hb3.out
  · rw [if_neg q1] at H
    have t1b0 : ((wrap64 (1 + (wrap64 (Int.tmod (IntKind.u64.wrap (a0)) 4)))) == 1) = false := beq_eq_false_iff_ne.mpr q1
    have t1b1 : ((wrap64 (1 + (wrap64 (Int.tmod (IntKind.u64.wrap (a0)) 4)))) != 1) = true := bne_iff_ne.mpr q1
    by_cases q2 : wrap64 (1 + (wrap64 (Int.tmod (IntKind.u64.wrap (a0)) 4))) = 2
    · rw [if_pos q2] at H
      simp only [Option.some.injEq, Prod.mk.injEq] at H
      obtain ⟨rfl, rfl, rfl⟩ := H
      have t2b0 : ((wrap64 (1 + (wrap64 (Int.tmod (IntKind.u64.wrap (a0)) 4)))) == 2) = true := beq_iff_eq.mpr q2
      have t2b1 : ((wrap64 (1 + (wrap64 (Int.tmod (IntKind.u64.wrap (a0)) 4)))) != 2) = false := bne_eq_false_iff_eq.mpr q2
      clear q1 q2
      go_upto_region 6 with (fail)
      refine wp_abs (fun W => W.heap[gb429]? = some (.cells #[.int .i64 (wrap64 (1 + (wrap64 (Int.tmod (IntKind.u64.wrap (a0)) 4)))), .int .i64 (wrap64 (Int.tmod (IntKind.u64.wrap (a1)) 7)), .int .i64 0] 23 (0, 0)) ∧ W.heap[gb428]? = some (.cells #[.int .i64 0, .int .i64 0, .int .i64 0] 23 (0, 0)) ∧ Below w.heap.size w W) ⟨?_, ?_, ?_⟩ ?_
      · refine blk_put (cs := #[.int .i64 (wrap64 (1 + (wrap64 (Int.tmod (IntKind.u64.wrap (a0)) 4)))), .int .i64 (wrap64 (Int.tmod (IntKind.u64.wrap (a1)) 7)), .int .i64 (wrap64 (1 + (wrap64 (Int.tmod (IntKind.u64.wrap (a2)) 31))))]) ?_ 2 _ rfl
        exact hb1.out
      · refine blk_far ?_ NB428_429.out _
        exact hb2.out
      · refine below_set ?_ GE429.out
        exact hb3.out
      rintro W1 ⟨b1, b2, b3⟩
      clear c0 c1 c2 d0 d1 d2 f0 f1 f2 g0 g1 g2
      clear hb1 hb2 hb3
      have hb1 := Aside0.mk b1
      have hb2 := Aside0.mk b2
      have hb3 := Aside0.mk b3
      clear b1 b2 b3
      have c0 : W1.cell? ⟨gb429, 0, none⟩ = some (.int .i64 (wrap64 (1 + (wrap64 (Int.tmod (IntKind.u64.wrap (a0)) 4))))) := (blk_cell hb1.out 0).trans rfl
      have c1 : W1.cell? ⟨gb429, 1, none⟩ = some (.int .i64 (wrap64 (Int.tmod (IntKind.u64.wrap (a1)) 7))) := (blk_cell hb1.out 1).trans rfl
      have c2 : W1.cell? ⟨gb429, 2, none⟩ = some (.int .i64 0) := (blk_cell hb1.out 2).trans rfl
      have d0 : W1.cell? ⟨gb428, 0, none⟩ = some (.int .i64 0) := (blk_cell hb2.out 0).trans rfl
      have d1 : W1.cell? ⟨gb428, 1, none⟩ = some (.int .i64 0) := (blk_cell hb2.out 1).trans rfl
      have d2 : W1.cell? ⟨gb428, 2, none⟩ = some (.int .i64 0) := (blk_cell hb2.out 2).trans rfl
      have f0 := blk_frozen hb1.out 0
      have f1 := blk_frozen hb1.out 1
      have f2 := blk_frozen hb1.out 2
      have g0 := blk_frozen hb2.out 0
      have g1 := blk_frozen hb2.out 1
      have g2 := blk_frozen hb2.out 2
      go_wp2
      refine bodyPost_ret (results_cell_row rfl _ _ gb428 23 #[.int .i64 (wrap64 (1 + (wrap64 (Int.tmod (IntKind.u64.wrap (a0)) 4)))), .int .i64 (wrap64 (Int.tmod (IntKind.u64.wrap (a1)) 7)), .int .i64 0] (0, 0) _ rfl ?_ Try.underlying23 rfl (by kernel_rfl)) rfl ⟨rfl, ?_⟩
      · refine blk_put (cs := #[.int .i64 (wrap64 (1 + (wrap64 (Int.tmod (IntKind.u64.wrap (a0)) 4)))), .int .i64 (wrap64 (Int.tmod (IntKind.u64.wrap (a1)) 7)), .int .i64 0]) ?_ 2 _ rfl
        refine blk_put (cs := #[.int .i64 (wrap64 (1 + (wrap64 (Int.tmod (IntKind.u64.wrap (a0)) 4)))), .int .i64 0, .int .i64 0]) ?_ 1 _ rfl
        refine blk_put (cs := #[.int .i64 0, .int .i64 0, .int .i64 0]) ?_ 0 _ rfl
        exact hb2.out
      · refine below_set ?_ GE428.out
        refine below_set ?_ GE428.out
        refine below_set ?_ GE428.out
        exact hb3.out
    · rw [if_neg q2] at H
      simp only [Option.some.injEq, Prod.mk.injEq] at H
      obtain ⟨rfl, rfl, rfl⟩ := H
      have t2b0 : ((wrap64 (1 + (wrap64 (Int.tmod (IntKind.u64.wrap (a0)) 4)))) == 2) = false := beq_eq_false_iff_ne.mpr q2
      have t2b1 : ((wrap64 (1 + (wrap64 (Int.tmod (IntKind.u64.wrap (a0)) 4)))) != 2) = true := bne_iff_ne.mpr q2
      clear q1 q2
      go_wp2
      refine bodyPost_ret (results_cell_row rfl _ _ gb428 23 #[.int .i64 (wrap64 (1 + (wrap64 (Int.tmod (IntKind.u64.wrap (a0)) 4)))), .int .i64 (wrap64 (Int.tmod (IntKind.u64.wrap (a1)) 7)), .int .i64 (wrap64 (1 + (wrap64 (Int.tmod (IntKind.u64.wrap (a2)) 31))))] (0, 0) _ rfl ?_ Try.underlying23 rfl (by kernel_rfl)) rfl ⟨rfl, ?_⟩
      · refine blk_put (cs := #[.int .i64 (wrap64 (1 + (wrap64 (Int.tmod (IntKind.u64.wrap (a0)) 4)))), .int .i64 (wrap64 (Int.tmod (IntKind.u64.wrap (a1)) 7)), .int .i64 0]) ?_ 2 _ rfl
        refine blk_put (cs := #[.int .i64 (wrap64 (1 + (wrap64 (Int.tmod (IntKind.u64.wrap (a0)) 4)))), .int .i64 0, .int .i64 0]) ?_ 1 _ rfl
        refine blk_put (cs := #[.int .i64 0, .int .i64 0, .int .i64 0]) ?_ 0 _ rfl
        exact hb2.out
      · refine below_set ?_ GE428.out
        refine below_set ?_ GE428.out
        refine below_set ?_ GE428.out
        exact hb3.out

end Go.Proofs.Ytfinhaghgmnegaa.O
