-- What some functions of the program compute: a text of this claim's own (lines first written by the kit's tool, some proved anew).
import Derived.Test.YtgmofklgfnfnmaaOx0
import Derived.Test.YtgmofklgfnfnmaaOx5
namespace Go.Proofs.Ytgmofklgfnfnmaa.O
open Go.RowKit Go.Proofs.YtgmofklgfnfnmaaW.PrintWords Go.Proofs.YtgmofklgfnfnmaaW.PrintLast Go.Proofs.YtgmofklgfnfnmaaW.PrintMore
attribute [local go_sem] max2_int min2_int max_two min_two max_three min_three max_four min_four   -- for this text's walks alone
set_option linter.unusedVariables false
set_option linter.unusedSimpArgs false

/-! ### solsticelaw02_Some: function 9 -/
def solsticelaw02_Some.f (k : Nat) (a0 : Int) (a1 : Int) (a2 : Int) : Option (Int × Int × Int) := (solsticeref01_Len.f k (wrap64 (Int.tmod (IntKind.u64.wrap (a0)) 10001)) (wrap64 (1 + (wrap64 (Int.tmod (IntKind.u64.wrap (a1)) 12))))).bind fun t111 => (if (IntKind.u64.wrap (t111)) = 0 then (none) else (some (wrap64 (Int.tmod (IntKind.u64.wrap (a0)) 10001), wrap64 (1 + (wrap64 (Int.tmod (IntKind.u64.wrap (a1)) 12))), wrap64 (1 + (wrap64 (Int.tmod (IntKind.u64.wrap (a2)) (IntKind.u64.wrap (t111))))))))
theorem solsticelaw02_Some.mono : ∀ a0 a1 a2 k, LeO (solsticelaw02_Some.f k a0 a1 a2) (solsticelaw02_Some.f (k + 1) a0 a1 a2) := by
  intro a0 a1 a2 k
  unfold solsticelaw02_Some.f
  repeat' first
      | (with_reducible exact solsticeref01_Len.mono _ _ _)
      | (with_reducible exact LeO.refl _)
      | (with_reducible exact LeO.none _)
      | (with_reducible refine LeO.ite ?_ ?_)
      | (with_reducible refine LeO.bind ?_ (fun _ => ?_))
      | exact solsticeref01_Len.mono _ _ _
      | exact LeO.none _
      | refine LeO.ite ?_ ?_
      | refine LeO.bind ?_ (fun _ => ?_)
theorem wp_abs {P : Program} {c : Code} {Q : Exit → Act → World → Prop} {a : Act} {w : World} (F : World → Prop) (h : F w) (k : ∀ W, F W → Code.wp P c Q a W) : Code.wp P c Q a w := k w h
set_option maxHeartbeats 8000000 in
set_option maxRecDepth 100000 in
theorem solsticelaw02_Some.calls (k : Nat) (a0 : Int) (a1 : Int) (a2 : Int) (r1 : Int) (r2 : Int) (r3 : Int) (w : World) (h : solsticelaw02_Some.f k a0 a1 a2 = some (r1, r2, r3)) :
    Calls Try.prog 9 #[.int .i64 a0, .int .i64 a1, .int .i64 a2] w fun e w' => e = .returned (.agg #[.int .i64 r1, .int .i64 r2, .int .i64 r3]) ∧ Below w.heap.size w w' := by
  have hu23 := Try.underlying23
  have HB := Aside0.mk (Below.refl w.heap.size w)
  have H : ((solsticeref01_Len.f k (wrap64 (Int.tmod (IntKind.u64.wrap (a0)) 10001)) (wrap64 (1 + (wrap64 (Int.tmod (IntKind.u64.wrap (a1)) 12))))).bind fun t111 => (if (IntKind.u64.wrap (t111)) = 0 then (none) else (some (wrap64 (Int.tmod (IntKind.u64.wrap (a0)) 10001), wrap64 (1 + (wrap64 (Int.tmod (IntKind.u64.wrap (a1)) 12))), wrap64 (1 + (wrap64 (Int.tmod (IntKind.u64.wrap (a2)) (IntKind.u64.wrap (t111))))))))) = some (r1, r2, r3) := h
  clear h
  replace H := Option.bind_eq_some_iff.mp H
  obtain ⟨t111, A40, H⟩ := H
  replace H : (if (IntKind.u64.wrap (t111)) = 0 then (none) else (some (wrap64 (Int.tmod (IntKind.u64.wrap (a0)) 10001), wrap64 (1 + (wrap64 (Int.tmod (IntKind.u64.wrap (a1)) 12))), wrap64 (1 + (wrap64 (Int.tmod (IntKind.u64.wrap (a2)) (IntKind.u64.wrap (t111)))))))) = some (r1, r2, r3) := H
  have A4 := Aside0.mk A40
  clear A40
  by_cases c5 : (IntKind.u64.wrap (t111)) = 0
  · rw [if_pos c5] at H
    exact absurd H (by simp)
  · rw [if_neg c5] at H
    have c5b0 : ((IntKind.u64.wrap (t111)) == 0) = false := beq_eq_false_iff_ne.mpr c5
    have c5b1 : ((IntKind.u64.wrap (t111)) != 0) = true := bne_iff_ne.mpr c5
    simp only [Option.some.injEq, Prod.mk.injEq] at H
    obtain ⟨rfl, rfl, rfl⟩ := H
    go_enter Try.func9, Try.ntmps9
    go_upto_region 3 with (first | ((with_reducible refine gate_dst (N := 6) rfl ?_); refine box_event ?hg (N := 6) ?hd (cs := #[.int .i64 0, .int .i64 0, .int .i64 0]) (t := 23) ?hr ?_; (case hd => rfl); (case hg => rfl); (case hr => first | (go_simp; done) | (go_simp; rfl)); intro gb109 hg w6 hbox hb; have n0_ := Aside0.mk (below_step (by repeat (first | (with_reducible first | exact HB.out | apply below_alloc | apply pw_below_drewN | apply below_drew1) | exact HB.out)) hb); have n1_ := Aside0.mk (hbox); have n2_ := Aside0.mk ((by rw [hg]; exact (below_size (by repeat (first | (with_reducible first | exact HB.out | apply below_alloc | apply pw_below_drewN | apply below_drew1) | exact HB.out))) : w.heap.size ≤ gb109)); have n3_ := Aside0.mk ((by rw [hg]; exact (below_size (by repeat (first | (with_reducible first | exact HB.out | apply below_alloc | apply pw_below_drewN | apply below_drew1) | exact HB.out))) : w.heap.size ≤ gb109)); clear HB; have HB := n0_; have BK109 := n1_; have GW109 := n2_; have GE109 := n3_; clear n0_ n1_ n2_ n3_; clear hb hbox hg) | ((with_reducible refine gate_dst (N := 7) rfl ?_); refine box_event ?hg (N := 7) ?hd (cs := #[.int .i64 0, .int .i64 0, .int .i64 0]) (t := 23) ?hr ?_; (case hd => rfl); (case hg => rfl); (case hr => first | (go_simp; done) | (go_simp; rfl)); intro gb110 hg w7 hbox hb; have n0_ := Aside0.mk (blk_below (g := gb109) (o := .cells #[.int .i64 0, .int .i64 0, .int .i64 0] 23 (0, 0)) (by (with_reducible repeat (first | refine blk_drewN ?_ _ | refine blk_drew ?_ | refine blk_alloc ?_ _)); exact BK109.out) hb); have n1_ := Aside0.mk (below_step (by repeat (first | (with_reducible first | exact HB.out | apply below_alloc | apply pw_below_drewN | apply below_drew1 | refine below_set ?_ GE109.out) | exact HB.out)) hb); have n2_ := Aside0.mk (hbox); have n3_ := Aside0.mk ((by rw [hg]; exact (below_size (by repeat (first | (with_reducible first | exact HB.out | apply below_alloc | apply pw_below_drewN | apply below_drew1 | refine below_set ?_ GE109.out) | exact HB.out))) : w.heap.size ≤ gb110)); have n4_ := Aside0.mk ((by rw [hg]; exact (below_size (by repeat (first | (with_reducible first | exact HB.out | apply below_alloc | apply pw_below_drewN | apply below_drew1 | refine below_set ?_ GE109.out) | exact HB.out))) : w.heap.size ≤ gb110)); have n5_ := Aside0.mk ((by rw [hg]; exact Nat.ne_of_lt (blk_lt (g := gb109) (o := .cells #[.int .i64 0, .int .i64 0, .int .i64 0] 23 (0, 0)) (by (with_reducible repeat (first | refine blk_drewN ?_ _ | refine blk_drew ?_ | refine blk_alloc ?_ _)); exact BK109.out)) : gb109 ≠ gb110)); have n6_ := Aside0.mk ((by rw [hg]; exact Nat.ne_of_gt (blk_lt (g := gb109) (o := .cells #[.int .i64 0, .int .i64 0, .int .i64 0] 23 (0, 0)) (by (with_reducible repeat (first | refine blk_drewN ?_ _ | refine blk_drew ?_ | refine blk_alloc ?_ _)); exact BK109.out)) : gb110 ≠ gb109)); clear BK109; clear HB; have BK109 := n0_; have HB := n1_; have BK110 := n2_; have GW110 := n3_; have GE110 := n4_; have NB109_110 := n5_; have NB110_109 := n6_; clear n0_ n1_ n2_ n3_ n4_ n5_ n6_; clear hb hbox hg; have hnb8 := NB110_109.out; have hnc8 := NB109_110.out; have hcz9_0 : w7.cell? ⟨gb110, 0, none⟩ = some (.int .i64 0) := (blk_cell BK110.out 0).trans rfl; have hcz9_1 : w7.cell? ⟨gb110, 1, none⟩ = some (.int .i64 0) := (blk_cell BK110.out 1).trans rfl; have hcz9_2 : w7.cell? ⟨gb110, 2, none⟩ = some (.int .i64 0) := (blk_cell BK110.out 2).trans rfl; have hfz9_0 := blk_frozen BK110.out 0; have hfz9_1 := blk_frozen BK110.out 1; have hfz9_2 := blk_frozen BK110.out 2) | ((with_reducible refine gate_callee (f := 18) rfl ?_); refine goesL_ (some 24) rfl rfl Try.func18 (by kernel_rfl) rfl #[.int .i64 (wrap64 (Int.tmod (IntKind.u64.wrap (a0)) 10001)), .int .i64 (wrap64 (1 + (wrap64 (Int.tmod (IntKind.u64.wrap (a1)) 12))))] rfl (by (try simp only [List.map_toArray, List.map_cons, List.map_nil]); first | done | rfl | (simp only [List.length_drop, List.length_take]; rfl)) ?_; (with_reducible refine (solsticeref01_Len.calls k (wrap64 (Int.tmod (IntKind.u64.wrap (a0)) 10001)) (wrap64 (1 + (wrap64 (Int.tmod (IntKind.u64.wrap (a1)) 12)))) t111 _ A4.out).mono ?_); rintro e w' ⟨rfl, ⟨nd, rfl⟩⟩; refine ⟨_, rfl, ?_⟩; have hcz10_0 : w7.cell? ⟨gb109, 0, none⟩ = some (.int .i64 0) := (blk_cell BK109.out 0).trans rfl; have hcz10_1 : w7.cell? ⟨gb109, 1, none⟩ = some (.int .i64 0) := (blk_cell BK109.out 1).trans rfl; have hcz10_2 : w7.cell? ⟨gb109, 2, none⟩ = some (.int .i64 0) := (blk_cell BK109.out 2).trans rfl; have hfz10_0 := blk_frozen BK109.out 0; have hfz10_1 := blk_frozen BK109.out 1; have hfz10_2 := blk_frozen BK109.out 2))
    refine wp_abs (fun W => W.heap[gb110]? = some (.cells #[.int .i64 (wrap64 (Int.tmod (IntKind.u64.wrap (a0)) 10001)), .int .i64 (wrap64 (1 + (wrap64 (Int.tmod (IntKind.u64.wrap (a1)) 12)))), .int .i64 (wrap64 (1 + (wrap64 (Int.tmod (IntKind.u64.wrap (a2)) (IntKind.u64.wrap (t111))))))] 23 (0, 0)) ∧ W.heap[gb109]? = some (.cells #[.int .i64 0, .int .i64 0, .int .i64 0] 23 (0, 0)) ∧ Below w.heap.size w W) ⟨?_, ?_, ?_⟩ ?_
    · refine blk_put (cs := #[.int .i64 (wrap64 (Int.tmod (IntKind.u64.wrap (a0)) 10001)), .int .i64 (wrap64 (1 + (wrap64 (Int.tmod (IntKind.u64.wrap (a1)) 12)))), .int .i64 0]) ?_ 2 _ rfl
      refine blk_drewN ?_ _
      refine blk_put (cs := #[.int .i64 (wrap64 (Int.tmod (IntKind.u64.wrap (a0)) 10001)), .int .i64 (wrap64 (1 + (wrap64 (Int.tmod (IntKind.u64.wrap (a1)) 12)))), .int .i64 0]) ?_ 2 _ rfl
      refine blk_put (cs := #[.int .i64 (wrap64 (Int.tmod (IntKind.u64.wrap (a0)) 10001)), .int .i64 0, .int .i64 0]) ?_ 1 _ rfl
      refine blk_put (cs := #[.int .i64 0, .int .i64 0, .int .i64 0]) ?_ 0 _ rfl
      exact BK110.out
    · refine blk_far ?_ NB109_110.out _
      refine blk_drewN ?_ _
      refine blk_far ?_ NB109_110.out _
      refine blk_far ?_ NB109_110.out _
      refine blk_far ?_ NB109_110.out _
      exact BK109.out
    · refine below_set ?_ GE110.out
      refine pw_below_drewN ?_ _
      refine below_set ?_ GE110.out
      refine below_set ?_ GE110.out
      refine below_set ?_ GE110.out
      exact HB.out
    rintro W ⟨b1, b2, b3⟩
    clear hcz9_0 hcz9_1 hcz9_2 hfz9_0 hfz9_1 hfz9_2 hcz10_0 hcz10_1 hcz10_2 hfz10_0 hfz10_1 hfz10_2 hnb8 hnc8
    have hb1 := Aside0.mk b1
    have hb2 := Aside0.mk b2
    have hb3 := Aside0.mk b3
    have hn := NB109_110.out
    have hn' := NB110_109.out
    clear b1 b2 b3
    have c0 : W.cell? ⟨gb110, 0, none⟩ = some (.int .i64 (wrap64 (Int.tmod (IntKind.u64.wrap (a0)) 10001))) := (blk_cell hb1.out 0).trans rfl
    have c1 : W.cell? ⟨gb110, 1, none⟩ = some (.int .i64 (wrap64 (1 + (wrap64 (Int.tmod (IntKind.u64.wrap (a1)) 12))))) := (blk_cell hb1.out 1).trans rfl
    have c2 : W.cell? ⟨gb110, 2, none⟩ = some (.int .i64 (wrap64 (1 + (wrap64 (Int.tmod (IntKind.u64.wrap (a2)) (IntKind.u64.wrap (t111))))))) := (blk_cell hb1.out 2).trans rfl
    have d0 : W.cell? ⟨gb109, 0, none⟩ = some (.int .i64 0) := (blk_cell hb2.out 0).trans rfl
    have d1 : W.cell? ⟨gb109, 1, none⟩ = some (.int .i64 0) := (blk_cell hb2.out 1).trans rfl
    have d2 : W.cell? ⟨gb109, 2, none⟩ = some (.int .i64 0) := (blk_cell hb2.out 2).trans rfl
    have f0 := blk_frozen hb2.out 0
    have f1 := blk_frozen hb2.out 1
    have f2 := blk_frozen hb2.out 2
    go_wp2
    refine bodyPost_ret (results_cell_row rfl _ _ gb109 23 #[.int .i64 (wrap64 (Int.tmod (IntKind.u64.wrap (a0)) 10001)), .int .i64 (wrap64 (1 + (wrap64 (Int.tmod (IntKind.u64.wrap (a1)) 12)))), .int .i64 (wrap64 (1 + (wrap64 (Int.tmod (IntKind.u64.wrap (a2)) (IntKind.u64.wrap (t111))))))] (0, 0) _ rfl ?_ Try.underlying23 rfl (by kernel_rfl)) rfl ⟨rfl, ?_⟩
    · refine blk_put (cs := #[.int .i64 (wrap64 (Int.tmod (IntKind.u64.wrap (a0)) 10001)), .int .i64 (wrap64 (1 + (wrap64 (Int.tmod (IntKind.u64.wrap (a1)) 12)))), .int .i64 0]) ?_ 2 _ rfl
      refine blk_put (cs := #[.int .i64 (wrap64 (Int.tmod (IntKind.u64.wrap (a0)) 10001)), .int .i64 0, .int .i64 0]) ?_ 1 _ rfl
      refine blk_put (cs := #[.int .i64 0, .int .i64 0, .int .i64 0]) ?_ 0 _ rfl
      exact hb2.out
    · refine below_set ?_ GE109.out
      refine below_set ?_ GE109.out
      refine below_set ?_ GE109.out
      exact hb3.out
end Go.Proofs.Ytgmofklgfnfnmaa.O
