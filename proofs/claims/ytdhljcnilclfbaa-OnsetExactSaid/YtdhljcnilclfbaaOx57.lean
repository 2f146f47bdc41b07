-- What some functions of the program compute: a text of this claim's own (lines first written by the kit's tool, some proved anew).
import Derived.Test.YtdhljcnilclfbaaOx0
import Derived.Test.YtdhljcnilclfbaaOx23
import Derived.Test.YtdhljcnilclfbaaOx56
namespace Go.Proofs.Ytdhljcnilclfbaa.O
open Go.RowKit Go.Proofs.YtdhljcnilclfbaaW.PrintWords Go.Proofs.YtdhljcnilclfbaaW.PrintLast Go.Proofs.YtdhljcnilclfbaaW.PrintMore
attribute [local go_sem] max2_int min2_int max_two min_two max_three min_three max_four min_four   -- for this text's walks alone
set_option linter.unusedVariables false
set_option linter.unusedSimpArgs false

/-! ### onset_Letter: function 9 -/
mutual
def onset_Letter.l0 : Nat → ByteArray → ByteArray → Bool → List (S43) → Int → Int → Int → Int → Int → Option (ByteArray × Int)
  | 0, _, _, _, _, _, _, _, _, _ => none
  | k + 1, x1, x8, x9, x19, x20, x21, x204000, x204001, x204002 => if x21 < x20 then (if 0 ≤ x21 then (if x21 < (x19.length : Int) then (if ((rd_T43 x19 x21).f0).toList = x1.toList then (onset_Letter.j1 k x1 x8 x9 x21 x19 x20 x21 (((rd_T43 x19 x21).f6) != 0) x204000 x204001 x204002 ((rd_T43 x19 x21).f0) ((rd_T43 x19 x21).f1) ((rd_T43 x19 x21).f2) ((rd_T43 x19 x21).f3) ((rd_T43 x19 x21).f4.f0) ((rd_T43 x19 x21).f4.f1) ((rd_T43 x19 x21).f4.f2) ((rd_T43 x19 x21).f5.f0) ((rd_T43 x19 x21).f5.f1) ((rd_T43 x19 x21).f6) ((rd_T43 x19 x21).f7)) else (onset_Letter.j1 k x1 x8 x9 x21 x19 x20 x21 true x204000 x204001 x204002 ((rd_T43 x19 x21).f0) ((rd_T43 x19 x21).f1) ((rd_T43 x19 x21).f2) ((rd_T43 x19 x21).f3) ((rd_T43 x19 x21).f4.f0) ((rd_T43 x19 x21).f4.f1) ((rd_T43 x19 x21).f4.f2) ((rd_T43 x19 x21).f5.f0) ((rd_T43 x19 x21).f5.f1) ((rd_T43 x19 x21).f6) ((rd_T43 x19 x21).f7))) else (none)) else (none)) else (some (x8, 0))
def onset_Letter.j1 : Nat → ByteArray → ByteArray → Bool → Int → List (S43) → Int → Int → Bool → Int → Int → Int → ByteArray → Int → Int → Int → Int → Int → Int → Int → Int → Int → ByteArray → Option (ByteArray × Int)
  | 0, _, _, _, _, _, _, _, _, _, _, _, _, _, _, _, _, _, _, _, _, _, _ => none
  | k + 1, x1, x8, x9, x10, x19, x20, x21, x34, x204000, x204001, x204002, x206000, x206001, x206002, x206003, x206004, x206005, x206006, x206007, x206008, x206009, x206010 => if x34 = true then (onset_Letter.l0 k x1 x8 x9 x19 x20 (wrap64 (x21 + 1)) x204000 x204001 x204002) else ((onset_first.f k x206000 x206001 x206002 x206003 x206004 x206005 x206006 x206007 x206008 x206009 x206010 x10).bind fun bt206 => (if bt206.2.2.2 = true then (if x9 = true then (if bt206.2.2.1 < x204002 then (onset_Letter.l0 k x1 x206010 true x19 x20 (wrap64 (x21 + 1)) bt206.1 bt206.2.1 bt206.2.2.1) else (onset_Letter.l0 k x1 x8 x9 x19 x20 (wrap64 (x21 + 1)) x204000 x204001 x204002)) else (onset_Letter.l0 k x1 x206010 true x19 x20 (wrap64 (x21 + 1)) bt206.1 bt206.2.1 bt206.2.2.1)) else (onset_Letter.l0 k x1 x8 x9 x19 x20 (wrap64 (x21 + 1)) x204000 x204001 x204002)))
end
def onset_Letter.f (k : Nat) (l0 : List (S43)) (a1 : ByteArray) : Option (ByteArray × Int) := (onset_check.f k l0 9999).bind fun t202 => (if t202 = 0 then (onset_Letter.l0 k a1 (⟨#[]⟩ : ByteArray) false l0 (l0.length : Int) 0 0 0 0) else (some ((⟨#[]⟩ : ByteArray), t202)))
theorem onset_Letter.mono_l : ∀ k, (∀ y0 y1 y2 y3 y4 y5 y6 y7 y8, LeO (onset_Letter.l0 k y0 y1 y2 y3 y4 y5 y6 y7 y8) (onset_Letter.l0 (k + 1) y0 y1 y2 y3 y4 y5 y6 y7 y8)) ∧ (∀ y0 y1 y2 y3 y4 y5 y6 y7 y8 y9 y10 y11 y12 y13 y14 y15 y16 y17 y18 y19 y20 y21, LeO (onset_Letter.j1 k y0 y1 y2 y3 y4 y5 y6 y7 y8 y9 y10 y11 y12 y13 y14 y15 y16 y17 y18 y19 y20 y21) (onset_Letter.j1 (k + 1) y0 y1 y2 y3 y4 y5 y6 y7 y8 y9 y10 y11 y12 y13 y14 y15 y16 y17 y18 y19 y20 y21))
  | 0 => ⟨fun _ _ _ _ _ _ _ _ _ r h => by simp [onset_Letter.l0] at h, fun _ _ _ _ _ _ _ _ _ _ _ _ _ _ _ _ _ _ _ _ _ _ r h => by simp [onset_Letter.j1] at h⟩
  | k + 1 => by
    obtain ⟨ih0, ih1⟩ := onset_Letter.mono_l k
    refine ⟨?_, ?_⟩
    · intro y0 y1 y2 y3 y4 y5 y6 y7 y8
      unfold onset_Letter.l0
      repeat' first
      | (with_reducible exact ih0 _ _ _ _ _ _ _ _ _)
      | (with_reducible exact ih1 _ _ _ _ _ _ _ _ _ _ _ _ _ _ _ _ _ _ _ _ _ _)
      | (with_reducible exact onset_check.mono _ _ _)
      | (with_reducible exact onset_first.mono _ _ _ _ _ _ _ _ _ _ _ _ _)
      | (with_reducible exact LeO.refl _)
      | (with_reducible exact LeO.none _)
      | (with_reducible refine LeO.ite ?_ ?_)
      | (with_reducible refine LeO.bind ?_ (fun _ => ?_))
      | exact ih0 _ _ _ _ _ _ _ _ _
      | exact ih1 _ _ _ _ _ _ _ _ _ _ _ _ _ _ _ _ _ _ _ _ _ _
      | exact onset_check.mono _ _ _
      | exact onset_first.mono _ _ _ _ _ _ _ _ _ _ _ _ _
      | exact LeO.none _
      | refine LeO.ite ?_ ?_
      | refine LeO.bind ?_ (fun _ => ?_)
    · intro y0 y1 y2 y3 y4 y5 y6 y7 y8 y9 y10 y11 y12 y13 y14 y15 y16 y17 y18 y19 y20 y21
      unfold onset_Letter.j1
      repeat' first
      | (with_reducible exact ih0 _ _ _ _ _ _ _ _ _)
      | (with_reducible exact ih1 _ _ _ _ _ _ _ _ _ _ _ _ _ _ _ _ _ _ _ _ _ _)
      | (with_reducible exact onset_check.mono _ _ _)
      | (with_reducible exact onset_first.mono _ _ _ _ _ _ _ _ _ _ _ _ _)
      | (with_reducible exact LeO.refl _)
      | (with_reducible exact LeO.none _)
      | (with_reducible refine LeO.ite ?_ ?_)
      | (with_reducible refine LeO.bind ?_ (fun _ => ?_))
      | exact ih0 _ _ _ _ _ _ _ _ _
      | exact ih1 _ _ _ _ _ _ _ _ _ _ _ _ _ _ _ _ _ _ _ _ _ _
      | exact onset_check.mono _ _ _
      | exact onset_first.mono _ _ _ _ _ _ _ _ _ _ _ _ _
      | exact LeO.none _
      | refine LeO.ite ?_ ?_
      | refine LeO.bind ?_ (fun _ => ?_)
theorem onset_Letter.mono : ∀ a0 a1 k, LeO (onset_Letter.f k a0 a1) (onset_Letter.f (k + 1) a0 a1) := by
  intro a0 a1 k
  obtain ⟨ih0, ih1⟩ := onset_Letter.mono_l k
  unfold onset_Letter.f
  repeat' first
      | (with_reducible exact ih0 _ _ _ _ _ _ _ _ _)
      | (with_reducible exact ih1 _ _ _ _ _ _ _ _ _ _ _ _ _ _ _ _ _ _ _ _ _ _)
      | (with_reducible exact onset_check.mono _ _ _)
      | (with_reducible exact onset_first.mono _ _ _ _ _ _ _ _ _ _ _ _ _)
      | (with_reducible exact LeO.refl _)
      | (with_reducible exact LeO.none _)
      | (with_reducible refine LeO.ite ?_ ?_)
      | (with_reducible refine LeO.bind ?_ (fun _ => ?_))
      | exact ih0 _ _ _ _ _ _ _ _ _
      | exact ih1 _ _ _ _ _ _ _ _ _ _ _ _ _ _ _ _ _ _ _ _ _ _
      | exact onset_check.mono _ _ _
      | exact onset_first.mono _ _ _ _ _ _ _ _ _ _ _ _ _
      | exact LeO.none _
      | refine LeO.ite ?_ ?_
      | refine LeO.bind ?_ (fun _ => ?_)
set_option maxHeartbeats 8000000 in
set_option maxRecDepth 100000 in
theorem onset_Letter.calls (k : Nat) (A0 : Option Addr) (c0 : Nat) (l0 : List (S43)) (a1 : ByteArray) (r1 : ByteArray) (r2 : Int) (w : World) (hr0 : Kd.C k43 w A0 l0.length l0) (hc0 : l0.length ≤ c0) (h : onset_Letter.f k l0 a1 = some (r1, r2)) :
    Calls Try.prog 9 #[.slice A0 l0.length c0, .string a1] w fun e w' => e = .returned (.tuple #[.string r1, .int .i64 r2]) ∧ Below w.heap.size w w' := by
  have hu37 := Try.underlying37
  have hu43 := Try.underlying43
  have HR0 := Aside0.mk hr0
  have HC0 := Aside0.mk hc0
  clear hr0 hc0
  have HB := Aside0.mk (Below.refl w.heap.size w)
  have H : ((onset_check.f k l0 9999).bind fun t202 => (if t202 = 0 then (onset_Letter.l0 k a1 (⟨#[]⟩ : ByteArray) false l0 (l0.length : Int) 0 0 0 0) else (some ((⟨#[]⟩ : ByteArray), t202)))) = some (r1, r2) := h
  clear h
  replace H := Option.bind_eq_some_iff.mp H
  obtain ⟨t202, A30, H⟩ := H
  replace H : (if t202 = 0 then (onset_Letter.l0 k a1 (⟨#[]⟩ : ByteArray) false l0 (l0.length : Int) 0 0 0 0) else (some ((⟨#[]⟩ : ByteArray), t202))) = some (r1, r2) := H
  have A3 := Aside0.mk A30
  clear A30
  by_cases c4 : t202 = 0
  · rw [if_pos c4] at H
    have c4b0 : (t202 == 0) = true := beq_iff_eq.mpr c4
    have c4b1 : (t202 != 0) = false := bne_eq_false_iff_eq.mpr c4
    clear c4
    have H' := Aside0.mk H
    clear H
    go_enter Try.func9, Try.ntmps9
    go_wp2_with (first | ((with_reducible refine gate_callee (f := 19) rfl ?_); refine goesL_ (some 15) rfl rfl Try.func19 (by kernel_rfl) rfl #[.slice A0 l0.length c0, .int .i64 9999] rfl (by (try simp only [List.map_toArray, List.map_cons, List.map_nil]); first | done | rfl | (simp only [List.length_drop, List.length_take]; rfl)) ?_; (with_reducible refine (onset_check.calls k _ _ l0 9999 t202 _ ?side1 ?side2 A3.out).mono ?_); (case side1 => repeat (first | exact HR0.out | (with_reducible refine Kd.C_alloc ?_ _) | (with_reducible refine Kd.C_drewN ?_ _) | (with_reducible refine Kd.C_drew ?_))); (case side2 => exact HC0.out); rintro e w5 ⟨rfl, hb⟩; refine ⟨_, rfl, ?_⟩; have n0_ := Aside0.mk (below_step (by repeat (first | (with_reducible first | exact HB.out | apply below_alloc | apply pw_below_drewN | apply below_drew1) | exact HB.out)) hb); clear HB; have HB := n0_; clear n0_; (try clear hb); (try clear hb2); (try clear hk); (try clear hi)) | ((with_reducible refine gate_dst (N := 7) rfl ?_); refine box_event ?hg (N := 7) ?hd (cs := #[.int .i64 0, .int .i64 0, .int .i64 0]) (t := 37) ?hr ?_; (case hd => rfl); (case hg => rfl); (case hr => first | (go_simp; done) | (go_simp; rfl)); intro gb203 hg w6 hbox hb; have n0_ := Aside0.mk (below_step (by repeat (first | (with_reducible first | exact HB.out | apply below_alloc | apply pw_below_drewN | apply below_drew1) | exact HB.out)) hb); have n1_ := Aside0.mk (hbox); have n2_ := Aside0.mk ((by rw [hg]; exact (below_size (by repeat (first | (with_reducible first | exact HB.out | apply below_alloc | apply pw_below_drewN | apply below_drew1) | exact HB.out))) : w.heap.size ≤ gb203)); have n3_ := Aside0.mk ((by rw [hg]; exact (below_size (by repeat (first | (with_reducible first | exact HB.out | apply below_alloc | apply pw_below_drewN | apply below_drew1) | exact HB.out))) : w.heap.size ≤ gb203)); clear HB; have HB := n0_; have BK203 := n1_; have GW203 := n2_; have GE203 := n3_; clear n0_ n1_ n2_ n3_; clear hb hbox hg))
    go_loopg [8, 9, 21] k (fun kq v8 v9 v21 w' => ∃ (x8_1 : ByteArray) (x9_1 : Bool) (x21_1 : Int) (x204000_1 : Int) (x204001_1 : Int) (x204002_1 : Int), v8 = .string x8_1 ∧ v9 = .bool x9_1 ∧ v21 = .int .i64 x21_1 ∧ Aside0 (onset_Letter.l0 kq a1 x8_1 x9_1 l0 (l0.length : Int) x21_1 x204000_1 x204001_1 x204002_1 = some (r1, r2)) ∧ Aside0 (kq ≤ k) ∧ Aside0 (w'.heap[gb203]? = some (.cells #[.int .i64 x204000_1, .int .i64 x204001_1, .int .i64 x204002_1] 37 (0, 0))) ∧ Aside0 (Below w.heap.size w w'))
    case atStart => exact ⟨((⟨#[]⟩ : ByteArray)), (false), (0), (0), (0), (0), (by first | rfl | (simp; done) | (simp [*]; done)), (by first | rfl | (simp; done) | (simp [*]; done)), (by first | rfl | (simp; done) | (simp [*]; done)), H', ⟨Nat.le_refl _⟩, ⟨by (with_reducible repeat (first | refine blk_drewN ?_ _ | refine blk_drew ?_ | refine blk_alloc ?_ _)); exact BK203.out⟩, ⟨by repeat (first | (with_reducible first | exact HB.out | apply below_alloc | apply pw_below_drewN | apply below_drew1 | refine below_set ?_ GE203.out) | exact HB.out)⟩⟩
    case round =>
      clear H'
      try clear c1
      try clear p2
      try clear c4
      try clear c4b0
      try clear c4b1
      obtain ⟨x8_1, x9_1, x21_1, x204000_1, x204001_1, x204002_1, rfl, rfl, rfl, HA, HK1, BK203, HB⟩ := hrel
      cases gk with
      | zero => exact absurd HA.out (by simp [onset_Letter.l0])
      | succ k1 =>
        have H := HA.out
        clear HA
        simp only [onset_Letter.l0] at H
        by_cases c7 : x21_1 < (l0.length : Int)
        · rw [if_pos c7] at H
          have c7b0 : decide (x21_1 < (l0.length : Int)) = true := decide_eq_true c7
          clear c7
          by_cases c8 : 0 ≤ x21_1
          · rw [if_pos c8] at H
            have c8b0 : decide (0 ≤ x21_1) = true := decide_eq_true c8
            clear c8
            by_cases c9 : x21_1 < (l0.length : Int)
            · rw [if_pos c9] at H
              have c9b0 : decide (x21_1 < (l0.length : Int)) = true := decide_eq_true c9
              clear c9
              have HC10 := Aside0.mk H
              clear H
              have p204 : 0 ≤ (x21_1 : Int) := of_decide_eq_true (by first | (with_reducible assumption) | assumption)
              have q204 : x21_1 < (l0.length : Int) := of_decide_eq_true (by first | (with_reducible assumption) | assumption)
              obtain ⟨ad204, e204, hx204_0, hx204_1, hx204_2, hx204_3, hx204_4, hx204_5, hx204_6, hx204_7, hx204_8, hx204_9, hx204_10⟩ := at_T43 HR0.out x21_1 p204 q204
              cases e204
              replace hx204_0 := (HB.out.cell (World.block_lt_of_cell? w _ hx204_0)).trans hx204_0
              replace hx204_1 := (HB.out.cell (World.block_lt_of_cell? w _ hx204_1)).trans hx204_1
              replace hx204_2 := (HB.out.cell (World.block_lt_of_cell? w _ hx204_2)).trans hx204_2
              replace hx204_3 := (HB.out.cell (World.block_lt_of_cell? w _ hx204_3)).trans hx204_3
              replace hx204_4 := (HB.out.cell (World.block_lt_of_cell? w _ hx204_4)).trans hx204_4
              replace hx204_5 := (HB.out.cell (World.block_lt_of_cell? w _ hx204_5)).trans hx204_5
              replace hx204_6 := (HB.out.cell (World.block_lt_of_cell? w _ hx204_6)).trans hx204_6
              replace hx204_7 := (HB.out.cell (World.block_lt_of_cell? w _ hx204_7)).trans hx204_7
              replace hx204_8 := (HB.out.cell (World.block_lt_of_cell? w _ hx204_8)).trans hx204_8
              replace hx204_9 := (HB.out.cell (World.block_lt_of_cell? w _ hx204_9)).trans hx204_9
              replace hx204_10 := (HB.out.cell (World.block_lt_of_cell? w _ hx204_10)).trans hx204_10
              replace p204 := eq_true p204
              replace q204 := eq_true q204
              go_upto_region 9 with (first | ((with_reducible refine gate_dst (N := 11) rfl ?_); refine box_event ?hg (N := 11) ?hd (cs := #[.string (⟨#[]⟩ : ByteArray), .int .i64 0, .int .i64 0, .int .i64 0, .int .i64 0, .int .i64 0, .int .i64 0, .int .i64 0, .int .i64 0, .int .i64 0, .string (⟨#[]⟩ : ByteArray)]) (t := 43) ?hr ?_; (case hd => rfl); (case hg => rfl); (case hr => first | (go_simp; done) | (go_simp; rfl)); intro gb205 hg w11 hbox hb; have n0_ := Aside0.mk (blk_below (g := gb203) (o := .cells #[.int .i64 x204000_1, .int .i64 x204001_1, .int .i64 x204002_1] 37 (0, 0)) (by (with_reducible repeat (first | refine blk_drewN ?_ _ | refine blk_drew ?_ | refine blk_alloc ?_ _)); exact BK203.out) hb); have n1_ := Aside0.mk (below_step (by repeat (first | (with_reducible first | exact HB.out | apply below_alloc | apply pw_below_drewN | apply below_drew1 | refine below_set ?_ GE203.out) | exact HB.out)) hb); have n2_ := Aside0.mk (hbox); have n3_ := Aside0.mk ((by rw [hg]; exact (below_size (by repeat (first | (with_reducible first | exact HB.out | apply below_alloc | apply pw_below_drewN | apply below_drew1 | refine below_set ?_ GE203.out) | exact HB.out))) : w.heap.size ≤ gb205)); have n4_ := Aside0.mk ((by rw [hg]; exact (below_size (by repeat (first | (with_reducible first | exact HB.out | apply below_alloc | apply pw_below_drewN | apply below_drew1 | refine below_set ?_ GE203.out) | exact HB.out))) : w.heap.size ≤ gb205)); have n5_ := Aside0.mk ((by rw [hg]; exact Nat.ne_of_lt (blk_lt (g := gb203) (o := .cells #[.int .i64 x204000_1, .int .i64 x204001_1, .int .i64 x204002_1] 37 (0, 0)) (by (with_reducible repeat (first | refine blk_drewN ?_ _ | refine blk_drew ?_ | refine blk_alloc ?_ _)); exact BK203.out)) : gb203 ≠ gb205)); have n6_ := Aside0.mk ((by rw [hg]; exact Nat.ne_of_gt (blk_lt (g := gb203) (o := .cells #[.int .i64 x204000_1, .int .i64 x204001_1, .int .i64 x204002_1] 37 (0, 0)) (by (with_reducible repeat (first | refine blk_drewN ?_ _ | refine blk_drew ?_ | refine blk_alloc ?_ _)); exact BK203.out)) : gb205 ≠ gb203)); clear BK203; clear HB; have BK203 := n0_; have HB := n1_; have BK205 := n2_; have GW205 := n3_; have GE205 := n4_; have NB203_205 := n5_; have NB205_203 := n6_; clear n0_ n1_ n2_ n3_ n4_ n5_ n6_; clear hb hbox hg; have hnb12 := NB205_203.out; have hnc12 := NB203_205.out; have hcz13_0 : w11.cell? ⟨gb205, 0, none⟩ = some (.string (⟨#[]⟩ : ByteArray)) := (blk_cell BK205.out 0).trans rfl; have hcz13_1 : w11.cell? ⟨gb205, 1, none⟩ = some (.int .i64 0) := (blk_cell BK205.out 1).trans rfl; have hcz13_2 : w11.cell? ⟨gb205, 2, none⟩ = some (.int .i64 0) := (blk_cell BK205.out 2).trans rfl; have hcz13_3 : w11.cell? ⟨gb205, 3, none⟩ = some (.int .i64 0) := (blk_cell BK205.out 3).trans rfl; have hcz13_4 : w11.cell? ⟨gb205, 4, none⟩ = some (.int .i64 0) := (blk_cell BK205.out 4).trans rfl; have hcz13_5 : w11.cell? ⟨gb205, 5, none⟩ = some (.int .i64 0) := (blk_cell BK205.out 5).trans rfl; have hcz13_6 : w11.cell? ⟨gb205, 6, none⟩ = some (.int .i64 0) := (blk_cell BK205.out 6).trans rfl; have hcz13_7 : w11.cell? ⟨gb205, 7, none⟩ = some (.int .i64 0) := (blk_cell BK205.out 7).trans rfl; have hcz13_8 : w11.cell? ⟨gb205, 8, none⟩ = some (.int .i64 0) := (blk_cell BK205.out 8).trans rfl; have hcz13_9 : w11.cell? ⟨gb205, 9, none⟩ = some (.int .i64 0) := (blk_cell BK205.out 9).trans rfl; have hcz13_10 : w11.cell? ⟨gb205, 10, none⟩ = some (.string (⟨#[]⟩ : ByteArray)) := (blk_cell BK205.out 10).trans rfl; have hfz13_0 := blk_frozen BK205.out 0; have hfz13_1 := blk_frozen BK205.out 1; have hfz13_2 := blk_frozen BK205.out 2; have hfz13_3 := blk_frozen BK205.out 3; have hfz13_4 := blk_frozen BK205.out 4; have hfz13_5 := blk_frozen BK205.out 5; have hfz13_6 := blk_frozen BK205.out 6; have hfz13_7 := blk_frozen BK205.out 7; have hfz13_8 := blk_frozen BK205.out 8; have hfz13_9 := blk_frozen BK205.out 9; have hfz13_10 := blk_frozen BK205.out 10))
              (try simp only [Act.put, List.setIfInBounds_toArray, List.set_cons_zero, List.set_cons_succ])
              go_cut [34] (fun v34 wc => ∃ (kq : Nat) (x34_9 : Bool), v34 = .bool x34_9 ∧ Aside0 (onset_Letter.j1 kq a1 x8_1 x9_1 x21_1 l0 (l0.length : Int) x21_1 x34_9 x204000_1 x204001_1 x204002_1 ((rd_T43 l0 x21_1).f0) ((rd_T43 l0 x21_1).f1) ((rd_T43 l0 x21_1).f2) ((rd_T43 l0 x21_1).f3) ((rd_T43 l0 x21_1).f4.f0) ((rd_T43 l0 x21_1).f4.f1) ((rd_T43 l0 x21_1).f4.f2) ((rd_T43 l0 x21_1).f5.f0) ((rd_T43 l0 x21_1).f5.f1) ((rd_T43 l0 x21_1).f6) ((rd_T43 l0 x21_1).f7) = some (r1, r2)) ∧ Aside0 (kq ≤ k1) ∧ Aside0 (wc.heap[gb203]? = some (.cells #[.int .i64 x204000_1, .int .i64 x204001_1, .int .i64 x204002_1] 37 (0, 0))) ∧ Aside0 (wc.heap[gb205]? = some (.cells #[.string ((rd_T43 l0 x21_1).f0), .int .i64 ((rd_T43 l0 x21_1).f1), .int .i64 ((rd_T43 l0 x21_1).f2), .int .i64 ((rd_T43 l0 x21_1).f3), .int .i64 ((rd_T43 l0 x21_1).f4.f0), .int .i64 ((rd_T43 l0 x21_1).f4.f1), .int .i64 ((rd_T43 l0 x21_1).f4.f2), .int .i64 ((rd_T43 l0 x21_1).f5.f0), .int .i64 ((rd_T43 l0 x21_1).f5.f1), .int .i64 ((rd_T43 l0 x21_1).f6), .string ((rd_T43 l0 x21_1).f7)] 43 (0, 0))) ∧ Aside0 (Below w.heap.size w wc))
              case first =>
                have H := HC10.out
                clear HC10
                by_cases c14 : ((rd_T43 l0 x21_1).f0).toList = a1.toList
                · rw [if_pos c14] at H
                  have c14b0 : (((rd_T43 l0 x21_1).f0).toList == a1.toList) = true := beq_iff_eq.mpr c14
                  have c14b1 : (((rd_T43 l0 x21_1).f0).toList != a1.toList) = false := bne_eq_false_iff_eq.mpr c14
                  clear c14
                  (first | rw [c14b0] | (simp only [i64_w, i32_w]; rw [c14b0]) | skip)
                  have H' := Aside0.mk H
                  clear H
                  have hnb15 := NB205_203.out
                  have hnc15 := NB203_205.out
                  have hcz16_0 : w11.cell? ⟨gb205, 0, none⟩ = some (.string (⟨#[]⟩ : ByteArray)) := (blk_cell BK205.out 0).trans rfl
                  have hcz16_1 : w11.cell? ⟨gb205, 1, none⟩ = some (.int .i64 0) := (blk_cell BK205.out 1).trans rfl
                  have hcz16_2 : w11.cell? ⟨gb205, 2, none⟩ = some (.int .i64 0) := (blk_cell BK205.out 2).trans rfl
                  have hcz16_3 : w11.cell? ⟨gb205, 3, none⟩ = some (.int .i64 0) := (blk_cell BK205.out 3).trans rfl
                  have hcz16_4 : w11.cell? ⟨gb205, 4, none⟩ = some (.int .i64 0) := (blk_cell BK205.out 4).trans rfl
                  have hcz16_5 : w11.cell? ⟨gb205, 5, none⟩ = some (.int .i64 0) := (blk_cell BK205.out 5).trans rfl
                  have hcz16_6 : w11.cell? ⟨gb205, 6, none⟩ = some (.int .i64 0) := (blk_cell BK205.out 6).trans rfl
                  have hcz16_7 : w11.cell? ⟨gb205, 7, none⟩ = some (.int .i64 0) := (blk_cell BK205.out 7).trans rfl
                  have hcz16_8 : w11.cell? ⟨gb205, 8, none⟩ = some (.int .i64 0) := (blk_cell BK205.out 8).trans rfl
                  have hcz16_9 : w11.cell? ⟨gb205, 9, none⟩ = some (.int .i64 0) := (blk_cell BK205.out 9).trans rfl
                  have hcz16_10 : w11.cell? ⟨gb205, 10, none⟩ = some (.string (⟨#[]⟩ : ByteArray)) := (blk_cell BK205.out 10).trans rfl
                  have hfz16_0 := blk_frozen BK205.out 0
                  have hfz16_1 := blk_frozen BK205.out 1
                  have hfz16_2 := blk_frozen BK205.out 2
                  have hfz16_3 := blk_frozen BK205.out 3
                  have hfz16_4 := blk_frozen BK205.out 4
                  have hfz16_5 := blk_frozen BK205.out 5
                  have hfz16_6 := blk_frozen BK205.out 6
                  have hfz16_7 := blk_frozen BK205.out 7
                  have hfz16_8 := blk_frozen BK205.out 8
                  have hfz16_9 := blk_frozen BK205.out 9
                  have hfz16_10 := blk_frozen BK205.out 10
                  go_wp2
                  go_meet
                  case rel => exact ⟨_, ((((rd_T43 l0 x21_1).f6) != 0)), (by first | rfl | (simp; done) | (simp [*]; done)), H', ⟨by have := HK1.out; first | omega | exact Nat.le_refl _⟩, ⟨by (with_reducible repeat (first | refine blk_drewN ?_ _ | refine blk_drew ?_ | refine blk_alloc ?_ _)); refine blk_far ?_ NB203_205.out _; (with_reducible repeat (first | refine blk_drewN ?_ _ | refine blk_drew ?_ | refine blk_alloc ?_ _)); refine blk_far ?_ NB203_205.out _; (with_reducible repeat (first | refine blk_drewN ?_ _ | refine blk_drew ?_ | refine blk_alloc ?_ _)); refine blk_far ?_ NB203_205.out _; (with_reducible repeat (first | refine blk_drewN ?_ _ | refine blk_drew ?_ | refine blk_alloc ?_ _)); refine blk_far ?_ NB203_205.out _; (with_reducible repeat (first | refine blk_drewN ?_ _ | refine blk_drew ?_ | refine blk_alloc ?_ _)); refine blk_far ?_ NB203_205.out _; (with_reducible repeat (first | refine blk_drewN ?_ _ | refine blk_drew ?_ | refine blk_alloc ?_ _)); refine blk_far ?_ NB203_205.out _; (with_reducible repeat (first | refine blk_drewN ?_ _ | refine blk_drew ?_ | refine blk_alloc ?_ _)); refine blk_far ?_ NB203_205.out _; (with_reducible repeat (first | refine blk_drewN ?_ _ | refine blk_drew ?_ | refine blk_alloc ?_ _)); refine blk_far ?_ NB203_205.out _; (with_reducible repeat (first | refine blk_drewN ?_ _ | refine blk_drew ?_ | refine blk_alloc ?_ _)); refine blk_far ?_ NB203_205.out _; (with_reducible repeat (first | refine blk_drewN ?_ _ | refine blk_drew ?_ | refine blk_alloc ?_ _)); refine blk_far ?_ NB203_205.out _; (with_reducible repeat (first | refine blk_drewN ?_ _ | refine blk_drew ?_ | refine blk_alloc ?_ _)); refine blk_far ?_ NB203_205.out _; (with_reducible repeat (first | refine blk_drewN ?_ _ | refine blk_drew ?_ | refine blk_alloc ?_ _)); exact BK203.out⟩, ⟨by (with_reducible repeat (first | refine blk_drewN ?_ _ | refine blk_drew ?_ | refine blk_alloc ?_ _)); refine blk_put (cs := #[.string ((rd_T43 l0 x21_1).f0), .int .i64 ((rd_T43 l0 x21_1).f1), .int .i64 ((rd_T43 l0 x21_1).f2), .int .i64 ((rd_T43 l0 x21_1).f3), .int .i64 ((rd_T43 l0 x21_1).f4.f0), .int .i64 ((rd_T43 l0 x21_1).f4.f1), .int .i64 ((rd_T43 l0 x21_1).f4.f2), .int .i64 ((rd_T43 l0 x21_1).f5.f0), .int .i64 ((rd_T43 l0 x21_1).f5.f1), .int .i64 ((rd_T43 l0 x21_1).f6), .string (⟨#[]⟩ : ByteArray)]) ?_ 10 _ rfl; (with_reducible repeat (first | refine blk_drewN ?_ _ | refine blk_drew ?_ | refine blk_alloc ?_ _)); refine blk_put (cs := #[.string ((rd_T43 l0 x21_1).f0), .int .i64 ((rd_T43 l0 x21_1).f1), .int .i64 ((rd_T43 l0 x21_1).f2), .int .i64 ((rd_T43 l0 x21_1).f3), .int .i64 ((rd_T43 l0 x21_1).f4.f0), .int .i64 ((rd_T43 l0 x21_1).f4.f1), .int .i64 ((rd_T43 l0 x21_1).f4.f2), .int .i64 ((rd_T43 l0 x21_1).f5.f0), .int .i64 ((rd_T43 l0 x21_1).f5.f1), .int .i64 0, .string (⟨#[]⟩ : ByteArray)]) ?_ 9 _ rfl; (with_reducible repeat (first | refine blk_drewN ?_ _ | refine blk_drew ?_ | refine blk_alloc ?_ _)); refine blk_put (cs := #[.string ((rd_T43 l0 x21_1).f0), .int .i64 ((rd_T43 l0 x21_1).f1), .int .i64 ((rd_T43 l0 x21_1).f2), .int .i64 ((rd_T43 l0 x21_1).f3), .int .i64 ((rd_T43 l0 x21_1).f4.f0), .int .i64 ((rd_T43 l0 x21_1).f4.f1), .int .i64 ((rd_T43 l0 x21_1).f4.f2), .int .i64 ((rd_T43 l0 x21_1).f5.f0), .int .i64 0, .int .i64 0, .string (⟨#[]⟩ : ByteArray)]) ?_ 8 _ rfl; (with_reducible repeat (first | refine blk_drewN ?_ _ | refine blk_drew ?_ | refine blk_alloc ?_ _)); refine blk_put (cs := #[.string ((rd_T43 l0 x21_1).f0), .int .i64 ((rd_T43 l0 x21_1).f1), .int .i64 ((rd_T43 l0 x21_1).f2), .int .i64 ((rd_T43 l0 x21_1).f3), .int .i64 ((rd_T43 l0 x21_1).f4.f0), .int .i64 ((rd_T43 l0 x21_1).f4.f1), .int .i64 ((rd_T43 l0 x21_1).f4.f2), .int .i64 0, .int .i64 0, .int .i64 0, .string (⟨#[]⟩ : ByteArray)]) ?_ 7 _ rfl; (with_reducible repeat (first | refine blk_drewN ?_ _ | refine blk_drew ?_ | refine blk_alloc ?_ _)); refine blk_put (cs := #[.string ((rd_T43 l0 x21_1).f0), .int .i64 ((rd_T43 l0 x21_1).f1), .int .i64 ((rd_T43 l0 x21_1).f2), .int .i64 ((rd_T43 l0 x21_1).f3), .int .i64 ((rd_T43 l0 x21_1).f4.f0), .int .i64 ((rd_T43 l0 x21_1).f4.f1), .int .i64 0, .int .i64 0, .int .i64 0, .int .i64 0, .string (⟨#[]⟩ : ByteArray)]) ?_ 6 _ rfl; (with_reducible repeat (first | refine blk_drewN ?_ _ | refine blk_drew ?_ | refine blk_alloc ?_ _)); refine blk_put (cs := #[.string ((rd_T43 l0 x21_1).f0), .int .i64 ((rd_T43 l0 x21_1).f1), .int .i64 ((rd_T43 l0 x21_1).f2), .int .i64 ((rd_T43 l0 x21_1).f3), .int .i64 ((rd_T43 l0 x21_1).f4.f0), .int .i64 0, .int .i64 0, .int .i64 0, .int .i64 0, .int .i64 0, .string (⟨#[]⟩ : ByteArray)]) ?_ 5 _ rfl; (with_reducible repeat (first | refine blk_drewN ?_ _ | refine blk_drew ?_ | refine blk_alloc ?_ _)); refine blk_put (cs := #[.string ((rd_T43 l0 x21_1).f0), .int .i64 ((rd_T43 l0 x21_1).f1), .int .i64 ((rd_T43 l0 x21_1).f2), .int .i64 ((rd_T43 l0 x21_1).f3), .int .i64 0, .int .i64 0, .int .i64 0, .int .i64 0, .int .i64 0, .int .i64 0, .string (⟨#[]⟩ : ByteArray)]) ?_ 4 _ rfl; (with_reducible repeat (first | refine blk_drewN ?_ _ | refine blk_drew ?_ | refine blk_alloc ?_ _)); refine blk_put (cs := #[.string ((rd_T43 l0 x21_1).f0), .int .i64 ((rd_T43 l0 x21_1).f1), .int .i64 ((rd_T43 l0 x21_1).f2), .int .i64 0, .int .i64 0, .int .i64 0, .int .i64 0, .int .i64 0, .int .i64 0, .int .i64 0, .string (⟨#[]⟩ : ByteArray)]) ?_ 3 _ rfl; (with_reducible repeat (first | refine blk_drewN ?_ _ | refine blk_drew ?_ | refine blk_alloc ?_ _)); refine blk_put (cs := #[.string ((rd_T43 l0 x21_1).f0), .int .i64 ((rd_T43 l0 x21_1).f1), .int .i64 0, .int .i64 0, .int .i64 0, .int .i64 0, .int .i64 0, .int .i64 0, .int .i64 0, .int .i64 0, .string (⟨#[]⟩ : ByteArray)]) ?_ 2 _ rfl; (with_reducible repeat (first | refine blk_drewN ?_ _ | refine blk_drew ?_ | refine blk_alloc ?_ _)); refine blk_put (cs := #[.string ((rd_T43 l0 x21_1).f0), .int .i64 0, .int .i64 0, .int .i64 0, .int .i64 0, .int .i64 0, .int .i64 0, .int .i64 0, .int .i64 0, .int .i64 0, .string (⟨#[]⟩ : ByteArray)]) ?_ 1 _ rfl; (with_reducible repeat (first | refine blk_drewN ?_ _ | refine blk_drew ?_ | refine blk_alloc ?_ _)); refine blk_put (cs := #[.string (⟨#[]⟩ : ByteArray), .int .i64 0, .int .i64 0, .int .i64 0, .int .i64 0, .int .i64 0, .int .i64 0, .int .i64 0, .int .i64 0, .int .i64 0, .string (⟨#[]⟩ : ByteArray)]) ?_ 0 _ rfl; (with_reducible repeat (first | refine blk_drewN ?_ _ | refine blk_drew ?_ | refine blk_alloc ?_ _)); exact BK205.out⟩, ⟨by repeat (first | (with_reducible first | exact HB.out | apply below_alloc | apply pw_below_drewN | apply below_drew1 | refine below_set ?_ GE203.out | refine below_set ?_ GE205.out) | exact HB.out)⟩⟩
                · rw [if_neg c14] at H
                  have c14b0 : (((rd_T43 l0 x21_1).f0).toList == a1.toList) = false := beq_eq_false_iff_ne.mpr c14
                  have c14b1 : (((rd_T43 l0 x21_1).f0).toList != a1.toList) = true := bne_iff_ne.mpr c14
                  (first | rw [c14b0] | (simp only [i64_w, i32_w]; rw [c14b0]) | skip)
                  have H' := Aside0.mk H
                  clear H
                  have hnb17 := NB205_203.out
                  have hnc17 := NB203_205.out
                  have hcz18_0 : w11.cell? ⟨gb205, 0, none⟩ = some (.string (⟨#[]⟩ : ByteArray)) := (blk_cell BK205.out 0).trans rfl
                  have hcz18_1 : w11.cell? ⟨gb205, 1, none⟩ = some (.int .i64 0) := (blk_cell BK205.out 1).trans rfl
                  have hcz18_2 : w11.cell? ⟨gb205, 2, none⟩ = some (.int .i64 0) := (blk_cell BK205.out 2).trans rfl
                  have hcz18_3 : w11.cell? ⟨gb205, 3, none⟩ = some (.int .i64 0) := (blk_cell BK205.out 3).trans rfl
                  have hcz18_4 : w11.cell? ⟨gb205, 4, none⟩ = some (.int .i64 0) := (blk_cell BK205.out 4).trans rfl
                  have hcz18_5 : w11.cell? ⟨gb205, 5, none⟩ = some (.int .i64 0) := (blk_cell BK205.out 5).trans rfl
                  have hcz18_6 : w11.cell? ⟨gb205, 6, none⟩ = some (.int .i64 0) := (blk_cell BK205.out 6).trans rfl
                  have hcz18_7 : w11.cell? ⟨gb205, 7, none⟩ = some (.int .i64 0) := (blk_cell BK205.out 7).trans rfl
                  have hcz18_8 : w11.cell? ⟨gb205, 8, none⟩ = some (.int .i64 0) := (blk_cell BK205.out 8).trans rfl
                  have hcz18_9 : w11.cell? ⟨gb205, 9, none⟩ = some (.int .i64 0) := (blk_cell BK205.out 9).trans rfl
                  have hcz18_10 : w11.cell? ⟨gb205, 10, none⟩ = some (.string (⟨#[]⟩ : ByteArray)) := (blk_cell BK205.out 10).trans rfl
                  have hfz18_0 := blk_frozen BK205.out 0
                  have hfz18_1 := blk_frozen BK205.out 1
                  have hfz18_2 := blk_frozen BK205.out 2
                  have hfz18_3 := blk_frozen BK205.out 3
                  have hfz18_4 := blk_frozen BK205.out 4
                  have hfz18_5 := blk_frozen BK205.out 5
                  have hfz18_6 := blk_frozen BK205.out 6
                  have hfz18_7 := blk_frozen BK205.out 7
                  have hfz18_8 := blk_frozen BK205.out 8
                  have hfz18_9 := blk_frozen BK205.out 9
                  have hfz18_10 := blk_frozen BK205.out 10
                  go_wp2
                  go_meet
                  case rel => exact ⟨_, (true), (by first | rfl | (simp; done) | (simp [*]; done)), H', ⟨by have := HK1.out; first | omega | exact Nat.le_refl _⟩, ⟨by (with_reducible repeat (first | refine blk_drewN ?_ _ | refine blk_drew ?_ | refine blk_alloc ?_ _)); refine blk_far ?_ NB203_205.out _; (with_reducible repeat (first | refine blk_drewN ?_ _ | refine blk_drew ?_ | refine blk_alloc ?_ _)); refine blk_far ?_ NB203_205.out _; (with_reducible repeat (first | refine blk_drewN ?_ _ | refine blk_drew ?_ | refine blk_alloc ?_ _)); refine blk_far ?_ NB203_205.out _; (with_reducible repeat (first | refine blk_drewN ?_ _ | refine blk_drew ?_ | refine blk_alloc ?_ _)); refine blk_far ?_ NB203_205.out _; (with_reducible repeat (first | refine blk_drewN ?_ _ | refine blk_drew ?_ | refine blk_alloc ?_ _)); refine blk_far ?_ NB203_205.out _; (with_reducible repeat (first | refine blk_drewN ?_ _ | refine blk_drew ?_ | refine blk_alloc ?_ _)); refine blk_far ?_ NB203_205.out _; (with_reducible repeat (first | refine blk_drewN ?_ _ | refine blk_drew ?_ | refine blk_alloc ?_ _)); refine blk_far ?_ NB203_205.out _; (with_reducible repeat (first | refine blk_drewN ?_ _ | refine blk_drew ?_ | refine blk_alloc ?_ _)); refine blk_far ?_ NB203_205.out _; (with_reducible repeat (first | refine blk_drewN ?_ _ | refine blk_drew ?_ | refine blk_alloc ?_ _)); refine blk_far ?_ NB203_205.out _; (with_reducible repeat (first | refine blk_drewN ?_ _ | refine blk_drew ?_ | refine blk_alloc ?_ _)); refine blk_far ?_ NB203_205.out _; (with_reducible repeat (first | refine blk_drewN ?_ _ | refine blk_drew ?_ | refine blk_alloc ?_ _)); refine blk_far ?_ NB203_205.out _; (with_reducible repeat (first | refine blk_drewN ?_ _ | refine blk_drew ?_ | refine blk_alloc ?_ _)); exact BK203.out⟩, ⟨by (with_reducible repeat (first | refine blk_drewN ?_ _ | refine blk_drew ?_ | refine blk_alloc ?_ _)); refine blk_put (cs := #[.string ((rd_T43 l0 x21_1).f0), .int .i64 ((rd_T43 l0 x21_1).f1), .int .i64 ((rd_T43 l0 x21_1).f2), .int .i64 ((rd_T43 l0 x21_1).f3), .int .i64 ((rd_T43 l0 x21_1).f4.f0), .int .i64 ((rd_T43 l0 x21_1).f4.f1), .int .i64 ((rd_T43 l0 x21_1).f4.f2), .int .i64 ((rd_T43 l0 x21_1).f5.f0), .int .i64 ((rd_T43 l0 x21_1).f5.f1), .int .i64 ((rd_T43 l0 x21_1).f6), .string (⟨#[]⟩ : ByteArray)]) ?_ 10 _ rfl; (with_reducible repeat (first | refine blk_drewN ?_ _ | refine blk_drew ?_ | refine blk_alloc ?_ _)); refine blk_put (cs := #[.string ((rd_T43 l0 x21_1).f0), .int .i64 ((rd_T43 l0 x21_1).f1), .int .i64 ((rd_T43 l0 x21_1).f2), .int .i64 ((rd_T43 l0 x21_1).f3), .int .i64 ((rd_T43 l0 x21_1).f4.f0), .int .i64 ((rd_T43 l0 x21_1).f4.f1), .int .i64 ((rd_T43 l0 x21_1).f4.f2), .int .i64 ((rd_T43 l0 x21_1).f5.f0), .int .i64 ((rd_T43 l0 x21_1).f5.f1), .int .i64 0, .string (⟨#[]⟩ : ByteArray)]) ?_ 9 _ rfl; (with_reducible repeat (first | refine blk_drewN ?_ _ | refine blk_drew ?_ | refine blk_alloc ?_ _)); refine blk_put (cs := #[.string ((rd_T43 l0 x21_1).f0), .int .i64 ((rd_T43 l0 x21_1).f1), .int .i64 ((rd_T43 l0 x21_1).f2), .int .i64 ((rd_T43 l0 x21_1).f3), .int .i64 ((rd_T43 l0 x21_1).f4.f0), .int .i64 ((rd_T43 l0 x21_1).f4.f1), .int .i64 ((rd_T43 l0 x21_1).f4.f2), .int .i64 ((rd_T43 l0 x21_1).f5.f0), .int .i64 0, .int .i64 0, .string (⟨#[]⟩ : ByteArray)]) ?_ 8 _ rfl; (with_reducible repeat (first | refine blk_drewN ?_ _ | refine blk_drew ?_ | refine blk_alloc ?_ _)); refine blk_put (cs := #[.string ((rd_T43 l0 x21_1).f0), .int .i64 ((rd_T43 l0 x21_1).f1), .int .i64 ((rd_T43 l0 x21_1).f2), .int .i64 ((rd_T43 l0 x21_1).f3), .int .i64 ((rd_T43 l0 x21_1).f4.f0), .int .i64 ((rd_T43 l0 x21_1).f4.f1), .int .i64 ((rd_T43 l0 x21_1).f4.f2), .int .i64 0, .int .i64 0, .int .i64 0, .string (⟨#[]⟩ : ByteArray)]) ?_ 7 _ rfl; (with_reducible repeat (first | refine blk_drewN ?_ _ | refine blk_drew ?_ | refine blk_alloc ?_ _)); refine blk_put (cs := #[.string ((rd_T43 l0 x21_1).f0), .int .i64 ((rd_T43 l0 x21_1).f1), .int .i64 ((rd_T43 l0 x21_1).f2), .int .i64 ((rd_T43 l0 x21_1).f3), .int .i64 ((rd_T43 l0 x21_1).f4.f0), .int .i64 ((rd_T43 l0 x21_1).f4.f1), .int .i64 0, .int .i64 0, .int .i64 0, .int .i64 0, .string (⟨#[]⟩ : ByteArray)]) ?_ 6 _ rfl; (with_reducible repeat (first | refine blk_drewN ?_ _ | refine blk_drew ?_ | refine blk_alloc ?_ _)); refine blk_put (cs := #[.string ((rd_T43 l0 x21_1).f0), .int .i64 ((rd_T43 l0 x21_1).f1), .int .i64 ((rd_T43 l0 x21_1).f2), .int .i64 ((rd_T43 l0 x21_1).f3), .int .i64 ((rd_T43 l0 x21_1).f4.f0), .int .i64 0, .int .i64 0, .int .i64 0, .int .i64 0, .int .i64 0, .string (⟨#[]⟩ : ByteArray)]) ?_ 5 _ rfl; (with_reducible repeat (first | refine blk_drewN ?_ _ | refine blk_drew ?_ | refine blk_alloc ?_ _)); refine blk_put (cs := #[.string ((rd_T43 l0 x21_1).f0), .int .i64 ((rd_T43 l0 x21_1).f1), .int .i64 ((rd_T43 l0 x21_1).f2), .int .i64 ((rd_T43 l0 x21_1).f3), .int .i64 0, .int .i64 0, .int .i64 0, .int .i64 0, .int .i64 0, .int .i64 0, .string (⟨#[]⟩ : ByteArray)]) ?_ 4 _ rfl; (with_reducible repeat (first | refine blk_drewN ?_ _ | refine blk_drew ?_ | refine blk_alloc ?_ _)); refine blk_put (cs := #[.string ((rd_T43 l0 x21_1).f0), .int .i64 ((rd_T43 l0 x21_1).f1), .int .i64 ((rd_T43 l0 x21_1).f2), .int .i64 0, .int .i64 0, .int .i64 0, .int .i64 0, .int .i64 0, .int .i64 0, .int .i64 0, .string (⟨#[]⟩ : ByteArray)]) ?_ 3 _ rfl; (with_reducible repeat (first | refine blk_drewN ?_ _ | refine blk_drew ?_ | refine blk_alloc ?_ _)); refine blk_put (cs := #[.string ((rd_T43 l0 x21_1).f0), .int .i64 ((rd_T43 l0 x21_1).f1), .int .i64 0, .int .i64 0, .int .i64 0, .int .i64 0, .int .i64 0, .int .i64 0, .int .i64 0, .int .i64 0, .string (⟨#[]⟩ : ByteArray)]) ?_ 2 _ rfl; (with_reducible repeat (first | refine blk_drewN ?_ _ | refine blk_drew ?_ | refine blk_alloc ?_ _)); refine blk_put (cs := #[.string ((rd_T43 l0 x21_1).f0), .int .i64 0, .int .i64 0, .int .i64 0, .int .i64 0, .int .i64 0, .int .i64 0, .int .i64 0, .int .i64 0, .int .i64 0, .string (⟨#[]⟩ : ByteArray)]) ?_ 1 _ rfl; (with_reducible repeat (first | refine blk_drewN ?_ _ | refine blk_drew ?_ | refine blk_alloc ?_ _)); refine blk_put (cs := #[.string (⟨#[]⟩ : ByteArray), .int .i64 0, .int .i64 0, .int .i64 0, .int .i64 0, .int .i64 0, .int .i64 0, .int .i64 0, .int .i64 0, .int .i64 0, .string (⟨#[]⟩ : ByteArray)]) ?_ 0 _ rfl; (with_reducible repeat (first | refine blk_drewN ?_ _ | refine blk_drew ?_ | refine blk_alloc ?_ _)); exact BK205.out⟩, ⟨by repeat (first | (with_reducible first | exact HB.out | apply below_alloc | apply pw_below_drewN | apply below_drew1 | refine below_set ?_ GE203.out | refine below_set ?_ GE205.out) | exact HB.out)⟩⟩
              case rest =>
                clear HC10
                try clear c1
                try clear p2
                try clear q2
                try clear hx2
                try clear c4
                try clear c4b0
                try clear c4b1
                try clear c7
                try clear c7b0
                try clear c8
                try clear c8b0
                try clear c9
                try clear c9b0
                try clear c12
                try clear c14
                try clear c14b0
                try clear c14b1
                try clear c15
                try clear c17
                try clear hcz13_0
                try clear hcz13_1
                try clear hcz13_10
                try clear hcz13_2
                try clear hcz13_3
                try clear hcz13_4
                try clear hcz13_5
                try clear hcz13_6
                try clear hcz13_7
                try clear hcz13_8
                try clear hcz13_9
                try clear hcz16_0
                try clear hcz16_1
                try clear hcz16_10
                try clear hcz16_2
                try clear hcz16_3
                try clear hcz16_4
                try clear hcz16_5
                try clear hcz16_6
                try clear hcz16_7
                try clear hcz16_8
                try clear hcz16_9
                try clear hcz18_0
                try clear hcz18_1
                try clear hcz18_10
                try clear hcz18_2
                try clear hcz18_3
                try clear hcz18_4
                try clear hcz18_5
                try clear hcz18_6
                try clear hcz18_7
                try clear hcz18_8
                try clear hcz18_9
                try clear hfz13_0
                try clear hfz13_1
                try clear hfz13_10
                try clear hfz13_2
                try clear hfz13_3
                try clear hfz13_4
                try clear hfz13_5
                try clear hfz13_6
                try clear hfz13_7
                try clear hfz13_8
                try clear hfz13_9
                try clear hfz16_0
                try clear hfz16_1
                try clear hfz16_10
                try clear hfz16_2
                try clear hfz16_3
                try clear hfz16_4
                try clear hfz16_5
                try clear hfz16_6
                try clear hfz16_7
                try clear hfz16_8
                try clear hfz16_9
                try clear hfz18_0
                try clear hfz18_1
                try clear hfz18_10
                try clear hfz18_2
                try clear hfz18_3
                try clear hfz18_4
                try clear hfz18_5
                try clear hfz18_6
                try clear hfz18_7
                try clear hfz18_8
                try clear hfz18_9
                try clear hx204_0
                try clear hx204_1
                try clear hx204_10
                try clear hx204_2
                try clear hx204_3
                try clear hx204_4
                try clear hx204_5
                try clear hx204_6
                try clear hx204_7
                try clear hx204_8
                try clear hx204_9
                try clear p2
                try clear p204
                try clear q204
                obtain ⟨kq, x34_9, rfl, HA, HJ9, BK203, BK205, HB⟩ := hcut
                cases kq with
                | zero => exact absurd HA.out (by simp [onset_Letter.j1])
                | succ kj9 =>
                  have H := HA.out
                  clear HA
                  simp only [onset_Letter.j1] at H
                  by_cases c19 : x34_9 = true
                  · subst c19
                    have H1 : (onset_Letter.l0 kj9 a1 x8_1 x9_1 l0 (l0.length : Int) (wrap64 (x21_1 + 1)) x204000_1 x204001_1 x204002_1) = some (r1, r2) := by rw [if_pos rfl] at H; exact H
                    clear H
                    have H := H1
                    clear H1
                    have H' := Aside0.mk H
                    clear H
                    go_wp2
                    go_roundg kj9
                    case measure => have := HK1.out; have := HJ9.out; omega
                    case rel => exact ⟨(x8_1), (x9_1), (wrap64 (x21_1 + 1)), (x204000_1), (x204001_1), (x204002_1), (by first | rfl | (simp; done) | (simp [*]; done)), (by first | rfl | (simp; done) | (simp [*]; done)), (by first | rfl | (simp; done) | (simp [*]; done)), H', ⟨by have := HK1.out; have := HJ9.out; omega⟩, ⟨by (with_reducible repeat (first | refine blk_drewN ?_ _ | refine blk_drew ?_ | refine blk_alloc ?_ _)); exact BK203.out⟩, ⟨by repeat (first | (with_reducible first | exact HB.out | apply below_alloc | apply pw_below_drewN | apply below_drew1 | refine below_set ?_ GE203.out | refine below_set ?_ GE205.out) | exact HB.out)⟩⟩
                  · replace c19 := Bool.eq_false_iff.mpr c19
                    subst c19
                    have H1 : ((onset_first.f kj9 ((rd_T43 l0 x21_1).f0) ((rd_T43 l0 x21_1).f1) ((rd_T43 l0 x21_1).f2) ((rd_T43 l0 x21_1).f3) ((rd_T43 l0 x21_1).f4.f0) ((rd_T43 l0 x21_1).f4.f1) ((rd_T43 l0 x21_1).f4.f2) ((rd_T43 l0 x21_1).f5.f0) ((rd_T43 l0 x21_1).f5.f1) ((rd_T43 l0 x21_1).f6) ((rd_T43 l0 x21_1).f7) x21_1).bind fun bt206 => (if bt206.2.2.2 = true then (if x9_1 = true then (if bt206.2.2.1 < x204002_1 then (onset_Letter.l0 kj9 a1 ((rd_T43 l0 x21_1).f7) true l0 (l0.length : Int) (wrap64 (x21_1 + 1)) bt206.1 bt206.2.1 bt206.2.2.1) else (onset_Letter.l0 kj9 a1 x8_1 x9_1 l0 (l0.length : Int) (wrap64 (x21_1 + 1)) x204000_1 x204001_1 x204002_1)) else (onset_Letter.l0 kj9 a1 ((rd_T43 l0 x21_1).f7) true l0 (l0.length : Int) (wrap64 (x21_1 + 1)) bt206.1 bt206.2.1 bt206.2.2.1)) else (onset_Letter.l0 kj9 a1 x8_1 x9_1 l0 (l0.length : Int) (wrap64 (x21_1 + 1)) x204000_1 x204001_1 x204002_1))) = some (r1, r2) := by rw [if_neg (show ¬ (false = true) by decide)] at H; exact H
                    clear H
                    have H := H1
                    clear H1
                    replace H := Option.bind_eq_some_iff.mp H
                    obtain ⟨⟨t206, t207, t208, t209⟩, A200, H⟩ := H
                    replace H : (if t209 = true then (if x9_1 = true then (if t208 < x204002_1 then (onset_Letter.l0 kj9 a1 ((rd_T43 l0 x21_1).f7) true l0 (l0.length : Int) (wrap64 (x21_1 + 1)) t206 t207 t208) else (onset_Letter.l0 kj9 a1 x8_1 x9_1 l0 (l0.length : Int) (wrap64 (x21_1 + 1)) x204000_1 x204001_1 x204002_1)) else (onset_Letter.l0 kj9 a1 ((rd_T43 l0 x21_1).f7) true l0 (l0.length : Int) (wrap64 (x21_1 + 1)) t206 t207 t208)) else (onset_Letter.l0 kj9 a1 x8_1 x9_1 l0 (l0.length : Int) (wrap64 (x21_1 + 1)) x204000_1 x204001_1 x204002_1)) = some (r1, r2) := H
                    have A20 := Aside0.mk A200
                    clear A200
                    by_cases c21 : t209 = true
                    · subst c21
                      have H1 : (if x9_1 = true then (if t208 < x204002_1 then (onset_Letter.l0 kj9 a1 ((rd_T43 l0 x21_1).f7) true l0 (l0.length : Int) (wrap64 (x21_1 + 1)) t206 t207 t208) else (onset_Letter.l0 kj9 a1 x8_1 x9_1 l0 (l0.length : Int) (wrap64 (x21_1 + 1)) x204000_1 x204001_1 x204002_1)) else (onset_Letter.l0 kj9 a1 ((rd_T43 l0 x21_1).f7) true l0 (l0.length : Int) (wrap64 (x21_1 + 1)) t206 t207 t208)) = some (r1, r2) := by rw [if_pos rfl] at H; exact H
                      clear H
                      have H := H1
                      clear H1
                      by_cases c22 : x9_1 = true
                      · subst c22
                        have H1 : (if t208 < x204002_1 then (onset_Letter.l0 kj9 a1 ((rd_T43 l0 x21_1).f7) true l0 (l0.length : Int) (wrap64 (x21_1 + 1)) t206 t207 t208) else (onset_Letter.l0 kj9 a1 x8_1 true l0 (l0.length : Int) (wrap64 (x21_1 + 1)) x204000_1 x204001_1 x204002_1)) = some (r1, r2) := by rw [if_pos rfl] at H; exact H
                        clear H
                        have H := H1
                        clear H1
                        by_cases c23 : t208 < x204002_1
                        · rw [if_pos c23] at H
                          have c23b0 : decide (t208 < x204002_1) = true := decide_eq_true c23
                          clear c23
                          have H' := Aside0.mk H
                          clear H
                          have hnb24 := NB205_203.out
                          have hnc24 := NB203_205.out
                          have hcz25_0 : wc.cell? ⟨gb205, 0, none⟩ = some (.string ((rd_T43 l0 x21_1).f0)) := (blk_cell BK205.out 0).trans rfl
                          have hcz25_1 : wc.cell? ⟨gb205, 1, none⟩ = some (.int .i64 ((rd_T43 l0 x21_1).f1)) := (blk_cell BK205.out 1).trans rfl
                          have hcz25_2 : wc.cell? ⟨gb205, 2, none⟩ = some (.int .i64 ((rd_T43 l0 x21_1).f2)) := (blk_cell BK205.out 2).trans rfl
                          have hcz25_3 : wc.cell? ⟨gb205, 3, none⟩ = some (.int .i64 ((rd_T43 l0 x21_1).f3)) := (blk_cell BK205.out 3).trans rfl
                          have hcz25_4 : wc.cell? ⟨gb205, 4, none⟩ = some (.int .i64 ((rd_T43 l0 x21_1).f4.f0)) := (blk_cell BK205.out 4).trans rfl
                          have hcz25_5 : wc.cell? ⟨gb205, 5, none⟩ = some (.int .i64 ((rd_T43 l0 x21_1).f4.f1)) := (blk_cell BK205.out 5).trans rfl
                          have hcz25_6 : wc.cell? ⟨gb205, 6, none⟩ = some (.int .i64 ((rd_T43 l0 x21_1).f4.f2)) := (blk_cell BK205.out 6).trans rfl
                          have hcz25_7 : wc.cell? ⟨gb205, 7, none⟩ = some (.int .i64 ((rd_T43 l0 x21_1).f5.f0)) := (blk_cell BK205.out 7).trans rfl
                          have hcz25_8 : wc.cell? ⟨gb205, 8, none⟩ = some (.int .i64 ((rd_T43 l0 x21_1).f5.f1)) := (blk_cell BK205.out 8).trans rfl
                          have hcz25_9 : wc.cell? ⟨gb205, 9, none⟩ = some (.int .i64 ((rd_T43 l0 x21_1).f6)) := (blk_cell BK205.out 9).trans rfl
                          have hcz25_10 : wc.cell? ⟨gb205, 10, none⟩ = some (.string ((rd_T43 l0 x21_1).f7)) := (blk_cell BK205.out 10).trans rfl
                          have hfz25_0 := blk_frozen BK205.out 0
                          have hfz25_1 := blk_frozen BK205.out 1
                          have hfz25_2 := blk_frozen BK205.out 2
                          have hfz25_3 := blk_frozen BK205.out 3
                          have hfz25_4 := blk_frozen BK205.out 4
                          have hfz25_5 := blk_frozen BK205.out 5
                          have hfz25_6 := blk_frozen BK205.out 6
                          have hfz25_7 := blk_frozen BK205.out 7
                          have hfz25_8 := blk_frozen BK205.out 8
                          have hfz25_9 := blk_frozen BK205.out 9
                          have hfz25_10 := blk_frozen BK205.out 10
                          try go_wp2_with (first | ((with_reducible refine gate_callee (f := 23) rfl ?_); refine goesL_ (some 38) rfl rfl Try.func23 (by kernel_rfl) rfl #[.agg #[.string ((rd_T43 l0 x21_1).f0), .int .i64 ((rd_T43 l0 x21_1).f1), .int .i64 ((rd_T43 l0 x21_1).f2), .int .i64 ((rd_T43 l0 x21_1).f3), .int .i64 ((rd_T43 l0 x21_1).f4.f0), .int .i64 ((rd_T43 l0 x21_1).f4.f1), .int .i64 ((rd_T43 l0 x21_1).f4.f2), .int .i64 ((rd_T43 l0 x21_1).f5.f0), .int .i64 ((rd_T43 l0 x21_1).f5.f1), .int .i64 ((rd_T43 l0 x21_1).f6), .string ((rd_T43 l0 x21_1).f7)], .int .i64 x21_1] rfl (by (try simp only [List.map_toArray, List.map_cons, List.map_nil]); first | done | rfl | (simp only [List.length_drop, List.length_take]; rfl)) ?_; (with_reducible refine (onset_first.calls kj9 ((rd_T43 l0 x21_1).f0) ((rd_T43 l0 x21_1).f1) ((rd_T43 l0 x21_1).f2) ((rd_T43 l0 x21_1).f3) ((rd_T43 l0 x21_1).f4.f0) ((rd_T43 l0 x21_1).f4.f1) ((rd_T43 l0 x21_1).f4.f2) ((rd_T43 l0 x21_1).f5.f0) ((rd_T43 l0 x21_1).f5.f1) ((rd_T43 l0 x21_1).f6) ((rd_T43 l0 x21_1).f7) x21_1 t206 t207 t208 true _ A20.out).mono ?_); rintro e w26 ⟨rfl, hb⟩; refine ⟨_, rfl, ?_⟩; have n0_ := Aside0.mk (blk_below (g := gb203) (o := .cells #[.int .i64 x204000_1, .int .i64 x204001_1, .int .i64 x204002_1] 37 (0, 0)) (by (with_reducible repeat (first | refine blk_drewN ?_ _ | refine blk_drew ?_ | refine blk_alloc ?_ _)); exact BK203.out) hb); have n1_ := Aside0.mk (blk_below (g := gb205) (o := .cells #[.string ((rd_T43 l0 x21_1).f0), .int .i64 ((rd_T43 l0 x21_1).f1), .int .i64 ((rd_T43 l0 x21_1).f2), .int .i64 ((rd_T43 l0 x21_1).f3), .int .i64 ((rd_T43 l0 x21_1).f4.f0), .int .i64 ((rd_T43 l0 x21_1).f4.f1), .int .i64 ((rd_T43 l0 x21_1).f4.f2), .int .i64 ((rd_T43 l0 x21_1).f5.f0), .int .i64 ((rd_T43 l0 x21_1).f5.f1), .int .i64 ((rd_T43 l0 x21_1).f6), .string ((rd_T43 l0 x21_1).f7)] 43 (0, 0)) (by (with_reducible repeat (first | refine blk_drewN ?_ _ | refine blk_drew ?_ | refine blk_alloc ?_ _)); exact BK205.out) hb); have n2_ := Aside0.mk (below_step (by repeat (first | (with_reducible first | exact HB.out | apply below_alloc | apply pw_below_drewN | apply below_drew1 | refine below_set ?_ GE203.out | refine below_set ?_ GE205.out) | exact HB.out)) hb); clear BK203; clear BK205; clear HB; have BK203 := n0_; have BK205 := n1_; have HB := n2_; clear n0_ n1_ n2_; (try clear hb); (try clear hb2); (try clear hk); (try clear hi)) | ((with_reducible refine gate_dst (N := 12) rfl ?_); refine box_event ?hg (N := 12) ?hd (cs := #[.int .i64 0, .int .i64 0, .int .i64 0]) (t := 37) ?hr ?_; (case hd => rfl); (case hg => rfl); (case hr => first | (go_simp; done) | (go_simp; rfl)); intro gb210 hg w27 hbox hb; have n0_ := Aside0.mk (blk_below (g := gb203) (o := .cells #[.int .i64 x204000_1, .int .i64 x204001_1, .int .i64 x204002_1] 37 (0, 0)) (by (with_reducible repeat (first | refine blk_drewN ?_ _ | refine blk_drew ?_ | refine blk_alloc ?_ _)); exact BK203.out) hb); have n1_ := Aside0.mk (blk_below (g := gb205) (o := .cells #[.string ((rd_T43 l0 x21_1).f0), .int .i64 ((rd_T43 l0 x21_1).f1), .int .i64 ((rd_T43 l0 x21_1).f2), .int .i64 ((rd_T43 l0 x21_1).f3), .int .i64 ((rd_T43 l0 x21_1).f4.f0), .int .i64 ((rd_T43 l0 x21_1).f4.f1), .int .i64 ((rd_T43 l0 x21_1).f4.f2), .int .i64 ((rd_T43 l0 x21_1).f5.f0), .int .i64 ((rd_T43 l0 x21_1).f5.f1), .int .i64 ((rd_T43 l0 x21_1).f6), .string ((rd_T43 l0 x21_1).f7)] 43 (0, 0)) (by (with_reducible repeat (first | refine blk_drewN ?_ _ | refine blk_drew ?_ | refine blk_alloc ?_ _)); exact BK205.out) hb); have n2_ := Aside0.mk (below_step (by repeat (first | (with_reducible first | exact HB.out | apply below_alloc | apply pw_below_drewN | apply below_drew1 | refine below_set ?_ GE203.out | refine below_set ?_ GE205.out) | exact HB.out)) hb); have n3_ := Aside0.mk (hbox); have n4_ := Aside0.mk ((by rw [hg]; exact (below_size (by repeat (first | (with_reducible first | exact HB.out | apply below_alloc | apply pw_below_drewN | apply below_drew1 | refine below_set ?_ GE203.out | refine below_set ?_ GE205.out) | exact HB.out))) : w.heap.size ≤ gb210)); have n5_ := Aside0.mk ((by rw [hg]; exact (below_size (by repeat (first | (with_reducible first | exact HB.out | apply below_alloc | apply pw_below_drewN | apply below_drew1 | refine below_set ?_ GE203.out | refine below_set ?_ GE205.out) | exact HB.out))) : w.heap.size ≤ gb210)); have n6_ := Aside0.mk ((by rw [hg]; exact Nat.ne_of_lt (blk_lt (g := gb203) (o := .cells #[.int .i64 x204000_1, .int .i64 x204001_1, .int .i64 x204002_1] 37 (0, 0)) (by (with_reducible repeat (first | refine blk_drewN ?_ _ | refine blk_drew ?_ | refine blk_alloc ?_ _)); exact BK203.out)) : gb203 ≠ gb210)); have n7_ := Aside0.mk ((by rw [hg]; exact Nat.ne_of_gt (blk_lt (g := gb203) (o := .cells #[.int .i64 x204000_1, .int .i64 x204001_1, .int .i64 x204002_1] 37 (0, 0)) (by (with_reducible repeat (first | refine blk_drewN ?_ _ | refine blk_drew ?_ | refine blk_alloc ?_ _)); exact BK203.out)) : gb210 ≠ gb203)); have n8_ := Aside0.mk ((by rw [hg]; exact Nat.ne_of_lt (blk_lt (g := gb205) (o := .cells #[.string ((rd_T43 l0 x21_1).f0), .int .i64 ((rd_T43 l0 x21_1).f1), .int .i64 ((rd_T43 l0 x21_1).f2), .int .i64 ((rd_T43 l0 x21_1).f3), .int .i64 ((rd_T43 l0 x21_1).f4.f0), .int .i64 ((rd_T43 l0 x21_1).f4.f1), .int .i64 ((rd_T43 l0 x21_1).f4.f2), .int .i64 ((rd_T43 l0 x21_1).f5.f0), .int .i64 ((rd_T43 l0 x21_1).f5.f1), .int .i64 ((rd_T43 l0 x21_1).f6), .string ((rd_T43 l0 x21_1).f7)] 43 (0, 0)) (by (with_reducible repeat (first | refine blk_drewN ?_ _ | refine blk_drew ?_ | refine blk_alloc ?_ _)); exact BK205.out)) : gb205 ≠ gb210)); have n9_ := Aside0.mk ((by rw [hg]; exact Nat.ne_of_gt (blk_lt (g := gb205) (o := .cells #[.string ((rd_T43 l0 x21_1).f0), .int .i64 ((rd_T43 l0 x21_1).f1), .int .i64 ((rd_T43 l0 x21_1).f2), .int .i64 ((rd_T43 l0 x21_1).f3), .int .i64 ((rd_T43 l0 x21_1).f4.f0), .int .i64 ((rd_T43 l0 x21_1).f4.f1), .int .i64 ((rd_T43 l0 x21_1).f4.f2), .int .i64 ((rd_T43 l0 x21_1).f5.f0), .int .i64 ((rd_T43 l0 x21_1).f5.f1), .int .i64 ((rd_T43 l0 x21_1).f6), .string ((rd_T43 l0 x21_1).f7)] 43 (0, 0)) (by (with_reducible repeat (first | refine blk_drewN ?_ _ | refine blk_drew ?_ | refine blk_alloc ?_ _)); exact BK205.out)) : gb210 ≠ gb205)); clear BK203; clear BK205; clear HB; have BK203 := n0_; have BK205 := n1_; have HB := n2_; have BK210 := n3_; have GW210 := n4_; have GE210 := n5_; have NB203_210 := n6_; have NB210_203 := n7_; have NB205_210 := n8_; have NB210_205 := n9_; clear n0_ n1_ n2_ n3_ n4_ n5_ n6_ n7_ n8_ n9_; clear hb hbox hg; have hnb28 := NB210_203.out; have hnc28 := NB203_210.out; have hnb29 := NB210_205.out; have hnc29 := NB205_210.out; have hcz30_0 : w27.cell? ⟨gb210, 0, none⟩ = some (.int .i64 0) := (blk_cell BK210.out 0).trans rfl; have hcz30_1 : w27.cell? ⟨gb210, 1, none⟩ = some (.int .i64 0) := (blk_cell BK210.out 1).trans rfl; have hcz30_2 : w27.cell? ⟨gb210, 2, none⟩ = some (.int .i64 0) := (blk_cell BK210.out 2).trans rfl; have hfz30_0 := blk_frozen BK210.out 0; have hfz30_1 := blk_frozen BK210.out 1; have hfz30_2 := blk_frozen BK210.out 2; have hcz31_0 : w27.cell? ⟨gb203, 0, none⟩ = some (.int .i64 x204000_1) := (blk_cell BK203.out 0).trans rfl; have hcz31_1 : w27.cell? ⟨gb203, 1, none⟩ = some (.int .i64 x204001_1) := (blk_cell BK203.out 1).trans rfl; have hcz31_2 : w27.cell? ⟨gb203, 2, none⟩ = some (.int .i64 x204002_1) := (blk_cell BK203.out 2).trans rfl; have hfz31_0 := blk_frozen BK203.out 0; have hfz31_1 := blk_frozen BK203.out 1; have hfz31_2 := blk_frozen BK203.out 2))
                          have n0_ : Aside0 ((((w27.setCell ⟨gb210, 0, none⟩ (.int .i64 t206)).setCell ⟨gb210, 1, none⟩ (.int .i64 t207)).setCell ⟨gb210, 2, none⟩ (.int .i64 t208)).heap[gb203]? = some (.cells #[.int .i64 x204000_1, .int .i64 x204001_1, .int .i64 x204002_1] 37 (0, 0))) := ⟨by (with_reducible repeat (first | refine blk_drewN ?_ _ | refine blk_drew ?_ | refine blk_alloc ?_ _)); refine blk_far ?_ NB203_210.out _; (with_reducible repeat (first | refine blk_drewN ?_ _ | refine blk_drew ?_ | refine blk_alloc ?_ _)); refine blk_far ?_ NB203_210.out _; (with_reducible repeat (first | refine blk_drewN ?_ _ | refine blk_drew ?_ | refine blk_alloc ?_ _)); refine blk_far ?_ NB203_210.out _; (with_reducible repeat (first | refine blk_drewN ?_ _ | refine blk_drew ?_ | refine blk_alloc ?_ _)); exact BK203.out⟩
                          have n1_ : Aside0 ((((w27.setCell ⟨gb210, 0, none⟩ (.int .i64 t206)).setCell ⟨gb210, 1, none⟩ (.int .i64 t207)).setCell ⟨gb210, 2, none⟩ (.int .i64 t208)).heap[gb205]? = some (.cells #[.string ((rd_T43 l0 x21_1).f0), .int .i64 ((rd_T43 l0 x21_1).f1), .int .i64 ((rd_T43 l0 x21_1).f2), .int .i64 ((rd_T43 l0 x21_1).f3), .int .i64 ((rd_T43 l0 x21_1).f4.f0), .int .i64 ((rd_T43 l0 x21_1).f4.f1), .int .i64 ((rd_T43 l0 x21_1).f4.f2), .int .i64 ((rd_T43 l0 x21_1).f5.f0), .int .i64 ((rd_T43 l0 x21_1).f5.f1), .int .i64 ((rd_T43 l0 x21_1).f6), .string ((rd_T43 l0 x21_1).f7)] 43 (0, 0))) := ⟨by (with_reducible repeat (first | refine blk_drewN ?_ _ | refine blk_drew ?_ | refine blk_alloc ?_ _)); refine blk_far ?_ NB205_210.out _; (with_reducible repeat (first | refine blk_drewN ?_ _ | refine blk_drew ?_ | refine blk_alloc ?_ _)); refine blk_far ?_ NB205_210.out _; (with_reducible repeat (first | refine blk_drewN ?_ _ | refine blk_drew ?_ | refine blk_alloc ?_ _)); refine blk_far ?_ NB205_210.out _; (with_reducible repeat (first | refine blk_drewN ?_ _ | refine blk_drew ?_ | refine blk_alloc ?_ _)); exact BK205.out⟩
                          have n2_ : Aside0 ((((w27.setCell ⟨gb210, 0, none⟩ (.int .i64 t206)).setCell ⟨gb210, 1, none⟩ (.int .i64 t207)).setCell ⟨gb210, 2, none⟩ (.int .i64 t208)).heap[gb210]? = some (.cells #[.int .i64 t206, .int .i64 t207, .int .i64 t208] 37 (0, 0))) := ⟨by (with_reducible repeat (first | refine blk_drewN ?_ _ | refine blk_drew ?_ | refine blk_alloc ?_ _)); refine blk_put (cs := #[.int .i64 t206, .int .i64 t207, .int .i64 0]) ?_ 2 _ rfl; (with_reducible repeat (first | refine blk_drewN ?_ _ | refine blk_drew ?_ | refine blk_alloc ?_ _)); refine blk_put (cs := #[.int .i64 t206, .int .i64 0, .int .i64 0]) ?_ 1 _ rfl; (with_reducible repeat (first | refine blk_drewN ?_ _ | refine blk_drew ?_ | refine blk_alloc ?_ _)); refine blk_put (cs := #[.int .i64 0, .int .i64 0, .int .i64 0]) ?_ 0 _ rfl; (with_reducible repeat (first | refine blk_drewN ?_ _ | refine blk_drew ?_ | refine blk_alloc ?_ _)); exact BK210.out⟩
                          have n3_ : Aside0 (Below w.heap.size w (((w27.setCell ⟨gb210, 0, none⟩ (.int .i64 t206)).setCell ⟨gb210, 1, none⟩ (.int .i64 t207)).setCell ⟨gb210, 2, none⟩ (.int .i64 t208))) := ⟨by repeat (first | (with_reducible first | exact HB.out | apply below_alloc | apply pw_below_drewN | apply below_drew1 | refine below_set ?_ GE203.out | refine below_set ?_ GE205.out | refine below_set ?_ GE210.out) | exact HB.out)⟩
                          (try clear BK203)
                          (try clear BK205)
                          (try clear BK210)
                          (try clear HB)
                          generalize (((w27.setCell ⟨gb210, 0, none⟩ (.int .i64 t206)).setCell ⟨gb210, 1, none⟩ (.int .i64 t207)).setCell ⟨gb210, 2, none⟩ (.int .i64 t208)) = w32 at n0_ n1_ n2_ n3_ ⊢
                          have BK203 := n0_
                          have BK205 := n1_
                          have BK210 := n2_
                          have HB := n3_
                          clear n0_ n1_ n2_ n3_
                          have n0_ := Aside0.mk (blk_drew BK203.out)
                          have n1_ := Aside0.mk (blk_drew BK205.out)
                          have n2_ := Aside0.mk (blk_drew BK210.out)
                          have n3_ := Aside0.mk (below_drew1 HB.out)
                          clear BK203
                          clear BK205
                          clear BK210
                          clear HB
                          have BK203 := n0_
                          have BK205 := n1_
                          have BK210 := n2_
                          have HB := n3_
                          clear n0_ n1_ n2_ n3_
                          refine start_ (n := 6) (S := fun w' => w'.cell? ⟨gb210, 0, none⟩ = some (.int .i64 t206) ∧ w'.cell? ⟨gb210, 1, none⟩ = some (.int .i64 t207) ∧ w'.cell? ⟨gb210, 2, none⟩ = some (.int .i64 t208) ∧ w'.cell? ⟨gb205, 0, none⟩ = some (.string ((rd_T43 l0 x21_1).f0)) ∧ w'.cell? ⟨gb205, 1, none⟩ = some (.int .i64 ((rd_T43 l0 x21_1).f1)) ∧ w'.cell? ⟨gb205, 2, none⟩ = some (.int .i64 ((rd_T43 l0 x21_1).f2)) ∧ w'.cell? ⟨gb205, 3, none⟩ = some (.int .i64 ((rd_T43 l0 x21_1).f3)) ∧ w'.cell? ⟨gb205, 4, none⟩ = some (.int .i64 ((rd_T43 l0 x21_1).f4.f0)) ∧ w'.cell? ⟨gb205, 5, none⟩ = some (.int .i64 ((rd_T43 l0 x21_1).f4.f1)) ∧ w'.cell? ⟨gb205, 6, none⟩ = some (.int .i64 ((rd_T43 l0 x21_1).f4.f2)) ∧ w'.cell? ⟨gb205, 7, none⟩ = some (.int .i64 ((rd_T43 l0 x21_1).f5.f0)) ∧ w'.cell? ⟨gb205, 8, none⟩ = some (.int .i64 ((rd_T43 l0 x21_1).f5.f1)) ∧ w'.cell? ⟨gb205, 9, none⟩ = some (.int .i64 ((rd_T43 l0 x21_1).f6)) ∧ w'.cell? ⟨gb205, 10, none⟩ = some (.string ((rd_T43 l0 x21_1).f7))) (ds := []) #[false, false, false, false, false, false] (by kernel_rfl) rfl rfl ⟨(blk_cell BK210.out 0).trans rfl, (blk_cell BK210.out 1).trans rfl, (blk_cell BK210.out 2).trans rfl, (blk_cell BK205.out 0).trans rfl, (blk_cell BK205.out 1).trans rfl, (blk_cell BK205.out 2).trans rfl, (blk_cell BK205.out 3).trans rfl, (blk_cell BK205.out 4).trans rfl, (blk_cell BK205.out 5).trans rfl, (blk_cell BK205.out 6).trans rfl, (blk_cell BK205.out 7).trans rfl, (blk_cell BK205.out 8).trans rfl, (blk_cell BK205.out 9).trans rfl, (blk_cell BK205.out 10).trans rfl⟩ (fun hHeld => ?_)
                          generalize w32.drew = w33 at BK203 BK205 BK210 HB hHeld ⊢
                          refine pure_ (i := 1) (N := some 54) (v := ?_) (a' := ?_) #[false, true, false, false, false, false] rfl rfl (by kernel_rfl) (fun _ _ _ h => h) (Or.inl ⟨by rfl, ?_⟩) ?_ ?_
                          rotate_left
                          · intro w'
                            go_simp
                            with_reducible rfl
                          rotate_left
                          · simp only [Act.put, List.setIfInBounds_toArray, List.set_cons_zero, List.set_cons_succ, i64_w, i32_w]
                            rfl
                          refine take_ (i := 0) (N := some 53) (v := ?_) (a' := ?_) #[true, true, false, false, false, false] rfl rfl (by kernel_rfl) (fun _ _ _ h => h) (Or.inl ⟨by rfl, ?_⟩) hHeld ?_ ?_
                          rotate_left
                          · rintro w' ⟨s0, s1, s2, s3, s4, s5, s6, s7, s8, s9, s10, s11, s12, s13⟩
                            go_simp
                            with_reducible rfl
                          rotate_left
                          · simp only [Act.put, List.setIfInBounds_toArray, List.set_cons_zero, List.set_cons_succ, i64_w, i32_w]
                            rfl
                          refine take_ (i := 2) (N := some 55) (v := ?_) (a' := ?_) #[true, true, true, false, false, false] rfl rfl (by kernel_rfl) (fun _ _ _ h => h) (Or.inl ⟨by rfl, ?_⟩) hHeld ?_ ?_
                          rotate_left
                          · rintro w' ⟨s0, s1, s2, s3, s4, s5, s6, s7, s8, s9, s10, s11, s12, s13⟩
                            go_simp
                            with_reducible rfl
                          rotate_left
                          · simp only [Act.put, List.setIfInBounds_toArray, List.set_cons_zero, List.set_cons_succ, i64_w, i32_w]
                            rfl
                          refine one_ (i := 3) (N := none) #[true, true, true, true, false, false] rfl rfl (by kernel_rfl) (by decide) (fun K hK => ?_)
                          have hs34 : w33.cell? ⟨gb203, 0, none⟩ = some (.int .i64 x204000_1) := (blk_cell BK203.out 0).trans rfl
                          have hfs34 := blk_frozen BK203.out 0
                          have hns34_1 := NB205_203.out
                          have hns34_2 := NB210_203.out
                          have hms34_1 := NB203_205.out
                          have hms34_2 := NB203_210.out
                          have hs35 : w33.cell? ⟨gb203, 1, none⟩ = some (.int .i64 x204001_1) := (blk_cell BK203.out 1).trans rfl
                          have hfs35 := blk_frozen BK203.out 1
                          have hns35_1 := NB205_203.out
                          have hns35_2 := NB210_203.out
                          have hms35_1 := NB203_205.out
                          have hms35_2 := NB203_210.out
                          have hs36 : w33.cell? ⟨gb203, 2, none⟩ = some (.int .i64 x204002_1) := (blk_cell BK203.out 2).trans rfl
                          have hfs36 := blk_frozen BK203.out 2
                          have hns36_1 := NB205_203.out
                          have hns36_2 := NB210_203.out
                          have hms36_1 := NB203_205.out
                          have hms36_2 := NB203_210.out
                          refine skip_ (w1 := ?_) (by rfl) rfl ?_ ?_
                          rotate_left
                          · go_simp
                            rfl
                          refine hK.out _ _ ⟨((cell_far (p := ⟨gb203, _, none⟩) NB210_203.out _).trans (((cell_far (p := ⟨gb203, _, none⟩) NB210_203.out _).trans (((cell_far (p := ⟨gb203, _, none⟩) NB210_203.out _).trans (hHeld.1)))))), ((cell_far (p := ⟨gb203, _, none⟩) NB210_203.out _).trans (((cell_far (p := ⟨gb203, _, none⟩) NB210_203.out _).trans (((cell_far (p := ⟨gb203, _, none⟩) NB210_203.out _).trans (hHeld.2.1)))))), ((cell_far (p := ⟨gb203, _, none⟩) NB210_203.out _).trans (((cell_far (p := ⟨gb203, _, none⟩) NB210_203.out _).trans (((cell_far (p := ⟨gb203, _, none⟩) NB210_203.out _).trans (hHeld.2.2.1)))))), ((cell_far (p := ⟨gb203, _, none⟩) NB205_203.out _).trans (((cell_far (p := ⟨gb203, _, none⟩) NB205_203.out _).trans (((cell_far (p := ⟨gb203, _, none⟩) NB205_203.out _).trans (hHeld.2.2.2.1)))))), ((cell_far (p := ⟨gb203, _, none⟩) NB205_203.out _).trans (((cell_far (p := ⟨gb203, _, none⟩) NB205_203.out _).trans (((cell_far (p := ⟨gb203, _, none⟩) NB205_203.out _).trans (hHeld.2.2.2.2.1)))))), ((cell_far (p := ⟨gb203, _, none⟩) NB205_203.out _).trans (((cell_far (p := ⟨gb203, _, none⟩) NB205_203.out _).trans (((cell_far (p := ⟨gb203, _, none⟩) NB205_203.out _).trans (hHeld.2.2.2.2.2.1)))))), ((cell_far (p := ⟨gb203, _, none⟩) NB205_203.out _).trans (((cell_far (p := ⟨gb203, _, none⟩) NB205_203.out _).trans (((cell_far (p := ⟨gb203, _, none⟩) NB205_203.out _).trans (hHeld.2.2.2.2.2.2.1)))))), ((cell_far (p := ⟨gb203, _, none⟩) NB205_203.out _).trans (((cell_far (p := ⟨gb203, _, none⟩) NB205_203.out _).trans (((cell_far (p := ⟨gb203, _, none⟩) NB205_203.out _).trans (hHeld.2.2.2.2.2.2.2.1)))))), ((cell_far (p := ⟨gb203, _, none⟩) NB205_203.out _).trans (((cell_far (p := ⟨gb203, _, none⟩) NB205_203.out _).trans (((cell_far (p := ⟨gb203, _, none⟩) NB205_203.out _).trans (hHeld.2.2.2.2.2.2.2.2.1)))))), ((cell_far (p := ⟨gb203, _, none⟩) NB205_203.out _).trans (((cell_far (p := ⟨gb203, _, none⟩) NB205_203.out _).trans (((cell_far (p := ⟨gb203, _, none⟩) NB205_203.out _).trans (hHeld.2.2.2.2.2.2.2.2.2.1)))))), ((cell_far (p := ⟨gb203, _, none⟩) NB205_203.out _).trans (((cell_far (p := ⟨gb203, _, none⟩) NB205_203.out _).trans (((cell_far (p := ⟨gb203, _, none⟩) NB205_203.out _).trans (hHeld.2.2.2.2.2.2.2.2.2.2.1)))))), ((cell_far (p := ⟨gb203, _, none⟩) NB205_203.out _).trans (((cell_far (p := ⟨gb203, _, none⟩) NB205_203.out _).trans (((cell_far (p := ⟨gb203, _, none⟩) NB205_203.out _).trans (hHeld.2.2.2.2.2.2.2.2.2.2.2.1)))))), ((cell_far (p := ⟨gb203, _, none⟩) NB205_203.out _).trans (((cell_far (p := ⟨gb203, _, none⟩) NB205_203.out _).trans (((cell_far (p := ⟨gb203, _, none⟩) NB205_203.out _).trans (hHeld.2.2.2.2.2.2.2.2.2.2.2.2.1)))))), ((cell_far (p := ⟨gb203, _, none⟩) NB205_203.out _).trans (((cell_far (p := ⟨gb203, _, none⟩) NB205_203.out _).trans (((cell_far (p := ⟨gb203, _, none⟩) NB205_203.out _).trans (hHeld.2.2.2.2.2.2.2.2.2.2.2.2.2))))))⟩ (fun hHeld => ?_)
                          clear hK K
                          refine pure_ (i := 4) (N := some 8) (v := ?_) (a' := ?_) #[true, true, true, true, true, false] rfl rfl (by kernel_rfl) (fun _ _ _ h => h) (Or.inl ⟨by rfl, ?_⟩) ?_ ?_
                          rotate_left
                          · intro w'
                            go_simp
                            with_reducible rfl
                          rotate_left
                          · simp only [Act.put, List.setIfInBounds_toArray, List.set_cons_zero, List.set_cons_succ, i64_w, i32_w]
                            rfl
                          refine pure_ (i := 5) (N := some 9) (v := ?_) (a' := ?_) #[true, true, true, true, true, true] rfl rfl (by kernel_rfl) (fun _ _ _ h => h) (Or.inl ⟨by rfl, ?_⟩) ?_ ?_
                          rotate_left
                          · intro w'
                            go_simp
                            with_reducible rfl
                          rotate_left
                          · simp only [Act.put, List.setIfInBounds_toArray, List.set_cons_zero, List.set_cons_succ, i64_w, i32_w]
                            rfl
                          refine done_ (by kernel_rfl) ?_
                          try go_wp2
                          go_roundg kj9
                          case measure => have := HK1.out; have := HJ9.out; omega
                          case rel => exact ⟨(((rd_T43 l0 x21_1).f7)), (true), (wrap64 (x21_1 + 1)), (t206), (t207), (t208), (by first | rfl | (simp; done) | (simp [*]; done)), (by first | rfl | (simp; done) | (simp [*]; done)), (by first | rfl | (simp; done) | (simp [*]; done)), H', ⟨by have := HK1.out; have := HJ9.out; omega⟩, ⟨by (with_reducible repeat (first | refine blk_drewN ?_ _ | refine blk_drew ?_ | refine blk_alloc ?_ _)); refine blk_put (cs := #[.int .i64 t206, .int .i64 t207, .int .i64 x204002_1]) ?_ 2 _ rfl; (with_reducible repeat (first | refine blk_drewN ?_ _ | refine blk_drew ?_ | refine blk_alloc ?_ _)); refine blk_put (cs := #[.int .i64 t206, .int .i64 x204001_1, .int .i64 x204002_1]) ?_ 1 _ rfl; (with_reducible repeat (first | refine blk_drewN ?_ _ | refine blk_drew ?_ | refine blk_alloc ?_ _)); refine blk_put (cs := #[.int .i64 x204000_1, .int .i64 x204001_1, .int .i64 x204002_1]) ?_ 0 _ rfl; (with_reducible repeat (first | refine blk_drewN ?_ _ | refine blk_drew ?_ | refine blk_alloc ?_ _)); exact BK203.out⟩, ⟨by repeat (first | (with_reducible first | exact HB.out | apply below_alloc | apply pw_below_drewN | apply below_drew1 | refine below_set ?_ GE203.out | refine below_set ?_ GE205.out | refine below_set ?_ GE210.out) | exact HB.out)⟩⟩
                        · rw [if_neg c23] at H
                          have c23b0 : decide (t208 < x204002_1) = false := decide_eq_false c23
                          clear c23
                          have H' := Aside0.mk H
                          clear H
                          have hnb37 := NB205_203.out
                          have hnc37 := NB203_205.out
                          have hcz38_0 : wc.cell? ⟨gb205, 0, none⟩ = some (.string ((rd_T43 l0 x21_1).f0)) := (blk_cell BK205.out 0).trans rfl
                          have hcz38_1 : wc.cell? ⟨gb205, 1, none⟩ = some (.int .i64 ((rd_T43 l0 x21_1).f1)) := (blk_cell BK205.out 1).trans rfl
                          have hcz38_2 : wc.cell? ⟨gb205, 2, none⟩ = some (.int .i64 ((rd_T43 l0 x21_1).f2)) := (blk_cell BK205.out 2).trans rfl
                          have hcz38_3 : wc.cell? ⟨gb205, 3, none⟩ = some (.int .i64 ((rd_T43 l0 x21_1).f3)) := (blk_cell BK205.out 3).trans rfl
                          have hcz38_4 : wc.cell? ⟨gb205, 4, none⟩ = some (.int .i64 ((rd_T43 l0 x21_1).f4.f0)) := (blk_cell BK205.out 4).trans rfl
                          have hcz38_5 : wc.cell? ⟨gb205, 5, none⟩ = some (.int .i64 ((rd_T43 l0 x21_1).f4.f1)) := (blk_cell BK205.out 5).trans rfl
                          have hcz38_6 : wc.cell? ⟨gb205, 6, none⟩ = some (.int .i64 ((rd_T43 l0 x21_1).f4.f2)) := (blk_cell BK205.out 6).trans rfl
                          have hcz38_7 : wc.cell? ⟨gb205, 7, none⟩ = some (.int .i64 ((rd_T43 l0 x21_1).f5.f0)) := (blk_cell BK205.out 7).trans rfl
                          have hcz38_8 : wc.cell? ⟨gb205, 8, none⟩ = some (.int .i64 ((rd_T43 l0 x21_1).f5.f1)) := (blk_cell BK205.out 8).trans rfl
                          have hcz38_9 : wc.cell? ⟨gb205, 9, none⟩ = some (.int .i64 ((rd_T43 l0 x21_1).f6)) := (blk_cell BK205.out 9).trans rfl
                          have hcz38_10 : wc.cell? ⟨gb205, 10, none⟩ = some (.string ((rd_T43 l0 x21_1).f7)) := (blk_cell BK205.out 10).trans rfl
                          have hfz38_0 := blk_frozen BK205.out 0
                          have hfz38_1 := blk_frozen BK205.out 1
                          have hfz38_2 := blk_frozen BK205.out 2
                          have hfz38_3 := blk_frozen BK205.out 3
                          have hfz38_4 := blk_frozen BK205.out 4
                          have hfz38_5 := blk_frozen BK205.out 5
                          have hfz38_6 := blk_frozen BK205.out 6
                          have hfz38_7 := blk_frozen BK205.out 7
                          have hfz38_8 := blk_frozen BK205.out 8
                          have hfz38_9 := blk_frozen BK205.out 9
                          have hfz38_10 := blk_frozen BK205.out 10
                          go_wp2_with (first | ((with_reducible refine gate_callee (f := 23) rfl ?_); refine goesL_ (some 38) rfl rfl Try.func23 (by kernel_rfl) rfl #[.agg #[.string ((rd_T43 l0 x21_1).f0), .int .i64 ((rd_T43 l0 x21_1).f1), .int .i64 ((rd_T43 l0 x21_1).f2), .int .i64 ((rd_T43 l0 x21_1).f3), .int .i64 ((rd_T43 l0 x21_1).f4.f0), .int .i64 ((rd_T43 l0 x21_1).f4.f1), .int .i64 ((rd_T43 l0 x21_1).f4.f2), .int .i64 ((rd_T43 l0 x21_1).f5.f0), .int .i64 ((rd_T43 l0 x21_1).f5.f1), .int .i64 ((rd_T43 l0 x21_1).f6), .string ((rd_T43 l0 x21_1).f7)], .int .i64 x21_1] rfl (by (try simp only [List.map_toArray, List.map_cons, List.map_nil]); first | done | rfl | (simp only [List.length_drop, List.length_take]; rfl)) ?_; (with_reducible refine (onset_first.calls kj9 ((rd_T43 l0 x21_1).f0) ((rd_T43 l0 x21_1).f1) ((rd_T43 l0 x21_1).f2) ((rd_T43 l0 x21_1).f3) ((rd_T43 l0 x21_1).f4.f0) ((rd_T43 l0 x21_1).f4.f1) ((rd_T43 l0 x21_1).f4.f2) ((rd_T43 l0 x21_1).f5.f0) ((rd_T43 l0 x21_1).f5.f1) ((rd_T43 l0 x21_1).f6) ((rd_T43 l0 x21_1).f7) x21_1 t206 t207 t208 true _ A20.out).mono ?_); rintro e w39 ⟨rfl, hb⟩; refine ⟨_, rfl, ?_⟩; have n0_ := Aside0.mk (blk_below (g := gb203) (o := .cells #[.int .i64 x204000_1, .int .i64 x204001_1, .int .i64 x204002_1] 37 (0, 0)) (by (with_reducible repeat (first | refine blk_drewN ?_ _ | refine blk_drew ?_ | refine blk_alloc ?_ _)); exact BK203.out) hb); have n1_ := Aside0.mk (blk_below (g := gb205) (o := .cells #[.string ((rd_T43 l0 x21_1).f0), .int .i64 ((rd_T43 l0 x21_1).f1), .int .i64 ((rd_T43 l0 x21_1).f2), .int .i64 ((rd_T43 l0 x21_1).f3), .int .i64 ((rd_T43 l0 x21_1).f4.f0), .int .i64 ((rd_T43 l0 x21_1).f4.f1), .int .i64 ((rd_T43 l0 x21_1).f4.f2), .int .i64 ((rd_T43 l0 x21_1).f5.f0), .int .i64 ((rd_T43 l0 x21_1).f5.f1), .int .i64 ((rd_T43 l0 x21_1).f6), .string ((rd_T43 l0 x21_1).f7)] 43 (0, 0)) (by (with_reducible repeat (first | refine blk_drewN ?_ _ | refine blk_drew ?_ | refine blk_alloc ?_ _)); exact BK205.out) hb); have n2_ := Aside0.mk (below_step (by repeat (first | (with_reducible first | exact HB.out | apply below_alloc | apply pw_below_drewN | apply below_drew1 | refine below_set ?_ GE203.out | refine below_set ?_ GE205.out) | exact HB.out)) hb); clear BK203; clear BK205; clear HB; have BK203 := n0_; have BK205 := n1_; have HB := n2_; clear n0_ n1_ n2_; (try clear hb); (try clear hb2); (try clear hk); (try clear hi)) | ((with_reducible refine gate_dst (N := 12) rfl ?_); refine box_event ?hg (N := 12) ?hd (cs := #[.int .i64 0, .int .i64 0, .int .i64 0]) (t := 37) ?hr ?_; (case hd => rfl); (case hg => rfl); (case hr => first | (go_simp; done) | (go_simp; rfl)); intro gb210 hg w40 hbox hb; have n0_ := Aside0.mk (blk_below (g := gb203) (o := .cells #[.int .i64 x204000_1, .int .i64 x204001_1, .int .i64 x204002_1] 37 (0, 0)) (by (with_reducible repeat (first | refine blk_drewN ?_ _ | refine blk_drew ?_ | refine blk_alloc ?_ _)); exact BK203.out) hb); have n1_ := Aside0.mk (blk_below (g := gb205) (o := .cells #[.string ((rd_T43 l0 x21_1).f0), .int .i64 ((rd_T43 l0 x21_1).f1), .int .i64 ((rd_T43 l0 x21_1).f2), .int .i64 ((rd_T43 l0 x21_1).f3), .int .i64 ((rd_T43 l0 x21_1).f4.f0), .int .i64 ((rd_T43 l0 x21_1).f4.f1), .int .i64 ((rd_T43 l0 x21_1).f4.f2), .int .i64 ((rd_T43 l0 x21_1).f5.f0), .int .i64 ((rd_T43 l0 x21_1).f5.f1), .int .i64 ((rd_T43 l0 x21_1).f6), .string ((rd_T43 l0 x21_1).f7)] 43 (0, 0)) (by (with_reducible repeat (first | refine blk_drewN ?_ _ | refine blk_drew ?_ | refine blk_alloc ?_ _)); exact BK205.out) hb); have n2_ := Aside0.mk (below_step (by repeat (first | (with_reducible first | exact HB.out | apply below_alloc | apply pw_below_drewN | apply below_drew1 | refine below_set ?_ GE203.out | refine below_set ?_ GE205.out) | exact HB.out)) hb); have n3_ := Aside0.mk (hbox); have n4_ := Aside0.mk ((by rw [hg]; exact (below_size (by repeat (first | (with_reducible first | exact HB.out | apply below_alloc | apply pw_below_drewN | apply below_drew1 | refine below_set ?_ GE203.out | refine below_set ?_ GE205.out) | exact HB.out))) : w.heap.size ≤ gb210)); have n5_ := Aside0.mk ((by rw [hg]; exact (below_size (by repeat (first | (with_reducible first | exact HB.out | apply below_alloc | apply pw_below_drewN | apply below_drew1 | refine below_set ?_ GE203.out | refine below_set ?_ GE205.out) | exact HB.out))) : w.heap.size ≤ gb210)); have n6_ := Aside0.mk ((by rw [hg]; exact Nat.ne_of_lt (blk_lt (g := gb203) (o := .cells #[.int .i64 x204000_1, .int .i64 x204001_1, .int .i64 x204002_1] 37 (0, 0)) (by (with_reducible repeat (first | refine blk_drewN ?_ _ | refine blk_drew ?_ | refine blk_alloc ?_ _)); exact BK203.out)) : gb203 ≠ gb210)); have n7_ := Aside0.mk ((by rw [hg]; exact Nat.ne_of_gt (blk_lt (g := gb203) (o := .cells #[.int .i64 x204000_1, .int .i64 x204001_1, .int .i64 x204002_1] 37 (0, 0)) (by (with_reducible repeat (first | refine blk_drewN ?_ _ | refine blk_drew ?_ | refine blk_alloc ?_ _)); exact BK203.out)) : gb210 ≠ gb203)); have n8_ := Aside0.mk ((by rw [hg]; exact Nat.ne_of_lt (blk_lt (g := gb205) (o := .cells #[.string ((rd_T43 l0 x21_1).f0), .int .i64 ((rd_T43 l0 x21_1).f1), .int .i64 ((rd_T43 l0 x21_1).f2), .int .i64 ((rd_T43 l0 x21_1).f3), .int .i64 ((rd_T43 l0 x21_1).f4.f0), .int .i64 ((rd_T43 l0 x21_1).f4.f1), .int .i64 ((rd_T43 l0 x21_1).f4.f2), .int .i64 ((rd_T43 l0 x21_1).f5.f0), .int .i64 ((rd_T43 l0 x21_1).f5.f1), .int .i64 ((rd_T43 l0 x21_1).f6), .string ((rd_T43 l0 x21_1).f7)] 43 (0, 0)) (by (with_reducible repeat (first | refine blk_drewN ?_ _ | refine blk_drew ?_ | refine blk_alloc ?_ _)); exact BK205.out)) : gb205 ≠ gb210)); have n9_ := Aside0.mk ((by rw [hg]; exact Nat.ne_of_gt (blk_lt (g := gb205) (o := .cells #[.string ((rd_T43 l0 x21_1).f0), .int .i64 ((rd_T43 l0 x21_1).f1), .int .i64 ((rd_T43 l0 x21_1).f2), .int .i64 ((rd_T43 l0 x21_1).f3), .int .i64 ((rd_T43 l0 x21_1).f4.f0), .int .i64 ((rd_T43 l0 x21_1).f4.f1), .int .i64 ((rd_T43 l0 x21_1).f4.f2), .int .i64 ((rd_T43 l0 x21_1).f5.f0), .int .i64 ((rd_T43 l0 x21_1).f5.f1), .int .i64 ((rd_T43 l0 x21_1).f6), .string ((rd_T43 l0 x21_1).f7)] 43 (0, 0)) (by (with_reducible repeat (first | refine blk_drewN ?_ _ | refine blk_drew ?_ | refine blk_alloc ?_ _)); exact BK205.out)) : gb210 ≠ gb205)); clear BK203; clear BK205; clear HB; have BK203 := n0_; have BK205 := n1_; have HB := n2_; have BK210 := n3_; have GW210 := n4_; have GE210 := n5_; have NB203_210 := n6_; have NB210_203 := n7_; have NB205_210 := n8_; have NB210_205 := n9_; clear n0_ n1_ n2_ n3_ n4_ n5_ n6_ n7_ n8_ n9_; clear hb hbox hg; have hnb41 := NB210_203.out; have hnc41 := NB203_210.out; have hnb42 := NB210_205.out; have hnc42 := NB205_210.out; have hcz43_0 : w40.cell? ⟨gb210, 0, none⟩ = some (.int .i64 0) := (blk_cell BK210.out 0).trans rfl; have hcz43_1 : w40.cell? ⟨gb210, 1, none⟩ = some (.int .i64 0) := (blk_cell BK210.out 1).trans rfl; have hcz43_2 : w40.cell? ⟨gb210, 2, none⟩ = some (.int .i64 0) := (blk_cell BK210.out 2).trans rfl; have hfz43_0 := blk_frozen BK210.out 0; have hfz43_1 := blk_frozen BK210.out 1; have hfz43_2 := blk_frozen BK210.out 2; have hcz44_0 : w40.cell? ⟨gb203, 0, none⟩ = some (.int .i64 x204000_1) := (blk_cell BK203.out 0).trans rfl; have hcz44_1 : w40.cell? ⟨gb203, 1, none⟩ = some (.int .i64 x204001_1) := (blk_cell BK203.out 1).trans rfl; have hcz44_2 : w40.cell? ⟨gb203, 2, none⟩ = some (.int .i64 x204002_1) := (blk_cell BK203.out 2).trans rfl; have hfz44_0 := blk_frozen BK203.out 0; have hfz44_1 := blk_frozen BK203.out 1; have hfz44_2 := blk_frozen BK203.out 2))
                          go_roundg kj9
                          case measure => have := HK1.out; have := HJ9.out; omega
                          case rel => exact ⟨(x8_1), (true), (wrap64 (x21_1 + 1)), (x204000_1), (x204001_1), (x204002_1), (by first | rfl | (simp; done) | (simp [*]; done)), (by first | rfl | (simp; done) | (simp [*]; done)), (by first | rfl | (simp; done) | (simp [*]; done)), H', ⟨by have := HK1.out; have := HJ9.out; omega⟩, ⟨by (with_reducible repeat (first | refine blk_drewN ?_ _ | refine blk_drew ?_ | refine blk_alloc ?_ _)); refine blk_far ?_ NB203_210.out _; (with_reducible repeat (first | refine blk_drewN ?_ _ | refine blk_drew ?_ | refine blk_alloc ?_ _)); refine blk_far ?_ NB203_210.out _; (with_reducible repeat (first | refine blk_drewN ?_ _ | refine blk_drew ?_ | refine blk_alloc ?_ _)); refine blk_far ?_ NB203_210.out _; (with_reducible repeat (first | refine blk_drewN ?_ _ | refine blk_drew ?_ | refine blk_alloc ?_ _)); exact BK203.out⟩, ⟨by repeat (first | (with_reducible first | exact HB.out | apply below_alloc | apply pw_below_drewN | apply below_drew1 | refine below_set ?_ GE203.out | refine below_set ?_ GE205.out | refine below_set ?_ GE210.out) | exact HB.out)⟩⟩
                      · replace c22 := Bool.eq_false_iff.mpr c22
                        subst c22
                        have H1 : (onset_Letter.l0 kj9 a1 ((rd_T43 l0 x21_1).f7) true l0 (l0.length : Int) (wrap64 (x21_1 + 1)) t206 t207 t208) = some (r1, r2) := by rw [if_neg (show ¬ (false = true) by decide)] at H; exact H
                        clear H
                        have H := H1
                        clear H1
                        have H' := Aside0.mk H
                        clear H
                        have hnb45 := NB205_203.out
                        have hnc45 := NB203_205.out
                        have hcz46_0 : wc.cell? ⟨gb205, 0, none⟩ = some (.string ((rd_T43 l0 x21_1).f0)) := (blk_cell BK205.out 0).trans rfl
                        have hcz46_1 : wc.cell? ⟨gb205, 1, none⟩ = some (.int .i64 ((rd_T43 l0 x21_1).f1)) := (blk_cell BK205.out 1).trans rfl
                        have hcz46_2 : wc.cell? ⟨gb205, 2, none⟩ = some (.int .i64 ((rd_T43 l0 x21_1).f2)) := (blk_cell BK205.out 2).trans rfl
                        have hcz46_3 : wc.cell? ⟨gb205, 3, none⟩ = some (.int .i64 ((rd_T43 l0 x21_1).f3)) := (blk_cell BK205.out 3).trans rfl
                        have hcz46_4 : wc.cell? ⟨gb205, 4, none⟩ = some (.int .i64 ((rd_T43 l0 x21_1).f4.f0)) := (blk_cell BK205.out 4).trans rfl
                        have hcz46_5 : wc.cell? ⟨gb205, 5, none⟩ = some (.int .i64 ((rd_T43 l0 x21_1).f4.f1)) := (blk_cell BK205.out 5).trans rfl
                        have hcz46_6 : wc.cell? ⟨gb205, 6, none⟩ = some (.int .i64 ((rd_T43 l0 x21_1).f4.f2)) := (blk_cell BK205.out 6).trans rfl
                        have hcz46_7 : wc.cell? ⟨gb205, 7, none⟩ = some (.int .i64 ((rd_T43 l0 x21_1).f5.f0)) := (blk_cell BK205.out 7).trans rfl
                        have hcz46_8 : wc.cell? ⟨gb205, 8, none⟩ = some (.int .i64 ((rd_T43 l0 x21_1).f5.f1)) := (blk_cell BK205.out 8).trans rfl
                        have hcz46_9 : wc.cell? ⟨gb205, 9, none⟩ = some (.int .i64 ((rd_T43 l0 x21_1).f6)) := (blk_cell BK205.out 9).trans rfl
                        have hcz46_10 : wc.cell? ⟨gb205, 10, none⟩ = some (.string ((rd_T43 l0 x21_1).f7)) := (blk_cell BK205.out 10).trans rfl
                        have hfz46_0 := blk_frozen BK205.out 0
                        have hfz46_1 := blk_frozen BK205.out 1
                        have hfz46_2 := blk_frozen BK205.out 2
                        have hfz46_3 := blk_frozen BK205.out 3
                        have hfz46_4 := blk_frozen BK205.out 4
                        have hfz46_5 := blk_frozen BK205.out 5
                        have hfz46_6 := blk_frozen BK205.out 6
                        have hfz46_7 := blk_frozen BK205.out 7
                        have hfz46_8 := blk_frozen BK205.out 8
                        have hfz46_9 := blk_frozen BK205.out 9
                        have hfz46_10 := blk_frozen BK205.out 10
                        try go_wp2_with (first | ((with_reducible refine gate_callee (f := 23) rfl ?_); refine goesL_ (some 38) rfl rfl Try.func23 (by kernel_rfl) rfl #[.agg #[.string ((rd_T43 l0 x21_1).f0), .int .i64 ((rd_T43 l0 x21_1).f1), .int .i64 ((rd_T43 l0 x21_1).f2), .int .i64 ((rd_T43 l0 x21_1).f3), .int .i64 ((rd_T43 l0 x21_1).f4.f0), .int .i64 ((rd_T43 l0 x21_1).f4.f1), .int .i64 ((rd_T43 l0 x21_1).f4.f2), .int .i64 ((rd_T43 l0 x21_1).f5.f0), .int .i64 ((rd_T43 l0 x21_1).f5.f1), .int .i64 ((rd_T43 l0 x21_1).f6), .string ((rd_T43 l0 x21_1).f7)], .int .i64 x21_1] rfl (by (try simp only [List.map_toArray, List.map_cons, List.map_nil]); first | done | rfl | (simp only [List.length_drop, List.length_take]; rfl)) ?_; (with_reducible refine (onset_first.calls kj9 ((rd_T43 l0 x21_1).f0) ((rd_T43 l0 x21_1).f1) ((rd_T43 l0 x21_1).f2) ((rd_T43 l0 x21_1).f3) ((rd_T43 l0 x21_1).f4.f0) ((rd_T43 l0 x21_1).f4.f1) ((rd_T43 l0 x21_1).f4.f2) ((rd_T43 l0 x21_1).f5.f0) ((rd_T43 l0 x21_1).f5.f1) ((rd_T43 l0 x21_1).f6) ((rd_T43 l0 x21_1).f7) x21_1 t206 t207 t208 true _ A20.out).mono ?_); rintro e w47 ⟨rfl, hb⟩; refine ⟨_, rfl, ?_⟩; have n0_ := Aside0.mk (blk_below (g := gb203) (o := .cells #[.int .i64 x204000_1, .int .i64 x204001_1, .int .i64 x204002_1] 37 (0, 0)) (by (with_reducible repeat (first | refine blk_drewN ?_ _ | refine blk_drew ?_ | refine blk_alloc ?_ _)); exact BK203.out) hb); have n1_ := Aside0.mk (blk_below (g := gb205) (o := .cells #[.string ((rd_T43 l0 x21_1).f0), .int .i64 ((rd_T43 l0 x21_1).f1), .int .i64 ((rd_T43 l0 x21_1).f2), .int .i64 ((rd_T43 l0 x21_1).f3), .int .i64 ((rd_T43 l0 x21_1).f4.f0), .int .i64 ((rd_T43 l0 x21_1).f4.f1), .int .i64 ((rd_T43 l0 x21_1).f4.f2), .int .i64 ((rd_T43 l0 x21_1).f5.f0), .int .i64 ((rd_T43 l0 x21_1).f5.f1), .int .i64 ((rd_T43 l0 x21_1).f6), .string ((rd_T43 l0 x21_1).f7)] 43 (0, 0)) (by (with_reducible repeat (first | refine blk_drewN ?_ _ | refine blk_drew ?_ | refine blk_alloc ?_ _)); exact BK205.out) hb); have n2_ := Aside0.mk (below_step (by repeat (first | (with_reducible first | exact HB.out | apply below_alloc | apply pw_below_drewN | apply below_drew1 | refine below_set ?_ GE203.out | refine below_set ?_ GE205.out) | exact HB.out)) hb); clear BK203; clear BK205; clear HB; have BK203 := n0_; have BK205 := n1_; have HB := n2_; clear n0_ n1_ n2_; (try clear hb); (try clear hb2); (try clear hk); (try clear hi)) | ((with_reducible refine gate_dst (N := 12) rfl ?_); refine box_event ?hg (N := 12) ?hd (cs := #[.int .i64 0, .int .i64 0, .int .i64 0]) (t := 37) ?hr ?_; (case hd => rfl); (case hg => rfl); (case hr => first | (go_simp; done) | (go_simp; rfl)); intro gb210 hg w48 hbox hb; have n0_ := Aside0.mk (blk_below (g := gb203) (o := .cells #[.int .i64 x204000_1, .int .i64 x204001_1, .int .i64 x204002_1] 37 (0, 0)) (by (with_reducible repeat (first | refine blk_drewN ?_ _ | refine blk_drew ?_ | refine blk_alloc ?_ _)); exact BK203.out) hb); have n1_ := Aside0.mk (blk_below (g := gb205) (o := .cells #[.string ((rd_T43 l0 x21_1).f0), .int .i64 ((rd_T43 l0 x21_1).f1), .int .i64 ((rd_T43 l0 x21_1).f2), .int .i64 ((rd_T43 l0 x21_1).f3), .int .i64 ((rd_T43 l0 x21_1).f4.f0), .int .i64 ((rd_T43 l0 x21_1).f4.f1), .int .i64 ((rd_T43 l0 x21_1).f4.f2), .int .i64 ((rd_T43 l0 x21_1).f5.f0), .int .i64 ((rd_T43 l0 x21_1).f5.f1), .int .i64 ((rd_T43 l0 x21_1).f6), .string ((rd_T43 l0 x21_1).f7)] 43 (0, 0)) (by (with_reducible repeat (first | refine blk_drewN ?_ _ | refine blk_drew ?_ | refine blk_alloc ?_ _)); exact BK205.out) hb); have n2_ := Aside0.mk (below_step (by repeat (first | (with_reducible first | exact HB.out | apply below_alloc | apply pw_below_drewN | apply below_drew1 | refine below_set ?_ GE203.out | refine below_set ?_ GE205.out) | exact HB.out)) hb); have n3_ := Aside0.mk (hbox); have n4_ := Aside0.mk ((by rw [hg]; exact (below_size (by repeat (first | (with_reducible first | exact HB.out | apply below_alloc | apply pw_below_drewN | apply below_drew1 | refine below_set ?_ GE203.out | refine below_set ?_ GE205.out) | exact HB.out))) : w.heap.size ≤ gb210)); have n5_ := Aside0.mk ((by rw [hg]; exact (below_size (by repeat (first | (with_reducible first | exact HB.out | apply below_alloc | apply pw_below_drewN | apply below_drew1 | refine below_set ?_ GE203.out | refine below_set ?_ GE205.out) | exact HB.out))) : w.heap.size ≤ gb210)); have n6_ := Aside0.mk ((by rw [hg]; exact Nat.ne_of_lt (blk_lt (g := gb203) (o := .cells #[.int .i64 x204000_1, .int .i64 x204001_1, .int .i64 x204002_1] 37 (0, 0)) (by (with_reducible repeat (first | refine blk_drewN ?_ _ | refine blk_drew ?_ | refine blk_alloc ?_ _)); exact BK203.out)) : gb203 ≠ gb210)); have n7_ := Aside0.mk ((by rw [hg]; exact Nat.ne_of_gt (blk_lt (g := gb203) (o := .cells #[.int .i64 x204000_1, .int .i64 x204001_1, .int .i64 x204002_1] 37 (0, 0)) (by (with_reducible repeat (first | refine blk_drewN ?_ _ | refine blk_drew ?_ | refine blk_alloc ?_ _)); exact BK203.out)) : gb210 ≠ gb203)); have n8_ := Aside0.mk ((by rw [hg]; exact Nat.ne_of_lt (blk_lt (g := gb205) (o := .cells #[.string ((rd_T43 l0 x21_1).f0), .int .i64 ((rd_T43 l0 x21_1).f1), .int .i64 ((rd_T43 l0 x21_1).f2), .int .i64 ((rd_T43 l0 x21_1).f3), .int .i64 ((rd_T43 l0 x21_1).f4.f0), .int .i64 ((rd_T43 l0 x21_1).f4.f1), .int .i64 ((rd_T43 l0 x21_1).f4.f2), .int .i64 ((rd_T43 l0 x21_1).f5.f0), .int .i64 ((rd_T43 l0 x21_1).f5.f1), .int .i64 ((rd_T43 l0 x21_1).f6), .string ((rd_T43 l0 x21_1).f7)] 43 (0, 0)) (by (with_reducible repeat (first | refine blk_drewN ?_ _ | refine blk_drew ?_ | refine blk_alloc ?_ _)); exact BK205.out)) : gb205 ≠ gb210)); have n9_ := Aside0.mk ((by rw [hg]; exact Nat.ne_of_gt (blk_lt (g := gb205) (o := .cells #[.string ((rd_T43 l0 x21_1).f0), .int .i64 ((rd_T43 l0 x21_1).f1), .int .i64 ((rd_T43 l0 x21_1).f2), .int .i64 ((rd_T43 l0 x21_1).f3), .int .i64 ((rd_T43 l0 x21_1).f4.f0), .int .i64 ((rd_T43 l0 x21_1).f4.f1), .int .i64 ((rd_T43 l0 x21_1).f4.f2), .int .i64 ((rd_T43 l0 x21_1).f5.f0), .int .i64 ((rd_T43 l0 x21_1).f5.f1), .int .i64 ((rd_T43 l0 x21_1).f6), .string ((rd_T43 l0 x21_1).f7)] 43 (0, 0)) (by (with_reducible repeat (first | refine blk_drewN ?_ _ | refine blk_drew ?_ | refine blk_alloc ?_ _)); exact BK205.out)) : gb210 ≠ gb205)); clear BK203; clear BK205; clear HB; have BK203 := n0_; have BK205 := n1_; have HB := n2_; have BK210 := n3_; have GW210 := n4_; have GE210 := n5_; have NB203_210 := n6_; have NB210_203 := n7_; have NB205_210 := n8_; have NB210_205 := n9_; clear n0_ n1_ n2_ n3_ n4_ n5_ n6_ n7_ n8_ n9_; clear hb hbox hg; have hnb49 := NB210_203.out; have hnc49 := NB203_210.out; have hnb50 := NB210_205.out; have hnc50 := NB205_210.out; have hcz51_0 : w48.cell? ⟨gb210, 0, none⟩ = some (.int .i64 0) := (blk_cell BK210.out 0).trans rfl; have hcz51_1 : w48.cell? ⟨gb210, 1, none⟩ = some (.int .i64 0) := (blk_cell BK210.out 1).trans rfl; have hcz51_2 : w48.cell? ⟨gb210, 2, none⟩ = some (.int .i64 0) := (blk_cell BK210.out 2).trans rfl; have hfz51_0 := blk_frozen BK210.out 0; have hfz51_1 := blk_frozen BK210.out 1; have hfz51_2 := blk_frozen BK210.out 2))
                        have n0_ : Aside0 ((((w48.setCell ⟨gb210, 0, none⟩ (.int .i64 t206)).setCell ⟨gb210, 1, none⟩ (.int .i64 t207)).setCell ⟨gb210, 2, none⟩ (.int .i64 t208)).heap[gb203]? = some (.cells #[.int .i64 x204000_1, .int .i64 x204001_1, .int .i64 x204002_1] 37 (0, 0))) := ⟨by (with_reducible repeat (first | refine blk_drewN ?_ _ | refine blk_drew ?_ | refine blk_alloc ?_ _)); refine blk_far ?_ NB203_210.out _; (with_reducible repeat (first | refine blk_drewN ?_ _ | refine blk_drew ?_ | refine blk_alloc ?_ _)); refine blk_far ?_ NB203_210.out _; (with_reducible repeat (first | refine blk_drewN ?_ _ | refine blk_drew ?_ | refine blk_alloc ?_ _)); refine blk_far ?_ NB203_210.out _; (with_reducible repeat (first | refine blk_drewN ?_ _ | refine blk_drew ?_ | refine blk_alloc ?_ _)); exact BK203.out⟩
                        have n1_ : Aside0 ((((w48.setCell ⟨gb210, 0, none⟩ (.int .i64 t206)).setCell ⟨gb210, 1, none⟩ (.int .i64 t207)).setCell ⟨gb210, 2, none⟩ (.int .i64 t208)).heap[gb205]? = some (.cells #[.string ((rd_T43 l0 x21_1).f0), .int .i64 ((rd_T43 l0 x21_1).f1), .int .i64 ((rd_T43 l0 x21_1).f2), .int .i64 ((rd_T43 l0 x21_1).f3), .int .i64 ((rd_T43 l0 x21_1).f4.f0), .int .i64 ((rd_T43 l0 x21_1).f4.f1), .int .i64 ((rd_T43 l0 x21_1).f4.f2), .int .i64 ((rd_T43 l0 x21_1).f5.f0), .int .i64 ((rd_T43 l0 x21_1).f5.f1), .int .i64 ((rd_T43 l0 x21_1).f6), .string ((rd_T43 l0 x21_1).f7)] 43 (0, 0))) := ⟨by (with_reducible repeat (first | refine blk_drewN ?_ _ | refine blk_drew ?_ | refine blk_alloc ?_ _)); refine blk_far ?_ NB205_210.out _; (with_reducible repeat (first | refine blk_drewN ?_ _ | refine blk_drew ?_ | refine blk_alloc ?_ _)); refine blk_far ?_ NB205_210.out _; (with_reducible repeat (first | refine blk_drewN ?_ _ | refine blk_drew ?_ | refine blk_alloc ?_ _)); refine blk_far ?_ NB205_210.out _; (with_reducible repeat (first | refine blk_drewN ?_ _ | refine blk_drew ?_ | refine blk_alloc ?_ _)); exact BK205.out⟩
                        have n2_ : Aside0 ((((w48.setCell ⟨gb210, 0, none⟩ (.int .i64 t206)).setCell ⟨gb210, 1, none⟩ (.int .i64 t207)).setCell ⟨gb210, 2, none⟩ (.int .i64 t208)).heap[gb210]? = some (.cells #[.int .i64 t206, .int .i64 t207, .int .i64 t208] 37 (0, 0))) := ⟨by (with_reducible repeat (first | refine blk_drewN ?_ _ | refine blk_drew ?_ | refine blk_alloc ?_ _)); refine blk_put (cs := #[.int .i64 t206, .int .i64 t207, .int .i64 0]) ?_ 2 _ rfl; (with_reducible repeat (first | refine blk_drewN ?_ _ | refine blk_drew ?_ | refine blk_alloc ?_ _)); refine blk_put (cs := #[.int .i64 t206, .int .i64 0, .int .i64 0]) ?_ 1 _ rfl; (with_reducible repeat (first | refine blk_drewN ?_ _ | refine blk_drew ?_ | refine blk_alloc ?_ _)); refine blk_put (cs := #[.int .i64 0, .int .i64 0, .int .i64 0]) ?_ 0 _ rfl; (with_reducible repeat (first | refine blk_drewN ?_ _ | refine blk_drew ?_ | refine blk_alloc ?_ _)); exact BK210.out⟩
                        have n3_ : Aside0 (Below w.heap.size w (((w48.setCell ⟨gb210, 0, none⟩ (.int .i64 t206)).setCell ⟨gb210, 1, none⟩ (.int .i64 t207)).setCell ⟨gb210, 2, none⟩ (.int .i64 t208))) := ⟨by repeat (first | (with_reducible first | exact HB.out | apply below_alloc | apply pw_below_drewN | apply below_drew1 | refine below_set ?_ GE203.out | refine below_set ?_ GE205.out | refine below_set ?_ GE210.out) | exact HB.out)⟩
                        (try clear BK203)
                        (try clear BK205)
                        (try clear BK210)
                        (try clear HB)
                        generalize (((w48.setCell ⟨gb210, 0, none⟩ (.int .i64 t206)).setCell ⟨gb210, 1, none⟩ (.int .i64 t207)).setCell ⟨gb210, 2, none⟩ (.int .i64 t208)) = w52 at n0_ n1_ n2_ n3_ ⊢
                        have BK203 := n0_
                        have BK205 := n1_
                        have BK210 := n2_
                        have HB := n3_
                        clear n0_ n1_ n2_ n3_
                        have n0_ := Aside0.mk (blk_drew BK203.out)
                        have n1_ := Aside0.mk (blk_drew BK205.out)
                        have n2_ := Aside0.mk (blk_drew BK210.out)
                        have n3_ := Aside0.mk (below_drew1 HB.out)
                        clear BK203
                        clear BK205
                        clear BK210
                        clear HB
                        have BK203 := n0_
                        have BK205 := n1_
                        have BK210 := n2_
                        have HB := n3_
                        clear n0_ n1_ n2_ n3_
                        refine start_ (n := 6) (S := fun w' => w'.cell? ⟨gb210, 0, none⟩ = some (.int .i64 t206) ∧ w'.cell? ⟨gb210, 1, none⟩ = some (.int .i64 t207) ∧ w'.cell? ⟨gb210, 2, none⟩ = some (.int .i64 t208) ∧ w'.cell? ⟨gb205, 0, none⟩ = some (.string ((rd_T43 l0 x21_1).f0)) ∧ w'.cell? ⟨gb205, 1, none⟩ = some (.int .i64 ((rd_T43 l0 x21_1).f1)) ∧ w'.cell? ⟨gb205, 2, none⟩ = some (.int .i64 ((rd_T43 l0 x21_1).f2)) ∧ w'.cell? ⟨gb205, 3, none⟩ = some (.int .i64 ((rd_T43 l0 x21_1).f3)) ∧ w'.cell? ⟨gb205, 4, none⟩ = some (.int .i64 ((rd_T43 l0 x21_1).f4.f0)) ∧ w'.cell? ⟨gb205, 5, none⟩ = some (.int .i64 ((rd_T43 l0 x21_1).f4.f1)) ∧ w'.cell? ⟨gb205, 6, none⟩ = some (.int .i64 ((rd_T43 l0 x21_1).f4.f2)) ∧ w'.cell? ⟨gb205, 7, none⟩ = some (.int .i64 ((rd_T43 l0 x21_1).f5.f0)) ∧ w'.cell? ⟨gb205, 8, none⟩ = some (.int .i64 ((rd_T43 l0 x21_1).f5.f1)) ∧ w'.cell? ⟨gb205, 9, none⟩ = some (.int .i64 ((rd_T43 l0 x21_1).f6)) ∧ w'.cell? ⟨gb205, 10, none⟩ = some (.string ((rd_T43 l0 x21_1).f7))) (ds := []) #[false, false, false, false, false, false] (by kernel_rfl) rfl rfl ⟨(blk_cell BK210.out 0).trans rfl, (blk_cell BK210.out 1).trans rfl, (blk_cell BK210.out 2).trans rfl, (blk_cell BK205.out 0).trans rfl, (blk_cell BK205.out 1).trans rfl, (blk_cell BK205.out 2).trans rfl, (blk_cell BK205.out 3).trans rfl, (blk_cell BK205.out 4).trans rfl, (blk_cell BK205.out 5).trans rfl, (blk_cell BK205.out 6).trans rfl, (blk_cell BK205.out 7).trans rfl, (blk_cell BK205.out 8).trans rfl, (blk_cell BK205.out 9).trans rfl, (blk_cell BK205.out 10).trans rfl⟩ (fun hHeld => ?_)
                        generalize w52.drew = w53 at BK203 BK205 BK210 HB hHeld ⊢
                        refine pure_ (i := 1) (N := some 54) (v := ?_) (a' := ?_) #[false, true, false, false, false, false] rfl rfl (by kernel_rfl) (fun _ _ _ h => h) (Or.inl ⟨by rfl, ?_⟩) ?_ ?_
                        rotate_left
                        · intro w'
                          go_simp
                          with_reducible rfl
                        rotate_left
                        · simp only [Act.put, List.setIfInBounds_toArray, List.set_cons_zero, List.set_cons_succ, i64_w, i32_w]
                          rfl
                        refine take_ (i := 0) (N := some 53) (v := ?_) (a' := ?_) #[true, true, false, false, false, false] rfl rfl (by kernel_rfl) (fun _ _ _ h => h) (Or.inl ⟨by rfl, ?_⟩) hHeld ?_ ?_
                        rotate_left
                        · rintro w' ⟨s0, s1, s2, s3, s4, s5, s6, s7, s8, s9, s10, s11, s12, s13⟩
                          go_simp
                          with_reducible rfl
                        rotate_left
                        · simp only [Act.put, List.setIfInBounds_toArray, List.set_cons_zero, List.set_cons_succ, i64_w, i32_w]
                          rfl
                        refine take_ (i := 2) (N := some 55) (v := ?_) (a' := ?_) #[true, true, true, false, false, false] rfl rfl (by kernel_rfl) (fun _ _ _ h => h) (Or.inl ⟨by rfl, ?_⟩) hHeld ?_ ?_
                        rotate_left
                        · rintro w' ⟨s0, s1, s2, s3, s4, s5, s6, s7, s8, s9, s10, s11, s12, s13⟩
                          go_simp
                          with_reducible rfl
                        rotate_left
                        · simp only [Act.put, List.setIfInBounds_toArray, List.set_cons_zero, List.set_cons_succ, i64_w, i32_w]
                          rfl
                        refine one_ (i := 3) (N := none) #[true, true, true, true, false, false] rfl rfl (by kernel_rfl) (by decide) (fun K hK => ?_)
                        have hs54 : w53.cell? ⟨gb203, 0, none⟩ = some (.int .i64 x204000_1) := (blk_cell BK203.out 0).trans rfl
                        have hfs54 := blk_frozen BK203.out 0
                        have hns54_1 := NB205_203.out
                        have hns54_2 := NB210_203.out
                        have hms54_1 := NB203_205.out
                        have hms54_2 := NB203_210.out
                        have hs55 : w53.cell? ⟨gb203, 1, none⟩ = some (.int .i64 x204001_1) := (blk_cell BK203.out 1).trans rfl
                        have hfs55 := blk_frozen BK203.out 1
                        have hns55_1 := NB205_203.out
                        have hns55_2 := NB210_203.out
                        have hms55_1 := NB203_205.out
                        have hms55_2 := NB203_210.out
                        have hs56 : w53.cell? ⟨gb203, 2, none⟩ = some (.int .i64 x204002_1) := (blk_cell BK203.out 2).trans rfl
                        have hfs56 := blk_frozen BK203.out 2
                        have hns56_1 := NB205_203.out
                        have hns56_2 := NB210_203.out
                        have hms56_1 := NB203_205.out
                        have hms56_2 := NB203_210.out
                        refine skip_ (w1 := ?_) (by rfl) rfl ?_ ?_
                        rotate_left
                        · go_simp
                          rfl
                        refine hK.out _ _ ⟨((cell_far (p := ⟨gb203, _, none⟩) NB210_203.out _).trans (((cell_far (p := ⟨gb203, _, none⟩) NB210_203.out _).trans (((cell_far (p := ⟨gb203, _, none⟩) NB210_203.out _).trans (hHeld.1)))))), ((cell_far (p := ⟨gb203, _, none⟩) NB210_203.out _).trans (((cell_far (p := ⟨gb203, _, none⟩) NB210_203.out _).trans (((cell_far (p := ⟨gb203, _, none⟩) NB210_203.out _).trans (hHeld.2.1)))))), ((cell_far (p := ⟨gb203, _, none⟩) NB210_203.out _).trans (((cell_far (p := ⟨gb203, _, none⟩) NB210_203.out _).trans (((cell_far (p := ⟨gb203, _, none⟩) NB210_203.out _).trans (hHeld.2.2.1)))))), ((cell_far (p := ⟨gb203, _, none⟩) NB205_203.out _).trans (((cell_far (p := ⟨gb203, _, none⟩) NB205_203.out _).trans (((cell_far (p := ⟨gb203, _, none⟩) NB205_203.out _).trans (hHeld.2.2.2.1)))))), ((cell_far (p := ⟨gb203, _, none⟩) NB205_203.out _).trans (((cell_far (p := ⟨gb203, _, none⟩) NB205_203.out _).trans (((cell_far (p := ⟨gb203, _, none⟩) NB205_203.out _).trans (hHeld.2.2.2.2.1)))))), ((cell_far (p := ⟨gb203, _, none⟩) NB205_203.out _).trans (((cell_far (p := ⟨gb203, _, none⟩) NB205_203.out _).trans (((cell_far (p := ⟨gb203, _, none⟩) NB205_203.out _).trans (hHeld.2.2.2.2.2.1)))))), ((cell_far (p := ⟨gb203, _, none⟩) NB205_203.out _).trans (((cell_far (p := ⟨gb203, _, none⟩) NB205_203.out _).trans (((cell_far (p := ⟨gb203, _, none⟩) NB205_203.out _).trans (hHeld.2.2.2.2.2.2.1)))))), ((cell_far (p := ⟨gb203, _, none⟩) NB205_203.out _).trans (((cell_far (p := ⟨gb203, _, none⟩) NB205_203.out _).trans (((cell_far (p := ⟨gb203, _, none⟩) NB205_203.out _).trans (hHeld.2.2.2.2.2.2.2.1)))))), ((cell_far (p := ⟨gb203, _, none⟩) NB205_203.out _).trans (((cell_far (p := ⟨gb203, _, none⟩) NB205_203.out _).trans (((cell_far (p := ⟨gb203, _, none⟩) NB205_203.out _).trans (hHeld.2.2.2.2.2.2.2.2.1)))))), ((cell_far (p := ⟨gb203, _, none⟩) NB205_203.out _).trans (((cell_far (p := ⟨gb203, _, none⟩) NB205_203.out _).trans (((cell_far (p := ⟨gb203, _, none⟩) NB205_203.out _).trans (hHeld.2.2.2.2.2.2.2.2.2.1)))))), ((cell_far (p := ⟨gb203, _, none⟩) NB205_203.out _).trans (((cell_far (p := ⟨gb203, _, none⟩) NB205_203.out _).trans (((cell_far (p := ⟨gb203, _, none⟩) NB205_203.out _).trans (hHeld.2.2.2.2.2.2.2.2.2.2.1)))))), ((cell_far (p := ⟨gb203, _, none⟩) NB205_203.out _).trans (((cell_far (p := ⟨gb203, _, none⟩) NB205_203.out _).trans (((cell_far (p := ⟨gb203, _, none⟩) NB205_203.out _).trans (hHeld.2.2.2.2.2.2.2.2.2.2.2.1)))))), ((cell_far (p := ⟨gb203, _, none⟩) NB205_203.out _).trans (((cell_far (p := ⟨gb203, _, none⟩) NB205_203.out _).trans (((cell_far (p := ⟨gb203, _, none⟩) NB205_203.out _).trans (hHeld.2.2.2.2.2.2.2.2.2.2.2.2.1)))))), ((cell_far (p := ⟨gb203, _, none⟩) NB205_203.out _).trans (((cell_far (p := ⟨gb203, _, none⟩) NB205_203.out _).trans (((cell_far (p := ⟨gb203, _, none⟩) NB205_203.out _).trans (hHeld.2.2.2.2.2.2.2.2.2.2.2.2.2))))))⟩ (fun hHeld => ?_)
                        clear hK K
                        refine pure_ (i := 4) (N := some 8) (v := ?_) (a' := ?_) #[true, true, true, true, true, false] rfl rfl (by kernel_rfl) (fun _ _ _ h => h) (Or.inl ⟨by rfl, ?_⟩) ?_ ?_
                        rotate_left
                        · intro w'
                          go_simp
                          with_reducible rfl
                        rotate_left
                        · simp only [Act.put, List.setIfInBounds_toArray, List.set_cons_zero, List.set_cons_succ, i64_w, i32_w]
                          rfl
                        refine pure_ (i := 5) (N := some 9) (v := ?_) (a' := ?_) #[true, true, true, true, true, true] rfl rfl (by kernel_rfl) (fun _ _ _ h => h) (Or.inl ⟨by rfl, ?_⟩) ?_ ?_
                        rotate_left
                        · intro w'
                          go_simp
                          with_reducible rfl
                        rotate_left
                        · simp only [Act.put, List.setIfInBounds_toArray, List.set_cons_zero, List.set_cons_succ, i64_w, i32_w]
                          rfl
                        refine done_ (by kernel_rfl) ?_
                        try go_wp2
                        go_roundg kj9
                        case measure => have := HK1.out; have := HJ9.out; omega
                        case rel => exact ⟨(((rd_T43 l0 x21_1).f7)), (true), (wrap64 (x21_1 + 1)), (t206), (t207), (t208), (by first | rfl | (simp; done) | (simp [*]; done)), (by first | rfl | (simp; done) | (simp [*]; done)), (by first | rfl | (simp; done) | (simp [*]; done)), H', ⟨by have := HK1.out; have := HJ9.out; omega⟩, ⟨by (with_reducible repeat (first | refine blk_drewN ?_ _ | refine blk_drew ?_ | refine blk_alloc ?_ _)); refine blk_put (cs := #[.int .i64 t206, .int .i64 t207, .int .i64 x204002_1]) ?_ 2 _ rfl; (with_reducible repeat (first | refine blk_drewN ?_ _ | refine blk_drew ?_ | refine blk_alloc ?_ _)); refine blk_put (cs := #[.int .i64 t206, .int .i64 x204001_1, .int .i64 x204002_1]) ?_ 1 _ rfl; (with_reducible repeat (first | refine blk_drewN ?_ _ | refine blk_drew ?_ | refine blk_alloc ?_ _)); refine blk_put (cs := #[.int .i64 x204000_1, .int .i64 x204001_1, .int .i64 x204002_1]) ?_ 0 _ rfl; (with_reducible repeat (first | refine blk_drewN ?_ _ | refine blk_drew ?_ | refine blk_alloc ?_ _)); exact BK203.out⟩, ⟨by repeat (first | (with_reducible first | exact HB.out | apply below_alloc | apply pw_below_drewN | apply below_drew1 | refine below_set ?_ GE203.out | refine below_set ?_ GE205.out | refine below_set ?_ GE210.out) | exact HB.out)⟩⟩
                    · replace c21 := Bool.eq_false_iff.mpr c21
                      subst c21
                      have H1 : (onset_Letter.l0 kj9 a1 x8_1 x9_1 l0 (l0.length : Int) (wrap64 (x21_1 + 1)) x204000_1 x204001_1 x204002_1) = some (r1, r2) := by rw [if_neg (show ¬ (false = true) by decide)] at H; exact H
                      clear H
                      have H := H1
                      clear H1
                      have H' := Aside0.mk H
                      clear H
                      have hnb57 := NB205_203.out
                      have hnc57 := NB203_205.out
                      have hcz58_0 : wc.cell? ⟨gb205, 0, none⟩ = some (.string ((rd_T43 l0 x21_1).f0)) := (blk_cell BK205.out 0).trans rfl
                      have hcz58_1 : wc.cell? ⟨gb205, 1, none⟩ = some (.int .i64 ((rd_T43 l0 x21_1).f1)) := (blk_cell BK205.out 1).trans rfl
                      have hcz58_2 : wc.cell? ⟨gb205, 2, none⟩ = some (.int .i64 ((rd_T43 l0 x21_1).f2)) := (blk_cell BK205.out 2).trans rfl
                      have hcz58_3 : wc.cell? ⟨gb205, 3, none⟩ = some (.int .i64 ((rd_T43 l0 x21_1).f3)) := (blk_cell BK205.out 3).trans rfl
                      have hcz58_4 : wc.cell? ⟨gb205, 4, none⟩ = some (.int .i64 ((rd_T43 l0 x21_1).f4.f0)) := (blk_cell BK205.out 4).trans rfl
                      have hcz58_5 : wc.cell? ⟨gb205, 5, none⟩ = some (.int .i64 ((rd_T43 l0 x21_1).f4.f1)) := (blk_cell BK205.out 5).trans rfl
                      have hcz58_6 : wc.cell? ⟨gb205, 6, none⟩ = some (.int .i64 ((rd_T43 l0 x21_1).f4.f2)) := (blk_cell BK205.out 6).trans rfl
                      have hcz58_7 : wc.cell? ⟨gb205, 7, none⟩ = some (.int .i64 ((rd_T43 l0 x21_1).f5.f0)) := (blk_cell BK205.out 7).trans rfl
                      have hcz58_8 : wc.cell? ⟨gb205, 8, none⟩ = some (.int .i64 ((rd_T43 l0 x21_1).f5.f1)) := (blk_cell BK205.out 8).trans rfl
                      have hcz58_9 : wc.cell? ⟨gb205, 9, none⟩ = some (.int .i64 ((rd_T43 l0 x21_1).f6)) := (blk_cell BK205.out 9).trans rfl
                      have hcz58_10 : wc.cell? ⟨gb205, 10, none⟩ = some (.string ((rd_T43 l0 x21_1).f7)) := (blk_cell BK205.out 10).trans rfl
                      have hfz58_0 := blk_frozen BK205.out 0
                      have hfz58_1 := blk_frozen BK205.out 1
                      have hfz58_2 := blk_frozen BK205.out 2
                      have hfz58_3 := blk_frozen BK205.out 3
                      have hfz58_4 := blk_frozen BK205.out 4
                      have hfz58_5 := blk_frozen BK205.out 5
                      have hfz58_6 := blk_frozen BK205.out 6
                      have hfz58_7 := blk_frozen BK205.out 7
                      have hfz58_8 := blk_frozen BK205.out 8
                      have hfz58_9 := blk_frozen BK205.out 9
                      have hfz58_10 := blk_frozen BK205.out 10
                      go_wp2_with (first | ((with_reducible refine gate_callee (f := 23) rfl ?_); refine goesL_ (some 38) rfl rfl Try.func23 (by kernel_rfl) rfl #[.agg #[.string ((rd_T43 l0 x21_1).f0), .int .i64 ((rd_T43 l0 x21_1).f1), .int .i64 ((rd_T43 l0 x21_1).f2), .int .i64 ((rd_T43 l0 x21_1).f3), .int .i64 ((rd_T43 l0 x21_1).f4.f0), .int .i64 ((rd_T43 l0 x21_1).f4.f1), .int .i64 ((rd_T43 l0 x21_1).f4.f2), .int .i64 ((rd_T43 l0 x21_1).f5.f0), .int .i64 ((rd_T43 l0 x21_1).f5.f1), .int .i64 ((rd_T43 l0 x21_1).f6), .string ((rd_T43 l0 x21_1).f7)], .int .i64 x21_1] rfl (by (try simp only [List.map_toArray, List.map_cons, List.map_nil]); first | done | rfl | (simp only [List.length_drop, List.length_take]; rfl)) ?_; (with_reducible refine (onset_first.calls kj9 ((rd_T43 l0 x21_1).f0) ((rd_T43 l0 x21_1).f1) ((rd_T43 l0 x21_1).f2) ((rd_T43 l0 x21_1).f3) ((rd_T43 l0 x21_1).f4.f0) ((rd_T43 l0 x21_1).f4.f1) ((rd_T43 l0 x21_1).f4.f2) ((rd_T43 l0 x21_1).f5.f0) ((rd_T43 l0 x21_1).f5.f1) ((rd_T43 l0 x21_1).f6) ((rd_T43 l0 x21_1).f7) x21_1 t206 t207 t208 false _ A20.out).mono ?_); rintro e w59 ⟨rfl, hb⟩; refine ⟨_, rfl, ?_⟩; have n0_ := Aside0.mk (blk_below (g := gb203) (o := .cells #[.int .i64 x204000_1, .int .i64 x204001_1, .int .i64 x204002_1] 37 (0, 0)) (by (with_reducible repeat (first | refine blk_drewN ?_ _ | refine blk_drew ?_ | refine blk_alloc ?_ _)); exact BK203.out) hb); have n1_ := Aside0.mk (blk_below (g := gb205) (o := .cells #[.string ((rd_T43 l0 x21_1).f0), .int .i64 ((rd_T43 l0 x21_1).f1), .int .i64 ((rd_T43 l0 x21_1).f2), .int .i64 ((rd_T43 l0 x21_1).f3), .int .i64 ((rd_T43 l0 x21_1).f4.f0), .int .i64 ((rd_T43 l0 x21_1).f4.f1), .int .i64 ((rd_T43 l0 x21_1).f4.f2), .int .i64 ((rd_T43 l0 x21_1).f5.f0), .int .i64 ((rd_T43 l0 x21_1).f5.f1), .int .i64 ((rd_T43 l0 x21_1).f6), .string ((rd_T43 l0 x21_1).f7)] 43 (0, 0)) (by (with_reducible repeat (first | refine blk_drewN ?_ _ | refine blk_drew ?_ | refine blk_alloc ?_ _)); exact BK205.out) hb); have n2_ := Aside0.mk (below_step (by repeat (first | (with_reducible first | exact HB.out | apply below_alloc | apply pw_below_drewN | apply below_drew1 | refine below_set ?_ GE203.out | refine below_set ?_ GE205.out) | exact HB.out)) hb); clear BK203; clear BK205; clear HB; have BK203 := n0_; have BK205 := n1_; have HB := n2_; clear n0_ n1_ n2_; (try clear hb); (try clear hb2); (try clear hk); (try clear hi)) | ((with_reducible refine gate_dst (N := 12) rfl ?_); refine box_event ?hg (N := 12) ?hd (cs := #[.int .i64 0, .int .i64 0, .int .i64 0]) (t := 37) ?hr ?_; (case hd => rfl); (case hg => rfl); (case hr => first | (go_simp; done) | (go_simp; rfl)); intro gb210 hg w60 hbox hb; have n0_ := Aside0.mk (blk_below (g := gb203) (o := .cells #[.int .i64 x204000_1, .int .i64 x204001_1, .int .i64 x204002_1] 37 (0, 0)) (by (with_reducible repeat (first | refine blk_drewN ?_ _ | refine blk_drew ?_ | refine blk_alloc ?_ _)); exact BK203.out) hb); have n1_ := Aside0.mk (blk_below (g := gb205) (o := .cells #[.string ((rd_T43 l0 x21_1).f0), .int .i64 ((rd_T43 l0 x21_1).f1), .int .i64 ((rd_T43 l0 x21_1).f2), .int .i64 ((rd_T43 l0 x21_1).f3), .int .i64 ((rd_T43 l0 x21_1).f4.f0), .int .i64 ((rd_T43 l0 x21_1).f4.f1), .int .i64 ((rd_T43 l0 x21_1).f4.f2), .int .i64 ((rd_T43 l0 x21_1).f5.f0), .int .i64 ((rd_T43 l0 x21_1).f5.f1), .int .i64 ((rd_T43 l0 x21_1).f6), .string ((rd_T43 l0 x21_1).f7)] 43 (0, 0)) (by (with_reducible repeat (first | refine blk_drewN ?_ _ | refine blk_drew ?_ | refine blk_alloc ?_ _)); exact BK205.out) hb); have n2_ := Aside0.mk (below_step (by repeat (first | (with_reducible first | exact HB.out | apply below_alloc | apply pw_below_drewN | apply below_drew1 | refine below_set ?_ GE203.out | refine below_set ?_ GE205.out) | exact HB.out)) hb); have n3_ := Aside0.mk (hbox); have n4_ := Aside0.mk ((by rw [hg]; exact (below_size (by repeat (first | (with_reducible first | exact HB.out | apply below_alloc | apply pw_below_drewN | apply below_drew1 | refine below_set ?_ GE203.out | refine below_set ?_ GE205.out) | exact HB.out))) : w.heap.size ≤ gb210)); have n5_ := Aside0.mk ((by rw [hg]; exact (below_size (by repeat (first | (with_reducible first | exact HB.out | apply below_alloc | apply pw_below_drewN | apply below_drew1 | refine below_set ?_ GE203.out | refine below_set ?_ GE205.out) | exact HB.out))) : w.heap.size ≤ gb210)); have n6_ := Aside0.mk ((by rw [hg]; exact Nat.ne_of_lt (blk_lt (g := gb203) (o := .cells #[.int .i64 x204000_1, .int .i64 x204001_1, .int .i64 x204002_1] 37 (0, 0)) (by (with_reducible repeat (first | refine blk_drewN ?_ _ | refine blk_drew ?_ | refine blk_alloc ?_ _)); exact BK203.out)) : gb203 ≠ gb210)); have n7_ := Aside0.mk ((by rw [hg]; exact Nat.ne_of_gt (blk_lt (g := gb203) (o := .cells #[.int .i64 x204000_1, .int .i64 x204001_1, .int .i64 x204002_1] 37 (0, 0)) (by (with_reducible repeat (first | refine blk_drewN ?_ _ | refine blk_drew ?_ | refine blk_alloc ?_ _)); exact BK203.out)) : gb210 ≠ gb203)); have n8_ := Aside0.mk ((by rw [hg]; exact Nat.ne_of_lt (blk_lt (g := gb205) (o := .cells #[.string ((rd_T43 l0 x21_1).f0), .int .i64 ((rd_T43 l0 x21_1).f1), .int .i64 ((rd_T43 l0 x21_1).f2), .int .i64 ((rd_T43 l0 x21_1).f3), .int .i64 ((rd_T43 l0 x21_1).f4.f0), .int .i64 ((rd_T43 l0 x21_1).f4.f1), .int .i64 ((rd_T43 l0 x21_1).f4.f2), .int .i64 ((rd_T43 l0 x21_1).f5.f0), .int .i64 ((rd_T43 l0 x21_1).f5.f1), .int .i64 ((rd_T43 l0 x21_1).f6), .string ((rd_T43 l0 x21_1).f7)] 43 (0, 0)) (by (with_reducible repeat (first | refine blk_drewN ?_ _ | refine blk_drew ?_ | refine blk_alloc ?_ _)); exact BK205.out)) : gb205 ≠ gb210)); have n9_ := Aside0.mk ((by rw [hg]; exact Nat.ne_of_gt (blk_lt (g := gb205) (o := .cells #[.string ((rd_T43 l0 x21_1).f0), .int .i64 ((rd_T43 l0 x21_1).f1), .int .i64 ((rd_T43 l0 x21_1).f2), .int .i64 ((rd_T43 l0 x21_1).f3), .int .i64 ((rd_T43 l0 x21_1).f4.f0), .int .i64 ((rd_T43 l0 x21_1).f4.f1), .int .i64 ((rd_T43 l0 x21_1).f4.f2), .int .i64 ((rd_T43 l0 x21_1).f5.f0), .int .i64 ((rd_T43 l0 x21_1).f5.f1), .int .i64 ((rd_T43 l0 x21_1).f6), .string ((rd_T43 l0 x21_1).f7)] 43 (0, 0)) (by (with_reducible repeat (first | refine blk_drewN ?_ _ | refine blk_drew ?_ | refine blk_alloc ?_ _)); exact BK205.out)) : gb210 ≠ gb205)); clear BK203; clear BK205; clear HB; have BK203 := n0_; have BK205 := n1_; have HB := n2_; have BK210 := n3_; have GW210 := n4_; have GE210 := n5_; have NB203_210 := n6_; have NB210_203 := n7_; have NB205_210 := n8_; have NB210_205 := n9_; clear n0_ n1_ n2_ n3_ n4_ n5_ n6_ n7_ n8_ n9_; clear hb hbox hg; have hnb61 := NB210_203.out; have hnc61 := NB203_210.out; have hnb62 := NB210_205.out; have hnc62 := NB205_210.out; have hcz63_0 : w60.cell? ⟨gb210, 0, none⟩ = some (.int .i64 0) := (blk_cell BK210.out 0).trans rfl; have hcz63_1 : w60.cell? ⟨gb210, 1, none⟩ = some (.int .i64 0) := (blk_cell BK210.out 1).trans rfl; have hcz63_2 : w60.cell? ⟨gb210, 2, none⟩ = some (.int .i64 0) := (blk_cell BK210.out 2).trans rfl; have hfz63_0 := blk_frozen BK210.out 0; have hfz63_1 := blk_frozen BK210.out 1; have hfz63_2 := blk_frozen BK210.out 2))
                      go_roundg kj9
                      case measure => have := HK1.out; have := HJ9.out; omega
                      case rel => exact ⟨(x8_1), (x9_1), (wrap64 (x21_1 + 1)), (x204000_1), (x204001_1), (x204002_1), (by first | rfl | (simp; done) | (simp [*]; done)), (by first | rfl | (simp; done) | (simp [*]; done)), (by first | rfl | (simp; done) | (simp [*]; done)), H', ⟨by have := HK1.out; have := HJ9.out; omega⟩, ⟨by (with_reducible repeat (first | refine blk_drewN ?_ _ | refine blk_drew ?_ | refine blk_alloc ?_ _)); refine blk_far ?_ NB203_210.out _; (with_reducible repeat (first | refine blk_drewN ?_ _ | refine blk_drew ?_ | refine blk_alloc ?_ _)); refine blk_far ?_ NB203_210.out _; (with_reducible repeat (first | refine blk_drewN ?_ _ | refine blk_drew ?_ | refine blk_alloc ?_ _)); refine blk_far ?_ NB203_210.out _; (with_reducible repeat (first | refine blk_drewN ?_ _ | refine blk_drew ?_ | refine blk_alloc ?_ _)); exact BK203.out⟩, ⟨by repeat (first | (with_reducible first | exact HB.out | apply below_alloc | apply pw_below_drewN | apply below_drew1 | refine below_set ?_ GE203.out | refine below_set ?_ GE205.out | refine below_set ?_ GE210.out) | exact HB.out)⟩⟩
            · rw [if_neg c9] at H
              exact absurd H (by simp)
          · rw [if_neg c8] at H
            exact absurd H (by simp)
        · rw [if_neg c7] at H
          have c7b0 : decide (x21_1 < (l0.length : Int)) = false := decide_eq_false c7
          clear c7
          simp only [Option.some.injEq, Prod.mk.injEq] at H
          obtain ⟨rfl, rfl⟩ := H
          go_wp2
          go_ret2
          exact ⟨by first | rfl | (simp [errW_none, errW_some] <;> rfl) | (simp only [i64_w]; done) | (simp only [i64_w]; rfl) | (simp [*, errW_none, errW_some] <;> rfl), by repeat (first | (with_reducible first | exact HB.out | apply below_alloc | apply pw_below_drewN | apply below_drew1 | refine below_set ?_ GE203.out) | exact HB.out)⟩
  · rw [if_neg c4] at H
    have c4b0 : (t202 == 0) = false := beq_eq_false_iff_ne.mpr c4
    have c4b1 : (t202 != 0) = true := bne_iff_ne.mpr c4
    simp only [Option.some.injEq, Prod.mk.injEq] at H
    obtain ⟨rfl, rfl⟩ := H
    go_enter Try.func9, Try.ntmps9
    go_wp2_with (first | ((with_reducible refine gate_callee (f := 19) rfl ?_); refine goesL_ (some 15) rfl rfl Try.func19 (by kernel_rfl) rfl #[.slice A0 l0.length c0, .int .i64 9999] rfl (by (try simp only [List.map_toArray, List.map_cons, List.map_nil]); first | done | rfl | (simp only [List.length_drop, List.length_take]; rfl)) ?_; (with_reducible refine (onset_check.calls k _ _ l0 9999 t202 _ ?side1 ?side2 A3.out).mono ?_); (case side1 => repeat (first | exact HR0.out | (with_reducible refine Kd.C_alloc ?_ _) | (with_reducible refine Kd.C_drewN ?_ _) | (with_reducible refine Kd.C_drew ?_))); (case side2 => exact HC0.out); rintro e w64 ⟨rfl, hb⟩; refine ⟨_, rfl, ?_⟩; have n0_ := Aside0.mk (below_step (by repeat (first | (with_reducible first | exact HB.out | apply below_alloc | apply pw_below_drewN | apply below_drew1) | exact HB.out)) hb); clear HB; have HB := n0_; clear n0_; (try clear hb); (try clear hb2); (try clear hk); (try clear hi)))
    go_ret2
    exact ⟨by first | rfl | (simp [errW_none, errW_some] <;> rfl) | (simp only [i64_w]; done) | (simp only [i64_w]; rfl) | (simp [*, errW_none, errW_some] <;> rfl), by repeat (first | (with_reducible first | exact HB.out | apply below_alloc | apply pw_below_drewN | apply below_drew1) | exact HB.out)⟩

end Go.Proofs.Ytdhljcnilclfbaa.O
