-- What some functions of the program compute: a text of this claim's own (lines first written by the kit's tool, some proved anew).
import Derived.Test.YtdhljcnilclfbaaOx0
import Derived.Test.YtdhljcnilclfbaaOx23
import Derived.Test.YtdhljcnilclfbaaOx31
import Derived.Test.YtdhljcnilclfbaaOx50
namespace Go.Proofs.Ytdhljcnilclfbaa.O
open Go.RowKit Go.Proofs.YtdhljcnilclfbaaW.PrintWords Go.Proofs.YtdhljcnilclfbaaW.PrintLast Go.Proofs.YtdhljcnilclfbaaW.PrintMore
attribute [local go_sem] max2_int min2_int max_two min_two max_three min_three max_four min_four   -- for this text's walks alone
set_option linter.unusedVariables false
set_option linter.unusedSimpArgs false

/-! ### onset_Of: function 8 -/
mutual
def onset_Of.l0 : Nat → ByteArray → Int → List (S37) → List (S43) → Int → Int → Option ((List (S37)) × Int)
  | 0, _, _, _, _, _, _ => none
  | k + 1, x1, x2, x9, x21, x22, x23 => if x23 < x22 then (if 0 ≤ x23 then (if x23 < (x21.length : Int) then (if ((rd_T43 x21 x23).f0).toList = x1.toList then (onset_Of.l1 k x1 x2 x9 x23 ((rd_T43 x21 x23).f1) x21 x22 x23 ((rd_T43 x21 x23).f0) ((rd_T43 x21 x23).f1) ((rd_T43 x21 x23).f2) ((rd_T43 x21 x23).f3) ((rd_T43 x21 x23).f4.f0) ((rd_T43 x21 x23).f4.f1) ((rd_T43 x21 x23).f4.f2) ((rd_T43 x21 x23).f5.f0) ((rd_T43 x21 x23).f5.f1) ((rd_T43 x21 x23).f6) ((rd_T43 x21 x23).f7)) else (onset_Of.l0 k x1 x2 x9 x21 x22 (wrap64 (x23 + 1)))) else (none)) else (none)) else ((api_Onset_21.f x9).bind fun t182 => (some (t182, 0)))
def onset_Of.l1 : Nat → ByteArray → Int → List (S37) → Int → Int → List (S43) → Int → Int → ByteArray → Int → Int → Int → Int → Int → Int → Int → Int → Int → ByteArray → Option ((List (S37)) × Int)
  | 0, _, _, _, _, _, _, _, _, _, _, _, _, _, _, _, _, _, _, _ => none
  | k + 1, x1, x2, x9, x10, x12, x21, x22, x23, x187000, x187001, x187002, x187003, x187004, x187005, x187006, x187007, x187008, x187009, x187010 => if x12 ≤ (mn x187002 x2) then ((onset_one.f k x187000 x187001 x187002 x187003 x187004 x187005 x187006 x187007 x187008 x187009 x187010 x10 x12).bind fun bt187 => (if bt187.2.2.2 = true then (if x9.length < 5864062014805 then (onset_Of.l1 k x1 x2 (x9 ++ [(⟨bt187.1, bt187.2.1, bt187.2.2.1⟩ : S37)]) x10 (wrap64 (x12 + 1)) x21 x22 x23 x187000 x187001 x187002 x187003 x187004 x187005 x187006 x187007 x187008 x187009 x187010) else (none)) else (onset_Of.l1 k x1 x2 x9 x10 (wrap64 (x12 + 1)) x21 x22 x23 x187000 x187001 x187002 x187003 x187004 x187005 x187006 x187007 x187008 x187009 x187010))) else (onset_Of.l0 k x1 x2 x9 x21 x22 (wrap64 (x23 + 1)))
end
def onset_Of.f (k : Nat) (l0 : List (S43)) (a1 : ByteArray) (a2 : Int) : Option ((List (S37)) × Int) := (onset_check.f k l0 a2).bind fun t181 => (if t181 = 0 then (onset_Of.l0 k a1 a2 ([] : List (S37)) l0 (l0.length : Int) 0) else (some (([] : List (S37)), t181)))
theorem onset_Of.mono_l : ∀ k, (∀ y0 y1 y2 y3 y4 y5, LeO (onset_Of.l0 k y0 y1 y2 y3 y4 y5) (onset_Of.l0 (k + 1) y0 y1 y2 y3 y4 y5)) ∧ (∀ y0 y1 y2 y3 y4 y5 y6 y7 y8 y9 y10 y11 y12 y13 y14 y15 y16 y17 y18, LeO (onset_Of.l1 k y0 y1 y2 y3 y4 y5 y6 y7 y8 y9 y10 y11 y12 y13 y14 y15 y16 y17 y18) (onset_Of.l1 (k + 1) y0 y1 y2 y3 y4 y5 y6 y7 y8 y9 y10 y11 y12 y13 y14 y15 y16 y17 y18))
  | 0 => ⟨fun _ _ _ _ _ _ r h => by simp [onset_Of.l0] at h, fun _ _ _ _ _ _ _ _ _ _ _ _ _ _ _ _ _ _ _ r h => by simp [onset_Of.l1] at h⟩
  | k + 1 => by
    obtain ⟨ih0, ih1⟩ := onset_Of.mono_l k
    refine ⟨?_, ?_⟩
    · intro y0 y1 y2 y3 y4 y5
      unfold onset_Of.l0
      repeat' first
      | (with_reducible exact ih0 _ _ _ _ _ _)
      | (with_reducible exact ih1 _ _ _ _ _ _ _ _ _ _ _ _ _ _ _ _ _ _ _)
      | (with_reducible exact onset_check.mono _ _ _)
      | (with_reducible exact onset_one.mono _ _ _ _ _ _ _ _ _ _ _ _ _ _)
      | (with_reducible exact LeO.refl _)
      | (with_reducible exact LeO.none _)
      | (with_reducible refine LeO.ite ?_ ?_)
      | (with_reducible refine LeO.bind ?_ (fun _ => ?_))
      | exact ih0 _ _ _ _ _ _
      | exact ih1 _ _ _ _ _ _ _ _ _ _ _ _ _ _ _ _ _ _ _
      | exact onset_check.mono _ _ _
      | exact onset_one.mono _ _ _ _ _ _ _ _ _ _ _ _ _ _
      | exact LeO.none _
      | refine LeO.ite ?_ ?_
      | refine LeO.bind ?_ (fun _ => ?_)
    · intro y0 y1 y2 y3 y4 y5 y6 y7 y8 y9 y10 y11 y12 y13 y14 y15 y16 y17 y18
      unfold onset_Of.l1
      repeat' first
      | (with_reducible exact ih0 _ _ _ _ _ _)
      | (with_reducible exact ih1 _ _ _ _ _ _ _ _ _ _ _ _ _ _ _ _ _ _ _)
      | (with_reducible exact onset_check.mono _ _ _)
      | (with_reducible exact onset_one.mono _ _ _ _ _ _ _ _ _ _ _ _ _ _)
      | (with_reducible exact LeO.refl _)
      | (with_reducible exact LeO.none _)
      | (with_reducible refine LeO.ite ?_ ?_)
      | (with_reducible refine LeO.bind ?_ (fun _ => ?_))
      | exact ih0 _ _ _ _ _ _
      | exact ih1 _ _ _ _ _ _ _ _ _ _ _ _ _ _ _ _ _ _ _
      | exact onset_check.mono _ _ _
      | exact onset_one.mono _ _ _ _ _ _ _ _ _ _ _ _ _ _
      | exact LeO.none _
      | refine LeO.ite ?_ ?_
      | refine LeO.bind ?_ (fun _ => ?_)
theorem onset_Of.mono : ∀ a0 a1 a2 k, LeO (onset_Of.f k a0 a1 a2) (onset_Of.f (k + 1) a0 a1 a2) := by
  intro a0 a1 a2 k
  obtain ⟨ih0, ih1⟩ := onset_Of.mono_l k
  unfold onset_Of.f
  repeat' first
      | (with_reducible exact ih0 _ _ _ _ _ _)
      | (with_reducible exact ih1 _ _ _ _ _ _ _ _ _ _ _ _ _ _ _ _ _ _ _)
      | (with_reducible exact onset_check.mono _ _ _)
      | (with_reducible exact onset_one.mono _ _ _ _ _ _ _ _ _ _ _ _ _ _)
      | (with_reducible exact LeO.refl _)
      | (with_reducible exact LeO.none _)
      | (with_reducible refine LeO.ite ?_ ?_)
      | (with_reducible refine LeO.bind ?_ (fun _ => ?_))
      | exact ih0 _ _ _ _ _ _
      | exact ih1 _ _ _ _ _ _ _ _ _ _ _ _ _ _ _ _ _ _ _
      | exact onset_check.mono _ _ _
      | exact onset_one.mono _ _ _ _ _ _ _ _ _ _ _ _ _ _
      | exact LeO.none _
      | refine LeO.ite ?_ ?_
      | refine LeO.bind ?_ (fun _ => ?_)
set_option maxHeartbeats 8000000 in
set_option maxRecDepth 100000 in
theorem onset_Of.calls (k : Nat) (A0 : Option Addr) (c0 : Nat) (l0 : List (S43)) (a1 : ByteArray) (a2 : Int) (r1 : List (S37)) (r2 : Int) (w : World) (hr0 : Kd.C k43 w A0 l0.length l0) (hc0 : l0.length ≤ c0) (h : onset_Of.f k l0 a1 a2 = some (r1, r2)) :
    Calls Try.prog 8 #[.slice A0 l0.length c0, .string a1, .int .i64 a2] w fun e w' => ∃ v0_ : Value, e = .returned (.tuple #[v0_, .int .i64 r2]) ∧ Kd.R k37 37 w' w.heap.size (fun _ => True) v0_ r1 ∧ Below w.heap.size w w' := by
  have hu43 := Try.underlying43
  have hu37 := Try.underlying37
  have HR0 := Aside0.mk hr0
  have HC0 := Aside0.mk hc0
  clear hr0 hc0
  have HB := Aside0.mk (Below.refl w.heap.size w)
  have H : ((onset_check.f k l0 a2).bind fun t181 => (if t181 = 0 then (onset_Of.l0 k a1 a2 ([] : List (S37)) l0 (l0.length : Int) 0) else (some (([] : List (S37)), t181)))) = some (r1, r2) := h
  clear h
  replace H := Option.bind_eq_some_iff.mp H
  obtain ⟨t181, A40, H⟩ := H
  replace H : (if t181 = 0 then (onset_Of.l0 k a1 a2 ([] : List (S37)) l0 (l0.length : Int) 0) else (some (([] : List (S37)), t181))) = some (r1, r2) := H
  have A4 := Aside0.mk A40
  clear A40
  by_cases c5 : t181 = 0
  · rw [if_pos c5] at H
    have c5b0 : (t181 == 0) = true := beq_iff_eq.mpr c5
    have c5b1 : (t181 != 0) = false := bne_eq_false_iff_eq.mpr c5
    clear c5
    have H' := Aside0.mk H
    clear H
    go_enter Try.func8, Try.ntmps8
    go_wp2_with (first | ((with_reducible refine gate_callee (f := 19) rfl ?_); refine goesL_ (some 17) rfl rfl Try.func19 (by kernel_rfl) rfl #[.slice A0 l0.length c0, .int .i64 a2] rfl (by (try simp only [List.map_toArray, List.map_cons, List.map_nil]); first | done | rfl | (simp only [List.length_drop, List.length_take]; rfl)) ?_; (with_reducible refine (onset_check.calls k _ _ l0 a2 t181 _ ?side1 ?side2 A4.out).mono ?_); (case side1 => repeat (first | exact HR0.out | (with_reducible refine Kd.C_alloc ?_ _) | (with_reducible refine Kd.C_drewN ?_ _) | (with_reducible refine Kd.C_drew ?_))); (case side2 => exact HC0.out); rintro e w6 ⟨rfl, hb⟩; refine ⟨_, rfl, ?_⟩; have n0_ := Aside0.mk (below_step (by repeat (first | (with_reducible first | exact HB.out | apply below_alloc | apply pw_below_drewN | apply below_drew1) | exact HB.out)) hb); clear HB; have HB := n0_; clear n0_; (try clear hb); (try clear hb2); (try clear hk); (try clear hi)))
    go_loopg [9, 23] k (fun kq v9 v23 w' => ∃ (x9_1 : List (S37)) (x23_1 : Int), v23 = .int .i64 x23_1 ∧ Aside0 (onset_Of.l0 kq a1 a2 x9_1 l0 (l0.length : Int) x23_1 = some (r1, r2)) ∧ Aside0 (kq ≤ k) ∧ Aside0 (Kd.R k37 37 w' w.heap.size (fun _ => True) v9 x9_1) ∧ Aside0 (Below w.heap.size w w'))
    case atStart => exact ⟨(([] : List (S37))), (0), (by first | rfl | (simp; done) | (simp [*]; done)), H', ⟨Nat.le_refl _⟩, ⟨Kd.R_nil _ _ _ _ _⟩, ⟨by repeat (first | (with_reducible first | exact HB.out | apply below_alloc | apply pw_below_drewN | apply below_drew1) | exact HB.out)⟩⟩
    case round =>
      clear H'
      try clear c1
      try clear p2
      try clear c5
      try clear c5b0
      try clear c5b1
      obtain ⟨x9_1, x23_1, rfl, HA, HK1, HO_9, HB⟩ := hrel
      cases gk with
      | zero => exact absurd HA.out (by simp [onset_Of.l0])
      | succ k1 =>
        have H := HA.out
        clear HA
        simp only [onset_Of.l0] at H
        by_cases c7 : x23_1 < (l0.length : Int)
        · rw [if_pos c7] at H
          have c7b0 : decide (x23_1 < (l0.length : Int)) = true := decide_eq_true c7
          clear c7
          by_cases c8 : 0 ≤ x23_1
          · rw [if_pos c8] at H
            have c8b0 : decide (0 ≤ x23_1) = true := decide_eq_true c8
            clear c8
            by_cases c9 : x23_1 < (l0.length : Int)
            · rw [if_pos c9] at H
              have c9b0 : decide (x23_1 < (l0.length : Int)) = true := decide_eq_true c9
              clear c9
              by_cases c10 : ((rd_T43 l0 x23_1).f0).toList = a1.toList
              · rw [if_pos c10] at H
                have c10b0 : (((rd_T43 l0 x23_1).f0).toList == a1.toList) = true := beq_iff_eq.mpr c10
                have c10b1 : (((rd_T43 l0 x23_1).f0).toList != a1.toList) = false := bne_eq_false_iff_eq.mpr c10
                clear c10
                have H' := Aside0.mk H
                clear H
                have p185 : 0 ≤ (x23_1 : Int) := of_decide_eq_true (by first | (with_reducible assumption) | assumption)
                have q185 : x23_1 < (l0.length : Int) := of_decide_eq_true (by first | (with_reducible assumption) | assumption)
                obtain ⟨ad185, e185, hx185_0, hx185_1, hx185_2, hx185_3, hx185_4, hx185_5, hx185_6, hx185_7, hx185_8, hx185_9, hx185_10⟩ := at_T43 HR0.out x23_1 p185 q185
                cases e185
                replace hx185_0 := (HB.out.cell (World.block_lt_of_cell? w _ hx185_0)).trans hx185_0
                replace hx185_1 := (HB.out.cell (World.block_lt_of_cell? w _ hx185_1)).trans hx185_1
                replace hx185_2 := (HB.out.cell (World.block_lt_of_cell? w _ hx185_2)).trans hx185_2
                replace hx185_3 := (HB.out.cell (World.block_lt_of_cell? w _ hx185_3)).trans hx185_3
                replace hx185_4 := (HB.out.cell (World.block_lt_of_cell? w _ hx185_4)).trans hx185_4
                replace hx185_5 := (HB.out.cell (World.block_lt_of_cell? w _ hx185_5)).trans hx185_5
                replace hx185_6 := (HB.out.cell (World.block_lt_of_cell? w _ hx185_6)).trans hx185_6
                replace hx185_7 := (HB.out.cell (World.block_lt_of_cell? w _ hx185_7)).trans hx185_7
                replace hx185_8 := (HB.out.cell (World.block_lt_of_cell? w _ hx185_8)).trans hx185_8
                replace hx185_9 := (HB.out.cell (World.block_lt_of_cell? w _ hx185_9)).trans hx185_9
                replace hx185_10 := (HB.out.cell (World.block_lt_of_cell? w _ hx185_10)).trans hx185_10
                replace p185 := eq_true p185
                replace q185 := eq_true q185
                go_wp2_with (first | ((with_reducible refine gate_dst (N := 11) rfl ?_); refine box_event ?hg (N := 11) ?hd (cs := #[.string (⟨#[]⟩ : ByteArray), .int .i64 0, .int .i64 0, .int .i64 0, .int .i64 0, .int .i64 0, .int .i64 0, .int .i64 0, .int .i64 0, .int .i64 0, .string (⟨#[]⟩ : ByteArray)]) (t := 43) ?hr ?_; (case hd => rfl); (case hg => rfl); (case hr => first | (go_simp; done) | (go_simp; rfl)); intro gb186 hg w11 hbox hb; have n0_ := Aside0.mk (Kd.R_below (by (with_reducible repeat (first | apply Kd.R_alloc | apply Kd.R_drewN | apply Kd.R_drew)); exact HO_9.out) hb); have n1_ := Aside0.mk (below_step (by repeat (first | (with_reducible first | exact HB.out | apply below_alloc | apply pw_below_drewN | apply below_drew1) | exact HB.out)) hb); have n2_ := Aside0.mk (hbox); have n3_ := Aside0.mk ((by rw [hg]; exact (below_size (by repeat (first | (with_reducible first | exact HB.out | apply below_alloc | apply pw_below_drewN | apply below_drew1) | exact HB.out))) : w.heap.size ≤ gb186)); have n4_ := Aside0.mk ((by rw [hg]; exact (below_size (by repeat (first | (with_reducible first | exact HB.out | apply below_alloc | apply pw_below_drewN | apply below_drew1) | exact HB.out))) : w.heap.size ≤ gb186)); clear HO_9; clear HB; have HO_9 := n0_; have HB := n1_; have BK186 := n2_; have GW186 := n3_; have GE186 := n4_; clear n0_ n1_ n2_ n3_ n4_; clear hb hbox hg; have hcz12_0 : w11.cell? ⟨gb186, 0, none⟩ = some (.string (⟨#[]⟩ : ByteArray)) := (blk_cell BK186.out 0).trans rfl; have hcz12_1 : w11.cell? ⟨gb186, 1, none⟩ = some (.int .i64 0) := (blk_cell BK186.out 1).trans rfl; have hcz12_2 : w11.cell? ⟨gb186, 2, none⟩ = some (.int .i64 0) := (blk_cell BK186.out 2).trans rfl; have hcz12_3 : w11.cell? ⟨gb186, 3, none⟩ = some (.int .i64 0) := (blk_cell BK186.out 3).trans rfl; have hcz12_4 : w11.cell? ⟨gb186, 4, none⟩ = some (.int .i64 0) := (blk_cell BK186.out 4).trans rfl; have hcz12_5 : w11.cell? ⟨gb186, 5, none⟩ = some (.int .i64 0) := (blk_cell BK186.out 5).trans rfl; have hcz12_6 : w11.cell? ⟨gb186, 6, none⟩ = some (.int .i64 0) := (blk_cell BK186.out 6).trans rfl; have hcz12_7 : w11.cell? ⟨gb186, 7, none⟩ = some (.int .i64 0) := (blk_cell BK186.out 7).trans rfl; have hcz12_8 : w11.cell? ⟨gb186, 8, none⟩ = some (.int .i64 0) := (blk_cell BK186.out 8).trans rfl; have hcz12_9 : w11.cell? ⟨gb186, 9, none⟩ = some (.int .i64 0) := (blk_cell BK186.out 9).trans rfl; have hcz12_10 : w11.cell? ⟨gb186, 10, none⟩ = some (.string (⟨#[]⟩ : ByteArray)) := (blk_cell BK186.out 10).trans rfl; have hfz12_0 := blk_frozen BK186.out 0; have hfz12_1 := blk_frozen BK186.out 1; have hfz12_2 := blk_frozen BK186.out 2; have hfz12_3 := blk_frozen BK186.out 3; have hfz12_4 := blk_frozen BK186.out 4; have hfz12_5 := blk_frozen BK186.out 5; have hfz12_6 := blk_frozen BK186.out 6; have hfz12_7 := blk_frozen BK186.out 7; have hfz12_8 := blk_frozen BK186.out 8; have hfz12_9 := blk_frozen BK186.out 9; have hfz12_10 := blk_frozen BK186.out 10))
                go_loopg [9, 12] k1 (fun kq v9 v12 w' => ∃ (x9_2 : List (S37)) (x12_2 : Int), v12 = .int .i64 x12_2 ∧ Aside0 (onset_Of.l1 kq a1 a2 x9_2 x23_1 x12_2 l0 (l0.length : Int) x23_1 ((rd_T43 l0 x23_1).f0) ((rd_T43 l0 x23_1).f1) ((rd_T43 l0 x23_1).f2) ((rd_T43 l0 x23_1).f3) ((rd_T43 l0 x23_1).f4.f0) ((rd_T43 l0 x23_1).f4.f1) ((rd_T43 l0 x23_1).f4.f2) ((rd_T43 l0 x23_1).f5.f0) ((rd_T43 l0 x23_1).f5.f1) ((rd_T43 l0 x23_1).f6) ((rd_T43 l0 x23_1).f7) = some (r1, r2)) ∧ Aside0 (kq ≤ k1) ∧ Aside0 (Kd.R k37 37 w' w.heap.size (fun _ => True) v9 x9_2) ∧ Aside0 (w'.heap[gb186]? = some (.cells #[.string ((rd_T43 l0 x23_1).f0), .int .i64 ((rd_T43 l0 x23_1).f1), .int .i64 ((rd_T43 l0 x23_1).f2), .int .i64 ((rd_T43 l0 x23_1).f3), .int .i64 ((rd_T43 l0 x23_1).f4.f0), .int .i64 ((rd_T43 l0 x23_1).f4.f1), .int .i64 ((rd_T43 l0 x23_1).f4.f2), .int .i64 ((rd_T43 l0 x23_1).f5.f0), .int .i64 ((rd_T43 l0 x23_1).f5.f1), .int .i64 ((rd_T43 l0 x23_1).f6), .string ((rd_T43 l0 x23_1).f7)] 43 (0, 0))) ∧ Aside0 (Below w.heap.size w w'))
                case atStart => exact ⟨(x9_1), ((rd_T43 l0 x23_1).f1), (by first | rfl | (simp; done) | (simp [*]; done)), H', ⟨Nat.le_refl _⟩, ⟨by (with_reducible repeat (first | apply Kd.R_alloc | apply Kd.R_drewN | apply Kd.R_drew)); exact Kd.R_mono (Kd.R_far (p := ⟨gb186, 10, none⟩) (Kd.R_far (p := ⟨gb186, 9, none⟩) (Kd.R_far (p := ⟨gb186, 8, none⟩) (Kd.R_far (p := ⟨gb186, 7, none⟩) (Kd.R_far (p := ⟨gb186, 6, none⟩) (Kd.R_far (p := ⟨gb186, 5, none⟩) (Kd.R_far (p := ⟨gb186, 4, none⟩) (Kd.R_far (p := ⟨gb186, 3, none⟩) (Kd.R_far (p := ⟨gb186, 2, none⟩) (Kd.R_far (p := ⟨gb186, 1, none⟩) (Kd.R_far (p := ⟨gb186, 0, none⟩) (Kd.R_types HO_9.out BK186.out (by decide)) (fun _ hk => hk.2) (.string ((rd_T43 l0 x23_1).f0))) (fun _ hk => hk.2) (.int .i64 ((rd_T43 l0 x23_1).f1))) (fun _ hk => hk.2) (.int .i64 ((rd_T43 l0 x23_1).f2))) (fun _ hk => hk.2) (.int .i64 ((rd_T43 l0 x23_1).f3))) (fun _ hk => hk.2) (.int .i64 ((rd_T43 l0 x23_1).f4.f0))) (fun _ hk => hk.2) (.int .i64 ((rd_T43 l0 x23_1).f4.f1))) (fun _ hk => hk.2) (.int .i64 ((rd_T43 l0 x23_1).f4.f2))) (fun _ hk => hk.2) (.int .i64 ((rd_T43 l0 x23_1).f5.f0))) (fun _ hk => hk.2) (.int .i64 ((rd_T43 l0 x23_1).f5.f1))) (fun _ hk => hk.2) (.int .i64 ((rd_T43 l0 x23_1).f6))) (fun _ hk => hk.2) (.string ((rd_T43 l0 x23_1).f7))) (fun _ hk => trivial)⟩, ⟨by (with_reducible repeat (first | refine blk_drewN ?_ _ | refine blk_drew ?_ | refine blk_alloc ?_ _)); refine blk_put (cs := #[.string ((rd_T43 l0 x23_1).f0), .int .i64 ((rd_T43 l0 x23_1).f1), .int .i64 ((rd_T43 l0 x23_1).f2), .int .i64 ((rd_T43 l0 x23_1).f3), .int .i64 ((rd_T43 l0 x23_1).f4.f0), .int .i64 ((rd_T43 l0 x23_1).f4.f1), .int .i64 ((rd_T43 l0 x23_1).f4.f2), .int .i64 ((rd_T43 l0 x23_1).f5.f0), .int .i64 ((rd_T43 l0 x23_1).f5.f1), .int .i64 ((rd_T43 l0 x23_1).f6), .string (⟨#[]⟩ : ByteArray)]) ?_ 10 _ rfl; (with_reducible repeat (first | refine blk_drewN ?_ _ | refine blk_drew ?_ | refine blk_alloc ?_ _)); refine blk_put (cs := #[.string ((rd_T43 l0 x23_1).f0), .int .i64 ((rd_T43 l0 x23_1).f1), .int .i64 ((rd_T43 l0 x23_1).f2), .int .i64 ((rd_T43 l0 x23_1).f3), .int .i64 ((rd_T43 l0 x23_1).f4.f0), .int .i64 ((rd_T43 l0 x23_1).f4.f1), .int .i64 ((rd_T43 l0 x23_1).f4.f2), .int .i64 ((rd_T43 l0 x23_1).f5.f0), .int .i64 ((rd_T43 l0 x23_1).f5.f1), .int .i64 0, .string (⟨#[]⟩ : ByteArray)]) ?_ 9 _ rfl; (with_reducible repeat (first | refine blk_drewN ?_ _ | refine blk_drew ?_ | refine blk_alloc ?_ _)); refine blk_put (cs := #[.string ((rd_T43 l0 x23_1).f0), .int .i64 ((rd_T43 l0 x23_1).f1), .int .i64 ((rd_T43 l0 x23_1).f2), .int .i64 ((rd_T43 l0 x23_1).f3), .int .i64 ((rd_T43 l0 x23_1).f4.f0), .int .i64 ((rd_T43 l0 x23_1).f4.f1), .int .i64 ((rd_T43 l0 x23_1).f4.f2), .int .i64 ((rd_T43 l0 x23_1).f5.f0), .int .i64 0, .int .i64 0, .string (⟨#[]⟩ : ByteArray)]) ?_ 8 _ rfl; (with_reducible repeat (first | refine blk_drewN ?_ _ | refine blk_drew ?_ | refine blk_alloc ?_ _)); refine blk_put (cs := #[.string ((rd_T43 l0 x23_1).f0), .int .i64 ((rd_T43 l0 x23_1).f1), .int .i64 ((rd_T43 l0 x23_1).f2), .int .i64 ((rd_T43 l0 x23_1).f3), .int .i64 ((rd_T43 l0 x23_1).f4.f0), .int .i64 ((rd_T43 l0 x23_1).f4.f1), .int .i64 ((rd_T43 l0 x23_1).f4.f2), .int .i64 0, .int .i64 0, .int .i64 0, .string (⟨#[]⟩ : ByteArray)]) ?_ 7 _ rfl; (with_reducible repeat (first | refine blk_drewN ?_ _ | refine blk_drew ?_ | refine blk_alloc ?_ _)); refine blk_put (cs := #[.string ((rd_T43 l0 x23_1).f0), .int .i64 ((rd_T43 l0 x23_1).f1), .int .i64 ((rd_T43 l0 x23_1).f2), .int .i64 ((rd_T43 l0 x23_1).f3), .int .i64 ((rd_T43 l0 x23_1).f4.f0), .int .i64 ((rd_T43 l0 x23_1).f4.f1), .int .i64 0, .int .i64 0, .int .i64 0, .int .i64 0, .string (⟨#[]⟩ : ByteArray)]) ?_ 6 _ rfl; (with_reducible repeat (first | refine blk_drewN ?_ _ | refine blk_drew ?_ | refine blk_alloc ?_ _)); refine blk_put (cs := #[.string ((rd_T43 l0 x23_1).f0), .int .i64 ((rd_T43 l0 x23_1).f1), .int .i64 ((rd_T43 l0 x23_1).f2), .int .i64 ((rd_T43 l0 x23_1).f3), .int .i64 ((rd_T43 l0 x23_1).f4.f0), .int .i64 0, .int .i64 0, .int .i64 0, .int .i64 0, .int .i64 0, .string (⟨#[]⟩ : ByteArray)]) ?_ 5 _ rfl; (with_reducible repeat (first | refine blk_drewN ?_ _ | refine blk_drew ?_ | refine blk_alloc ?_ _)); refine blk_put (cs := #[.string ((rd_T43 l0 x23_1).f0), .int .i64 ((rd_T43 l0 x23_1).f1), .int .i64 ((rd_T43 l0 x23_1).f2), .int .i64 ((rd_T43 l0 x23_1).f3), .int .i64 0, .int .i64 0, .int .i64 0, .int .i64 0, .int .i64 0, .int .i64 0, .string (⟨#[]⟩ : ByteArray)]) ?_ 4 _ rfl; (with_reducible repeat (first | refine blk_drewN ?_ _ | refine blk_drew ?_ | refine blk_alloc ?_ _)); refine blk_put (cs := #[.string ((rd_T43 l0 x23_1).f0), .int .i64 ((rd_T43 l0 x23_1).f1), .int .i64 ((rd_T43 l0 x23_1).f2), .int .i64 0, .int .i64 0, .int .i64 0, .int .i64 0, .int .i64 0, .int .i64 0, .int .i64 0, .string (⟨#[]⟩ : ByteArray)]) ?_ 3 _ rfl; (with_reducible repeat (first | refine blk_drewN ?_ _ | refine blk_drew ?_ | refine blk_alloc ?_ _)); refine blk_put (cs := #[.string ((rd_T43 l0 x23_1).f0), .int .i64 ((rd_T43 l0 x23_1).f1), .int .i64 0, .int .i64 0, .int .i64 0, .int .i64 0, .int .i64 0, .int .i64 0, .int .i64 0, .int .i64 0, .string (⟨#[]⟩ : ByteArray)]) ?_ 2 _ rfl; (with_reducible repeat (first | refine blk_drewN ?_ _ | refine blk_drew ?_ | refine blk_alloc ?_ _)); refine blk_put (cs := #[.string ((rd_T43 l0 x23_1).f0), .int .i64 0, .int .i64 0, .int .i64 0, .int .i64 0, .int .i64 0, .int .i64 0, .int .i64 0, .int .i64 0, .int .i64 0, .string (⟨#[]⟩ : ByteArray)]) ?_ 1 _ rfl; (with_reducible repeat (first | refine blk_drewN ?_ _ | refine blk_drew ?_ | refine blk_alloc ?_ _)); refine blk_put (cs := #[.string (⟨#[]⟩ : ByteArray), .int .i64 0, .int .i64 0, .int .i64 0, .int .i64 0, .int .i64 0, .int .i64 0, .int .i64 0, .int .i64 0, .int .i64 0, .string (⟨#[]⟩ : ByteArray)]) ?_ 0 _ rfl; (with_reducible repeat (first | refine blk_drewN ?_ _ | refine blk_drew ?_ | refine blk_alloc ?_ _)); exact BK186.out⟩, ⟨by repeat (first | (with_reducible first | exact HB.out | apply below_alloc | apply pw_below_drewN | apply below_drew1 | refine below_set ?_ GE186.out) | exact HB.out)⟩⟩
                case round =>
                  clear H'
                  try clear c1
                  try clear p1
                  try clear q1
                  try clear hx1
                  try clear p2
                  try clear c5
                  try clear c5b0
                  try clear c5b1
                  try clear c7
                  try clear c7b0
                  try clear c8
                  try clear c8b0
                  try clear c9
                  try clear c9b0
                  try clear c10
                  try clear c10b0
                  try clear c10b1
                  try clear hcz12_0
                  try clear hcz12_1
                  try clear hcz12_10
                  try clear hcz12_2
                  try clear hcz12_3
                  try clear hcz12_4
                  try clear hcz12_5
                  try clear hcz12_6
                  try clear hcz12_7
                  try clear hcz12_8
                  try clear hcz12_9
                  try clear hfz12_0
                  try clear hfz12_1
                  try clear hfz12_10
                  try clear hfz12_2
                  try clear hfz12_3
                  try clear hfz12_4
                  try clear hfz12_5
                  try clear hfz12_6
                  try clear hfz12_7
                  try clear hfz12_8
                  try clear hfz12_9
                  try clear hx185_0
                  try clear hx185_1
                  try clear hx185_10
                  try clear hx185_2
                  try clear hx185_3
                  try clear hx185_4
                  try clear hx185_5
                  try clear hx185_6
                  try clear hx185_7
                  try clear hx185_8
                  try clear hx185_9
                  try clear p185
                  try clear p2
                  try clear q185
                  obtain ⟨x9_2, x12_2, rfl, HA, HK2, HO_9, BK186, HB⟩ := hrel
                  cases gk with
                  | zero => exact absurd HA.out (by simp [onset_Of.l1])
                  | succ k2 =>
                    have H := HA.out
                    clear HA
                    simp only [onset_Of.l1] at H
                    obtain ⟨ji13, hji13⟩ : ∃ j_ : Int, (mn ((rd_T43 l0 x23_1).f2) a2) = j_ := ⟨_, rfl⟩
                    replace H : (if x12_2 ≤ (ji13) then ((onset_one.f k2 ((rd_T43 l0 x23_1).f0) ((rd_T43 l0 x23_1).f1) ((rd_T43 l0 x23_1).f2) ((rd_T43 l0 x23_1).f3) ((rd_T43 l0 x23_1).f4.f0) ((rd_T43 l0 x23_1).f4.f1) ((rd_T43 l0 x23_1).f4.f2) ((rd_T43 l0 x23_1).f5.f0) ((rd_T43 l0 x23_1).f5.f1) ((rd_T43 l0 x23_1).f6) ((rd_T43 l0 x23_1).f7) x23_1 x12_2).bind fun bt187 => (if bt187.2.2.2 = true then (if x9_2.length < 5864062014805 then (onset_Of.l1 k2 a1 a2 (x9_2 ++ [(⟨bt187.1, bt187.2.1, bt187.2.2.1⟩ : S37)]) x23_1 (wrap64 (x12_2 + 1)) l0 (l0.length : Int) x23_1 ((rd_T43 l0 x23_1).f0) ((rd_T43 l0 x23_1).f1) ((rd_T43 l0 x23_1).f2) ((rd_T43 l0 x23_1).f3) ((rd_T43 l0 x23_1).f4.f0) ((rd_T43 l0 x23_1).f4.f1) ((rd_T43 l0 x23_1).f4.f2) ((rd_T43 l0 x23_1).f5.f0) ((rd_T43 l0 x23_1).f5.f1) ((rd_T43 l0 x23_1).f6) ((rd_T43 l0 x23_1).f7)) else (none)) else (onset_Of.l1 k2 a1 a2 x9_2 x23_1 (wrap64 (x12_2 + 1)) l0 (l0.length : Int) x23_1 ((rd_T43 l0 x23_1).f0) ((rd_T43 l0 x23_1).f1) ((rd_T43 l0 x23_1).f2) ((rd_T43 l0 x23_1).f3) ((rd_T43 l0 x23_1).f4.f0) ((rd_T43 l0 x23_1).f4.f1) ((rd_T43 l0 x23_1).f4.f2) ((rd_T43 l0 x23_1).f5.f0) ((rd_T43 l0 x23_1).f5.f1) ((rd_T43 l0 x23_1).f6) ((rd_T43 l0 x23_1).f7)))) else (onset_Of.l0 k2 a1 a2 x9_2 l0 (l0.length : Int) (wrap64 (x23_1 + 1)))) = some (r1, r2) := by first | (rw [hji13] at H; exact H) | (simp only [hji13] at H ⊢; exact H)
                    have hji13_ : (if a2 < ((rd_T43 l0 x23_1).f2) then a2 else ((rd_T43 l0 x23_1).f2)) = ji13 := hji13
                    by_cases c14 : x12_2 ≤ (ji13)
                    · rw [if_pos c14] at H
                      have c14b0 : decide (x12_2 ≤ (ji13)) = true := decide_eq_true c14
                      clear c14
                      replace H := Option.bind_eq_some_iff.mp H
                      obtain ⟨⟨t187, t188, t189, t190⟩, A150, H⟩ := H
                      replace H : (if t190 = true then (if x9_2.length < 5864062014805 then (onset_Of.l1 k2 a1 a2 (x9_2 ++ [(⟨t187, t188, t189⟩ : S37)]) x23_1 (wrap64 (x12_2 + 1)) l0 (l0.length : Int) x23_1 ((rd_T43 l0 x23_1).f0) ((rd_T43 l0 x23_1).f1) ((rd_T43 l0 x23_1).f2) ((rd_T43 l0 x23_1).f3) ((rd_T43 l0 x23_1).f4.f0) ((rd_T43 l0 x23_1).f4.f1) ((rd_T43 l0 x23_1).f4.f2) ((rd_T43 l0 x23_1).f5.f0) ((rd_T43 l0 x23_1).f5.f1) ((rd_T43 l0 x23_1).f6) ((rd_T43 l0 x23_1).f7)) else (none)) else (onset_Of.l1 k2 a1 a2 x9_2 x23_1 (wrap64 (x12_2 + 1)) l0 (l0.length : Int) x23_1 ((rd_T43 l0 x23_1).f0) ((rd_T43 l0 x23_1).f1) ((rd_T43 l0 x23_1).f2) ((rd_T43 l0 x23_1).f3) ((rd_T43 l0 x23_1).f4.f0) ((rd_T43 l0 x23_1).f4.f1) ((rd_T43 l0 x23_1).f4.f2) ((rd_T43 l0 x23_1).f5.f0) ((rd_T43 l0 x23_1).f5.f1) ((rd_T43 l0 x23_1).f6) ((rd_T43 l0 x23_1).f7))) = some (r1, r2) := H
                      have A15 := Aside0.mk A150
                      clear A150
                      by_cases c16 : t190 = true
                      · subst c16
                        have H1 : (if x9_2.length < 5864062014805 then (onset_Of.l1 k2 a1 a2 (x9_2 ++ [(⟨t187, t188, t189⟩ : S37)]) x23_1 (wrap64 (x12_2 + 1)) l0 (l0.length : Int) x23_1 ((rd_T43 l0 x23_1).f0) ((rd_T43 l0 x23_1).f1) ((rd_T43 l0 x23_1).f2) ((rd_T43 l0 x23_1).f3) ((rd_T43 l0 x23_1).f4.f0) ((rd_T43 l0 x23_1).f4.f1) ((rd_T43 l0 x23_1).f4.f2) ((rd_T43 l0 x23_1).f5.f0) ((rd_T43 l0 x23_1).f5.f1) ((rd_T43 l0 x23_1).f6) ((rd_T43 l0 x23_1).f7)) else (none)) = some (r1, r2) := by rw [if_pos rfl] at H; exact H
                        clear H
                        have H := H1
                        clear H1
                        by_cases c17 : x9_2.length < 5864062014805
                        · rw [if_pos c17] at H
                          have LMc17 := Aside0.mk c17
                          clear c17
                          obtain ⟨y192, hy192⟩ : ∃ y_ : List (S37), y_ = (x9_2 ++ [(⟨t187, t188, t189⟩ : S37)]) := ⟨_, rfl⟩
                          replace H : (onset_Of.l1 k2 a1 a2 y192 x23_1 (wrap64 (x12_2 + 1)) l0 (l0.length : Int) x23_1 ((rd_T43 l0 x23_1).f0) ((rd_T43 l0 x23_1).f1) ((rd_T43 l0 x23_1).f2) ((rd_T43 l0 x23_1).f3) ((rd_T43 l0 x23_1).f4.f0) ((rd_T43 l0 x23_1).f4.f1) ((rd_T43 l0 x23_1).f4.f2) ((rd_T43 l0 x23_1).f5.f0) ((rd_T43 l0 x23_1).f5.f1) ((rd_T43 l0 x23_1).f6) ((rd_T43 l0 x23_1).f7)) = some (r1, r2) := by first | (rw [hy192]; with_reducible exact H) | (have H2_ := (Option.bind_some _ _).symm.trans H; rw [hy192]; with_reducible exact H2_) | (have H2_ := (Option.bind_some _ _).symm.trans H; with_reducible exact H2_) | with_reducible exact H | (rw [hy192]; exact H) | exact H
                          have Ny192 := Aside0.mk hy192
                          clear hy192
                          have H' := Aside0.mk H
                          clear H
                          have hcz18_0 : wr.cell? ⟨gb186, 0, none⟩ = some (.string ((rd_T43 l0 x23_1).f0)) := (blk_cell BK186.out 0).trans rfl
                          have hcz18_1 : wr.cell? ⟨gb186, 1, none⟩ = some (.int .i64 ((rd_T43 l0 x23_1).f1)) := (blk_cell BK186.out 1).trans rfl
                          have hcz18_2 : wr.cell? ⟨gb186, 2, none⟩ = some (.int .i64 ((rd_T43 l0 x23_1).f2)) := (blk_cell BK186.out 2).trans rfl
                          have hcz18_3 : wr.cell? ⟨gb186, 3, none⟩ = some (.int .i64 ((rd_T43 l0 x23_1).f3)) := (blk_cell BK186.out 3).trans rfl
                          have hcz18_4 : wr.cell? ⟨gb186, 4, none⟩ = some (.int .i64 ((rd_T43 l0 x23_1).f4.f0)) := (blk_cell BK186.out 4).trans rfl
                          have hcz18_5 : wr.cell? ⟨gb186, 5, none⟩ = some (.int .i64 ((rd_T43 l0 x23_1).f4.f1)) := (blk_cell BK186.out 5).trans rfl
                          have hcz18_6 : wr.cell? ⟨gb186, 6, none⟩ = some (.int .i64 ((rd_T43 l0 x23_1).f4.f2)) := (blk_cell BK186.out 6).trans rfl
                          have hcz18_7 : wr.cell? ⟨gb186, 7, none⟩ = some (.int .i64 ((rd_T43 l0 x23_1).f5.f0)) := (blk_cell BK186.out 7).trans rfl
                          have hcz18_8 : wr.cell? ⟨gb186, 8, none⟩ = some (.int .i64 ((rd_T43 l0 x23_1).f5.f1)) := (blk_cell BK186.out 8).trans rfl
                          have hcz18_9 : wr.cell? ⟨gb186, 9, none⟩ = some (.int .i64 ((rd_T43 l0 x23_1).f6)) := (blk_cell BK186.out 9).trans rfl
                          have hcz18_10 : wr.cell? ⟨gb186, 10, none⟩ = some (.string ((rd_T43 l0 x23_1).f7)) := (blk_cell BK186.out 10).trans rfl
                          have hfz18_0 := blk_frozen BK186.out 0
                          have hfz18_1 := blk_frozen BK186.out 1
                          have hfz18_2 := blk_frozen BK186.out 2
                          have hfz18_3 := blk_frozen BK186.out 3
                          have hfz18_4 := blk_frozen BK186.out 4
                          have hfz18_5 := blk_frozen BK186.out 5
                          have hfz18_6 := blk_frozen BK186.out 6
                          have hfz18_7 := blk_frozen BK186.out 7
                          have hfz18_8 := blk_frozen BK186.out 8
                          have hfz18_9 := blk_frozen BK186.out 9
                          have hfz18_10 := blk_frozen BK186.out 10
                          go_wp2_with (first | ((with_reducible refine gate_callee (f := 20) rfl ?_); refine goesL_ (some 46) rfl rfl Try.func20 (by kernel_rfl) rfl #[.agg #[.string ((rd_T43 l0 x23_1).f0), .int .i64 ((rd_T43 l0 x23_1).f1), .int .i64 ((rd_T43 l0 x23_1).f2), .int .i64 ((rd_T43 l0 x23_1).f3), .int .i64 ((rd_T43 l0 x23_1).f4.f0), .int .i64 ((rd_T43 l0 x23_1).f4.f1), .int .i64 ((rd_T43 l0 x23_1).f4.f2), .int .i64 ((rd_T43 l0 x23_1).f5.f0), .int .i64 ((rd_T43 l0 x23_1).f5.f1), .int .i64 ((rd_T43 l0 x23_1).f6), .string ((rd_T43 l0 x23_1).f7)], .int .i64 x23_1, .int .i64 x12_2] rfl (by (try simp only [List.map_toArray, List.map_cons, List.map_nil]); first | done | rfl | (simp only [List.length_drop, List.length_take]; rfl)) ?_; (with_reducible refine (onset_one.calls k2 ((rd_T43 l0 x23_1).f0) ((rd_T43 l0 x23_1).f1) ((rd_T43 l0 x23_1).f2) ((rd_T43 l0 x23_1).f3) ((rd_T43 l0 x23_1).f4.f0) ((rd_T43 l0 x23_1).f4.f1) ((rd_T43 l0 x23_1).f4.f2) ((rd_T43 l0 x23_1).f5.f0) ((rd_T43 l0 x23_1).f5.f1) ((rd_T43 l0 x23_1).f6) ((rd_T43 l0 x23_1).f7) x23_1 x12_2 t187 t188 t189 true _ A15.out).mono ?_); rintro e w19 ⟨rfl, hb⟩; refine ⟨_, rfl, ?_⟩; have n0_ := Aside0.mk (Kd.R_below (by (with_reducible repeat (first | apply Kd.R_alloc | apply Kd.R_drewN | apply Kd.R_drew)); exact HO_9.out) hb); have n1_ := Aside0.mk (blk_below (g := gb186) (o := .cells #[.string ((rd_T43 l0 x23_1).f0), .int .i64 ((rd_T43 l0 x23_1).f1), .int .i64 ((rd_T43 l0 x23_1).f2), .int .i64 ((rd_T43 l0 x23_1).f3), .int .i64 ((rd_T43 l0 x23_1).f4.f0), .int .i64 ((rd_T43 l0 x23_1).f4.f1), .int .i64 ((rd_T43 l0 x23_1).f4.f2), .int .i64 ((rd_T43 l0 x23_1).f5.f0), .int .i64 ((rd_T43 l0 x23_1).f5.f1), .int .i64 ((rd_T43 l0 x23_1).f6), .string ((rd_T43 l0 x23_1).f7)] 43 (0, 0)) (by (with_reducible repeat (first | refine blk_drewN ?_ _ | refine blk_drew ?_ | refine blk_alloc ?_ _)); exact BK186.out) hb); have n2_ := Aside0.mk (below_step (by repeat (first | (with_reducible first | exact HB.out | apply below_alloc | apply pw_below_drewN | apply below_drew1 | refine below_set ?_ GE186.out) | exact HB.out)) hb); clear HO_9; clear BK186; clear HB; have HO_9 := n0_; have BK186 := n1_; have HB := n2_; clear n0_ n1_ n2_; (try clear hb); (try clear hb2); (try clear hk); (try clear hi)) | ((with_reducible refine gate_dst (N := 13) rfl ?_); refine box_event ?hg (N := 13) ?hd (cs := #[.int .i64 0, .int .i64 0, .int .i64 0]) (t := 37) ?hr ?_; (case hd => rfl); (case hg => rfl); (case hr => first | (go_simp; done) | (go_simp; rfl)); intro gb191 hg w20 hbox hb; have n0_ := Aside0.mk (Kd.R_below (Kd.R_elderB (by (with_reducible repeat (first | apply Kd.R_alloc | apply Kd.R_drewN | apply Kd.R_drew)); exact HO_9.out) gb191 (Nat.le_of_eq hg.symm)) hb); have n1_ := Aside0.mk (blk_below (g := gb186) (o := .cells #[.string ((rd_T43 l0 x23_1).f0), .int .i64 ((rd_T43 l0 x23_1).f1), .int .i64 ((rd_T43 l0 x23_1).f2), .int .i64 ((rd_T43 l0 x23_1).f3), .int .i64 ((rd_T43 l0 x23_1).f4.f0), .int .i64 ((rd_T43 l0 x23_1).f4.f1), .int .i64 ((rd_T43 l0 x23_1).f4.f2), .int .i64 ((rd_T43 l0 x23_1).f5.f0), .int .i64 ((rd_T43 l0 x23_1).f5.f1), .int .i64 ((rd_T43 l0 x23_1).f6), .string ((rd_T43 l0 x23_1).f7)] 43 (0, 0)) (by (with_reducible repeat (first | refine blk_drewN ?_ _ | refine blk_drew ?_ | refine blk_alloc ?_ _)); exact BK186.out) hb); have n2_ := Aside0.mk (below_step (by repeat (first | (with_reducible first | exact HB.out | apply below_alloc | apply pw_below_drewN | apply below_drew1 | refine below_set ?_ GE186.out) | exact HB.out)) hb); have n3_ := Aside0.mk (hbox); have n4_ := Aside0.mk ((by rw [hg]; exact (below_size (by repeat (first | (with_reducible first | exact HB.out | apply below_alloc | apply pw_below_drewN | apply below_drew1 | refine below_set ?_ GE186.out) | exact HB.out))) : w.heap.size ≤ gb191)); have n5_ := Aside0.mk ((by rw [hg]; exact (below_size (by repeat (first | (with_reducible first | exact HB.out | apply below_alloc | apply pw_below_drewN | apply below_drew1 | refine below_set ?_ GE186.out) | exact HB.out))) : w.heap.size ≤ gb191)); have n6_ := Aside0.mk ((by rw [hg]; exact Nat.ne_of_lt (blk_lt (g := gb186) (o := .cells #[.string ((rd_T43 l0 x23_1).f0), .int .i64 ((rd_T43 l0 x23_1).f1), .int .i64 ((rd_T43 l0 x23_1).f2), .int .i64 ((rd_T43 l0 x23_1).f3), .int .i64 ((rd_T43 l0 x23_1).f4.f0), .int .i64 ((rd_T43 l0 x23_1).f4.f1), .int .i64 ((rd_T43 l0 x23_1).f4.f2), .int .i64 ((rd_T43 l0 x23_1).f5.f0), .int .i64 ((rd_T43 l0 x23_1).f5.f1), .int .i64 ((rd_T43 l0 x23_1).f6), .string ((rd_T43 l0 x23_1).f7)] 43 (0, 0)) (by (with_reducible repeat (first | refine blk_drewN ?_ _ | refine blk_drew ?_ | refine blk_alloc ?_ _)); exact BK186.out)) : gb186 ≠ gb191)); have n7_ := Aside0.mk ((by rw [hg]; exact Nat.ne_of_gt (blk_lt (g := gb186) (o := .cells #[.string ((rd_T43 l0 x23_1).f0), .int .i64 ((rd_T43 l0 x23_1).f1), .int .i64 ((rd_T43 l0 x23_1).f2), .int .i64 ((rd_T43 l0 x23_1).f3), .int .i64 ((rd_T43 l0 x23_1).f4.f0), .int .i64 ((rd_T43 l0 x23_1).f4.f1), .int .i64 ((rd_T43 l0 x23_1).f4.f2), .int .i64 ((rd_T43 l0 x23_1).f5.f0), .int .i64 ((rd_T43 l0 x23_1).f5.f1), .int .i64 ((rd_T43 l0 x23_1).f6), .string ((rd_T43 l0 x23_1).f7)] 43 (0, 0)) (by (with_reducible repeat (first | refine blk_drewN ?_ _ | refine blk_drew ?_ | refine blk_alloc ?_ _)); exact BK186.out)) : gb191 ≠ gb186)); clear HO_9; clear BK186; clear HB; have HO_9 := n0_; have BK186 := n1_; have HB := n2_; have BK191 := n3_; have GW191 := n4_; have GE191 := n5_; have NB186_191 := n6_; have NB191_186 := n7_; clear n0_ n1_ n2_ n3_ n4_ n5_ n6_ n7_; clear hb hbox hg; have hnb21 := NB191_186.out; have hnc21 := NB186_191.out; have hcz22_0 : w20.cell? ⟨gb191, 0, none⟩ = some (.int .i64 0) := (blk_cell BK191.out 0).trans rfl; have hcz22_1 : w20.cell? ⟨gb191, 1, none⟩ = some (.int .i64 0) := (blk_cell BK191.out 1).trans rfl; have hcz22_2 : w20.cell? ⟨gb191, 2, none⟩ = some (.int .i64 0) := (blk_cell BK191.out 2).trans rfl; have hfz22_0 := blk_frozen BK191.out 0; have hfz22_1 := blk_frozen BK191.out 1; have hfz22_2 := blk_frozen BK191.out 2) | ((with_reducible refine gate_builtin (b := .append) (xs := #[.tmp 50, .tmp 52]) rfl ?_); at_builtin; refine Kd.R_append k37 (w0 := w) w.heap.size rfl (.tmp 50) (.tmp 52) 24 37 (.agg #[(.int .i64 0), (.int .i64 0), (.int .i64 0)]) 24 rfl Try.underlying24 info37 rfl (by decide) (by omega) u9 x9_2 (⟨t187, t188, t189⟩ : S37) [.int .i64 t187, .int .i64 t188, .int .i64 t189] (fun k_ => k_ ≠ gb191) (fun _ => False) rfl (by first | (go_simp; done) | (go_simp; rfl)) ?aP (fun _ hk => hk.elim) ?aF ?aO ?aB ?aS ?aL ?_; (case aP => exact k37_mkM _ _ _ (⟨t187, t188, t189⟩ : S37)); (case aB => exact (by repeat (first | (with_reducible first | exact HB.out | apply below_alloc | apply pw_below_drewN | apply below_drew1 | refine below_set ?_ GE186.out | refine below_set ?_ GE191.out) | exact HB.out))); (case aF => exact (fun k_ hk => Kd.freshB (g := gb191) (o := .cells #[.int .i64 t187, .int .i64 t188, .int .i64 t189] 37 (0, 0)) (by (with_reducible repeat (first | refine blk_drewN ?_ _ | refine blk_drew ?_ | refine blk_alloc ?_ _)); refine blk_put (cs := #[.int .i64 t187, .int .i64 t188, .int .i64 0]) ?_ 2 _ rfl; (with_reducible repeat (first | refine blk_drewN ?_ _ | refine blk_drew ?_ | refine blk_alloc ?_ _)); refine blk_put (cs := #[.int .i64 t187, .int .i64 0, .int .i64 0]) ?_ 1 _ rfl; (with_reducible repeat (first | refine blk_drewN ?_ _ | refine blk_drew ?_ | refine blk_alloc ?_ _)); refine blk_put (cs := #[.int .i64 0, .int .i64 0, .int .i64 0]) ?_ 0 _ rfl; (with_reducible repeat (first | refine blk_drewN ?_ _ | refine blk_drew ?_ | refine blk_alloc ?_ _)); exact BK191.out) k_ hk)); (case aO => exact (by (with_reducible repeat (first | apply Kd.R_alloc | apply Kd.R_drewN | apply Kd.R_drew)); exact Kd.R_mono (Kd.R_far (p := ⟨gb191, 2, none⟩) (Kd.R_far (p := ⟨gb191, 1, none⟩) (Kd.R_far (p := ⟨gb191, 0, none⟩) (Kd.R_mono HO_9.out (fun k_ hk => (⟨hk, hk.2⟩ : _ ∧ k_ ≠ gb191))) (fun _ hk => hk.2) (.int .i64 t187)) (fun _ hk => hk.2) (.int .i64 t188)) (fun _ hk => hk.2) (.int .i64 t189)) (fun _ hk => hk.1.2))); (case aS => exact (below_size (by repeat (first | (with_reducible first | exact HB.out | apply below_alloc | apply pw_below_drewN | apply below_drew1 | refine below_set ?_ GE186.out | refine below_set ?_ GE191.out) | exact HB.out)))); (case aL => have := LMc17.out; omega); intro v193 w23 ho hb hg hat; rw [← Ny192.out] at ho; have n0_ := Aside0.mk (blk_grown (g := gb186) (o := .cells #[.string ((rd_T43 l0 x23_1).f0), .int .i64 ((rd_T43 l0 x23_1).f1), .int .i64 ((rd_T43 l0 x23_1).f2), .int .i64 ((rd_T43 l0 x23_1).f3), .int .i64 ((rd_T43 l0 x23_1).f4.f0), .int .i64 ((rd_T43 l0 x23_1).f4.f1), .int .i64 ((rd_T43 l0 x23_1).f4.f2), .int .i64 ((rd_T43 l0 x23_1).f5.f0), .int .i64 ((rd_T43 l0 x23_1).f5.f1), .int .i64 ((rd_T43 l0 x23_1).f6), .string ((rd_T43 l0 x23_1).f7)] 43 (0, 0)) (by (with_reducible repeat (first | refine blk_drewN ?_ _ | refine blk_drew ?_ | refine blk_alloc ?_ _)); refine blk_far ?_ NB186_191.out _; (with_reducible repeat (first | refine blk_drewN ?_ _ | refine blk_drew ?_ | refine blk_alloc ?_ _)); refine blk_far ?_ NB186_191.out _; (with_reducible repeat (first | refine blk_drewN ?_ _ | refine blk_drew ?_ | refine blk_alloc ?_ _)); refine blk_far ?_ NB186_191.out _; (with_reducible repeat (first | refine blk_drewN ?_ _ | refine blk_drew ?_ | refine blk_alloc ?_ _)); exact BK186.out) hg (Kd.R_ne HO_9.out BK186.out (by decide))); have n1_ := Aside0.mk (blk_grown (g := gb191) (o := .cells #[.int .i64 t187, .int .i64 t188, .int .i64 t189] 37 (0, 0)) (by (with_reducible repeat (first | refine blk_drewN ?_ _ | refine blk_drew ?_ | refine blk_alloc ?_ _)); refine blk_put (cs := #[.int .i64 t187, .int .i64 t188, .int .i64 0]) ?_ 2 _ rfl; (with_reducible repeat (first | refine blk_drewN ?_ _ | refine blk_drew ?_ | refine blk_alloc ?_ _)); refine blk_put (cs := #[.int .i64 t187, .int .i64 0, .int .i64 0]) ?_ 1 _ rfl; (with_reducible repeat (first | refine blk_drewN ?_ _ | refine blk_drew ?_ | refine blk_alloc ?_ _)); refine blk_put (cs := #[.int .i64 0, .int .i64 0, .int .i64 0]) ?_ 0 _ rfl; (with_reducible repeat (first | refine blk_drewN ?_ _ | refine blk_drew ?_ | refine blk_alloc ?_ _)); exact BK191.out) hg (Kd.R_away HO_9.out (fun _ hk => hk.2))); have n2_ := Aside0.mk (hb); have n3_ := Aside0.mk (ho); clear BK186; clear BK191; clear HB; clear HO_9; have BK186 := n0_; have BK191 := n1_; have HB := n2_; have HO194 := n3_; clear n0_ n1_ n2_ n3_; clear ho hb hg hat))
                          go_roundg k2
                          case measure => have := HK1.out; have := HK2.out; omega
                          case rel => exact ⟨(y192), (wrap64 (x12_2 + 1)), (by first | rfl | (simp; done) | (simp [*]; done)), H', ⟨by have := HK1.out; have := HK2.out; omega⟩, ⟨by (with_reducible repeat (first | apply Kd.R_alloc | apply Kd.R_drewN | apply Kd.R_drew)); exact Kd.R_mono HO194.out (fun _ hk => trivial)⟩, ⟨by (with_reducible repeat (first | refine blk_drewN ?_ _ | refine blk_drew ?_ | refine blk_alloc ?_ _)); exact BK186.out⟩, ⟨by repeat (first | (with_reducible first | exact HB.out | apply below_alloc | apply pw_below_drewN | apply below_drew1 | refine below_set ?_ GE186.out | refine below_set ?_ GE191.out) | exact HB.out)⟩⟩
                        · rw [if_neg c17] at H
                          exact absurd H (by simp)
                      · replace c16 := Bool.eq_false_iff.mpr c16
                        subst c16
                        have H1 : (onset_Of.l1 k2 a1 a2 x9_2 x23_1 (wrap64 (x12_2 + 1)) l0 (l0.length : Int) x23_1 ((rd_T43 l0 x23_1).f0) ((rd_T43 l0 x23_1).f1) ((rd_T43 l0 x23_1).f2) ((rd_T43 l0 x23_1).f3) ((rd_T43 l0 x23_1).f4.f0) ((rd_T43 l0 x23_1).f4.f1) ((rd_T43 l0 x23_1).f4.f2) ((rd_T43 l0 x23_1).f5.f0) ((rd_T43 l0 x23_1).f5.f1) ((rd_T43 l0 x23_1).f6) ((rd_T43 l0 x23_1).f7)) = some (r1, r2) := by rw [if_neg (show ¬ (false = true) by decide)] at H; exact H
                        clear H
                        have H := H1
                        clear H1
                        have H' := Aside0.mk H
                        clear H
                        have hcz24_0 : wr.cell? ⟨gb186, 0, none⟩ = some (.string ((rd_T43 l0 x23_1).f0)) := (blk_cell BK186.out 0).trans rfl
                        have hcz24_1 : wr.cell? ⟨gb186, 1, none⟩ = some (.int .i64 ((rd_T43 l0 x23_1).f1)) := (blk_cell BK186.out 1).trans rfl
                        have hcz24_2 : wr.cell? ⟨gb186, 2, none⟩ = some (.int .i64 ((rd_T43 l0 x23_1).f2)) := (blk_cell BK186.out 2).trans rfl
                        have hcz24_3 : wr.cell? ⟨gb186, 3, none⟩ = some (.int .i64 ((rd_T43 l0 x23_1).f3)) := (blk_cell BK186.out 3).trans rfl
                        have hcz24_4 : wr.cell? ⟨gb186, 4, none⟩ = some (.int .i64 ((rd_T43 l0 x23_1).f4.f0)) := (blk_cell BK186.out 4).trans rfl
                        have hcz24_5 : wr.cell? ⟨gb186, 5, none⟩ = some (.int .i64 ((rd_T43 l0 x23_1).f4.f1)) := (blk_cell BK186.out 5).trans rfl
                        have hcz24_6 : wr.cell? ⟨gb186, 6, none⟩ = some (.int .i64 ((rd_T43 l0 x23_1).f4.f2)) := (blk_cell BK186.out 6).trans rfl
                        have hcz24_7 : wr.cell? ⟨gb186, 7, none⟩ = some (.int .i64 ((rd_T43 l0 x23_1).f5.f0)) := (blk_cell BK186.out 7).trans rfl
                        have hcz24_8 : wr.cell? ⟨gb186, 8, none⟩ = some (.int .i64 ((rd_T43 l0 x23_1).f5.f1)) := (blk_cell BK186.out 8).trans rfl
                        have hcz24_9 : wr.cell? ⟨gb186, 9, none⟩ = some (.int .i64 ((rd_T43 l0 x23_1).f6)) := (blk_cell BK186.out 9).trans rfl
                        have hcz24_10 : wr.cell? ⟨gb186, 10, none⟩ = some (.string ((rd_T43 l0 x23_1).f7)) := (blk_cell BK186.out 10).trans rfl
                        have hfz24_0 := blk_frozen BK186.out 0
                        have hfz24_1 := blk_frozen BK186.out 1
                        have hfz24_2 := blk_frozen BK186.out 2
                        have hfz24_3 := blk_frozen BK186.out 3
                        have hfz24_4 := blk_frozen BK186.out 4
                        have hfz24_5 := blk_frozen BK186.out 5
                        have hfz24_6 := blk_frozen BK186.out 6
                        have hfz24_7 := blk_frozen BK186.out 7
                        have hfz24_8 := blk_frozen BK186.out 8
                        have hfz24_9 := blk_frozen BK186.out 9
                        have hfz24_10 := blk_frozen BK186.out 10
                        go_wp2_with (first | ((with_reducible refine gate_callee (f := 20) rfl ?_); refine goesL_ (some 46) rfl rfl Try.func20 (by kernel_rfl) rfl #[.agg #[.string ((rd_T43 l0 x23_1).f0), .int .i64 ((rd_T43 l0 x23_1).f1), .int .i64 ((rd_T43 l0 x23_1).f2), .int .i64 ((rd_T43 l0 x23_1).f3), .int .i64 ((rd_T43 l0 x23_1).f4.f0), .int .i64 ((rd_T43 l0 x23_1).f4.f1), .int .i64 ((rd_T43 l0 x23_1).f4.f2), .int .i64 ((rd_T43 l0 x23_1).f5.f0), .int .i64 ((rd_T43 l0 x23_1).f5.f1), .int .i64 ((rd_T43 l0 x23_1).f6), .string ((rd_T43 l0 x23_1).f7)], .int .i64 x23_1, .int .i64 x12_2] rfl (by (try simp only [List.map_toArray, List.map_cons, List.map_nil]); first | done | rfl | (simp only [List.length_drop, List.length_take]; rfl)) ?_; (with_reducible refine (onset_one.calls k2 ((rd_T43 l0 x23_1).f0) ((rd_T43 l0 x23_1).f1) ((rd_T43 l0 x23_1).f2) ((rd_T43 l0 x23_1).f3) ((rd_T43 l0 x23_1).f4.f0) ((rd_T43 l0 x23_1).f4.f1) ((rd_T43 l0 x23_1).f4.f2) ((rd_T43 l0 x23_1).f5.f0) ((rd_T43 l0 x23_1).f5.f1) ((rd_T43 l0 x23_1).f6) ((rd_T43 l0 x23_1).f7) x23_1 x12_2 t187 t188 t189 false _ A15.out).mono ?_); rintro e w25 ⟨rfl, hb⟩; refine ⟨_, rfl, ?_⟩; have n0_ := Aside0.mk (Kd.R_below (by (with_reducible repeat (first | apply Kd.R_alloc | apply Kd.R_drewN | apply Kd.R_drew)); exact HO_9.out) hb); have n1_ := Aside0.mk (blk_below (g := gb186) (o := .cells #[.string ((rd_T43 l0 x23_1).f0), .int .i64 ((rd_T43 l0 x23_1).f1), .int .i64 ((rd_T43 l0 x23_1).f2), .int .i64 ((rd_T43 l0 x23_1).f3), .int .i64 ((rd_T43 l0 x23_1).f4.f0), .int .i64 ((rd_T43 l0 x23_1).f4.f1), .int .i64 ((rd_T43 l0 x23_1).f4.f2), .int .i64 ((rd_T43 l0 x23_1).f5.f0), .int .i64 ((rd_T43 l0 x23_1).f5.f1), .int .i64 ((rd_T43 l0 x23_1).f6), .string ((rd_T43 l0 x23_1).f7)] 43 (0, 0)) (by (with_reducible repeat (first | refine blk_drewN ?_ _ | refine blk_drew ?_ | refine blk_alloc ?_ _)); exact BK186.out) hb); have n2_ := Aside0.mk (below_step (by repeat (first | (with_reducible first | exact HB.out | apply below_alloc | apply pw_below_drewN | apply below_drew1 | refine below_set ?_ GE186.out) | exact HB.out)) hb); clear HO_9; clear BK186; clear HB; have HO_9 := n0_; have BK186 := n1_; have HB := n2_; clear n0_ n1_ n2_; (try clear hb); (try clear hb2); (try clear hk); (try clear hi)) | ((with_reducible refine gate_dst (N := 13) rfl ?_); refine box_event ?hg (N := 13) ?hd (cs := #[.int .i64 0, .int .i64 0, .int .i64 0]) (t := 37) ?hr ?_; (case hd => rfl); (case hg => rfl); (case hr => first | (go_simp; done) | (go_simp; rfl)); intro gb191 hg w26 hbox hb; have n0_ := Aside0.mk (Kd.R_below (Kd.R_elderB (by (with_reducible repeat (first | apply Kd.R_alloc | apply Kd.R_drewN | apply Kd.R_drew)); exact HO_9.out) gb191 (Nat.le_of_eq hg.symm)) hb); have n1_ := Aside0.mk (blk_below (g := gb186) (o := .cells #[.string ((rd_T43 l0 x23_1).f0), .int .i64 ((rd_T43 l0 x23_1).f1), .int .i64 ((rd_T43 l0 x23_1).f2), .int .i64 ((rd_T43 l0 x23_1).f3), .int .i64 ((rd_T43 l0 x23_1).f4.f0), .int .i64 ((rd_T43 l0 x23_1).f4.f1), .int .i64 ((rd_T43 l0 x23_1).f4.f2), .int .i64 ((rd_T43 l0 x23_1).f5.f0), .int .i64 ((rd_T43 l0 x23_1).f5.f1), .int .i64 ((rd_T43 l0 x23_1).f6), .string ((rd_T43 l0 x23_1).f7)] 43 (0, 0)) (by (with_reducible repeat (first | refine blk_drewN ?_ _ | refine blk_drew ?_ | refine blk_alloc ?_ _)); exact BK186.out) hb); have n2_ := Aside0.mk (below_step (by repeat (first | (with_reducible first | exact HB.out | apply below_alloc | apply pw_below_drewN | apply below_drew1 | refine below_set ?_ GE186.out) | exact HB.out)) hb); have n3_ := Aside0.mk (hbox); have n4_ := Aside0.mk ((by rw [hg]; exact (below_size (by repeat (first | (with_reducible first | exact HB.out | apply below_alloc | apply pw_below_drewN | apply below_drew1 | refine below_set ?_ GE186.out) | exact HB.out))) : w.heap.size ≤ gb191)); have n5_ := Aside0.mk ((by rw [hg]; exact (below_size (by repeat (first | (with_reducible first | exact HB.out | apply below_alloc | apply pw_below_drewN | apply below_drew1 | refine below_set ?_ GE186.out) | exact HB.out))) : w.heap.size ≤ gb191)); have n6_ := Aside0.mk ((by rw [hg]; exact Nat.ne_of_lt (blk_lt (g := gb186) (o := .cells #[.string ((rd_T43 l0 x23_1).f0), .int .i64 ((rd_T43 l0 x23_1).f1), .int .i64 ((rd_T43 l0 x23_1).f2), .int .i64 ((rd_T43 l0 x23_1).f3), .int .i64 ((rd_T43 l0 x23_1).f4.f0), .int .i64 ((rd_T43 l0 x23_1).f4.f1), .int .i64 ((rd_T43 l0 x23_1).f4.f2), .int .i64 ((rd_T43 l0 x23_1).f5.f0), .int .i64 ((rd_T43 l0 x23_1).f5.f1), .int .i64 ((rd_T43 l0 x23_1).f6), .string ((rd_T43 l0 x23_1).f7)] 43 (0, 0)) (by (with_reducible repeat (first | refine blk_drewN ?_ _ | refine blk_drew ?_ | refine blk_alloc ?_ _)); exact BK186.out)) : gb186 ≠ gb191)); have n7_ := Aside0.mk ((by rw [hg]; exact Nat.ne_of_gt (blk_lt (g := gb186) (o := .cells #[.string ((rd_T43 l0 x23_1).f0), .int .i64 ((rd_T43 l0 x23_1).f1), .int .i64 ((rd_T43 l0 x23_1).f2), .int .i64 ((rd_T43 l0 x23_1).f3), .int .i64 ((rd_T43 l0 x23_1).f4.f0), .int .i64 ((rd_T43 l0 x23_1).f4.f1), .int .i64 ((rd_T43 l0 x23_1).f4.f2), .int .i64 ((rd_T43 l0 x23_1).f5.f0), .int .i64 ((rd_T43 l0 x23_1).f5.f1), .int .i64 ((rd_T43 l0 x23_1).f6), .string ((rd_T43 l0 x23_1).f7)] 43 (0, 0)) (by (with_reducible repeat (first | refine blk_drewN ?_ _ | refine blk_drew ?_ | refine blk_alloc ?_ _)); exact BK186.out)) : gb191 ≠ gb186)); clear HO_9; clear BK186; clear HB; have HO_9 := n0_; have BK186 := n1_; have HB := n2_; have BK191 := n3_; have GW191 := n4_; have GE191 := n5_; have NB186_191 := n6_; have NB191_186 := n7_; clear n0_ n1_ n2_ n3_ n4_ n5_ n6_ n7_; clear hb hbox hg; have hnb27 := NB191_186.out; have hnc27 := NB186_191.out; have hcz28_0 : w26.cell? ⟨gb191, 0, none⟩ = some (.int .i64 0) := (blk_cell BK191.out 0).trans rfl; have hcz28_1 : w26.cell? ⟨gb191, 1, none⟩ = some (.int .i64 0) := (blk_cell BK191.out 1).trans rfl; have hcz28_2 : w26.cell? ⟨gb191, 2, none⟩ = some (.int .i64 0) := (blk_cell BK191.out 2).trans rfl; have hfz28_0 := blk_frozen BK191.out 0; have hfz28_1 := blk_frozen BK191.out 1; have hfz28_2 := blk_frozen BK191.out 2))
                        go_roundg k2
                        case measure => have := HK1.out; have := HK2.out; omega
                        case rel => exact ⟨(x9_2), (wrap64 (x12_2 + 1)), (by first | rfl | (simp; done) | (simp [*]; done)), H', ⟨by have := HK1.out; have := HK2.out; omega⟩, ⟨by (with_reducible repeat (first | apply Kd.R_alloc | apply Kd.R_drewN | apply Kd.R_drew)); exact Kd.R_mono (Kd.R_far (p := ⟨gb191, 2, none⟩) (Kd.R_far (p := ⟨gb191, 1, none⟩) (Kd.R_far (p := ⟨gb191, 0, none⟩) (Kd.R_mono HO_9.out (fun k_ hk => (⟨hk, hk.2⟩ : _ ∧ k_ ≠ gb191))) (fun _ hk => hk.2) (.int .i64 t187)) (fun _ hk => hk.2) (.int .i64 t188)) (fun _ hk => hk.2) (.int .i64 t189)) (fun _ hk => trivial)⟩, ⟨by (with_reducible repeat (first | refine blk_drewN ?_ _ | refine blk_drew ?_ | refine blk_alloc ?_ _)); refine blk_far ?_ NB186_191.out _; (with_reducible repeat (first | refine blk_drewN ?_ _ | refine blk_drew ?_ | refine blk_alloc ?_ _)); refine blk_far ?_ NB186_191.out _; (with_reducible repeat (first | refine blk_drewN ?_ _ | refine blk_drew ?_ | refine blk_alloc ?_ _)); refine blk_far ?_ NB186_191.out _; (with_reducible repeat (first | refine blk_drewN ?_ _ | refine blk_drew ?_ | refine blk_alloc ?_ _)); exact BK186.out⟩, ⟨by repeat (first | (with_reducible first | exact HB.out | apply below_alloc | apply pw_below_drewN | apply below_drew1 | refine below_set ?_ GE186.out | refine below_set ?_ GE191.out) | exact HB.out)⟩⟩
                    · rw [if_neg c14] at H
                      have c14b0 : decide (x12_2 ≤ (ji13)) = false := decide_eq_false c14
                      clear c14
                      have H' := Aside0.mk H
                      clear H
                      have hcz29_0 : wr.cell? ⟨gb186, 0, none⟩ = some (.string ((rd_T43 l0 x23_1).f0)) := (blk_cell BK186.out 0).trans rfl
                      have hcz29_1 : wr.cell? ⟨gb186, 1, none⟩ = some (.int .i64 ((rd_T43 l0 x23_1).f1)) := (blk_cell BK186.out 1).trans rfl
                      have hcz29_2 : wr.cell? ⟨gb186, 2, none⟩ = some (.int .i64 ((rd_T43 l0 x23_1).f2)) := (blk_cell BK186.out 2).trans rfl
                      have hcz29_3 : wr.cell? ⟨gb186, 3, none⟩ = some (.int .i64 ((rd_T43 l0 x23_1).f3)) := (blk_cell BK186.out 3).trans rfl
                      have hcz29_4 : wr.cell? ⟨gb186, 4, none⟩ = some (.int .i64 ((rd_T43 l0 x23_1).f4.f0)) := (blk_cell BK186.out 4).trans rfl
                      have hcz29_5 : wr.cell? ⟨gb186, 5, none⟩ = some (.int .i64 ((rd_T43 l0 x23_1).f4.f1)) := (blk_cell BK186.out 5).trans rfl
                      have hcz29_6 : wr.cell? ⟨gb186, 6, none⟩ = some (.int .i64 ((rd_T43 l0 x23_1).f4.f2)) := (blk_cell BK186.out 6).trans rfl
                      have hcz29_7 : wr.cell? ⟨gb186, 7, none⟩ = some (.int .i64 ((rd_T43 l0 x23_1).f5.f0)) := (blk_cell BK186.out 7).trans rfl
                      have hcz29_8 : wr.cell? ⟨gb186, 8, none⟩ = some (.int .i64 ((rd_T43 l0 x23_1).f5.f1)) := (blk_cell BK186.out 8).trans rfl
                      have hcz29_9 : wr.cell? ⟨gb186, 9, none⟩ = some (.int .i64 ((rd_T43 l0 x23_1).f6)) := (blk_cell BK186.out 9).trans rfl
                      have hcz29_10 : wr.cell? ⟨gb186, 10, none⟩ = some (.string ((rd_T43 l0 x23_1).f7)) := (blk_cell BK186.out 10).trans rfl
                      have hfz29_0 := blk_frozen BK186.out 0
                      have hfz29_1 := blk_frozen BK186.out 1
                      have hfz29_2 := blk_frozen BK186.out 2
                      have hfz29_3 := blk_frozen BK186.out 3
                      have hfz29_4 := blk_frozen BK186.out 4
                      have hfz29_5 := blk_frozen BK186.out 5
                      have hfz29_6 := blk_frozen BK186.out 6
                      have hfz29_7 := blk_frozen BK186.out 7
                      have hfz29_8 := blk_frozen BK186.out 8
                      have hfz29_9 := blk_frozen BK186.out 9
                      have hfz29_10 := blk_frozen BK186.out 10
                      go_wp2
                      go_roundg k2
                      case measure => have := HK1.out; have := HK2.out; omega
                      case rel => exact ⟨(x9_2), (wrap64 (x23_1 + 1)), (by first | rfl | (simp; done) | (simp [*]; done)), H', ⟨by have := HK1.out; have := HK2.out; omega⟩, ⟨by (with_reducible repeat (first | apply Kd.R_alloc | apply Kd.R_drewN | apply Kd.R_drew)); exact HO_9.out⟩, ⟨by repeat (first | (with_reducible first | exact HB.out | apply below_alloc | apply pw_below_drewN | apply below_drew1 | refine below_set ?_ GE186.out) | exact HB.out)⟩⟩
              · rw [if_neg c10] at H
                have c10b0 : (((rd_T43 l0 x23_1).f0).toList == a1.toList) = false := beq_eq_false_iff_ne.mpr c10
                have c10b1 : (((rd_T43 l0 x23_1).f0).toList != a1.toList) = true := bne_iff_ne.mpr c10
                have H' := Aside0.mk H
                clear H
                have p185 : 0 ≤ (x23_1 : Int) := of_decide_eq_true (by first | (with_reducible assumption) | assumption)
                have q185 : x23_1 < (l0.length : Int) := of_decide_eq_true (by first | (with_reducible assumption) | assumption)
                obtain ⟨ad185, e185, hx185_0, hx185_1, hx185_2, hx185_3, hx185_4, hx185_5, hx185_6, hx185_7, hx185_8, hx185_9, hx185_10⟩ := at_T43 HR0.out x23_1 p185 q185
                cases e185
                replace hx185_0 := (HB.out.cell (World.block_lt_of_cell? w _ hx185_0)).trans hx185_0
                replace hx185_1 := (HB.out.cell (World.block_lt_of_cell? w _ hx185_1)).trans hx185_1
                replace hx185_2 := (HB.out.cell (World.block_lt_of_cell? w _ hx185_2)).trans hx185_2
                replace hx185_3 := (HB.out.cell (World.block_lt_of_cell? w _ hx185_3)).trans hx185_3
                replace hx185_4 := (HB.out.cell (World.block_lt_of_cell? w _ hx185_4)).trans hx185_4
                replace hx185_5 := (HB.out.cell (World.block_lt_of_cell? w _ hx185_5)).trans hx185_5
                replace hx185_6 := (HB.out.cell (World.block_lt_of_cell? w _ hx185_6)).trans hx185_6
                replace hx185_7 := (HB.out.cell (World.block_lt_of_cell? w _ hx185_7)).trans hx185_7
                replace hx185_8 := (HB.out.cell (World.block_lt_of_cell? w _ hx185_8)).trans hx185_8
                replace hx185_9 := (HB.out.cell (World.block_lt_of_cell? w _ hx185_9)).trans hx185_9
                replace hx185_10 := (HB.out.cell (World.block_lt_of_cell? w _ hx185_10)).trans hx185_10
                replace p185 := eq_true p185
                replace q185 := eq_true q185
                go_wp2_with (first | ((with_reducible refine gate_dst (N := 11) rfl ?_); refine box_event ?hg (N := 11) ?hd (cs := #[.string (⟨#[]⟩ : ByteArray), .int .i64 0, .int .i64 0, .int .i64 0, .int .i64 0, .int .i64 0, .int .i64 0, .int .i64 0, .int .i64 0, .int .i64 0, .string (⟨#[]⟩ : ByteArray)]) (t := 43) ?hr ?_; (case hd => rfl); (case hg => rfl); (case hr => first | (go_simp; done) | (go_simp; rfl)); intro gb186 hg w30 hbox hb; have n0_ := Aside0.mk (Kd.R_below (by (with_reducible repeat (first | apply Kd.R_alloc | apply Kd.R_drewN | apply Kd.R_drew)); exact HO_9.out) hb); have n1_ := Aside0.mk (below_step (by repeat (first | (with_reducible first | exact HB.out | apply below_alloc | apply pw_below_drewN | apply below_drew1) | exact HB.out)) hb); have n2_ := Aside0.mk (hbox); have n3_ := Aside0.mk ((by rw [hg]; exact (below_size (by repeat (first | (with_reducible first | exact HB.out | apply below_alloc | apply pw_below_drewN | apply below_drew1) | exact HB.out))) : w.heap.size ≤ gb186)); have n4_ := Aside0.mk ((by rw [hg]; exact (below_size (by repeat (first | (with_reducible first | exact HB.out | apply below_alloc | apply pw_below_drewN | apply below_drew1) | exact HB.out))) : w.heap.size ≤ gb186)); clear HO_9; clear HB; have HO_9 := n0_; have HB := n1_; have BK186 := n2_; have GW186 := n3_; have GE186 := n4_; clear n0_ n1_ n2_ n3_ n4_; clear hb hbox hg; have hcz31_0 : w30.cell? ⟨gb186, 0, none⟩ = some (.string (⟨#[]⟩ : ByteArray)) := (blk_cell BK186.out 0).trans rfl; have hcz31_1 : w30.cell? ⟨gb186, 1, none⟩ = some (.int .i64 0) := (blk_cell BK186.out 1).trans rfl; have hcz31_2 : w30.cell? ⟨gb186, 2, none⟩ = some (.int .i64 0) := (blk_cell BK186.out 2).trans rfl; have hcz31_3 : w30.cell? ⟨gb186, 3, none⟩ = some (.int .i64 0) := (blk_cell BK186.out 3).trans rfl; have hcz31_4 : w30.cell? ⟨gb186, 4, none⟩ = some (.int .i64 0) := (blk_cell BK186.out 4).trans rfl; have hcz31_5 : w30.cell? ⟨gb186, 5, none⟩ = some (.int .i64 0) := (blk_cell BK186.out 5).trans rfl; have hcz31_6 : w30.cell? ⟨gb186, 6, none⟩ = some (.int .i64 0) := (blk_cell BK186.out 6).trans rfl; have hcz31_7 : w30.cell? ⟨gb186, 7, none⟩ = some (.int .i64 0) := (blk_cell BK186.out 7).trans rfl; have hcz31_8 : w30.cell? ⟨gb186, 8, none⟩ = some (.int .i64 0) := (blk_cell BK186.out 8).trans rfl; have hcz31_9 : w30.cell? ⟨gb186, 9, none⟩ = some (.int .i64 0) := (blk_cell BK186.out 9).trans rfl; have hcz31_10 : w30.cell? ⟨gb186, 10, none⟩ = some (.string (⟨#[]⟩ : ByteArray)) := (blk_cell BK186.out 10).trans rfl; have hfz31_0 := blk_frozen BK186.out 0; have hfz31_1 := blk_frozen BK186.out 1; have hfz31_2 := blk_frozen BK186.out 2; have hfz31_3 := blk_frozen BK186.out 3; have hfz31_4 := blk_frozen BK186.out 4; have hfz31_5 := blk_frozen BK186.out 5; have hfz31_6 := blk_frozen BK186.out 6; have hfz31_7 := blk_frozen BK186.out 7; have hfz31_8 := blk_frozen BK186.out 8; have hfz31_9 := blk_frozen BK186.out 9; have hfz31_10 := blk_frozen BK186.out 10))
                go_roundg k1
                case measure => have := HK1.out; omega
                case rel => exact ⟨(x9_1), (wrap64 (x23_1 + 1)), (by first | rfl | (simp; done) | (simp [*]; done)), H', ⟨by have := HK1.out; omega⟩, ⟨by (with_reducible repeat (first | apply Kd.R_alloc | apply Kd.R_drewN | apply Kd.R_drew)); exact Kd.R_mono (Kd.R_far (p := ⟨gb186, 10, none⟩) (Kd.R_far (p := ⟨gb186, 9, none⟩) (Kd.R_far (p := ⟨gb186, 8, none⟩) (Kd.R_far (p := ⟨gb186, 7, none⟩) (Kd.R_far (p := ⟨gb186, 6, none⟩) (Kd.R_far (p := ⟨gb186, 5, none⟩) (Kd.R_far (p := ⟨gb186, 4, none⟩) (Kd.R_far (p := ⟨gb186, 3, none⟩) (Kd.R_far (p := ⟨gb186, 2, none⟩) (Kd.R_far (p := ⟨gb186, 1, none⟩) (Kd.R_far (p := ⟨gb186, 0, none⟩) (Kd.R_types HO_9.out BK186.out (by decide)) (fun _ hk => hk.2) (.string ((rd_T43 l0 x23_1).f0))) (fun _ hk => hk.2) (.int .i64 ((rd_T43 l0 x23_1).f1))) (fun _ hk => hk.2) (.int .i64 ((rd_T43 l0 x23_1).f2))) (fun _ hk => hk.2) (.int .i64 ((rd_T43 l0 x23_1).f3))) (fun _ hk => hk.2) (.int .i64 ((rd_T43 l0 x23_1).f4.f0))) (fun _ hk => hk.2) (.int .i64 ((rd_T43 l0 x23_1).f4.f1))) (fun _ hk => hk.2) (.int .i64 ((rd_T43 l0 x23_1).f4.f2))) (fun _ hk => hk.2) (.int .i64 ((rd_T43 l0 x23_1).f5.f0))) (fun _ hk => hk.2) (.int .i64 ((rd_T43 l0 x23_1).f5.f1))) (fun _ hk => hk.2) (.int .i64 ((rd_T43 l0 x23_1).f6))) (fun _ hk => hk.2) (.string ((rd_T43 l0 x23_1).f7))) (fun _ hk => trivial)⟩, ⟨by repeat (first | (with_reducible first | exact HB.out | apply below_alloc | apply pw_below_drewN | apply below_drew1 | refine below_set ?_ GE186.out) | exact HB.out)⟩⟩
            · rw [if_neg c9] at H
              exact absurd H (by simp)
          · rw [if_neg c8] at H
            exact absurd H (by simp)
        · rw [if_neg c7] at H
          have c7b0 : decide (x23_1 < (l0.length : Int)) = false := decide_eq_false c7
          clear c7
          replace H := Option.bind_eq_some_iff.mp H
          obtain ⟨t182, A320, H⟩ := H
          replace H : (some (t182, 0)) = some (r1, r2) := H
          have A32 := Aside0.mk A320
          clear A320
          simp only [Option.some.injEq, Prod.mk.injEq] at H
          obtain ⟨rfl, rfl⟩ := H
          obtain ⟨Ao33, co33, eo33⟩ := Kd.R_slice HO_9.out
          subst eo33
          go_wp2_with (fail)
          refine (sort21.calls (.slice Ao33 x9_1.length co33) x9_1 t182 w.heap.size _ HO_9.out A32.out).mono ?_
          rintro e w34 ⟨rfl, ho0, hb⟩
          have HO184 := Aside0.mk ho0
          have HB2 := Aside0.mk (Below.trans HB.out hb)
          clear HB ho0 hb
          have HB := HB2
          clear HB2 HO_9
          go_wp2
          go_ret2
          exact ⟨_, by first | rfl | (simp [errW_none, errW_some] <;> rfl) | (simp only [i64_w]; done) | (simp only [i64_w]; rfl) | (simp [*, errW_none, errW_some] <;> rfl), by (with_reducible repeat (first | apply Kd.R_alloc | apply Kd.R_drewN | apply Kd.R_drew)); exact Kd.R_mono HO184.out (fun _ hk => trivial), by repeat (first | (with_reducible first | exact HB.out | apply below_alloc | apply pw_below_drewN | apply below_drew1) | exact HB.out)⟩
  · rw [if_neg c5] at H
    have c5b0 : (t181 == 0) = false := beq_eq_false_iff_ne.mpr c5
    have c5b1 : (t181 != 0) = true := bne_iff_ne.mpr c5
    simp only [Option.some.injEq, Prod.mk.injEq] at H
    obtain ⟨rfl, rfl⟩ := H
    go_enter Try.func8, Try.ntmps8
    go_wp2_with (first | ((with_reducible refine gate_callee (f := 19) rfl ?_); refine goesL_ (some 17) rfl rfl Try.func19 (by kernel_rfl) rfl #[.slice A0 l0.length c0, .int .i64 a2] rfl (by (try simp only [List.map_toArray, List.map_cons, List.map_nil]); first | done | rfl | (simp only [List.length_drop, List.length_take]; rfl)) ?_; (with_reducible refine (onset_check.calls k _ _ l0 a2 t181 _ ?side1 ?side2 A4.out).mono ?_); (case side1 => repeat (first | exact HR0.out | (with_reducible refine Kd.C_alloc ?_ _) | (with_reducible refine Kd.C_drewN ?_ _) | (with_reducible refine Kd.C_drew ?_))); (case side2 => exact HC0.out); rintro e w35 ⟨rfl, hb⟩; refine ⟨_, rfl, ?_⟩; have n0_ := Aside0.mk (below_step (by repeat (first | (with_reducible first | exact HB.out | apply below_alloc | apply pw_below_drewN | apply below_drew1) | exact HB.out)) hb); clear HB; have HB := n0_; clear n0_; (try clear hb); (try clear hb2); (try clear hk); (try clear hi)))
    go_ret2
    exact ⟨_, by first | rfl | (simp [errW_none, errW_some] <;> rfl) | (simp only [i64_w]; done) | (simp only [i64_w]; rfl) | (simp [*, errW_none, errW_some] <;> rfl), Kd.R_nil _ _ _ _ _, by repeat (first | (with_reducible first | exact HB.out | apply below_alloc | apply pw_below_drewN | apply below_drew1) | exact HB.out)⟩

end Go.Proofs.Ytdhljcnilclfbaa.O
