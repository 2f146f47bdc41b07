-- What some functions of the program compute: a text of this claim's own (lines first written by the kit's tool, some proved anew).
import Derived.Test.YtfinhaghgmnegaaOx0
import Derived.Test.YtfinhaghgmnegaaOP
import Derived.Test.YtfinhaghgmnegaaOx10
import Derived.Test.YtfinhaghgmnegaaOx13
import Derived.Test.YtfinhaghgmnegaaOx26
namespace Go.Proofs.Ytfinhaghgmnegaa.O
open Go.RowKit Go.Proofs.YtfinhaghgmnegaaW.PrintWords Go.Proofs.YtfinhaghgmnegaaW.PrintLast Go.Proofs.YtfinhaghgmnegaaW.PrintMore
attribute [local go_sem] max2_int min2_int max_two min_two max_three min_three max_four min_four   -- for this text's walks alone
set_option linter.unusedVariables false
set_option linter.unusedSimpArgs false

/-! ### solsticelaw24_EncodeMoves: function 4 -/
def solsticelaw24_EncodeMoves.j0 : Nat → Int → Int → Int → Int → Bool → Int → Int → Option (Bool)
  | 0, _, _, _, _, _, _, _ => none
  | k + 1, x2, x3, x10, x11, x76, x418000, x418001 => if x76 = true then (some false) else ((encode_Move.f k x418000 x418001 x2 x3 172801).bind fun bt423 => (if x418001 = 1 then (if (wrap64 ((wrap64 (x10 * 86400)) + x11)) = x418000 then (if bt423.2.2 = true then (some false) else ((solsticelaw24_wakes.f k).bind fun t426 => (some t426))) else (some false)) else (if bt423.2.2 = true then (some false) else ((solsticelaw24_wakes.f k).bind fun t427 => (some t427)))))
def solsticelaw24_EncodeMoves.f (k : Nat) (a0 : Int) (a1 : Int) (a2 : Int) (a3 : Int) : Option (Bool) := (encode_Move.f k (Int.tmod a0 345601) (wrap64 (1 + (wrap64 (Int.tmod (IntKind.u64.wrap (a1)) 3)))) (Int.tmod a2 86400) (Int.tmod a3 86400) (wrap64 ((Int.tmod a2 86400) + (Int.tmod a3 86400)))).bind fun bt418 => ((atform_Utc.f k (Int.tmod a0 345601) (wrap64 (1 + (wrap64 (Int.tmod (IntKind.u64.wrap (a1)) 3)))) (Int.tmod a2 86400) (Int.tmod a3 86400)).bind fun bt421 => (if bt418.2.2 = true then (if bt421.2 = true then (if bt418.2.1 < 0 then (solsticelaw24_EncodeMoves.j0 k (Int.tmod a2 86400) (Int.tmod a3 86400) bt418.1 bt418.2.1 true (Int.tmod a0 345601) (wrap64 (1 + (wrap64 (Int.tmod (IntKind.u64.wrap (a1)) 3))))) else (if bt418.2.1 ≥ 86400 then (solsticelaw24_EncodeMoves.j0 k (Int.tmod a2 86400) (Int.tmod a3 86400) bt418.1 bt418.2.1 true (Int.tmod a0 345601) (wrap64 (1 + (wrap64 (Int.tmod (IntKind.u64.wrap (a1)) 3))))) else (solsticelaw24_EncodeMoves.j0 k (Int.tmod a2 86400) (Int.tmod a3 86400) bt418.1 bt418.2.1 ((wrap64 ((wrap64 (bt418.1 * 86400)) + bt418.2.1)) != (wrap64 ((wrap64 (bt421.1 + (Int.tmod a2 86400))) + (Int.tmod a3 86400)))) (Int.tmod a0 345601) (wrap64 (1 + (wrap64 (Int.tmod (IntKind.u64.wrap (a1)) 3))))))) else (solsticelaw24_EncodeMoves.j0 k (Int.tmod a2 86400) (Int.tmod a3 86400) bt418.1 bt418.2.1 true (Int.tmod a0 345601) (wrap64 (1 + (wrap64 (Int.tmod (IntKind.u64.wrap (a1)) 3)))))) else (solsticelaw24_EncodeMoves.j0 k (Int.tmod a2 86400) (Int.tmod a3 86400) bt418.1 bt418.2.1 true (Int.tmod a0 345601) (wrap64 (1 + (wrap64 (Int.tmod (IntKind.u64.wrap (a1)) 3)))))))
theorem solsticelaw24_EncodeMoves.mono_l : ∀ k, (∀ y0 y1 y2 y3 y4 y5 y6, LeO (solsticelaw24_EncodeMoves.j0 k y0 y1 y2 y3 y4 y5 y6) (solsticelaw24_EncodeMoves.j0 (k + 1) y0 y1 y2 y3 y4 y5 y6))
  | 0 => fun _ _ _ _ _ _ _ r h => by simp [solsticelaw24_EncodeMoves.j0] at h
  | k + 1 => by
    have ih0 := solsticelaw24_EncodeMoves.mono_l k
    · intro y0 y1 y2 y3 y4 y5 y6
      unfold solsticelaw24_EncodeMoves.j0
      repeat' first
      | (with_reducible exact ih0 _ _ _ _ _ _ _)
      | (with_reducible exact atform_Utc.mono _ _ _ _ _)
      | (with_reducible exact encode_Move.mono _ _ _ _ _ _)
      | (with_reducible exact solsticelaw24_wakes.mono _)
      | (with_reducible exact LeO.refl _)
      | (with_reducible exact LeO.none _)
      | (with_reducible refine LeO.ite ?_ ?_)
      | (with_reducible refine LeO.bind ?_ (fun _ => ?_))
      | exact ih0 _ _ _ _ _ _ _
      | exact atform_Utc.mono _ _ _ _ _
      | exact encode_Move.mono _ _ _ _ _ _
      | exact solsticelaw24_wakes.mono _
      | exact LeO.none _
      | refine LeO.ite ?_ ?_
      | refine LeO.bind ?_ (fun _ => ?_)
theorem solsticelaw24_EncodeMoves.mono : ∀ a0 a1 a2 a3 k, LeO (solsticelaw24_EncodeMoves.f k a0 a1 a2 a3) (solsticelaw24_EncodeMoves.f (k + 1) a0 a1 a2 a3) := by
  intro a0 a1 a2 a3 k
  have ih0 := solsticelaw24_EncodeMoves.mono_l k
  unfold solsticelaw24_EncodeMoves.f
  repeat' first
      | (with_reducible exact ih0 _ _ _ _ _ _ _)
      | (with_reducible exact atform_Utc.mono _ _ _ _ _)
      | (with_reducible exact encode_Move.mono _ _ _ _ _ _)
      | (with_reducible exact solsticelaw24_wakes.mono _)
      | (with_reducible exact LeO.refl _)
      | (with_reducible exact LeO.none _)
      | (with_reducible refine LeO.ite ?_ ?_)
      | (with_reducible refine LeO.bind ?_ (fun _ => ?_))
      | exact ih0 _ _ _ _ _ _ _
      | exact atform_Utc.mono _ _ _ _ _
      | exact encode_Move.mono _ _ _ _ _ _
      | exact solsticelaw24_wakes.mono _
      | exact LeO.none _
      | refine LeO.ite ?_ ?_
      | refine LeO.bind ?_ (fun _ => ?_)
set_option maxHeartbeats 8000000 in
set_option maxRecDepth 100000 in
theorem solsticelaw24_EncodeMoves.calls (k : Nat) (a0 : Int) (a1 : Int) (a2 : Int) (a3 : Int) (r : Bool) (w : World) (hr0 : r = true) (h : solsticelaw24_EncodeMoves.f k a0 a1 a2 a3 = some r) :
    Calls Try.prog 4 #[.int .i64 a0, .int .i64 a1, .int .i64 a2, .int .i64 a3] w fun e w' => e = .returned (.bool r) ∧ Below w.heap.size w w' := by
  have hr := Aside0.mk hr0
  clear hr0
  have hu25 := Try.underlying25
  have HB := Aside0.mk (Below.refl w.heap.size w)
  have H : ((encode_Move.f k (Int.tmod a0 345601) (wrap64 (1 + (wrap64 (Int.tmod (IntKind.u64.wrap (a1)) 3)))) (Int.tmod a2 86400) (Int.tmod a3 86400) (wrap64 ((Int.tmod a2 86400) + (Int.tmod a3 86400)))).bind fun bt418 => ((atform_Utc.f k (Int.tmod a0 345601) (wrap64 (1 + (wrap64 (Int.tmod (IntKind.u64.wrap (a1)) 3)))) (Int.tmod a2 86400) (Int.tmod a3 86400)).bind fun bt421 => (if bt418.2.2 = true then (if bt421.2 = true then (if bt418.2.1 < 0 then (solsticelaw24_EncodeMoves.j0 k (Int.tmod a2 86400) (Int.tmod a3 86400) bt418.1 bt418.2.1 true (Int.tmod a0 345601) (wrap64 (1 + (wrap64 (Int.tmod (IntKind.u64.wrap (a1)) 3))))) else (if bt418.2.1 ≥ 86400 then (solsticelaw24_EncodeMoves.j0 k (Int.tmod a2 86400) (Int.tmod a3 86400) bt418.1 bt418.2.1 true (Int.tmod a0 345601) (wrap64 (1 + (wrap64 (Int.tmod (IntKind.u64.wrap (a1)) 3))))) else (solsticelaw24_EncodeMoves.j0 k (Int.tmod a2 86400) (Int.tmod a3 86400) bt418.1 bt418.2.1 ((wrap64 ((wrap64 (bt418.1 * 86400)) + bt418.2.1)) != (wrap64 ((wrap64 (bt421.1 + (Int.tmod a2 86400))) + (Int.tmod a3 86400)))) (Int.tmod a0 345601) (wrap64 (1 + (wrap64 (Int.tmod (IntKind.u64.wrap (a1)) 3))))))) else (solsticelaw24_EncodeMoves.j0 k (Int.tmod a2 86400) (Int.tmod a3 86400) bt418.1 bt418.2.1 true (Int.tmod a0 345601) (wrap64 (1 + (wrap64 (Int.tmod (IntKind.u64.wrap (a1)) 3)))))) else (solsticelaw24_EncodeMoves.j0 k (Int.tmod a2 86400) (Int.tmod a3 86400) bt418.1 bt418.2.1 true (Int.tmod a0 345601) (wrap64 (1 + (wrap64 (Int.tmod (IntKind.u64.wrap (a1)) 3)))))))) = some r := h
  clear h
  replace H := Option.bind_eq_some_iff.mp H
  obtain ⟨⟨t418, t419, t420⟩, A50, H⟩ := H
  replace H : ((atform_Utc.f k (Int.tmod a0 345601) (wrap64 (1 + (wrap64 (Int.tmod (IntKind.u64.wrap (a1)) 3)))) (Int.tmod a2 86400) (Int.tmod a3 86400)).bind fun bt421 => (if t420 = true then (if bt421.2 = true then (if t419 < 0 then (solsticelaw24_EncodeMoves.j0 k (Int.tmod a2 86400) (Int.tmod a3 86400) t418 t419 true (Int.tmod a0 345601) (wrap64 (1 + (wrap64 (Int.tmod (IntKind.u64.wrap (a1)) 3))))) else (if t419 ≥ 86400 then (solsticelaw24_EncodeMoves.j0 k (Int.tmod a2 86400) (Int.tmod a3 86400) t418 t419 true (Int.tmod a0 345601) (wrap64 (1 + (wrap64 (Int.tmod (IntKind.u64.wrap (a1)) 3))))) else (solsticelaw24_EncodeMoves.j0 k (Int.tmod a2 86400) (Int.tmod a3 86400) t418 t419 ((wrap64 ((wrap64 (t418 * 86400)) + t419)) != (wrap64 ((wrap64 (bt421.1 + (Int.tmod a2 86400))) + (Int.tmod a3 86400)))) (Int.tmod a0 345601) (wrap64 (1 + (wrap64 (Int.tmod (IntKind.u64.wrap (a1)) 3))))))) else (solsticelaw24_EncodeMoves.j0 k (Int.tmod a2 86400) (Int.tmod a3 86400) t418 t419 true (Int.tmod a0 345601) (wrap64 (1 + (wrap64 (Int.tmod (IntKind.u64.wrap (a1)) 3)))))) else (solsticelaw24_EncodeMoves.j0 k (Int.tmod a2 86400) (Int.tmod a3 86400) t418 t419 true (Int.tmod a0 345601) (wrap64 (1 + (wrap64 (Int.tmod (IntKind.u64.wrap (a1)) 3))))))) = some r := H
  have A5 := Aside0.mk A50
  clear A50
  replace H := Option.bind_eq_some_iff.mp H
  obtain ⟨⟨t421, t422⟩, A60, H⟩ := H
  replace H : (if t420 = true then (if t422 = true then (if t419 < 0 then (solsticelaw24_EncodeMoves.j0 k (Int.tmod a2 86400) (Int.tmod a3 86400) t418 t419 true (Int.tmod a0 345601) (wrap64 (1 + (wrap64 (Int.tmod (IntKind.u64.wrap (a1)) 3))))) else (if t419 ≥ 86400 then (solsticelaw24_EncodeMoves.j0 k (Int.tmod a2 86400) (Int.tmod a3 86400) t418 t419 true (Int.tmod a0 345601) (wrap64 (1 + (wrap64 (Int.tmod (IntKind.u64.wrap (a1)) 3))))) else (solsticelaw24_EncodeMoves.j0 k (Int.tmod a2 86400) (Int.tmod a3 86400) t418 t419 ((wrap64 ((wrap64 (t418 * 86400)) + t419)) != (wrap64 ((wrap64 (t421 + (Int.tmod a2 86400))) + (Int.tmod a3 86400)))) (Int.tmod a0 345601) (wrap64 (1 + (wrap64 (Int.tmod (IntKind.u64.wrap (a1)) 3))))))) else (solsticelaw24_EncodeMoves.j0 k (Int.tmod a2 86400) (Int.tmod a3 86400) t418 t419 true (Int.tmod a0 345601) (wrap64 (1 + (wrap64 (Int.tmod (IntKind.u64.wrap (a1)) 3)))))) else (solsticelaw24_EncodeMoves.j0 k (Int.tmod a2 86400) (Int.tmod a3 86400) t418 t419 true (Int.tmod a0 345601) (wrap64 (1 + (wrap64 (Int.tmod (IntKind.u64.wrap (a1)) 3)))))) = some r := H
  have A6 := Aside0.mk A60
  clear A60
  have HC7 := Aside0.mk H
  clear H
  go_enter Try.func4, Try.ntmps4
  go_upto_region 5 with (first | ((with_reducible refine gate_dst (N := 9) rfl ?_); refine box_event ?hg (N := 9) ?hd (cs := #[.int .i64 0, .int .i64 0]) (t := 25) ?hr ?_; (case hd => rfl); (case hg => rfl); (case hr => first | (go_simp; done) | (go_simp; rfl)); intro gb417 hg w8 hbox hb; have n0_ := Aside0.mk (below_step (by repeat (first | (with_reducible first | exact HB.out | apply below_alloc | apply pw_below_drewN | apply below_drew1) | exact HB.out)) hb); have n1_ := Aside0.mk (hbox); have n2_ := Aside0.mk ((by rw [hg]; exact (below_size (by repeat (first | (with_reducible first | exact HB.out | apply below_alloc | apply pw_below_drewN | apply below_drew1) | exact HB.out))) : w.heap.size ≤ gb417)); have n3_ := Aside0.mk ((by rw [hg]; exact (below_size (by repeat (first | (with_reducible first | exact HB.out | apply below_alloc | apply pw_below_drewN | apply below_drew1) | exact HB.out))) : w.heap.size ≤ gb417)); clear HB; have HB := n0_; have BK417 := n1_; have GW417 := n2_; have GE417 := n3_; clear n0_ n1_ n2_ n3_; clear hb hbox hg; have hcz9_0 : w8.cell? ⟨gb417, 0, none⟩ = some (.int .i64 0) := (blk_cell BK417.out 0).trans rfl; have hcz9_1 : w8.cell? ⟨gb417, 1, none⟩ = some (.int .i64 0) := (blk_cell BK417.out 1).trans rfl; have hfz9_0 := blk_frozen BK417.out 0; have hfz9_1 := blk_frozen BK417.out 1) | ((with_reducible refine gate_callee (f := 7) rfl ?_); refine goesL_ (some 37) rfl rfl Try.func7 (by kernel_rfl) rfl #[.agg #[.int .i64 (Int.tmod a0 345601), .int .i64 (wrap64 (1 + (wrap64 (Int.tmod (IntKind.u64.wrap (a1)) 3))))], .int .i64 (Int.tmod a2 86400), .int .i64 (Int.tmod a3 86400), .int .i64 (wrap64 ((Int.tmod a2 86400) + (Int.tmod a3 86400)))] rfl (by (try simp only [List.map_toArray, List.map_cons, List.map_nil]); first | done | rfl | (simp only [List.length_drop, List.length_take]; rfl)) ?_; (with_reducible refine (encode_Move.calls k (Int.tmod a0 345601) (wrap64 (1 + (wrap64 (Int.tmod (IntKind.u64.wrap (a1)) 3)))) (Int.tmod a2 86400) (Int.tmod a3 86400) (wrap64 ((Int.tmod a2 86400) + (Int.tmod a3 86400))) t418 t419 t420 _ A5.out).mono ?_); rintro e w10 ⟨rfl, hb⟩; refine ⟨_, rfl, ?_⟩; have n0_ := Aside0.mk (blk_below (g := gb417) (o := .cells #[.int .i64 (Int.tmod a0 345601), .int .i64 (wrap64 (1 + (wrap64 (Int.tmod (IntKind.u64.wrap (a1)) 3))))] 25 (0, 0)) (by (with_reducible repeat (first | refine blk_drewN ?_ _ | refine blk_drew ?_ | refine blk_alloc ?_ _)); refine puts2 (cs := #[.int .i64 0, .int .i64 0]) ?_ rfl; (with_reducible repeat (first | refine blk_drewN ?_ _ | refine blk_drew ?_ | refine blk_alloc ?_ _)); exact BK417.out) hb); have n1_ := Aside0.mk (below_step (by repeat (first | (with_reducible first | exact HB.out | apply below_alloc | apply pw_below_drewN | apply below_drew1 | refine below_set ?_ GE417.out) | exact HB.out)) hb); clear BK417; clear HB; have BK417 := n0_; have HB := n1_; clear n0_ n1_; (try clear hb); (try clear hb2); (try clear hk); (try clear hi); have hcz11_0 : w10.cell? ⟨gb417, 0, none⟩ = some (.int .i64 (Int.tmod a0 345601)) := (blk_cell BK417.out 0).trans rfl; have hcz11_1 : w10.cell? ⟨gb417, 1, none⟩ = some (.int .i64 (wrap64 (1 + (wrap64 (Int.tmod (IntKind.u64.wrap (a1)) 3))))) := (blk_cell BK417.out 1).trans rfl; have hfz11_0 := blk_frozen BK417.out 0; have hfz11_1 := blk_frozen BK417.out 1) | ((with_reducible refine gate_callee (f := 13) rfl ?_); refine goesL_ (some 48) rfl rfl Try.func13 (by kernel_rfl) rfl #[.int .i64 (Int.tmod a0 345601), .int .i64 (wrap64 (1 + (wrap64 (Int.tmod (IntKind.u64.wrap (a1)) 3)))), .int .i64 (Int.tmod a2 86400), .int .i64 (Int.tmod a3 86400)] rfl (by (try simp only [List.map_toArray, List.map_cons, List.map_nil]); first | done | rfl | (simp only [List.length_drop, List.length_take]; rfl)) ?_; (with_reducible refine (atform_Utc.calls k (Int.tmod a0 345601) (wrap64 (1 + (wrap64 (Int.tmod (IntKind.u64.wrap (a1)) 3)))) (Int.tmod a2 86400) (Int.tmod a3 86400) t421 t422 _ A6.out).mono ?_); rintro e w' ⟨rfl, ⟨nd, rfl⟩⟩; refine ⟨_, rfl, ?_⟩))
  (try simp only [Act.put, List.setIfInBounds_toArray, List.set_cons_zero, List.set_cons_succ])
  go_cut [76] (fun v76 wc => ∃ (kq : Nat) (x76_6 : Bool), v76 = .bool x76_6 ∧ Aside0 (solsticelaw24_EncodeMoves.j0 kq (Int.tmod a2 86400) (Int.tmod a3 86400) t418 t419 x76_6 (Int.tmod a0 345601) (wrap64 (1 + (wrap64 (Int.tmod (IntKind.u64.wrap (a1)) 3)))) = some r) ∧ Aside0 (kq ≤ k) ∧ Aside0 (wc.heap[gb417]? = some (.cells #[.int .i64 (Int.tmod a0 345601), .int .i64 (wrap64 (1 + (wrap64 (Int.tmod (IntKind.u64.wrap (a1)) 3))))] 25 (0, 0))) ∧ Aside0 (Below w.heap.size w wc))
  case first =>
    have H := HC7.out
    clear HC7
    by_cases c12 : t420 = true
    · subst c12
      have H1 : (if t422 = true then (if t419 < 0 then (solsticelaw24_EncodeMoves.j0 k (Int.tmod a2 86400) (Int.tmod a3 86400) t418 t419 true (Int.tmod a0 345601) (wrap64 (1 + (wrap64 (Int.tmod (IntKind.u64.wrap (a1)) 3))))) else (if t419 ≥ 86400 then (solsticelaw24_EncodeMoves.j0 k (Int.tmod a2 86400) (Int.tmod a3 86400) t418 t419 true (Int.tmod a0 345601) (wrap64 (1 + (wrap64 (Int.tmod (IntKind.u64.wrap (a1)) 3))))) else (solsticelaw24_EncodeMoves.j0 k (Int.tmod a2 86400) (Int.tmod a3 86400) t418 t419 ((wrap64 ((wrap64 (t418 * 86400)) + t419)) != (wrap64 ((wrap64 (t421 + (Int.tmod a2 86400))) + (Int.tmod a3 86400)))) (Int.tmod a0 345601) (wrap64 (1 + (wrap64 (Int.tmod (IntKind.u64.wrap (a1)) 3))))))) else (solsticelaw24_EncodeMoves.j0 k (Int.tmod a2 86400) (Int.tmod a3 86400) t418 t419 true (Int.tmod a0 345601) (wrap64 (1 + (wrap64 (Int.tmod (IntKind.u64.wrap (a1)) 3)))))) = some r := by rw [if_pos rfl] at H; exact H
      clear H
      have H := H1
      clear H1
      by_cases c13 : t422 = true
      · subst c13
        have H1 : (if t419 < 0 then (solsticelaw24_EncodeMoves.j0 k (Int.tmod a2 86400) (Int.tmod a3 86400) t418 t419 true (Int.tmod a0 345601) (wrap64 (1 + (wrap64 (Int.tmod (IntKind.u64.wrap (a1)) 3))))) else (if t419 ≥ 86400 then (solsticelaw24_EncodeMoves.j0 k (Int.tmod a2 86400) (Int.tmod a3 86400) t418 t419 true (Int.tmod a0 345601) (wrap64 (1 + (wrap64 (Int.tmod (IntKind.u64.wrap (a1)) 3))))) else (solsticelaw24_EncodeMoves.j0 k (Int.tmod a2 86400) (Int.tmod a3 86400) t418 t419 ((wrap64 ((wrap64 (t418 * 86400)) + t419)) != (wrap64 ((wrap64 (t421 + (Int.tmod a2 86400))) + (Int.tmod a3 86400)))) (Int.tmod a0 345601) (wrap64 (1 + (wrap64 (Int.tmod (IntKind.u64.wrap (a1)) 3))))))) = some r := by rw [if_pos rfl] at H; exact H
        clear H
        have H := H1
        clear H1
        by_cases c14 : t419 < 0
        · rw [if_pos c14] at H
          have c14b0 : decide (t419 < 0) = true := decide_eq_true c14
          clear c14
          (first | rw [c14b0] | (simp only [i64_w, i32_w]; rw [c14b0]) | skip)
          have H' := Aside0.mk H
          clear H
          go_wp2
          go_meet
          case rel => exact ⟨_, (true), (by first | rfl | (simp; done) | (simp [*]; done)), H', ⟨by first | omega | exact Nat.le_refl _⟩, ⟨by (with_reducible repeat (first | refine blk_drewN ?_ _ | refine blk_drew ?_ | refine blk_alloc ?_ _)); exact BK417.out⟩, ⟨by repeat (first | (with_reducible first | exact HB.out | apply below_alloc | apply pw_below_drewN | apply below_drew1 | refine below_set ?_ GE417.out) | exact HB.out)⟩⟩
        · rw [if_neg c14] at H
          have c14b0 : decide (t419 < 0) = false := decide_eq_false c14
          clear c14
          (first | rw [c14b0] | (simp only [i64_w, i32_w]; rw [c14b0]) | skip)
          by_cases c15 : t419 ≥ 86400
          · rw [if_pos c15] at H
            have c15b0 : decide (86400 ≤ t419) = true := decide_eq_true c15
            clear c15
            have H' := Aside0.mk H
            clear H
            go_wp2
            go_meet
            case rel => exact ⟨_, (true), (by first | rfl | (simp; done) | (simp [*]; done)), H', ⟨by first | omega | exact Nat.le_refl _⟩, ⟨by (with_reducible repeat (first | refine blk_drewN ?_ _ | refine blk_drew ?_ | refine blk_alloc ?_ _)); exact BK417.out⟩, ⟨by repeat (first | (with_reducible first | exact HB.out | apply below_alloc | apply pw_below_drewN | apply below_drew1 | refine below_set ?_ GE417.out) | exact HB.out)⟩⟩
          · rw [if_neg c15] at H
            have c15b0 : decide (86400 ≤ t419) = false := decide_eq_false c15
            clear c15
            have H' := Aside0.mk H
            clear H
            go_wp2
            go_meet
            case rel => exact ⟨_, (((wrap64 ((wrap64 (t418 * 86400)) + t419)) != (wrap64 ((wrap64 (t421 + (Int.tmod a2 86400))) + (Int.tmod a3 86400))))), (by first | rfl | (simp; done) | (simp [*]; done)), H', ⟨by first | omega | exact Nat.le_refl _⟩, ⟨by (with_reducible repeat (first | refine blk_drewN ?_ _ | refine blk_drew ?_ | refine blk_alloc ?_ _)); exact BK417.out⟩, ⟨by repeat (first | (with_reducible first | exact HB.out | apply below_alloc | apply pw_below_drewN | apply below_drew1 | refine below_set ?_ GE417.out) | exact HB.out)⟩⟩
      · replace c13 := Bool.eq_false_iff.mpr c13
        subst c13
        have H1 : (solsticelaw24_EncodeMoves.j0 k (Int.tmod a2 86400) (Int.tmod a3 86400) t418 t419 true (Int.tmod a0 345601) (wrap64 (1 + (wrap64 (Int.tmod (IntKind.u64.wrap (a1)) 3))))) = some r := by rw [if_neg (show ¬ (false = true) by decide)] at H; exact H
        clear H
        have H := H1
        clear H1
        have H' := Aside0.mk H
        clear H
        go_wp2
        go_meet
        case rel => exact ⟨_, (true), (by first | rfl | (simp; done) | (simp [*]; done)), H', ⟨by first | omega | exact Nat.le_refl _⟩, ⟨by (with_reducible repeat (first | refine blk_drewN ?_ _ | refine blk_drew ?_ | refine blk_alloc ?_ _)); exact BK417.out⟩, ⟨by repeat (first | (with_reducible first | exact HB.out | apply below_alloc | apply pw_below_drewN | apply below_drew1 | refine below_set ?_ GE417.out) | exact HB.out)⟩⟩
    · replace c12 := Bool.eq_false_iff.mpr c12
      subst c12
      have H1 : (solsticelaw24_EncodeMoves.j0 k (Int.tmod a2 86400) (Int.tmod a3 86400) t418 t419 true (Int.tmod a0 345601) (wrap64 (1 + (wrap64 (Int.tmod (IntKind.u64.wrap (a1)) 3))))) = some r := by rw [if_neg (show ¬ (false = true) by decide)] at H; exact H
      clear H
      have H := H1
      clear H1
      have H' := Aside0.mk H
      clear H
      go_wp2
      go_meet
      case rel => exact ⟨_, (true), (by first | rfl | (simp; done) | (simp [*]; done)), H', ⟨by first | omega | exact Nat.le_refl _⟩, ⟨by (with_reducible repeat (first | refine blk_drewN ?_ _ | refine blk_drew ?_ | refine blk_alloc ?_ _)); exact BK417.out⟩, ⟨by repeat (first | (with_reducible first | exact HB.out | apply below_alloc | apply pw_below_drewN | apply below_drew1 | refine below_set ?_ GE417.out) | exact HB.out)⟩⟩
  case rest =>
    clear HC7
    try clear c1
    try clear p2
    try clear c4
    try clear p6
    try clear c7
    try clear c12
    try clear c13
    try clear c14
    try clear c14b0
    try clear c15
    try clear c15b0
    try clear hcz11_0
    try clear hcz11_1
    try clear hcz9_0
    try clear hcz9_1
    try clear hfz11_0
    try clear hfz11_1
    try clear hfz9_0
    try clear hfz9_1
    obtain ⟨kq, x76_6, rfl, HA, HJ6, BK417, HB⟩ := hcut
    cases kq with
    | zero => exact absurd HA.out (by simp [solsticelaw24_EncodeMoves.j0])
    | succ kj6 =>
      have H := HA.out
      clear HA
      simp only [solsticelaw24_EncodeMoves.j0] at H
      by_cases c16 : x76_6 = true
      · subst c16
        have H1 : (some false) = some r := by rw [if_pos rfl] at H; exact H
        clear H
        have H := H1
        clear H1
        exact absurd ((Option.some.inj H).trans hr.out) (by decide)
      · replace c16 := Bool.eq_false_iff.mpr c16
        subst c16
        have H1 : ((encode_Move.f kj6 (Int.tmod a0 345601) (wrap64 (1 + (wrap64 (Int.tmod (IntKind.u64.wrap (a1)) 3)))) (Int.tmod a2 86400) (Int.tmod a3 86400) 172801).bind fun bt423 => (if (wrap64 (1 + (wrap64 (Int.tmod (IntKind.u64.wrap (a1)) 3)))) = 1 then (if (wrap64 ((wrap64 (t418 * 86400)) + t419)) = (Int.tmod a0 345601) then (if bt423.2.2 = true then (some false) else ((solsticelaw24_wakes.f kj6).bind fun t426 => (some t426))) else (some false)) else (if bt423.2.2 = true then (some false) else ((solsticelaw24_wakes.f kj6).bind fun t427 => (some t427))))) = some r := by rw [if_neg (show ¬ (false = true) by decide)] at H; exact H
        clear H
        have H := H1
        clear H1
        replace H := Option.bind_eq_some_iff.mp H
        obtain ⟨⟨t423, t424, t425⟩, A170, H⟩ := H
        replace H : (if (wrap64 (1 + (wrap64 (Int.tmod (IntKind.u64.wrap (a1)) 3)))) = 1 then (if (wrap64 ((wrap64 (t418 * 86400)) + t419)) = (Int.tmod a0 345601) then (if t425 = true then (some false) else ((solsticelaw24_wakes.f kj6).bind fun t426 => (some t426))) else (some false)) else (if t425 = true then (some false) else ((solsticelaw24_wakes.f kj6).bind fun t427 => (some t427)))) = some r := H
        have A17 := Aside0.mk A170
        clear A170
        by_cases c18 : (wrap64 (1 + (wrap64 (Int.tmod (IntKind.u64.wrap (a1)) 3)))) = 1
        · rw [if_pos c18] at H
          have c18b0 : ((wrap64 (1 + (wrap64 (Int.tmod (IntKind.u64.wrap (a1)) 3)))) == 1) = true := beq_iff_eq.mpr c18
          have c18b1 : ((wrap64 (1 + (wrap64 (Int.tmod (IntKind.u64.wrap (a1)) 3)))) != 1) = false := bne_eq_false_iff_eq.mpr c18
          clear c18
          by_cases c19 : (wrap64 ((wrap64 (t418 * 86400)) + t419)) = (Int.tmod a0 345601)
          · rw [if_pos c19] at H
            have c19b0 : ((wrap64 ((wrap64 (t418 * 86400)) + t419)) == (Int.tmod a0 345601)) = true := beq_iff_eq.mpr c19
            have c19b1 : ((wrap64 ((wrap64 (t418 * 86400)) + t419)) != (Int.tmod a0 345601)) = false := bne_eq_false_iff_eq.mpr c19
            clear c19
            by_cases c20 : t425 = true
            · subst c20
              have H1 : (some false) = some r := by rw [if_pos rfl] at H; exact H
              clear H
              have H := H1
              clear H1
              exact absurd ((Option.some.inj H).trans hr.out) (by decide)
            · replace c20 := Bool.eq_false_iff.mpr c20
              subst c20
              have H1 : ((solsticelaw24_wakes.f kj6).bind fun t426 => (some t426)) = some r := by rw [if_neg (show ¬ (false = true) by decide)] at H; exact H
              clear H
              have H := H1
              clear H1
              replace H := Option.bind_eq_some_iff.mp H
              obtain ⟨t426, A240, H⟩ := H
              replace H : (some t426) = some r := H
              have A24 := Aside0.mk A240
              clear A240
              obtain rfl := Option.some.inj H
              have hcz25_0 : wc.cell? ⟨gb417, 0, none⟩ = some (.int .i64 (Int.tmod a0 345601)) := (blk_cell BK417.out 0).trans rfl
              have hcz25_1 : wc.cell? ⟨gb417, 1, none⟩ = some (.int .i64 (wrap64 (1 + (wrap64 (Int.tmod (IntKind.u64.wrap (a1)) 3))))) := (blk_cell BK417.out 1).trans rfl
              have hfz25_0 := blk_frozen BK417.out 0
              have hfz25_1 := blk_frozen BK417.out 1
              go_wp2_with (first | ((with_reducible refine gate_callee (f := 7) rfl ?_); refine goesL_ (some 81) rfl rfl Try.func7 (by kernel_rfl) rfl #[.agg #[.int .i64 (Int.tmod a0 345601), .int .i64 (wrap64 (1 + (wrap64 (Int.tmod (IntKind.u64.wrap (a1)) 3))))], .int .i64 (Int.tmod a2 86400), .int .i64 (Int.tmod a3 86400), .int .i64 172801] rfl (by (try simp only [List.map_toArray, List.map_cons, List.map_nil]); first | done | rfl | (simp only [List.length_drop, List.length_take]; rfl)) ?_; (with_reducible refine (encode_Move.calls kj6 (Int.tmod a0 345601) (wrap64 (1 + (wrap64 (Int.tmod (IntKind.u64.wrap (a1)) 3)))) (Int.tmod a2 86400) (Int.tmod a3 86400) 172801 t423 t424 false _ A17.out).mono ?_); rintro e w26 ⟨rfl, hb⟩; refine ⟨_, rfl, ?_⟩; have n0_ := Aside0.mk (blk_below (g := gb417) (o := .cells #[.int .i64 (Int.tmod a0 345601), .int .i64 (wrap64 (1 + (wrap64 (Int.tmod (IntKind.u64.wrap (a1)) 3))))] 25 (0, 0)) (by (with_reducible repeat (first | refine blk_drewN ?_ _ | refine blk_drew ?_ | refine blk_alloc ?_ _)); exact BK417.out) hb); have n1_ := Aside0.mk (below_step (by repeat (first | (with_reducible first | exact HB.out | apply below_alloc | apply pw_below_drewN | apply below_drew1 | refine below_set ?_ GE417.out) | exact HB.out)) hb); clear BK417; clear HB; have BK417 := n0_; have HB := n1_; clear n0_ n1_; (try clear hb); (try clear hb2); (try clear hk); (try clear hi); have hcz27_0 : w26.cell? ⟨gb417, 0, none⟩ = some (.int .i64 (Int.tmod a0 345601)) := (blk_cell BK417.out 0).trans rfl; have hcz27_1 : w26.cell? ⟨gb417, 1, none⟩ = some (.int .i64 (wrap64 (1 + (wrap64 (Int.tmod (IntKind.u64.wrap (a1)) 3))))) := (blk_cell BK417.out 1).trans rfl; have hfz27_0 := blk_frozen BK417.out 0; have hfz27_1 := blk_frozen BK417.out 1) | (go_at_call 12; (with_reducible refine (solsticelaw24_wakes.calls kj6  t426 _ hr.out A24.out).mono ?_); rintro e w28 ⟨rfl, hb⟩; have n0_ := Aside0.mk (blk_below (g := gb417) (o := .cells #[.int .i64 (Int.tmod a0 345601), .int .i64 (wrap64 (1 + (wrap64 (Int.tmod (IntKind.u64.wrap (a1)) 3))))] 25 (0, 0)) (by (with_reducible repeat (first | refine blk_drewN ?_ _ | refine blk_drew ?_ | refine blk_alloc ?_ _)); exact BK417.out) hb); have n1_ := Aside0.mk (below_step (by repeat (first | (with_reducible first | exact HB.out | apply below_alloc | apply pw_below_drewN | apply below_drew1 | refine below_set ?_ GE417.out) | exact HB.out)) hb); clear BK417; clear HB; have BK417 := n0_; have HB := n1_; clear n0_ n1_; (try clear hb); (try clear hb2); (try clear hk); (try clear hi)))
              go_ret
              exact ⟨by first | rfl | (simp [errW_none, errW_some] <;> rfl) | (simp only [i64_w]; done) | (simp only [i64_w]; rfl) | (simp [*, errW_none, errW_some] <;> rfl), by repeat (first | (with_reducible first | exact HB.out | apply below_alloc | apply pw_below_drewN | apply below_drew1 | refine below_set ?_ GE417.out) | exact HB.out)⟩
          · rw [if_neg c19] at H
            have c19b0 : ((wrap64 ((wrap64 (t418 * 86400)) + t419)) == (Int.tmod a0 345601)) = false := beq_eq_false_iff_ne.mpr c19
            have c19b1 : ((wrap64 ((wrap64 (t418 * 86400)) + t419)) != (Int.tmod a0 345601)) = true := bne_iff_ne.mpr c19
            exact absurd ((Option.some.inj H).trans hr.out) (by decide)
        · rw [if_neg c18] at H
          have c18b0 : ((wrap64 (1 + (wrap64 (Int.tmod (IntKind.u64.wrap (a1)) 3)))) == 1) = false := beq_eq_false_iff_ne.mpr c18
          have c18b1 : ((wrap64 (1 + (wrap64 (Int.tmod (IntKind.u64.wrap (a1)) 3)))) != 1) = true := bne_iff_ne.mpr c18
          by_cases c32 : t425 = true
          · subst c32
            have H1 : (some false) = some r := by rw [if_pos rfl] at H; exact H
            clear H
            have H := H1
            clear H1
            exact absurd ((Option.some.inj H).trans hr.out) (by decide)
          · replace c32 := Bool.eq_false_iff.mpr c32
            subst c32
            have H1 : ((solsticelaw24_wakes.f kj6).bind fun t427 => (some t427)) = some r := by rw [if_neg (show ¬ (false = true) by decide)] at H; exact H
            clear H
            have H := H1
            clear H1
            replace H := Option.bind_eq_some_iff.mp H
            obtain ⟨t427, A360, H⟩ := H
            replace H : (some t427) = some r := H
            have A36 := Aside0.mk A360
            clear A360
            obtain rfl := Option.some.inj H
            have hcz37_0 : wc.cell? ⟨gb417, 0, none⟩ = some (.int .i64 (Int.tmod a0 345601)) := (blk_cell BK417.out 0).trans rfl
            have hcz37_1 : wc.cell? ⟨gb417, 1, none⟩ = some (.int .i64 (wrap64 (1 + (wrap64 (Int.tmod (IntKind.u64.wrap (a1)) 3))))) := (blk_cell BK417.out 1).trans rfl
            have hfz37_0 := blk_frozen BK417.out 0
            have hfz37_1 := blk_frozen BK417.out 1
            go_wp2_with (first | ((with_reducible refine gate_callee (f := 7) rfl ?_); refine goesL_ (some 81) rfl rfl Try.func7 (by kernel_rfl) rfl #[.agg #[.int .i64 (Int.tmod a0 345601), .int .i64 (wrap64 (1 + (wrap64 (Int.tmod (IntKind.u64.wrap (a1)) 3))))], .int .i64 (Int.tmod a2 86400), .int .i64 (Int.tmod a3 86400), .int .i64 172801] rfl (by (try simp only [List.map_toArray, List.map_cons, List.map_nil]); first | done | rfl | (simp only [List.length_drop, List.length_take]; rfl)) ?_; (with_reducible refine (encode_Move.calls kj6 (Int.tmod a0 345601) (wrap64 (1 + (wrap64 (Int.tmod (IntKind.u64.wrap (a1)) 3)))) (Int.tmod a2 86400) (Int.tmod a3 86400) 172801 t423 t424 false _ A17.out).mono ?_); rintro e w38 ⟨rfl, hb⟩; refine ⟨_, rfl, ?_⟩; have n0_ := Aside0.mk (blk_below (g := gb417) (o := .cells #[.int .i64 (Int.tmod a0 345601), .int .i64 (wrap64 (1 + (wrap64 (Int.tmod (IntKind.u64.wrap (a1)) 3))))] 25 (0, 0)) (by (with_reducible repeat (first | refine blk_drewN ?_ _ | refine blk_drew ?_ | refine blk_alloc ?_ _)); exact BK417.out) hb); have n1_ := Aside0.mk (below_step (by repeat (first | (with_reducible first | exact HB.out | apply below_alloc | apply pw_below_drewN | apply below_drew1 | refine below_set ?_ GE417.out) | exact HB.out)) hb); clear BK417; clear HB; have BK417 := n0_; have HB := n1_; clear n0_ n1_; (try clear hb); (try clear hb2); (try clear hk); (try clear hi); have hcz39_0 : w38.cell? ⟨gb417, 0, none⟩ = some (.int .i64 (Int.tmod a0 345601)) := (blk_cell BK417.out 0).trans rfl; have hcz39_1 : w38.cell? ⟨gb417, 1, none⟩ = some (.int .i64 (wrap64 (1 + (wrap64 (Int.tmod (IntKind.u64.wrap (a1)) 3))))) := (blk_cell BK417.out 1).trans rfl; have hfz39_0 := blk_frozen BK417.out 0; have hfz39_1 := blk_frozen BK417.out 1) | (go_at_call 12; (with_reducible refine (solsticelaw24_wakes.calls kj6  t427 _ hr.out A36.out).mono ?_); rintro e w40 ⟨rfl, hb⟩; have n0_ := Aside0.mk (blk_below (g := gb417) (o := .cells #[.int .i64 (Int.tmod a0 345601), .int .i64 (wrap64 (1 + (wrap64 (Int.tmod (IntKind.u64.wrap (a1)) 3))))] 25 (0, 0)) (by (with_reducible repeat (first | refine blk_drewN ?_ _ | refine blk_drew ?_ | refine blk_alloc ?_ _)); exact BK417.out) hb); have n1_ := Aside0.mk (below_step (by repeat (first | (with_reducible first | exact HB.out | apply below_alloc | apply pw_below_drewN | apply below_drew1 | refine below_set ?_ GE417.out) | exact HB.out)) hb); clear BK417; clear HB; have BK417 := n0_; have HB := n1_; clear n0_ n1_; (try clear hb); (try clear hb2); (try clear hk); (try clear hi)))
            go_ret
            exact ⟨by first | rfl | (simp [errW_none, errW_some] <;> rfl) | (simp only [i64_w]; done) | (simp only [i64_w]; rfl) | (simp [*, errW_none, errW_some] <;> rfl), by repeat (first | (with_reducible first | exact HB.out | apply below_alloc | apply pw_below_drewN | apply below_drew1 | refine below_set ?_ GE417.out) | exact HB.out)⟩

/-- THE ONE PURE STATEMENT of solsticelaw24_EncodeMoves: yours. -/
def solsticelaw24_EncodeMoves.Pure : Prop := ∀ (a0 : Int) (a1 : Int) (a2 : Int) (a3 : Int), (Lit.int .i64 a0).wf = true → (Lit.int .i64 a1).wf = true → (Lit.int .i64 a2).wf = true → (Lit.int .i64 a3).wf = true → ∃ k, solsticelaw24_EncodeMoves.f k a0 a1 a2 a3 = some true
theorem solsticelaw24_EncodeMoves.walk (P : solsticelaw24_EncodeMoves.Pure) (a0 : Int) (a1 : Int) (a2 : Int) (a3 : Int) (w : World) (w0 : (Lit.int .i64 a0).wf = true) (w1 : (Lit.int .i64 a1).wf = true) (w2 : (Lit.int .i64 a2).wf = true) (w3 : (Lit.int .i64 a3).wf = true) :
    Calls Try.prog 4 #[.int .i64 a0, .int .i64 a1, .int .i64 a2, .int .i64 a3] w fun e w' => e = .returned (.bool true) ∧ Below w.heap.size w w' := by
  obtain ⟨k, h⟩ := P a0 a1 a2 a3 w0 w1 w2 w3
  refine (solsticelaw24_EncodeMoves.calls k a0 a1 a2 a3 true w rfl h).mono ?_
  rintro e w' ⟨rfl, hd⟩
  exact ⟨rfl, hd⟩

end Go.Proofs.Ytfinhaghgmnegaa.O
