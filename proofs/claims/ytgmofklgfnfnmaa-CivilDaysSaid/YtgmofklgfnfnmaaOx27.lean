-- What some functions of the program compute: a text of this claim's own (lines first written by the kit's tool, some proved anew).
import Derived.Test.YtgmofklgfnfnmaaOx0
import Derived.Test.YtgmofklgfnfnmaaOx6
import Derived.Test.YtgmofklgfnfnmaaOx7
import Derived.Test.YtgmofklgfnfnmaaOx11
import Derived.Test.YtgmofklgfnfnmaaOx14
import Derived.Test.YtgmofklgfnfnmaaOx18
namespace Go.Proofs.Ytgmofklgfnfnmaa.O
open Go.RowKit Go.Proofs.YtgmofklgfnfnmaaW.PrintWords Go.Proofs.YtgmofklgfnfnmaaW.PrintLast Go.Proofs.YtgmofklgfnfnmaaW.PrintMore
attribute [local go_sem] max2_int min2_int max_two min_two max_three min_three max_four min_four   -- for this text's walks alone
set_option linter.unusedVariables false
set_option linter.unusedSimpArgs false

/-! ### solsticelaw02_CivilDays: function 7 -/
def solsticelaw02_CivilDays.j0 : Nat → Int → Int → Int → Int → Int → Bool → Int → Int → Int → Option (Bool)
  | 0, _, _, _, _, _, _, _, _, _ => none
  | k + 1, x8, x10, x12, x14, x16, x68, x257000, x257001, x257002 => if x68 = true then (some false) else (if x10 = (wrap64 ((wrap64 (x8 - x12)) + 1)) then (if x16 = (wrap64 ((wrap64 (x14 - x12)) + 1)) then ((civil_Long.f x257000).bind fun t267 => (if ((x16 == 366) == t267) = true then ((solsticelaw02_wakes.f k).bind fun t268 => (some t268)) else (some false))) else (some false)) else (some false))
def solsticelaw02_CivilDays.f (k : Nat) (a0 : Int) (a1 : Int) (a2 : Int) : Option (Bool) := (solsticelaw02_Some.f k a0 a1 a2).bind fun bt253 => ((civil_Number.f k bt253.1 bt253.2.1 bt253.2.2).bind fun bt257 => ((civil_YearDay.f k bt257.1).bind fun bt259 => ((civil_Number.f k bt253.1 1 1).bind fun bt261 => ((civil_Number.f k bt253.1 12 31).bind fun bt263 => ((civil_YearDay.f k bt263.1).bind fun bt265 => (if bt257.2 = 0 then (if bt259.2 = 0 then (if bt261.2 = 0 then (if bt263.2 = 0 then (solsticelaw02_CivilDays.j0 k bt257.1 bt259.1 bt261.1 bt263.1 bt265.1 (bt265.2 != 0) bt253.1 bt253.2.1 bt253.2.2) else (solsticelaw02_CivilDays.j0 k bt257.1 bt259.1 bt261.1 bt263.1 bt265.1 true bt253.1 bt253.2.1 bt253.2.2)) else (solsticelaw02_CivilDays.j0 k bt257.1 bt259.1 bt261.1 bt263.1 bt265.1 true bt253.1 bt253.2.1 bt253.2.2)) else (solsticelaw02_CivilDays.j0 k bt257.1 bt259.1 bt261.1 bt263.1 bt265.1 true bt253.1 bt253.2.1 bt253.2.2)) else (solsticelaw02_CivilDays.j0 k bt257.1 bt259.1 bt261.1 bt263.1 bt265.1 true bt253.1 bt253.2.1 bt253.2.2)))))))
theorem solsticelaw02_CivilDays.mono_l : ∀ k, (∀ y0 y1 y2 y3 y4 y5 y6 y7 y8, LeO (solsticelaw02_CivilDays.j0 k y0 y1 y2 y3 y4 y5 y6 y7 y8) (solsticelaw02_CivilDays.j0 (k + 1) y0 y1 y2 y3 y4 y5 y6 y7 y8))
  | 0 => fun _ _ _ _ _ _ _ _ _ r h => by simp [solsticelaw02_CivilDays.j0] at h
  | k + 1 => by
    have ih0 := solsticelaw02_CivilDays.mono_l k
    · intro y0 y1 y2 y3 y4 y5 y6 y7 y8
      unfold solsticelaw02_CivilDays.j0
      repeat' first
      | (with_reducible exact ih0 _ _ _ _ _ _ _ _ _)
      | (with_reducible exact civil_Number.mono _ _ _ _)
      | (with_reducible exact civil_YearDay.mono _ _)
      | (with_reducible exact solsticelaw02_Some.mono _ _ _ _)
      | (with_reducible exact solsticelaw02_wakes.mono _)
      | (with_reducible exact LeO.refl _)
      | (with_reducible exact LeO.none _)
      | (with_reducible refine LeO.ite ?_ ?_)
      | (with_reducible refine LeO.bind ?_ (fun _ => ?_))
      | exact ih0 _ _ _ _ _ _ _ _ _
      | exact civil_Number.mono _ _ _ _
      | exact civil_YearDay.mono _ _
      | exact solsticelaw02_Some.mono _ _ _ _
      | exact solsticelaw02_wakes.mono _
      | exact LeO.none _
      | refine LeO.ite ?_ ?_
      | refine LeO.bind ?_ (fun _ => ?_)
theorem solsticelaw02_CivilDays.mono : ∀ a0 a1 a2 k, LeO (solsticelaw02_CivilDays.f k a0 a1 a2) (solsticelaw02_CivilDays.f (k + 1) a0 a1 a2) := by
  intro a0 a1 a2 k
  have ih0 := solsticelaw02_CivilDays.mono_l k
  unfold solsticelaw02_CivilDays.f
  repeat' first
      | (with_reducible exact ih0 _ _ _ _ _ _ _ _ _)
      | (with_reducible exact civil_Number.mono _ _ _ _)
      | (with_reducible exact civil_YearDay.mono _ _)
      | (with_reducible exact solsticelaw02_Some.mono _ _ _ _)
      | (with_reducible exact solsticelaw02_wakes.mono _)
      | (with_reducible exact LeO.refl _)
      | (with_reducible exact LeO.none _)
      | (with_reducible refine LeO.ite ?_ ?_)
      | (with_reducible refine LeO.bind ?_ (fun _ => ?_))
      | exact ih0 _ _ _ _ _ _ _ _ _
      | exact civil_Number.mono _ _ _ _
      | exact civil_YearDay.mono _ _
      | exact solsticelaw02_Some.mono _ _ _ _
      | exact solsticelaw02_wakes.mono _
      | exact LeO.none _
      | refine LeO.ite ?_ ?_
      | refine LeO.bind ?_ (fun _ => ?_)
set_option maxHeartbeats 8000000 in
set_option maxRecDepth 100000 in
theorem solsticelaw02_CivilDays.calls (k : Nat) (a0 : Int) (a1 : Int) (a2 : Int) (r : Bool) (w : World) (h : solsticelaw02_CivilDays.f k a0 a1 a2 = some r) :
    Calls Try.prog 7 #[.int .i64 a0, .int .i64 a1, .int .i64 a2] w fun e w' => e = .returned (.bool r) ∧ Below w.heap.size w w' := by
  have hu23 := Try.underlying23
  have HB := Aside0.mk (Below.refl w.heap.size w)
  have H : ((solsticelaw02_Some.f k a0 a1 a2).bind fun bt253 => ((civil_Number.f k bt253.1 bt253.2.1 bt253.2.2).bind fun bt257 => ((civil_YearDay.f k bt257.1).bind fun bt259 => ((civil_Number.f k bt253.1 1 1).bind fun bt261 => ((civil_Number.f k bt253.1 12 31).bind fun bt263 => ((civil_YearDay.f k bt263.1).bind fun bt265 => (if bt257.2 = 0 then (if bt259.2 = 0 then (if bt261.2 = 0 then (if bt263.2 = 0 then (solsticelaw02_CivilDays.j0 k bt257.1 bt259.1 bt261.1 bt263.1 bt265.1 (bt265.2 != 0) bt253.1 bt253.2.1 bt253.2.2) else (solsticelaw02_CivilDays.j0 k bt257.1 bt259.1 bt261.1 bt263.1 bt265.1 true bt253.1 bt253.2.1 bt253.2.2)) else (solsticelaw02_CivilDays.j0 k bt257.1 bt259.1 bt261.1 bt263.1 bt265.1 true bt253.1 bt253.2.1 bt253.2.2)) else (solsticelaw02_CivilDays.j0 k bt257.1 bt259.1 bt261.1 bt263.1 bt265.1 true bt253.1 bt253.2.1 bt253.2.2)) else (solsticelaw02_CivilDays.j0 k bt257.1 bt259.1 bt261.1 bt263.1 bt265.1 true bt253.1 bt253.2.1 bt253.2.2)))))))) = some r := h
  clear h
  replace H := Option.bind_eq_some_iff.mp H
  obtain ⟨⟨t253, t254, t255⟩, A40, H⟩ := H
  replace H : ((civil_Number.f k t253 t254 t255).bind fun bt257 => ((civil_YearDay.f k bt257.1).bind fun bt259 => ((civil_Number.f k t253 1 1).bind fun bt261 => ((civil_Number.f k t253 12 31).bind fun bt263 => ((civil_YearDay.f k bt263.1).bind fun bt265 => (if bt257.2 = 0 then (if bt259.2 = 0 then (if bt261.2 = 0 then (if bt263.2 = 0 then (solsticelaw02_CivilDays.j0 k bt257.1 bt259.1 bt261.1 bt263.1 bt265.1 (bt265.2 != 0) t253 t254 t255) else (solsticelaw02_CivilDays.j0 k bt257.1 bt259.1 bt261.1 bt263.1 bt265.1 true t253 t254 t255)) else (solsticelaw02_CivilDays.j0 k bt257.1 bt259.1 bt261.1 bt263.1 bt265.1 true t253 t254 t255)) else (solsticelaw02_CivilDays.j0 k bt257.1 bt259.1 bt261.1 bt263.1 bt265.1 true t253 t254 t255)) else (solsticelaw02_CivilDays.j0 k bt257.1 bt259.1 bt261.1 bt263.1 bt265.1 true t253 t254 t255))))))) = some r := H
  have A4 := Aside0.mk A40
  clear A40
  replace H := Option.bind_eq_some_iff.mp H
  obtain ⟨⟨t257, t258⟩, A50, H⟩ := H
  replace H : ((civil_YearDay.f k t257).bind fun bt259 => ((civil_Number.f k t253 1 1).bind fun bt261 => ((civil_Number.f k t253 12 31).bind fun bt263 => ((civil_YearDay.f k bt263.1).bind fun bt265 => (if t258 = 0 then (if bt259.2 = 0 then (if bt261.2 = 0 then (if bt263.2 = 0 then (solsticelaw02_CivilDays.j0 k t257 bt259.1 bt261.1 bt263.1 bt265.1 (bt265.2 != 0) t253 t254 t255) else (solsticelaw02_CivilDays.j0 k t257 bt259.1 bt261.1 bt263.1 bt265.1 true t253 t254 t255)) else (solsticelaw02_CivilDays.j0 k t257 bt259.1 bt261.1 bt263.1 bt265.1 true t253 t254 t255)) else (solsticelaw02_CivilDays.j0 k t257 bt259.1 bt261.1 bt263.1 bt265.1 true t253 t254 t255)) else (solsticelaw02_CivilDays.j0 k t257 bt259.1 bt261.1 bt263.1 bt265.1 true t253 t254 t255)))))) = some r := H
  have A5 := Aside0.mk A50
  clear A50
  replace H := Option.bind_eq_some_iff.mp H
  obtain ⟨⟨t259, t260⟩, A60, H⟩ := H
  replace H : ((civil_Number.f k t253 1 1).bind fun bt261 => ((civil_Number.f k t253 12 31).bind fun bt263 => ((civil_YearDay.f k bt263.1).bind fun bt265 => (if t258 = 0 then (if t260 = 0 then (if bt261.2 = 0 then (if bt263.2 = 0 then (solsticelaw02_CivilDays.j0 k t257 t259 bt261.1 bt263.1 bt265.1 (bt265.2 != 0) t253 t254 t255) else (solsticelaw02_CivilDays.j0 k t257 t259 bt261.1 bt263.1 bt265.1 true t253 t254 t255)) else (solsticelaw02_CivilDays.j0 k t257 t259 bt261.1 bt263.1 bt265.1 true t253 t254 t255)) else (solsticelaw02_CivilDays.j0 k t257 t259 bt261.1 bt263.1 bt265.1 true t253 t254 t255)) else (solsticelaw02_CivilDays.j0 k t257 t259 bt261.1 bt263.1 bt265.1 true t253 t254 t255))))) = some r := H
  have A6 := Aside0.mk A60
  clear A60
  replace H := Option.bind_eq_some_iff.mp H
  obtain ⟨⟨t261, t262⟩, A70, H⟩ := H
  replace H : ((civil_Number.f k t253 12 31).bind fun bt263 => ((civil_YearDay.f k bt263.1).bind fun bt265 => (if t258 = 0 then (if t260 = 0 then (if t262 = 0 then (if bt263.2 = 0 then (solsticelaw02_CivilDays.j0 k t257 t259 t261 bt263.1 bt265.1 (bt265.2 != 0) t253 t254 t255) else (solsticelaw02_CivilDays.j0 k t257 t259 t261 bt263.1 bt265.1 true t253 t254 t255)) else (solsticelaw02_CivilDays.j0 k t257 t259 t261 bt263.1 bt265.1 true t253 t254 t255)) else (solsticelaw02_CivilDays.j0 k t257 t259 t261 bt263.1 bt265.1 true t253 t254 t255)) else (solsticelaw02_CivilDays.j0 k t257 t259 t261 bt263.1 bt265.1 true t253 t254 t255)))) = some r := H
  have A7 := Aside0.mk A70
  clear A70
  replace H := Option.bind_eq_some_iff.mp H
  obtain ⟨⟨t263, t264⟩, A80, H⟩ := H
  replace H : ((civil_YearDay.f k t263).bind fun bt265 => (if t258 = 0 then (if t260 = 0 then (if t262 = 0 then (if t264 = 0 then (solsticelaw02_CivilDays.j0 k t257 t259 t261 t263 bt265.1 (bt265.2 != 0) t253 t254 t255) else (solsticelaw02_CivilDays.j0 k t257 t259 t261 t263 bt265.1 true t253 t254 t255)) else (solsticelaw02_CivilDays.j0 k t257 t259 t261 t263 bt265.1 true t253 t254 t255)) else (solsticelaw02_CivilDays.j0 k t257 t259 t261 t263 bt265.1 true t253 t254 t255)) else (solsticelaw02_CivilDays.j0 k t257 t259 t261 t263 bt265.1 true t253 t254 t255))) = some r := H
  have A8 := Aside0.mk A80
  clear A80
  replace H := Option.bind_eq_some_iff.mp H
  obtain ⟨⟨t265, t266⟩, A90, H⟩ := H
  replace H : (if t258 = 0 then (if t260 = 0 then (if t262 = 0 then (if t264 = 0 then (solsticelaw02_CivilDays.j0 k t257 t259 t261 t263 t265 (t266 != 0) t253 t254 t255) else (solsticelaw02_CivilDays.j0 k t257 t259 t261 t263 t265 true t253 t254 t255)) else (solsticelaw02_CivilDays.j0 k t257 t259 t261 t263 t265 true t253 t254 t255)) else (solsticelaw02_CivilDays.j0 k t257 t259 t261 t263 t265 true t253 t254 t255)) else (solsticelaw02_CivilDays.j0 k t257 t259 t261 t263 t265 true t253 t254 t255)) = some r := H
  have A9 := Aside0.mk A90
  clear A90
  have HC10 := Aside0.mk H
  clear H
  go_enter Try.func7, Try.ntmps7
  go_upto_region 7 with (first | ((with_reducible refine gate_callee (f := 9) rfl ?_); refine goesL_ (some 21) rfl rfl Try.func9 (by kernel_rfl) rfl #[.int .i64 a0, .int .i64 a1, .int .i64 a2] rfl (by (try simp only [List.map_toArray, List.map_cons, List.map_nil]); first | done | rfl | (simp only [List.length_drop, List.length_take]; rfl)) ?_; (with_reducible refine (solsticelaw02_Some.calls k a0 a1 a2 t253 t254 t255 _ A4.out).mono ?_); rintro e w11 ⟨rfl, hb⟩; refine ⟨_, rfl, ?_⟩; have n0_ := Aside0.mk (below_step (by repeat (first | (with_reducible first | exact HB.out | apply below_alloc | apply pw_below_drewN | apply below_drew1) | exact HB.out)) hb); clear HB; have HB := n0_; clear n0_; (try clear hb); (try clear hb2); (try clear hk); (try clear hi)) | ((with_reducible refine gate_dst (N := 7) rfl ?_); refine box_event ?hg (N := 7) ?hd (cs := #[.int .i64 0, .int .i64 0, .int .i64 0]) (t := 23) ?hr ?_; (case hd => rfl); (case hg => rfl); (case hr => first | (go_simp; done) | (go_simp; rfl)); intro gb256 hg w12 hbox hb; have n0_ := Aside0.mk (below_step (by repeat (first | (with_reducible first | exact HB.out | apply below_alloc | apply pw_below_drewN | apply below_drew1) | exact HB.out)) hb); have n1_ := Aside0.mk (hbox); have n2_ := Aside0.mk ((by rw [hg]; exact (below_size (by repeat (first | (with_reducible first | exact HB.out | apply below_alloc | apply pw_below_drewN | apply below_drew1) | exact HB.out))) : w.heap.size ≤ gb256)); have n3_ := Aside0.mk ((by rw [hg]; exact (below_size (by repeat (first | (with_reducible first | exact HB.out | apply below_alloc | apply pw_below_drewN | apply below_drew1) | exact HB.out))) : w.heap.size ≤ gb256)); clear HB; have HB := n0_; have BK256 := n1_; have GW256 := n2_; have GE256 := n3_; clear n0_ n1_ n2_ n3_; clear hb hbox hg; have hcz13_0 : w12.cell? ⟨gb256, 0, none⟩ = some (.int .i64 0) := (blk_cell BK256.out 0).trans rfl; have hcz13_1 : w12.cell? ⟨gb256, 1, none⟩ = some (.int .i64 0) := (blk_cell BK256.out 1).trans rfl; have hcz13_2 : w12.cell? ⟨gb256, 2, none⟩ = some (.int .i64 0) := (blk_cell BK256.out 2).trans rfl; have hfz13_0 := blk_frozen BK256.out 0; have hfz13_1 := blk_frozen BK256.out 1; have hfz13_2 := blk_frozen BK256.out 2) | ((with_reducible refine gate_callee (f := 10) rfl ?_); refine goesL_ (some 24) rfl rfl Try.func10 (by kernel_rfl) rfl #[.agg #[.int .i64 t253, .int .i64 t254, .int .i64 t255]] rfl (by (try simp only [List.map_toArray, List.map_cons, List.map_nil]); first | done | rfl | (simp only [List.length_drop, List.length_take]; rfl)) ?_; (with_reducible refine (civil_Number.calls k t253 t254 t255 t257 t258 _ A5.out).mono ?_); rintro e w14 ⟨rfl, hb⟩; refine ⟨_, rfl, ?_⟩; have n0_ := Aside0.mk (blk_below (g := gb256) (o := .cells #[.int .i64 t253, .int .i64 t254, .int .i64 t255] 23 (0, 0)) (by (with_reducible repeat (first | refine blk_drewN ?_ _ | refine blk_drew ?_ | refine blk_alloc ?_ _)); refine blk_put (cs := #[.int .i64 t253, .int .i64 t254, .int .i64 0]) ?_ 2 _ rfl; (with_reducible repeat (first | refine blk_drewN ?_ _ | refine blk_drew ?_ | refine blk_alloc ?_ _)); refine blk_put (cs := #[.int .i64 t253, .int .i64 0, .int .i64 0]) ?_ 1 _ rfl; (with_reducible repeat (first | refine blk_drewN ?_ _ | refine blk_drew ?_ | refine blk_alloc ?_ _)); refine blk_put (cs := #[.int .i64 0, .int .i64 0, .int .i64 0]) ?_ 0 _ rfl; (with_reducible repeat (first | refine blk_drewN ?_ _ | refine blk_drew ?_ | refine blk_alloc ?_ _)); exact BK256.out) hb); have n1_ := Aside0.mk (below_step (by repeat (first | (with_reducible first | exact HB.out | apply below_alloc | apply pw_below_drewN | apply below_drew1 | refine below_set ?_ GE256.out) | exact HB.out)) hb); clear BK256; clear HB; have BK256 := n0_; have HB := n1_; clear n0_ n1_; (try clear hb); (try clear hb2); (try clear hk); (try clear hi)) | ((with_reducible refine gate_callee (f := 16) rfl ?_); refine goesL_ (some 29) rfl rfl Try.func16 (by kernel_rfl) rfl #[.int .i64 t257] rfl (by (try simp only [List.map_toArray, List.map_cons, List.map_nil]); first | done | rfl | (simp only [List.length_drop, List.length_take]; rfl)) ?_; (with_reducible refine (civil_YearDay.calls k t257 t259 t260 _ A6.out).mono ?_); rintro e w15 ⟨rfl, hb⟩; refine ⟨_, rfl, ?_⟩; have n0_ := Aside0.mk (blk_below (g := gb256) (o := .cells #[.int .i64 t253, .int .i64 t254, .int .i64 t255] 23 (0, 0)) (by (with_reducible repeat (first | refine blk_drewN ?_ _ | refine blk_drew ?_ | refine blk_alloc ?_ _)); exact BK256.out) hb); have n1_ := Aside0.mk (below_step (by repeat (first | (with_reducible first | exact HB.out | apply below_alloc | apply pw_below_drewN | apply below_drew1 | refine below_set ?_ GE256.out) | exact HB.out)) hb); clear BK256; clear HB; have BK256 := n0_; have HB := n1_; clear n0_ n1_; (try clear hb); (try clear hb2); (try clear hk); (try clear hi); have hcz16_0 : w15.cell? ⟨gb256, 0, none⟩ = some (.int .i64 t253) := (blk_cell BK256.out 0).trans rfl; have hcz16_1 : w15.cell? ⟨gb256, 1, none⟩ = some (.int .i64 t254) := (blk_cell BK256.out 1).trans rfl; have hcz16_2 : w15.cell? ⟨gb256, 2, none⟩ = some (.int .i64 t255) := (blk_cell BK256.out 2).trans rfl; have hfz16_0 := blk_frozen BK256.out 0; have hfz16_1 := blk_frozen BK256.out 1; have hfz16_2 := blk_frozen BK256.out 2) | ((with_reducible refine gate_callee (f := 10) rfl ?_); refine goesL_ (some 36) rfl rfl Try.func10 (by kernel_rfl) rfl #[.agg #[.int .i64 t253, .int .i64 1, .int .i64 1]] rfl (by (try simp only [List.map_toArray, List.map_cons, List.map_nil]); first | done | rfl | (simp only [List.length_drop, List.length_take]; rfl)) ?_; (with_reducible refine (civil_Number.calls k t253 1 1 t261 t262 _ A7.out).mono ?_); rintro e w17 ⟨rfl, hb⟩; refine ⟨_, rfl, ?_⟩; have n0_ := Aside0.mk (blk_below (g := gb256) (o := .cells #[.int .i64 t253, .int .i64 t254, .int .i64 t255] 23 (0, 0)) (by (with_reducible repeat (first | refine blk_drewN ?_ _ | refine blk_drew ?_ | refine blk_alloc ?_ _)); exact BK256.out) hb); have n1_ := Aside0.mk (below_step (by repeat (first | (with_reducible first | exact HB.out | apply below_alloc | apply pw_below_drewN | apply below_drew1 | refine below_set ?_ GE256.out) | exact HB.out)) hb); clear BK256; clear HB; have BK256 := n0_; have HB := n1_; clear n0_ n1_; (try clear hb); (try clear hb2); (try clear hk); (try clear hi); have hcz18_0 : w17.cell? ⟨gb256, 0, none⟩ = some (.int .i64 t253) := (blk_cell BK256.out 0).trans rfl; have hcz18_1 : w17.cell? ⟨gb256, 1, none⟩ = some (.int .i64 t254) := (blk_cell BK256.out 1).trans rfl; have hcz18_2 : w17.cell? ⟨gb256, 2, none⟩ = some (.int .i64 t255) := (blk_cell BK256.out 2).trans rfl; have hfz18_0 := blk_frozen BK256.out 0; have hfz18_1 := blk_frozen BK256.out 1; have hfz18_2 := blk_frozen BK256.out 2) | ((with_reducible refine gate_callee (f := 10) rfl ?_); refine goesL_ (some 43) rfl rfl Try.func10 (by kernel_rfl) rfl #[.agg #[.int .i64 t253, .int .i64 12, .int .i64 31]] rfl (by (try simp only [List.map_toArray, List.map_cons, List.map_nil]); first | done | rfl | (simp only [List.length_drop, List.length_take]; rfl)) ?_; (with_reducible refine (civil_Number.calls k t253 12 31 t263 t264 _ A8.out).mono ?_); rintro e w19 ⟨rfl, hb⟩; refine ⟨_, rfl, ?_⟩; have n0_ := Aside0.mk (blk_below (g := gb256) (o := .cells #[.int .i64 t253, .int .i64 t254, .int .i64 t255] 23 (0, 0)) (by (with_reducible repeat (first | refine blk_drewN ?_ _ | refine blk_drew ?_ | refine blk_alloc ?_ _)); exact BK256.out) hb); have n1_ := Aside0.mk (below_step (by repeat (first | (with_reducible first | exact HB.out | apply below_alloc | apply pw_below_drewN | apply below_drew1 | refine below_set ?_ GE256.out) | exact HB.out)) hb); clear BK256; clear HB; have BK256 := n0_; have HB := n1_; clear n0_ n1_; (try clear hb); (try clear hb2); (try clear hk); (try clear hi)) | ((with_reducible refine gate_callee (f := 16) rfl ?_); refine goesL_ (some 48) rfl rfl Try.func16 (by kernel_rfl) rfl #[.int .i64 t263] rfl (by (try simp only [List.map_toArray, List.map_cons, List.map_nil]); first | done | rfl | (simp only [List.length_drop, List.length_take]; rfl)) ?_; (with_reducible refine (civil_YearDay.calls k t263 t265 t266 _ A9.out).mono ?_); rintro e w20 ⟨rfl, hb⟩; refine ⟨_, rfl, ?_⟩; have n0_ := Aside0.mk (blk_below (g := gb256) (o := .cells #[.int .i64 t253, .int .i64 t254, .int .i64 t255] 23 (0, 0)) (by (with_reducible repeat (first | refine blk_drewN ?_ _ | refine blk_drew ?_ | refine blk_alloc ?_ _)); exact BK256.out) hb); have n1_ := Aside0.mk (below_step (by repeat (first | (with_reducible first | exact HB.out | apply below_alloc | apply pw_below_drewN | apply below_drew1 | refine below_set ?_ GE256.out) | exact HB.out)) hb); clear BK256; clear HB; have BK256 := n0_; have HB := n1_; clear n0_ n1_; (try clear hb); (try clear hb2); (try clear hk); (try clear hi)))
  (try simp only [Act.put, List.setIfInBounds_toArray, List.set_cons_zero, List.set_cons_succ])
  go_cut [68] (fun v68 wc => ∃ (kq : Nat) (x68_9 : Bool), v68 = .bool x68_9 ∧ Aside0 (solsticelaw02_CivilDays.j0 kq t257 t259 t261 t263 t265 x68_9 t253 t254 t255 = some r) ∧ Aside0 (kq ≤ k) ∧ Aside0 (wc.heap[gb256]? = some (.cells #[.int .i64 t253, .int .i64 t254, .int .i64 t255] 23 (0, 0))) ∧ Aside0 (Below w.heap.size w wc))
  case first =>
    have H := HC10.out
    clear HC10
    by_cases c21 : t258 = 0
    · rw [if_pos c21] at H
      have c21b0 : (t258 == 0) = true := beq_iff_eq.mpr c21
      have c21b1 : (t258 != 0) = false := bne_eq_false_iff_eq.mpr c21
      clear c21
      (first | rw [c21b0] | (simp only [i64_w, i32_w]; rw [c21b0]) | skip)
      by_cases c22 : t260 = 0
      · rw [if_pos c22] at H
        have c22b0 : (t260 == 0) = true := beq_iff_eq.mpr c22
        have c22b1 : (t260 != 0) = false := bne_eq_false_iff_eq.mpr c22
        clear c22
        by_cases c23 : t262 = 0
        · rw [if_pos c23] at H
          have c23b0 : (t262 == 0) = true := beq_iff_eq.mpr c23
          have c23b1 : (t262 != 0) = false := bne_eq_false_iff_eq.mpr c23
          clear c23
          by_cases c24 : t264 = 0
          · rw [if_pos c24] at H
            have c24b0 : (t264 == 0) = true := beq_iff_eq.mpr c24
            have c24b1 : (t264 != 0) = false := bne_eq_false_iff_eq.mpr c24
            clear c24
            have H' := Aside0.mk H
            clear H
            go_wp2
            go_meet
            case rel => exact ⟨_, ((t266 != 0)), (by first | rfl | (simp; done) | (simp [*]; done)), H', ⟨by first | omega | exact Nat.le_refl _⟩, ⟨by (with_reducible repeat (first | refine blk_drewN ?_ _ | refine blk_drew ?_ | refine blk_alloc ?_ _)); exact BK256.out⟩, ⟨by repeat (first | (with_reducible first | exact HB.out | apply below_alloc | apply pw_below_drewN | apply below_drew1 | refine below_set ?_ GE256.out) | exact HB.out)⟩⟩
          · rw [if_neg c24] at H
            have c24b0 : (t264 == 0) = false := beq_eq_false_iff_ne.mpr c24
            have c24b1 : (t264 != 0) = true := bne_iff_ne.mpr c24
            have H' := Aside0.mk H
            clear H
            go_wp2
            go_meet
            case rel => exact ⟨_, (true), (by first | rfl | (simp; done) | (simp [*]; done)), H', ⟨by first | omega | exact Nat.le_refl _⟩, ⟨by (with_reducible repeat (first | refine blk_drewN ?_ _ | refine blk_drew ?_ | refine blk_alloc ?_ _)); exact BK256.out⟩, ⟨by repeat (first | (with_reducible first | exact HB.out | apply below_alloc | apply pw_below_drewN | apply below_drew1 | refine below_set ?_ GE256.out) | exact HB.out)⟩⟩
        · rw [if_neg c23] at H
          have c23b0 : (t262 == 0) = false := beq_eq_false_iff_ne.mpr c23
          have c23b1 : (t262 != 0) = true := bne_iff_ne.mpr c23
          have H' := Aside0.mk H
          clear H
          go_wp2
          go_meet
          case rel => exact ⟨_, (true), (by first | rfl | (simp; done) | (simp [*]; done)), H', ⟨by first | omega | exact Nat.le_refl _⟩, ⟨by (with_reducible repeat (first | refine blk_drewN ?_ _ | refine blk_drew ?_ | refine blk_alloc ?_ _)); exact BK256.out⟩, ⟨by repeat (first | (with_reducible first | exact HB.out | apply below_alloc | apply pw_below_drewN | apply below_drew1 | refine below_set ?_ GE256.out) | exact HB.out)⟩⟩
      · rw [if_neg c22] at H
        have c22b0 : (t260 == 0) = false := beq_eq_false_iff_ne.mpr c22
        have c22b1 : (t260 != 0) = true := bne_iff_ne.mpr c22
        have H' := Aside0.mk H
        clear H
        go_wp2
        go_meet
        case rel => exact ⟨_, (true), (by first | rfl | (simp; done) | (simp [*]; done)), H', ⟨by first | omega | exact Nat.le_refl _⟩, ⟨by (with_reducible repeat (first | refine blk_drewN ?_ _ | refine blk_drew ?_ | refine blk_alloc ?_ _)); exact BK256.out⟩, ⟨by repeat (first | (with_reducible first | exact HB.out | apply below_alloc | apply pw_below_drewN | apply below_drew1 | refine below_set ?_ GE256.out) | exact HB.out)⟩⟩
    · rw [if_neg c21] at H
      have c21b0 : (t258 == 0) = false := beq_eq_false_iff_ne.mpr c21
      have c21b1 : (t258 != 0) = true := bne_iff_ne.mpr c21
      (first | rw [c21b0] | (simp only [i64_w, i32_w]; rw [c21b0]) | skip)
      have H' := Aside0.mk H
      clear H
      go_wp2
      go_meet
      case rel => exact ⟨_, (true), (by first | rfl | (simp; done) | (simp [*]; done)), H', ⟨by first | omega | exact Nat.le_refl _⟩, ⟨by (with_reducible repeat (first | refine blk_drewN ?_ _ | refine blk_drew ?_ | refine blk_alloc ?_ _)); exact BK256.out⟩, ⟨by repeat (first | (with_reducible first | exact HB.out | apply below_alloc | apply pw_below_drewN | apply below_drew1 | refine below_set ?_ GE256.out) | exact HB.out)⟩⟩
  case rest =>
    clear HC10
    try clear c1
    try clear c2
    try clear p2
    try clear c7
    try clear c9
    try clear c10
    try clear c16
    try clear c21
    try clear c21b0
    try clear c21b1
    try clear c22
    try clear c22b0
    try clear c22b1
    try clear c23
    try clear c23b0
    try clear c23b1
    try clear c24
    try clear c24b0
    try clear c24b1
    try clear hcz13_0
    try clear hcz13_1
    try clear hcz13_2
    try clear hcz16_0
    try clear hcz16_1
    try clear hcz16_2
    try clear hcz18_0
    try clear hcz18_1
    try clear hcz18_2
    try clear hfz13_0
    try clear hfz13_1
    try clear hfz13_2
    try clear hfz16_0
    try clear hfz16_1
    try clear hfz16_2
    try clear hfz18_0
    try clear hfz18_1
    try clear hfz18_2
    obtain ⟨kq, x68_9, rfl, HA, HJ9, BK256, HB⟩ := hcut
    cases kq with
    | zero => exact absurd HA.out (by simp [solsticelaw02_CivilDays.j0])
    | succ kj9 =>
      have H := HA.out
      clear HA
      simp only [solsticelaw02_CivilDays.j0] at H
      by_cases c25 : x68_9 = true
      · subst c25
        have H1 : (some false) = some r := by rw [if_pos rfl] at H; exact H
        clear H
        have H := H1
        clear H1
        obtain rfl := Option.some.inj H
        go_wp2
        go_ret
        exact ⟨by first | rfl | (simp [errW_none, errW_some] <;> rfl) | (simp [*, errW_none, errW_some] <;> rfl), by repeat (first | (with_reducible first | exact HB.out | apply below_alloc | apply pw_below_drewN | apply below_drew1 | refine below_set ?_ GE256.out) | exact HB.out)⟩
      · replace c25 := Bool.eq_false_iff.mpr c25
        subst c25
        have H1 : (if t259 = (wrap64 ((wrap64 (t257 - t261)) + 1)) then (if t265 = (wrap64 ((wrap64 (t263 - t261)) + 1)) then ((civil_Long.f t253).bind fun t267 => (if ((t265 == 366) == t267) = true then ((solsticelaw02_wakes.f kj9).bind fun t268 => (some t268)) else (some false))) else (some false)) else (some false)) = some r := by rw [if_neg (show ¬ (false = true) by decide)] at H; exact H
        clear H
        have H := H1
        clear H1
        by_cases c26 : t259 = (wrap64 ((wrap64 (t257 - t261)) + 1))
        · rw [if_pos c26] at H
          have c26b0 : (t259 == (wrap64 ((wrap64 (t257 - t261)) + 1))) = true := beq_iff_eq.mpr c26
          have c26b1 : (t259 != (wrap64 ((wrap64 (t257 - t261)) + 1))) = false := bne_eq_false_iff_eq.mpr c26
          clear c26
          by_cases c27 : t265 = (wrap64 ((wrap64 (t263 - t261)) + 1))
          · rw [if_pos c27] at H
            have c27b0 : (t265 == (wrap64 ((wrap64 (t263 - t261)) + 1))) = true := beq_iff_eq.mpr c27
            have c27b1 : (t265 != (wrap64 ((wrap64 (t263 - t261)) + 1))) = false := bne_eq_false_iff_eq.mpr c27
            clear c27
            replace H := Option.bind_eq_some_iff.mp H
            obtain ⟨t267, A280, H⟩ := H
            replace H : (if ((t265 == 366) == t267) = true then ((solsticelaw02_wakes.f kj9).bind fun t268 => (some t268)) else (some false)) = some r := H
            have A28 := Aside0.mk A280
            clear A280
            by_cases c29 : ((t265 == 366) == t267) = true
            · rw [if_pos c29] at H
              have c29b0 : ((t265 == 366) == t267) = true := c29
              (try (have c29b1 : decide ((t265 == 366) = t267) = true := by simpa using c29))
              (try (have c29b2 : ((t265 == 366) == t267) = true := by simpa using c29))
              clear c29
              replace H := Option.bind_eq_some_iff.mp H
              obtain ⟨t268, A300, H⟩ := H
              replace H : (some t268) = some r := H
              have A30 := Aside0.mk A300
              clear A300
              obtain rfl := Option.some.inj H
              have hcz31_0 : wc.cell? ⟨gb256, 0, none⟩ = some (.int .i64 t253) := (blk_cell BK256.out 0).trans rfl
              have hcz31_1 : wc.cell? ⟨gb256, 1, none⟩ = some (.int .i64 t254) := (blk_cell BK256.out 1).trans rfl
              have hcz31_2 : wc.cell? ⟨gb256, 2, none⟩ = some (.int .i64 t255) := (blk_cell BK256.out 2).trans rfl
              have hfz31_0 := blk_frozen BK256.out 0
              have hfz31_1 := blk_frozen BK256.out 1
              have hfz31_2 := blk_frozen BK256.out 2
              go_wp2_with (first | (go_at_call 14; (with_reducible refine (civil_Long.calls t253 t267 _ A28.out).mono ?_); rintro e w' ⟨rfl, ⟨nd, rfl⟩⟩) | (go_at_call 13; (with_reducible refine (solsticelaw02_wakes.calls kj9  t268 _ A30.out).mono ?_); rintro e w32 ⟨rfl, hb⟩; have n0_ := Aside0.mk (blk_below (g := gb256) (o := .cells #[.int .i64 t253, .int .i64 t254, .int .i64 t255] 23 (0, 0)) (by (with_reducible repeat (first | refine blk_drewN ?_ _ | refine blk_drew ?_ | refine blk_alloc ?_ _)); exact BK256.out) hb); have n1_ := Aside0.mk (below_step (by repeat (first | (with_reducible first | exact HB.out | apply below_alloc | apply pw_below_drewN | apply below_drew1 | refine below_set ?_ GE256.out) | exact HB.out)) hb); clear BK256; clear HB; have BK256 := n0_; have HB := n1_; clear n0_ n1_; (try clear hb); (try clear hb2); (try clear hk); (try clear hi)))
              go_ret
              exact ⟨by first | rfl | (simp [errW_none, errW_some] <;> rfl) | (simp [*, errW_none, errW_some] <;> rfl), by repeat (first | (with_reducible first | exact HB.out | apply below_alloc | apply pw_below_drewN | apply below_drew1 | refine below_set ?_ GE256.out) | exact HB.out)⟩
            · rw [if_neg c29] at H
              have c29b0 : ((t265 == 366) == t267) = false := by simpa using c29
              (try (have c29b1 : decide ((t265 == 366) = t267) = false := by simpa using c29))
              (try (have c29b2 : ((t265 == 366) == t267) = false := by simpa using c29))
              (try (have c29b3 : ¬ ((t265 == 366) = t267) := by simpa using c29))
              clear c29
              obtain rfl := Option.some.inj H
              have hcz33_0 : wc.cell? ⟨gb256, 0, none⟩ = some (.int .i64 t253) := (blk_cell BK256.out 0).trans rfl
              have hcz33_1 : wc.cell? ⟨gb256, 1, none⟩ = some (.int .i64 t254) := (blk_cell BK256.out 1).trans rfl
              have hcz33_2 : wc.cell? ⟨gb256, 2, none⟩ = some (.int .i64 t255) := (blk_cell BK256.out 2).trans rfl
              have hfz33_0 := blk_frozen BK256.out 0
              have hfz33_1 := blk_frozen BK256.out 1
              have hfz33_2 := blk_frozen BK256.out 2
              go_wp2_with (first | (go_at_call 14; (with_reducible refine (civil_Long.calls t253 t267 _ A28.out).mono ?_); rintro e w' ⟨rfl, ⟨nd, rfl⟩⟩))
              go_ret
              exact ⟨by first | rfl | (simp [errW_none, errW_some] <;> rfl) | (simp [*, errW_none, errW_some] <;> rfl), by repeat (first | (with_reducible first | exact HB.out | apply below_alloc | apply pw_below_drewN | apply below_drew1 | refine below_set ?_ GE256.out) | exact HB.out)⟩
          · rw [if_neg c27] at H
            have c27b0 : (t265 == (wrap64 ((wrap64 (t263 - t261)) + 1))) = false := beq_eq_false_iff_ne.mpr c27
            have c27b1 : (t265 != (wrap64 ((wrap64 (t263 - t261)) + 1))) = true := bne_iff_ne.mpr c27
            obtain rfl := Option.some.inj H
            go_wp2
            go_ret
            exact ⟨by first | rfl | (simp [errW_none, errW_some] <;> rfl) | (simp [*, errW_none, errW_some] <;> rfl), by repeat (first | (with_reducible first | exact HB.out | apply below_alloc | apply pw_below_drewN | apply below_drew1 | refine below_set ?_ GE256.out) | exact HB.out)⟩
        · rw [if_neg c26] at H
          have c26b0 : (t259 == (wrap64 ((wrap64 (t257 - t261)) + 1))) = false := beq_eq_false_iff_ne.mpr c26
          have c26b1 : (t259 != (wrap64 ((wrap64 (t257 - t261)) + 1))) = true := bne_iff_ne.mpr c26
          obtain rfl := Option.some.inj H
          go_wp2
          go_ret
          exact ⟨by first | rfl | (simp [errW_none, errW_some] <;> rfl) | (simp [*, errW_none, errW_some] <;> rfl), by repeat (first | (with_reducible first | exact HB.out | apply below_alloc | apply pw_below_drewN | apply below_drew1 | refine below_set ?_ GE256.out) | exact HB.out)⟩

/-- THE ONE PURE STATEMENT of solsticelaw02_CivilDays: yours. -/
def solsticelaw02_CivilDays.Pure : Prop := ∀ (a0 : Int) (a1 : Int) (a2 : Int), (Lit.int .i64 a0).wf = true → (Lit.int .i64 a1).wf = true → (Lit.int .i64 a2).wf = true → ∃ k, solsticelaw02_CivilDays.f k a0 a1 a2 = some true
theorem solsticelaw02_CivilDays.walk (P : solsticelaw02_CivilDays.Pure) (a0 : Int) (a1 : Int) (a2 : Int) (w : World) (w0 : (Lit.int .i64 a0).wf = true) (w1 : (Lit.int .i64 a1).wf = true) (w2 : (Lit.int .i64 a2).wf = true) :
    Calls Try.prog 7 #[.int .i64 a0, .int .i64 a1, .int .i64 a2] w fun e w' => e = .returned (.bool true) ∧ Below w.heap.size w w' := by
  obtain ⟨k, h⟩ := P a0 a1 a2 w0 w1 w2
  refine (solsticelaw02_CivilDays.calls k a0 a1 a2 true w h).mono ?_
  rintro e w' ⟨rfl, hd⟩
  exact ⟨rfl, hd⟩

end Go.Proofs.Ytgmofklgfnfnmaa.O
