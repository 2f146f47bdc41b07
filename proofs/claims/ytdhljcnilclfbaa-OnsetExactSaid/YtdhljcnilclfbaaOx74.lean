-- What some functions of the program compute: a text of this claim's own (lines first written by the kit's tool, some proved anew).
import Derived.Test.YtdhljcnilclfbaaOx0
import Derived.Test.YtdhljcnilclfbaaOx69
import Derived.Test.YtdhljcnilclfbaaOx68
import Derived.Test.YtdhljcnilclfbaaOx73
namespace Go.Proofs.Ytdhljcnilclfbaa.O
open Go.RowKit Go.Proofs.YtdhljcnilclfbaaW.PrintWords Go.Proofs.YtdhljcnilclfbaaW.PrintLast Go.Proofs.YtdhljcnilclfbaaW.PrintMore
attribute [local go_sem] max2_int min2_int max_two min_two max_three min_three max_four min_four   -- for this text's walks alone
set_option linter.unusedVariables false
set_option linter.unusedSimpArgs false

/-! ### solsticeref09_Rule: function 24 -/
def solsticeref09_Rule.j0 : Nat → Bool → ByteArray → Int → Int → Int → Int → Int → Int → Int → Int → Int → ByteArray → Option (Bool)
  | 0, _, _, _, _, _, _, _, _, _, _, _, _ => none
  | k + 1, x51, x257000, x257001, x257002, x257003, x257004, x257005, x257006, x257007, x257008, x257009, x257010 => if x51 = true then (some false) else ((solsticeref01_Len.f k 2000 x257003).bind fun t265 => (if x257003 = 2 then (if x257004 = 1 then (if x257002 > x257001 then (if x257004 = 2 then (some true) else (some (decide (x257006 ≤ 28)))) else (if x257004 = 2 then (some true) else (some (decide (x257006 ≤ t265))))) else (if x257004 = 2 then (some true) else (some (decide (x257006 ≤ t265))))) else (if x257004 = 2 then (some true) else (some (decide (x257006 ≤ t265))))))
def solsticeref09_Rule.f (k : Nat) (a0_0 : ByteArray) (a0_1 : Int) (a0_2 : Int) (a0_3 : Int) (a0_4 : Int) (a0_5 : Int) (a0_6 : Int) (a0_7 : Int) (a0_8 : Int) (a0_9 : Int) (a0_10 : ByteArray) : Option (Bool) := (solsticeref09_Name.f k a0_0).bind fun t257 => (if t257 = true then ((solsticeref09_in.f a0_1 1 9999).bind fun t258 => (if t258 = true then ((solsticeref09_in.f a0_2 a0_1 9999).bind fun t259 => (if t259 = true then ((solsticeref09_in.f a0_3 1 12).bind fun t260 => (if t260 = true then ((solsticeref01_On.f k a0_4 a0_5 a0_6).bind fun t261 => (if t261 = true then ((solsticeref01_At.f a0_7 a0_8).bind fun t262 => (if t262 = true then ((solsticeref09_day.f a0_9).bind fun t263 => (if t263 = true then ((solsticeref09_Letter.f k a0_10).bind fun t264 => (solsticeref09_Rule.j0 k (!t264) a0_0 a0_1 a0_2 a0_3 a0_4 a0_5 a0_6 a0_7 a0_8 a0_9 a0_10)) else (solsticeref09_Rule.j0 k true a0_0 a0_1 a0_2 a0_3 a0_4 a0_5 a0_6 a0_7 a0_8 a0_9 a0_10))) else (solsticeref09_Rule.j0 k true a0_0 a0_1 a0_2 a0_3 a0_4 a0_5 a0_6 a0_7 a0_8 a0_9 a0_10))) else (solsticeref09_Rule.j0 k true a0_0 a0_1 a0_2 a0_3 a0_4 a0_5 a0_6 a0_7 a0_8 a0_9 a0_10))) else (solsticeref09_Rule.j0 k true a0_0 a0_1 a0_2 a0_3 a0_4 a0_5 a0_6 a0_7 a0_8 a0_9 a0_10))) else (solsticeref09_Rule.j0 k true a0_0 a0_1 a0_2 a0_3 a0_4 a0_5 a0_6 a0_7 a0_8 a0_9 a0_10))) else (solsticeref09_Rule.j0 k true a0_0 a0_1 a0_2 a0_3 a0_4 a0_5 a0_6 a0_7 a0_8 a0_9 a0_10))) else (solsticeref09_Rule.j0 k true a0_0 a0_1 a0_2 a0_3 a0_4 a0_5 a0_6 a0_7 a0_8 a0_9 a0_10))
theorem solsticeref09_Rule.mono_l : ∀ k, (∀ y0 y1 y2 y3 y4 y5 y6 y7 y8 y9 y10 y11, LeO (solsticeref09_Rule.j0 k y0 y1 y2 y3 y4 y5 y6 y7 y8 y9 y10 y11) (solsticeref09_Rule.j0 (k + 1) y0 y1 y2 y3 y4 y5 y6 y7 y8 y9 y10 y11))
  | 0 => fun _ _ _ _ _ _ _ _ _ _ _ _ r h => by simp [solsticeref09_Rule.j0] at h
  | k + 1 => by
    have ih0 := solsticeref09_Rule.mono_l k
    · intro y0 y1 y2 y3 y4 y5 y6 y7 y8 y9 y10 y11
      unfold solsticeref09_Rule.j0
      repeat' first
      | (with_reducible exact ih0 _ _ _ _ _ _ _ _ _ _ _ _)
      | (with_reducible exact solsticeref01_Len.mono _ _ _)
      | (with_reducible exact solsticeref01_On.mono _ _ _ _)
      | (with_reducible exact solsticeref09_Letter.mono _ _)
      | (with_reducible exact solsticeref09_Name.mono _ _)
      | (with_reducible exact LeO.refl _)
      | (with_reducible exact LeO.none _)
      | (with_reducible refine LeO.ite ?_ ?_)
      | (with_reducible refine LeO.bind ?_ (fun _ => ?_))
      | exact ih0 _ _ _ _ _ _ _ _ _ _ _ _
      | exact solsticeref01_Len.mono _ _ _
      | exact solsticeref01_On.mono _ _ _ _
      | exact solsticeref09_Letter.mono _ _
      | exact solsticeref09_Name.mono _ _
      | exact LeO.none _
      | refine LeO.ite ?_ ?_
      | refine LeO.bind ?_ (fun _ => ?_)
theorem solsticeref09_Rule.mono : ∀ a0 a1 a2 a3 a4 a5 a6 a7 a8 a9 a10 k, LeO (solsticeref09_Rule.f k a0 a1 a2 a3 a4 a5 a6 a7 a8 a9 a10) (solsticeref09_Rule.f (k + 1) a0 a1 a2 a3 a4 a5 a6 a7 a8 a9 a10) := by
  intro a0 a1 a2 a3 a4 a5 a6 a7 a8 a9 a10 k
  have ih0 := solsticeref09_Rule.mono_l k
  unfold solsticeref09_Rule.f
  repeat' first
      | (with_reducible exact ih0 _ _ _ _ _ _ _ _ _ _ _ _)
      | (with_reducible exact solsticeref01_Len.mono _ _ _)
      | (with_reducible exact solsticeref01_On.mono _ _ _ _)
      | (with_reducible exact solsticeref09_Letter.mono _ _)
      | (with_reducible exact solsticeref09_Name.mono _ _)
      | (with_reducible exact LeO.refl _)
      | (with_reducible exact LeO.none _)
      | (with_reducible refine LeO.ite ?_ ?_)
      | (with_reducible refine LeO.bind ?_ (fun _ => ?_))
      | exact ih0 _ _ _ _ _ _ _ _ _ _ _ _
      | exact solsticeref01_Len.mono _ _ _
      | exact solsticeref01_On.mono _ _ _ _
      | exact solsticeref09_Letter.mono _ _
      | exact solsticeref09_Name.mono _ _
      | exact LeO.none _
      | refine LeO.ite ?_ ?_
      | refine LeO.bind ?_ (fun _ => ?_)
set_option maxHeartbeats 8000000 in
set_option maxRecDepth 100000 in
theorem solsticeref09_Rule.calls (k : Nat) (a0_0 : ByteArray) (a0_1 : Int) (a0_2 : Int) (a0_3 : Int) (a0_4 : Int) (a0_5 : Int) (a0_6 : Int) (a0_7 : Int) (a0_8 : Int) (a0_9 : Int) (a0_10 : ByteArray) (r : Bool) (w : World) (h : solsticeref09_Rule.f k a0_0 a0_1 a0_2 a0_3 a0_4 a0_5 a0_6 a0_7 a0_8 a0_9 a0_10 = some r) :
    Calls Try.prog 24 #[.agg #[.string a0_0, .int .i64 a0_1, .int .i64 a0_2, .int .i64 a0_3, .int .i64 a0_4, .int .i64 a0_5, .int .i64 a0_6, .int .i64 a0_7, .int .i64 a0_8, .int .i64 a0_9, .string a0_10]] w fun e w' => e = .returned (.bool r) ∧ Below w.heap.size w w' := by
  have hu43 := Try.underlying43
  have hu39 := Try.underlying39
  have hu41 := Try.underlying41
  have HB := Aside0.mk (Below.refl w.heap.size w)
  have H : ((solsticeref09_Name.f k a0_0).bind fun t257 => (if t257 = true then ((solsticeref09_in.f a0_1 1 9999).bind fun t258 => (if t258 = true then ((solsticeref09_in.f a0_2 a0_1 9999).bind fun t259 => (if t259 = true then ((solsticeref09_in.f a0_3 1 12).bind fun t260 => (if t260 = true then ((solsticeref01_On.f k a0_4 a0_5 a0_6).bind fun t261 => (if t261 = true then ((solsticeref01_At.f a0_7 a0_8).bind fun t262 => (if t262 = true then ((solsticeref09_day.f a0_9).bind fun t263 => (if t263 = true then ((solsticeref09_Letter.f k a0_10).bind fun t264 => (solsticeref09_Rule.j0 k (!t264) a0_0 a0_1 a0_2 a0_3 a0_4 a0_5 a0_6 a0_7 a0_8 a0_9 a0_10)) else (solsticeref09_Rule.j0 k true a0_0 a0_1 a0_2 a0_3 a0_4 a0_5 a0_6 a0_7 a0_8 a0_9 a0_10))) else (solsticeref09_Rule.j0 k true a0_0 a0_1 a0_2 a0_3 a0_4 a0_5 a0_6 a0_7 a0_8 a0_9 a0_10))) else (solsticeref09_Rule.j0 k true a0_0 a0_1 a0_2 a0_3 a0_4 a0_5 a0_6 a0_7 a0_8 a0_9 a0_10))) else (solsticeref09_Rule.j0 k true a0_0 a0_1 a0_2 a0_3 a0_4 a0_5 a0_6 a0_7 a0_8 a0_9 a0_10))) else (solsticeref09_Rule.j0 k true a0_0 a0_1 a0_2 a0_3 a0_4 a0_5 a0_6 a0_7 a0_8 a0_9 a0_10))) else (solsticeref09_Rule.j0 k true a0_0 a0_1 a0_2 a0_3 a0_4 a0_5 a0_6 a0_7 a0_8 a0_9 a0_10))) else (solsticeref09_Rule.j0 k true a0_0 a0_1 a0_2 a0_3 a0_4 a0_5 a0_6 a0_7 a0_8 a0_9 a0_10))) = some r := h
  clear h
  have HC2 := Aside0.mk H
  clear H
  go_enter Try.func24, Try.ntmps24
  go_upto_region 1 with (first | ((with_reducible refine gate_dst (N := 1) rfl ?_); refine box_event ?hg (N := 1) ?hd (cs := #[.string a0_0, .int .i64 a0_1, .int .i64 a0_2, .int .i64 a0_3, .int .i64 a0_4, .int .i64 a0_5, .int .i64 a0_6, .int .i64 a0_7, .int .i64 a0_8, .int .i64 a0_9, .string a0_10]) (t := 43) ?hr ?_; (case hd => rfl); (case hg => rfl); (case hr => first | (go_simp; done) | (go_simp; rfl)); intro gb256 hg w3 hbox hb; have n0_ := Aside0.mk (below_step (by repeat (first | (with_reducible first | exact HB.out | apply below_alloc | apply pw_below_drewN | apply below_drew1) | exact HB.out)) hb); have n1_ := Aside0.mk (hbox); have n2_ := Aside0.mk ((by rw [hg]; exact (below_size (by repeat (first | (with_reducible first | exact HB.out | apply below_alloc | apply pw_below_drewN | apply below_drew1) | exact HB.out))) : w.heap.size ≤ gb256)); have n3_ := Aside0.mk ((by rw [hg]; exact (below_size (by repeat (first | (with_reducible first | exact HB.out | apply below_alloc | apply pw_below_drewN | apply below_drew1) | exact HB.out))) : w.heap.size ≤ gb256)); clear HB; have HB := n0_; have BK256 := n1_; have GW256 := n2_; have GE256 := n3_; clear n0_ n1_ n2_ n3_; clear hb hbox hg))
  (try simp only [Act.put, List.setIfInBounds_toArray, List.set_cons_zero, List.set_cons_succ])
  go_cut [51] (fun v51 wc => ∃ (kq : Nat) (x51_1 : Bool), v51 = .bool x51_1 ∧ Aside0 (solsticeref09_Rule.j0 kq x51_1 a0_0 a0_1 a0_2 a0_3 a0_4 a0_5 a0_6 a0_7 a0_8 a0_9 a0_10 = some r) ∧ Aside0 (kq ≤ k) ∧ Aside0 (wc.heap[gb256]? = some (.cells #[.string a0_0, .int .i64 a0_1, .int .i64 a0_2, .int .i64 a0_3, .int .i64 a0_4, .int .i64 a0_5, .int .i64 a0_6, .int .i64 a0_7, .int .i64 a0_8, .int .i64 a0_9, .string a0_10] 43 (0, 0))) ∧ Aside0 (Below w.heap.size w wc))
  case first =>
    have H := HC2.out
    clear HC2
    replace H := Option.bind_eq_some_iff.mp H
    obtain ⟨t257, A40, H⟩ := H
    replace H : (if t257 = true then ((solsticeref09_in.f a0_1 1 9999).bind fun t258 => (if t258 = true then ((solsticeref09_in.f a0_2 a0_1 9999).bind fun t259 => (if t259 = true then ((solsticeref09_in.f a0_3 1 12).bind fun t260 => (if t260 = true then ((solsticeref01_On.f k a0_4 a0_5 a0_6).bind fun t261 => (if t261 = true then ((solsticeref01_At.f a0_7 a0_8).bind fun t262 => (if t262 = true then ((solsticeref09_day.f a0_9).bind fun t263 => (if t263 = true then ((solsticeref09_Letter.f k a0_10).bind fun t264 => (solsticeref09_Rule.j0 k (!t264) a0_0 a0_1 a0_2 a0_3 a0_4 a0_5 a0_6 a0_7 a0_8 a0_9 a0_10)) else (solsticeref09_Rule.j0 k true a0_0 a0_1 a0_2 a0_3 a0_4 a0_5 a0_6 a0_7 a0_8 a0_9 a0_10))) else (solsticeref09_Rule.j0 k true a0_0 a0_1 a0_2 a0_3 a0_4 a0_5 a0_6 a0_7 a0_8 a0_9 a0_10))) else (solsticeref09_Rule.j0 k true a0_0 a0_1 a0_2 a0_3 a0_4 a0_5 a0_6 a0_7 a0_8 a0_9 a0_10))) else (solsticeref09_Rule.j0 k true a0_0 a0_1 a0_2 a0_3 a0_4 a0_5 a0_6 a0_7 a0_8 a0_9 a0_10))) else (solsticeref09_Rule.j0 k true a0_0 a0_1 a0_2 a0_3 a0_4 a0_5 a0_6 a0_7 a0_8 a0_9 a0_10))) else (solsticeref09_Rule.j0 k true a0_0 a0_1 a0_2 a0_3 a0_4 a0_5 a0_6 a0_7 a0_8 a0_9 a0_10))) else (solsticeref09_Rule.j0 k true a0_0 a0_1 a0_2 a0_3 a0_4 a0_5 a0_6 a0_7 a0_8 a0_9 a0_10)) = some r := H
    have A4 := Aside0.mk A40
    clear A40
    by_cases c5 : t257 = true
    · subst c5
      have H1 : ((solsticeref09_in.f a0_1 1 9999).bind fun t258 => (if t258 = true then ((solsticeref09_in.f a0_2 a0_1 9999).bind fun t259 => (if t259 = true then ((solsticeref09_in.f a0_3 1 12).bind fun t260 => (if t260 = true then ((solsticeref01_On.f k a0_4 a0_5 a0_6).bind fun t261 => (if t261 = true then ((solsticeref01_At.f a0_7 a0_8).bind fun t262 => (if t262 = true then ((solsticeref09_day.f a0_9).bind fun t263 => (if t263 = true then ((solsticeref09_Letter.f k a0_10).bind fun t264 => (solsticeref09_Rule.j0 k (!t264) a0_0 a0_1 a0_2 a0_3 a0_4 a0_5 a0_6 a0_7 a0_8 a0_9 a0_10)) else (solsticeref09_Rule.j0 k true a0_0 a0_1 a0_2 a0_3 a0_4 a0_5 a0_6 a0_7 a0_8 a0_9 a0_10))) else (solsticeref09_Rule.j0 k true a0_0 a0_1 a0_2 a0_3 a0_4 a0_5 a0_6 a0_7 a0_8 a0_9 a0_10))) else (solsticeref09_Rule.j0 k true a0_0 a0_1 a0_2 a0_3 a0_4 a0_5 a0_6 a0_7 a0_8 a0_9 a0_10))) else (solsticeref09_Rule.j0 k true a0_0 a0_1 a0_2 a0_3 a0_4 a0_5 a0_6 a0_7 a0_8 a0_9 a0_10))) else (solsticeref09_Rule.j0 k true a0_0 a0_1 a0_2 a0_3 a0_4 a0_5 a0_6 a0_7 a0_8 a0_9 a0_10))) else (solsticeref09_Rule.j0 k true a0_0 a0_1 a0_2 a0_3 a0_4 a0_5 a0_6 a0_7 a0_8 a0_9 a0_10))) = some r := by rw [if_pos rfl] at H; exact H
      clear H
      have H := H1
      clear H1
      replace H := Option.bind_eq_some_iff.mp H
      obtain ⟨t258, A60, H⟩ := H
      replace H : (if t258 = true then ((solsticeref09_in.f a0_2 a0_1 9999).bind fun t259 => (if t259 = true then ((solsticeref09_in.f a0_3 1 12).bind fun t260 => (if t260 = true then ((solsticeref01_On.f k a0_4 a0_5 a0_6).bind fun t261 => (if t261 = true then ((solsticeref01_At.f a0_7 a0_8).bind fun t262 => (if t262 = true then ((solsticeref09_day.f a0_9).bind fun t263 => (if t263 = true then ((solsticeref09_Letter.f k a0_10).bind fun t264 => (solsticeref09_Rule.j0 k (!t264) a0_0 a0_1 a0_2 a0_3 a0_4 a0_5 a0_6 a0_7 a0_8 a0_9 a0_10)) else (solsticeref09_Rule.j0 k true a0_0 a0_1 a0_2 a0_3 a0_4 a0_5 a0_6 a0_7 a0_8 a0_9 a0_10))) else (solsticeref09_Rule.j0 k true a0_0 a0_1 a0_2 a0_3 a0_4 a0_5 a0_6 a0_7 a0_8 a0_9 a0_10))) else (solsticeref09_Rule.j0 k true a0_0 a0_1 a0_2 a0_3 a0_4 a0_5 a0_6 a0_7 a0_8 a0_9 a0_10))) else (solsticeref09_Rule.j0 k true a0_0 a0_1 a0_2 a0_3 a0_4 a0_5 a0_6 a0_7 a0_8 a0_9 a0_10))) else (solsticeref09_Rule.j0 k true a0_0 a0_1 a0_2 a0_3 a0_4 a0_5 a0_6 a0_7 a0_8 a0_9 a0_10))) else (solsticeref09_Rule.j0 k true a0_0 a0_1 a0_2 a0_3 a0_4 a0_5 a0_6 a0_7 a0_8 a0_9 a0_10)) = some r := H
      have A6 := Aside0.mk A60
      clear A60
      by_cases c7 : t258 = true
      · subst c7
        have H1 : ((solsticeref09_in.f a0_2 a0_1 9999).bind fun t259 => (if t259 = true then ((solsticeref09_in.f a0_3 1 12).bind fun t260 => (if t260 = true then ((solsticeref01_On.f k a0_4 a0_5 a0_6).bind fun t261 => (if t261 = true then ((solsticeref01_At.f a0_7 a0_8).bind fun t262 => (if t262 = true then ((solsticeref09_day.f a0_9).bind fun t263 => (if t263 = true then ((solsticeref09_Letter.f k a0_10).bind fun t264 => (solsticeref09_Rule.j0 k (!t264) a0_0 a0_1 a0_2 a0_3 a0_4 a0_5 a0_6 a0_7 a0_8 a0_9 a0_10)) else (solsticeref09_Rule.j0 k true a0_0 a0_1 a0_2 a0_3 a0_4 a0_5 a0_6 a0_7 a0_8 a0_9 a0_10))) else (solsticeref09_Rule.j0 k true a0_0 a0_1 a0_2 a0_3 a0_4 a0_5 a0_6 a0_7 a0_8 a0_9 a0_10))) else (solsticeref09_Rule.j0 k true a0_0 a0_1 a0_2 a0_3 a0_4 a0_5 a0_6 a0_7 a0_8 a0_9 a0_10))) else (solsticeref09_Rule.j0 k true a0_0 a0_1 a0_2 a0_3 a0_4 a0_5 a0_6 a0_7 a0_8 a0_9 a0_10))) else (solsticeref09_Rule.j0 k true a0_0 a0_1 a0_2 a0_3 a0_4 a0_5 a0_6 a0_7 a0_8 a0_9 a0_10))) = some r := by rw [if_pos rfl] at H; exact H
        clear H
        have H := H1
        clear H1
        replace H := Option.bind_eq_some_iff.mp H
        obtain ⟨t259, A80, H⟩ := H
        replace H : (if t259 = true then ((solsticeref09_in.f a0_3 1 12).bind fun t260 => (if t260 = true then ((solsticeref01_On.f k a0_4 a0_5 a0_6).bind fun t261 => (if t261 = true then ((solsticeref01_At.f a0_7 a0_8).bind fun t262 => (if t262 = true then ((solsticeref09_day.f a0_9).bind fun t263 => (if t263 = true then ((solsticeref09_Letter.f k a0_10).bind fun t264 => (solsticeref09_Rule.j0 k (!t264) a0_0 a0_1 a0_2 a0_3 a0_4 a0_5 a0_6 a0_7 a0_8 a0_9 a0_10)) else (solsticeref09_Rule.j0 k true a0_0 a0_1 a0_2 a0_3 a0_4 a0_5 a0_6 a0_7 a0_8 a0_9 a0_10))) else (solsticeref09_Rule.j0 k true a0_0 a0_1 a0_2 a0_3 a0_4 a0_5 a0_6 a0_7 a0_8 a0_9 a0_10))) else (solsticeref09_Rule.j0 k true a0_0 a0_1 a0_2 a0_3 a0_4 a0_5 a0_6 a0_7 a0_8 a0_9 a0_10))) else (solsticeref09_Rule.j0 k true a0_0 a0_1 a0_2 a0_3 a0_4 a0_5 a0_6 a0_7 a0_8 a0_9 a0_10))) else (solsticeref09_Rule.j0 k true a0_0 a0_1 a0_2 a0_3 a0_4 a0_5 a0_6 a0_7 a0_8 a0_9 a0_10)) = some r := H
        have A8 := Aside0.mk A80
        clear A80
        by_cases c9 : t259 = true
        · subst c9
          have H1 : ((solsticeref09_in.f a0_3 1 12).bind fun t260 => (if t260 = true then ((solsticeref01_On.f k a0_4 a0_5 a0_6).bind fun t261 => (if t261 = true then ((solsticeref01_At.f a0_7 a0_8).bind fun t262 => (if t262 = true then ((solsticeref09_day.f a0_9).bind fun t263 => (if t263 = true then ((solsticeref09_Letter.f k a0_10).bind fun t264 => (solsticeref09_Rule.j0 k (!t264) a0_0 a0_1 a0_2 a0_3 a0_4 a0_5 a0_6 a0_7 a0_8 a0_9 a0_10)) else (solsticeref09_Rule.j0 k true a0_0 a0_1 a0_2 a0_3 a0_4 a0_5 a0_6 a0_7 a0_8 a0_9 a0_10))) else (solsticeref09_Rule.j0 k true a0_0 a0_1 a0_2 a0_3 a0_4 a0_5 a0_6 a0_7 a0_8 a0_9 a0_10))) else (solsticeref09_Rule.j0 k true a0_0 a0_1 a0_2 a0_3 a0_4 a0_5 a0_6 a0_7 a0_8 a0_9 a0_10))) else (solsticeref09_Rule.j0 k true a0_0 a0_1 a0_2 a0_3 a0_4 a0_5 a0_6 a0_7 a0_8 a0_9 a0_10))) = some r := by rw [if_pos rfl] at H; exact H
          clear H
          have H := H1
          clear H1
          replace H := Option.bind_eq_some_iff.mp H
          obtain ⟨t260, A100, H⟩ := H
          replace H : (if t260 = true then ((solsticeref01_On.f k a0_4 a0_5 a0_6).bind fun t261 => (if t261 = true then ((solsticeref01_At.f a0_7 a0_8).bind fun t262 => (if t262 = true then ((solsticeref09_day.f a0_9).bind fun t263 => (if t263 = true then ((solsticeref09_Letter.f k a0_10).bind fun t264 => (solsticeref09_Rule.j0 k (!t264) a0_0 a0_1 a0_2 a0_3 a0_4 a0_5 a0_6 a0_7 a0_8 a0_9 a0_10)) else (solsticeref09_Rule.j0 k true a0_0 a0_1 a0_2 a0_3 a0_4 a0_5 a0_6 a0_7 a0_8 a0_9 a0_10))) else (solsticeref09_Rule.j0 k true a0_0 a0_1 a0_2 a0_3 a0_4 a0_5 a0_6 a0_7 a0_8 a0_9 a0_10))) else (solsticeref09_Rule.j0 k true a0_0 a0_1 a0_2 a0_3 a0_4 a0_5 a0_6 a0_7 a0_8 a0_9 a0_10))) else (solsticeref09_Rule.j0 k true a0_0 a0_1 a0_2 a0_3 a0_4 a0_5 a0_6 a0_7 a0_8 a0_9 a0_10)) = some r := H
          have A10 := Aside0.mk A100
          clear A100
          by_cases c11 : t260 = true
          · subst c11
            have H1 : ((solsticeref01_On.f k a0_4 a0_5 a0_6).bind fun t261 => (if t261 = true then ((solsticeref01_At.f a0_7 a0_8).bind fun t262 => (if t262 = true then ((solsticeref09_day.f a0_9).bind fun t263 => (if t263 = true then ((solsticeref09_Letter.f k a0_10).bind fun t264 => (solsticeref09_Rule.j0 k (!t264) a0_0 a0_1 a0_2 a0_3 a0_4 a0_5 a0_6 a0_7 a0_8 a0_9 a0_10)) else (solsticeref09_Rule.j0 k true a0_0 a0_1 a0_2 a0_3 a0_4 a0_5 a0_6 a0_7 a0_8 a0_9 a0_10))) else (solsticeref09_Rule.j0 k true a0_0 a0_1 a0_2 a0_3 a0_4 a0_5 a0_6 a0_7 a0_8 a0_9 a0_10))) else (solsticeref09_Rule.j0 k true a0_0 a0_1 a0_2 a0_3 a0_4 a0_5 a0_6 a0_7 a0_8 a0_9 a0_10))) = some r := by rw [if_pos rfl] at H; exact H
            clear H
            have H := H1
            clear H1
            replace H := Option.bind_eq_some_iff.mp H
            obtain ⟨t261, A120, H⟩ := H
            replace H : (if t261 = true then ((solsticeref01_At.f a0_7 a0_8).bind fun t262 => (if t262 = true then ((solsticeref09_day.f a0_9).bind fun t263 => (if t263 = true then ((solsticeref09_Letter.f k a0_10).bind fun t264 => (solsticeref09_Rule.j0 k (!t264) a0_0 a0_1 a0_2 a0_3 a0_4 a0_5 a0_6 a0_7 a0_8 a0_9 a0_10)) else (solsticeref09_Rule.j0 k true a0_0 a0_1 a0_2 a0_3 a0_4 a0_5 a0_6 a0_7 a0_8 a0_9 a0_10))) else (solsticeref09_Rule.j0 k true a0_0 a0_1 a0_2 a0_3 a0_4 a0_5 a0_6 a0_7 a0_8 a0_9 a0_10))) else (solsticeref09_Rule.j0 k true a0_0 a0_1 a0_2 a0_3 a0_4 a0_5 a0_6 a0_7 a0_8 a0_9 a0_10)) = some r := H
            have A12 := Aside0.mk A120
            clear A120
            by_cases c13 : t261 = true
            · subst c13
              have H1 : ((solsticeref01_At.f a0_7 a0_8).bind fun t262 => (if t262 = true then ((solsticeref09_day.f a0_9).bind fun t263 => (if t263 = true then ((solsticeref09_Letter.f k a0_10).bind fun t264 => (solsticeref09_Rule.j0 k (!t264) a0_0 a0_1 a0_2 a0_3 a0_4 a0_5 a0_6 a0_7 a0_8 a0_9 a0_10)) else (solsticeref09_Rule.j0 k true a0_0 a0_1 a0_2 a0_3 a0_4 a0_5 a0_6 a0_7 a0_8 a0_9 a0_10))) else (solsticeref09_Rule.j0 k true a0_0 a0_1 a0_2 a0_3 a0_4 a0_5 a0_6 a0_7 a0_8 a0_9 a0_10))) = some r := by rw [if_pos rfl] at H; exact H
              clear H
              have H := H1
              clear H1
              replace H := Option.bind_eq_some_iff.mp H
              obtain ⟨t262, A140, H⟩ := H
              replace H : (if t262 = true then ((solsticeref09_day.f a0_9).bind fun t263 => (if t263 = true then ((solsticeref09_Letter.f k a0_10).bind fun t264 => (solsticeref09_Rule.j0 k (!t264) a0_0 a0_1 a0_2 a0_3 a0_4 a0_5 a0_6 a0_7 a0_8 a0_9 a0_10)) else (solsticeref09_Rule.j0 k true a0_0 a0_1 a0_2 a0_3 a0_4 a0_5 a0_6 a0_7 a0_8 a0_9 a0_10))) else (solsticeref09_Rule.j0 k true a0_0 a0_1 a0_2 a0_3 a0_4 a0_5 a0_6 a0_7 a0_8 a0_9 a0_10)) = some r := H
              have A14 := Aside0.mk A140
              clear A140
              by_cases c15 : t262 = true
              · subst c15
                have H1 : ((solsticeref09_day.f a0_9).bind fun t263 => (if t263 = true then ((solsticeref09_Letter.f k a0_10).bind fun t264 => (solsticeref09_Rule.j0 k (!t264) a0_0 a0_1 a0_2 a0_3 a0_4 a0_5 a0_6 a0_7 a0_8 a0_9 a0_10)) else (solsticeref09_Rule.j0 k true a0_0 a0_1 a0_2 a0_3 a0_4 a0_5 a0_6 a0_7 a0_8 a0_9 a0_10))) = some r := by rw [if_pos rfl] at H; exact H
                clear H
                have H := H1
                clear H1
                replace H := Option.bind_eq_some_iff.mp H
                obtain ⟨t263, A160, H⟩ := H
                replace H : (if t263 = true then ((solsticeref09_Letter.f k a0_10).bind fun t264 => (solsticeref09_Rule.j0 k (!t264) a0_0 a0_1 a0_2 a0_3 a0_4 a0_5 a0_6 a0_7 a0_8 a0_9 a0_10)) else (solsticeref09_Rule.j0 k true a0_0 a0_1 a0_2 a0_3 a0_4 a0_5 a0_6 a0_7 a0_8 a0_9 a0_10)) = some r := H
                have A16 := Aside0.mk A160
                clear A160
                by_cases c17 : t263 = true
                · subst c17
                  have H1 : ((solsticeref09_Letter.f k a0_10).bind fun t264 => (solsticeref09_Rule.j0 k (!t264) a0_0 a0_1 a0_2 a0_3 a0_4 a0_5 a0_6 a0_7 a0_8 a0_9 a0_10)) = some r := by rw [if_pos rfl] at H; exact H
                  clear H
                  have H := H1
                  clear H1
                  replace H := Option.bind_eq_some_iff.mp H
                  obtain ⟨t264, A180, H⟩ := H
                  replace H : (solsticeref09_Rule.j0 k (!t264) a0_0 a0_1 a0_2 a0_3 a0_4 a0_5 a0_6 a0_7 a0_8 a0_9 a0_10) = some r := H
                  have A18 := Aside0.mk A180
                  clear A180
                  have H' := Aside0.mk H
                  clear H
                  have hcz19_0 : w3.cell? ⟨gb256, 0, none⟩ = some (.string a0_0) := (blk_cell BK256.out 0).trans rfl
                  have hcz19_1 : w3.cell? ⟨gb256, 1, none⟩ = some (.int .i64 a0_1) := (blk_cell BK256.out 1).trans rfl
                  have hcz19_2 : w3.cell? ⟨gb256, 2, none⟩ = some (.int .i64 a0_2) := (blk_cell BK256.out 2).trans rfl
                  have hcz19_3 : w3.cell? ⟨gb256, 3, none⟩ = some (.int .i64 a0_3) := (blk_cell BK256.out 3).trans rfl
                  have hcz19_4 : w3.cell? ⟨gb256, 4, none⟩ = some (.int .i64 a0_4) := (blk_cell BK256.out 4).trans rfl
                  have hcz19_5 : w3.cell? ⟨gb256, 5, none⟩ = some (.int .i64 a0_5) := (blk_cell BK256.out 5).trans rfl
                  have hcz19_6 : w3.cell? ⟨gb256, 6, none⟩ = some (.int .i64 a0_6) := (blk_cell BK256.out 6).trans rfl
                  have hcz19_7 : w3.cell? ⟨gb256, 7, none⟩ = some (.int .i64 a0_7) := (blk_cell BK256.out 7).trans rfl
                  have hcz19_8 : w3.cell? ⟨gb256, 8, none⟩ = some (.int .i64 a0_8) := (blk_cell BK256.out 8).trans rfl
                  have hcz19_9 : w3.cell? ⟨gb256, 9, none⟩ = some (.int .i64 a0_9) := (blk_cell BK256.out 9).trans rfl
                  have hcz19_10 : w3.cell? ⟨gb256, 10, none⟩ = some (.string a0_10) := (blk_cell BK256.out 10).trans rfl
                  have hfz19_0 := blk_frozen BK256.out 0
                  have hfz19_1 := blk_frozen BK256.out 1
                  have hfz19_2 := blk_frozen BK256.out 2
                  have hfz19_3 := blk_frozen BK256.out 3
                  have hfz19_4 := blk_frozen BK256.out 4
                  have hfz19_5 := blk_frozen BK256.out 5
                  have hfz19_6 := blk_frozen BK256.out 6
                  have hfz19_7 := blk_frozen BK256.out 7
                  have hfz19_8 := blk_frozen BK256.out 8
                  have hfz19_9 := blk_frozen BK256.out 9
                  have hfz19_10 := blk_frozen BK256.out 10
                  go_wp2_with (first | ((with_reducible refine gate_callee (f := 40) rfl ?_); refine goesL_ (some 6) rfl rfl Try.func40 (by kernel_rfl) rfl #[.string a0_0] rfl (by (try simp only [List.map_toArray, List.map_cons, List.map_nil]); first | done | rfl | (simp only [List.length_drop, List.length_take]; rfl)) ?_; (with_reducible refine (solsticeref09_Name.calls k a0_0 true _ A4.out).mono ?_); rintro e w' ⟨rfl, ⟨nd, rfl⟩⟩; refine ⟨_, rfl, ?_⟩) | (go_at_call 41; (with_reducible refine (solsticeref09_in.calls a0_1 1 9999 true _ A6.out).mono ?_); rintro e w' ⟨rfl, ⟨nd, rfl⟩⟩) | (go_at_call 41; (with_reducible refine (solsticeref09_in.calls a0_2 a0_1 9999 true _ A8.out).mono ?_); rintro e w' ⟨rfl, ⟨nd, rfl⟩⟩) | (go_at_call 41; (with_reducible refine (solsticeref09_in.calls a0_3 1 12 true _ A10.out).mono ?_); rintro e w' ⟨rfl, ⟨nd, rfl⟩⟩) | (go_at_call 42; (with_reducible refine (solsticeref01_On.calls k a0_4 a0_5 a0_6 true _ A12.out).mono ?_); rintro e w20 ⟨rfl, hb⟩; have n0_ := Aside0.mk (blk_below (g := gb256) (o := .cells #[.string a0_0, .int .i64 a0_1, .int .i64 a0_2, .int .i64 a0_3, .int .i64 a0_4, .int .i64 a0_5, .int .i64 a0_6, .int .i64 a0_7, .int .i64 a0_8, .int .i64 a0_9, .string a0_10] 43 (0, 0)) (by (with_reducible repeat (first | refine blk_drewN ?_ _ | refine blk_drew ?_ | refine blk_alloc ?_ _)); exact BK256.out) hb); have n1_ := Aside0.mk (below_step (by repeat (first | (with_reducible first | exact HB.out | apply below_alloc | apply pw_below_drewN | apply below_drew1 | refine below_set ?_ GE256.out) | exact HB.out)) hb); clear BK256; clear HB; have BK256 := n0_; have HB := n1_; clear n0_ n1_; (try clear hb); (try clear hb2); (try clear hk); (try clear hi); have hcz21_0 : w20.cell? ⟨gb256, 0, none⟩ = some (.string a0_0) := (blk_cell BK256.out 0).trans rfl; have hcz21_1 : w20.cell? ⟨gb256, 1, none⟩ = some (.int .i64 a0_1) := (blk_cell BK256.out 1).trans rfl; have hcz21_2 : w20.cell? ⟨gb256, 2, none⟩ = some (.int .i64 a0_2) := (blk_cell BK256.out 2).trans rfl; have hcz21_3 : w20.cell? ⟨gb256, 3, none⟩ = some (.int .i64 a0_3) := (blk_cell BK256.out 3).trans rfl; have hcz21_4 : w20.cell? ⟨gb256, 4, none⟩ = some (.int .i64 a0_4) := (blk_cell BK256.out 4).trans rfl; have hcz21_5 : w20.cell? ⟨gb256, 5, none⟩ = some (.int .i64 a0_5) := (blk_cell BK256.out 5).trans rfl; have hcz21_6 : w20.cell? ⟨gb256, 6, none⟩ = some (.int .i64 a0_6) := (blk_cell BK256.out 6).trans rfl; have hcz21_7 : w20.cell? ⟨gb256, 7, none⟩ = some (.int .i64 a0_7) := (blk_cell BK256.out 7).trans rfl; have hcz21_8 : w20.cell? ⟨gb256, 8, none⟩ = some (.int .i64 a0_8) := (blk_cell BK256.out 8).trans rfl; have hcz21_9 : w20.cell? ⟨gb256, 9, none⟩ = some (.int .i64 a0_9) := (blk_cell BK256.out 9).trans rfl; have hcz21_10 : w20.cell? ⟨gb256, 10, none⟩ = some (.string a0_10) := (blk_cell BK256.out 10).trans rfl; have hfz21_0 := blk_frozen BK256.out 0; have hfz21_1 := blk_frozen BK256.out 1; have hfz21_2 := blk_frozen BK256.out 2; have hfz21_3 := blk_frozen BK256.out 3; have hfz21_4 := blk_frozen BK256.out 4; have hfz21_5 := blk_frozen BK256.out 5; have hfz21_6 := blk_frozen BK256.out 6; have hfz21_7 := blk_frozen BK256.out 7; have hfz21_8 := blk_frozen BK256.out 8; have hfz21_9 := blk_frozen BK256.out 9; have hfz21_10 := blk_frozen BK256.out 10) | (go_at_call 43; (with_reducible refine (solsticeref01_At.calls a0_7 a0_8 true _ A14.out).mono ?_); rintro e w22 ⟨rfl, hb⟩; have n0_ := Aside0.mk (blk_below (g := gb256) (o := .cells #[.string a0_0, .int .i64 a0_1, .int .i64 a0_2, .int .i64 a0_3, .int .i64 a0_4, .int .i64 a0_5, .int .i64 a0_6, .int .i64 a0_7, .int .i64 a0_8, .int .i64 a0_9, .string a0_10] 43 (0, 0)) (by (with_reducible repeat (first | refine blk_drewN ?_ _ | refine blk_drew ?_ | refine blk_alloc ?_ _)); exact BK256.out) hb); have n1_ := Aside0.mk (below_step (by repeat (first | (with_reducible first | exact HB.out | apply below_alloc | apply pw_below_drewN | apply below_drew1 | refine below_set ?_ GE256.out) | exact HB.out)) hb); clear BK256; clear HB; have BK256 := n0_; have HB := n1_; clear n0_ n1_; (try clear hb); (try clear hb2); (try clear hk); (try clear hi); have hcz23_0 : w22.cell? ⟨gb256, 0, none⟩ = some (.string a0_0) := (blk_cell BK256.out 0).trans rfl; have hcz23_1 : w22.cell? ⟨gb256, 1, none⟩ = some (.int .i64 a0_1) := (blk_cell BK256.out 1).trans rfl; have hcz23_2 : w22.cell? ⟨gb256, 2, none⟩ = some (.int .i64 a0_2) := (blk_cell BK256.out 2).trans rfl; have hcz23_3 : w22.cell? ⟨gb256, 3, none⟩ = some (.int .i64 a0_3) := (blk_cell BK256.out 3).trans rfl; have hcz23_4 : w22.cell? ⟨gb256, 4, none⟩ = some (.int .i64 a0_4) := (blk_cell BK256.out 4).trans rfl; have hcz23_5 : w22.cell? ⟨gb256, 5, none⟩ = some (.int .i64 a0_5) := (blk_cell BK256.out 5).trans rfl; have hcz23_6 : w22.cell? ⟨gb256, 6, none⟩ = some (.int .i64 a0_6) := (blk_cell BK256.out 6).trans rfl; have hcz23_7 : w22.cell? ⟨gb256, 7, none⟩ = some (.int .i64 a0_7) := (blk_cell BK256.out 7).trans rfl; have hcz23_8 : w22.cell? ⟨gb256, 8, none⟩ = some (.int .i64 a0_8) := (blk_cell BK256.out 8).trans rfl; have hcz23_9 : w22.cell? ⟨gb256, 9, none⟩ = some (.int .i64 a0_9) := (blk_cell BK256.out 9).trans rfl; have hcz23_10 : w22.cell? ⟨gb256, 10, none⟩ = some (.string a0_10) := (blk_cell BK256.out 10).trans rfl; have hfz23_0 := blk_frozen BK256.out 0; have hfz23_1 := blk_frozen BK256.out 1; have hfz23_2 := blk_frozen BK256.out 2; have hfz23_3 := blk_frozen BK256.out 3; have hfz23_4 := blk_frozen BK256.out 4; have hfz23_5 := blk_frozen BK256.out 5; have hfz23_6 := blk_frozen BK256.out 6; have hfz23_7 := blk_frozen BK256.out 7; have hfz23_8 := blk_frozen BK256.out 8; have hfz23_9 := blk_frozen BK256.out 9; have hfz23_10 := blk_frozen BK256.out 10) | (go_at_call 44; (with_reducible refine (solsticeref09_day.calls a0_9 true _ A16.out).mono ?_); rintro e w' ⟨rfl, ⟨nd, rfl⟩⟩) | (go_at_call 45; (with_reducible refine (solsticeref09_Letter.calls k a0_10 t264 _ A18.out).mono ?_); rintro e w' ⟨rfl, ⟨nd, rfl⟩⟩))
                  go_meet
                  case rel => exact ⟨_, (!t264), (by first | rfl | (simp; done) | (simp [*]; done)), H', ⟨by first | omega | exact Nat.le_refl _⟩, ⟨by (with_reducible repeat (first | refine blk_drewN ?_ _ | refine blk_drew ?_ | refine blk_alloc ?_ _)); exact BK256.out⟩, ⟨by repeat (first | (with_reducible first | exact HB.out | apply below_alloc | apply pw_below_drewN | apply below_drew1 | refine below_set ?_ GE256.out) | exact HB.out)⟩⟩
                · replace c17 := Bool.eq_false_iff.mpr c17
                  subst c17
                  have H1 : (solsticeref09_Rule.j0 k true a0_0 a0_1 a0_2 a0_3 a0_4 a0_5 a0_6 a0_7 a0_8 a0_9 a0_10) = some r := by rw [if_neg (show ¬ (false = true) by decide)] at H; exact H
                  clear H
                  have H := H1
                  clear H1
                  have H' := Aside0.mk H
                  clear H
                  have hcz24_0 : w3.cell? ⟨gb256, 0, none⟩ = some (.string a0_0) := (blk_cell BK256.out 0).trans rfl
                  have hcz24_1 : w3.cell? ⟨gb256, 1, none⟩ = some (.int .i64 a0_1) := (blk_cell BK256.out 1).trans rfl
                  have hcz24_2 : w3.cell? ⟨gb256, 2, none⟩ = some (.int .i64 a0_2) := (blk_cell BK256.out 2).trans rfl
                  have hcz24_3 : w3.cell? ⟨gb256, 3, none⟩ = some (.int .i64 a0_3) := (blk_cell BK256.out 3).trans rfl
                  have hcz24_4 : w3.cell? ⟨gb256, 4, none⟩ = some (.int .i64 a0_4) := (blk_cell BK256.out 4).trans rfl
                  have hcz24_5 : w3.cell? ⟨gb256, 5, none⟩ = some (.int .i64 a0_5) := (blk_cell BK256.out 5).trans rfl
                  have hcz24_6 : w3.cell? ⟨gb256, 6, none⟩ = some (.int .i64 a0_6) := (blk_cell BK256.out 6).trans rfl
                  have hcz24_7 : w3.cell? ⟨gb256, 7, none⟩ = some (.int .i64 a0_7) := (blk_cell BK256.out 7).trans rfl
                  have hcz24_8 : w3.cell? ⟨gb256, 8, none⟩ = some (.int .i64 a0_8) := (blk_cell BK256.out 8).trans rfl
                  have hcz24_9 : w3.cell? ⟨gb256, 9, none⟩ = some (.int .i64 a0_9) := (blk_cell BK256.out 9).trans rfl
                  have hcz24_10 : w3.cell? ⟨gb256, 10, none⟩ = some (.string a0_10) := (blk_cell BK256.out 10).trans rfl
                  have hfz24_0 := blk_frozen BK256.out 0
                  have hfz24_1 := blk_frozen BK256.out 1
                  have hfz24_2 := blk_frozen BK256.out 2
                  have hfz24_3 := blk_frozen BK256.out 3
                  have hfz24_4 := blk_frozen BK256.out 4
                  have hfz24_5 := blk_frozen BK256.out 5
                  have hfz24_6 := blk_frozen BK256.out 6
                  have hfz24_7 := blk_frozen BK256.out 7
                  have hfz24_8 := blk_frozen BK256.out 8
                  have hfz24_9 := blk_frozen BK256.out 9
                  have hfz24_10 := blk_frozen BK256.out 10
                  go_wp2_with (first | ((with_reducible refine gate_callee (f := 40) rfl ?_); refine goesL_ (some 6) rfl rfl Try.func40 (by kernel_rfl) rfl #[.string a0_0] rfl (by (try simp only [List.map_toArray, List.map_cons, List.map_nil]); first | done | rfl | (simp only [List.length_drop, List.length_take]; rfl)) ?_; (with_reducible refine (solsticeref09_Name.calls k a0_0 true _ A4.out).mono ?_); rintro e w' ⟨rfl, ⟨nd, rfl⟩⟩; refine ⟨_, rfl, ?_⟩) | (go_at_call 41; (with_reducible refine (solsticeref09_in.calls a0_1 1 9999 true _ A6.out).mono ?_); rintro e w' ⟨rfl, ⟨nd, rfl⟩⟩) | (go_at_call 41; (with_reducible refine (solsticeref09_in.calls a0_2 a0_1 9999 true _ A8.out).mono ?_); rintro e w' ⟨rfl, ⟨nd, rfl⟩⟩) | (go_at_call 41; (with_reducible refine (solsticeref09_in.calls a0_3 1 12 true _ A10.out).mono ?_); rintro e w' ⟨rfl, ⟨nd, rfl⟩⟩) | (go_at_call 42; (with_reducible refine (solsticeref01_On.calls k a0_4 a0_5 a0_6 true _ A12.out).mono ?_); rintro e w25 ⟨rfl, hb⟩; have n0_ := Aside0.mk (blk_below (g := gb256) (o := .cells #[.string a0_0, .int .i64 a0_1, .int .i64 a0_2, .int .i64 a0_3, .int .i64 a0_4, .int .i64 a0_5, .int .i64 a0_6, .int .i64 a0_7, .int .i64 a0_8, .int .i64 a0_9, .string a0_10] 43 (0, 0)) (by (with_reducible repeat (first | refine blk_drewN ?_ _ | refine blk_drew ?_ | refine blk_alloc ?_ _)); exact BK256.out) hb); have n1_ := Aside0.mk (below_step (by repeat (first | (with_reducible first | exact HB.out | apply below_alloc | apply pw_below_drewN | apply below_drew1 | refine below_set ?_ GE256.out) | exact HB.out)) hb); clear BK256; clear HB; have BK256 := n0_; have HB := n1_; clear n0_ n1_; (try clear hb); (try clear hb2); (try clear hk); (try clear hi); have hcz26_0 : w25.cell? ⟨gb256, 0, none⟩ = some (.string a0_0) := (blk_cell BK256.out 0).trans rfl; have hcz26_1 : w25.cell? ⟨gb256, 1, none⟩ = some (.int .i64 a0_1) := (blk_cell BK256.out 1).trans rfl; have hcz26_2 : w25.cell? ⟨gb256, 2, none⟩ = some (.int .i64 a0_2) := (blk_cell BK256.out 2).trans rfl; have hcz26_3 : w25.cell? ⟨gb256, 3, none⟩ = some (.int .i64 a0_3) := (blk_cell BK256.out 3).trans rfl; have hcz26_4 : w25.cell? ⟨gb256, 4, none⟩ = some (.int .i64 a0_4) := (blk_cell BK256.out 4).trans rfl; have hcz26_5 : w25.cell? ⟨gb256, 5, none⟩ = some (.int .i64 a0_5) := (blk_cell BK256.out 5).trans rfl; have hcz26_6 : w25.cell? ⟨gb256, 6, none⟩ = some (.int .i64 a0_6) := (blk_cell BK256.out 6).trans rfl; have hcz26_7 : w25.cell? ⟨gb256, 7, none⟩ = some (.int .i64 a0_7) := (blk_cell BK256.out 7).trans rfl; have hcz26_8 : w25.cell? ⟨gb256, 8, none⟩ = some (.int .i64 a0_8) := (blk_cell BK256.out 8).trans rfl; have hcz26_9 : w25.cell? ⟨gb256, 9, none⟩ = some (.int .i64 a0_9) := (blk_cell BK256.out 9).trans rfl; have hcz26_10 : w25.cell? ⟨gb256, 10, none⟩ = some (.string a0_10) := (blk_cell BK256.out 10).trans rfl; have hfz26_0 := blk_frozen BK256.out 0; have hfz26_1 := blk_frozen BK256.out 1; have hfz26_2 := blk_frozen BK256.out 2; have hfz26_3 := blk_frozen BK256.out 3; have hfz26_4 := blk_frozen BK256.out 4; have hfz26_5 := blk_frozen BK256.out 5; have hfz26_6 := blk_frozen BK256.out 6; have hfz26_7 := blk_frozen BK256.out 7; have hfz26_8 := blk_frozen BK256.out 8; have hfz26_9 := blk_frozen BK256.out 9; have hfz26_10 := blk_frozen BK256.out 10) | (go_at_call 43; (with_reducible refine (solsticeref01_At.calls a0_7 a0_8 true _ A14.out).mono ?_); rintro e w27 ⟨rfl, hb⟩; have n0_ := Aside0.mk (blk_below (g := gb256) (o := .cells #[.string a0_0, .int .i64 a0_1, .int .i64 a0_2, .int .i64 a0_3, .int .i64 a0_4, .int .i64 a0_5, .int .i64 a0_6, .int .i64 a0_7, .int .i64 a0_8, .int .i64 a0_9, .string a0_10] 43 (0, 0)) (by (with_reducible repeat (first | refine blk_drewN ?_ _ | refine blk_drew ?_ | refine blk_alloc ?_ _)); exact BK256.out) hb); have n1_ := Aside0.mk (below_step (by repeat (first | (with_reducible first | exact HB.out | apply below_alloc | apply pw_below_drewN | apply below_drew1 | refine below_set ?_ GE256.out) | exact HB.out)) hb); clear BK256; clear HB; have BK256 := n0_; have HB := n1_; clear n0_ n1_; (try clear hb); (try clear hb2); (try clear hk); (try clear hi); have hcz28_0 : w27.cell? ⟨gb256, 0, none⟩ = some (.string a0_0) := (blk_cell BK256.out 0).trans rfl; have hcz28_1 : w27.cell? ⟨gb256, 1, none⟩ = some (.int .i64 a0_1) := (blk_cell BK256.out 1).trans rfl; have hcz28_2 : w27.cell? ⟨gb256, 2, none⟩ = some (.int .i64 a0_2) := (blk_cell BK256.out 2).trans rfl; have hcz28_3 : w27.cell? ⟨gb256, 3, none⟩ = some (.int .i64 a0_3) := (blk_cell BK256.out 3).trans rfl; have hcz28_4 : w27.cell? ⟨gb256, 4, none⟩ = some (.int .i64 a0_4) := (blk_cell BK256.out 4).trans rfl; have hcz28_5 : w27.cell? ⟨gb256, 5, none⟩ = some (.int .i64 a0_5) := (blk_cell BK256.out 5).trans rfl; have hcz28_6 : w27.cell? ⟨gb256, 6, none⟩ = some (.int .i64 a0_6) := (blk_cell BK256.out 6).trans rfl; have hcz28_7 : w27.cell? ⟨gb256, 7, none⟩ = some (.int .i64 a0_7) := (blk_cell BK256.out 7).trans rfl; have hcz28_8 : w27.cell? ⟨gb256, 8, none⟩ = some (.int .i64 a0_8) := (blk_cell BK256.out 8).trans rfl; have hcz28_9 : w27.cell? ⟨gb256, 9, none⟩ = some (.int .i64 a0_9) := (blk_cell BK256.out 9).trans rfl; have hcz28_10 : w27.cell? ⟨gb256, 10, none⟩ = some (.string a0_10) := (blk_cell BK256.out 10).trans rfl; have hfz28_0 := blk_frozen BK256.out 0; have hfz28_1 := blk_frozen BK256.out 1; have hfz28_2 := blk_frozen BK256.out 2; have hfz28_3 := blk_frozen BK256.out 3; have hfz28_4 := blk_frozen BK256.out 4; have hfz28_5 := blk_frozen BK256.out 5; have hfz28_6 := blk_frozen BK256.out 6; have hfz28_7 := blk_frozen BK256.out 7; have hfz28_8 := blk_frozen BK256.out 8; have hfz28_9 := blk_frozen BK256.out 9; have hfz28_10 := blk_frozen BK256.out 10) | (go_at_call 44; (with_reducible refine (solsticeref09_day.calls a0_9 false _ A16.out).mono ?_); rintro e w' ⟨rfl, ⟨nd, rfl⟩⟩))
                  go_meet
                  case rel => exact ⟨_, (true), (by first | rfl | (simp; done) | (simp [*]; done)), H', ⟨by first | omega | exact Nat.le_refl _⟩, ⟨by (with_reducible repeat (first | refine blk_drewN ?_ _ | refine blk_drew ?_ | refine blk_alloc ?_ _)); exact BK256.out⟩, ⟨by repeat (first | (with_reducible first | exact HB.out | apply below_alloc | apply pw_below_drewN | apply below_drew1 | refine below_set ?_ GE256.out) | exact HB.out)⟩⟩
              · replace c15 := Bool.eq_false_iff.mpr c15
                subst c15
                have H1 : (solsticeref09_Rule.j0 k true a0_0 a0_1 a0_2 a0_3 a0_4 a0_5 a0_6 a0_7 a0_8 a0_9 a0_10) = some r := by rw [if_neg (show ¬ (false = true) by decide)] at H; exact H
                clear H
                have H := H1
                clear H1
                have H' := Aside0.mk H
                clear H
                have hcz29_0 : w3.cell? ⟨gb256, 0, none⟩ = some (.string a0_0) := (blk_cell BK256.out 0).trans rfl
                have hcz29_1 : w3.cell? ⟨gb256, 1, none⟩ = some (.int .i64 a0_1) := (blk_cell BK256.out 1).trans rfl
                have hcz29_2 : w3.cell? ⟨gb256, 2, none⟩ = some (.int .i64 a0_2) := (blk_cell BK256.out 2).trans rfl
                have hcz29_3 : w3.cell? ⟨gb256, 3, none⟩ = some (.int .i64 a0_3) := (blk_cell BK256.out 3).trans rfl
                have hcz29_4 : w3.cell? ⟨gb256, 4, none⟩ = some (.int .i64 a0_4) := (blk_cell BK256.out 4).trans rfl
                have hcz29_5 : w3.cell? ⟨gb256, 5, none⟩ = some (.int .i64 a0_5) := (blk_cell BK256.out 5).trans rfl
                have hcz29_6 : w3.cell? ⟨gb256, 6, none⟩ = some (.int .i64 a0_6) := (blk_cell BK256.out 6).trans rfl
                have hcz29_7 : w3.cell? ⟨gb256, 7, none⟩ = some (.int .i64 a0_7) := (blk_cell BK256.out 7).trans rfl
                have hcz29_8 : w3.cell? ⟨gb256, 8, none⟩ = some (.int .i64 a0_8) := (blk_cell BK256.out 8).trans rfl
                have hcz29_9 : w3.cell? ⟨gb256, 9, none⟩ = some (.int .i64 a0_9) := (blk_cell BK256.out 9).trans rfl
                have hcz29_10 : w3.cell? ⟨gb256, 10, none⟩ = some (.string a0_10) := (blk_cell BK256.out 10).trans rfl
                have hfz29_0 := blk_frozen BK256.out 0
                have hfz29_1 := blk_frozen BK256.out 1
                have hfz29_2 := blk_frozen BK256.out 2
                have hfz29_3 := blk_frozen BK256.out 3
                have hfz29_4 := blk_frozen BK256.out 4
                have hfz29_5 := blk_frozen BK256.out 5
                have hfz29_6 := blk_frozen BK256.out 6
                have hfz29_7 := blk_frozen BK256.out 7
                have hfz29_8 := blk_frozen BK256.out 8
                have hfz29_9 := blk_frozen BK256.out 9
                have hfz29_10 := blk_frozen BK256.out 10
                go_wp2_with (first | ((with_reducible refine gate_callee (f := 40) rfl ?_); refine goesL_ (some 6) rfl rfl Try.func40 (by kernel_rfl) rfl #[.string a0_0] rfl (by (try simp only [List.map_toArray, List.map_cons, List.map_nil]); first | done | rfl | (simp only [List.length_drop, List.length_take]; rfl)) ?_; (with_reducible refine (solsticeref09_Name.calls k a0_0 true _ A4.out).mono ?_); rintro e w' ⟨rfl, ⟨nd, rfl⟩⟩; refine ⟨_, rfl, ?_⟩) | (go_at_call 41; (with_reducible refine (solsticeref09_in.calls a0_1 1 9999 true _ A6.out).mono ?_); rintro e w' ⟨rfl, ⟨nd, rfl⟩⟩) | (go_at_call 41; (with_reducible refine (solsticeref09_in.calls a0_2 a0_1 9999 true _ A8.out).mono ?_); rintro e w' ⟨rfl, ⟨nd, rfl⟩⟩) | (go_at_call 41; (with_reducible refine (solsticeref09_in.calls a0_3 1 12 true _ A10.out).mono ?_); rintro e w' ⟨rfl, ⟨nd, rfl⟩⟩) | (go_at_call 42; (with_reducible refine (solsticeref01_On.calls k a0_4 a0_5 a0_6 true _ A12.out).mono ?_); rintro e w30 ⟨rfl, hb⟩; have n0_ := Aside0.mk (blk_below (g := gb256) (o := .cells #[.string a0_0, .int .i64 a0_1, .int .i64 a0_2, .int .i64 a0_3, .int .i64 a0_4, .int .i64 a0_5, .int .i64 a0_6, .int .i64 a0_7, .int .i64 a0_8, .int .i64 a0_9, .string a0_10] 43 (0, 0)) (by (with_reducible repeat (first | refine blk_drewN ?_ _ | refine blk_drew ?_ | refine blk_alloc ?_ _)); exact BK256.out) hb); have n1_ := Aside0.mk (below_step (by repeat (first | (with_reducible first | exact HB.out | apply below_alloc | apply pw_below_drewN | apply below_drew1 | refine below_set ?_ GE256.out) | exact HB.out)) hb); clear BK256; clear HB; have BK256 := n0_; have HB := n1_; clear n0_ n1_; (try clear hb); (try clear hb2); (try clear hk); (try clear hi); have hcz31_0 : w30.cell? ⟨gb256, 0, none⟩ = some (.string a0_0) := (blk_cell BK256.out 0).trans rfl; have hcz31_1 : w30.cell? ⟨gb256, 1, none⟩ = some (.int .i64 a0_1) := (blk_cell BK256.out 1).trans rfl; have hcz31_2 : w30.cell? ⟨gb256, 2, none⟩ = some (.int .i64 a0_2) := (blk_cell BK256.out 2).trans rfl; have hcz31_3 : w30.cell? ⟨gb256, 3, none⟩ = some (.int .i64 a0_3) := (blk_cell BK256.out 3).trans rfl; have hcz31_4 : w30.cell? ⟨gb256, 4, none⟩ = some (.int .i64 a0_4) := (blk_cell BK256.out 4).trans rfl; have hcz31_5 : w30.cell? ⟨gb256, 5, none⟩ = some (.int .i64 a0_5) := (blk_cell BK256.out 5).trans rfl; have hcz31_6 : w30.cell? ⟨gb256, 6, none⟩ = some (.int .i64 a0_6) := (blk_cell BK256.out 6).trans rfl; have hcz31_7 : w30.cell? ⟨gb256, 7, none⟩ = some (.int .i64 a0_7) := (blk_cell BK256.out 7).trans rfl; have hcz31_8 : w30.cell? ⟨gb256, 8, none⟩ = some (.int .i64 a0_8) := (blk_cell BK256.out 8).trans rfl; have hcz31_9 : w30.cell? ⟨gb256, 9, none⟩ = some (.int .i64 a0_9) := (blk_cell BK256.out 9).trans rfl; have hcz31_10 : w30.cell? ⟨gb256, 10, none⟩ = some (.string a0_10) := (blk_cell BK256.out 10).trans rfl; have hfz31_0 := blk_frozen BK256.out 0; have hfz31_1 := blk_frozen BK256.out 1; have hfz31_2 := blk_frozen BK256.out 2; have hfz31_3 := blk_frozen BK256.out 3; have hfz31_4 := blk_frozen BK256.out 4; have hfz31_5 := blk_frozen BK256.out 5; have hfz31_6 := blk_frozen BK256.out 6; have hfz31_7 := blk_frozen BK256.out 7; have hfz31_8 := blk_frozen BK256.out 8; have hfz31_9 := blk_frozen BK256.out 9; have hfz31_10 := blk_frozen BK256.out 10) | (go_at_call 43; (with_reducible refine (solsticeref01_At.calls a0_7 a0_8 false _ A14.out).mono ?_); rintro e w32 ⟨rfl, hb⟩; have n0_ := Aside0.mk (blk_below (g := gb256) (o := .cells #[.string a0_0, .int .i64 a0_1, .int .i64 a0_2, .int .i64 a0_3, .int .i64 a0_4, .int .i64 a0_5, .int .i64 a0_6, .int .i64 a0_7, .int .i64 a0_8, .int .i64 a0_9, .string a0_10] 43 (0, 0)) (by (with_reducible repeat (first | refine blk_drewN ?_ _ | refine blk_drew ?_ | refine blk_alloc ?_ _)); exact BK256.out) hb); have n1_ := Aside0.mk (below_step (by repeat (first | (with_reducible first | exact HB.out | apply below_alloc | apply pw_below_drewN | apply below_drew1 | refine below_set ?_ GE256.out) | exact HB.out)) hb); clear BK256; clear HB; have BK256 := n0_; have HB := n1_; clear n0_ n1_; (try clear hb); (try clear hb2); (try clear hk); (try clear hi)))
                go_meet
                case rel => exact ⟨_, (true), (by first | rfl | (simp; done) | (simp [*]; done)), H', ⟨by first | omega | exact Nat.le_refl _⟩, ⟨by (with_reducible repeat (first | refine blk_drewN ?_ _ | refine blk_drew ?_ | refine blk_alloc ?_ _)); exact BK256.out⟩, ⟨by repeat (first | (with_reducible first | exact HB.out | apply below_alloc | apply pw_below_drewN | apply below_drew1 | refine below_set ?_ GE256.out) | exact HB.out)⟩⟩
            · replace c13 := Bool.eq_false_iff.mpr c13
              subst c13
              have H1 : (solsticeref09_Rule.j0 k true a0_0 a0_1 a0_2 a0_3 a0_4 a0_5 a0_6 a0_7 a0_8 a0_9 a0_10) = some r := by rw [if_neg (show ¬ (false = true) by decide)] at H; exact H
              clear H
              have H := H1
              clear H1
              have H' := Aside0.mk H
              clear H
              have hcz33_0 : w3.cell? ⟨gb256, 0, none⟩ = some (.string a0_0) := (blk_cell BK256.out 0).trans rfl
              have hcz33_1 : w3.cell? ⟨gb256, 1, none⟩ = some (.int .i64 a0_1) := (blk_cell BK256.out 1).trans rfl
              have hcz33_2 : w3.cell? ⟨gb256, 2, none⟩ = some (.int .i64 a0_2) := (blk_cell BK256.out 2).trans rfl
              have hcz33_3 : w3.cell? ⟨gb256, 3, none⟩ = some (.int .i64 a0_3) := (blk_cell BK256.out 3).trans rfl
              have hcz33_4 : w3.cell? ⟨gb256, 4, none⟩ = some (.int .i64 a0_4) := (blk_cell BK256.out 4).trans rfl
              have hcz33_5 : w3.cell? ⟨gb256, 5, none⟩ = some (.int .i64 a0_5) := (blk_cell BK256.out 5).trans rfl
              have hcz33_6 : w3.cell? ⟨gb256, 6, none⟩ = some (.int .i64 a0_6) := (blk_cell BK256.out 6).trans rfl
              have hcz33_7 : w3.cell? ⟨gb256, 7, none⟩ = some (.int .i64 a0_7) := (blk_cell BK256.out 7).trans rfl
              have hcz33_8 : w3.cell? ⟨gb256, 8, none⟩ = some (.int .i64 a0_8) := (blk_cell BK256.out 8).trans rfl
              have hcz33_9 : w3.cell? ⟨gb256, 9, none⟩ = some (.int .i64 a0_9) := (blk_cell BK256.out 9).trans rfl
              have hcz33_10 : w3.cell? ⟨gb256, 10, none⟩ = some (.string a0_10) := (blk_cell BK256.out 10).trans rfl
              have hfz33_0 := blk_frozen BK256.out 0
              have hfz33_1 := blk_frozen BK256.out 1
              have hfz33_2 := blk_frozen BK256.out 2
              have hfz33_3 := blk_frozen BK256.out 3
              have hfz33_4 := blk_frozen BK256.out 4
              have hfz33_5 := blk_frozen BK256.out 5
              have hfz33_6 := blk_frozen BK256.out 6
              have hfz33_7 := blk_frozen BK256.out 7
              have hfz33_8 := blk_frozen BK256.out 8
              have hfz33_9 := blk_frozen BK256.out 9
              have hfz33_10 := blk_frozen BK256.out 10
              go_wp2_with (first | ((with_reducible refine gate_callee (f := 40) rfl ?_); refine goesL_ (some 6) rfl rfl Try.func40 (by kernel_rfl) rfl #[.string a0_0] rfl (by (try simp only [List.map_toArray, List.map_cons, List.map_nil]); first | done | rfl | (simp only [List.length_drop, List.length_take]; rfl)) ?_; (with_reducible refine (solsticeref09_Name.calls k a0_0 true _ A4.out).mono ?_); rintro e w' ⟨rfl, ⟨nd, rfl⟩⟩; refine ⟨_, rfl, ?_⟩) | (go_at_call 41; (with_reducible refine (solsticeref09_in.calls a0_1 1 9999 true _ A6.out).mono ?_); rintro e w' ⟨rfl, ⟨nd, rfl⟩⟩) | (go_at_call 41; (with_reducible refine (solsticeref09_in.calls a0_2 a0_1 9999 true _ A8.out).mono ?_); rintro e w' ⟨rfl, ⟨nd, rfl⟩⟩) | (go_at_call 41; (with_reducible refine (solsticeref09_in.calls a0_3 1 12 true _ A10.out).mono ?_); rintro e w' ⟨rfl, ⟨nd, rfl⟩⟩) | (go_at_call 42; (with_reducible refine (solsticeref01_On.calls k a0_4 a0_5 a0_6 false _ A12.out).mono ?_); rintro e w34 ⟨rfl, hb⟩; have n0_ := Aside0.mk (blk_below (g := gb256) (o := .cells #[.string a0_0, .int .i64 a0_1, .int .i64 a0_2, .int .i64 a0_3, .int .i64 a0_4, .int .i64 a0_5, .int .i64 a0_6, .int .i64 a0_7, .int .i64 a0_8, .int .i64 a0_9, .string a0_10] 43 (0, 0)) (by (with_reducible repeat (first | refine blk_drewN ?_ _ | refine blk_drew ?_ | refine blk_alloc ?_ _)); exact BK256.out) hb); have n1_ := Aside0.mk (below_step (by repeat (first | (with_reducible first | exact HB.out | apply below_alloc | apply pw_below_drewN | apply below_drew1 | refine below_set ?_ GE256.out) | exact HB.out)) hb); clear BK256; clear HB; have BK256 := n0_; have HB := n1_; clear n0_ n1_; (try clear hb); (try clear hb2); (try clear hk); (try clear hi)))
              go_meet
              case rel => exact ⟨_, (true), (by first | rfl | (simp; done) | (simp [*]; done)), H', ⟨by first | omega | exact Nat.le_refl _⟩, ⟨by (with_reducible repeat (first | refine blk_drewN ?_ _ | refine blk_drew ?_ | refine blk_alloc ?_ _)); exact BK256.out⟩, ⟨by repeat (first | (with_reducible first | exact HB.out | apply below_alloc | apply pw_below_drewN | apply below_drew1 | refine below_set ?_ GE256.out) | exact HB.out)⟩⟩
          · replace c11 := Bool.eq_false_iff.mpr c11
            subst c11
            have H1 : (solsticeref09_Rule.j0 k true a0_0 a0_1 a0_2 a0_3 a0_4 a0_5 a0_6 a0_7 a0_8 a0_9 a0_10) = some r := by rw [if_neg (show ¬ (false = true) by decide)] at H; exact H
            clear H
            have H := H1
            clear H1
            have H' := Aside0.mk H
            clear H
            have hcz35_0 : w3.cell? ⟨gb256, 0, none⟩ = some (.string a0_0) := (blk_cell BK256.out 0).trans rfl
            have hcz35_1 : w3.cell? ⟨gb256, 1, none⟩ = some (.int .i64 a0_1) := (blk_cell BK256.out 1).trans rfl
            have hcz35_2 : w3.cell? ⟨gb256, 2, none⟩ = some (.int .i64 a0_2) := (blk_cell BK256.out 2).trans rfl
            have hcz35_3 : w3.cell? ⟨gb256, 3, none⟩ = some (.int .i64 a0_3) := (blk_cell BK256.out 3).trans rfl
            have hcz35_4 : w3.cell? ⟨gb256, 4, none⟩ = some (.int .i64 a0_4) := (blk_cell BK256.out 4).trans rfl
            have hcz35_5 : w3.cell? ⟨gb256, 5, none⟩ = some (.int .i64 a0_5) := (blk_cell BK256.out 5).trans rfl
            have hcz35_6 : w3.cell? ⟨gb256, 6, none⟩ = some (.int .i64 a0_6) := (blk_cell BK256.out 6).trans rfl
            have hcz35_7 : w3.cell? ⟨gb256, 7, none⟩ = some (.int .i64 a0_7) := (blk_cell BK256.out 7).trans rfl
            have hcz35_8 : w3.cell? ⟨gb256, 8, none⟩ = some (.int .i64 a0_8) := (blk_cell BK256.out 8).trans rfl
            have hcz35_9 : w3.cell? ⟨gb256, 9, none⟩ = some (.int .i64 a0_9) := (blk_cell BK256.out 9).trans rfl
            have hcz35_10 : w3.cell? ⟨gb256, 10, none⟩ = some (.string a0_10) := (blk_cell BK256.out 10).trans rfl
            have hfz35_0 := blk_frozen BK256.out 0
            have hfz35_1 := blk_frozen BK256.out 1
            have hfz35_2 := blk_frozen BK256.out 2
            have hfz35_3 := blk_frozen BK256.out 3
            have hfz35_4 := blk_frozen BK256.out 4
            have hfz35_5 := blk_frozen BK256.out 5
            have hfz35_6 := blk_frozen BK256.out 6
            have hfz35_7 := blk_frozen BK256.out 7
            have hfz35_8 := blk_frozen BK256.out 8
            have hfz35_9 := blk_frozen BK256.out 9
            have hfz35_10 := blk_frozen BK256.out 10
            go_wp2_with (first | ((with_reducible refine gate_callee (f := 40) rfl ?_); refine goesL_ (some 6) rfl rfl Try.func40 (by kernel_rfl) rfl #[.string a0_0] rfl (by (try simp only [List.map_toArray, List.map_cons, List.map_nil]); first | done | rfl | (simp only [List.length_drop, List.length_take]; rfl)) ?_; (with_reducible refine (solsticeref09_Name.calls k a0_0 true _ A4.out).mono ?_); rintro e w' ⟨rfl, ⟨nd, rfl⟩⟩; refine ⟨_, rfl, ?_⟩) | (go_at_call 41; (with_reducible refine (solsticeref09_in.calls a0_1 1 9999 true _ A6.out).mono ?_); rintro e w' ⟨rfl, ⟨nd, rfl⟩⟩) | (go_at_call 41; (with_reducible refine (solsticeref09_in.calls a0_2 a0_1 9999 true _ A8.out).mono ?_); rintro e w' ⟨rfl, ⟨nd, rfl⟩⟩) | (go_at_call 41; (with_reducible refine (solsticeref09_in.calls a0_3 1 12 false _ A10.out).mono ?_); rintro e w' ⟨rfl, ⟨nd, rfl⟩⟩))
            go_meet
            case rel => exact ⟨_, (true), (by first | rfl | (simp; done) | (simp [*]; done)), H', ⟨by first | omega | exact Nat.le_refl _⟩, ⟨by (with_reducible repeat (first | refine blk_drewN ?_ _ | refine blk_drew ?_ | refine blk_alloc ?_ _)); exact BK256.out⟩, ⟨by repeat (first | (with_reducible first | exact HB.out | apply below_alloc | apply pw_below_drewN | apply below_drew1 | refine below_set ?_ GE256.out) | exact HB.out)⟩⟩
        · replace c9 := Bool.eq_false_iff.mpr c9
          subst c9
          have H1 : (solsticeref09_Rule.j0 k true a0_0 a0_1 a0_2 a0_3 a0_4 a0_5 a0_6 a0_7 a0_8 a0_9 a0_10) = some r := by rw [if_neg (show ¬ (false = true) by decide)] at H; exact H
          clear H
          have H := H1
          clear H1
          have H' := Aside0.mk H
          clear H
          have hcz36_0 : w3.cell? ⟨gb256, 0, none⟩ = some (.string a0_0) := (blk_cell BK256.out 0).trans rfl
          have hcz36_1 : w3.cell? ⟨gb256, 1, none⟩ = some (.int .i64 a0_1) := (blk_cell BK256.out 1).trans rfl
          have hcz36_2 : w3.cell? ⟨gb256, 2, none⟩ = some (.int .i64 a0_2) := (blk_cell BK256.out 2).trans rfl
          have hcz36_3 : w3.cell? ⟨gb256, 3, none⟩ = some (.int .i64 a0_3) := (blk_cell BK256.out 3).trans rfl
          have hcz36_4 : w3.cell? ⟨gb256, 4, none⟩ = some (.int .i64 a0_4) := (blk_cell BK256.out 4).trans rfl
          have hcz36_5 : w3.cell? ⟨gb256, 5, none⟩ = some (.int .i64 a0_5) := (blk_cell BK256.out 5).trans rfl
          have hcz36_6 : w3.cell? ⟨gb256, 6, none⟩ = some (.int .i64 a0_6) := (blk_cell BK256.out 6).trans rfl
          have hcz36_7 : w3.cell? ⟨gb256, 7, none⟩ = some (.int .i64 a0_7) := (blk_cell BK256.out 7).trans rfl
          have hcz36_8 : w3.cell? ⟨gb256, 8, none⟩ = some (.int .i64 a0_8) := (blk_cell BK256.out 8).trans rfl
          have hcz36_9 : w3.cell? ⟨gb256, 9, none⟩ = some (.int .i64 a0_9) := (blk_cell BK256.out 9).trans rfl
          have hcz36_10 : w3.cell? ⟨gb256, 10, none⟩ = some (.string a0_10) := (blk_cell BK256.out 10).trans rfl
          have hfz36_0 := blk_frozen BK256.out 0
          have hfz36_1 := blk_frozen BK256.out 1
          have hfz36_2 := blk_frozen BK256.out 2
          have hfz36_3 := blk_frozen BK256.out 3
          have hfz36_4 := blk_frozen BK256.out 4
          have hfz36_5 := blk_frozen BK256.out 5
          have hfz36_6 := blk_frozen BK256.out 6
          have hfz36_7 := blk_frozen BK256.out 7
          have hfz36_8 := blk_frozen BK256.out 8
          have hfz36_9 := blk_frozen BK256.out 9
          have hfz36_10 := blk_frozen BK256.out 10
          go_wp2_with (first | ((with_reducible refine gate_callee (f := 40) rfl ?_); refine goesL_ (some 6) rfl rfl Try.func40 (by kernel_rfl) rfl #[.string a0_0] rfl (by (try simp only [List.map_toArray, List.map_cons, List.map_nil]); first | done | rfl | (simp only [List.length_drop, List.length_take]; rfl)) ?_; (with_reducible refine (solsticeref09_Name.calls k a0_0 true _ A4.out).mono ?_); rintro e w' ⟨rfl, ⟨nd, rfl⟩⟩; refine ⟨_, rfl, ?_⟩) | (go_at_call 41; (with_reducible refine (solsticeref09_in.calls a0_1 1 9999 true _ A6.out).mono ?_); rintro e w' ⟨rfl, ⟨nd, rfl⟩⟩) | (go_at_call 41; (with_reducible refine (solsticeref09_in.calls a0_2 a0_1 9999 false _ A8.out).mono ?_); rintro e w' ⟨rfl, ⟨nd, rfl⟩⟩))
          go_meet
          case rel => exact ⟨_, (true), (by first | rfl | (simp; done) | (simp [*]; done)), H', ⟨by first | omega | exact Nat.le_refl _⟩, ⟨by (with_reducible repeat (first | refine blk_drewN ?_ _ | refine blk_drew ?_ | refine blk_alloc ?_ _)); exact BK256.out⟩, ⟨by repeat (first | (with_reducible first | exact HB.out | apply below_alloc | apply pw_below_drewN | apply below_drew1 | refine below_set ?_ GE256.out) | exact HB.out)⟩⟩
      · replace c7 := Bool.eq_false_iff.mpr c7
        subst c7
        have H1 : (solsticeref09_Rule.j0 k true a0_0 a0_1 a0_2 a0_3 a0_4 a0_5 a0_6 a0_7 a0_8 a0_9 a0_10) = some r := by rw [if_neg (show ¬ (false = true) by decide)] at H; exact H
        clear H
        have H := H1
        clear H1
        have H' := Aside0.mk H
        clear H
        have hcz37_0 : w3.cell? ⟨gb256, 0, none⟩ = some (.string a0_0) := (blk_cell BK256.out 0).trans rfl
        have hcz37_1 : w3.cell? ⟨gb256, 1, none⟩ = some (.int .i64 a0_1) := (blk_cell BK256.out 1).trans rfl
        have hcz37_2 : w3.cell? ⟨gb256, 2, none⟩ = some (.int .i64 a0_2) := (blk_cell BK256.out 2).trans rfl
        have hcz37_3 : w3.cell? ⟨gb256, 3, none⟩ = some (.int .i64 a0_3) := (blk_cell BK256.out 3).trans rfl
        have hcz37_4 : w3.cell? ⟨gb256, 4, none⟩ = some (.int .i64 a0_4) := (blk_cell BK256.out 4).trans rfl
        have hcz37_5 : w3.cell? ⟨gb256, 5, none⟩ = some (.int .i64 a0_5) := (blk_cell BK256.out 5).trans rfl
        have hcz37_6 : w3.cell? ⟨gb256, 6, none⟩ = some (.int .i64 a0_6) := (blk_cell BK256.out 6).trans rfl
        have hcz37_7 : w3.cell? ⟨gb256, 7, none⟩ = some (.int .i64 a0_7) := (blk_cell BK256.out 7).trans rfl
        have hcz37_8 : w3.cell? ⟨gb256, 8, none⟩ = some (.int .i64 a0_8) := (blk_cell BK256.out 8).trans rfl
        have hcz37_9 : w3.cell? ⟨gb256, 9, none⟩ = some (.int .i64 a0_9) := (blk_cell BK256.out 9).trans rfl
        have hcz37_10 : w3.cell? ⟨gb256, 10, none⟩ = some (.string a0_10) := (blk_cell BK256.out 10).trans rfl
        have hfz37_0 := blk_frozen BK256.out 0
        have hfz37_1 := blk_frozen BK256.out 1
        have hfz37_2 := blk_frozen BK256.out 2
        have hfz37_3 := blk_frozen BK256.out 3
        have hfz37_4 := blk_frozen BK256.out 4
        have hfz37_5 := blk_frozen BK256.out 5
        have hfz37_6 := blk_frozen BK256.out 6
        have hfz37_7 := blk_frozen BK256.out 7
        have hfz37_8 := blk_frozen BK256.out 8
        have hfz37_9 := blk_frozen BK256.out 9
        have hfz37_10 := blk_frozen BK256.out 10
        go_wp2_with (first | ((with_reducible refine gate_callee (f := 40) rfl ?_); refine goesL_ (some 6) rfl rfl Try.func40 (by kernel_rfl) rfl #[.string a0_0] rfl (by (try simp only [List.map_toArray, List.map_cons, List.map_nil]); first | done | rfl | (simp only [List.length_drop, List.length_take]; rfl)) ?_; (with_reducible refine (solsticeref09_Name.calls k a0_0 true _ A4.out).mono ?_); rintro e w' ⟨rfl, ⟨nd, rfl⟩⟩; refine ⟨_, rfl, ?_⟩) | (go_at_call 41; (with_reducible refine (solsticeref09_in.calls a0_1 1 9999 false _ A6.out).mono ?_); rintro e w' ⟨rfl, ⟨nd, rfl⟩⟩))
        go_meet
        case rel => exact ⟨_, (true), (by first | rfl | (simp; done) | (simp [*]; done)), H', ⟨by first | omega | exact Nat.le_refl _⟩, ⟨by (with_reducible repeat (first | refine blk_drewN ?_ _ | refine blk_drew ?_ | refine blk_alloc ?_ _)); exact BK256.out⟩, ⟨by repeat (first | (with_reducible first | exact HB.out | apply below_alloc | apply pw_below_drewN | apply below_drew1 | refine below_set ?_ GE256.out) | exact HB.out)⟩⟩
    · replace c5 := Bool.eq_false_iff.mpr c5
      subst c5
      have H1 : (solsticeref09_Rule.j0 k true a0_0 a0_1 a0_2 a0_3 a0_4 a0_5 a0_6 a0_7 a0_8 a0_9 a0_10) = some r := by rw [if_neg (show ¬ (false = true) by decide)] at H; exact H
      clear H
      have H := H1
      clear H1
      have H' := Aside0.mk H
      clear H
      have hcz38_0 : w3.cell? ⟨gb256, 0, none⟩ = some (.string a0_0) := (blk_cell BK256.out 0).trans rfl
      have hcz38_1 : w3.cell? ⟨gb256, 1, none⟩ = some (.int .i64 a0_1) := (blk_cell BK256.out 1).trans rfl
      have hcz38_2 : w3.cell? ⟨gb256, 2, none⟩ = some (.int .i64 a0_2) := (blk_cell BK256.out 2).trans rfl
      have hcz38_3 : w3.cell? ⟨gb256, 3, none⟩ = some (.int .i64 a0_3) := (blk_cell BK256.out 3).trans rfl
      have hcz38_4 : w3.cell? ⟨gb256, 4, none⟩ = some (.int .i64 a0_4) := (blk_cell BK256.out 4).trans rfl
      have hcz38_5 : w3.cell? ⟨gb256, 5, none⟩ = some (.int .i64 a0_5) := (blk_cell BK256.out 5).trans rfl
      have hcz38_6 : w3.cell? ⟨gb256, 6, none⟩ = some (.int .i64 a0_6) := (blk_cell BK256.out 6).trans rfl
      have hcz38_7 : w3.cell? ⟨gb256, 7, none⟩ = some (.int .i64 a0_7) := (blk_cell BK256.out 7).trans rfl
      have hcz38_8 : w3.cell? ⟨gb256, 8, none⟩ = some (.int .i64 a0_8) := (blk_cell BK256.out 8).trans rfl
      have hcz38_9 : w3.cell? ⟨gb256, 9, none⟩ = some (.int .i64 a0_9) := (blk_cell BK256.out 9).trans rfl
      have hcz38_10 : w3.cell? ⟨gb256, 10, none⟩ = some (.string a0_10) := (blk_cell BK256.out 10).trans rfl
      have hfz38_0 := blk_frozen BK256.out 0
      have hfz38_1 := blk_frozen BK256.out 1
      have hfz38_2 := blk_frozen BK256.out 2
      have hfz38_3 := blk_frozen BK256.out 3
      have hfz38_4 := blk_frozen BK256.out 4
      have hfz38_5 := blk_frozen BK256.out 5
      have hfz38_6 := blk_frozen BK256.out 6
      have hfz38_7 := blk_frozen BK256.out 7
      have hfz38_8 := blk_frozen BK256.out 8
      have hfz38_9 := blk_frozen BK256.out 9
      have hfz38_10 := blk_frozen BK256.out 10
      go_wp2_with (first | ((with_reducible refine gate_callee (f := 40) rfl ?_); refine goesL_ (some 6) rfl rfl Try.func40 (by kernel_rfl) rfl #[.string a0_0] rfl (by (try simp only [List.map_toArray, List.map_cons, List.map_nil]); first | done | rfl | (simp only [List.length_drop, List.length_take]; rfl)) ?_; (with_reducible refine (solsticeref09_Name.calls k a0_0 false _ A4.out).mono ?_); rintro e w' ⟨rfl, ⟨nd, rfl⟩⟩; refine ⟨_, rfl, ?_⟩))
      go_meet
      case rel => exact ⟨_, (true), (by first | rfl | (simp; done) | (simp [*]; done)), H', ⟨by first | omega | exact Nat.le_refl _⟩, ⟨by (with_reducible repeat (first | refine blk_drewN ?_ _ | refine blk_drew ?_ | refine blk_alloc ?_ _)); exact BK256.out⟩, ⟨by repeat (first | (with_reducible first | exact HB.out | apply below_alloc | apply pw_below_drewN | apply below_drew1 | refine below_set ?_ GE256.out) | exact HB.out)⟩⟩
  case rest =>
    clear HC2
    try clear c1
    try clear c2
    try clear p2
    try clear c4
    try clear c5
    try clear c7
    try clear c9
    try clear c11
    try clear c13
    try clear c15
    try clear c17
    try clear c24
    try clear hcz19_0
    try clear hcz19_1
    try clear hcz19_10
    try clear hcz19_2
    try clear hcz19_3
    try clear hcz19_4
    try clear hcz19_5
    try clear hcz19_6
    try clear hcz19_7
    try clear hcz19_8
    try clear hcz19_9
    try clear hcz21_0
    try clear hcz21_1
    try clear hcz21_10
    try clear hcz21_2
    try clear hcz21_3
    try clear hcz21_4
    try clear hcz21_5
    try clear hcz21_6
    try clear hcz21_7
    try clear hcz21_8
    try clear hcz21_9
    try clear hcz23_0
    try clear hcz23_1
    try clear hcz23_10
    try clear hcz23_2
    try clear hcz23_3
    try clear hcz23_4
    try clear hcz23_5
    try clear hcz23_6
    try clear hcz23_7
    try clear hcz23_8
    try clear hcz23_9
    try clear hcz24_0
    try clear hcz24_1
    try clear hcz24_10
    try clear hcz24_2
    try clear hcz24_3
    try clear hcz24_4
    try clear hcz24_5
    try clear hcz24_6
    try clear hcz24_7
    try clear hcz24_8
    try clear hcz24_9
    try clear hcz26_0
    try clear hcz26_1
    try clear hcz26_10
    try clear hcz26_2
    try clear hcz26_3
    try clear hcz26_4
    try clear hcz26_5
    try clear hcz26_6
    try clear hcz26_7
    try clear hcz26_8
    try clear hcz26_9
    try clear hcz28_0
    try clear hcz28_1
    try clear hcz28_10
    try clear hcz28_2
    try clear hcz28_3
    try clear hcz28_4
    try clear hcz28_5
    try clear hcz28_6
    try clear hcz28_7
    try clear hcz28_8
    try clear hcz28_9
    try clear hcz29_0
    try clear hcz29_1
    try clear hcz29_10
    try clear hcz29_2
    try clear hcz29_3
    try clear hcz29_4
    try clear hcz29_5
    try clear hcz29_6
    try clear hcz29_7
    try clear hcz29_8
    try clear hcz29_9
    try clear hcz31_0
    try clear hcz31_1
    try clear hcz31_10
    try clear hcz31_2
    try clear hcz31_3
    try clear hcz31_4
    try clear hcz31_5
    try clear hcz31_6
    try clear hcz31_7
    try clear hcz31_8
    try clear hcz31_9
    try clear hcz33_0
    try clear hcz33_1
    try clear hcz33_10
    try clear hcz33_2
    try clear hcz33_3
    try clear hcz33_4
    try clear hcz33_5
    try clear hcz33_6
    try clear hcz33_7
    try clear hcz33_8
    try clear hcz33_9
    try clear hcz35_0
    try clear hcz35_1
    try clear hcz35_10
    try clear hcz35_2
    try clear hcz35_3
    try clear hcz35_4
    try clear hcz35_5
    try clear hcz35_6
    try clear hcz35_7
    try clear hcz35_8
    try clear hcz35_9
    try clear hcz36_0
    try clear hcz36_1
    try clear hcz36_10
    try clear hcz36_2
    try clear hcz36_3
    try clear hcz36_4
    try clear hcz36_5
    try clear hcz36_6
    try clear hcz36_7
    try clear hcz36_8
    try clear hcz36_9
    try clear hcz37_0
    try clear hcz37_1
    try clear hcz37_10
    try clear hcz37_2
    try clear hcz37_3
    try clear hcz37_4
    try clear hcz37_5
    try clear hcz37_6
    try clear hcz37_7
    try clear hcz37_8
    try clear hcz37_9
    try clear hcz38_0
    try clear hcz38_1
    try clear hcz38_10
    try clear hcz38_2
    try clear hcz38_3
    try clear hcz38_4
    try clear hcz38_5
    try clear hcz38_6
    try clear hcz38_7
    try clear hcz38_8
    try clear hcz38_9
    try clear hfz19_0
    try clear hfz19_1
    try clear hfz19_10
    try clear hfz19_2
    try clear hfz19_3
    try clear hfz19_4
    try clear hfz19_5
    try clear hfz19_6
    try clear hfz19_7
    try clear hfz19_8
    try clear hfz19_9
    try clear hfz21_0
    try clear hfz21_1
    try clear hfz21_10
    try clear hfz21_2
    try clear hfz21_3
    try clear hfz21_4
    try clear hfz21_5
    try clear hfz21_6
    try clear hfz21_7
    try clear hfz21_8
    try clear hfz21_9
    try clear hfz23_0
    try clear hfz23_1
    try clear hfz23_10
    try clear hfz23_2
    try clear hfz23_3
    try clear hfz23_4
    try clear hfz23_5
    try clear hfz23_6
    try clear hfz23_7
    try clear hfz23_8
    try clear hfz23_9
    try clear hfz24_0
    try clear hfz24_1
    try clear hfz24_10
    try clear hfz24_2
    try clear hfz24_3
    try clear hfz24_4
    try clear hfz24_5
    try clear hfz24_6
    try clear hfz24_7
    try clear hfz24_8
    try clear hfz24_9
    try clear hfz26_0
    try clear hfz26_1
    try clear hfz26_10
    try clear hfz26_2
    try clear hfz26_3
    try clear hfz26_4
    try clear hfz26_5
    try clear hfz26_6
    try clear hfz26_7
    try clear hfz26_8
    try clear hfz26_9
    try clear hfz28_0
    try clear hfz28_1
    try clear hfz28_10
    try clear hfz28_2
    try clear hfz28_3
    try clear hfz28_4
    try clear hfz28_5
    try clear hfz28_6
    try clear hfz28_7
    try clear hfz28_8
    try clear hfz28_9
    try clear hfz29_0
    try clear hfz29_1
    try clear hfz29_10
    try clear hfz29_2
    try clear hfz29_3
    try clear hfz29_4
    try clear hfz29_5
    try clear hfz29_6
    try clear hfz29_7
    try clear hfz29_8
    try clear hfz29_9
    try clear hfz31_0
    try clear hfz31_1
    try clear hfz31_10
    try clear hfz31_2
    try clear hfz31_3
    try clear hfz31_4
    try clear hfz31_5
    try clear hfz31_6
    try clear hfz31_7
    try clear hfz31_8
    try clear hfz31_9
    try clear hfz33_0
    try clear hfz33_1
    try clear hfz33_10
    try clear hfz33_2
    try clear hfz33_3
    try clear hfz33_4
    try clear hfz33_5
    try clear hfz33_6
    try clear hfz33_7
    try clear hfz33_8
    try clear hfz33_9
    try clear hfz35_0
    try clear hfz35_1
    try clear hfz35_10
    try clear hfz35_2
    try clear hfz35_3
    try clear hfz35_4
    try clear hfz35_5
    try clear hfz35_6
    try clear hfz35_7
    try clear hfz35_8
    try clear hfz35_9
    try clear hfz36_0
    try clear hfz36_1
    try clear hfz36_10
    try clear hfz36_2
    try clear hfz36_3
    try clear hfz36_4
    try clear hfz36_5
    try clear hfz36_6
    try clear hfz36_7
    try clear hfz36_8
    try clear hfz36_9
    try clear hfz37_0
    try clear hfz37_1
    try clear hfz37_10
    try clear hfz37_2
    try clear hfz37_3
    try clear hfz37_4
    try clear hfz37_5
    try clear hfz37_6
    try clear hfz37_7
    try clear hfz37_8
    try clear hfz37_9
    try clear hfz38_0
    try clear hfz38_1
    try clear hfz38_10
    try clear hfz38_2
    try clear hfz38_3
    try clear hfz38_4
    try clear hfz38_5
    try clear hfz38_6
    try clear hfz38_7
    try clear hfz38_8
    try clear hfz38_9
    obtain ⟨kq, x51_1, rfl, HA, HJ1, BK256, HB⟩ := hcut
    cases kq with
    | zero => exact absurd HA.out (by simp [solsticeref09_Rule.j0])
    | succ kj1 =>
      have H := HA.out
      clear HA
      simp only [solsticeref09_Rule.j0] at H
      by_cases c39 : x51_1 = true
      · subst c39
        have H1 : (some false) = some r := by rw [if_pos rfl] at H; exact H
        clear H
        have H := H1
        clear H1
        obtain rfl := Option.some.inj H
        go_wp2
        go_ret
        exact ⟨by first | rfl | (simp [errW_none, errW_some] <;> rfl) | (simp [*, errW_none, errW_some] <;> rfl), by repeat (first | (with_reducible first | exact HB.out | apply below_alloc | apply pw_below_drewN | apply below_drew1 | refine below_set ?_ GE256.out) | exact HB.out)⟩
      · replace c39 := Bool.eq_false_iff.mpr c39
        subst c39
        have H1 : ((solsticeref01_Len.f kj1 2000 a0_3).bind fun t265 => (if a0_3 = 2 then (if a0_4 = 1 then (if a0_2 > a0_1 then (if a0_4 = 2 then (some true) else (some (decide (a0_6 ≤ 28)))) else (if a0_4 = 2 then (some true) else (some (decide (a0_6 ≤ t265))))) else (if a0_4 = 2 then (some true) else (some (decide (a0_6 ≤ t265))))) else (if a0_4 = 2 then (some true) else (some (decide (a0_6 ≤ t265)))))) = some r := by rw [if_neg (show ¬ (false = true) by decide)] at H; exact H
        clear H
        have H := H1
        clear H1
        replace H := Option.bind_eq_some_iff.mp H
        obtain ⟨t265, A400, H⟩ := H
        replace H : (if a0_3 = 2 then (if a0_4 = 1 then (if a0_2 > a0_1 then (if a0_4 = 2 then (some true) else (some (decide (a0_6 ≤ 28)))) else (if a0_4 = 2 then (some true) else (some (decide (a0_6 ≤ t265))))) else (if a0_4 = 2 then (some true) else (some (decide (a0_6 ≤ t265))))) else (if a0_4 = 2 then (some true) else (some (decide (a0_6 ≤ t265))))) = some r := H
        have A40 := Aside0.mk A400
        clear A400
        by_cases c41 : a0_3 = 2
        · rw [if_pos c41] at H
          have c41b0 : (a0_3 == 2) = true := beq_iff_eq.mpr c41
          have c41b1 : (a0_3 != 2) = false := bne_eq_false_iff_eq.mpr c41
          clear c41
          by_cases c42 : a0_4 = 1
          · rw [if_pos c42] at H
            have c42b0 : (a0_4 == 1) = true := beq_iff_eq.mpr c42
            have c42b1 : (a0_4 != 1) = false := bne_eq_false_iff_eq.mpr c42
            clear c42
            by_cases c43 : a0_2 > a0_1
            · rw [if_pos c43] at H
              have c43b0 : decide (a0_1 < a0_2) = true := decide_eq_true c43
              clear c43
              by_cases c44 : a0_4 = 2
              · rw [if_pos c44] at H
                have c44b0 : (a0_4 == 2) = true := beq_iff_eq.mpr c44
                have c44b1 : (a0_4 != 2) = false := bne_eq_false_iff_eq.mpr c44
                clear c44
                obtain rfl := Option.some.inj H
                have hcz45_0 : wc.cell? ⟨gb256, 0, none⟩ = some (.string a0_0) := (blk_cell BK256.out 0).trans rfl
                have hcz45_1 : wc.cell? ⟨gb256, 1, none⟩ = some (.int .i64 a0_1) := (blk_cell BK256.out 1).trans rfl
                have hcz45_2 : wc.cell? ⟨gb256, 2, none⟩ = some (.int .i64 a0_2) := (blk_cell BK256.out 2).trans rfl
                have hcz45_3 : wc.cell? ⟨gb256, 3, none⟩ = some (.int .i64 a0_3) := (blk_cell BK256.out 3).trans rfl
                have hcz45_4 : wc.cell? ⟨gb256, 4, none⟩ = some (.int .i64 a0_4) := (blk_cell BK256.out 4).trans rfl
                have hcz45_5 : wc.cell? ⟨gb256, 5, none⟩ = some (.int .i64 a0_5) := (blk_cell BK256.out 5).trans rfl
                have hcz45_6 : wc.cell? ⟨gb256, 6, none⟩ = some (.int .i64 a0_6) := (blk_cell BK256.out 6).trans rfl
                have hcz45_7 : wc.cell? ⟨gb256, 7, none⟩ = some (.int .i64 a0_7) := (blk_cell BK256.out 7).trans rfl
                have hcz45_8 : wc.cell? ⟨gb256, 8, none⟩ = some (.int .i64 a0_8) := (blk_cell BK256.out 8).trans rfl
                have hcz45_9 : wc.cell? ⟨gb256, 9, none⟩ = some (.int .i64 a0_9) := (blk_cell BK256.out 9).trans rfl
                have hcz45_10 : wc.cell? ⟨gb256, 10, none⟩ = some (.string a0_10) := (blk_cell BK256.out 10).trans rfl
                have hfz45_0 := blk_frozen BK256.out 0
                have hfz45_1 := blk_frozen BK256.out 1
                have hfz45_2 := blk_frozen BK256.out 2
                have hfz45_3 := blk_frozen BK256.out 3
                have hfz45_4 := blk_frozen BK256.out 4
                have hfz45_5 := blk_frozen BK256.out 5
                have hfz45_6 := blk_frozen BK256.out 6
                have hfz45_7 := blk_frozen BK256.out 7
                have hfz45_8 := blk_frozen BK256.out 8
                have hfz45_9 := blk_frozen BK256.out 9
                have hfz45_10 := blk_frozen BK256.out 10
                go_wp2_with (first | ((with_reducible refine gate_callee (f := 31) rfl ?_); refine goesL_ (some 54) rfl rfl Try.func31 (by kernel_rfl) rfl #[.int .i64 2000, .int .i64 a0_3] rfl (by (try simp only [List.map_toArray, List.map_cons, List.map_nil]); first | done | rfl | (simp only [List.length_drop, List.length_take]; rfl)) ?_; (with_reducible refine (solsticeref01_Len.calls kj1 2000 a0_3 t265 _ A40.out).mono ?_); rintro e w' ⟨rfl, ⟨nd, rfl⟩⟩; refine ⟨_, rfl, ?_⟩))
                go_ret
                exact ⟨by first | rfl | (simp [errW_none, errW_some] <;> rfl) | (simp [*, errW_none, errW_some] <;> rfl), by repeat (first | (with_reducible first | exact HB.out | apply below_alloc | apply pw_below_drewN | apply below_drew1 | refine below_set ?_ GE256.out) | exact HB.out)⟩
              · rw [if_neg c44] at H
                have c44b0 : (a0_4 == 2) = false := beq_eq_false_iff_ne.mpr c44
                have c44b1 : (a0_4 != 2) = true := bne_iff_ne.mpr c44
                obtain rfl := Option.some.inj H
                have hcz46_0 : wc.cell? ⟨gb256, 0, none⟩ = some (.string a0_0) := (blk_cell BK256.out 0).trans rfl
                have hcz46_1 : wc.cell? ⟨gb256, 1, none⟩ = some (.int .i64 a0_1) := (blk_cell BK256.out 1).trans rfl
                have hcz46_2 : wc.cell? ⟨gb256, 2, none⟩ = some (.int .i64 a0_2) := (blk_cell BK256.out 2).trans rfl
                have hcz46_3 : wc.cell? ⟨gb256, 3, none⟩ = some (.int .i64 a0_3) := (blk_cell BK256.out 3).trans rfl
                have hcz46_4 : wc.cell? ⟨gb256, 4, none⟩ = some (.int .i64 a0_4) := (blk_cell BK256.out 4).trans rfl
                have hcz46_5 : wc.cell? ⟨gb256, 5, none⟩ = some (.int .i64 a0_5) := (blk_cell BK256.out 5).trans rfl
                have hcz46_6 : wc.cell? ⟨gb256, 6, none⟩ = some (.int .i64 a0_6) := (blk_cell BK256.out 6).trans rfl
                have hcz46_7 : wc.cell? ⟨gb256, 7, none⟩ = some (.int .i64 a0_7) := (blk_cell BK256.out 7).trans rfl
                have hcz46_8 : wc.cell? ⟨gb256, 8, none⟩ = some (.int .i64 a0_8) := (blk_cell BK256.out 8).trans rfl
                have hcz46_9 : wc.cell? ⟨gb256, 9, none⟩ = some (.int .i64 a0_9) := (blk_cell BK256.out 9).trans rfl
                have hcz46_10 : wc.cell? ⟨gb256, 10, none⟩ = some (.string a0_10) := (blk_cell BK256.out 10).trans rfl
                have hfz46_0 := blk_frozen BK256.out 0
                have hfz46_1 := blk_frozen BK256.out 1
                have hfz46_2 := blk_frozen BK256.out 2
                have hfz46_3 := blk_frozen BK256.out 3
                have hfz46_4 := blk_frozen BK256.out 4
                have hfz46_5 := blk_frozen BK256.out 5
                have hfz46_6 := blk_frozen BK256.out 6
                have hfz46_7 := blk_frozen BK256.out 7
                have hfz46_8 := blk_frozen BK256.out 8
                have hfz46_9 := blk_frozen BK256.out 9
                have hfz46_10 := blk_frozen BK256.out 10
                go_wp2_with (first | ((with_reducible refine gate_callee (f := 31) rfl ?_); refine goesL_ (some 54) rfl rfl Try.func31 (by kernel_rfl) rfl #[.int .i64 2000, .int .i64 a0_3] rfl (by (try simp only [List.map_toArray, List.map_cons, List.map_nil]); first | done | rfl | (simp only [List.length_drop, List.length_take]; rfl)) ?_; (with_reducible refine (solsticeref01_Len.calls kj1 2000 a0_3 t265 _ A40.out).mono ?_); rintro e w' ⟨rfl, ⟨nd, rfl⟩⟩; refine ⟨_, rfl, ?_⟩))
                go_ret
                exact ⟨by first | rfl | (simp [errW_none, errW_some] <;> rfl) | (simp [*, errW_none, errW_some] <;> rfl), by repeat (first | (with_reducible first | exact HB.out | apply below_alloc | apply pw_below_drewN | apply below_drew1 | refine below_set ?_ GE256.out) | exact HB.out)⟩
            · rw [if_neg c43] at H
              have c43b0 : decide (a0_1 < a0_2) = false := decide_eq_false c43
              clear c43
              by_cases c47 : a0_4 = 2
              · rw [if_pos c47] at H
                have c47b0 : (a0_4 == 2) = true := beq_iff_eq.mpr c47
                have c47b1 : (a0_4 != 2) = false := bne_eq_false_iff_eq.mpr c47
                clear c47
                obtain rfl := Option.some.inj H
                have hcz48_0 : wc.cell? ⟨gb256, 0, none⟩ = some (.string a0_0) := (blk_cell BK256.out 0).trans rfl
                have hcz48_1 : wc.cell? ⟨gb256, 1, none⟩ = some (.int .i64 a0_1) := (blk_cell BK256.out 1).trans rfl
                have hcz48_2 : wc.cell? ⟨gb256, 2, none⟩ = some (.int .i64 a0_2) := (blk_cell BK256.out 2).trans rfl
                have hcz48_3 : wc.cell? ⟨gb256, 3, none⟩ = some (.int .i64 a0_3) := (blk_cell BK256.out 3).trans rfl
                have hcz48_4 : wc.cell? ⟨gb256, 4, none⟩ = some (.int .i64 a0_4) := (blk_cell BK256.out 4).trans rfl
                have hcz48_5 : wc.cell? ⟨gb256, 5, none⟩ = some (.int .i64 a0_5) := (blk_cell BK256.out 5).trans rfl
                have hcz48_6 : wc.cell? ⟨gb256, 6, none⟩ = some (.int .i64 a0_6) := (blk_cell BK256.out 6).trans rfl
                have hcz48_7 : wc.cell? ⟨gb256, 7, none⟩ = some (.int .i64 a0_7) := (blk_cell BK256.out 7).trans rfl
                have hcz48_8 : wc.cell? ⟨gb256, 8, none⟩ = some (.int .i64 a0_8) := (blk_cell BK256.out 8).trans rfl
                have hcz48_9 : wc.cell? ⟨gb256, 9, none⟩ = some (.int .i64 a0_9) := (blk_cell BK256.out 9).trans rfl
                have hcz48_10 : wc.cell? ⟨gb256, 10, none⟩ = some (.string a0_10) := (blk_cell BK256.out 10).trans rfl
                have hfz48_0 := blk_frozen BK256.out 0
                have hfz48_1 := blk_frozen BK256.out 1
                have hfz48_2 := blk_frozen BK256.out 2
                have hfz48_3 := blk_frozen BK256.out 3
                have hfz48_4 := blk_frozen BK256.out 4
                have hfz48_5 := blk_frozen BK256.out 5
                have hfz48_6 := blk_frozen BK256.out 6
                have hfz48_7 := blk_frozen BK256.out 7
                have hfz48_8 := blk_frozen BK256.out 8
                have hfz48_9 := blk_frozen BK256.out 9
                have hfz48_10 := blk_frozen BK256.out 10
                go_wp2_with (first | ((with_reducible refine gate_callee (f := 31) rfl ?_); refine goesL_ (some 54) rfl rfl Try.func31 (by kernel_rfl) rfl #[.int .i64 2000, .int .i64 a0_3] rfl (by (try simp only [List.map_toArray, List.map_cons, List.map_nil]); first | done | rfl | (simp only [List.length_drop, List.length_take]; rfl)) ?_; (with_reducible refine (solsticeref01_Len.calls kj1 2000 a0_3 t265 _ A40.out).mono ?_); rintro e w' ⟨rfl, ⟨nd, rfl⟩⟩; refine ⟨_, rfl, ?_⟩))
                go_ret
                exact ⟨by first | rfl | (simp [errW_none, errW_some] <;> rfl) | (simp [*, errW_none, errW_some] <;> rfl), by repeat (first | (with_reducible first | exact HB.out | apply below_alloc | apply pw_below_drewN | apply below_drew1 | refine below_set ?_ GE256.out) | exact HB.out)⟩
              · rw [if_neg c47] at H
                have c47b0 : (a0_4 == 2) = false := beq_eq_false_iff_ne.mpr c47
                have c47b1 : (a0_4 != 2) = true := bne_iff_ne.mpr c47
                obtain rfl := Option.some.inj H
                have hcz49_0 : wc.cell? ⟨gb256, 0, none⟩ = some (.string a0_0) := (blk_cell BK256.out 0).trans rfl
                have hcz49_1 : wc.cell? ⟨gb256, 1, none⟩ = some (.int .i64 a0_1) := (blk_cell BK256.out 1).trans rfl
                have hcz49_2 : wc.cell? ⟨gb256, 2, none⟩ = some (.int .i64 a0_2) := (blk_cell BK256.out 2).trans rfl
                have hcz49_3 : wc.cell? ⟨gb256, 3, none⟩ = some (.int .i64 a0_3) := (blk_cell BK256.out 3).trans rfl
                have hcz49_4 : wc.cell? ⟨gb256, 4, none⟩ = some (.int .i64 a0_4) := (blk_cell BK256.out 4).trans rfl
                have hcz49_5 : wc.cell? ⟨gb256, 5, none⟩ = some (.int .i64 a0_5) := (blk_cell BK256.out 5).trans rfl
                have hcz49_6 : wc.cell? ⟨gb256, 6, none⟩ = some (.int .i64 a0_6) := (blk_cell BK256.out 6).trans rfl
                have hcz49_7 : wc.cell? ⟨gb256, 7, none⟩ = some (.int .i64 a0_7) := (blk_cell BK256.out 7).trans rfl
                have hcz49_8 : wc.cell? ⟨gb256, 8, none⟩ = some (.int .i64 a0_8) := (blk_cell BK256.out 8).trans rfl
                have hcz49_9 : wc.cell? ⟨gb256, 9, none⟩ = some (.int .i64 a0_9) := (blk_cell BK256.out 9).trans rfl
                have hcz49_10 : wc.cell? ⟨gb256, 10, none⟩ = some (.string a0_10) := (blk_cell BK256.out 10).trans rfl
                have hfz49_0 := blk_frozen BK256.out 0
                have hfz49_1 := blk_frozen BK256.out 1
                have hfz49_2 := blk_frozen BK256.out 2
                have hfz49_3 := blk_frozen BK256.out 3
                have hfz49_4 := blk_frozen BK256.out 4
                have hfz49_5 := blk_frozen BK256.out 5
                have hfz49_6 := blk_frozen BK256.out 6
                have hfz49_7 := blk_frozen BK256.out 7
                have hfz49_8 := blk_frozen BK256.out 8
                have hfz49_9 := blk_frozen BK256.out 9
                have hfz49_10 := blk_frozen BK256.out 10
                go_wp2_with (first | ((with_reducible refine gate_callee (f := 31) rfl ?_); refine goesL_ (some 54) rfl rfl Try.func31 (by kernel_rfl) rfl #[.int .i64 2000, .int .i64 a0_3] rfl (by (try simp only [List.map_toArray, List.map_cons, List.map_nil]); first | done | rfl | (simp only [List.length_drop, List.length_take]; rfl)) ?_; (with_reducible refine (solsticeref01_Len.calls kj1 2000 a0_3 t265 _ A40.out).mono ?_); rintro e w' ⟨rfl, ⟨nd, rfl⟩⟩; refine ⟨_, rfl, ?_⟩))
                go_ret
                exact ⟨by first | rfl | (simp [errW_none, errW_some] <;> rfl) | (simp [*, errW_none, errW_some] <;> rfl), by repeat (first | (with_reducible first | exact HB.out | apply below_alloc | apply pw_below_drewN | apply below_drew1 | refine below_set ?_ GE256.out) | exact HB.out)⟩
          · rw [if_neg c42] at H
            have c42b0 : (a0_4 == 1) = false := beq_eq_false_iff_ne.mpr c42
            have c42b1 : (a0_4 != 1) = true := bne_iff_ne.mpr c42
            by_cases c50 : a0_4 = 2
            · rw [if_pos c50] at H
              have c50b0 : (a0_4 == 2) = true := beq_iff_eq.mpr c50
              have c50b1 : (a0_4 != 2) = false := bne_eq_false_iff_eq.mpr c50
              clear c50
              obtain rfl := Option.some.inj H
              have hcz51_0 : wc.cell? ⟨gb256, 0, none⟩ = some (.string a0_0) := (blk_cell BK256.out 0).trans rfl
              have hcz51_1 : wc.cell? ⟨gb256, 1, none⟩ = some (.int .i64 a0_1) := (blk_cell BK256.out 1).trans rfl
              have hcz51_2 : wc.cell? ⟨gb256, 2, none⟩ = some (.int .i64 a0_2) := (blk_cell BK256.out 2).trans rfl
              have hcz51_3 : wc.cell? ⟨gb256, 3, none⟩ = some (.int .i64 a0_3) := (blk_cell BK256.out 3).trans rfl
              have hcz51_4 : wc.cell? ⟨gb256, 4, none⟩ = some (.int .i64 a0_4) := (blk_cell BK256.out 4).trans rfl
              have hcz51_5 : wc.cell? ⟨gb256, 5, none⟩ = some (.int .i64 a0_5) := (blk_cell BK256.out 5).trans rfl
              have hcz51_6 : wc.cell? ⟨gb256, 6, none⟩ = some (.int .i64 a0_6) := (blk_cell BK256.out 6).trans rfl
              have hcz51_7 : wc.cell? ⟨gb256, 7, none⟩ = some (.int .i64 a0_7) := (blk_cell BK256.out 7).trans rfl
              have hcz51_8 : wc.cell? ⟨gb256, 8, none⟩ = some (.int .i64 a0_8) := (blk_cell BK256.out 8).trans rfl
              have hcz51_9 : wc.cell? ⟨gb256, 9, none⟩ = some (.int .i64 a0_9) := (blk_cell BK256.out 9).trans rfl
              have hcz51_10 : wc.cell? ⟨gb256, 10, none⟩ = some (.string a0_10) := (blk_cell BK256.out 10).trans rfl
              have hfz51_0 := blk_frozen BK256.out 0
              have hfz51_1 := blk_frozen BK256.out 1
              have hfz51_2 := blk_frozen BK256.out 2
              have hfz51_3 := blk_frozen BK256.out 3
              have hfz51_4 := blk_frozen BK256.out 4
              have hfz51_5 := blk_frozen BK256.out 5
              have hfz51_6 := blk_frozen BK256.out 6
              have hfz51_7 := blk_frozen BK256.out 7
              have hfz51_8 := blk_frozen BK256.out 8
              have hfz51_9 := blk_frozen BK256.out 9
              have hfz51_10 := blk_frozen BK256.out 10
              go_wp2_with (first | ((with_reducible refine gate_callee (f := 31) rfl ?_); refine goesL_ (some 54) rfl rfl Try.func31 (by kernel_rfl) rfl #[.int .i64 2000, .int .i64 a0_3] rfl (by (try simp only [List.map_toArray, List.map_cons, List.map_nil]); first | done | rfl | (simp only [List.length_drop, List.length_take]; rfl)) ?_; (with_reducible refine (solsticeref01_Len.calls kj1 2000 a0_3 t265 _ A40.out).mono ?_); rintro e w' ⟨rfl, ⟨nd, rfl⟩⟩; refine ⟨_, rfl, ?_⟩))
              go_ret
              exact ⟨by first | rfl | (simp [errW_none, errW_some] <;> rfl) | (simp [*, errW_none, errW_some] <;> rfl), by repeat (first | (with_reducible first | exact HB.out | apply below_alloc | apply pw_below_drewN | apply below_drew1 | refine below_set ?_ GE256.out) | exact HB.out)⟩
            · rw [if_neg c50] at H
              have c50b0 : (a0_4 == 2) = false := beq_eq_false_iff_ne.mpr c50
              have c50b1 : (a0_4 != 2) = true := bne_iff_ne.mpr c50
              obtain rfl := Option.some.inj H
              have hcz52_0 : wc.cell? ⟨gb256, 0, none⟩ = some (.string a0_0) := (blk_cell BK256.out 0).trans rfl
              have hcz52_1 : wc.cell? ⟨gb256, 1, none⟩ = some (.int .i64 a0_1) := (blk_cell BK256.out 1).trans rfl
              have hcz52_2 : wc.cell? ⟨gb256, 2, none⟩ = some (.int .i64 a0_2) := (blk_cell BK256.out 2).trans rfl
              have hcz52_3 : wc.cell? ⟨gb256, 3, none⟩ = some (.int .i64 a0_3) := (blk_cell BK256.out 3).trans rfl
              have hcz52_4 : wc.cell? ⟨gb256, 4, none⟩ = some (.int .i64 a0_4) := (blk_cell BK256.out 4).trans rfl
              have hcz52_5 : wc.cell? ⟨gb256, 5, none⟩ = some (.int .i64 a0_5) := (blk_cell BK256.out 5).trans rfl
              have hcz52_6 : wc.cell? ⟨gb256, 6, none⟩ = some (.int .i64 a0_6) := (blk_cell BK256.out 6).trans rfl
              have hcz52_7 : wc.cell? ⟨gb256, 7, none⟩ = some (.int .i64 a0_7) := (blk_cell BK256.out 7).trans rfl
              have hcz52_8 : wc.cell? ⟨gb256, 8, none⟩ = some (.int .i64 a0_8) := (blk_cell BK256.out 8).trans rfl
              have hcz52_9 : wc.cell? ⟨gb256, 9, none⟩ = some (.int .i64 a0_9) := (blk_cell BK256.out 9).trans rfl
              have hcz52_10 : wc.cell? ⟨gb256, 10, none⟩ = some (.string a0_10) := (blk_cell BK256.out 10).trans rfl
              have hfz52_0 := blk_frozen BK256.out 0
              have hfz52_1 := blk_frozen BK256.out 1
              have hfz52_2 := blk_frozen BK256.out 2
              have hfz52_3 := blk_frozen BK256.out 3
              have hfz52_4 := blk_frozen BK256.out 4
              have hfz52_5 := blk_frozen BK256.out 5
              have hfz52_6 := blk_frozen BK256.out 6
              have hfz52_7 := blk_frozen BK256.out 7
              have hfz52_8 := blk_frozen BK256.out 8
              have hfz52_9 := blk_frozen BK256.out 9
              have hfz52_10 := blk_frozen BK256.out 10
              go_wp2_with (first | ((with_reducible refine gate_callee (f := 31) rfl ?_); refine goesL_ (some 54) rfl rfl Try.func31 (by kernel_rfl) rfl #[.int .i64 2000, .int .i64 a0_3] rfl (by (try simp only [List.map_toArray, List.map_cons, List.map_nil]); first | done | rfl | (simp only [List.length_drop, List.length_take]; rfl)) ?_; (with_reducible refine (solsticeref01_Len.calls kj1 2000 a0_3 t265 _ A40.out).mono ?_); rintro e w' ⟨rfl, ⟨nd, rfl⟩⟩; refine ⟨_, rfl, ?_⟩))
              go_ret
              exact ⟨by first | rfl | (simp [errW_none, errW_some] <;> rfl) | (simp [*, errW_none, errW_some] <;> rfl), by repeat (first | (with_reducible first | exact HB.out | apply below_alloc | apply pw_below_drewN | apply below_drew1 | refine below_set ?_ GE256.out) | exact HB.out)⟩
        · rw [if_neg c41] at H
          have c41b0 : (a0_3 == 2) = false := beq_eq_false_iff_ne.mpr c41
          have c41b1 : (a0_3 != 2) = true := bne_iff_ne.mpr c41
          by_cases c53 : a0_4 = 2
          · rw [if_pos c53] at H
            have c53b0 : (a0_4 == 2) = true := beq_iff_eq.mpr c53
            have c53b1 : (a0_4 != 2) = false := bne_eq_false_iff_eq.mpr c53
            clear c53
            obtain rfl := Option.some.inj H
            have hcz54_0 : wc.cell? ⟨gb256, 0, none⟩ = some (.string a0_0) := (blk_cell BK256.out 0).trans rfl
            have hcz54_1 : wc.cell? ⟨gb256, 1, none⟩ = some (.int .i64 a0_1) := (blk_cell BK256.out 1).trans rfl
            have hcz54_2 : wc.cell? ⟨gb256, 2, none⟩ = some (.int .i64 a0_2) := (blk_cell BK256.out 2).trans rfl
            have hcz54_3 : wc.cell? ⟨gb256, 3, none⟩ = some (.int .i64 a0_3) := (blk_cell BK256.out 3).trans rfl
            have hcz54_4 : wc.cell? ⟨gb256, 4, none⟩ = some (.int .i64 a0_4) := (blk_cell BK256.out 4).trans rfl
            have hcz54_5 : wc.cell? ⟨gb256, 5, none⟩ = some (.int .i64 a0_5) := (blk_cell BK256.out 5).trans rfl
            have hcz54_6 : wc.cell? ⟨gb256, 6, none⟩ = some (.int .i64 a0_6) := (blk_cell BK256.out 6).trans rfl
            have hcz54_7 : wc.cell? ⟨gb256, 7, none⟩ = some (.int .i64 a0_7) := (blk_cell BK256.out 7).trans rfl
            have hcz54_8 : wc.cell? ⟨gb256, 8, none⟩ = some (.int .i64 a0_8) := (blk_cell BK256.out 8).trans rfl
            have hcz54_9 : wc.cell? ⟨gb256, 9, none⟩ = some (.int .i64 a0_9) := (blk_cell BK256.out 9).trans rfl
            have hcz54_10 : wc.cell? ⟨gb256, 10, none⟩ = some (.string a0_10) := (blk_cell BK256.out 10).trans rfl
            have hfz54_0 := blk_frozen BK256.out 0
            have hfz54_1 := blk_frozen BK256.out 1
            have hfz54_2 := blk_frozen BK256.out 2
            have hfz54_3 := blk_frozen BK256.out 3
            have hfz54_4 := blk_frozen BK256.out 4
            have hfz54_5 := blk_frozen BK256.out 5
            have hfz54_6 := blk_frozen BK256.out 6
            have hfz54_7 := blk_frozen BK256.out 7
            have hfz54_8 := blk_frozen BK256.out 8
            have hfz54_9 := blk_frozen BK256.out 9
            have hfz54_10 := blk_frozen BK256.out 10
            go_wp2_with (first | ((with_reducible refine gate_callee (f := 31) rfl ?_); refine goesL_ (some 54) rfl rfl Try.func31 (by kernel_rfl) rfl #[.int .i64 2000, .int .i64 a0_3] rfl (by (try simp only [List.map_toArray, List.map_cons, List.map_nil]); first | done | rfl | (simp only [List.length_drop, List.length_take]; rfl)) ?_; (with_reducible refine (solsticeref01_Len.calls kj1 2000 a0_3 t265 _ A40.out).mono ?_); rintro e w' ⟨rfl, ⟨nd, rfl⟩⟩; refine ⟨_, rfl, ?_⟩))
            go_ret
            exact ⟨by first | rfl | (simp [errW_none, errW_some] <;> rfl) | (simp [*, errW_none, errW_some] <;> rfl), by repeat (first | (with_reducible first | exact HB.out | apply below_alloc | apply pw_below_drewN | apply below_drew1 | refine below_set ?_ GE256.out) | exact HB.out)⟩
          · rw [if_neg c53] at H
            have c53b0 : (a0_4 == 2) = false := beq_eq_false_iff_ne.mpr c53
            have c53b1 : (a0_4 != 2) = true := bne_iff_ne.mpr c53
            obtain rfl := Option.some.inj H
            have hcz55_0 : wc.cell? ⟨gb256, 0, none⟩ = some (.string a0_0) := (blk_cell BK256.out 0).trans rfl
            have hcz55_1 : wc.cell? ⟨gb256, 1, none⟩ = some (.int .i64 a0_1) := (blk_cell BK256.out 1).trans rfl
            have hcz55_2 : wc.cell? ⟨gb256, 2, none⟩ = some (.int .i64 a0_2) := (blk_cell BK256.out 2).trans rfl
            have hcz55_3 : wc.cell? ⟨gb256, 3, none⟩ = some (.int .i64 a0_3) := (blk_cell BK256.out 3).trans rfl
            have hcz55_4 : wc.cell? ⟨gb256, 4, none⟩ = some (.int .i64 a0_4) := (blk_cell BK256.out 4).trans rfl
            have hcz55_5 : wc.cell? ⟨gb256, 5, none⟩ = some (.int .i64 a0_5) := (blk_cell BK256.out 5).trans rfl
            have hcz55_6 : wc.cell? ⟨gb256, 6, none⟩ = some (.int .i64 a0_6) := (blk_cell BK256.out 6).trans rfl
            have hcz55_7 : wc.cell? ⟨gb256, 7, none⟩ = some (.int .i64 a0_7) := (blk_cell BK256.out 7).trans rfl
            have hcz55_8 : wc.cell? ⟨gb256, 8, none⟩ = some (.int .i64 a0_8) := (blk_cell BK256.out 8).trans rfl
            have hcz55_9 : wc.cell? ⟨gb256, 9, none⟩ = some (.int .i64 a0_9) := (blk_cell BK256.out 9).trans rfl
            have hcz55_10 : wc.cell? ⟨gb256, 10, none⟩ = some (.string a0_10) := (blk_cell BK256.out 10).trans rfl
            have hfz55_0 := blk_frozen BK256.out 0
            have hfz55_1 := blk_frozen BK256.out 1
            have hfz55_2 := blk_frozen BK256.out 2
            have hfz55_3 := blk_frozen BK256.out 3
            have hfz55_4 := blk_frozen BK256.out 4
            have hfz55_5 := blk_frozen BK256.out 5
            have hfz55_6 := blk_frozen BK256.out 6
            have hfz55_7 := blk_frozen BK256.out 7
            have hfz55_8 := blk_frozen BK256.out 8
            have hfz55_9 := blk_frozen BK256.out 9
            have hfz55_10 := blk_frozen BK256.out 10
            go_wp2_with (first | ((with_reducible refine gate_callee (f := 31) rfl ?_); refine goesL_ (some 54) rfl rfl Try.func31 (by kernel_rfl) rfl #[.int .i64 2000, .int .i64 a0_3] rfl (by (try simp only [List.map_toArray, List.map_cons, List.map_nil]); first | done | rfl | (simp only [List.length_drop, List.length_take]; rfl)) ?_; (with_reducible refine (solsticeref01_Len.calls kj1 2000 a0_3 t265 _ A40.out).mono ?_); rintro e w' ⟨rfl, ⟨nd, rfl⟩⟩; refine ⟨_, rfl, ?_⟩))
            go_ret
            exact ⟨by first | rfl | (simp [errW_none, errW_some] <;> rfl) | (simp [*, errW_none, errW_some] <;> rfl), by repeat (first | (with_reducible first | exact HB.out | apply below_alloc | apply pw_below_drewN | apply below_drew1 | refine below_set ?_ GE256.out) | exact HB.out)⟩

end Go.Proofs.Ytdhljcnilclfbaa.O
