-- What some functions of the program compute: a text of this claim's own (lines first written by the kit's tool, some proved anew).
import Derived.Test.YtfinhaghgmnegaaGreatMOx3
import Derived.Test.YtfinhaghgmnegaaGreatMOx20
namespace Go.Proofs.YtfinhaghgmnegaaGreat.O
open Go.RowKit Go.Proofs.YtfinhaghgmnegaaGreatW.PrintWords Go.Proofs.YtfinhaghgmnegaaGreatW.PrintLast Go.Proofs.YtfinhaghgmnegaaGreatW.PrintMore
attribute [local go_sem] max2_int min2_int max_two min_two max_three min_three max_four min_four   -- for this text's walks alone
set_option linter.unusedVariables false
set_option linter.unusedSimpArgs false

/-! ### filter_number: function 70 -/
def filter_number.f (k : Nat) (a0 : Int) (a1 : Int) (a2 : Int) : Option (Int) := (civil_Number.f k a0 a1 a2).bind fun bt355 => (some bt355.1)
set_option maxHeartbeats 8000000 in
set_option maxRecDepth 100000 in
theorem filter_number.calls (k : Nat) (a0 : Int) (a1 : Int) (a2 : Int) (r : Int) (w : World) (h : filter_number.f k a0 a1 a2 = some r) :
    Calls Tryz.prog 70 #[.int .i64 a0, .int .i64 a1, .int .i64 a2] w fun e w' => e = .returned (.int .i64 r) ∧ Below w.heap.size w w' := by
  have hu53 := Tryz.underlying53
  have HB := Aside0.mk (Below.refl w.heap.size w)
  have H : ((civil_Number.f k a0 a1 a2).bind fun bt355 => (some bt355.1)) = some r := h
  clear h
  replace H := Option.bind_eq_some_iff.mp H
  obtain ⟨⟨t355, t356⟩, A40, H⟩ := H
  replace H : (some t355) = some r := H
  have A4 := Aside0.mk A40
  clear A40
  obtain rfl := Option.some.inj H
  go_enter Tryz.func70, Tryz.ntmps70
  go_wp2_with (first | ((with_reducible refine gate_callee (f := 16) rfl ?_); refine goesL_ (some 14) rfl rfl Tryz.func16 (by kernel_rfl) rfl #[.agg #[.int .i64 a0, .int .i64 a1, .int .i64 a2]] rfl (by (try simp only [List.map_toArray, List.map_cons, List.map_nil]); first | done | rfl | (simp only [List.length_drop, List.length_take]; rfl)) ?_; (with_reducible refine (civil_Number.calls k a0 a1 a2 t355 t356 _ A4.out).mono ?_); rintro e w5 ⟨rfl, hb⟩; refine ⟨_, rfl, ?_⟩; have n0_ := Aside0.mk (below_step (by repeat (first | (with_reducible first | exact HB.out | apply below_alloc | apply pw_below_drewN | apply below_drew1) | exact HB.out)) hb); clear HB; have HB := n0_; clear n0_; (try clear hb); (try clear hb2); (try clear hk); (try clear hi)))
  go_ret
  exact ⟨by first | rfl | (simp [errW_none, errW_some] <;> rfl) | (simp [*, errW_none, errW_some] <;> rfl), by repeat (first | (with_reducible first | exact HB.out | apply below_alloc | apply pw_below_drewN | apply below_drew1) | exact HB.out)⟩

end Go.Proofs.YtfinhaghgmnegaaGreat.O

namespace Go.Proofs.YtfinhaghgmnegaaGreat.O
open Go.RowKit Go.Proofs.YtfinhaghgmnegaaGreatW.PrintWords Go.Proofs.YtfinhaghgmnegaaGreatW.PrintLast Go.Proofs.YtfinhaghgmnegaaGreatW.PrintMore
attribute [local go_sem] max2_int min2_int max_two min_two max_three min_three max_four min_four   -- for this text's walks alone
set_option linter.unusedVariables false
set_option linter.unusedSimpArgs false

/-! ### filter_least: function 61 -/
def filter_least.f (k : Nat)  : Option (Int) := (filter_number.f k 1 1 1).bind fun t357 => (some (wrap64 (t357 * 86400)))
set_option maxHeartbeats 8000000 in
set_option maxRecDepth 100000 in
theorem filter_least.calls (k : Nat)  (r : Int) (w : World) (h : filter_least.f k  = some r) :
    Calls Tryz.prog 61 #[] w fun e w' => e = .returned (.int .i64 r) ∧ Below w.heap.size w w' := by
  have HB := Aside0.mk (Below.refl w.heap.size w)
  have H : ((filter_number.f k 1 1 1).bind fun t357 => (some (wrap64 (t357 * 86400)))) = some r := h
  clear h
  replace H := Option.bind_eq_some_iff.mp H
  obtain ⟨t357, A10, H⟩ := H
  replace H : (some (wrap64 (t357 * 86400))) = some r := H
  have A1 := Aside0.mk A10
  clear A10
  obtain rfl := Option.some.inj H
  go_enter Tryz.func61, Tryz.ntmps61
  go_wp2_with (first | ((with_reducible refine gate_callee (f := 70) rfl ?_); refine goesL_ (some 1) rfl rfl Tryz.func70 (by kernel_rfl) rfl #[.int .i64 1, .int .i64 1, .int .i64 1] rfl (by (try simp only [List.map_toArray, List.map_cons, List.map_nil]); first | done | rfl | (simp only [List.length_drop, List.length_take]; rfl)) ?_; (with_reducible refine (filter_number.calls k 1 1 1 t357 _ A1.out).mono ?_); rintro e w2 ⟨rfl, hb⟩; refine ⟨_, rfl, ?_⟩; have n0_ := Aside0.mk (below_step (by repeat (first | (with_reducible first | exact HB.out | apply below_alloc | apply pw_below_drewN | apply below_drew1) | exact HB.out)) hb); clear HB; have HB := n0_; clear n0_; (try clear hb); (try clear hb2); (try clear hk); (try clear hi)))
  go_ret
  exact ⟨by first | rfl | (simp [errW_none, errW_some] <;> rfl) | (simp [*, errW_none, errW_some] <;> rfl), by repeat (first | (with_reducible first | exact HB.out | apply below_alloc | apply pw_below_drewN | apply below_drew1) | exact HB.out)⟩

end Go.Proofs.YtfinhaghgmnegaaGreat.O

namespace Go.Proofs.YtfinhaghgmnegaaGreat.O
open Go.RowKit Go.Proofs.YtfinhaghgmnegaaGreatW.PrintWords Go.Proofs.YtfinhaghgmnegaaGreatW.PrintLast Go.Proofs.YtfinhaghgmnegaaGreatW.PrintMore
attribute [local go_sem] max2_int min2_int max_two min_two max_three min_three max_four min_four   -- for this text's walks alone
set_option linter.unusedVariables false
set_option linter.unusedSimpArgs false

/-! ### filter_most: function 62 -/
def filter_most.f (k : Nat)  : Option (Int) := (filter_number.f k 10000 1 1).bind fun t358 => (some (wrap64 ((wrap64 (t358 * 86400)) - 1)))
set_option maxHeartbeats 8000000 in
set_option maxRecDepth 100000 in
theorem filter_most.calls (k : Nat)  (r : Int) (w : World) (h : filter_most.f k  = some r) :
    Calls Tryz.prog 62 #[] w fun e w' => e = .returned (.int .i64 r) ∧ Below w.heap.size w w' := by
  have HB := Aside0.mk (Below.refl w.heap.size w)
  have H : ((filter_number.f k 10000 1 1).bind fun t358 => (some (wrap64 ((wrap64 (t358 * 86400)) - 1)))) = some r := h
  clear h
  replace H := Option.bind_eq_some_iff.mp H
  obtain ⟨t358, A10, H⟩ := H
  replace H : (some (wrap64 ((wrap64 (t358 * 86400)) - 1))) = some r := H
  have A1 := Aside0.mk A10
  clear A10
  obtain rfl := Option.some.inj H
  go_enter Tryz.func62, Tryz.ntmps62
  go_wp2_with (first | ((with_reducible refine gate_callee (f := 70) rfl ?_); refine goesL_ (some 1) rfl rfl Tryz.func70 (by kernel_rfl) rfl #[.int .i64 10000, .int .i64 1, .int .i64 1] rfl (by (try simp only [List.map_toArray, List.map_cons, List.map_nil]); first | done | rfl | (simp only [List.length_drop, List.length_take]; rfl)) ?_; (with_reducible refine (filter_number.calls k 10000 1 1 t358 _ A1.out).mono ?_); rintro e w2 ⟨rfl, hb⟩; refine ⟨_, rfl, ?_⟩; have n0_ := Aside0.mk (below_step (by repeat (first | (with_reducible first | exact HB.out | apply below_alloc | apply pw_below_drewN | apply below_drew1) | exact HB.out)) hb); clear HB; have HB := n0_; clear n0_; (try clear hb); (try clear hb2); (try clear hk); (try clear hi)))
  go_ret
  exact ⟨by first | rfl | (simp [errW_none, errW_some] <;> rfl) | (simp [*, errW_none, errW_some] <;> rfl), by repeat (first | (with_reducible first | exact HB.out | apply below_alloc | apply pw_below_drewN | apply below_drew1) | exact HB.out)⟩

end Go.Proofs.YtfinhaghgmnegaaGreat.O

namespace Go.Proofs.YtfinhaghgmnegaaGreat.O
open Go.RowKit Go.Proofs.YtfinhaghgmnegaaGreatW.PrintWords Go.Proofs.YtfinhaghgmnegaaGreatW.PrintLast Go.Proofs.YtfinhaghgmnegaaGreatW.PrintMore
attribute [local go_sem] max2_int min2_int max_two min_two max_three min_three max_four min_four   -- for this text's walks alone
set_option linter.unusedVariables false
set_option linter.unusedSimpArgs false

/-! ### filter_weeks: function 71 -/
def filter_weeks.f (k : Nat) (a0 : Int) (a1 : Int) : Option (Int × Int) := (filter_number.f k a0 1 4).bind fun t359 => ((filter_number.f k a0 12 28).bind fun t360 => ((civil_Weekday.f t359).bind fun t361 => ((civil_Weekday.f t360).bind fun t362 => (some (wrap64 (t359 - (Int.tmod (wrap64 ((wrap64 (t361 - a1)) + 7)) 7)), wrap64 ((wrap64 ((wrap64 (t360 - (Int.tmod (wrap64 ((wrap64 (t362 - a1)) + 7)) 7))) + 7)) - 1))))))
set_option maxHeartbeats 8000000 in
set_option maxRecDepth 100000 in
theorem filter_weeks.calls (k : Nat) (a0 : Int) (a1 : Int) (r1 : Int) (r2 : Int) (w : World) (h : filter_weeks.f k a0 a1 = some (r1, r2)) :
    Calls Tryz.prog 71 #[.int .i64 a0, .int .i64 a1] w fun e w' => e = .returned (.tuple #[.int .i64 r1, .int .i64 r2]) ∧ Below w.heap.size w w' := by
  have HB := Aside0.mk (Below.refl w.heap.size w)
  have H : ((filter_number.f k a0 1 4).bind fun t359 => ((filter_number.f k a0 12 28).bind fun t360 => ((civil_Weekday.f t359).bind fun t361 => ((civil_Weekday.f t360).bind fun t362 => (some (wrap64 (t359 - (Int.tmod (wrap64 ((wrap64 (t361 - a1)) + 7)) 7)), wrap64 ((wrap64 ((wrap64 (t360 - (Int.tmod (wrap64 ((wrap64 (t362 - a1)) + 7)) 7))) + 7)) - 1))))))) = some (r1, r2) := h
  clear h
  replace H := Option.bind_eq_some_iff.mp H
  obtain ⟨t359, A30, H⟩ := H
  replace H : ((filter_number.f k a0 12 28).bind fun t360 => ((civil_Weekday.f t359).bind fun t361 => ((civil_Weekday.f t360).bind fun t362 => (some (wrap64 (t359 - (Int.tmod (wrap64 ((wrap64 (t361 - a1)) + 7)) 7)), wrap64 ((wrap64 ((wrap64 (t360 - (Int.tmod (wrap64 ((wrap64 (t362 - a1)) + 7)) 7))) + 7)) - 1)))))) = some (r1, r2) := H
  have A3 := Aside0.mk A30
  clear A30
  replace H := Option.bind_eq_some_iff.mp H
  obtain ⟨t360, A40, H⟩ := H
  replace H : ((civil_Weekday.f t359).bind fun t361 => ((civil_Weekday.f t360).bind fun t362 => (some (wrap64 (t359 - (Int.tmod (wrap64 ((wrap64 (t361 - a1)) + 7)) 7)), wrap64 ((wrap64 ((wrap64 (t360 - (Int.tmod (wrap64 ((wrap64 (t362 - a1)) + 7)) 7))) + 7)) - 1))))) = some (r1, r2) := H
  have A4 := Aside0.mk A40
  clear A40
  replace H := Option.bind_eq_some_iff.mp H
  obtain ⟨t361, A50, H⟩ := H
  replace H : ((civil_Weekday.f t360).bind fun t362 => (some (wrap64 (t359 - (Int.tmod (wrap64 ((wrap64 (t361 - a1)) + 7)) 7)), wrap64 ((wrap64 ((wrap64 (t360 - (Int.tmod (wrap64 ((wrap64 (t362 - a1)) + 7)) 7))) + 7)) - 1)))) = some (r1, r2) := H
  have A5 := Aside0.mk A50
  clear A50
  replace H := Option.bind_eq_some_iff.mp H
  obtain ⟨t362, A60, H⟩ := H
  replace H : (some (wrap64 (t359 - (Int.tmod (wrap64 ((wrap64 (t361 - a1)) + 7)) 7)), wrap64 ((wrap64 ((wrap64 (t360 - (Int.tmod (wrap64 ((wrap64 (t362 - a1)) + 7)) 7))) + 7)) - 1))) = some (r1, r2) := H
  have A6 := Aside0.mk A60
  clear A60
  simp only [Option.some.injEq, Prod.mk.injEq] at H
  obtain ⟨rfl, rfl⟩ := H
  go_enter Tryz.func71, Tryz.ntmps71
  go_wp2_with (first | ((with_reducible refine gate_callee (f := 70) rfl ?_); refine goesL_ (some 9) rfl rfl Tryz.func70 (by kernel_rfl) rfl #[.int .i64 a0, .int .i64 1, .int .i64 4] rfl (by (try simp only [List.map_toArray, List.map_cons, List.map_nil]); first | done | rfl | (simp only [List.length_drop, List.length_take]; rfl)) ?_; (with_reducible refine (filter_number.calls k a0 1 4 t359 _ A3.out).mono ?_); rintro e w7 ⟨rfl, hb⟩; refine ⟨_, rfl, ?_⟩; have n0_ := Aside0.mk (below_step (by repeat (first | (with_reducible first | exact HB.out | apply below_alloc | apply pw_below_drewN | apply below_drew1) | exact HB.out)) hb); clear HB; have HB := n0_; clear n0_; (try clear hb); (try clear hb2); (try clear hk); (try clear hi)) | ((with_reducible refine gate_callee (f := 70) rfl ?_); refine goesL_ (some 11) rfl rfl Tryz.func70 (by kernel_rfl) rfl #[.int .i64 a0, .int .i64 12, .int .i64 28] rfl (by (try simp only [List.map_toArray, List.map_cons, List.map_nil]); first | done | rfl | (simp only [List.length_drop, List.length_take]; rfl)) ?_; (with_reducible refine (filter_number.calls k a0 12 28 t360 _ A4.out).mono ?_); rintro e w8 ⟨rfl, hb⟩; refine ⟨_, rfl, ?_⟩; have n0_ := Aside0.mk (below_step (by repeat (first | (with_reducible first | exact HB.out | apply below_alloc | apply pw_below_drewN | apply below_drew1) | exact HB.out)) hb); clear HB; have HB := n0_; clear n0_; (try clear hb); (try clear hb2); (try clear hk); (try clear hi)) | ((with_reducible refine gate_callee (f := 39) rfl ?_); refine goesL_ (some 14) rfl rfl Tryz.func39 (by kernel_rfl) rfl #[.int .i64 t359] rfl (by (try simp only [List.map_toArray, List.map_cons, List.map_nil]); first | done | rfl | (simp only [List.length_drop, List.length_take]; rfl)) ?_; (with_reducible refine (civil_Weekday.calls t359 t361 _ A5.out).mono ?_); rintro e w' ⟨rfl, ⟨nd, rfl⟩⟩; refine ⟨_, rfl, ?_⟩) | ((with_reducible refine gate_callee (f := 39) rfl ?_); refine goesL_ (some 22) rfl rfl Tryz.func39 (by kernel_rfl) rfl #[.int .i64 t360] rfl (by (try simp only [List.map_toArray, List.map_cons, List.map_nil]); first | done | rfl | (simp only [List.length_drop, List.length_take]; rfl)) ?_; (with_reducible refine (civil_Weekday.calls t360 t362 _ A6.out).mono ?_); rintro e w' ⟨rfl, ⟨nd, rfl⟩⟩; refine ⟨_, rfl, ?_⟩))
  go_ret2
  exact ⟨by first | rfl | (simp [errW_none, errW_some] <;> rfl) | (simp [*, errW_none, errW_some] <;> rfl), by repeat (first | (with_reducible first | exact HB.out | apply below_alloc | apply pw_below_drewN | apply below_drew1) | exact HB.out)⟩

end Go.Proofs.YtfinhaghgmnegaaGreat.O
