-- What some functions of the program compute: a text of this claim's own (lines first written by the kit's tool, some proved anew).
import Derived.Test.YtlefnaoflajnmaaOx0
import Derived.Test.YtlefnaoflajnmaaOx25
import Derived.Test.YtlefnaoflajnmaaOx32
namespace Go.Proofs.Ytlefnaoflajnmaa.O
open Go.RowKit Go.Proofs.YtlefnaoflajnmaaW.PrintWords Go.Proofs.YtlefnaoflajnmaaW.PrintLast Go.Proofs.YtlefnaoflajnmaaW.PrintMore
attribute [local go_sem] max2_int min2_int max_two min_two max_three min_three max_four min_four   -- for this text's walks alone
set_option linter.unusedVariables false
set_option linter.unusedSimpArgs false

/-! ### solsticeref01_No: function 22 -/
def solsticeref01_No.f (k : Nat) (a0 : Int) (a1 : Int) : Option (Int × Int) := (solsticeref01_Date.f k a0).bind fun bt228 => ((solsticeref01_FirstWeek.f k bt228.1 a1).bind fun t231 => (if a0 < t231 then ((solsticeref01_FirstWeek.f k (wrap64 (bt228.1 - 1)) a1).bind fun t232 => (some (wrap64 (bt228.1 - 1), wrap64 ((wrap64 (Int.tdiv (wrap64 (a0 - t232)) 7)) + 1)))) else (if bt228.1 < 10000 then ((solsticeref01_FirstWeek.f k (wrap64 (bt228.1 + 1)) a1).bind fun t233 => (if a0 ≥ t233 then ((solsticeref01_FirstWeek.f k (wrap64 (bt228.1 + 1)) a1).bind fun t234 => (some (wrap64 (bt228.1 + 1), wrap64 ((wrap64 (Int.tdiv (wrap64 (a0 - t234)) 7)) + 1)))) else ((solsticeref01_FirstWeek.f k bt228.1 a1).bind fun t235 => (some (bt228.1, wrap64 ((wrap64 (Int.tdiv (wrap64 (a0 - t235)) 7)) + 1)))))) else ((solsticeref01_FirstWeek.f k bt228.1 a1).bind fun t236 => (some (bt228.1, wrap64 ((wrap64 (Int.tdiv (wrap64 (a0 - t236)) 7)) + 1)))))))
theorem solsticeref01_No.mono : ∀ a0 a1 k, LeO (solsticeref01_No.f k a0 a1) (solsticeref01_No.f (k + 1) a0 a1) := by
  intro a0 a1 k
  unfold solsticeref01_No.f
  repeat' first
      | (with_reducible exact solsticeref01_Date.mono _ _)
      | (with_reducible exact solsticeref01_FirstWeek.mono _ _ _)
      | (with_reducible exact LeO.refl _)
      | (with_reducible exact LeO.none _)
      | (with_reducible refine LeO.ite ?_ ?_)
      | (with_reducible refine LeO.bind ?_ (fun _ => ?_))
      | exact solsticeref01_Date.mono _ _
      | exact solsticeref01_FirstWeek.mono _ _ _
      | exact LeO.none _
      | refine LeO.ite ?_ ?_
      | refine LeO.bind ?_ (fun _ => ?_)
set_option maxHeartbeats 8000000 in
set_option maxRecDepth 100000 in
theorem solsticeref01_No.calls (k : Nat) (a0 : Int) (a1 : Int) (r1 : Int) (r2 : Int) (w : World) (h : solsticeref01_No.f k a0 a1 = some (r1, r2)) :
    Calls Try.prog 22 #[.int .i64 a0, .int .i64 a1] w fun e w' => e = .returned (.tuple #[.int .i64 r1, .int .i64 r2]) ∧ Below w.heap.size w w' := by
  have HB := Aside0.mk (Below.refl w.heap.size w)
  have H : ((solsticeref01_Date.f k a0).bind fun bt228 => ((solsticeref01_FirstWeek.f k bt228.1 a1).bind fun t231 => (if a0 < t231 then ((solsticeref01_FirstWeek.f k (wrap64 (bt228.1 - 1)) a1).bind fun t232 => (some (wrap64 (bt228.1 - 1), wrap64 ((wrap64 (Int.tdiv (wrap64 (a0 - t232)) 7)) + 1)))) else (if bt228.1 < 10000 then ((solsticeref01_FirstWeek.f k (wrap64 (bt228.1 + 1)) a1).bind fun t233 => (if a0 ≥ t233 then ((solsticeref01_FirstWeek.f k (wrap64 (bt228.1 + 1)) a1).bind fun t234 => (some (wrap64 (bt228.1 + 1), wrap64 ((wrap64 (Int.tdiv (wrap64 (a0 - t234)) 7)) + 1)))) else ((solsticeref01_FirstWeek.f k bt228.1 a1).bind fun t235 => (some (bt228.1, wrap64 ((wrap64 (Int.tdiv (wrap64 (a0 - t235)) 7)) + 1)))))) else ((solsticeref01_FirstWeek.f k bt228.1 a1).bind fun t236 => (some (bt228.1, wrap64 ((wrap64 (Int.tdiv (wrap64 (a0 - t236)) 7)) + 1)))))))) = some (r1, r2) := h
  clear h
  replace H := Option.bind_eq_some_iff.mp H
  obtain ⟨⟨t228, t229, t230⟩, A30, H⟩ := H
  replace H : ((solsticeref01_FirstWeek.f k t228 a1).bind fun t231 => (if a0 < t231 then ((solsticeref01_FirstWeek.f k (wrap64 (t228 - 1)) a1).bind fun t232 => (some (wrap64 (t228 - 1), wrap64 ((wrap64 (Int.tdiv (wrap64 (a0 - t232)) 7)) + 1)))) else (if t228 < 10000 then ((solsticeref01_FirstWeek.f k (wrap64 (t228 + 1)) a1).bind fun t233 => (if a0 ≥ t233 then ((solsticeref01_FirstWeek.f k (wrap64 (t228 + 1)) a1).bind fun t234 => (some (wrap64 (t228 + 1), wrap64 ((wrap64 (Int.tdiv (wrap64 (a0 - t234)) 7)) + 1)))) else ((solsticeref01_FirstWeek.f k t228 a1).bind fun t235 => (some (t228, wrap64 ((wrap64 (Int.tdiv (wrap64 (a0 - t235)) 7)) + 1)))))) else ((solsticeref01_FirstWeek.f k t228 a1).bind fun t236 => (some (t228, wrap64 ((wrap64 (Int.tdiv (wrap64 (a0 - t236)) 7)) + 1))))))) = some (r1, r2) := H
  have A3 := Aside0.mk A30
  clear A30
  replace H := Option.bind_eq_some_iff.mp H
  obtain ⟨t231, A40, H⟩ := H
  replace H : (if a0 < t231 then ((solsticeref01_FirstWeek.f k (wrap64 (t228 - 1)) a1).bind fun t232 => (some (wrap64 (t228 - 1), wrap64 ((wrap64 (Int.tdiv (wrap64 (a0 - t232)) 7)) + 1)))) else (if t228 < 10000 then ((solsticeref01_FirstWeek.f k (wrap64 (t228 + 1)) a1).bind fun t233 => (if a0 ≥ t233 then ((solsticeref01_FirstWeek.f k (wrap64 (t228 + 1)) a1).bind fun t234 => (some (wrap64 (t228 + 1), wrap64 ((wrap64 (Int.tdiv (wrap64 (a0 - t234)) 7)) + 1)))) else ((solsticeref01_FirstWeek.f k t228 a1).bind fun t235 => (some (t228, wrap64 ((wrap64 (Int.tdiv (wrap64 (a0 - t235)) 7)) + 1)))))) else ((solsticeref01_FirstWeek.f k t228 a1).bind fun t236 => (some (t228, wrap64 ((wrap64 (Int.tdiv (wrap64 (a0 - t236)) 7)) + 1)))))) = some (r1, r2) := H
  have A4 := Aside0.mk A40
  clear A40
  by_cases c5 : a0 < t231
  · rw [if_pos c5] at H
    have c5b0 : decide (a0 < t231) = true := decide_eq_true c5
    clear c5
    replace H := Option.bind_eq_some_iff.mp H
    obtain ⟨t232, A60, H⟩ := H
    replace H : (some (wrap64 (t228 - 1), wrap64 ((wrap64 (Int.tdiv (wrap64 (a0 - t232)) 7)) + 1))) = some (r1, r2) := H
    have A6 := Aside0.mk A60
    clear A60
    simp only [Option.some.injEq, Prod.mk.injEq] at H
    obtain ⟨rfl, rfl⟩ := H
    have hfd39_0 : ∀ (w : World) (x0 x1 x2 : Int), (Instr.field 39 (.agg #[.int .i64 x0, .int .i64 x1, .int .i64 x2]) 0).run Try.prog w = .ok (.int .i64 x0) w := fun _ _ _ _ => by kernel_rfl
    go_enter Try.func22, Try.ntmps22
    go_wp2_with (first | ((with_reducible refine gate_callee (f := 21) rfl ?_); refine goesL_ (some 8) rfl rfl Try.func21 (by kernel_rfl) rfl #[.int .i64 a0] rfl (by (try simp only [List.map_toArray, List.map_cons, List.map_nil]); first | done | rfl | (simp only [List.length_drop, List.length_take]; rfl)) ?_; (with_reducible refine (solsticeref01_Date.calls k a0 t228 t229 t230 _ A3.out).mono ?_); rintro e w7 ⟨rfl, hb⟩; refine ⟨_, rfl, ?_⟩; have n0_ := Aside0.mk (below_step (by repeat (first | (with_reducible first | exact HB.out | apply below_alloc | apply pw_below_drewN | apply below_drew1) | exact HB.out)) hb); clear HB; have HB := n0_; clear n0_; (try clear hb); (try clear hb2); (try clear hk); (try clear hi)) | ((with_reducible refine gate_callee (f := 38) rfl ?_); refine goesL_ (some 13) rfl rfl Try.func38 (by kernel_rfl) rfl #[.int .i64 t228, .int .i64 a1] rfl (by (try simp only [List.map_toArray, List.map_cons, List.map_nil]); first | done | rfl | (simp only [List.length_drop, List.length_take]; rfl)) ?_; (with_reducible refine (solsticeref01_FirstWeek.calls k t228 a1 t231 _ A4.out).mono ?_); rintro e w8 ⟨rfl, hb⟩; refine ⟨_, rfl, ?_⟩; have n0_ := Aside0.mk (below_step (by repeat (first | (with_reducible first | exact HB.out | apply below_alloc | apply pw_below_drewN | apply below_drew1) | exact HB.out)) hb); clear HB; have HB := n0_; clear n0_; (try clear hb); (try clear hb2); (try clear hk); (try clear hi)) | ((with_reducible refine gate_callee (f := 38) rfl ?_); refine goesL_ (some 33) rfl rfl Try.func38 (by kernel_rfl) rfl #[.int .i64 (wrap64 (t228 - 1)), .int .i64 a1] rfl (by (try simp only [List.map_toArray, List.map_cons, List.map_nil]); first | done | rfl | (simp only [List.length_drop, List.length_take]; rfl)) ?_; (with_reducible refine (solsticeref01_FirstWeek.calls k (wrap64 (t228 - 1)) a1 t232 _ A6.out).mono ?_); rintro e w9 ⟨rfl, hb⟩; refine ⟨_, rfl, ?_⟩; have n0_ := Aside0.mk (below_step (by repeat (first | (with_reducible first | exact HB.out | apply below_alloc | apply pw_below_drewN | apply below_drew1) | exact HB.out)) hb); clear HB; have HB := n0_; clear n0_; (try clear hb); (try clear hb2); (try clear hk); (try clear hi)))
    go_ret2
    exact ⟨by first | rfl | (simp [errW_none, errW_some] <;> rfl) | (simp only [i64_w]; done) | (simp only [i64_w]; rfl) | (simp [*, errW_none, errW_some] <;> rfl), by repeat (first | (with_reducible first | exact HB.out | apply below_alloc | apply pw_below_drewN | apply below_drew1) | exact HB.out)⟩
  · rw [if_neg c5] at H
    have c5b0 : decide (a0 < t231) = false := decide_eq_false c5
    clear c5
    by_cases c10 : t228 < 10000
    · rw [if_pos c10] at H
      have c10b0 : decide (t228 < 10000) = true := decide_eq_true c10
      clear c10
      replace H := Option.bind_eq_some_iff.mp H
      obtain ⟨t233, A110, H⟩ := H
      replace H : (if a0 ≥ t233 then ((solsticeref01_FirstWeek.f k (wrap64 (t228 + 1)) a1).bind fun t234 => (some (wrap64 (t228 + 1), wrap64 ((wrap64 (Int.tdiv (wrap64 (a0 - t234)) 7)) + 1)))) else ((solsticeref01_FirstWeek.f k t228 a1).bind fun t235 => (some (t228, wrap64 ((wrap64 (Int.tdiv (wrap64 (a0 - t235)) 7)) + 1))))) = some (r1, r2) := H
      have A11 := Aside0.mk A110
      clear A110
      by_cases c12 : a0 ≥ t233
      · rw [if_pos c12] at H
        have c12b0 : decide (t233 ≤ a0) = true := decide_eq_true c12
        clear c12
        replace H := Option.bind_eq_some_iff.mp H
        obtain ⟨t234, A130, H⟩ := H
        replace H : (some (wrap64 (t228 + 1), wrap64 ((wrap64 (Int.tdiv (wrap64 (a0 - t234)) 7)) + 1))) = some (r1, r2) := H
        have A13 := Aside0.mk A130
        clear A130
        simp only [Option.some.injEq, Prod.mk.injEq] at H
        obtain ⟨rfl, rfl⟩ := H
        have hfd39_0 : ∀ (w : World) (x0 x1 x2 : Int), (Instr.field 39 (.agg #[.int .i64 x0, .int .i64 x1, .int .i64 x2]) 0).run Try.prog w = .ok (.int .i64 x0) w := fun _ _ _ _ => by kernel_rfl
        go_enter Try.func22, Try.ntmps22
        go_wp2_with (first | ((with_reducible refine gate_callee (f := 21) rfl ?_); refine goesL_ (some 8) rfl rfl Try.func21 (by kernel_rfl) rfl #[.int .i64 a0] rfl (by (try simp only [List.map_toArray, List.map_cons, List.map_nil]); first | done | rfl | (simp only [List.length_drop, List.length_take]; rfl)) ?_; (with_reducible refine (solsticeref01_Date.calls k a0 t228 t229 t230 _ A3.out).mono ?_); rintro e w14 ⟨rfl, hb⟩; refine ⟨_, rfl, ?_⟩; have n0_ := Aside0.mk (below_step (by repeat (first | (with_reducible first | exact HB.out | apply below_alloc | apply pw_below_drewN | apply below_drew1) | exact HB.out)) hb); clear HB; have HB := n0_; clear n0_; (try clear hb); (try clear hb2); (try clear hk); (try clear hi)) | ((with_reducible refine gate_callee (f := 38) rfl ?_); refine goesL_ (some 13) rfl rfl Try.func38 (by kernel_rfl) rfl #[.int .i64 t228, .int .i64 a1] rfl (by (try simp only [List.map_toArray, List.map_cons, List.map_nil]); first | done | rfl | (simp only [List.length_drop, List.length_take]; rfl)) ?_; (with_reducible refine (solsticeref01_FirstWeek.calls k t228 a1 t231 _ A4.out).mono ?_); rintro e w15 ⟨rfl, hb⟩; refine ⟨_, rfl, ?_⟩; have n0_ := Aside0.mk (below_step (by repeat (first | (with_reducible first | exact HB.out | apply below_alloc | apply pw_below_drewN | apply below_drew1) | exact HB.out)) hb); clear HB; have HB := n0_; clear n0_; (try clear hb); (try clear hb2); (try clear hk); (try clear hi)) | (go_at_call 38; (with_reducible refine (solsticeref01_FirstWeek.calls k (wrap64 (t228 + 1)) a1 t233 _ A11.out).mono ?_); rintro e w16 ⟨rfl, hb⟩; have n0_ := Aside0.mk (below_step (by repeat (first | (with_reducible first | exact HB.out | apply below_alloc | apply pw_below_drewN | apply below_drew1) | exact HB.out)) hb); clear HB; have HB := n0_; clear n0_; (try clear hb); (try clear hb2); (try clear hk); (try clear hi)) | ((with_reducible refine gate_callee (f := 38) rfl ?_); refine goesL_ (some 33) rfl rfl Try.func38 (by kernel_rfl) rfl #[.int .i64 (wrap64 (t228 + 1)), .int .i64 a1] rfl (by (try simp only [List.map_toArray, List.map_cons, List.map_nil]); first | done | rfl | (simp only [List.length_drop, List.length_take]; rfl)) ?_; (with_reducible refine (solsticeref01_FirstWeek.calls k (wrap64 (t228 + 1)) a1 t234 _ A13.out).mono ?_); rintro e w17 ⟨rfl, hb⟩; refine ⟨_, rfl, ?_⟩; have n0_ := Aside0.mk (below_step (by repeat (first | (with_reducible first | exact HB.out | apply below_alloc | apply pw_below_drewN | apply below_drew1) | exact HB.out)) hb); clear HB; have HB := n0_; clear n0_; (try clear hb); (try clear hb2); (try clear hk); (try clear hi)))
        go_ret2
        exact ⟨by first | rfl | (simp [errW_none, errW_some] <;> rfl) | (simp only [i64_w]; done) | (simp only [i64_w]; rfl) | (simp [*, errW_none, errW_some] <;> rfl), by repeat (first | (with_reducible first | exact HB.out | apply below_alloc | apply pw_below_drewN | apply below_drew1) | exact HB.out)⟩
      · rw [if_neg c12] at H
        have c12b0 : decide (t233 ≤ a0) = false := decide_eq_false c12
        clear c12
        replace H := Option.bind_eq_some_iff.mp H
        obtain ⟨t235, A180, H⟩ := H
        replace H : (some (t228, wrap64 ((wrap64 (Int.tdiv (wrap64 (a0 - t235)) 7)) + 1))) = some (r1, r2) := H
        have A18 := Aside0.mk A180
        clear A180
        simp only [Option.some.injEq, Prod.mk.injEq] at H
        obtain ⟨rfl, rfl⟩ := H
        have hfd39_0 : ∀ (w : World) (x0 x1 x2 : Int), (Instr.field 39 (.agg #[.int .i64 x0, .int .i64 x1, .int .i64 x2]) 0).run Try.prog w = .ok (.int .i64 x0) w := fun _ _ _ _ => by kernel_rfl
        go_enter Try.func22, Try.ntmps22
        go_wp2_with (first | ((with_reducible refine gate_callee (f := 21) rfl ?_); refine goesL_ (some 8) rfl rfl Try.func21 (by kernel_rfl) rfl #[.int .i64 a0] rfl (by (try simp only [List.map_toArray, List.map_cons, List.map_nil]); first | done | rfl | (simp only [List.length_drop, List.length_take]; rfl)) ?_; (with_reducible refine (solsticeref01_Date.calls k a0 t228 t229 t230 _ A3.out).mono ?_); rintro e w19 ⟨rfl, hb⟩; refine ⟨_, rfl, ?_⟩; have n0_ := Aside0.mk (below_step (by repeat (first | (with_reducible first | exact HB.out | apply below_alloc | apply pw_below_drewN | apply below_drew1) | exact HB.out)) hb); clear HB; have HB := n0_; clear n0_; (try clear hb); (try clear hb2); (try clear hk); (try clear hi)) | ((with_reducible refine gate_callee (f := 38) rfl ?_); refine goesL_ (some 13) rfl rfl Try.func38 (by kernel_rfl) rfl #[.int .i64 t228, .int .i64 a1] rfl (by (try simp only [List.map_toArray, List.map_cons, List.map_nil]); first | done | rfl | (simp only [List.length_drop, List.length_take]; rfl)) ?_; (with_reducible refine (solsticeref01_FirstWeek.calls k t228 a1 t231 _ A4.out).mono ?_); rintro e w20 ⟨rfl, hb⟩; refine ⟨_, rfl, ?_⟩; have n0_ := Aside0.mk (below_step (by repeat (first | (with_reducible first | exact HB.out | apply below_alloc | apply pw_below_drewN | apply below_drew1) | exact HB.out)) hb); clear HB; have HB := n0_; clear n0_; (try clear hb); (try clear hb2); (try clear hk); (try clear hi)) | (go_at_call 38; (with_reducible refine (solsticeref01_FirstWeek.calls k (wrap64 (t228 + 1)) a1 t233 _ A11.out).mono ?_); rintro e w21 ⟨rfl, hb⟩; have n0_ := Aside0.mk (below_step (by repeat (first | (with_reducible first | exact HB.out | apply below_alloc | apply pw_below_drewN | apply below_drew1) | exact HB.out)) hb); clear HB; have HB := n0_; clear n0_; (try clear hb); (try clear hb2); (try clear hk); (try clear hi)) | ((with_reducible refine gate_callee (f := 38) rfl ?_); refine goesL_ (some 33) rfl rfl Try.func38 (by kernel_rfl) rfl #[.int .i64 t228, .int .i64 a1] rfl (by (try simp only [List.map_toArray, List.map_cons, List.map_nil]); first | done | rfl | (simp only [List.length_drop, List.length_take]; rfl)) ?_; (with_reducible refine (solsticeref01_FirstWeek.calls k t228 a1 t235 _ A18.out).mono ?_); rintro e w22 ⟨rfl, hb⟩; refine ⟨_, rfl, ?_⟩; have n0_ := Aside0.mk (below_step (by repeat (first | (with_reducible first | exact HB.out | apply below_alloc | apply pw_below_drewN | apply below_drew1) | exact HB.out)) hb); clear HB; have HB := n0_; clear n0_; (try clear hb); (try clear hb2); (try clear hk); (try clear hi)))
        go_ret2
        exact ⟨by first | rfl | (simp [errW_none, errW_some] <;> rfl) | (simp only [i64_w]; done) | (simp only [i64_w]; rfl) | (simp [*, errW_none, errW_some] <;> rfl), by repeat (first | (with_reducible first | exact HB.out | apply below_alloc | apply pw_below_drewN | apply below_drew1) | exact HB.out)⟩
    · rw [if_neg c10] at H
      have c10b0 : decide (t228 < 10000) = false := decide_eq_false c10
      clear c10
      replace H := Option.bind_eq_some_iff.mp H
      obtain ⟨t236, A230, H⟩ := H
      replace H : (some (t228, wrap64 ((wrap64 (Int.tdiv (wrap64 (a0 - t236)) 7)) + 1))) = some (r1, r2) := H
      have A23 := Aside0.mk A230
      clear A230
      simp only [Option.some.injEq, Prod.mk.injEq] at H
      obtain ⟨rfl, rfl⟩ := H
      have hfd39_0 : ∀ (w : World) (x0 x1 x2 : Int), (Instr.field 39 (.agg #[.int .i64 x0, .int .i64 x1, .int .i64 x2]) 0).run Try.prog w = .ok (.int .i64 x0) w := fun _ _ _ _ => by kernel_rfl
      go_enter Try.func22, Try.ntmps22
      go_wp2_with (first | ((with_reducible refine gate_callee (f := 21) rfl ?_); refine goesL_ (some 8) rfl rfl Try.func21 (by kernel_rfl) rfl #[.int .i64 a0] rfl (by (try simp only [List.map_toArray, List.map_cons, List.map_nil]); first | done | rfl | (simp only [List.length_drop, List.length_take]; rfl)) ?_; (with_reducible refine (solsticeref01_Date.calls k a0 t228 t229 t230 _ A3.out).mono ?_); rintro e w24 ⟨rfl, hb⟩; refine ⟨_, rfl, ?_⟩; have n0_ := Aside0.mk (below_step (by repeat (first | (with_reducible first | exact HB.out | apply below_alloc | apply pw_below_drewN | apply below_drew1) | exact HB.out)) hb); clear HB; have HB := n0_; clear n0_; (try clear hb); (try clear hb2); (try clear hk); (try clear hi)) | ((with_reducible refine gate_callee (f := 38) rfl ?_); refine goesL_ (some 13) rfl rfl Try.func38 (by kernel_rfl) rfl #[.int .i64 t228, .int .i64 a1] rfl (by (try simp only [List.map_toArray, List.map_cons, List.map_nil]); first | done | rfl | (simp only [List.length_drop, List.length_take]; rfl)) ?_; (with_reducible refine (solsticeref01_FirstWeek.calls k t228 a1 t231 _ A4.out).mono ?_); rintro e w25 ⟨rfl, hb⟩; refine ⟨_, rfl, ?_⟩; have n0_ := Aside0.mk (below_step (by repeat (first | (with_reducible first | exact HB.out | apply below_alloc | apply pw_below_drewN | apply below_drew1) | exact HB.out)) hb); clear HB; have HB := n0_; clear n0_; (try clear hb); (try clear hb2); (try clear hk); (try clear hi)) | ((with_reducible refine gate_callee (f := 38) rfl ?_); refine goesL_ (some 33) rfl rfl Try.func38 (by kernel_rfl) rfl #[.int .i64 t228, .int .i64 a1] rfl (by (try simp only [List.map_toArray, List.map_cons, List.map_nil]); first | done | rfl | (simp only [List.length_drop, List.length_take]; rfl)) ?_; (with_reducible refine (solsticeref01_FirstWeek.calls k t228 a1 t236 _ A23.out).mono ?_); rintro e w26 ⟨rfl, hb⟩; refine ⟨_, rfl, ?_⟩; have n0_ := Aside0.mk (below_step (by repeat (first | (with_reducible first | exact HB.out | apply below_alloc | apply pw_below_drewN | apply below_drew1) | exact HB.out)) hb); clear HB; have HB := n0_; clear n0_; (try clear hb); (try clear hb2); (try clear hk); (try clear hi)))
      go_ret2
      exact ⟨by first | rfl | (simp [errW_none, errW_some] <;> rfl) | (simp only [i64_w]; done) | (simp only [i64_w]; rfl) | (simp [*, errW_none, errW_some] <;> rfl), by repeat (first | (with_reducible first | exact HB.out | apply below_alloc | apply pw_below_drewN | apply below_drew1) | exact HB.out)⟩

end Go.Proofs.Ytlefnaoflajnmaa.O
