-- What some functions of the program compute: a text of this claim's own (lines first written by the kit's tool, some proved anew).
import Derived.Test.YtlefnaoflajnmaaOx0
import Derived.Test.YtlefnaoflajnmaaOx25
namespace Go.Proofs.Ytlefnaoflajnmaa.O
section
open Go.RowKit Go.Proofs.YtlefnaoflajnmaaW.PrintWords Go.Proofs.YtlefnaoflajnmaaW.PrintLast Go.Proofs.YtlefnaoflajnmaaW.PrintMore
attribute [local go_sem] max2_int min2_int max_two min_two max_three min_three max_four min_four   -- for this text's walks alone
set_option linter.unusedVariables false
set_option linter.unusedSimpArgs false

/-! ### solsticeref01_nth: function 35 -/
def solsticeref01_nth.f (a0 : Int) (a1 : Int) (a2 : Int) (a3 : Int) : Option (Int × Bool) := if a1 > a3 then (some (0, false)) else (if (wrap64 (a2 - 1)) > (wrap64 (Int.tdiv (wrap64 (a3 - a1)) 7)) then (some (0, false)) else (some (wrap64 ((wrap64 (a0 + a1)) + (wrap64 (7 * (wrap64 (a2 - 1))))), true)))
set_option maxHeartbeats 8000000 in
set_option maxRecDepth 100000 in
theorem solsticeref01_nth.calls (a0 : Int) (a1 : Int) (a2 : Int) (a3 : Int) (r1 : Int) (r2 : Bool) (w : World) (h : solsticeref01_nth.f a0 a1 a2 a3 = some (r1, r2)) :
    Calls Try.prog 35 #[.int .i64 a0, .int .i64 a1, .int .i64 a2, .int .i64 a3] w fun e w' => e = .returned (.tuple #[.int .i64 r1, .bool r2]) ∧ Drawn0 w w' := by
  have H : (if a1 > a3 then (some (0, false)) else (if (wrap64 (a2 - 1)) > (wrap64 (Int.tdiv (wrap64 (a3 - a1)) 7)) then (some (0, false)) else (some (wrap64 ((wrap64 (a0 + a1)) + (wrap64 (7 * (wrap64 (a2 - 1))))), true)))) = some (r1, r2) := h
  clear h
  by_cases c5 : a1 > a3
  · rw [if_pos c5] at H
    have c5b0 : decide (a3 < a1) = true := decide_eq_true c5
    clear c5
    simp only [Option.some.injEq, Prod.mk.injEq] at H
    obtain ⟨rfl, rfl⟩ := H
    go_enter Try.func35, Try.ntmps35
    go_wp2
    go_ret2
    exact ⟨by first | rfl | (simp; done) | (simp [*]; done), by repeat (first | exact Drawn0.refl _ | apply Drawn0.step)⟩
  · rw [if_neg c5] at H
    have c5b0 : decide (a3 < a1) = false := decide_eq_false c5
    clear c5
    by_cases c6 : (wrap64 (a2 - 1)) > (wrap64 (Int.tdiv (wrap64 (a3 - a1)) 7))
    · rw [if_pos c6] at H
      have c6b0 : decide ((wrap64 (Int.tdiv (wrap64 (a3 - a1)) 7)) < (wrap64 (a2 - 1))) = true := decide_eq_true c6
      clear c6
      simp only [Option.some.injEq, Prod.mk.injEq] at H
      obtain ⟨rfl, rfl⟩ := H
      go_enter Try.func35, Try.ntmps35
      go_wp2
      go_ret2
      exact ⟨by first | rfl | (simp; done) | (simp [*]; done), by repeat (first | exact Drawn0.refl _ | apply Drawn0.step)⟩
    · rw [if_neg c6] at H
      have c6b0 : decide ((wrap64 (Int.tdiv (wrap64 (a3 - a1)) 7)) < (wrap64 (a2 - 1))) = false := decide_eq_false c6
      clear c6
      simp only [Option.some.injEq, Prod.mk.injEq] at H
      obtain ⟨rfl, rfl⟩ := H
      go_enter Try.func35, Try.ntmps35
      go_wp2
      go_ret2
      exact ⟨by first | rfl | (simp; done) | (simp [*]; done), by repeat (first | exact Drawn0.refl _ | apply Drawn0.step)⟩

end
section
open Go.RowKit Go.Proofs.YtlefnaoflajnmaaW.PrintWords Go.Proofs.YtlefnaoflajnmaaW.PrintLast Go.Proofs.YtlefnaoflajnmaaW.PrintMore
attribute [local go_sem] max2_int min2_int max_two min_two max_three min_three max_four min_four   -- for this text's walks alone
set_option linter.unusedVariables false
set_option linter.unusedSimpArgs false

/-! ### solsticeref01_Nth: function 15 -/
def solsticeref01_Nth.j0 : Nat → Int → Int → Int → Int → Bool → Option (Int × Bool)
  | 0, _, _, _, _, _ => none
  | k + 1, x0, x1, x2, x3, x31 => if x31 = true then (some (0, false)) else (if x2 > 0 then ((solsticeref01_Weekday.f x0).bind fun t173 => ((solsticeref01_Div.f (wrap64 (x3 - t173)) 7).bind fun bt174 => (if (wrap64 (x1 - x0)) < 0 then ((solsticeref01_nth.f x0 bt174.2 x2 4611686018427387904).bind fun bt176 => (some (bt176.1, bt176.2))) else ((solsticeref01_nth.f x0 bt174.2 x2 (wrap64 (x1 - x0))).bind fun bt178 => (some (bt178.1, bt178.2)))))) else ((solsticeref01_Weekday.f x1).bind fun t180 => ((solsticeref01_Div.f (wrap64 (t180 - x3)) 7).bind fun bt181 => (if (wrap64 (x1 - x0)) < 0 then (if bt181.2 > 4611686018427387904 then (some (0, false)) else (if (wrap64 ((wrap64 (-x2)) - 1)) > (wrap64 (Int.tdiv (wrap64 (4611686018427387904 - bt181.2)) 7)) then (some (0, false)) else (some (wrap64 ((wrap64 (x1 - bt181.2)) - (wrap64 (7 * (wrap64 ((wrap64 (-x2)) - 1))))), true)))) else (if bt181.2 > (wrap64 (x1 - x0)) then (some (0, false)) else (if (wrap64 ((wrap64 (-x2)) - 1)) > (wrap64 (Int.tdiv (wrap64 ((wrap64 (x1 - x0)) - bt181.2)) 7)) then (some (0, false)) else (some (wrap64 ((wrap64 (x1 - bt181.2)) - (wrap64 (7 * (wrap64 ((wrap64 (-x2)) - 1))))), true))))))))
def solsticeref01_Nth.f (k : Nat) (a0 : Int) (a1 : Int) (a2 : Int) (a3 : Int) : Option (Int × Bool) := (solsticeref01_In.f a3 0 6).bind fun t171 => (if t171 = true then (if a2 = 0 then (solsticeref01_Nth.j0 k a0 a1 a2 a3 true) else ((solsticeref01_In.f a2 (-1000) 1000).bind fun t172 => (if t172 = true then (solsticeref01_Nth.j0 k a0 a1 a2 a3 (decide (a0 > a1))) else (solsticeref01_Nth.j0 k a0 a1 a2 a3 true)))) else (solsticeref01_Nth.j0 k a0 a1 a2 a3 true))
theorem solsticeref01_Nth.mono_l : ∀ k, (∀ y0 y1 y2 y3 y4, LeO (solsticeref01_Nth.j0 k y0 y1 y2 y3 y4) (solsticeref01_Nth.j0 (k + 1) y0 y1 y2 y3 y4))
  | 0 => fun _ _ _ _ _ r h => by simp [solsticeref01_Nth.j0] at h
  | k + 1 => by
    have ih0 := solsticeref01_Nth.mono_l k
    · intro y0 y1 y2 y3 y4
      unfold solsticeref01_Nth.j0
      repeat' first
      | (with_reducible exact ih0 _ _ _ _ _)
      | (with_reducible exact LeO.refl _)
      | (with_reducible exact LeO.none _)
      | (with_reducible refine LeO.ite ?_ ?_)
      | (with_reducible refine LeO.bind ?_ (fun _ => ?_))
      | exact ih0 _ _ _ _ _
      | exact LeO.none _
      | refine LeO.ite ?_ ?_
      | refine LeO.bind ?_ (fun _ => ?_)
theorem solsticeref01_Nth.mono : ∀ a0 a1 a2 a3 k, LeO (solsticeref01_Nth.f k a0 a1 a2 a3) (solsticeref01_Nth.f (k + 1) a0 a1 a2 a3) := by
  intro a0 a1 a2 a3 k
  have ih0 := solsticeref01_Nth.mono_l k
  unfold solsticeref01_Nth.f
  repeat' first
      | (with_reducible exact ih0 _ _ _ _ _)
      | (with_reducible exact LeO.refl _)
      | (with_reducible exact LeO.none _)
      | (with_reducible refine LeO.ite ?_ ?_)
      | (with_reducible refine LeO.bind ?_ (fun _ => ?_))
      | exact ih0 _ _ _ _ _
      | exact LeO.none _
      | refine LeO.ite ?_ ?_
      | refine LeO.bind ?_ (fun _ => ?_)
set_option maxHeartbeats 8000000 in
set_option maxRecDepth 100000 in
theorem solsticeref01_Nth.calls (k : Nat) (a0 : Int) (a1 : Int) (a2 : Int) (a3 : Int) (r1 : Int) (r2 : Bool) (w : World) (h : solsticeref01_Nth.f k a0 a1 a2 a3 = some (r1, r2)) :
    Calls Try.prog 15 #[.int .i64 a0, .int .i64 a1, .int .i64 a2, .int .i64 a3] w fun e w' => e = .returned (.tuple #[.int .i64 r1, .bool r2]) ∧ Drawn0 w w' := by
  have H : ((solsticeref01_In.f a3 0 6).bind fun t171 => (if t171 = true then (if a2 = 0 then (solsticeref01_Nth.j0 k a0 a1 a2 a3 true) else ((solsticeref01_In.f a2 (-1000) 1000).bind fun t172 => (if t172 = true then (solsticeref01_Nth.j0 k a0 a1 a2 a3 (decide (a0 > a1))) else (solsticeref01_Nth.j0 k a0 a1 a2 a3 true)))) else (solsticeref01_Nth.j0 k a0 a1 a2 a3 true))) = some (r1, r2) := h
  clear h
  have HC5 := Aside0.mk H
  clear H
  go_enter Try.func15, Try.ntmps15
  go_upto_region 1 with (fail)
  go_cut [31] (fun v31 wc => ∃ (kq : Nat) (x31_4 : Bool), v31 = .bool x31_4 ∧ Aside0 (solsticeref01_Nth.j0 kq a0 a1 a2 a3 x31_4 = some (r1, r2)) ∧ Aside0 (kq ≤ k) ∧ Drawn0 w wc)
  case first =>
    have H := HC5.out
    clear HC5
    replace H := Option.bind_eq_some_iff.mp H
    obtain ⟨t171, A60, H⟩ := H
    replace H : (if t171 = true then (if a2 = 0 then (solsticeref01_Nth.j0 k a0 a1 a2 a3 true) else ((solsticeref01_In.f a2 (-1000) 1000).bind fun t172 => (if t172 = true then (solsticeref01_Nth.j0 k a0 a1 a2 a3 (decide (a0 > a1))) else (solsticeref01_Nth.j0 k a0 a1 a2 a3 true)))) else (solsticeref01_Nth.j0 k a0 a1 a2 a3 true)) = some (r1, r2) := H
    have A6 := Aside0.mk A60
    clear A60
    by_cases c7 : t171 = true
    · subst c7
      have H1 : (if a2 = 0 then (solsticeref01_Nth.j0 k a0 a1 a2 a3 true) else ((solsticeref01_In.f a2 (-1000) 1000).bind fun t172 => (if t172 = true then (solsticeref01_Nth.j0 k a0 a1 a2 a3 (decide (a0 > a1))) else (solsticeref01_Nth.j0 k a0 a1 a2 a3 true)))) = some (r1, r2) := by rw [if_pos rfl] at H; exact H
      clear H
      have H := H1
      clear H1
      by_cases c8 : a2 = 0
      · rw [if_pos c8] at H
        have c8b0 : (a2 == 0) = true := beq_iff_eq.mpr c8
        have c8b1 : (a2 != 0) = false := bne_eq_false_iff_eq.mpr c8
        clear c8
        (first | rw [c8b0] | (simp only [i64_w, i32_w]; rw [c8b0]) | skip)
        have H' := Aside0.mk H
        clear H
        go_wp2_with (first | ((with_reducible refine gate_callee (f := 32) rfl ?_); refine goesL_ (some 16) rfl rfl Try.func32 (by kernel_rfl) rfl #[.int .i64 a3, .int .i64 0, .int .i64 6] rfl (by (try simp only [List.map_toArray, List.map_cons, List.map_nil]); first | done | rfl | (simp only [List.length_drop, List.length_take]; rfl)) ?_; (with_reducible refine (solsticeref01_In.calls a3 0 6 true _ A6.out).mono ?_); rintro e w' ⟨rfl, ⟨nd, rfl⟩⟩; refine ⟨_, rfl, ?_⟩))
        go_meet
        case rel => exact ⟨_, (true), (by first | rfl | (simp; done) | (simp [*]; done)), H', ⟨by first | omega | exact Nat.le_refl _⟩, by repeat (first | exact Drawn0.refl _ | apply Drawn0.step)⟩
      · rw [if_neg c8] at H
        have c8b0 : (a2 == 0) = false := beq_eq_false_iff_ne.mpr c8
        have c8b1 : (a2 != 0) = true := bne_iff_ne.mpr c8
        (first | rw [c8b0] | (simp only [i64_w, i32_w]; rw [c8b0]) | skip)
        replace H := Option.bind_eq_some_iff.mp H
        obtain ⟨t172, A90, H⟩ := H
        replace H : (if t172 = true then (solsticeref01_Nth.j0 k a0 a1 a2 a3 (decide (a0 > a1))) else (solsticeref01_Nth.j0 k a0 a1 a2 a3 true)) = some (r1, r2) := H
        have A9 := Aside0.mk A90
        clear A90
        by_cases c10 : t172 = true
        · subst c10
          have H1 : (solsticeref01_Nth.j0 k a0 a1 a2 a3 (decide (a0 > a1))) = some (r1, r2) := by rw [if_pos rfl] at H; exact H
          clear H
          have H := H1
          clear H1
          have H' := Aside0.mk H
          clear H
          go_wp2_with (first | ((with_reducible refine gate_callee (f := 32) rfl ?_); refine goesL_ (some 16) rfl rfl Try.func32 (by kernel_rfl) rfl #[.int .i64 a3, .int .i64 0, .int .i64 6] rfl (by (try simp only [List.map_toArray, List.map_cons, List.map_nil]); first | done | rfl | (simp only [List.length_drop, List.length_take]; rfl)) ?_; (with_reducible refine (solsticeref01_In.calls a3 0 6 true _ A6.out).mono ?_); rintro e w' ⟨rfl, ⟨nd, rfl⟩⟩; refine ⟨_, rfl, ?_⟩) | (go_at_call 32; (with_reducible refine (solsticeref01_In.calls a2 (-1000) 1000 true _ A9.out).mono ?_); rintro e w' ⟨rfl, ⟨nd, rfl⟩⟩))
          go_meet
          case rel => exact ⟨_, (decide (a0 > a1)), (by first | rfl | (simp; done) | (simp [*]; done)), H', ⟨by first | omega | exact Nat.le_refl _⟩, by repeat (first | exact Drawn0.refl _ | apply Drawn0.step)⟩
        · replace c10 := Bool.eq_false_iff.mpr c10
          subst c10
          have H1 : (solsticeref01_Nth.j0 k a0 a1 a2 a3 true) = some (r1, r2) := by rw [if_neg (show ¬ (false = true) by decide)] at H; exact H
          clear H
          have H := H1
          clear H1
          have H' := Aside0.mk H
          clear H
          go_wp2_with (first | ((with_reducible refine gate_callee (f := 32) rfl ?_); refine goesL_ (some 16) rfl rfl Try.func32 (by kernel_rfl) rfl #[.int .i64 a3, .int .i64 0, .int .i64 6] rfl (by (try simp only [List.map_toArray, List.map_cons, List.map_nil]); first | done | rfl | (simp only [List.length_drop, List.length_take]; rfl)) ?_; (with_reducible refine (solsticeref01_In.calls a3 0 6 true _ A6.out).mono ?_); rintro e w' ⟨rfl, ⟨nd, rfl⟩⟩; refine ⟨_, rfl, ?_⟩) | (go_at_call 32; (with_reducible refine (solsticeref01_In.calls a2 (-1000) 1000 false _ A9.out).mono ?_); rintro e w' ⟨rfl, ⟨nd, rfl⟩⟩))
          go_meet
          case rel => exact ⟨_, (true), (by first | rfl | (simp; done) | (simp [*]; done)), H', ⟨by first | omega | exact Nat.le_refl _⟩, by repeat (first | exact Drawn0.refl _ | apply Drawn0.step)⟩
    · replace c7 := Bool.eq_false_iff.mpr c7
      subst c7
      have H1 : (solsticeref01_Nth.j0 k a0 a1 a2 a3 true) = some (r1, r2) := by rw [if_neg (show ¬ (false = true) by decide)] at H; exact H
      clear H
      have H := H1
      clear H1
      have H' := Aside0.mk H
      clear H
      go_wp2_with (first | ((with_reducible refine gate_callee (f := 32) rfl ?_); refine goesL_ (some 16) rfl rfl Try.func32 (by kernel_rfl) rfl #[.int .i64 a3, .int .i64 0, .int .i64 6] rfl (by (try simp only [List.map_toArray, List.map_cons, List.map_nil]); first | done | rfl | (simp only [List.length_drop, List.length_take]; rfl)) ?_; (with_reducible refine (solsticeref01_In.calls a3 0 6 false _ A6.out).mono ?_); rintro e w' ⟨rfl, ⟨nd, rfl⟩⟩; refine ⟨_, rfl, ?_⟩))
      go_meet
      case rel => exact ⟨_, (true), (by first | rfl | (simp; done) | (simp [*]; done)), H', ⟨by first | omega | exact Nat.le_refl _⟩, by repeat (first | exact Drawn0.refl _ | apply Drawn0.step)⟩
  case rest =>
    clear HC5
    try clear c1
    try clear p2
    try clear c3
    try clear c7
    try clear c8
    try clear c8b0
    try clear c8b1
    try clear c10
    obtain ⟨kq, x31_4, rfl, HA, HJ4, ⟨mc4, rfl⟩⟩ := hcut
    cases kq with
    | zero => exact absurd HA.out (by simp [solsticeref01_Nth.j0])
    | succ kj4 =>
      have H := HA.out
      clear HA
      simp only [solsticeref01_Nth.j0] at H
      by_cases c11 : x31_4 = true
      · subst c11
        have H1 : (some (0, false)) = some (r1, r2) := by rw [if_pos rfl] at H; exact H
        clear H
        have H := H1
        clear H1
        simp only [Option.some.injEq, Prod.mk.injEq] at H
        obtain ⟨rfl, rfl⟩ := H
        go_wp2
        go_ret2
        exact ⟨by first | rfl | (simp; done) | (simp [*]; done), by repeat (first | exact Drawn0.refl _ | apply Drawn0.step)⟩
      · replace c11 := Bool.eq_false_iff.mpr c11
        subst c11
        have H1 : (if a2 > 0 then ((solsticeref01_Weekday.f a0).bind fun t173 => ((solsticeref01_Div.f (wrap64 (a3 - t173)) 7).bind fun bt174 => (if (wrap64 (a1 - a0)) < 0 then ((solsticeref01_nth.f a0 bt174.2 a2 4611686018427387904).bind fun bt176 => (some (bt176.1, bt176.2))) else ((solsticeref01_nth.f a0 bt174.2 a2 (wrap64 (a1 - a0))).bind fun bt178 => (some (bt178.1, bt178.2)))))) else ((solsticeref01_Weekday.f a1).bind fun t180 => ((solsticeref01_Div.f (wrap64 (t180 - a3)) 7).bind fun bt181 => (if (wrap64 (a1 - a0)) < 0 then (if bt181.2 > 4611686018427387904 then (some (0, false)) else (if (wrap64 ((wrap64 (-a2)) - 1)) > (wrap64 (Int.tdiv (wrap64 (4611686018427387904 - bt181.2)) 7)) then (some (0, false)) else (some (wrap64 ((wrap64 (a1 - bt181.2)) - (wrap64 (7 * (wrap64 ((wrap64 (-a2)) - 1))))), true)))) else (if bt181.2 > (wrap64 (a1 - a0)) then (some (0, false)) else (if (wrap64 ((wrap64 (-a2)) - 1)) > (wrap64 (Int.tdiv (wrap64 ((wrap64 (a1 - a0)) - bt181.2)) 7)) then (some (0, false)) else (some (wrap64 ((wrap64 (a1 - bt181.2)) - (wrap64 (7 * (wrap64 ((wrap64 (-a2)) - 1))))), true)))))))) = some (r1, r2) := by rw [if_neg (show ¬ (false = true) by decide)] at H; exact H
        clear H
        have H := H1
        clear H1
        by_cases c12 : a2 > 0
        · rw [if_pos c12] at H
          have c12b0 : decide (0 < a2) = true := decide_eq_true c12
          clear c12
          replace H := Option.bind_eq_some_iff.mp H
          obtain ⟨t173, A130, H⟩ := H
          replace H : ((solsticeref01_Div.f (wrap64 (a3 - t173)) 7).bind fun bt174 => (if (wrap64 (a1 - a0)) < 0 then ((solsticeref01_nth.f a0 bt174.2 a2 4611686018427387904).bind fun bt176 => (some (bt176.1, bt176.2))) else ((solsticeref01_nth.f a0 bt174.2 a2 (wrap64 (a1 - a0))).bind fun bt178 => (some (bt178.1, bt178.2))))) = some (r1, r2) := H
          have A13 := Aside0.mk A130
          clear A130
          replace H := Option.bind_eq_some_iff.mp H
          obtain ⟨⟨t174, t175⟩, A140, H⟩ := H
          replace H : (if (wrap64 (a1 - a0)) < 0 then ((solsticeref01_nth.f a0 t175 a2 4611686018427387904).bind fun bt176 => (some (bt176.1, bt176.2))) else ((solsticeref01_nth.f a0 t175 a2 (wrap64 (a1 - a0))).bind fun bt178 => (some (bt178.1, bt178.2)))) = some (r1, r2) := H
          have A14 := Aside0.mk A140
          clear A140
          by_cases c15 : (wrap64 (a1 - a0)) < 0
          · rw [if_pos c15] at H
            have c15b0 : decide ((wrap64 (a1 - a0)) < 0) = true := decide_eq_true c15
            clear c15
            replace H := Option.bind_eq_some_iff.mp H
            obtain ⟨⟨t176, t177⟩, A160, H⟩ := H
            replace H : (some (t176, t177)) = some (r1, r2) := H
            have A16 := Aside0.mk A160
            clear A160
            simp only [Option.some.injEq, Prod.mk.injEq] at H
            obtain ⟨rfl, rfl⟩ := H
            go_wp2_with (first | ((with_reducible refine gate_callee (f := 34) rfl ?_); refine goesL_ (some 37) rfl rfl Try.func34 (by kernel_rfl) rfl #[.int .i64 a0] rfl (by (try simp only [List.map_toArray, List.map_cons, List.map_nil]); first | done | rfl | (simp only [List.length_drop, List.length_take]; rfl)) ?_; (with_reducible refine (solsticeref01_Weekday.calls a0 t173 _ A13.out).mono ?_); rintro e w' ⟨rfl, ⟨nd, rfl⟩⟩; refine ⟨_, rfl, ?_⟩) | ((with_reducible refine gate_callee (f := 33) rfl ?_); refine goesL_ (some 39) rfl rfl Try.func33 (by kernel_rfl) rfl #[.int .i64 (wrap64 (a3 - t173)), .int .i64 7] rfl (by (try simp only [List.map_toArray, List.map_cons, List.map_nil]); first | done | rfl | (simp only [List.length_drop, List.length_take]; rfl)) ?_; (with_reducible refine (solsticeref01_Div.calls (wrap64 (a3 - t173)) 7 t174 t175 _ A14.out).mono ?_); rintro e w' ⟨rfl, ⟨nd, rfl⟩⟩; refine ⟨_, rfl, ?_⟩) | ((with_reducible refine gate_callee (f := 35) rfl ?_); refine goesL_ (some 49) rfl rfl Try.func35 (by kernel_rfl) rfl #[.int .i64 a0, .int .i64 t175, .int .i64 a2, .int .i64 4611686018427387904] rfl (by (try simp only [List.map_toArray, List.map_cons, List.map_nil]); first | done | rfl | (simp only [List.length_drop, List.length_take]; rfl)) ?_; (with_reducible refine (solsticeref01_nth.calls a0 t175 a2 4611686018427387904 t176 t177 _ A16.out).mono ?_); rintro e w' ⟨rfl, ⟨nd, rfl⟩⟩; refine ⟨_, rfl, ?_⟩))
            go_ret2
            exact ⟨by first | rfl | (simp; done) | (simp [*]; done), by repeat (first | exact Drawn0.refl _ | apply Drawn0.step)⟩
          · rw [if_neg c15] at H
            have c15b0 : decide ((wrap64 (a1 - a0)) < 0) = false := decide_eq_false c15
            clear c15
            replace H := Option.bind_eq_some_iff.mp H
            obtain ⟨⟨t178, t179⟩, A170, H⟩ := H
            replace H : (some (t178, t179)) = some (r1, r2) := H
            have A17 := Aside0.mk A170
            clear A170
            simp only [Option.some.injEq, Prod.mk.injEq] at H
            obtain ⟨rfl, rfl⟩ := H
            go_wp2_with (first | ((with_reducible refine gate_callee (f := 34) rfl ?_); refine goesL_ (some 37) rfl rfl Try.func34 (by kernel_rfl) rfl #[.int .i64 a0] rfl (by (try simp only [List.map_toArray, List.map_cons, List.map_nil]); first | done | rfl | (simp only [List.length_drop, List.length_take]; rfl)) ?_; (with_reducible refine (solsticeref01_Weekday.calls a0 t173 _ A13.out).mono ?_); rintro e w' ⟨rfl, ⟨nd, rfl⟩⟩; refine ⟨_, rfl, ?_⟩) | ((with_reducible refine gate_callee (f := 33) rfl ?_); refine goesL_ (some 39) rfl rfl Try.func33 (by kernel_rfl) rfl #[.int .i64 (wrap64 (a3 - t173)), .int .i64 7] rfl (by (try simp only [List.map_toArray, List.map_cons, List.map_nil]); first | done | rfl | (simp only [List.length_drop, List.length_take]; rfl)) ?_; (with_reducible refine (solsticeref01_Div.calls (wrap64 (a3 - t173)) 7 t174 t175 _ A14.out).mono ?_); rintro e w' ⟨rfl, ⟨nd, rfl⟩⟩; refine ⟨_, rfl, ?_⟩) | ((with_reducible refine gate_callee (f := 35) rfl ?_); refine goesL_ (some 58) rfl rfl Try.func35 (by kernel_rfl) rfl #[.int .i64 a0, .int .i64 t175, .int .i64 a2, .int .i64 (wrap64 (a1 - a0))] rfl (by (try simp only [List.map_toArray, List.map_cons, List.map_nil]); first | done | rfl | (simp only [List.length_drop, List.length_take]; rfl)) ?_; (with_reducible refine (solsticeref01_nth.calls a0 t175 a2 (wrap64 (a1 - a0)) t178 t179 _ A17.out).mono ?_); rintro e w' ⟨rfl, ⟨nd, rfl⟩⟩; refine ⟨_, rfl, ?_⟩))
            go_ret2
            exact ⟨by first | rfl | (simp; done) | (simp [*]; done), by repeat (first | exact Drawn0.refl _ | apply Drawn0.step)⟩
        · rw [if_neg c12] at H
          have c12b0 : decide (0 < a2) = false := decide_eq_false c12
          clear c12
          replace H := Option.bind_eq_some_iff.mp H
          obtain ⟨t180, A180, H⟩ := H
          replace H : ((solsticeref01_Div.f (wrap64 (t180 - a3)) 7).bind fun bt181 => (if (wrap64 (a1 - a0)) < 0 then (if bt181.2 > 4611686018427387904 then (some (0, false)) else (if (wrap64 ((wrap64 (-a2)) - 1)) > (wrap64 (Int.tdiv (wrap64 (4611686018427387904 - bt181.2)) 7)) then (some (0, false)) else (some (wrap64 ((wrap64 (a1 - bt181.2)) - (wrap64 (7 * (wrap64 ((wrap64 (-a2)) - 1))))), true)))) else (if bt181.2 > (wrap64 (a1 - a0)) then (some (0, false)) else (if (wrap64 ((wrap64 (-a2)) - 1)) > (wrap64 (Int.tdiv (wrap64 ((wrap64 (a1 - a0)) - bt181.2)) 7)) then (some (0, false)) else (some (wrap64 ((wrap64 (a1 - bt181.2)) - (wrap64 (7 * (wrap64 ((wrap64 (-a2)) - 1))))), true)))))) = some (r1, r2) := H
          have A18 := Aside0.mk A180
          clear A180
          replace H := Option.bind_eq_some_iff.mp H
          obtain ⟨⟨t181, t182⟩, A190, H⟩ := H
          replace H : (if (wrap64 (a1 - a0)) < 0 then (if t182 > 4611686018427387904 then (some (0, false)) else (if (wrap64 ((wrap64 (-a2)) - 1)) > (wrap64 (Int.tdiv (wrap64 (4611686018427387904 - t182)) 7)) then (some (0, false)) else (some (wrap64 ((wrap64 (a1 - t182)) - (wrap64 (7 * (wrap64 ((wrap64 (-a2)) - 1))))), true)))) else (if t182 > (wrap64 (a1 - a0)) then (some (0, false)) else (if (wrap64 ((wrap64 (-a2)) - 1)) > (wrap64 (Int.tdiv (wrap64 ((wrap64 (a1 - a0)) - t182)) 7)) then (some (0, false)) else (some (wrap64 ((wrap64 (a1 - t182)) - (wrap64 (7 * (wrap64 ((wrap64 (-a2)) - 1))))), true))))) = some (r1, r2) := H
          have A19 := Aside0.mk A190
          clear A190
          by_cases c20 : (wrap64 (a1 - a0)) < 0
          · rw [if_pos c20] at H
            have c20b0 : decide ((wrap64 (a1 - a0)) < 0) = true := decide_eq_true c20
            clear c20
            by_cases c21 : t182 > 4611686018427387904
            · rw [if_pos c21] at H
              have c21b0 : decide (4611686018427387904 < t182) = true := decide_eq_true c21
              clear c21
              simp only [Option.some.injEq, Prod.mk.injEq] at H
              obtain ⟨rfl, rfl⟩ := H
              go_wp2_with (first | ((with_reducible refine gate_callee (f := 34) rfl ?_); refine goesL_ (some 63) rfl rfl Try.func34 (by kernel_rfl) rfl #[.int .i64 a1] rfl (by (try simp only [List.map_toArray, List.map_cons, List.map_nil]); first | done | rfl | (simp only [List.length_drop, List.length_take]; rfl)) ?_; (with_reducible refine (solsticeref01_Weekday.calls a1 t180 _ A18.out).mono ?_); rintro e w' ⟨rfl, ⟨nd, rfl⟩⟩; refine ⟨_, rfl, ?_⟩) | ((with_reducible refine gate_callee (f := 33) rfl ?_); refine goesL_ (some 66) rfl rfl Try.func33 (by kernel_rfl) rfl #[.int .i64 (wrap64 (t180 - a3)), .int .i64 7] rfl (by (try simp only [List.map_toArray, List.map_cons, List.map_nil]); first | done | rfl | (simp only [List.length_drop, List.length_take]; rfl)) ?_; (with_reducible refine (solsticeref01_Div.calls (wrap64 (t180 - a3)) 7 t181 t182 _ A19.out).mono ?_); rintro e w' ⟨rfl, ⟨nd, rfl⟩⟩; refine ⟨_, rfl, ?_⟩))
              go_ret2
              exact ⟨by first | rfl | (simp; done) | (simp [*]; done), by repeat (first | exact Drawn0.refl _ | apply Drawn0.step)⟩
            · rw [if_neg c21] at H
              have c21b0 : decide (4611686018427387904 < t182) = false := decide_eq_false c21
              clear c21
              by_cases c22 : (wrap64 ((wrap64 (-a2)) - 1)) > (wrap64 (Int.tdiv (wrap64 (4611686018427387904 - t182)) 7))
              · rw [if_pos c22] at H
                have c22b0 : decide ((wrap64 (Int.tdiv (wrap64 (4611686018427387904 - t182)) 7)) < (wrap64 ((wrap64 (-a2)) - 1))) = true := decide_eq_true c22
                clear c22
                simp only [Option.some.injEq, Prod.mk.injEq] at H
                obtain ⟨rfl, rfl⟩ := H
                go_wp2_with (first | ((with_reducible refine gate_callee (f := 34) rfl ?_); refine goesL_ (some 63) rfl rfl Try.func34 (by kernel_rfl) rfl #[.int .i64 a1] rfl (by (try simp only [List.map_toArray, List.map_cons, List.map_nil]); first | done | rfl | (simp only [List.length_drop, List.length_take]; rfl)) ?_; (with_reducible refine (solsticeref01_Weekday.calls a1 t180 _ A18.out).mono ?_); rintro e w' ⟨rfl, ⟨nd, rfl⟩⟩; refine ⟨_, rfl, ?_⟩) | ((with_reducible refine gate_callee (f := 33) rfl ?_); refine goesL_ (some 66) rfl rfl Try.func33 (by kernel_rfl) rfl #[.int .i64 (wrap64 (t180 - a3)), .int .i64 7] rfl (by (try simp only [List.map_toArray, List.map_cons, List.map_nil]); first | done | rfl | (simp only [List.length_drop, List.length_take]; rfl)) ?_; (with_reducible refine (solsticeref01_Div.calls (wrap64 (t180 - a3)) 7 t181 t182 _ A19.out).mono ?_); rintro e w' ⟨rfl, ⟨nd, rfl⟩⟩; refine ⟨_, rfl, ?_⟩))
                go_ret2
                exact ⟨by first | rfl | (simp; done) | (simp [*]; done), by repeat (first | exact Drawn0.refl _ | apply Drawn0.step)⟩
              · rw [if_neg c22] at H
                have c22b0 : decide ((wrap64 (Int.tdiv (wrap64 (4611686018427387904 - t182)) 7)) < (wrap64 ((wrap64 (-a2)) - 1))) = false := decide_eq_false c22
                clear c22
                simp only [Option.some.injEq, Prod.mk.injEq] at H
                obtain ⟨rfl, rfl⟩ := H
                go_wp2_with (first | ((with_reducible refine gate_callee (f := 34) rfl ?_); refine goesL_ (some 63) rfl rfl Try.func34 (by kernel_rfl) rfl #[.int .i64 a1] rfl (by (try simp only [List.map_toArray, List.map_cons, List.map_nil]); first | done | rfl | (simp only [List.length_drop, List.length_take]; rfl)) ?_; (with_reducible refine (solsticeref01_Weekday.calls a1 t180 _ A18.out).mono ?_); rintro e w' ⟨rfl, ⟨nd, rfl⟩⟩; refine ⟨_, rfl, ?_⟩) | ((with_reducible refine gate_callee (f := 33) rfl ?_); refine goesL_ (some 66) rfl rfl Try.func33 (by kernel_rfl) rfl #[.int .i64 (wrap64 (t180 - a3)), .int .i64 7] rfl (by (try simp only [List.map_toArray, List.map_cons, List.map_nil]); first | done | rfl | (simp only [List.length_drop, List.length_take]; rfl)) ?_; (with_reducible refine (solsticeref01_Div.calls (wrap64 (t180 - a3)) 7 t181 t182 _ A19.out).mono ?_); rintro e w' ⟨rfl, ⟨nd, rfl⟩⟩; refine ⟨_, rfl, ?_⟩))
                go_ret2
                exact ⟨by first | rfl | (simp; done) | (simp [*]; done), by repeat (first | exact Drawn0.refl _ | apply Drawn0.step)⟩
          · rw [if_neg c20] at H
            have c20b0 : decide ((wrap64 (a1 - a0)) < 0) = false := decide_eq_false c20
            clear c20
            by_cases c23 : t182 > (wrap64 (a1 - a0))
            · rw [if_pos c23] at H
              have c23b0 : decide ((wrap64 (a1 - a0)) < t182) = true := decide_eq_true c23
              clear c23
              simp only [Option.some.injEq, Prod.mk.injEq] at H
              obtain ⟨rfl, rfl⟩ := H
              go_wp2_with (first | ((with_reducible refine gate_callee (f := 34) rfl ?_); refine goesL_ (some 63) rfl rfl Try.func34 (by kernel_rfl) rfl #[.int .i64 a1] rfl (by (try simp only [List.map_toArray, List.map_cons, List.map_nil]); first | done | rfl | (simp only [List.length_drop, List.length_take]; rfl)) ?_; (with_reducible refine (solsticeref01_Weekday.calls a1 t180 _ A18.out).mono ?_); rintro e w' ⟨rfl, ⟨nd, rfl⟩⟩; refine ⟨_, rfl, ?_⟩) | ((with_reducible refine gate_callee (f := 33) rfl ?_); refine goesL_ (some 66) rfl rfl Try.func33 (by kernel_rfl) rfl #[.int .i64 (wrap64 (t180 - a3)), .int .i64 7] rfl (by (try simp only [List.map_toArray, List.map_cons, List.map_nil]); first | done | rfl | (simp only [List.length_drop, List.length_take]; rfl)) ?_; (with_reducible refine (solsticeref01_Div.calls (wrap64 (t180 - a3)) 7 t181 t182 _ A19.out).mono ?_); rintro e w' ⟨rfl, ⟨nd, rfl⟩⟩; refine ⟨_, rfl, ?_⟩))
              go_ret2
              exact ⟨by first | rfl | (simp; done) | (simp [*]; done), by repeat (first | exact Drawn0.refl _ | apply Drawn0.step)⟩
            · rw [if_neg c23] at H
              have c23b0 : decide ((wrap64 (a1 - a0)) < t182) = false := decide_eq_false c23
              clear c23
              by_cases c24 : (wrap64 ((wrap64 (-a2)) - 1)) > (wrap64 (Int.tdiv (wrap64 ((wrap64 (a1 - a0)) - t182)) 7))
              · rw [if_pos c24] at H
                have c24b0 : decide ((wrap64 (Int.tdiv (wrap64 ((wrap64 (a1 - a0)) - t182)) 7)) < (wrap64 ((wrap64 (-a2)) - 1))) = true := decide_eq_true c24
                clear c24
                simp only [Option.some.injEq, Prod.mk.injEq] at H
                obtain ⟨rfl, rfl⟩ := H
                go_wp2_with (first | ((with_reducible refine gate_callee (f := 34) rfl ?_); refine goesL_ (some 63) rfl rfl Try.func34 (by kernel_rfl) rfl #[.int .i64 a1] rfl (by (try simp only [List.map_toArray, List.map_cons, List.map_nil]); first | done | rfl | (simp only [List.length_drop, List.length_take]; rfl)) ?_; (with_reducible refine (solsticeref01_Weekday.calls a1 t180 _ A18.out).mono ?_); rintro e w' ⟨rfl, ⟨nd, rfl⟩⟩; refine ⟨_, rfl, ?_⟩) | ((with_reducible refine gate_callee (f := 33) rfl ?_); refine goesL_ (some 66) rfl rfl Try.func33 (by kernel_rfl) rfl #[.int .i64 (wrap64 (t180 - a3)), .int .i64 7] rfl (by (try simp only [List.map_toArray, List.map_cons, List.map_nil]); first | done | rfl | (simp only [List.length_drop, List.length_take]; rfl)) ?_; (with_reducible refine (solsticeref01_Div.calls (wrap64 (t180 - a3)) 7 t181 t182 _ A19.out).mono ?_); rintro e w' ⟨rfl, ⟨nd, rfl⟩⟩; refine ⟨_, rfl, ?_⟩))
                go_ret2
                exact ⟨by first | rfl | (simp; done) | (simp [*]; done), by repeat (first | exact Drawn0.refl _ | apply Drawn0.step)⟩
              · rw [if_neg c24] at H
                have c24b0 : decide ((wrap64 (Int.tdiv (wrap64 ((wrap64 (a1 - a0)) - t182)) 7)) < (wrap64 ((wrap64 (-a2)) - 1))) = false := decide_eq_false c24
                clear c24
                simp only [Option.some.injEq, Prod.mk.injEq] at H
                obtain ⟨rfl, rfl⟩ := H
                go_wp2_with (first | ((with_reducible refine gate_callee (f := 34) rfl ?_); refine goesL_ (some 63) rfl rfl Try.func34 (by kernel_rfl) rfl #[.int .i64 a1] rfl (by (try simp only [List.map_toArray, List.map_cons, List.map_nil]); first | done | rfl | (simp only [List.length_drop, List.length_take]; rfl)) ?_; (with_reducible refine (solsticeref01_Weekday.calls a1 t180 _ A18.out).mono ?_); rintro e w' ⟨rfl, ⟨nd, rfl⟩⟩; refine ⟨_, rfl, ?_⟩) | ((with_reducible refine gate_callee (f := 33) rfl ?_); refine goesL_ (some 66) rfl rfl Try.func33 (by kernel_rfl) rfl #[.int .i64 (wrap64 (t180 - a3)), .int .i64 7] rfl (by (try simp only [List.map_toArray, List.map_cons, List.map_nil]); first | done | rfl | (simp only [List.length_drop, List.length_take]; rfl)) ?_; (with_reducible refine (solsticeref01_Div.calls (wrap64 (t180 - a3)) 7 t181 t182 _ A19.out).mono ?_); rintro e w' ⟨rfl, ⟨nd, rfl⟩⟩; refine ⟨_, rfl, ?_⟩))
                go_ret2
                exact ⟨by first | rfl | (simp; done) | (simp [*]; done), by repeat (first | exact Drawn0.refl _ | apply Drawn0.step)⟩

end
end Go.Proofs.Ytlefnaoflajnmaa.O
