/- A period's times, as a contract. No condition beyond those each lemma names. -/
-- What some functions of the program compute: a text of this claim's own (lines first written by the kit's tool, some proved anew).
import Derived.Test.YtfinhaghgmnegaaGreatMT23h
import Derived.Test.YtfinhaghgmnegaaGreatMOx3
namespace Go.Proofs.YtfinhaghgmnegaaGreat.Pure
open Go.RowKit Go.Proofs.YtfinhaghgmnegaaGreat.O Go.Proofs.YtfinhaghgmnegaaGreatW.PrintWords Go.Proofs.YtfinhaghgmnegaaGreatW.PrintLast
open Go.Proofs.YtfinhaghgmnegaaGreat.Civ
set_option linter.unusedVariables false
set_option linter.unusedSimpArgs false
set_option maxRecDepth 100000
set_option maxHeartbeats 4000000
theorem year_on {w : World} {t : Int} (h : InT t) : Calls Tryz.prog 48 #[.int .i64 t] w (Rets w (.bool true)) := by
  have s := day_split h
  have y := dt_year h
  refine en_ Tryz.func48 rfl rfl rfl fun a K => sr_ (run_ 1 K rfl fun a K => nil_ (sr_ (run_ 1 K rfl fun a K => cl_ K Tryz.func36 (by kernel_rfl) rfl rfl rfl rfl rfl rfl ((split_on s.1 s.2.1).mono ?_))))
  rintro _ w1 ⟨rfl, b1⟩
  refine ⟨_, rfl, fun a K => run_ 5 K rfl fun a K => nil_ (sr_ (run_ 1 K rfl fun a K => cl_ K Tryz.func57 (by kernel_rfl) rfl rfl rfl rfl rfl rfl ((date_on (Int.le_trans (by decide) y.2.2.1) (Int.le_trans y.2.2.2 (by decide))).mono ?_)))⟩
  rintro _ w2 ⟨rfl, b2⟩
  have M : On [] w w2 := ((On.nil w).call b1).call b2
  refine ⟨_, rfl, fun a K => run_ 3 K rfl fun a K => nw_ K M rfl rfl rfl rfl rfl rfl rfl (fun _ => rfl) rfl rfl rfl fun a g W M K => run_ 1 K rfl fun a K => nil_ (sr_ (run_ 3 K rfl fun a K => ?_))⟩
  refine run_ 1 (fx_ (c := true) K rfl) rfl fun a K => ld_ K M 0 rfl rfl rfl rfl rfl rfl rfl rfl fun a K => run_ 3 K rfl fun a K => ?_
  exact run_ 1 (fx_ (c := true) K (decide_eq_true y.1)) rfl fun a K => ld_ K M 0 rfl rfl rfl rfl rfl rfl rfl rfl fun a K => run_ 3 K rfl fun a K => nil_ (ret_ rfl K rfl ⟨by rw [← decide_eq_true y.2.1], M.bl⟩)
theorem check46_on {w : World} {cs : Array Value} {r : RR} {s : Int} (R : Rul w cs r) (h : Right r) (hs : InT s) : Calls Tryz.prog 27 #[.agg cs, .int .i64 s] w (Rets w (.int .i64 0)) := by
  refine en_ Tryz.func27 rfl rfl rfl fun a K => sr_ (bx_ K (On.nil w) rfl rfl rfl rfl rfl rfl fun a g0 W M K => run_ 1 K rfl fun a K => nil_ (sr_ (lda_ K M 0 rfl rfl rfl rfl rfl rfl rfl R.sz fun a K => cl_ K Tryz.func9 (by kernel_rfl) rfl rfl rfl rfl rfl rfl ((check_on (R.below M.bl) h).mono ?_))))
  rintro _ w1 ⟨rfl, b1⟩
  replace M := M.call b1
  refine ⟨_, rfl, fun a K => run_ 1 K rfl fun a K => nil_ (wp_seq (sr_ (run_ 3 K rfl fun a K => run_ 1 (fx_ (c := true) K rfl) rfl fun a K => cl_ K Tryz.func48 (by kernel_rfl) rfl rfl rfl rfl rfl rfl ((year_on hs).mono ?_))))⟩
  rintro _ w4 ⟨rfl, b4⟩
  replace M := M.call b4
  exact ⟨_, rfl, fun a K => run_ 2 K rfl fun a K => nil_ (cs_ K rfl rfl (sr_ (run_ 2 K rfl fun a K => nil_ (ret_ rfl K rfl ⟨rfl, M.bl⟩))))⟩
theorem spanOk_in {r : RR} {p : Int} (h : (spanV r p).2.2 = 0) : InT (spanV r p).1 ∧ InT (spanV r p).2.1 := by
  unfold spanV at h ⊢
  split at h
  · rename_i e
    rw [if_pos e]
    exact e.2
  · cases h
theorem ne0_ {n : Int} (h : ¬ n = 0) : (!decide (n = 0)) = true := by rw [decide_eq_false h]; rfl
theorem ne0f_ {n : Int} (h : n = 0) : (!decide (n = 0)) = false := by rw [decide_eq_true h]; rfl
end Go.Proofs.YtfinhaghgmnegaaGreat.Pure

namespace Go.Proofs.YtfinhaghgmnegaaGreat.O
open Go.RowKit Go.Proofs.YtfinhaghgmnegaaGreatW.PrintWords Go.Proofs.YtfinhaghgmnegaaGreatW.PrintLast Go.Proofs.YtfinhaghgmnegaaGreatW.PrintMore
attribute [local go_sem] max2_int min2_int max_two min_two max_three min_three max_four min_four   -- for this text's walks alone
set_option linter.unusedVariables false
set_option linter.unusedSimpArgs false

/-! ### atform_right: function 54 -/
def atform_right.f (a0 : Int) : Option (Bool) := if a0 = 1 then (some true) else (if a0 = 2 then (some true) else (some (a0 == 3)))
set_option maxHeartbeats 8000000 in
set_option maxRecDepth 100000 in
theorem atform_right.calls (a0 : Int) (r : Bool) (w : World) (h : atform_right.f a0 = some r) :
    Calls Tryz.prog 54 #[.int .i64 a0] w fun e w' => e = .returned (.bool r) ∧ Drawn0 w w' := by
  have H : (if a0 = 1 then (some true) else (if a0 = 2 then (some true) else (some (a0 == 3)))) = some r := h
  clear h
  by_cases c2 : a0 = 1
  · rw [if_pos c2] at H
    have c2b0 : (a0 == 1) = true := beq_iff_eq.mpr c2
    have c2b1 : (a0 != 1) = false := bne_eq_false_iff_eq.mpr c2
    clear c2
    obtain rfl := Option.some.inj H
    go_enter Tryz.func54, Tryz.ntmps54
    go_wp2
    go_ret
    exact ⟨by first | rfl | (simp; done) | (simp [*]; done), by repeat (first | exact Drawn0.refl _ | apply Drawn0.step)⟩
  · rw [if_neg c2] at H
    have c2b0 : (a0 == 1) = false := beq_eq_false_iff_ne.mpr c2
    have c2b1 : (a0 != 1) = true := bne_iff_ne.mpr c2
    by_cases c3 : a0 = 2
    · rw [if_pos c3] at H
      have c3b0 : (a0 == 2) = true := beq_iff_eq.mpr c3
      have c3b1 : (a0 != 2) = false := bne_eq_false_iff_eq.mpr c3
      clear c3
      obtain rfl := Option.some.inj H
      go_enter Tryz.func54, Tryz.ntmps54
      go_wp2
      go_ret
      exact ⟨by first | rfl | (simp; done) | (simp [*]; done), by repeat (first | exact Drawn0.refl _ | apply Drawn0.step)⟩
    · rw [if_neg c3] at H
      have c3b0 : (a0 == 2) = false := beq_eq_false_iff_ne.mpr c3
      have c3b1 : (a0 != 2) = true := bne_iff_ne.mpr c3
      obtain rfl := Option.some.inj H
      go_enter Tryz.func54, Tryz.ntmps54
      go_wp2
      go_ret
      exact ⟨by first | rfl | (simp; done) | (simp [*]; done), by repeat (first | exact Drawn0.refl _ | apply Drawn0.step)⟩

end Go.Proofs.YtfinhaghgmnegaaGreat.O

namespace Go.Proofs.YtfinhaghgmnegaaGreat.O
open Go.RowKit Go.Proofs.YtfinhaghgmnegaaGreatW.PrintWords Go.Proofs.YtfinhaghgmnegaaGreatW.PrintLast Go.Proofs.YtfinhaghgmnegaaGreatW.PrintMore
attribute [local go_sem] max2_int min2_int max_two min_two max_three min_three max_four min_four   -- for this text's walks alone
set_option linter.unusedVariables false
set_option linter.unusedSimpArgs false

/-! ### atform_in: function 55 -/
def atform_in.f (a0 : Int) (a1 : Int) : Option (Bool) := if a0 ≥ (wrap64 (-a1)) then (some (decide (a0 ≤ a1))) else (some false)
set_option maxHeartbeats 8000000 in
set_option maxRecDepth 100000 in
theorem atform_in.calls (a0 : Int) (a1 : Int) (r : Bool) (w : World) (h : atform_in.f a0 a1 = some r) :
    Calls Tryz.prog 55 #[.int .i64 a0, .int .i64 a1] w fun e w' => e = .returned (.bool r) ∧ Drawn0 w w' := by
  have H : (if a0 ≥ (wrap64 (-a1)) then (some (decide (a0 ≤ a1))) else (some false)) = some r := h
  clear h
  by_cases c3 : a0 ≥ (wrap64 (-a1))
  · rw [if_pos c3] at H
    have c3b0 : decide ((wrap64 (-a1)) ≤ a0) = true := decide_eq_true c3
    clear c3
    obtain rfl := Option.some.inj H
    go_enter Tryz.func55, Tryz.ntmps55
    go_wp2
    go_ret
    exact ⟨by first | rfl | (simp; done) | (simp [*]; done), by repeat (first | exact Drawn0.refl _ | apply Drawn0.step)⟩
  · rw [if_neg c3] at H
    have c3b0 : decide ((wrap64 (-a1)) ≤ a0) = false := decide_eq_false c3
    clear c3
    obtain rfl := Option.some.inj H
    go_enter Tryz.func55, Tryz.ntmps55
    go_wp2
    go_ret
    exact ⟨by first | rfl | (simp; done) | (simp [*]; done), by repeat (first | exact Drawn0.refl _ | apply Drawn0.step)⟩

end Go.Proofs.YtfinhaghgmnegaaGreat.O

namespace Go.Proofs.YtfinhaghgmnegaaGreat.O
open Go.RowKit Go.Proofs.YtfinhaghgmnegaaGreatW.PrintWords Go.Proofs.YtfinhaghgmnegaaGreatW.PrintLast Go.Proofs.YtfinhaghgmnegaaGreatW.PrintMore
attribute [local go_sem] max2_int min2_int max_two min_two max_three min_three max_four min_four   -- for this text's walks alone
set_option linter.unusedVariables false
set_option linter.unusedSimpArgs false

/-! ### atform_Utc: function 34 -/
def atform_Utc.j0 : Nat → Int → Int → Int → Int → Bool → Option (Int × Bool)
  | 0, _, _, _, _, _ => none
  | k + 1, x0, x1, x2, x3, x27 => if x27 = true then (some (0, false)) else (if x1 = 1 then (some (wrap64 ((wrap64 (x0 - x2)) - x3), true)) else (if x1 = 2 then (some (wrap64 (x0 - x2), true)) else (some (x0, true))))
def atform_Utc.f (k : Nat) (a0 : Int) (a1 : Int) (a2 : Int) (a3 : Int) : Option (Int × Bool) := (atform_right.f a1).bind fun t189 => (if t189 = true then ((atform_in.f a0 4611686018427387904).bind fun t190 => (if t190 = true then ((atform_in.f a2 345600).bind fun t191 => (if t191 = true then ((atform_in.f a3 345600).bind fun t192 => (atform_Utc.j0 k a0 a1 a2 a3 (!t192))) else (atform_Utc.j0 k a0 a1 a2 a3 true))) else (atform_Utc.j0 k a0 a1 a2 a3 true))) else (atform_Utc.j0 k a0 a1 a2 a3 true))
set_option maxHeartbeats 8000000 in
set_option maxRecDepth 100000 in
theorem atform_Utc.calls (k : Nat) (a0 : Int) (a1 : Int) (a2 : Int) (a3 : Int) (r1 : Int) (r2 : Bool) (w : World) (h : atform_Utc.f k a0 a1 a2 a3 = some (r1, r2)) :
    Calls Tryz.prog 34 #[.int .i64 a0, .int .i64 a1, .int .i64 a2, .int .i64 a3] w fun e w' => e = .returned (.tuple #[.int .i64 r1, .bool r2]) ∧ Drawn0 w w' := by
  have H : ((atform_right.f a1).bind fun t189 => (if t189 = true then ((atform_in.f a0 4611686018427387904).bind fun t190 => (if t190 = true then ((atform_in.f a2 345600).bind fun t191 => (if t191 = true then ((atform_in.f a3 345600).bind fun t192 => (atform_Utc.j0 k a0 a1 a2 a3 (!t192))) else (atform_Utc.j0 k a0 a1 a2 a3 true))) else (atform_Utc.j0 k a0 a1 a2 a3 true))) else (atform_Utc.j0 k a0 a1 a2 a3 true))) = some (r1, r2) := h
  clear h
  have HC5 := Aside0.mk H
  clear H
  go_enter Tryz.func34, Tryz.ntmps34
  go_upto_region 1 with (fail)
  go_cut [27] (fun v27 wc => ∃ (kq : Nat) (x27_4 : Bool), v27 = .bool x27_4 ∧ Aside0 (atform_Utc.j0 kq a0 a1 a2 a3 x27_4 = some (r1, r2)) ∧ Aside0 (kq ≤ k) ∧ Drawn0 w wc)
  case first =>
    have H := HC5.out
    clear HC5
    replace H := Option.bind_eq_some_iff.mp H
    obtain ⟨t189, A60, H⟩ := H
    replace H : (if t189 = true then ((atform_in.f a0 4611686018427387904).bind fun t190 => (if t190 = true then ((atform_in.f a2 345600).bind fun t191 => (if t191 = true then ((atform_in.f a3 345600).bind fun t192 => (atform_Utc.j0 k a0 a1 a2 a3 (!t192))) else (atform_Utc.j0 k a0 a1 a2 a3 true))) else (atform_Utc.j0 k a0 a1 a2 a3 true))) else (atform_Utc.j0 k a0 a1 a2 a3 true)) = some (r1, r2) := H
    have A6 := Aside0.mk A60
    clear A60
    by_cases c7 : t189 = true
    · subst c7
      have H1 : ((atform_in.f a0 4611686018427387904).bind fun t190 => (if t190 = true then ((atform_in.f a2 345600).bind fun t191 => (if t191 = true then ((atform_in.f a3 345600).bind fun t192 => (atform_Utc.j0 k a0 a1 a2 a3 (!t192))) else (atform_Utc.j0 k a0 a1 a2 a3 true))) else (atform_Utc.j0 k a0 a1 a2 a3 true))) = some (r1, r2) := by rw [if_pos rfl] at H; exact H
      clear H
      have H := H1
      clear H1
      replace H := Option.bind_eq_some_iff.mp H
      obtain ⟨t190, A80, H⟩ := H
      replace H : (if t190 = true then ((atform_in.f a2 345600).bind fun t191 => (if t191 = true then ((atform_in.f a3 345600).bind fun t192 => (atform_Utc.j0 k a0 a1 a2 a3 (!t192))) else (atform_Utc.j0 k a0 a1 a2 a3 true))) else (atform_Utc.j0 k a0 a1 a2 a3 true)) = some (r1, r2) := H
      have A8 := Aside0.mk A80
      clear A80
      by_cases c9 : t190 = true
      · subst c9
        have H1 : ((atform_in.f a2 345600).bind fun t191 => (if t191 = true then ((atform_in.f a3 345600).bind fun t192 => (atform_Utc.j0 k a0 a1 a2 a3 (!t192))) else (atform_Utc.j0 k a0 a1 a2 a3 true))) = some (r1, r2) := by rw [if_pos rfl] at H; exact H
        clear H
        have H := H1
        clear H1
        replace H := Option.bind_eq_some_iff.mp H
        obtain ⟨t191, A100, H⟩ := H
        replace H : (if t191 = true then ((atform_in.f a3 345600).bind fun t192 => (atform_Utc.j0 k a0 a1 a2 a3 (!t192))) else (atform_Utc.j0 k a0 a1 a2 a3 true)) = some (r1, r2) := H
        have A10 := Aside0.mk A100
        clear A100
        by_cases c11 : t191 = true
        · subst c11
          have H1 : ((atform_in.f a3 345600).bind fun t192 => (atform_Utc.j0 k a0 a1 a2 a3 (!t192))) = some (r1, r2) := by rw [if_pos rfl] at H; exact H
          clear H
          have H := H1
          clear H1
          replace H := Option.bind_eq_some_iff.mp H
          obtain ⟨t192, A120, H⟩ := H
          replace H : (atform_Utc.j0 k a0 a1 a2 a3 (!t192)) = some (r1, r2) := H
          have A12 := Aside0.mk A120
          clear A120
          have H' := Aside0.mk H
          clear H
          go_wp2_with (first | ((with_reducible refine gate_callee (f := 54) rfl ?_); refine goesL_ (some 11) rfl rfl Tryz.func54 (by kernel_rfl) rfl #[.int .i64 a1] rfl (by (try simp only [List.map_toArray, List.map_cons, List.map_nil]); first | done | rfl | (simp only [List.length_drop, List.length_take]; rfl)) ?_; (with_reducible refine (atform_right.calls a1 true _ A6.out).mono ?_); rintro e w' ⟨rfl, ⟨nd, rfl⟩⟩; refine ⟨_, rfl, ?_⟩) | (go_at_call 55; (with_reducible refine (atform_in.calls a0 4611686018427387904 true _ A8.out).mono ?_); rintro e w' ⟨rfl, ⟨nd, rfl⟩⟩) | (go_at_call 55; (with_reducible refine (atform_in.calls a2 345600 true _ A10.out).mono ?_); rintro e w' ⟨rfl, ⟨nd, rfl⟩⟩) | (go_at_call 55; (with_reducible refine (atform_in.calls a3 345600 t192 _ A12.out).mono ?_); rintro e w' ⟨rfl, ⟨nd, rfl⟩⟩))
          go_meet
          case rel => exact ⟨_, (!t192), (by first | rfl | (simp; done) | (simp [*]; done)), H', ⟨by first | omega | exact Nat.le_refl _⟩, by repeat (first | exact Drawn0.refl _ | apply Drawn0.step)⟩
        · replace c11 := Bool.eq_false_iff.mpr c11
          subst c11
          have H1 : (atform_Utc.j0 k a0 a1 a2 a3 true) = some (r1, r2) := by rw [if_neg (show ¬ (false = true) by decide)] at H; exact H
          clear H
          have H := H1
          clear H1
          have H' := Aside0.mk H
          clear H
          go_wp2_with (first | ((with_reducible refine gate_callee (f := 54) rfl ?_); refine goesL_ (some 11) rfl rfl Tryz.func54 (by kernel_rfl) rfl #[.int .i64 a1] rfl (by (try simp only [List.map_toArray, List.map_cons, List.map_nil]); first | done | rfl | (simp only [List.length_drop, List.length_take]; rfl)) ?_; (with_reducible refine (atform_right.calls a1 true _ A6.out).mono ?_); rintro e w' ⟨rfl, ⟨nd, rfl⟩⟩; refine ⟨_, rfl, ?_⟩) | (go_at_call 55; (with_reducible refine (atform_in.calls a0 4611686018427387904 true _ A8.out).mono ?_); rintro e w' ⟨rfl, ⟨nd, rfl⟩⟩) | (go_at_call 55; (with_reducible refine (atform_in.calls a2 345600 false _ A10.out).mono ?_); rintro e w' ⟨rfl, ⟨nd, rfl⟩⟩))
          go_meet
          case rel => exact ⟨_, (true), (by first | rfl | (simp; done) | (simp [*]; done)), H', ⟨by first | omega | exact Nat.le_refl _⟩, by repeat (first | exact Drawn0.refl _ | apply Drawn0.step)⟩
      · replace c9 := Bool.eq_false_iff.mpr c9
        subst c9
        have H1 : (atform_Utc.j0 k a0 a1 a2 a3 true) = some (r1, r2) := by rw [if_neg (show ¬ (false = true) by decide)] at H; exact H
        clear H
        have H := H1
        clear H1
        have H' := Aside0.mk H
        clear H
        go_wp2_with (first | ((with_reducible refine gate_callee (f := 54) rfl ?_); refine goesL_ (some 11) rfl rfl Tryz.func54 (by kernel_rfl) rfl #[.int .i64 a1] rfl (by (try simp only [List.map_toArray, List.map_cons, List.map_nil]); first | done | rfl | (simp only [List.length_drop, List.length_take]; rfl)) ?_; (with_reducible refine (atform_right.calls a1 true _ A6.out).mono ?_); rintro e w' ⟨rfl, ⟨nd, rfl⟩⟩; refine ⟨_, rfl, ?_⟩) | (go_at_call 55; (with_reducible refine (atform_in.calls a0 4611686018427387904 false _ A8.out).mono ?_); rintro e w' ⟨rfl, ⟨nd, rfl⟩⟩))
        go_meet
        case rel => exact ⟨_, (true), (by first | rfl | (simp; done) | (simp [*]; done)), H', ⟨by first | omega | exact Nat.le_refl _⟩, by repeat (first | exact Drawn0.refl _ | apply Drawn0.step)⟩
    · replace c7 := Bool.eq_false_iff.mpr c7
      subst c7
      have H1 : (atform_Utc.j0 k a0 a1 a2 a3 true) = some (r1, r2) := by rw [if_neg (show ¬ (false = true) by decide)] at H; exact H
      clear H
      have H := H1
      clear H1
      have H' := Aside0.mk H
      clear H
      go_wp2_with (first | ((with_reducible refine gate_callee (f := 54) rfl ?_); refine goesL_ (some 11) rfl rfl Tryz.func54 (by kernel_rfl) rfl #[.int .i64 a1] rfl (by (try simp only [List.map_toArray, List.map_cons, List.map_nil]); first | done | rfl | (simp only [List.length_drop, List.length_take]; rfl)) ?_; (with_reducible refine (atform_right.calls a1 false _ A6.out).mono ?_); rintro e w' ⟨rfl, ⟨nd, rfl⟩⟩; refine ⟨_, rfl, ?_⟩))
      go_meet
      case rel => exact ⟨_, (true), (by first | rfl | (simp; done) | (simp [*]; done)), H', ⟨by first | omega | exact Nat.le_refl _⟩, by repeat (first | exact Drawn0.refl _ | apply Drawn0.step)⟩
  case rest =>
    clear HC5
    try clear c1
    try clear p2
    try clear c3
    try clear c5
    try clear c7
    try clear c9
    try clear c11
    obtain ⟨kq, x27_4, rfl, HA, HJ4, ⟨mc4, rfl⟩⟩ := hcut
    cases kq with
    | zero => exact absurd HA.out (by simp [atform_Utc.j0])
    | succ kj4 =>
      have H := HA.out
      clear HA
      simp only [atform_Utc.j0] at H
      by_cases c13 : x27_4 = true
      · subst c13
        have H1 : (some (0, false)) = some (r1, r2) := by rw [if_pos rfl] at H; exact H
        clear H
        have H := H1
        clear H1
        simp only [Option.some.injEq, Prod.mk.injEq] at H
        obtain ⟨rfl, rfl⟩ := H
        go_wp2
        go_ret2
        exact ⟨by first | rfl | (simp; done) | (simp [*]; done), by repeat (first | exact Drawn0.refl _ | apply Drawn0.step)⟩
      · replace c13 := Bool.eq_false_iff.mpr c13
        subst c13
        have H1 : (if a1 = 1 then (some (wrap64 ((wrap64 (a0 - a2)) - a3), true)) else (if a1 = 2 then (some (wrap64 (a0 - a2), true)) else (some (a0, true)))) = some (r1, r2) := by rw [if_neg (show ¬ (false = true) by decide)] at H; exact H
        clear H
        have H := H1
        clear H1
        by_cases c14 : a1 = 1
        · rw [if_pos c14] at H
          have c14b0 : (a1 == 1) = true := beq_iff_eq.mpr c14
          have c14b1 : (a1 != 1) = false := bne_eq_false_iff_eq.mpr c14
          clear c14
          simp only [Option.some.injEq, Prod.mk.injEq] at H
          obtain ⟨rfl, rfl⟩ := H
          go_wp2
          go_ret2
          exact ⟨by first | rfl | (simp; done) | (simp [*]; done), by repeat (first | exact Drawn0.refl _ | apply Drawn0.step)⟩
        · rw [if_neg c14] at H
          have c14b0 : (a1 == 1) = false := beq_eq_false_iff_ne.mpr c14
          have c14b1 : (a1 != 1) = true := bne_iff_ne.mpr c14
          by_cases c15 : a1 = 2
          · rw [if_pos c15] at H
            have c15b0 : (a1 == 2) = true := beq_iff_eq.mpr c15
            have c15b1 : (a1 != 2) = false := bne_eq_false_iff_eq.mpr c15
            clear c15
            simp only [Option.some.injEq, Prod.mk.injEq] at H
            obtain ⟨rfl, rfl⟩ := H
            go_wp2
            go_ret2
            exact ⟨by first | rfl | (simp; done) | (simp [*]; done), by repeat (first | exact Drawn0.refl _ | apply Drawn0.step)⟩
          · rw [if_neg c15] at H
            have c15b0 : (a1 == 2) = false := beq_eq_false_iff_ne.mpr c15
            have c15b1 : (a1 != 2) = true := bne_iff_ne.mpr c15
            simp only [Option.some.injEq, Prod.mk.injEq] at H
            obtain ⟨rfl, rfl⟩ := H
            go_wp2
            go_ret2
            exact ⟨by first | rfl | (simp; done) | (simp [*]; done), by repeat (first | exact Drawn0.refl _ | apply Drawn0.step)⟩

end Go.Proofs.YtfinhaghgmnegaaGreat.O
