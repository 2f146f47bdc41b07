-- What some functions of the program compute: a text of this claim's own (lines first written by the kit's tool, some proved anew).
import Derived.Test.YtlefnaoflajnmaaOx0
import Derived.Test.YtlefnaoflajnmaaOx8
import Derived.Test.YtlefnaoflajnmaaOx12
import Derived.Test.YtlefnaoflajnmaaOx27
namespace Go.Proofs.Ytlefnaoflajnmaa.O
open Go.RowKit Go.Proofs.YtlefnaoflajnmaaW.PrintWords Go.Proofs.YtlefnaoflajnmaaW.PrintLast Go.Proofs.YtlefnaoflajnmaaW.PrintMore
attribute [local go_sem] max2_int min2_int max_two min_two max_three min_three max_four min_four   -- for this text's walks alone
set_option linter.unusedVariables false
set_option linter.unusedSimpArgs false

/-! ### solsticelaw03_WeekNth: function 5 -/
mutual
def solsticelaw03_WeekNth.l0 : Nat → Int → Int → Int → Int → Int → Int → Option (Bool)
  | 0, _, _, _, _, _, _ => none
  | k + 1, x0, x1, x2, x3, x9, x10 => if x10 ≤ (wrap64 (x0 + x1)) then ((civil_Weekday.f x10).bind fun t287 => (if t287 = x3 then ((week_Nth.f k x0 (wrap64 (x0 + x1)) (wrap64 (x9 + 1)) x3).bind fun bt288 => (if bt288.2 = true then (if bt288.1 = x10 then (solsticelaw03_WeekNth.l0 k x0 x1 x2 x3 (wrap64 (x9 + 1)) (wrap64 (x10 + 1))) else (some false)) else (some false))) else (solsticelaw03_WeekNth.l0 k x0 x1 x2 x3 x9 (wrap64 (x10 + 1))))) else ((week_Nth.f k x0 (wrap64 (x0 + x1)) (wrap64 (1 + (wrap64 (Int.tmod (IntKind.u64.wrap (x2)) 400)))) x3).bind fun bt290 => ((week_Nth.f k x0 (wrap64 (x0 + x1)) (wrap64 ((wrap64 ((wrap64 (1 + (wrap64 (Int.tmod (IntKind.u64.wrap (x2)) 400)))) - x9)) - 1)) x3).bind fun bt292 => (if (bt290.2 != (decide ((wrap64 (1 + (wrap64 (Int.tmod (IntKind.u64.wrap (x2)) 400)))) ≤ x9))) = true then (solsticelaw03_WeekNth.j1 k x0 x1 x3 true) else (if bt290.2 = true then (if bt292.2 = true then (solsticelaw03_WeekNth.j1 k x0 x1 x3 (bt290.1 != bt292.1)) else (solsticelaw03_WeekNth.j1 k x0 x1 x3 true)) else (solsticelaw03_WeekNth.j1 k x0 x1 x3 false)))))
def solsticelaw03_WeekNth.j1 : Nat → Int → Int → Int → Bool → Option (Bool)
  | 0, _, _, _, _ => none
  | k + 1, x0, x1, x3, x106 => if x106 = true then (some false) else ((week_Nth.f k x0 (wrap64 (x0 + x1)) 0 x3).bind fun bt294 => ((week_Nth.f k (wrap64 (x0 + 1)) x0 1 x3).bind fun bt296 => (if bt294.2 = true then (some false) else (if bt296.2 = true then (some false) else ((solsticelaw03_wakes.f k).bind fun t298 => (some t298))))))
end
def solsticelaw03_WeekNth.f (k : Nat) (a0 : Int) (a1 : Int) (a2 : Int) (a3 : Int) : Option (Bool) := solsticelaw03_WeekNth.l0 k (Int.tmod a0 4000000) (wrap64 (Int.tmod (IntKind.u64.wrap (a1)) 800)) a2 (wrap64 (Int.tmod (IntKind.u64.wrap (a3)) 7)) 0 (Int.tmod a0 4000000)
theorem solsticelaw03_WeekNth.mono_l : ∀ k, (∀ y0 y1 y2 y3 y4 y5, LeO (solsticelaw03_WeekNth.l0 k y0 y1 y2 y3 y4 y5) (solsticelaw03_WeekNth.l0 (k + 1) y0 y1 y2 y3 y4 y5)) ∧ (∀ y0 y1 y2 y3, LeO (solsticelaw03_WeekNth.j1 k y0 y1 y2 y3) (solsticelaw03_WeekNth.j1 (k + 1) y0 y1 y2 y3))
  | 0 => ⟨fun _ _ _ _ _ _ r h => by simp [solsticelaw03_WeekNth.l0] at h, fun _ _ _ _ r h => by simp [solsticelaw03_WeekNth.j1] at h⟩
  | k + 1 => by
    obtain ⟨ih0, ih1⟩ := solsticelaw03_WeekNth.mono_l k
    refine ⟨?_, ?_⟩
    · intro y0 y1 y2 y3 y4 y5
      unfold solsticelaw03_WeekNth.l0
      repeat' first
      | (with_reducible exact ih0 _ _ _ _ _ _)
      | (with_reducible exact ih1 _ _ _ _)
      | (with_reducible exact solsticelaw03_wakes.mono _)
      | (with_reducible exact week_Nth.mono _ _ _ _ _)
      | (with_reducible exact LeO.refl _)
      | (with_reducible exact LeO.none _)
      | (with_reducible refine LeO.ite ?_ ?_)
      | (with_reducible refine LeO.bind ?_ (fun _ => ?_))
      | exact ih0 _ _ _ _ _ _
      | exact ih1 _ _ _ _
      | exact solsticelaw03_wakes.mono _
      | exact week_Nth.mono _ _ _ _ _
      | exact LeO.none _
      | refine LeO.ite ?_ ?_
      | refine LeO.bind ?_ (fun _ => ?_)
    · intro y0 y1 y2 y3
      unfold solsticelaw03_WeekNth.j1
      repeat' first
      | (with_reducible exact ih0 _ _ _ _ _ _)
      | (with_reducible exact ih1 _ _ _ _)
      | (with_reducible exact solsticelaw03_wakes.mono _)
      | (with_reducible exact week_Nth.mono _ _ _ _ _)
      | (with_reducible exact LeO.refl _)
      | (with_reducible exact LeO.none _)
      | (with_reducible refine LeO.ite ?_ ?_)
      | (with_reducible refine LeO.bind ?_ (fun _ => ?_))
      | exact ih0 _ _ _ _ _ _
      | exact ih1 _ _ _ _
      | exact solsticelaw03_wakes.mono _
      | exact week_Nth.mono _ _ _ _ _
      | exact LeO.none _
      | refine LeO.ite ?_ ?_
      | refine LeO.bind ?_ (fun _ => ?_)
theorem solsticelaw03_WeekNth.mono : ∀ a0 a1 a2 a3 k, LeO (solsticelaw03_WeekNth.f k a0 a1 a2 a3) (solsticelaw03_WeekNth.f (k + 1) a0 a1 a2 a3) := by
  intro a0 a1 a2 a3 k
  obtain ⟨ih0, ih1⟩ := solsticelaw03_WeekNth.mono_l k
  unfold solsticelaw03_WeekNth.f
  repeat' first
      | (with_reducible exact ih0 _ _ _ _ _ _)
      | (with_reducible exact ih1 _ _ _ _)
      | (with_reducible exact solsticelaw03_wakes.mono _)
      | (with_reducible exact week_Nth.mono _ _ _ _ _)
      | (with_reducible exact LeO.refl _)
      | (with_reducible exact LeO.none _)
      | (with_reducible refine LeO.ite ?_ ?_)
      | (with_reducible refine LeO.bind ?_ (fun _ => ?_))
      | exact ih0 _ _ _ _ _ _
      | exact ih1 _ _ _ _
      | exact solsticelaw03_wakes.mono _
      | exact week_Nth.mono _ _ _ _ _
      | exact LeO.none _
      | refine LeO.ite ?_ ?_
      | refine LeO.bind ?_ (fun _ => ?_)
set_option maxHeartbeats 8000000 in
set_option maxRecDepth 100000 in
theorem solsticelaw03_WeekNth.calls (k : Nat) (a0 : Int) (a1 : Int) (a2 : Int) (a3 : Int) (r : Bool) (w : World) (h : solsticelaw03_WeekNth.f k a0 a1 a2 a3 = some r) :
    Calls Try.prog 5 #[.int .i64 a0, .int .i64 a1, .int .i64 a2, .int .i64 a3] w fun e w' => e = .returned (.bool r) ∧ Below w.heap.size w w' := by
  have HB := Aside0.mk (Below.refl w.heap.size w)
  have H : (solsticelaw03_WeekNth.l0 k (Int.tmod a0 4000000) (wrap64 (Int.tmod (IntKind.u64.wrap (a1)) 800)) a2 (wrap64 (Int.tmod (IntKind.u64.wrap (a3)) 7)) 0 (Int.tmod a0 4000000)) = some r := h
  clear h
  have H' := Aside0.mk H
  clear H
  go_enter Try.func5, Try.ntmps5
  go_wp2
  go_loopg [9, 10] k (fun kq v9 v10 w' => ∃ (x9_1 : Int) (x10_1 : Int), v9 = .int .i64 x9_1 ∧ v10 = .int .i64 x10_1 ∧ Aside0 (solsticelaw03_WeekNth.l0 kq (Int.tmod a0 4000000) (wrap64 (Int.tmod (IntKind.u64.wrap (a1)) 800)) a2 (wrap64 (Int.tmod (IntKind.u64.wrap (a3)) 7)) x9_1 x10_1 = some r) ∧ Aside0 (kq ≤ k) ∧ Aside0 (Below w.heap.size w w'))
  case atStart => exact ⟨(0), (Int.tmod a0 4000000), (by first | rfl | (simp; done) | (simp [*]; done)), (by first | rfl | (simp; done) | (simp [*]; done)), H', ⟨Nat.le_refl _⟩, ⟨by repeat (first | (with_reducible first | exact HB.out | apply below_alloc | apply pw_below_drewN | apply below_drew1) | exact HB.out)⟩⟩
  case round =>
    clear H'
    try clear p2
    obtain ⟨x9_1, x10_1, rfl, rfl, HA, HK1, HB⟩ := hrel
    cases gk with
    | zero => exact absurd HA.out (by simp [solsticelaw03_WeekNth.l0])
    | succ k1 =>
      have H := HA.out
      clear HA
      simp only [solsticelaw03_WeekNth.l0] at H
      by_cases c5 : x10_1 ≤ (wrap64 ((Int.tmod a0 4000000) + (wrap64 (Int.tmod (IntKind.u64.wrap (a1)) 800))))
      · rw [if_pos c5] at H
        have c5b0 : decide (x10_1 ≤ (wrap64 ((Int.tmod a0 4000000) + (wrap64 (Int.tmod (IntKind.u64.wrap (a1)) 800))))) = true := decide_eq_true c5
        clear c5
        replace H := Option.bind_eq_some_iff.mp H
        obtain ⟨t287, A60, H⟩ := H
        replace H : (if t287 = (wrap64 (Int.tmod (IntKind.u64.wrap (a3)) 7)) then ((week_Nth.f k1 (Int.tmod a0 4000000) (wrap64 ((Int.tmod a0 4000000) + (wrap64 (Int.tmod (IntKind.u64.wrap (a1)) 800)))) (wrap64 (x9_1 + 1)) (wrap64 (Int.tmod (IntKind.u64.wrap (a3)) 7))).bind fun bt288 => (if bt288.2 = true then (if bt288.1 = x10_1 then (solsticelaw03_WeekNth.l0 k1 (Int.tmod a0 4000000) (wrap64 (Int.tmod (IntKind.u64.wrap (a1)) 800)) a2 (wrap64 (Int.tmod (IntKind.u64.wrap (a3)) 7)) (wrap64 (x9_1 + 1)) (wrap64 (x10_1 + 1))) else (some false)) else (some false))) else (solsticelaw03_WeekNth.l0 k1 (Int.tmod a0 4000000) (wrap64 (Int.tmod (IntKind.u64.wrap (a1)) 800)) a2 (wrap64 (Int.tmod (IntKind.u64.wrap (a3)) 7)) x9_1 (wrap64 (x10_1 + 1)))) = some r := H
        have A6 := Aside0.mk A60
        clear A60
        by_cases c7 : t287 = (wrap64 (Int.tmod (IntKind.u64.wrap (a3)) 7))
        · rw [if_pos c7] at H
          have c7b0 : (t287 == (wrap64 (Int.tmod (IntKind.u64.wrap (a3)) 7))) = true := beq_iff_eq.mpr c7
          have c7b1 : (t287 != (wrap64 (Int.tmod (IntKind.u64.wrap (a3)) 7))) = false := bne_eq_false_iff_eq.mpr c7
          clear c7
          replace H := Option.bind_eq_some_iff.mp H
          obtain ⟨⟨t288, t289⟩, A80, H⟩ := H
          replace H : (if t289 = true then (if t288 = x10_1 then (solsticelaw03_WeekNth.l0 k1 (Int.tmod a0 4000000) (wrap64 (Int.tmod (IntKind.u64.wrap (a1)) 800)) a2 (wrap64 (Int.tmod (IntKind.u64.wrap (a3)) 7)) (wrap64 (x9_1 + 1)) (wrap64 (x10_1 + 1))) else (some false)) else (some false)) = some r := H
          have A8 := Aside0.mk A80
          clear A80
          by_cases c9 : t289 = true
          · subst c9
            have H1 : (if t288 = x10_1 then (solsticelaw03_WeekNth.l0 k1 (Int.tmod a0 4000000) (wrap64 (Int.tmod (IntKind.u64.wrap (a1)) 800)) a2 (wrap64 (Int.tmod (IntKind.u64.wrap (a3)) 7)) (wrap64 (x9_1 + 1)) (wrap64 (x10_1 + 1))) else (some false)) = some r := by rw [if_pos rfl] at H; exact H
            clear H
            have H := H1
            clear H1
            by_cases c10 : t288 = x10_1
            · rw [if_pos c10] at H
              have c10b0 : (t288 == x10_1) = true := beq_iff_eq.mpr c10
              have c10b1 : (t288 != x10_1) = false := bne_eq_false_iff_eq.mpr c10
              clear c10
              have H' := Aside0.mk H
              clear H
              go_wp2_with (first | ((with_reducible refine gate_callee (f := 25) rfl ?_); refine goesL_ (some 40) rfl rfl Try.func25 (by kernel_rfl) rfl #[.int .i64 x10_1] rfl (by (try simp only [List.map_toArray, List.map_cons, List.map_nil]); first | done | rfl | (simp only [List.length_drop, List.length_take]; rfl)) ?_; (with_reducible refine (civil_Weekday.calls x10_1 t287 _ A6.out).mono ?_); rintro e w' ⟨rfl, ⟨nd, rfl⟩⟩; refine ⟨_, rfl, ?_⟩) | ((with_reducible refine gate_callee (f := 10) rfl ?_); refine goesL_ (some 52) rfl rfl Try.func10 (by kernel_rfl) rfl #[.int .i64 (Int.tmod a0 4000000), .int .i64 (wrap64 ((Int.tmod a0 4000000) + (wrap64 (Int.tmod (IntKind.u64.wrap (a1)) 800)))), .int .i64 (wrap64 (x9_1 + 1)), .int .i64 (wrap64 (Int.tmod (IntKind.u64.wrap (a3)) 7))] rfl (by (try simp only [List.map_toArray, List.map_cons, List.map_nil]); first | done | rfl | (simp only [List.length_drop, List.length_take]; rfl)) ?_; (with_reducible refine (week_Nth.calls k1 (Int.tmod a0 4000000) (wrap64 ((Int.tmod a0 4000000) + (wrap64 (Int.tmod (IntKind.u64.wrap (a1)) 800)))) (wrap64 (x9_1 + 1)) (wrap64 (Int.tmod (IntKind.u64.wrap (a3)) 7)) t288 true _ A8.out).mono ?_); rintro e w' ⟨rfl, ⟨nd, rfl⟩⟩; refine ⟨_, rfl, ?_⟩))
              go_roundg k1
              case measure => have := HK1.out; omega
              case rel => exact ⟨(wrap64 (x9_1 + 1)), (wrap64 (x10_1 + 1)), (by first | rfl | (simp; done) | (simp [*]; done)), (by first | rfl | (simp; done) | (simp [*]; done)), H', ⟨by have := HK1.out; omega⟩, ⟨by repeat (first | (with_reducible first | exact HB.out | apply below_alloc | apply pw_below_drewN | apply below_drew1) | exact HB.out)⟩⟩
            · rw [if_neg c10] at H
              have c10b0 : (t288 == x10_1) = false := beq_eq_false_iff_ne.mpr c10
              have c10b1 : (t288 != x10_1) = true := bne_iff_ne.mpr c10
              obtain rfl := Option.some.inj H
              go_wp2_with (first | ((with_reducible refine gate_callee (f := 25) rfl ?_); refine goesL_ (some 40) rfl rfl Try.func25 (by kernel_rfl) rfl #[.int .i64 x10_1] rfl (by (try simp only [List.map_toArray, List.map_cons, List.map_nil]); first | done | rfl | (simp only [List.length_drop, List.length_take]; rfl)) ?_; (with_reducible refine (civil_Weekday.calls x10_1 t287 _ A6.out).mono ?_); rintro e w' ⟨rfl, ⟨nd, rfl⟩⟩; refine ⟨_, rfl, ?_⟩) | ((with_reducible refine gate_callee (f := 10) rfl ?_); refine goesL_ (some 52) rfl rfl Try.func10 (by kernel_rfl) rfl #[.int .i64 (Int.tmod a0 4000000), .int .i64 (wrap64 ((Int.tmod a0 4000000) + (wrap64 (Int.tmod (IntKind.u64.wrap (a1)) 800)))), .int .i64 (wrap64 (x9_1 + 1)), .int .i64 (wrap64 (Int.tmod (IntKind.u64.wrap (a3)) 7))] rfl (by (try simp only [List.map_toArray, List.map_cons, List.map_nil]); first | done | rfl | (simp only [List.length_drop, List.length_take]; rfl)) ?_; (with_reducible refine (week_Nth.calls k1 (Int.tmod a0 4000000) (wrap64 ((Int.tmod a0 4000000) + (wrap64 (Int.tmod (IntKind.u64.wrap (a1)) 800)))) (wrap64 (x9_1 + 1)) (wrap64 (Int.tmod (IntKind.u64.wrap (a3)) 7)) t288 true _ A8.out).mono ?_); rintro e w' ⟨rfl, ⟨nd, rfl⟩⟩; refine ⟨_, rfl, ?_⟩))
              go_ret
              exact ⟨by first | rfl | (simp [errW_none, errW_some] <;> rfl) | (simp [*, errW_none, errW_some] <;> rfl), by repeat (first | (with_reducible first | exact HB.out | apply below_alloc | apply pw_below_drewN | apply below_drew1) | exact HB.out)⟩
          · replace c9 := Bool.eq_false_iff.mpr c9
            subst c9
            have H1 : (some false) = some r := by rw [if_neg (show ¬ (false = true) by decide)] at H; exact H
            clear H
            have H := H1
            clear H1
            obtain rfl := Option.some.inj H
            go_wp2_with (first | ((with_reducible refine gate_callee (f := 25) rfl ?_); refine goesL_ (some 40) rfl rfl Try.func25 (by kernel_rfl) rfl #[.int .i64 x10_1] rfl (by (try simp only [List.map_toArray, List.map_cons, List.map_nil]); first | done | rfl | (simp only [List.length_drop, List.length_take]; rfl)) ?_; (with_reducible refine (civil_Weekday.calls x10_1 t287 _ A6.out).mono ?_); rintro e w' ⟨rfl, ⟨nd, rfl⟩⟩; refine ⟨_, rfl, ?_⟩) | ((with_reducible refine gate_callee (f := 10) rfl ?_); refine goesL_ (some 52) rfl rfl Try.func10 (by kernel_rfl) rfl #[.int .i64 (Int.tmod a0 4000000), .int .i64 (wrap64 ((Int.tmod a0 4000000) + (wrap64 (Int.tmod (IntKind.u64.wrap (a1)) 800)))), .int .i64 (wrap64 (x9_1 + 1)), .int .i64 (wrap64 (Int.tmod (IntKind.u64.wrap (a3)) 7))] rfl (by (try simp only [List.map_toArray, List.map_cons, List.map_nil]); first | done | rfl | (simp only [List.length_drop, List.length_take]; rfl)) ?_; (with_reducible refine (week_Nth.calls k1 (Int.tmod a0 4000000) (wrap64 ((Int.tmod a0 4000000) + (wrap64 (Int.tmod (IntKind.u64.wrap (a1)) 800)))) (wrap64 (x9_1 + 1)) (wrap64 (Int.tmod (IntKind.u64.wrap (a3)) 7)) t288 false _ A8.out).mono ?_); rintro e w' ⟨rfl, ⟨nd, rfl⟩⟩; refine ⟨_, rfl, ?_⟩))
            go_ret
            exact ⟨by first | rfl | (simp [errW_none, errW_some] <;> rfl) | (simp [*, errW_none, errW_some] <;> rfl), by repeat (first | (with_reducible first | exact HB.out | apply below_alloc | apply pw_below_drewN | apply below_drew1) | exact HB.out)⟩
        · rw [if_neg c7] at H
          have c7b0 : (t287 == (wrap64 (Int.tmod (IntKind.u64.wrap (a3)) 7))) = false := beq_eq_false_iff_ne.mpr c7
          have c7b1 : (t287 != (wrap64 (Int.tmod (IntKind.u64.wrap (a3)) 7))) = true := bne_iff_ne.mpr c7
          have H' := Aside0.mk H
          clear H
          go_wp2_with (first | ((with_reducible refine gate_callee (f := 25) rfl ?_); refine goesL_ (some 40) rfl rfl Try.func25 (by kernel_rfl) rfl #[.int .i64 x10_1] rfl (by (try simp only [List.map_toArray, List.map_cons, List.map_nil]); first | done | rfl | (simp only [List.length_drop, List.length_take]; rfl)) ?_; (with_reducible refine (civil_Weekday.calls x10_1 t287 _ A6.out).mono ?_); rintro e w' ⟨rfl, ⟨nd, rfl⟩⟩; refine ⟨_, rfl, ?_⟩))
          go_roundg k1
          case measure => have := HK1.out; omega
          case rel => exact ⟨(x9_1), (wrap64 (x10_1 + 1)), (by first | rfl | (simp; done) | (simp [*]; done)), (by first | rfl | (simp; done) | (simp [*]; done)), H', ⟨by have := HK1.out; omega⟩, ⟨by repeat (first | (with_reducible first | exact HB.out | apply below_alloc | apply pw_below_drewN | apply below_drew1) | exact HB.out)⟩⟩
      · rw [if_neg c5] at H
        have c5b0 : decide (x10_1 ≤ (wrap64 ((Int.tmod a0 4000000) + (wrap64 (Int.tmod (IntKind.u64.wrap (a1)) 800))))) = false := decide_eq_false c5
        clear c5
        replace H := Option.bind_eq_some_iff.mp H
        obtain ⟨⟨t290, t291⟩, A110, H⟩ := H
        replace H : ((week_Nth.f k1 (Int.tmod a0 4000000) (wrap64 ((Int.tmod a0 4000000) + (wrap64 (Int.tmod (IntKind.u64.wrap (a1)) 800)))) (wrap64 ((wrap64 ((wrap64 (1 + (wrap64 (Int.tmod (IntKind.u64.wrap (a2)) 400)))) - x9_1)) - 1)) (wrap64 (Int.tmod (IntKind.u64.wrap (a3)) 7))).bind fun bt292 => (if (t291 != (decide ((wrap64 (1 + (wrap64 (Int.tmod (IntKind.u64.wrap (a2)) 400)))) ≤ x9_1))) = true then (solsticelaw03_WeekNth.j1 k1 (Int.tmod a0 4000000) (wrap64 (Int.tmod (IntKind.u64.wrap (a1)) 800)) (wrap64 (Int.tmod (IntKind.u64.wrap (a3)) 7)) true) else (if t291 = true then (if bt292.2 = true then (solsticelaw03_WeekNth.j1 k1 (Int.tmod a0 4000000) (wrap64 (Int.tmod (IntKind.u64.wrap (a1)) 800)) (wrap64 (Int.tmod (IntKind.u64.wrap (a3)) 7)) (t290 != bt292.1)) else (solsticelaw03_WeekNth.j1 k1 (Int.tmod a0 4000000) (wrap64 (Int.tmod (IntKind.u64.wrap (a1)) 800)) (wrap64 (Int.tmod (IntKind.u64.wrap (a3)) 7)) true)) else (solsticelaw03_WeekNth.j1 k1 (Int.tmod a0 4000000) (wrap64 (Int.tmod (IntKind.u64.wrap (a1)) 800)) (wrap64 (Int.tmod (IntKind.u64.wrap (a3)) 7)) false)))) = some r := H
        have A11 := Aside0.mk A110
        clear A110
        replace H := Option.bind_eq_some_iff.mp H
        obtain ⟨⟨t292, t293⟩, A120, H⟩ := H
        replace H : (if (t291 != (decide ((wrap64 (1 + (wrap64 (Int.tmod (IntKind.u64.wrap (a2)) 400)))) ≤ x9_1))) = true then (solsticelaw03_WeekNth.j1 k1 (Int.tmod a0 4000000) (wrap64 (Int.tmod (IntKind.u64.wrap (a1)) 800)) (wrap64 (Int.tmod (IntKind.u64.wrap (a3)) 7)) true) else (if t291 = true then (if t293 = true then (solsticelaw03_WeekNth.j1 k1 (Int.tmod a0 4000000) (wrap64 (Int.tmod (IntKind.u64.wrap (a1)) 800)) (wrap64 (Int.tmod (IntKind.u64.wrap (a3)) 7)) (t290 != t292)) else (solsticelaw03_WeekNth.j1 k1 (Int.tmod a0 4000000) (wrap64 (Int.tmod (IntKind.u64.wrap (a1)) 800)) (wrap64 (Int.tmod (IntKind.u64.wrap (a3)) 7)) true)) else (solsticelaw03_WeekNth.j1 k1 (Int.tmod a0 4000000) (wrap64 (Int.tmod (IntKind.u64.wrap (a1)) 800)) (wrap64 (Int.tmod (IntKind.u64.wrap (a3)) 7)) false))) = some r := H
        have A12 := Aside0.mk A120
        clear A120
        have HC13 := Aside0.mk H
        clear H
        go_upto_region 14 with (first | ((with_reducible refine gate_callee (f := 10) rfl ?_); refine goesL_ (some 74) rfl rfl Try.func10 (by kernel_rfl) rfl #[.int .i64 (Int.tmod a0 4000000), .int .i64 (wrap64 ((Int.tmod a0 4000000) + (wrap64 (Int.tmod (IntKind.u64.wrap (a1)) 800)))), .int .i64 (wrap64 (1 + (wrap64 (Int.tmod (IntKind.u64.wrap (a2)) 400)))), .int .i64 (wrap64 (Int.tmod (IntKind.u64.wrap (a3)) 7))] rfl (by (try simp only [List.map_toArray, List.map_cons, List.map_nil]); first | done | rfl | (simp only [List.length_drop, List.length_take]; rfl)) ?_; (with_reducible refine (week_Nth.calls k1 (Int.tmod a0 4000000) (wrap64 ((Int.tmod a0 4000000) + (wrap64 (Int.tmod (IntKind.u64.wrap (a1)) 800)))) (wrap64 (1 + (wrap64 (Int.tmod (IntKind.u64.wrap (a2)) 400)))) (wrap64 (Int.tmod (IntKind.u64.wrap (a3)) 7)) t290 t291 _ A11.out).mono ?_); rintro e w' ⟨rfl, ⟨nd, rfl⟩⟩; refine ⟨_, rfl, ?_⟩) | ((with_reducible refine gate_callee (f := 10) rfl ?_); refine goesL_ (some 87) rfl rfl Try.func10 (by kernel_rfl) rfl #[.int .i64 (Int.tmod a0 4000000), .int .i64 (wrap64 ((Int.tmod a0 4000000) + (wrap64 (Int.tmod (IntKind.u64.wrap (a1)) 800)))), .int .i64 (wrap64 ((wrap64 ((wrap64 (1 + (wrap64 (Int.tmod (IntKind.u64.wrap (a2)) 400)))) - x9_1)) - 1)), .int .i64 (wrap64 (Int.tmod (IntKind.u64.wrap (a3)) 7))] rfl (by (try simp only [List.map_toArray, List.map_cons, List.map_nil]); first | done | rfl | (simp only [List.length_drop, List.length_take]; rfl)) ?_; (with_reducible refine (week_Nth.calls k1 (Int.tmod a0 4000000) (wrap64 ((Int.tmod a0 4000000) + (wrap64 (Int.tmod (IntKind.u64.wrap (a1)) 800)))) (wrap64 ((wrap64 ((wrap64 (1 + (wrap64 (Int.tmod (IntKind.u64.wrap (a2)) 400)))) - x9_1)) - 1)) (wrap64 (Int.tmod (IntKind.u64.wrap (a3)) 7)) t292 t293 _ A12.out).mono ?_); rintro e w' ⟨rfl, ⟨nd, rfl⟩⟩; refine ⟨_, rfl, ?_⟩))
        (try simp only [Act.put, List.setIfInBounds_toArray, List.set_cons_zero, List.set_cons_succ])
        go_cut [106] (fun v106 wc => ∃ (kq : Nat) (x106_12 : Bool), v106 = .bool x106_12 ∧ Aside0 (solsticelaw03_WeekNth.j1 kq (Int.tmod a0 4000000) (wrap64 (Int.tmod (IntKind.u64.wrap (a1)) 800)) (wrap64 (Int.tmod (IntKind.u64.wrap (a3)) 7)) x106_12 = some r) ∧ Aside0 (kq ≤ k1) ∧ Aside0 (Below w.heap.size w wc))
        case first =>
          have H := HC13.out
          clear HC13
          by_cases c14 : (t291 != (decide ((wrap64 (1 + (wrap64 (Int.tmod (IntKind.u64.wrap (a2)) 400)))) ≤ x9_1))) = true
          · rw [if_pos c14] at H
            have c14b0 : (t291 != (decide ((wrap64 (1 + (wrap64 (Int.tmod (IntKind.u64.wrap (a2)) 400)))) ≤ x9_1))) = true := c14
            (try (have c14b1 : decide (t291 = (decide ((wrap64 (1 + (wrap64 (Int.tmod (IntKind.u64.wrap (a2)) 400)))) ≤ x9_1))) = false := by simpa using c14))
            (try (have c14b2 : (t291 == (decide ((wrap64 (1 + (wrap64 (Int.tmod (IntKind.u64.wrap (a2)) 400)))) ≤ x9_1))) = false := by simpa using c14))
            (try (have c14b3 : ¬ (t291 = (decide ((wrap64 (1 + (wrap64 (Int.tmod (IntKind.u64.wrap (a2)) 400)))) ≤ x9_1))) := by simpa using c14))
            clear c14
            (first | rw [c14b0] | (simp only [i64_w, i32_w]; rw [c14b0]) | skip)
            have H' := Aside0.mk H
            clear H
            go_wp2
            go_meet
            case rel => exact ⟨_, (true), (by first | rfl | (simp; done) | (simp [*]; done)), H', ⟨by have := HK1.out; first | omega | exact Nat.le_refl _⟩, ⟨by repeat (first | (with_reducible first | exact HB.out | apply below_alloc | apply pw_below_drewN | apply below_drew1) | exact HB.out)⟩⟩
          · rw [if_neg c14] at H
            have c14b0 : (t291 != (decide ((wrap64 (1 + (wrap64 (Int.tmod (IntKind.u64.wrap (a2)) 400)))) ≤ x9_1))) = false := by simpa using c14
            (try (have c14b1 : decide (t291 = (decide ((wrap64 (1 + (wrap64 (Int.tmod (IntKind.u64.wrap (a2)) 400)))) ≤ x9_1))) = true := by simpa using c14))
            (try (have c14b2 : (t291 == (decide ((wrap64 (1 + (wrap64 (Int.tmod (IntKind.u64.wrap (a2)) 400)))) ≤ x9_1))) = true := by simpa using c14))
            clear c14
            (first | rw [c14b0] | (simp only [i64_w, i32_w]; rw [c14b0]) | skip)
            by_cases c15 : t291 = true
            · subst c15
              have H1 : (if t293 = true then (solsticelaw03_WeekNth.j1 k1 (Int.tmod a0 4000000) (wrap64 (Int.tmod (IntKind.u64.wrap (a1)) 800)) (wrap64 (Int.tmod (IntKind.u64.wrap (a3)) 7)) (t290 != t292)) else (solsticelaw03_WeekNth.j1 k1 (Int.tmod a0 4000000) (wrap64 (Int.tmod (IntKind.u64.wrap (a1)) 800)) (wrap64 (Int.tmod (IntKind.u64.wrap (a3)) 7)) true)) = some r := by rw [if_pos rfl] at H; exact H
              clear H
              have H := H1
              clear H1
              by_cases c16 : t293 = true
              · subst c16
                have H1 : (solsticelaw03_WeekNth.j1 k1 (Int.tmod a0 4000000) (wrap64 (Int.tmod (IntKind.u64.wrap (a1)) 800)) (wrap64 (Int.tmod (IntKind.u64.wrap (a3)) 7)) (t290 != t292)) = some r := by rw [if_pos rfl] at H; exact H
                clear H
                have H := H1
                clear H1
                have H' := Aside0.mk H
                clear H
                go_wp2
                go_meet
                case rel => exact ⟨_, ((t290 != t292)), (by first | rfl | (simp; done) | (simp [*]; done)), H', ⟨by have := HK1.out; first | omega | exact Nat.le_refl _⟩, ⟨by repeat (first | (with_reducible first | exact HB.out | apply below_alloc | apply pw_below_drewN | apply below_drew1) | exact HB.out)⟩⟩
              · replace c16 := Bool.eq_false_iff.mpr c16
                subst c16
                have H1 : (solsticelaw03_WeekNth.j1 k1 (Int.tmod a0 4000000) (wrap64 (Int.tmod (IntKind.u64.wrap (a1)) 800)) (wrap64 (Int.tmod (IntKind.u64.wrap (a3)) 7)) true) = some r := by rw [if_neg (show ¬ (false = true) by decide)] at H; exact H
                clear H
                have H := H1
                clear H1
                have H' := Aside0.mk H
                clear H
                go_wp2
                go_meet
                case rel => exact ⟨_, (true), (by first | rfl | (simp; done) | (simp [*]; done)), H', ⟨by have := HK1.out; first | omega | exact Nat.le_refl _⟩, ⟨by repeat (first | (with_reducible first | exact HB.out | apply below_alloc | apply pw_below_drewN | apply below_drew1) | exact HB.out)⟩⟩
            · replace c15 := Bool.eq_false_iff.mpr c15
              subst c15
              have H1 : (solsticelaw03_WeekNth.j1 k1 (Int.tmod a0 4000000) (wrap64 (Int.tmod (IntKind.u64.wrap (a1)) 800)) (wrap64 (Int.tmod (IntKind.u64.wrap (a3)) 7)) false) = some r := by rw [if_neg (show ¬ (false = true) by decide)] at H; exact H
              clear H
              have H := H1
              clear H1
              have H' := Aside0.mk H
              clear H
              go_wp2
              go_meet
              case rel => exact ⟨_, (false), (by first | rfl | (simp; done) | (simp [*]; done)), H', ⟨by have := HK1.out; first | omega | exact Nat.le_refl _⟩, ⟨by repeat (first | (with_reducible first | exact HB.out | apply below_alloc | apply pw_below_drewN | apply below_drew1) | exact HB.out)⟩⟩
        case rest =>
          clear HC13
          try clear c1
          try clear c2
          try clear p2
          try clear c5
          try clear c5b0
          try clear p6
          try clear c7
          try clear c7b0
          try clear c7b1
          try clear c9
          try clear c10
          try clear c10b0
          try clear c10b1
          try clear c14
          try clear c14b0
          try clear c14b1
          try clear c14b2
          try clear c15
          try clear c16
          try clear p2
          obtain ⟨kq, x106_12, rfl, HA, HJ12, HB⟩ := hcut
          cases kq with
          | zero => exact absurd HA.out (by simp [solsticelaw03_WeekNth.j1])
          | succ kj12 =>
            have H := HA.out
            clear HA
            simp only [solsticelaw03_WeekNth.j1] at H
            by_cases c17 : x106_12 = true
            · subst c17
              have H1 : (some false) = some r := by rw [if_pos rfl] at H; exact H
              clear H
              have H := H1
              clear H1
              obtain rfl := Option.some.inj H
              go_wp2
              go_ret
              exact ⟨by first | rfl | (simp [errW_none, errW_some] <;> rfl) | (simp [*, errW_none, errW_some] <;> rfl), by repeat (first | (with_reducible first | exact HB.out | apply below_alloc | apply pw_below_drewN | apply below_drew1) | exact HB.out)⟩
            · replace c17 := Bool.eq_false_iff.mpr c17
              subst c17
              have H1 : ((week_Nth.f kj12 (Int.tmod a0 4000000) (wrap64 ((Int.tmod a0 4000000) + (wrap64 (Int.tmod (IntKind.u64.wrap (a1)) 800)))) 0 (wrap64 (Int.tmod (IntKind.u64.wrap (a3)) 7))).bind fun bt294 => ((week_Nth.f kj12 (wrap64 ((Int.tmod a0 4000000) + 1)) (Int.tmod a0 4000000) 1 (wrap64 (Int.tmod (IntKind.u64.wrap (a3)) 7))).bind fun bt296 => (if bt294.2 = true then (some false) else (if bt296.2 = true then (some false) else ((solsticelaw03_wakes.f kj12).bind fun t298 => (some t298)))))) = some r := by rw [if_neg (show ¬ (false = true) by decide)] at H; exact H
              clear H
              have H := H1
              clear H1
              replace H := Option.bind_eq_some_iff.mp H
              obtain ⟨⟨t294, t295⟩, A180, H⟩ := H
              replace H : ((week_Nth.f kj12 (wrap64 ((Int.tmod a0 4000000) + 1)) (Int.tmod a0 4000000) 1 (wrap64 (Int.tmod (IntKind.u64.wrap (a3)) 7))).bind fun bt296 => (if t295 = true then (some false) else (if bt296.2 = true then (some false) else ((solsticelaw03_wakes.f kj12).bind fun t298 => (some t298))))) = some r := H
              have A18 := Aside0.mk A180
              clear A180
              replace H := Option.bind_eq_some_iff.mp H
              obtain ⟨⟨t296, t297⟩, A190, H⟩ := H
              replace H : (if t295 = true then (some false) else (if t297 = true then (some false) else ((solsticelaw03_wakes.f kj12).bind fun t298 => (some t298)))) = some r := H
              have A19 := Aside0.mk A190
              clear A190
              by_cases c20 : t295 = true
              · subst c20
                have H1 : (some false) = some r := by rw [if_pos rfl] at H; exact H
                clear H
                have H := H1
                clear H1
                obtain rfl := Option.some.inj H
                go_wp2_with (first | ((with_reducible refine gate_callee (f := 10) rfl ?_); refine goesL_ (some 113) rfl rfl Try.func10 (by kernel_rfl) rfl #[.int .i64 (Int.tmod a0 4000000), .int .i64 (wrap64 ((Int.tmod a0 4000000) + (wrap64 (Int.tmod (IntKind.u64.wrap (a1)) 800)))), .int .i64 0, .int .i64 (wrap64 (Int.tmod (IntKind.u64.wrap (a3)) 7))] rfl (by (try simp only [List.map_toArray, List.map_cons, List.map_nil]); first | done | rfl | (simp only [List.length_drop, List.length_take]; rfl)) ?_; (with_reducible refine (week_Nth.calls kj12 (Int.tmod a0 4000000) (wrap64 ((Int.tmod a0 4000000) + (wrap64 (Int.tmod (IntKind.u64.wrap (a1)) 800)))) 0 (wrap64 (Int.tmod (IntKind.u64.wrap (a3)) 7)) t294 true _ A18.out).mono ?_); rintro e w' ⟨rfl, ⟨nd, rfl⟩⟩; refine ⟨_, rfl, ?_⟩) | ((with_reducible refine gate_callee (f := 10) rfl ?_); refine goesL_ (some 121) rfl rfl Try.func10 (by kernel_rfl) rfl #[.int .i64 (wrap64 ((Int.tmod a0 4000000) + 1)), .int .i64 (Int.tmod a0 4000000), .int .i64 1, .int .i64 (wrap64 (Int.tmod (IntKind.u64.wrap (a3)) 7))] rfl (by (try simp only [List.map_toArray, List.map_cons, List.map_nil]); first | done | rfl | (simp only [List.length_drop, List.length_take]; rfl)) ?_; (with_reducible refine (week_Nth.calls kj12 (wrap64 ((Int.tmod a0 4000000) + 1)) (Int.tmod a0 4000000) 1 (wrap64 (Int.tmod (IntKind.u64.wrap (a3)) 7)) t296 t297 _ A19.out).mono ?_); rintro e w' ⟨rfl, ⟨nd, rfl⟩⟩; refine ⟨_, rfl, ?_⟩))
                go_ret
                exact ⟨by first | rfl | (simp [errW_none, errW_some] <;> rfl) | (simp [*, errW_none, errW_some] <;> rfl), by repeat (first | (with_reducible first | exact HB.out | apply below_alloc | apply pw_below_drewN | apply below_drew1) | exact HB.out)⟩
              · replace c20 := Bool.eq_false_iff.mpr c20
                subst c20
                have H1 : (if t297 = true then (some false) else ((solsticelaw03_wakes.f kj12).bind fun t298 => (some t298))) = some r := by rw [if_neg (show ¬ (false = true) by decide)] at H; exact H
                clear H
                have H := H1
                clear H1
                by_cases c21 : t297 = true
                · subst c21
                  have H1 : (some false) = some r := by rw [if_pos rfl] at H; exact H
                  clear H
                  have H := H1
                  clear H1
                  obtain rfl := Option.some.inj H
                  go_wp2_with (first | ((with_reducible refine gate_callee (f := 10) rfl ?_); refine goesL_ (some 113) rfl rfl Try.func10 (by kernel_rfl) rfl #[.int .i64 (Int.tmod a0 4000000), .int .i64 (wrap64 ((Int.tmod a0 4000000) + (wrap64 (Int.tmod (IntKind.u64.wrap (a1)) 800)))), .int .i64 0, .int .i64 (wrap64 (Int.tmod (IntKind.u64.wrap (a3)) 7))] rfl (by (try simp only [List.map_toArray, List.map_cons, List.map_nil]); first | done | rfl | (simp only [List.length_drop, List.length_take]; rfl)) ?_; (with_reducible refine (week_Nth.calls kj12 (Int.tmod a0 4000000) (wrap64 ((Int.tmod a0 4000000) + (wrap64 (Int.tmod (IntKind.u64.wrap (a1)) 800)))) 0 (wrap64 (Int.tmod (IntKind.u64.wrap (a3)) 7)) t294 false _ A18.out).mono ?_); rintro e w' ⟨rfl, ⟨nd, rfl⟩⟩; refine ⟨_, rfl, ?_⟩) | ((with_reducible refine gate_callee (f := 10) rfl ?_); refine goesL_ (some 121) rfl rfl Try.func10 (by kernel_rfl) rfl #[.int .i64 (wrap64 ((Int.tmod a0 4000000) + 1)), .int .i64 (Int.tmod a0 4000000), .int .i64 1, .int .i64 (wrap64 (Int.tmod (IntKind.u64.wrap (a3)) 7))] rfl (by (try simp only [List.map_toArray, List.map_cons, List.map_nil]); first | done | rfl | (simp only [List.length_drop, List.length_take]; rfl)) ?_; (with_reducible refine (week_Nth.calls kj12 (wrap64 ((Int.tmod a0 4000000) + 1)) (Int.tmod a0 4000000) 1 (wrap64 (Int.tmod (IntKind.u64.wrap (a3)) 7)) t296 true _ A19.out).mono ?_); rintro e w' ⟨rfl, ⟨nd, rfl⟩⟩; refine ⟨_, rfl, ?_⟩))
                  go_ret
                  exact ⟨by first | rfl | (simp [errW_none, errW_some] <;> rfl) | (simp [*, errW_none, errW_some] <;> rfl), by repeat (first | (with_reducible first | exact HB.out | apply below_alloc | apply pw_below_drewN | apply below_drew1) | exact HB.out)⟩
                · replace c21 := Bool.eq_false_iff.mpr c21
                  subst c21
                  have H1 : ((solsticelaw03_wakes.f kj12).bind fun t298 => (some t298)) = some r := by rw [if_neg (show ¬ (false = true) by decide)] at H; exact H
                  clear H
                  have H := H1
                  clear H1
                  replace H := Option.bind_eq_some_iff.mp H
                  obtain ⟨t298, A220, H⟩ := H
                  replace H : (some t298) = some r := H
                  have A22 := Aside0.mk A220
                  clear A220
                  obtain rfl := Option.some.inj H
                  go_wp2_with (first | ((with_reducible refine gate_callee (f := 10) rfl ?_); refine goesL_ (some 113) rfl rfl Try.func10 (by kernel_rfl) rfl #[.int .i64 (Int.tmod a0 4000000), .int .i64 (wrap64 ((Int.tmod a0 4000000) + (wrap64 (Int.tmod (IntKind.u64.wrap (a1)) 800)))), .int .i64 0, .int .i64 (wrap64 (Int.tmod (IntKind.u64.wrap (a3)) 7))] rfl (by (try simp only [List.map_toArray, List.map_cons, List.map_nil]); first | done | rfl | (simp only [List.length_drop, List.length_take]; rfl)) ?_; (with_reducible refine (week_Nth.calls kj12 (Int.tmod a0 4000000) (wrap64 ((Int.tmod a0 4000000) + (wrap64 (Int.tmod (IntKind.u64.wrap (a1)) 800)))) 0 (wrap64 (Int.tmod (IntKind.u64.wrap (a3)) 7)) t294 false _ A18.out).mono ?_); rintro e w' ⟨rfl, ⟨nd, rfl⟩⟩; refine ⟨_, rfl, ?_⟩) | ((with_reducible refine gate_callee (f := 10) rfl ?_); refine goesL_ (some 121) rfl rfl Try.func10 (by kernel_rfl) rfl #[.int .i64 (wrap64 ((Int.tmod a0 4000000) + 1)), .int .i64 (Int.tmod a0 4000000), .int .i64 1, .int .i64 (wrap64 (Int.tmod (IntKind.u64.wrap (a3)) 7))] rfl (by (try simp only [List.map_toArray, List.map_cons, List.map_nil]); first | done | rfl | (simp only [List.length_drop, List.length_take]; rfl)) ?_; (with_reducible refine (week_Nth.calls kj12 (wrap64 ((Int.tmod a0 4000000) + 1)) (Int.tmod a0 4000000) 1 (wrap64 (Int.tmod (IntKind.u64.wrap (a3)) 7)) t296 false _ A19.out).mono ?_); rintro e w' ⟨rfl, ⟨nd, rfl⟩⟩; refine ⟨_, rfl, ?_⟩) | (go_at_call 17; (with_reducible refine (solsticelaw03_wakes.calls kj12  t298 _ A22.out).mono ?_); rintro e w23 ⟨rfl, hb⟩; have n0_ := Aside0.mk (below_step (by repeat (first | (with_reducible first | exact HB.out | apply below_alloc | apply pw_below_drewN | apply below_drew1) | exact HB.out)) hb); clear HB; have HB := n0_; clear n0_; (try clear hb); (try clear hb2); (try clear hk); (try clear hi)))
                  go_ret
                  exact ⟨by first | rfl | (simp [errW_none, errW_some] <;> rfl) | (simp [*, errW_none, errW_some] <;> rfl), by repeat (first | (with_reducible first | exact HB.out | apply below_alloc | apply pw_below_drewN | apply below_drew1) | exact HB.out)⟩

/-- THE ONE PURE STATEMENT of solsticelaw03_WeekNth: yours. -/
def solsticelaw03_WeekNth.Pure : Prop := ∀ (a0 : Int) (a1 : Int) (a2 : Int) (a3 : Int), (Lit.int .i64 a0).wf = true → (Lit.int .i64 a1).wf = true → (Lit.int .i64 a2).wf = true → (Lit.int .i64 a3).wf = true → ∃ k, solsticelaw03_WeekNth.f k a0 a1 a2 a3 = some true
theorem solsticelaw03_WeekNth.walk (P : solsticelaw03_WeekNth.Pure) (a0 : Int) (a1 : Int) (a2 : Int) (a3 : Int) (w : World) (w0 : (Lit.int .i64 a0).wf = true) (w1 : (Lit.int .i64 a1).wf = true) (w2 : (Lit.int .i64 a2).wf = true) (w3 : (Lit.int .i64 a3).wf = true) :
    Calls Try.prog 5 #[.int .i64 a0, .int .i64 a1, .int .i64 a2, .int .i64 a3] w fun e w' => e = .returned (.bool true) ∧ Below w.heap.size w w' := by
  obtain ⟨k, h⟩ := P a0 a1 a2 a3 w0 w1 w2 w3
  refine (solsticelaw03_WeekNth.calls k a0 a1 a2 a3 true w h).mono ?_
  rintro e w' ⟨rfl, hd⟩
  exact ⟨rfl, hd⟩

end Go.Proofs.Ytlefnaoflajnmaa.O
