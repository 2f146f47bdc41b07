-- What some functions of the program compute: a text of this claim's own (lines first written by the kit's tool, some proved anew).
import Derived.Test.YtlefnaoflajnmaaOx0
import Derived.Test.YtlefnaoflajnmaaOx7
import Derived.Test.YtlefnaoflajnmaaOx8
import Derived.Test.YtlefnaoflajnmaaOx15
import Derived.Test.YtlefnaoflajnmaaOx16
import Derived.Test.YtlefnaoflajnmaaOx27
namespace Go.Proofs.Ytlefnaoflajnmaa.O
open Go.RowKit Go.Proofs.YtlefnaoflajnmaaW.PrintWords Go.Proofs.YtlefnaoflajnmaaW.PrintLast Go.Proofs.YtlefnaoflajnmaaW.PrintMore
attribute [local go_sem] max2_int min2_int max_two min_two max_three min_three max_four min_four   -- for this text's walks alone
set_option linter.unusedVariables false
set_option linter.unusedSimpArgs false

/-! ### solsticelaw03_WeekNumbers: function 6 -/
mutual
def solsticelaw03_WeekNumbers.j0 : Nat → Int → Int → Int → Int → Int → Int → Int → Int → Int → Bool → Option (Bool)
  | 0, _, _, _, _, _, _, _, _, _, _ => none
  | k + 1, x0, x3, x10, x12, x13, x15, x16, x18, x19, x90 => if x90 = true then (some false) else ((week_Weeks.f k x12 x3).bind fun bt311 => ((civil_Number.f k x0 1 4).bind fun bt313 => ((week_No.f k bt313.1 x3).bind fun bt315 => (if bt311.2 = 0 then (if bt313.2 = 0 then (if bt315.2.2 = 0 then (if bt315.1 = x0 then (if bt315.2.1 = 1 then (if bt311.1 < 52 then (solsticelaw03_WeekNumbers.j1 k x3 x10 x12 x13 x15 x16 x18 x19 bt311.1 true) else (if bt311.1 > 53 then (solsticelaw03_WeekNumbers.j1 k x3 x10 x12 x13 x15 x16 x18 x19 bt311.1 true) else (if x13 < 1 then (solsticelaw03_WeekNumbers.j1 k x3 x10 x12 x13 x15 x16 x18 x19 bt311.1 true) else (solsticelaw03_WeekNumbers.j1 k x3 x10 x12 x13 x15 x16 x18 x19 bt311.1 (decide (x13 > bt311.1)))))) else (solsticelaw03_WeekNumbers.j1 k x3 x10 x12 x13 x15 x16 x18 x19 bt311.1 true)) else (solsticelaw03_WeekNumbers.j1 k x3 x10 x12 x13 x15 x16 x18 x19 bt311.1 true)) else (solsticelaw03_WeekNumbers.j1 k x3 x10 x12 x13 x15 x16 x18 x19 bt311.1 true)) else (solsticelaw03_WeekNumbers.j1 k x3 x10 x12 x13 x15 x16 x18 x19 bt311.1 true)) else (solsticelaw03_WeekNumbers.j1 k x3 x10 x12 x13 x15 x16 x18 x19 bt311.1 true)))))
def solsticelaw03_WeekNumbers.j1 : Nat → Int → Int → Int → Int → Int → Int → Int → Int → Int → Bool → Option (Bool)
  | 0, _, _, _, _, _, _, _, _, _, _ => none
  | k + 1, x3, x10, x12, x13, x15, x16, x18, x19, x21, x145 => if x145 = true then (some false) else ((civil_Weekday.f (wrap64 (x10 + 1))).bind fun t318 => (if t318 = x3 then (solsticelaw03_WeekNumbers.j2 k x12 x13 x15 x16 x21 false) else (if x18 = x12 then (solsticelaw03_WeekNumbers.j2 k x12 x13 x15 x16 x21 (x19 != x13)) else (solsticelaw03_WeekNumbers.j2 k x12 x13 x15 x16 x21 true))))
def solsticelaw03_WeekNumbers.j2 : Nat → Int → Int → Int → Int → Int → Bool → Option (Bool)
  | 0, _, _, _, _, _, _ => none
  | k + 1, x12, x13, x15, x16, x21, x160 => if x160 = true then (some false) else (if x13 < x21 then (if x15 = x12 then (if x16 = (wrap64 (x13 + 1)) then ((solsticelaw03_wakes.f k).bind fun t319 => (some t319)) else (some false)) else (some false)) else (if x15 = (wrap64 (x12 + 1)) then (if x16 = 1 then ((solsticelaw03_wakes.f k).bind fun t320 => (some t320)) else (some false)) else (some false)))
end
def solsticelaw03_WeekNumbers.f (k : Nat) (a0 : Int) (a1 : Int) (a2 : Int) (a3 : Int) : Option (Bool) := (civil_Number.f k (wrap64 (2 + (wrap64 (Int.tmod (IntKind.u64.wrap (a0)) 9990)))) (wrap64 (1 + (wrap64 (Int.tmod (IntKind.u64.wrap (a1)) 12)))) (wrap64 (1 + (wrap64 (Int.tmod (IntKind.u64.wrap (a2)) 28))))).bind fun bt300 => ((week_No.f k bt300.1 (wrap64 (Int.tmod (IntKind.u64.wrap (a3)) 7))).bind fun bt302 => ((week_No.f k (wrap64 (bt300.1 + 7)) (wrap64 (Int.tmod (IntKind.u64.wrap (a3)) 7))).bind fun bt305 => ((week_No.f k (wrap64 (bt300.1 + 1)) (wrap64 (Int.tmod (IntKind.u64.wrap (a3)) 7))).bind fun bt308 => (if bt300.2 = 0 then (if bt302.2.2 = 0 then (if bt305.2.2 = 0 then (solsticelaw03_WeekNumbers.j0 k (wrap64 (2 + (wrap64 (Int.tmod (IntKind.u64.wrap (a0)) 9990)))) (wrap64 (Int.tmod (IntKind.u64.wrap (a3)) 7)) bt300.1 bt302.1 bt302.2.1 bt305.1 bt305.2.1 bt308.1 bt308.2.1 (bt308.2.2 != 0)) else (solsticelaw03_WeekNumbers.j0 k (wrap64 (2 + (wrap64 (Int.tmod (IntKind.u64.wrap (a0)) 9990)))) (wrap64 (Int.tmod (IntKind.u64.wrap (a3)) 7)) bt300.1 bt302.1 bt302.2.1 bt305.1 bt305.2.1 bt308.1 bt308.2.1 true)) else (solsticelaw03_WeekNumbers.j0 k (wrap64 (2 + (wrap64 (Int.tmod (IntKind.u64.wrap (a0)) 9990)))) (wrap64 (Int.tmod (IntKind.u64.wrap (a3)) 7)) bt300.1 bt302.1 bt302.2.1 bt305.1 bt305.2.1 bt308.1 bt308.2.1 true)) else (solsticelaw03_WeekNumbers.j0 k (wrap64 (2 + (wrap64 (Int.tmod (IntKind.u64.wrap (a0)) 9990)))) (wrap64 (Int.tmod (IntKind.u64.wrap (a3)) 7)) bt300.1 bt302.1 bt302.2.1 bt305.1 bt305.2.1 bt308.1 bt308.2.1 true)))))
theorem solsticelaw03_WeekNumbers.mono_l : ∀ k, (∀ y0 y1 y2 y3 y4 y5 y6 y7 y8 y9, LeO (solsticelaw03_WeekNumbers.j0 k y0 y1 y2 y3 y4 y5 y6 y7 y8 y9) (solsticelaw03_WeekNumbers.j0 (k + 1) y0 y1 y2 y3 y4 y5 y6 y7 y8 y9)) ∧ (∀ y0 y1 y2 y3 y4 y5 y6 y7 y8 y9, LeO (solsticelaw03_WeekNumbers.j1 k y0 y1 y2 y3 y4 y5 y6 y7 y8 y9) (solsticelaw03_WeekNumbers.j1 (k + 1) y0 y1 y2 y3 y4 y5 y6 y7 y8 y9)) ∧ (∀ y0 y1 y2 y3 y4 y5, LeO (solsticelaw03_WeekNumbers.j2 k y0 y1 y2 y3 y4 y5) (solsticelaw03_WeekNumbers.j2 (k + 1) y0 y1 y2 y3 y4 y5))
  | 0 => ⟨fun _ _ _ _ _ _ _ _ _ _ r h => by simp [solsticelaw03_WeekNumbers.j0] at h, fun _ _ _ _ _ _ _ _ _ _ r h => by simp [solsticelaw03_WeekNumbers.j1] at h, fun _ _ _ _ _ _ r h => by simp [solsticelaw03_WeekNumbers.j2] at h⟩
  | k + 1 => by
    obtain ⟨ih0, ih1, ih2⟩ := solsticelaw03_WeekNumbers.mono_l k
    refine ⟨?_, ?_, ?_⟩
    · intro y0 y1 y2 y3 y4 y5 y6 y7 y8 y9
      unfold solsticelaw03_WeekNumbers.j0
      repeat' first
      | (with_reducible exact ih0 _ _ _ _ _ _ _ _ _ _)
      | (with_reducible exact ih1 _ _ _ _ _ _ _ _ _ _)
      | (with_reducible exact ih2 _ _ _ _ _ _)
      | (with_reducible exact civil_Number.mono _ _ _ _)
      | (with_reducible exact solsticelaw03_wakes.mono _)
      | (with_reducible exact week_No.mono _ _ _)
      | (with_reducible exact week_Weeks.mono _ _ _)
      | (with_reducible exact LeO.refl _)
      | (with_reducible exact LeO.none _)
      | (with_reducible refine LeO.ite ?_ ?_)
      | (with_reducible refine LeO.bind ?_ (fun _ => ?_))
      | exact ih0 _ _ _ _ _ _ _ _ _ _
      | exact ih1 _ _ _ _ _ _ _ _ _ _
      | exact ih2 _ _ _ _ _ _
      | exact civil_Number.mono _ _ _ _
      | exact solsticelaw03_wakes.mono _
      | exact week_No.mono _ _ _
      | exact week_Weeks.mono _ _ _
      | exact LeO.none _
      | refine LeO.ite ?_ ?_
      | refine LeO.bind ?_ (fun _ => ?_)
    · intro y0 y1 y2 y3 y4 y5 y6 y7 y8 y9
      unfold solsticelaw03_WeekNumbers.j1
      repeat' first
      | (with_reducible exact ih0 _ _ _ _ _ _ _ _ _ _)
      | (with_reducible exact ih1 _ _ _ _ _ _ _ _ _ _)
      | (with_reducible exact ih2 _ _ _ _ _ _)
      | (with_reducible exact civil_Number.mono _ _ _ _)
      | (with_reducible exact solsticelaw03_wakes.mono _)
      | (with_reducible exact week_No.mono _ _ _)
      | (with_reducible exact week_Weeks.mono _ _ _)
      | (with_reducible exact LeO.refl _)
      | (with_reducible exact LeO.none _)
      | (with_reducible refine LeO.ite ?_ ?_)
      | (with_reducible refine LeO.bind ?_ (fun _ => ?_))
      | exact ih0 _ _ _ _ _ _ _ _ _ _
      | exact ih1 _ _ _ _ _ _ _ _ _ _
      | exact ih2 _ _ _ _ _ _
      | exact civil_Number.mono _ _ _ _
      | exact solsticelaw03_wakes.mono _
      | exact week_No.mono _ _ _
      | exact week_Weeks.mono _ _ _
      | exact LeO.none _
      | refine LeO.ite ?_ ?_
      | refine LeO.bind ?_ (fun _ => ?_)
    · intro y0 y1 y2 y3 y4 y5
      unfold solsticelaw03_WeekNumbers.j2
      repeat' first
      | (with_reducible exact ih0 _ _ _ _ _ _ _ _ _ _)
      | (with_reducible exact ih1 _ _ _ _ _ _ _ _ _ _)
      | (with_reducible exact ih2 _ _ _ _ _ _)
      | (with_reducible exact civil_Number.mono _ _ _ _)
      | (with_reducible exact solsticelaw03_wakes.mono _)
      | (with_reducible exact week_No.mono _ _ _)
      | (with_reducible exact week_Weeks.mono _ _ _)
      | (with_reducible exact LeO.refl _)
      | (with_reducible exact LeO.none _)
      | (with_reducible refine LeO.ite ?_ ?_)
      | (with_reducible refine LeO.bind ?_ (fun _ => ?_))
      | exact ih0 _ _ _ _ _ _ _ _ _ _
      | exact ih1 _ _ _ _ _ _ _ _ _ _
      | exact ih2 _ _ _ _ _ _
      | exact civil_Number.mono _ _ _ _
      | exact solsticelaw03_wakes.mono _
      | exact week_No.mono _ _ _
      | exact week_Weeks.mono _ _ _
      | exact LeO.none _
      | refine LeO.ite ?_ ?_
      | refine LeO.bind ?_ (fun _ => ?_)
theorem solsticelaw03_WeekNumbers.mono : ∀ a0 a1 a2 a3 k, LeO (solsticelaw03_WeekNumbers.f k a0 a1 a2 a3) (solsticelaw03_WeekNumbers.f (k + 1) a0 a1 a2 a3) := by
  intro a0 a1 a2 a3 k
  obtain ⟨ih0, ih1, ih2⟩ := solsticelaw03_WeekNumbers.mono_l k
  unfold solsticelaw03_WeekNumbers.f
  repeat' first
      | (with_reducible exact ih0 _ _ _ _ _ _ _ _ _ _)
      | (with_reducible exact ih1 _ _ _ _ _ _ _ _ _ _)
      | (with_reducible exact ih2 _ _ _ _ _ _)
      | (with_reducible exact civil_Number.mono _ _ _ _)
      | (with_reducible exact solsticelaw03_wakes.mono _)
      | (with_reducible exact week_No.mono _ _ _)
      | (with_reducible exact week_Weeks.mono _ _ _)
      | (with_reducible exact LeO.refl _)
      | (with_reducible exact LeO.none _)
      | (with_reducible refine LeO.ite ?_ ?_)
      | (with_reducible refine LeO.bind ?_ (fun _ => ?_))
      | exact ih0 _ _ _ _ _ _ _ _ _ _
      | exact ih1 _ _ _ _ _ _ _ _ _ _
      | exact ih2 _ _ _ _ _ _
      | exact civil_Number.mono _ _ _ _
      | exact solsticelaw03_wakes.mono _
      | exact week_No.mono _ _ _
      | exact week_Weeks.mono _ _ _
      | exact LeO.none _
      | refine LeO.ite ?_ ?_
      | refine LeO.bind ?_ (fun _ => ?_)
set_option maxHeartbeats 8000000 in
set_option maxRecDepth 100000 in
theorem solsticelaw03_WeekNumbers.calls (k : Nat) (a0 : Int) (a1 : Int) (a2 : Int) (a3 : Int) (r : Bool) (w : World) (h : solsticelaw03_WeekNumbers.f k a0 a1 a2 a3 = some r) :
    Calls Try.prog 6 #[.int .i64 a0, .int .i64 a1, .int .i64 a2, .int .i64 a3] w fun e w' => e = .returned (.bool r) ∧ Below w.heap.size w w' := by
  have hu39 := Try.underlying39
  have HB := Aside0.mk (Below.refl w.heap.size w)
  have H : ((civil_Number.f k (wrap64 (2 + (wrap64 (Int.tmod (IntKind.u64.wrap (a0)) 9990)))) (wrap64 (1 + (wrap64 (Int.tmod (IntKind.u64.wrap (a1)) 12)))) (wrap64 (1 + (wrap64 (Int.tmod (IntKind.u64.wrap (a2)) 28))))).bind fun bt300 => ((week_No.f k bt300.1 (wrap64 (Int.tmod (IntKind.u64.wrap (a3)) 7))).bind fun bt302 => ((week_No.f k (wrap64 (bt300.1 + 7)) (wrap64 (Int.tmod (IntKind.u64.wrap (a3)) 7))).bind fun bt305 => ((week_No.f k (wrap64 (bt300.1 + 1)) (wrap64 (Int.tmod (IntKind.u64.wrap (a3)) 7))).bind fun bt308 => (if bt300.2 = 0 then (if bt302.2.2 = 0 then (if bt305.2.2 = 0 then (solsticelaw03_WeekNumbers.j0 k (wrap64 (2 + (wrap64 (Int.tmod (IntKind.u64.wrap (a0)) 9990)))) (wrap64 (Int.tmod (IntKind.u64.wrap (a3)) 7)) bt300.1 bt302.1 bt302.2.1 bt305.1 bt305.2.1 bt308.1 bt308.2.1 (bt308.2.2 != 0)) else (solsticelaw03_WeekNumbers.j0 k (wrap64 (2 + (wrap64 (Int.tmod (IntKind.u64.wrap (a0)) 9990)))) (wrap64 (Int.tmod (IntKind.u64.wrap (a3)) 7)) bt300.1 bt302.1 bt302.2.1 bt305.1 bt305.2.1 bt308.1 bt308.2.1 true)) else (solsticelaw03_WeekNumbers.j0 k (wrap64 (2 + (wrap64 (Int.tmod (IntKind.u64.wrap (a0)) 9990)))) (wrap64 (Int.tmod (IntKind.u64.wrap (a3)) 7)) bt300.1 bt302.1 bt302.2.1 bt305.1 bt305.2.1 bt308.1 bt308.2.1 true)) else (solsticelaw03_WeekNumbers.j0 k (wrap64 (2 + (wrap64 (Int.tmod (IntKind.u64.wrap (a0)) 9990)))) (wrap64 (Int.tmod (IntKind.u64.wrap (a3)) 7)) bt300.1 bt302.1 bt302.2.1 bt305.1 bt305.2.1 bt308.1 bt308.2.1 true)))))) = some r := h
  clear h
  replace H := Option.bind_eq_some_iff.mp H
  obtain ⟨⟨t300, t301⟩, A50, H⟩ := H
  replace H : ((week_No.f k t300 (wrap64 (Int.tmod (IntKind.u64.wrap (a3)) 7))).bind fun bt302 => ((week_No.f k (wrap64 (t300 + 7)) (wrap64 (Int.tmod (IntKind.u64.wrap (a3)) 7))).bind fun bt305 => ((week_No.f k (wrap64 (t300 + 1)) (wrap64 (Int.tmod (IntKind.u64.wrap (a3)) 7))).bind fun bt308 => (if t301 = 0 then (if bt302.2.2 = 0 then (if bt305.2.2 = 0 then (solsticelaw03_WeekNumbers.j0 k (wrap64 (2 + (wrap64 (Int.tmod (IntKind.u64.wrap (a0)) 9990)))) (wrap64 (Int.tmod (IntKind.u64.wrap (a3)) 7)) t300 bt302.1 bt302.2.1 bt305.1 bt305.2.1 bt308.1 bt308.2.1 (bt308.2.2 != 0)) else (solsticelaw03_WeekNumbers.j0 k (wrap64 (2 + (wrap64 (Int.tmod (IntKind.u64.wrap (a0)) 9990)))) (wrap64 (Int.tmod (IntKind.u64.wrap (a3)) 7)) t300 bt302.1 bt302.2.1 bt305.1 bt305.2.1 bt308.1 bt308.2.1 true)) else (solsticelaw03_WeekNumbers.j0 k (wrap64 (2 + (wrap64 (Int.tmod (IntKind.u64.wrap (a0)) 9990)))) (wrap64 (Int.tmod (IntKind.u64.wrap (a3)) 7)) t300 bt302.1 bt302.2.1 bt305.1 bt305.2.1 bt308.1 bt308.2.1 true)) else (solsticelaw03_WeekNumbers.j0 k (wrap64 (2 + (wrap64 (Int.tmod (IntKind.u64.wrap (a0)) 9990)))) (wrap64 (Int.tmod (IntKind.u64.wrap (a3)) 7)) t300 bt302.1 bt302.2.1 bt305.1 bt305.2.1 bt308.1 bt308.2.1 true))))) = some r := H
  have A5 := Aside0.mk A50
  clear A50
  replace H := Option.bind_eq_some_iff.mp H
  obtain ⟨⟨t302, t303, t304⟩, A60, H⟩ := H
  replace H : ((week_No.f k (wrap64 (t300 + 7)) (wrap64 (Int.tmod (IntKind.u64.wrap (a3)) 7))).bind fun bt305 => ((week_No.f k (wrap64 (t300 + 1)) (wrap64 (Int.tmod (IntKind.u64.wrap (a3)) 7))).bind fun bt308 => (if t301 = 0 then (if t304 = 0 then (if bt305.2.2 = 0 then (solsticelaw03_WeekNumbers.j0 k (wrap64 (2 + (wrap64 (Int.tmod (IntKind.u64.wrap (a0)) 9990)))) (wrap64 (Int.tmod (IntKind.u64.wrap (a3)) 7)) t300 t302 t303 bt305.1 bt305.2.1 bt308.1 bt308.2.1 (bt308.2.2 != 0)) else (solsticelaw03_WeekNumbers.j0 k (wrap64 (2 + (wrap64 (Int.tmod (IntKind.u64.wrap (a0)) 9990)))) (wrap64 (Int.tmod (IntKind.u64.wrap (a3)) 7)) t300 t302 t303 bt305.1 bt305.2.1 bt308.1 bt308.2.1 true)) else (solsticelaw03_WeekNumbers.j0 k (wrap64 (2 + (wrap64 (Int.tmod (IntKind.u64.wrap (a0)) 9990)))) (wrap64 (Int.tmod (IntKind.u64.wrap (a3)) 7)) t300 t302 t303 bt305.1 bt305.2.1 bt308.1 bt308.2.1 true)) else (solsticelaw03_WeekNumbers.j0 k (wrap64 (2 + (wrap64 (Int.tmod (IntKind.u64.wrap (a0)) 9990)))) (wrap64 (Int.tmod (IntKind.u64.wrap (a3)) 7)) t300 t302 t303 bt305.1 bt305.2.1 bt308.1 bt308.2.1 true)))) = some r := H
  have A6 := Aside0.mk A60
  clear A60
  replace H := Option.bind_eq_some_iff.mp H
  obtain ⟨⟨t305, t306, t307⟩, A70, H⟩ := H
  replace H : ((week_No.f k (wrap64 (t300 + 1)) (wrap64 (Int.tmod (IntKind.u64.wrap (a3)) 7))).bind fun bt308 => (if t301 = 0 then (if t304 = 0 then (if t307 = 0 then (solsticelaw03_WeekNumbers.j0 k (wrap64 (2 + (wrap64 (Int.tmod (IntKind.u64.wrap (a0)) 9990)))) (wrap64 (Int.tmod (IntKind.u64.wrap (a3)) 7)) t300 t302 t303 t305 t306 bt308.1 bt308.2.1 (bt308.2.2 != 0)) else (solsticelaw03_WeekNumbers.j0 k (wrap64 (2 + (wrap64 (Int.tmod (IntKind.u64.wrap (a0)) 9990)))) (wrap64 (Int.tmod (IntKind.u64.wrap (a3)) 7)) t300 t302 t303 t305 t306 bt308.1 bt308.2.1 true)) else (solsticelaw03_WeekNumbers.j0 k (wrap64 (2 + (wrap64 (Int.tmod (IntKind.u64.wrap (a0)) 9990)))) (wrap64 (Int.tmod (IntKind.u64.wrap (a3)) 7)) t300 t302 t303 t305 t306 bt308.1 bt308.2.1 true)) else (solsticelaw03_WeekNumbers.j0 k (wrap64 (2 + (wrap64 (Int.tmod (IntKind.u64.wrap (a0)) 9990)))) (wrap64 (Int.tmod (IntKind.u64.wrap (a3)) 7)) t300 t302 t303 t305 t306 bt308.1 bt308.2.1 true))) = some r := H
  have A7 := Aside0.mk A70
  clear A70
  replace H := Option.bind_eq_some_iff.mp H
  obtain ⟨⟨t308, t309, t310⟩, A80, H⟩ := H
  replace H : (if t301 = 0 then (if t304 = 0 then (if t307 = 0 then (solsticelaw03_WeekNumbers.j0 k (wrap64 (2 + (wrap64 (Int.tmod (IntKind.u64.wrap (a0)) 9990)))) (wrap64 (Int.tmod (IntKind.u64.wrap (a3)) 7)) t300 t302 t303 t305 t306 t308 t309 (t310 != 0)) else (solsticelaw03_WeekNumbers.j0 k (wrap64 (2 + (wrap64 (Int.tmod (IntKind.u64.wrap (a0)) 9990)))) (wrap64 (Int.tmod (IntKind.u64.wrap (a3)) 7)) t300 t302 t303 t305 t306 t308 t309 true)) else (solsticelaw03_WeekNumbers.j0 k (wrap64 (2 + (wrap64 (Int.tmod (IntKind.u64.wrap (a0)) 9990)))) (wrap64 (Int.tmod (IntKind.u64.wrap (a3)) 7)) t300 t302 t303 t305 t306 t308 t309 true)) else (solsticelaw03_WeekNumbers.j0 k (wrap64 (2 + (wrap64 (Int.tmod (IntKind.u64.wrap (a0)) 9990)))) (wrap64 (Int.tmod (IntKind.u64.wrap (a3)) 7)) t300 t302 t303 t305 t306 t308 t309 true)) = some r := H
  have A8 := Aside0.mk A80
  clear A80
  have HC9 := Aside0.mk H
  clear H
  go_enter Try.func6, Try.ntmps6
  go_upto_region 7 with (first | ((with_reducible refine gate_dst (N := 9) rfl ?_); refine box_event ?hg (N := 9) ?hd (cs := #[.int .i64 0, .int .i64 0, .int .i64 0]) (t := 39) ?hr ?_; (case hd => rfl); (case hg => rfl); (case hr => first | (go_simp; done) | (go_simp; rfl)); intro gb299 hg w10 hbox hb; have n0_ := Aside0.mk (below_step (by repeat (first | (with_reducible first | exact HB.out | apply below_alloc | apply pw_below_drewN | apply below_drew1) | exact HB.out)) hb); have n1_ := Aside0.mk (hbox); have n2_ := Aside0.mk ((by rw [hg]; exact (below_size (by repeat (first | (with_reducible first | exact HB.out | apply below_alloc | apply pw_below_drewN | apply below_drew1) | exact HB.out))) : w.heap.size ≤ gb299)); have n3_ := Aside0.mk ((by rw [hg]; exact (below_size (by repeat (first | (with_reducible first | exact HB.out | apply below_alloc | apply pw_below_drewN | apply below_drew1) | exact HB.out))) : w.heap.size ≤ gb299)); clear HB; have HB := n0_; have BK299 := n1_; have GW299 := n2_; have GE299 := n3_; clear n0_ n1_ n2_ n3_; clear hb hbox hg; have hcz11_0 : w10.cell? ⟨gb299, 0, none⟩ = some (.int .i64 0) := (blk_cell BK299.out 0).trans rfl; have hcz11_1 : w10.cell? ⟨gb299, 1, none⟩ = some (.int .i64 0) := (blk_cell BK299.out 1).trans rfl; have hcz11_2 : w10.cell? ⟨gb299, 2, none⟩ = some (.int .i64 0) := (blk_cell BK299.out 2).trans rfl; have hfz11_0 := blk_frozen BK299.out 0; have hfz11_1 := blk_frozen BK299.out 1; have hfz11_2 := blk_frozen BK299.out 2) | ((with_reducible refine gate_callee (f := 24) rfl ?_); refine goesL_ (some 51) rfl rfl Try.func24 (by kernel_rfl) rfl #[.agg #[.int .i64 (wrap64 (2 + (wrap64 (Int.tmod (IntKind.u64.wrap (a0)) 9990)))), .int .i64 (wrap64 (1 + (wrap64 (Int.tmod (IntKind.u64.wrap (a1)) 12)))), .int .i64 (wrap64 (1 + (wrap64 (Int.tmod (IntKind.u64.wrap (a2)) 28))))]] rfl (by (try simp only [List.map_toArray, List.map_cons, List.map_nil]); first | done | rfl | (simp only [List.length_drop, List.length_take]; rfl)) ?_; (with_reducible refine (civil_Number.calls k (wrap64 (2 + (wrap64 (Int.tmod (IntKind.u64.wrap (a0)) 9990)))) (wrap64 (1 + (wrap64 (Int.tmod (IntKind.u64.wrap (a1)) 12)))) (wrap64 (1 + (wrap64 (Int.tmod (IntKind.u64.wrap (a2)) 28)))) t300 t301 _ A5.out).mono ?_); rintro e w12 ⟨rfl, hb⟩; refine ⟨_, rfl, ?_⟩; have n0_ := Aside0.mk (blk_below (g := gb299) (o := .cells #[.int .i64 (wrap64 (2 + (wrap64 (Int.tmod (IntKind.u64.wrap (a0)) 9990)))), .int .i64 (wrap64 (1 + (wrap64 (Int.tmod (IntKind.u64.wrap (a1)) 12)))), .int .i64 (wrap64 (1 + (wrap64 (Int.tmod (IntKind.u64.wrap (a2)) 28))))] 39 (0, 0)) (by (with_reducible repeat (first | refine blk_drewN ?_ _ | refine blk_drew ?_ | refine blk_alloc ?_ _)); refine blk_put (cs := #[.int .i64 (wrap64 (2 + (wrap64 (Int.tmod (IntKind.u64.wrap (a0)) 9990)))), .int .i64 (wrap64 (1 + (wrap64 (Int.tmod (IntKind.u64.wrap (a1)) 12)))), .int .i64 0]) ?_ 2 _ rfl; (with_reducible repeat (first | refine blk_drewN ?_ _ | refine blk_drew ?_ | refine blk_alloc ?_ _)); refine blk_put (cs := #[.int .i64 (wrap64 (2 + (wrap64 (Int.tmod (IntKind.u64.wrap (a0)) 9990)))), .int .i64 0, .int .i64 0]) ?_ 1 _ rfl; (with_reducible repeat (first | refine blk_drewN ?_ _ | refine blk_drew ?_ | refine blk_alloc ?_ _)); refine blk_put (cs := #[.int .i64 0, .int .i64 0, .int .i64 0]) ?_ 0 _ rfl; (with_reducible repeat (first | refine blk_drewN ?_ _ | refine blk_drew ?_ | refine blk_alloc ?_ _)); exact BK299.out) hb); have n1_ := Aside0.mk (below_step (by repeat (first | (with_reducible first | exact HB.out | apply below_alloc | apply pw_below_drewN | apply below_drew1 | refine below_set ?_ GE299.out) | exact HB.out)) hb); clear BK299; clear HB; have BK299 := n0_; have HB := n1_; clear n0_ n1_; (try clear hb); (try clear hb2); (try clear hk); (try clear hi)) | ((with_reducible refine gate_callee (f := 11) rfl ?_); refine goesL_ (some 57) rfl rfl Try.func11 (by kernel_rfl) rfl #[.int .i64 t300, .int .i64 (wrap64 (Int.tmod (IntKind.u64.wrap (a3)) 7))] rfl (by (try simp only [List.map_toArray, List.map_cons, List.map_nil]); first | done | rfl | (simp only [List.length_drop, List.length_take]; rfl)) ?_; (with_reducible refine (week_No.calls k t300 (wrap64 (Int.tmod (IntKind.u64.wrap (a3)) 7)) t302 t303 t304 _ A6.out).mono ?_); rintro e w13 ⟨rfl, hb⟩; refine ⟨_, rfl, ?_⟩; have n0_ := Aside0.mk (blk_below (g := gb299) (o := .cells #[.int .i64 (wrap64 (2 + (wrap64 (Int.tmod (IntKind.u64.wrap (a0)) 9990)))), .int .i64 (wrap64 (1 + (wrap64 (Int.tmod (IntKind.u64.wrap (a1)) 12)))), .int .i64 (wrap64 (1 + (wrap64 (Int.tmod (IntKind.u64.wrap (a2)) 28))))] 39 (0, 0)) (by (with_reducible repeat (first | refine blk_drewN ?_ _ | refine blk_drew ?_ | refine blk_alloc ?_ _)); exact BK299.out) hb); have n1_ := Aside0.mk (below_step (by repeat (first | (with_reducible first | exact HB.out | apply below_alloc | apply pw_below_drewN | apply below_drew1 | refine below_set ?_ GE299.out) | exact HB.out)) hb); clear BK299; clear HB; have BK299 := n0_; have HB := n1_; clear n0_ n1_; (try clear hb); (try clear hb2); (try clear hk); (try clear hi)) | ((with_reducible refine gate_callee (f := 11) rfl ?_); refine goesL_ (some 65) rfl rfl Try.func11 (by kernel_rfl) rfl #[.int .i64 (wrap64 (t300 + 7)), .int .i64 (wrap64 (Int.tmod (IntKind.u64.wrap (a3)) 7))] rfl (by (try simp only [List.map_toArray, List.map_cons, List.map_nil]); first | done | rfl | (simp only [List.length_drop, List.length_take]; rfl)) ?_; (with_reducible refine (week_No.calls k (wrap64 (t300 + 7)) (wrap64 (Int.tmod (IntKind.u64.wrap (a3)) 7)) t305 t306 t307 _ A7.out).mono ?_); rintro e w14 ⟨rfl, hb⟩; refine ⟨_, rfl, ?_⟩; have n0_ := Aside0.mk (blk_below (g := gb299) (o := .cells #[.int .i64 (wrap64 (2 + (wrap64 (Int.tmod (IntKind.u64.wrap (a0)) 9990)))), .int .i64 (wrap64 (1 + (wrap64 (Int.tmod (IntKind.u64.wrap (a1)) 12)))), .int .i64 (wrap64 (1 + (wrap64 (Int.tmod (IntKind.u64.wrap (a2)) 28))))] 39 (0, 0)) (by (with_reducible repeat (first | refine blk_drewN ?_ _ | refine blk_drew ?_ | refine blk_alloc ?_ _)); exact BK299.out) hb); have n1_ := Aside0.mk (below_step (by repeat (first | (with_reducible first | exact HB.out | apply below_alloc | apply pw_below_drewN | apply below_drew1 | refine below_set ?_ GE299.out) | exact HB.out)) hb); clear BK299; clear HB; have BK299 := n0_; have HB := n1_; clear n0_ n1_; (try clear hb); (try clear hb2); (try clear hk); (try clear hi)) | ((with_reducible refine gate_callee (f := 11) rfl ?_); refine goesL_ (some 73) rfl rfl Try.func11 (by kernel_rfl) rfl #[.int .i64 (wrap64 (t300 + 1)), .int .i64 (wrap64 (Int.tmod (IntKind.u64.wrap (a3)) 7))] rfl (by (try simp only [List.map_toArray, List.map_cons, List.map_nil]); first | done | rfl | (simp only [List.length_drop, List.length_take]; rfl)) ?_; (with_reducible refine (week_No.calls k (wrap64 (t300 + 1)) (wrap64 (Int.tmod (IntKind.u64.wrap (a3)) 7)) t308 t309 t310 _ A8.out).mono ?_); rintro e w15 ⟨rfl, hb⟩; refine ⟨_, rfl, ?_⟩; have n0_ := Aside0.mk (blk_below (g := gb299) (o := .cells #[.int .i64 (wrap64 (2 + (wrap64 (Int.tmod (IntKind.u64.wrap (a0)) 9990)))), .int .i64 (wrap64 (1 + (wrap64 (Int.tmod (IntKind.u64.wrap (a1)) 12)))), .int .i64 (wrap64 (1 + (wrap64 (Int.tmod (IntKind.u64.wrap (a2)) 28))))] 39 (0, 0)) (by (with_reducible repeat (first | refine blk_drewN ?_ _ | refine blk_drew ?_ | refine blk_alloc ?_ _)); exact BK299.out) hb); have n1_ := Aside0.mk (below_step (by repeat (first | (with_reducible first | exact HB.out | apply below_alloc | apply pw_below_drewN | apply below_drew1 | refine below_set ?_ GE299.out) | exact HB.out)) hb); clear BK299; clear HB; have BK299 := n0_; have HB := n1_; clear n0_ n1_; (try clear hb); (try clear hb2); (try clear hk); (try clear hi)))
  (try simp only [Act.put, List.setIfInBounds_toArray, List.set_cons_zero, List.set_cons_succ])
  go_cut [90] (fun v90 wc => ∃ (kq : Nat) (x90_8 : Bool), v90 = .bool x90_8 ∧ Aside0 (solsticelaw03_WeekNumbers.j0 kq (wrap64 (2 + (wrap64 (Int.tmod (IntKind.u64.wrap (a0)) 9990)))) (wrap64 (Int.tmod (IntKind.u64.wrap (a3)) 7)) t300 t302 t303 t305 t306 t308 t309 x90_8 = some r) ∧ Aside0 (kq ≤ k) ∧ Aside0 (wc.heap[gb299]? = some (.cells #[.int .i64 (wrap64 (2 + (wrap64 (Int.tmod (IntKind.u64.wrap (a0)) 9990)))), .int .i64 (wrap64 (1 + (wrap64 (Int.tmod (IntKind.u64.wrap (a1)) 12)))), .int .i64 (wrap64 (1 + (wrap64 (Int.tmod (IntKind.u64.wrap (a2)) 28))))] 39 (0, 0))) ∧ Aside0 (Below w.heap.size w wc))
  case first =>
    have H := HC9.out
    clear HC9
    by_cases c16 : t301 = 0
    · rw [if_pos c16] at H
      have c16b0 : (t301 == 0) = true := beq_iff_eq.mpr c16
      have c16b1 : (t301 != 0) = false := bne_eq_false_iff_eq.mpr c16
      clear c16
      (first | rw [c16b0] | (simp only [i64_w, i32_w]; rw [c16b0]) | skip)
      by_cases c17 : t304 = 0
      · rw [if_pos c17] at H
        have c17b0 : (t304 == 0) = true := beq_iff_eq.mpr c17
        have c17b1 : (t304 != 0) = false := bne_eq_false_iff_eq.mpr c17
        clear c17
        by_cases c18 : t307 = 0
        · rw [if_pos c18] at H
          have c18b0 : (t307 == 0) = true := beq_iff_eq.mpr c18
          have c18b1 : (t307 != 0) = false := bne_eq_false_iff_eq.mpr c18
          clear c18
          have H' := Aside0.mk H
          clear H
          go_wp2
          go_meet
          case rel => exact ⟨_, ((t310 != 0)), (by first | rfl | (simp; done) | (simp [*]; done)), H', ⟨by first | omega | exact Nat.le_refl _⟩, ⟨by (with_reducible repeat (first | refine blk_drewN ?_ _ | refine blk_drew ?_ | refine blk_alloc ?_ _)); exact BK299.out⟩, ⟨by repeat (first | (with_reducible first | exact HB.out | apply below_alloc | apply pw_below_drewN | apply below_drew1 | refine below_set ?_ GE299.out) | exact HB.out)⟩⟩
        · rw [if_neg c18] at H
          have c18b0 : (t307 == 0) = false := beq_eq_false_iff_ne.mpr c18
          have c18b1 : (t307 != 0) = true := bne_iff_ne.mpr c18
          have H' := Aside0.mk H
          clear H
          go_wp2
          go_meet
          case rel => exact ⟨_, (true), (by first | rfl | (simp; done) | (simp [*]; done)), H', ⟨by first | omega | exact Nat.le_refl _⟩, ⟨by (with_reducible repeat (first | refine blk_drewN ?_ _ | refine blk_drew ?_ | refine blk_alloc ?_ _)); exact BK299.out⟩, ⟨by repeat (first | (with_reducible first | exact HB.out | apply below_alloc | apply pw_below_drewN | apply below_drew1 | refine below_set ?_ GE299.out) | exact HB.out)⟩⟩
      · rw [if_neg c17] at H
        have c17b0 : (t304 == 0) = false := beq_eq_false_iff_ne.mpr c17
        have c17b1 : (t304 != 0) = true := bne_iff_ne.mpr c17
        have H' := Aside0.mk H
        clear H
        go_wp2
        go_meet
        case rel => exact ⟨_, (true), (by first | rfl | (simp; done) | (simp [*]; done)), H', ⟨by first | omega | exact Nat.le_refl _⟩, ⟨by (with_reducible repeat (first | refine blk_drewN ?_ _ | refine blk_drew ?_ | refine blk_alloc ?_ _)); exact BK299.out⟩, ⟨by repeat (first | (with_reducible first | exact HB.out | apply below_alloc | apply pw_below_drewN | apply below_drew1 | refine below_set ?_ GE299.out) | exact HB.out)⟩⟩
    · rw [if_neg c16] at H
      have c16b0 : (t301 == 0) = false := beq_eq_false_iff_ne.mpr c16
      have c16b1 : (t301 != 0) = true := bne_iff_ne.mpr c16
      (first | rw [c16b0] | (simp only [i64_w, i32_w]; rw [c16b0]) | skip)
      have H' := Aside0.mk H
      clear H
      go_wp2
      go_meet
      case rel => exact ⟨_, (true), (by first | rfl | (simp; done) | (simp [*]; done)), H', ⟨by first | omega | exact Nat.le_refl _⟩, ⟨by (with_reducible repeat (first | refine blk_drewN ?_ _ | refine blk_drew ?_ | refine blk_alloc ?_ _)); exact BK299.out⟩, ⟨by repeat (first | (with_reducible first | exact HB.out | apply below_alloc | apply pw_below_drewN | apply below_drew1 | refine below_set ?_ GE299.out) | exact HB.out)⟩⟩
  case rest =>
    clear HC9
    try clear c1
    try clear c2
    try clear p2
    try clear c6
    try clear p6
    try clear c11
    try clear c16
    try clear c16b0
    try clear c16b1
    try clear c17
    try clear c17b0
    try clear c17b1
    try clear c18
    try clear c18b0
    try clear c18b1
    try clear hcz11_0
    try clear hcz11_1
    try clear hcz11_2
    try clear hfz11_0
    try clear hfz11_1
    try clear hfz11_2
    obtain ⟨kq, x90_8, rfl, HA, HJ8, BK299, HB⟩ := hcut
    cases kq with
    | zero => exact absurd HA.out (by simp [solsticelaw03_WeekNumbers.j0])
    | succ kj8 =>
      have H := HA.out
      clear HA
      simp only [solsticelaw03_WeekNumbers.j0] at H
      by_cases c19 : x90_8 = true
      · subst c19
        have H1 : (some false) = some r := by rw [if_pos rfl] at H; exact H
        clear H
        have H := H1
        clear H1
        obtain rfl := Option.some.inj H
        go_wp2
        go_ret
        exact ⟨by first | rfl | (simp [errW_none, errW_some] <;> rfl) | (simp [*, errW_none, errW_some] <;> rfl), by repeat (first | (with_reducible first | exact HB.out | apply below_alloc | apply pw_below_drewN | apply below_drew1 | refine below_set ?_ GE299.out) | exact HB.out)⟩
      · replace c19 := Bool.eq_false_iff.mpr c19
        subst c19
        have H1 : ((week_Weeks.f kj8 t302 (wrap64 (Int.tmod (IntKind.u64.wrap (a3)) 7))).bind fun bt311 => ((civil_Number.f kj8 (wrap64 (2 + (wrap64 (Int.tmod (IntKind.u64.wrap (a0)) 9990)))) 1 4).bind fun bt313 => ((week_No.f kj8 bt313.1 (wrap64 (Int.tmod (IntKind.u64.wrap (a3)) 7))).bind fun bt315 => (if bt311.2 = 0 then (if bt313.2 = 0 then (if bt315.2.2 = 0 then (if bt315.1 = (wrap64 (2 + (wrap64 (Int.tmod (IntKind.u64.wrap (a0)) 9990)))) then (if bt315.2.1 = 1 then (if bt311.1 < 52 then (solsticelaw03_WeekNumbers.j1 kj8 (wrap64 (Int.tmod (IntKind.u64.wrap (a3)) 7)) t300 t302 t303 t305 t306 t308 t309 bt311.1 true) else (if bt311.1 > 53 then (solsticelaw03_WeekNumbers.j1 kj8 (wrap64 (Int.tmod (IntKind.u64.wrap (a3)) 7)) t300 t302 t303 t305 t306 t308 t309 bt311.1 true) else (if t303 < 1 then (solsticelaw03_WeekNumbers.j1 kj8 (wrap64 (Int.tmod (IntKind.u64.wrap (a3)) 7)) t300 t302 t303 t305 t306 t308 t309 bt311.1 true) else (solsticelaw03_WeekNumbers.j1 kj8 (wrap64 (Int.tmod (IntKind.u64.wrap (a3)) 7)) t300 t302 t303 t305 t306 t308 t309 bt311.1 (decide (t303 > bt311.1)))))) else (solsticelaw03_WeekNumbers.j1 kj8 (wrap64 (Int.tmod (IntKind.u64.wrap (a3)) 7)) t300 t302 t303 t305 t306 t308 t309 bt311.1 true)) else (solsticelaw03_WeekNumbers.j1 kj8 (wrap64 (Int.tmod (IntKind.u64.wrap (a3)) 7)) t300 t302 t303 t305 t306 t308 t309 bt311.1 true)) else (solsticelaw03_WeekNumbers.j1 kj8 (wrap64 (Int.tmod (IntKind.u64.wrap (a3)) 7)) t300 t302 t303 t305 t306 t308 t309 bt311.1 true)) else (solsticelaw03_WeekNumbers.j1 kj8 (wrap64 (Int.tmod (IntKind.u64.wrap (a3)) 7)) t300 t302 t303 t305 t306 t308 t309 bt311.1 true)) else (solsticelaw03_WeekNumbers.j1 kj8 (wrap64 (Int.tmod (IntKind.u64.wrap (a3)) 7)) t300 t302 t303 t305 t306 t308 t309 bt311.1 true))))) = some r := by rw [if_neg (show ¬ (false = true) by decide)] at H; exact H
        clear H
        have H := H1
        clear H1
        replace H := Option.bind_eq_some_iff.mp H
        obtain ⟨⟨t311, t312⟩, A200, H⟩ := H
        replace H : ((civil_Number.f kj8 (wrap64 (2 + (wrap64 (Int.tmod (IntKind.u64.wrap (a0)) 9990)))) 1 4).bind fun bt313 => ((week_No.f kj8 bt313.1 (wrap64 (Int.tmod (IntKind.u64.wrap (a3)) 7))).bind fun bt315 => (if t312 = 0 then (if bt313.2 = 0 then (if bt315.2.2 = 0 then (if bt315.1 = (wrap64 (2 + (wrap64 (Int.tmod (IntKind.u64.wrap (a0)) 9990)))) then (if bt315.2.1 = 1 then (if t311 < 52 then (solsticelaw03_WeekNumbers.j1 kj8 (wrap64 (Int.tmod (IntKind.u64.wrap (a3)) 7)) t300 t302 t303 t305 t306 t308 t309 t311 true) else (if t311 > 53 then (solsticelaw03_WeekNumbers.j1 kj8 (wrap64 (Int.tmod (IntKind.u64.wrap (a3)) 7)) t300 t302 t303 t305 t306 t308 t309 t311 true) else (if t303 < 1 then (solsticelaw03_WeekNumbers.j1 kj8 (wrap64 (Int.tmod (IntKind.u64.wrap (a3)) 7)) t300 t302 t303 t305 t306 t308 t309 t311 true) else (solsticelaw03_WeekNumbers.j1 kj8 (wrap64 (Int.tmod (IntKind.u64.wrap (a3)) 7)) t300 t302 t303 t305 t306 t308 t309 t311 (decide (t303 > t311)))))) else (solsticelaw03_WeekNumbers.j1 kj8 (wrap64 (Int.tmod (IntKind.u64.wrap (a3)) 7)) t300 t302 t303 t305 t306 t308 t309 t311 true)) else (solsticelaw03_WeekNumbers.j1 kj8 (wrap64 (Int.tmod (IntKind.u64.wrap (a3)) 7)) t300 t302 t303 t305 t306 t308 t309 t311 true)) else (solsticelaw03_WeekNumbers.j1 kj8 (wrap64 (Int.tmod (IntKind.u64.wrap (a3)) 7)) t300 t302 t303 t305 t306 t308 t309 t311 true)) else (solsticelaw03_WeekNumbers.j1 kj8 (wrap64 (Int.tmod (IntKind.u64.wrap (a3)) 7)) t300 t302 t303 t305 t306 t308 t309 t311 true)) else (solsticelaw03_WeekNumbers.j1 kj8 (wrap64 (Int.tmod (IntKind.u64.wrap (a3)) 7)) t300 t302 t303 t305 t306 t308 t309 t311 true)))) = some r := H
        have A20 := Aside0.mk A200
        clear A200
        replace H := Option.bind_eq_some_iff.mp H
        obtain ⟨⟨t313, t314⟩, A210, H⟩ := H
        replace H : ((week_No.f kj8 t313 (wrap64 (Int.tmod (IntKind.u64.wrap (a3)) 7))).bind fun bt315 => (if t312 = 0 then (if t314 = 0 then (if bt315.2.2 = 0 then (if bt315.1 = (wrap64 (2 + (wrap64 (Int.tmod (IntKind.u64.wrap (a0)) 9990)))) then (if bt315.2.1 = 1 then (if t311 < 52 then (solsticelaw03_WeekNumbers.j1 kj8 (wrap64 (Int.tmod (IntKind.u64.wrap (a3)) 7)) t300 t302 t303 t305 t306 t308 t309 t311 true) else (if t311 > 53 then (solsticelaw03_WeekNumbers.j1 kj8 (wrap64 (Int.tmod (IntKind.u64.wrap (a3)) 7)) t300 t302 t303 t305 t306 t308 t309 t311 true) else (if t303 < 1 then (solsticelaw03_WeekNumbers.j1 kj8 (wrap64 (Int.tmod (IntKind.u64.wrap (a3)) 7)) t300 t302 t303 t305 t306 t308 t309 t311 true) else (solsticelaw03_WeekNumbers.j1 kj8 (wrap64 (Int.tmod (IntKind.u64.wrap (a3)) 7)) t300 t302 t303 t305 t306 t308 t309 t311 (decide (t303 > t311)))))) else (solsticelaw03_WeekNumbers.j1 kj8 (wrap64 (Int.tmod (IntKind.u64.wrap (a3)) 7)) t300 t302 t303 t305 t306 t308 t309 t311 true)) else (solsticelaw03_WeekNumbers.j1 kj8 (wrap64 (Int.tmod (IntKind.u64.wrap (a3)) 7)) t300 t302 t303 t305 t306 t308 t309 t311 true)) else (solsticelaw03_WeekNumbers.j1 kj8 (wrap64 (Int.tmod (IntKind.u64.wrap (a3)) 7)) t300 t302 t303 t305 t306 t308 t309 t311 true)) else (solsticelaw03_WeekNumbers.j1 kj8 (wrap64 (Int.tmod (IntKind.u64.wrap (a3)) 7)) t300 t302 t303 t305 t306 t308 t309 t311 true)) else (solsticelaw03_WeekNumbers.j1 kj8 (wrap64 (Int.tmod (IntKind.u64.wrap (a3)) 7)) t300 t302 t303 t305 t306 t308 t309 t311 true))) = some r := H
        have A21 := Aside0.mk A210
        clear A210
        replace H := Option.bind_eq_some_iff.mp H
        obtain ⟨⟨t315, t316, t317⟩, A220, H⟩ := H
        replace H : (if t312 = 0 then (if t314 = 0 then (if t317 = 0 then (if t315 = (wrap64 (2 + (wrap64 (Int.tmod (IntKind.u64.wrap (a0)) 9990)))) then (if t316 = 1 then (if t311 < 52 then (solsticelaw03_WeekNumbers.j1 kj8 (wrap64 (Int.tmod (IntKind.u64.wrap (a3)) 7)) t300 t302 t303 t305 t306 t308 t309 t311 true) else (if t311 > 53 then (solsticelaw03_WeekNumbers.j1 kj8 (wrap64 (Int.tmod (IntKind.u64.wrap (a3)) 7)) t300 t302 t303 t305 t306 t308 t309 t311 true) else (if t303 < 1 then (solsticelaw03_WeekNumbers.j1 kj8 (wrap64 (Int.tmod (IntKind.u64.wrap (a3)) 7)) t300 t302 t303 t305 t306 t308 t309 t311 true) else (solsticelaw03_WeekNumbers.j1 kj8 (wrap64 (Int.tmod (IntKind.u64.wrap (a3)) 7)) t300 t302 t303 t305 t306 t308 t309 t311 (decide (t303 > t311)))))) else (solsticelaw03_WeekNumbers.j1 kj8 (wrap64 (Int.tmod (IntKind.u64.wrap (a3)) 7)) t300 t302 t303 t305 t306 t308 t309 t311 true)) else (solsticelaw03_WeekNumbers.j1 kj8 (wrap64 (Int.tmod (IntKind.u64.wrap (a3)) 7)) t300 t302 t303 t305 t306 t308 t309 t311 true)) else (solsticelaw03_WeekNumbers.j1 kj8 (wrap64 (Int.tmod (IntKind.u64.wrap (a3)) 7)) t300 t302 t303 t305 t306 t308 t309 t311 true)) else (solsticelaw03_WeekNumbers.j1 kj8 (wrap64 (Int.tmod (IntKind.u64.wrap (a3)) 7)) t300 t302 t303 t305 t306 t308 t309 t311 true)) else (solsticelaw03_WeekNumbers.j1 kj8 (wrap64 (Int.tmod (IntKind.u64.wrap (a3)) 7)) t300 t302 t303 t305 t306 t308 t309 t311 true)) = some r := H
        have A22 := Aside0.mk A220
        clear A220
        have HC23 := Aside0.mk H
        clear H
        go_upto_region 12 with (first | ((with_reducible refine gate_callee (f := 12) rfl ?_); refine goesL_ (some 94) rfl rfl Try.func12 (by kernel_rfl) rfl #[.int .i64 t302, .int .i64 (wrap64 (Int.tmod (IntKind.u64.wrap (a3)) 7))] rfl (by (try simp only [List.map_toArray, List.map_cons, List.map_nil]); first | done | rfl | (simp only [List.length_drop, List.length_take]; rfl)) ?_; (with_reducible refine (week_Weeks.calls kj8 t302 (wrap64 (Int.tmod (IntKind.u64.wrap (a3)) 7)) t311 t312 _ A20.out).mono ?_); rintro e w24 ⟨rfl, hb⟩; refine ⟨_, rfl, ?_⟩; have n0_ := Aside0.mk (blk_below (g := gb299) (o := .cells #[.int .i64 (wrap64 (2 + (wrap64 (Int.tmod (IntKind.u64.wrap (a0)) 9990)))), .int .i64 (wrap64 (1 + (wrap64 (Int.tmod (IntKind.u64.wrap (a1)) 12)))), .int .i64 (wrap64 (1 + (wrap64 (Int.tmod (IntKind.u64.wrap (a2)) 28))))] 39 (0, 0)) (by (with_reducible repeat (first | refine blk_drewN ?_ _ | refine blk_drew ?_ | refine blk_alloc ?_ _)); exact BK299.out) hb); have n1_ := Aside0.mk (below_step (by repeat (first | (with_reducible first | exact HB.out | apply below_alloc | apply pw_below_drewN | apply below_drew1 | refine below_set ?_ GE299.out) | exact HB.out)) hb); clear BK299; clear HB; have BK299 := n0_; have HB := n1_; clear n0_ n1_; (try clear hb); (try clear hb2); (try clear hk); (try clear hi)) | ((with_reducible refine gate_callee (f := 24) rfl ?_); refine goesL_ (some 100) rfl rfl Try.func24 (by kernel_rfl) rfl #[.agg #[.int .i64 (wrap64 (2 + (wrap64 (Int.tmod (IntKind.u64.wrap (a0)) 9990)))), .int .i64 1, .int .i64 4]] rfl (by (try simp only [List.map_toArray, List.map_cons, List.map_nil]); first | done | rfl | (simp only [List.length_drop, List.length_take]; rfl)) ?_; (with_reducible refine (civil_Number.calls kj8 (wrap64 (2 + (wrap64 (Int.tmod (IntKind.u64.wrap (a0)) 9990)))) 1 4 t313 t314 _ A21.out).mono ?_); rintro e w25 ⟨rfl, hb⟩; refine ⟨_, rfl, ?_⟩; have n0_ := Aside0.mk (blk_below (g := gb299) (o := .cells #[.int .i64 (wrap64 (2 + (wrap64 (Int.tmod (IntKind.u64.wrap (a0)) 9990)))), .int .i64 (wrap64 (1 + (wrap64 (Int.tmod (IntKind.u64.wrap (a1)) 12)))), .int .i64 (wrap64 (1 + (wrap64 (Int.tmod (IntKind.u64.wrap (a2)) 28))))] 39 (0, 0)) (by (with_reducible repeat (first | refine blk_drewN ?_ _ | refine blk_drew ?_ | refine blk_alloc ?_ _)); exact BK299.out) hb); have n1_ := Aside0.mk (below_step (by repeat (first | (with_reducible first | exact HB.out | apply below_alloc | apply pw_below_drewN | apply below_drew1 | refine below_set ?_ GE299.out) | exact HB.out)) hb); clear BK299; clear HB; have BK299 := n0_; have HB := n1_; clear n0_ n1_; (try clear hb); (try clear hb2); (try clear hk); (try clear hi)) | ((with_reducible refine gate_callee (f := 11) rfl ?_); refine goesL_ (some 106) rfl rfl Try.func11 (by kernel_rfl) rfl #[.int .i64 t313, .int .i64 (wrap64 (Int.tmod (IntKind.u64.wrap (a3)) 7))] rfl (by (try simp only [List.map_toArray, List.map_cons, List.map_nil]); first | done | rfl | (simp only [List.length_drop, List.length_take]; rfl)) ?_; (with_reducible refine (week_No.calls kj8 t313 (wrap64 (Int.tmod (IntKind.u64.wrap (a3)) 7)) t315 t316 t317 _ A22.out).mono ?_); rintro e w26 ⟨rfl, hb⟩; refine ⟨_, rfl, ?_⟩; have n0_ := Aside0.mk (blk_below (g := gb299) (o := .cells #[.int .i64 (wrap64 (2 + (wrap64 (Int.tmod (IntKind.u64.wrap (a0)) 9990)))), .int .i64 (wrap64 (1 + (wrap64 (Int.tmod (IntKind.u64.wrap (a1)) 12)))), .int .i64 (wrap64 (1 + (wrap64 (Int.tmod (IntKind.u64.wrap (a2)) 28))))] 39 (0, 0)) (by (with_reducible repeat (first | refine blk_drewN ?_ _ | refine blk_drew ?_ | refine blk_alloc ?_ _)); exact BK299.out) hb); have n1_ := Aside0.mk (below_step (by repeat (first | (with_reducible first | exact HB.out | apply below_alloc | apply pw_below_drewN | apply below_drew1 | refine below_set ?_ GE299.out) | exact HB.out)) hb); clear BK299; clear HB; have BK299 := n0_; have HB := n1_; clear n0_ n1_; (try clear hb); (try clear hb2); (try clear hk); (try clear hi)))
        (try simp only [Act.put, List.setIfInBounds_toArray, List.set_cons_zero, List.set_cons_succ])
        go_cut [145] (fun v145 wc => ∃ (kq : Nat) (x145_22 : Bool), v145 = .bool x145_22 ∧ Aside0 (solsticelaw03_WeekNumbers.j1 kq (wrap64 (Int.tmod (IntKind.u64.wrap (a3)) 7)) t300 t302 t303 t305 t306 t308 t309 t311 x145_22 = some r) ∧ Aside0 (kq ≤ kj8) ∧ Aside0 (wc.heap[gb299]? = some (.cells #[.int .i64 (wrap64 (2 + (wrap64 (Int.tmod (IntKind.u64.wrap (a0)) 9990)))), .int .i64 (wrap64 (1 + (wrap64 (Int.tmod (IntKind.u64.wrap (a1)) 12)))), .int .i64 (wrap64 (1 + (wrap64 (Int.tmod (IntKind.u64.wrap (a2)) 28))))] 39 (0, 0))) ∧ Aside0 (Below w.heap.size w wc))
        case first =>
          have H := HC23.out
          clear HC23
          by_cases c27 : t312 = 0
          · rw [if_pos c27] at H
            have c27b0 : (t312 == 0) = true := beq_iff_eq.mpr c27
            have c27b1 : (t312 != 0) = false := bne_eq_false_iff_eq.mpr c27
            clear c27
            (first | rw [c27b0] | (simp only [i64_w, i32_w]; rw [c27b0]) | skip)
            by_cases c28 : t314 = 0
            · rw [if_pos c28] at H
              have c28b0 : (t314 == 0) = true := beq_iff_eq.mpr c28
              have c28b1 : (t314 != 0) = false := bne_eq_false_iff_eq.mpr c28
              clear c28
              by_cases c29 : t317 = 0
              · rw [if_pos c29] at H
                have c29b0 : (t317 == 0) = true := beq_iff_eq.mpr c29
                have c29b1 : (t317 != 0) = false := bne_eq_false_iff_eq.mpr c29
                clear c29
                by_cases c30 : t315 = (wrap64 (2 + (wrap64 (Int.tmod (IntKind.u64.wrap (a0)) 9990))))
                · rw [if_pos c30] at H
                  have c30b0 : (t315 == (wrap64 (2 + (wrap64 (Int.tmod (IntKind.u64.wrap (a0)) 9990))))) = true := beq_iff_eq.mpr c30
                  have c30b1 : (t315 != (wrap64 (2 + (wrap64 (Int.tmod (IntKind.u64.wrap (a0)) 9990))))) = false := bne_eq_false_iff_eq.mpr c30
                  clear c30
                  by_cases c31 : t316 = 1
                  · rw [if_pos c31] at H
                    have c31b0 : (t316 == 1) = true := beq_iff_eq.mpr c31
                    have c31b1 : (t316 != 1) = false := bne_eq_false_iff_eq.mpr c31
                    clear c31
                    by_cases c32 : t311 < 52
                    · rw [if_pos c32] at H
                      have c32b0 : decide (t311 < 52) = true := decide_eq_true c32
                      clear c32
                      have H' := Aside0.mk H
                      clear H
                      go_wp2
                      go_meet
                      case rel => exact ⟨_, (true), (by first | rfl | (simp; done) | (simp [*]; done)), H', ⟨by have := HJ8.out; first | omega | exact Nat.le_refl _⟩, ⟨by (with_reducible repeat (first | refine blk_drewN ?_ _ | refine blk_drew ?_ | refine blk_alloc ?_ _)); exact BK299.out⟩, ⟨by repeat (first | (with_reducible first | exact HB.out | apply below_alloc | apply pw_below_drewN | apply below_drew1 | refine below_set ?_ GE299.out) | exact HB.out)⟩⟩
                    · rw [if_neg c32] at H
                      have c32b0 : decide (t311 < 52) = false := decide_eq_false c32
                      clear c32
                      by_cases c33 : t311 > 53
                      · rw [if_pos c33] at H
                        have c33b0 : decide (53 < t311) = true := decide_eq_true c33
                        clear c33
                        have H' := Aside0.mk H
                        clear H
                        go_wp2
                        go_meet
                        case rel => exact ⟨_, (true), (by first | rfl | (simp; done) | (simp [*]; done)), H', ⟨by have := HJ8.out; first | omega | exact Nat.le_refl _⟩, ⟨by (with_reducible repeat (first | refine blk_drewN ?_ _ | refine blk_drew ?_ | refine blk_alloc ?_ _)); exact BK299.out⟩, ⟨by repeat (first | (with_reducible first | exact HB.out | apply below_alloc | apply pw_below_drewN | apply below_drew1 | refine below_set ?_ GE299.out) | exact HB.out)⟩⟩
                      · rw [if_neg c33] at H
                        have c33b0 : decide (53 < t311) = false := decide_eq_false c33
                        clear c33
                        by_cases c34 : t303 < 1
                        · rw [if_pos c34] at H
                          have c34b0 : decide (t303 < 1) = true := decide_eq_true c34
                          clear c34
                          have H' := Aside0.mk H
                          clear H
                          go_wp2
                          go_meet
                          case rel => exact ⟨_, (true), (by first | rfl | (simp; done) | (simp [*]; done)), H', ⟨by have := HJ8.out; first | omega | exact Nat.le_refl _⟩, ⟨by (with_reducible repeat (first | refine blk_drewN ?_ _ | refine blk_drew ?_ | refine blk_alloc ?_ _)); exact BK299.out⟩, ⟨by repeat (first | (with_reducible first | exact HB.out | apply below_alloc | apply pw_below_drewN | apply below_drew1 | refine below_set ?_ GE299.out) | exact HB.out)⟩⟩
                        · rw [if_neg c34] at H
                          have c34b0 : decide (t303 < 1) = false := decide_eq_false c34
                          clear c34
                          have H' := Aside0.mk H
                          clear H
                          go_wp2
                          go_meet
                          case rel => exact ⟨_, (decide (t303 > t311)), (by first | rfl | (simp; done) | (simp [*]; done)), H', ⟨by have := HJ8.out; first | omega | exact Nat.le_refl _⟩, ⟨by (with_reducible repeat (first | refine blk_drewN ?_ _ | refine blk_drew ?_ | refine blk_alloc ?_ _)); exact BK299.out⟩, ⟨by repeat (first | (with_reducible first | exact HB.out | apply below_alloc | apply pw_below_drewN | apply below_drew1 | refine below_set ?_ GE299.out) | exact HB.out)⟩⟩
                  · rw [if_neg c31] at H
                    have c31b0 : (t316 == 1) = false := beq_eq_false_iff_ne.mpr c31
                    have c31b1 : (t316 != 1) = true := bne_iff_ne.mpr c31
                    have H' := Aside0.mk H
                    clear H
                    go_wp2
                    go_meet
                    case rel => exact ⟨_, (true), (by first | rfl | (simp; done) | (simp [*]; done)), H', ⟨by have := HJ8.out; first | omega | exact Nat.le_refl _⟩, ⟨by (with_reducible repeat (first | refine blk_drewN ?_ _ | refine blk_drew ?_ | refine blk_alloc ?_ _)); exact BK299.out⟩, ⟨by repeat (first | (with_reducible first | exact HB.out | apply below_alloc | apply pw_below_drewN | apply below_drew1 | refine below_set ?_ GE299.out) | exact HB.out)⟩⟩
                · rw [if_neg c30] at H
                  have c30b0 : (t315 == (wrap64 (2 + (wrap64 (Int.tmod (IntKind.u64.wrap (a0)) 9990))))) = false := beq_eq_false_iff_ne.mpr c30
                  have c30b1 : (t315 != (wrap64 (2 + (wrap64 (Int.tmod (IntKind.u64.wrap (a0)) 9990))))) = true := bne_iff_ne.mpr c30
                  have H' := Aside0.mk H
                  clear H
                  go_wp2
                  go_meet
                  case rel => exact ⟨_, (true), (by first | rfl | (simp; done) | (simp [*]; done)), H', ⟨by have := HJ8.out; first | omega | exact Nat.le_refl _⟩, ⟨by (with_reducible repeat (first | refine blk_drewN ?_ _ | refine blk_drew ?_ | refine blk_alloc ?_ _)); exact BK299.out⟩, ⟨by repeat (first | (with_reducible first | exact HB.out | apply below_alloc | apply pw_below_drewN | apply below_drew1 | refine below_set ?_ GE299.out) | exact HB.out)⟩⟩
              · rw [if_neg c29] at H
                have c29b0 : (t317 == 0) = false := beq_eq_false_iff_ne.mpr c29
                have c29b1 : (t317 != 0) = true := bne_iff_ne.mpr c29
                have H' := Aside0.mk H
                clear H
                go_wp2
                go_meet
                case rel => exact ⟨_, (true), (by first | rfl | (simp; done) | (simp [*]; done)), H', ⟨by have := HJ8.out; first | omega | exact Nat.le_refl _⟩, ⟨by (with_reducible repeat (first | refine blk_drewN ?_ _ | refine blk_drew ?_ | refine blk_alloc ?_ _)); exact BK299.out⟩, ⟨by repeat (first | (with_reducible first | exact HB.out | apply below_alloc | apply pw_below_drewN | apply below_drew1 | refine below_set ?_ GE299.out) | exact HB.out)⟩⟩
            · rw [if_neg c28] at H
              have c28b0 : (t314 == 0) = false := beq_eq_false_iff_ne.mpr c28
              have c28b1 : (t314 != 0) = true := bne_iff_ne.mpr c28
              have H' := Aside0.mk H
              clear H
              go_wp2
              go_meet
              case rel => exact ⟨_, (true), (by first | rfl | (simp; done) | (simp [*]; done)), H', ⟨by have := HJ8.out; first | omega | exact Nat.le_refl _⟩, ⟨by (with_reducible repeat (first | refine blk_drewN ?_ _ | refine blk_drew ?_ | refine blk_alloc ?_ _)); exact BK299.out⟩, ⟨by repeat (first | (with_reducible first | exact HB.out | apply below_alloc | apply pw_below_drewN | apply below_drew1 | refine below_set ?_ GE299.out) | exact HB.out)⟩⟩
          · rw [if_neg c27] at H
            have c27b0 : (t312 == 0) = false := beq_eq_false_iff_ne.mpr c27
            have c27b1 : (t312 != 0) = true := bne_iff_ne.mpr c27
            (first | rw [c27b0] | (simp only [i64_w, i32_w]; rw [c27b0]) | skip)
            have H' := Aside0.mk H
            clear H
            go_wp2
            go_meet
            case rel => exact ⟨_, (true), (by first | rfl | (simp; done) | (simp [*]; done)), H', ⟨by have := HJ8.out; first | omega | exact Nat.le_refl _⟩, ⟨by (with_reducible repeat (first | refine blk_drewN ?_ _ | refine blk_drew ?_ | refine blk_alloc ?_ _)); exact BK299.out⟩, ⟨by repeat (first | (with_reducible first | exact HB.out | apply below_alloc | apply pw_below_drewN | apply below_drew1 | refine below_set ?_ GE299.out) | exact HB.out)⟩⟩
        case rest =>
          clear HC23
          try clear c1
          try clear c2
          try clear p2
          try clear c3
          try clear c6
          try clear p6
          try clear c11
          try clear c12
          try clear c16
          try clear c16b0
          try clear c16b1
          try clear c17
          try clear c17b0
          try clear c17b1
          try clear c18
          try clear c18b0
          try clear c18b1
          try clear c19
          try clear c24
          try clear c27
          try clear c27b0
          try clear c27b1
          try clear c28
          try clear c28b0
          try clear c28b1
          try clear c29
          try clear c29b0
          try clear c29b1
          try clear c30
          try clear c30b0
          try clear c30b1
          try clear c31
          try clear c31b0
          try clear c31b1
          try clear c32
          try clear c32b0
          try clear c33
          try clear c33b0
          try clear c34
          try clear c34b0
          try clear hcz11_0
          try clear hcz11_1
          try clear hcz11_2
          try clear hfz11_0
          try clear hfz11_1
          try clear hfz11_2
          try clear p2
          try clear p6
          obtain ⟨kq, x145_22, rfl, HA, HJ22, BK299, HB⟩ := hcut
          cases kq with
          | zero => exact absurd HA.out (by simp [solsticelaw03_WeekNumbers.j1])
          | succ kj22 =>
            have H := HA.out
            clear HA
            simp only [solsticelaw03_WeekNumbers.j1] at H
            by_cases c35 : x145_22 = true
            · subst c35
              have H1 : (some false) = some r := by rw [if_pos rfl] at H; exact H
              clear H
              have H := H1
              clear H1
              obtain rfl := Option.some.inj H
              go_wp2
              go_ret
              exact ⟨by first | rfl | (simp [errW_none, errW_some] <;> rfl) | (simp [*, errW_none, errW_some] <;> rfl), by repeat (first | (with_reducible first | exact HB.out | apply below_alloc | apply pw_below_drewN | apply below_drew1 | refine below_set ?_ GE299.out) | exact HB.out)⟩
            · replace c35 := Bool.eq_false_iff.mpr c35
              subst c35
              have H1 : ((civil_Weekday.f (wrap64 (t300 + 1))).bind fun t318 => (if t318 = (wrap64 (Int.tmod (IntKind.u64.wrap (a3)) 7)) then (solsticelaw03_WeekNumbers.j2 kj22 t302 t303 t305 t306 t311 false) else (if t308 = t302 then (solsticelaw03_WeekNumbers.j2 kj22 t302 t303 t305 t306 t311 (t309 != t303)) else (solsticelaw03_WeekNumbers.j2 kj22 t302 t303 t305 t306 t311 true)))) = some r := by rw [if_neg (show ¬ (false = true) by decide)] at H; exact H
              clear H
              have H := H1
              clear H1
              have HC36 := Aside0.mk H
              clear H
              go_upto_region 14 with (fail)
              go_cut [160] (fun v160 wc => ∃ (kq : Nat) (x160_35 : Bool), v160 = .bool x160_35 ∧ Aside0 (solsticelaw03_WeekNumbers.j2 kq t302 t303 t305 t306 t311 x160_35 = some r) ∧ Aside0 (kq ≤ kj22) ∧ Aside0 (wc.heap[gb299]? = some (.cells #[.int .i64 (wrap64 (2 + (wrap64 (Int.tmod (IntKind.u64.wrap (a0)) 9990)))), .int .i64 (wrap64 (1 + (wrap64 (Int.tmod (IntKind.u64.wrap (a1)) 12)))), .int .i64 (wrap64 (1 + (wrap64 (Int.tmod (IntKind.u64.wrap (a2)) 28))))] 39 (0, 0))) ∧ Aside0 (Below w.heap.size w wc))
              case first =>
                have H := HC36.out
                clear HC36
                replace H := Option.bind_eq_some_iff.mp H
                obtain ⟨t318, A370, H⟩ := H
                replace H : (if t318 = (wrap64 (Int.tmod (IntKind.u64.wrap (a3)) 7)) then (solsticelaw03_WeekNumbers.j2 kj22 t302 t303 t305 t306 t311 false) else (if t308 = t302 then (solsticelaw03_WeekNumbers.j2 kj22 t302 t303 t305 t306 t311 (t309 != t303)) else (solsticelaw03_WeekNumbers.j2 kj22 t302 t303 t305 t306 t311 true))) = some r := H
                have A37 := Aside0.mk A370
                clear A370
                by_cases c38 : t318 = (wrap64 (Int.tmod (IntKind.u64.wrap (a3)) 7))
                · rw [if_pos c38] at H
                  have c38b0 : (t318 == (wrap64 (Int.tmod (IntKind.u64.wrap (a3)) 7))) = true := beq_iff_eq.mpr c38
                  have c38b1 : (t318 != (wrap64 (Int.tmod (IntKind.u64.wrap (a3)) 7))) = false := bne_eq_false_iff_eq.mpr c38
                  clear c38
                  (first | rw [c38b0] | (simp only [i64_w, i32_w]; rw [c38b0]) | skip)
                  have H' := Aside0.mk H
                  clear H
                  go_wp2_with (first | ((with_reducible refine gate_callee (f := 25) rfl ?_); refine goesL_ (some 148) rfl rfl Try.func25 (by kernel_rfl) rfl #[.int .i64 (wrap64 (t300 + 1))] rfl (by (try simp only [List.map_toArray, List.map_cons, List.map_nil]); first | done | rfl | (simp only [List.length_drop, List.length_take]; rfl)) ?_; (with_reducible refine (civil_Weekday.calls (wrap64 (t300 + 1)) t318 _ A37.out).mono ?_); rintro e w' ⟨rfl, ⟨nd, rfl⟩⟩; refine ⟨_, rfl, ?_⟩))
                  go_meet
                  case rel => exact ⟨_, (false), (by first | rfl | (simp; done) | (simp [*]; done)), H', ⟨by have := HJ8.out; have := HJ22.out; first | omega | exact Nat.le_refl _⟩, ⟨by (with_reducible repeat (first | refine blk_drewN ?_ _ | refine blk_drew ?_ | refine blk_alloc ?_ _)); exact BK299.out⟩, ⟨by repeat (first | (with_reducible first | exact HB.out | apply below_alloc | apply pw_below_drewN | apply below_drew1 | refine below_set ?_ GE299.out) | exact HB.out)⟩⟩
                · rw [if_neg c38] at H
                  have c38b0 : (t318 == (wrap64 (Int.tmod (IntKind.u64.wrap (a3)) 7))) = false := beq_eq_false_iff_ne.mpr c38
                  have c38b1 : (t318 != (wrap64 (Int.tmod (IntKind.u64.wrap (a3)) 7))) = true := bne_iff_ne.mpr c38
                  (first | rw [c38b0] | (simp only [i64_w, i32_w]; rw [c38b0]) | skip)
                  by_cases c39 : t308 = t302
                  · rw [if_pos c39] at H
                    have c39b0 : (t308 == t302) = true := beq_iff_eq.mpr c39
                    have c39b1 : (t308 != t302) = false := bne_eq_false_iff_eq.mpr c39
                    clear c39
                    have H' := Aside0.mk H
                    clear H
                    go_wp2_with (first | ((with_reducible refine gate_callee (f := 25) rfl ?_); refine goesL_ (some 148) rfl rfl Try.func25 (by kernel_rfl) rfl #[.int .i64 (wrap64 (t300 + 1))] rfl (by (try simp only [List.map_toArray, List.map_cons, List.map_nil]); first | done | rfl | (simp only [List.length_drop, List.length_take]; rfl)) ?_; (with_reducible refine (civil_Weekday.calls (wrap64 (t300 + 1)) t318 _ A37.out).mono ?_); rintro e w' ⟨rfl, ⟨nd, rfl⟩⟩; refine ⟨_, rfl, ?_⟩))
                    go_meet
                    case rel => exact ⟨_, ((t309 != t303)), (by first | rfl | (simp; done) | (simp [*]; done)), H', ⟨by have := HJ8.out; have := HJ22.out; first | omega | exact Nat.le_refl _⟩, ⟨by (with_reducible repeat (first | refine blk_drewN ?_ _ | refine blk_drew ?_ | refine blk_alloc ?_ _)); exact BK299.out⟩, ⟨by repeat (first | (with_reducible first | exact HB.out | apply below_alloc | apply pw_below_drewN | apply below_drew1 | refine below_set ?_ GE299.out) | exact HB.out)⟩⟩
                  · rw [if_neg c39] at H
                    have c39b0 : (t308 == t302) = false := beq_eq_false_iff_ne.mpr c39
                    have c39b1 : (t308 != t302) = true := bne_iff_ne.mpr c39
                    have H' := Aside0.mk H
                    clear H
                    go_wp2_with (first | ((with_reducible refine gate_callee (f := 25) rfl ?_); refine goesL_ (some 148) rfl rfl Try.func25 (by kernel_rfl) rfl #[.int .i64 (wrap64 (t300 + 1))] rfl (by (try simp only [List.map_toArray, List.map_cons, List.map_nil]); first | done | rfl | (simp only [List.length_drop, List.length_take]; rfl)) ?_; (with_reducible refine (civil_Weekday.calls (wrap64 (t300 + 1)) t318 _ A37.out).mono ?_); rintro e w' ⟨rfl, ⟨nd, rfl⟩⟩; refine ⟨_, rfl, ?_⟩))
                    go_meet
                    case rel => exact ⟨_, (true), (by first | rfl | (simp; done) | (simp [*]; done)), H', ⟨by have := HJ8.out; have := HJ22.out; first | omega | exact Nat.le_refl _⟩, ⟨by (with_reducible repeat (first | refine blk_drewN ?_ _ | refine blk_drew ?_ | refine blk_alloc ?_ _)); exact BK299.out⟩, ⟨by repeat (first | (with_reducible first | exact HB.out | apply below_alloc | apply pw_below_drewN | apply below_drew1 | refine below_set ?_ GE299.out) | exact HB.out)⟩⟩
              case rest =>
                clear HC36
                try clear c1
                try clear c2
                try clear p2
                try clear c3
                try clear c6
                try clear p6
                try clear c11
                try clear c12
                try clear c16
                try clear c16b0
                try clear c16b1
                try clear c17
                try clear c17b0
                try clear c17b1
                try clear c18
                try clear c18b0
                try clear c18b1
                try clear c19
                try clear c24
                try clear c25
                try clear c27
                try clear c27b0
                try clear c27b1
                try clear c28
                try clear c28b0
                try clear c28b1
                try clear c29
                try clear c29b0
                try clear c29b1
                try clear c30
                try clear c30b0
                try clear c30b1
                try clear c31
                try clear c31b0
                try clear c31b1
                try clear c32
                try clear c32b0
                try clear c33
                try clear c33b0
                try clear c34
                try clear c34b0
                try clear c35
                try clear c38
                try clear c38b0
                try clear c38b1
                try clear c39
                try clear c39b0
                try clear c39b1
                try clear hcz11_0
                try clear hcz11_1
                try clear hcz11_2
                try clear hfz11_0
                try clear hfz11_1
                try clear hfz11_2
                try clear p2
                try clear p6
                obtain ⟨kq, x160_35, rfl, HA, HJ35, BK299, HB⟩ := hcut
                cases kq with
                | zero => exact absurd HA.out (by simp [solsticelaw03_WeekNumbers.j2])
                | succ kj35 =>
                  have H := HA.out
                  clear HA
                  simp only [solsticelaw03_WeekNumbers.j2] at H
                  by_cases c40 : x160_35 = true
                  · subst c40
                    have H1 : (some false) = some r := by rw [if_pos rfl] at H; exact H
                    clear H
                    have H := H1
                    clear H1
                    obtain rfl := Option.some.inj H
                    go_wp2
                    go_ret
                    exact ⟨by first | rfl | (simp [errW_none, errW_some] <;> rfl) | (simp [*, errW_none, errW_some] <;> rfl), by repeat (first | (with_reducible first | exact HB.out | apply below_alloc | apply pw_below_drewN | apply below_drew1 | refine below_set ?_ GE299.out) | exact HB.out)⟩
                  · replace c40 := Bool.eq_false_iff.mpr c40
                    subst c40
                    have H1 : (if t303 < t311 then (if t305 = t302 then (if t306 = (wrap64 (t303 + 1)) then ((solsticelaw03_wakes.f kj35).bind fun t319 => (some t319)) else (some false)) else (some false)) else (if t305 = (wrap64 (t302 + 1)) then (if t306 = 1 then ((solsticelaw03_wakes.f kj35).bind fun t320 => (some t320)) else (some false)) else (some false))) = some r := by rw [if_neg (show ¬ (false = true) by decide)] at H; exact H
                    clear H
                    have H := H1
                    clear H1
                    by_cases c41 : t303 < t311
                    · rw [if_pos c41] at H
                      have c41b0 : decide (t303 < t311) = true := decide_eq_true c41
                      clear c41
                      by_cases c42 : t305 = t302
                      · rw [if_pos c42] at H
                        have c42b0 : (t305 == t302) = true := beq_iff_eq.mpr c42
                        have c42b1 : (t305 != t302) = false := bne_eq_false_iff_eq.mpr c42
                        clear c42
                        by_cases c43 : t306 = (wrap64 (t303 + 1))
                        · rw [if_pos c43] at H
                          have c43b0 : (t306 == (wrap64 (t303 + 1))) = true := beq_iff_eq.mpr c43
                          have c43b1 : (t306 != (wrap64 (t303 + 1))) = false := bne_eq_false_iff_eq.mpr c43
                          clear c43
                          replace H := Option.bind_eq_some_iff.mp H
                          obtain ⟨t319, A440, H⟩ := H
                          replace H : (some t319) = some r := H
                          have A44 := Aside0.mk A440
                          clear A440
                          obtain rfl := Option.some.inj H
                          go_wp2_with (first | (go_at_call 17; (with_reducible refine (solsticelaw03_wakes.calls kj35  t319 _ A44.out).mono ?_); rintro e w45 ⟨rfl, hb⟩; have n0_ := Aside0.mk (blk_below (g := gb299) (o := .cells #[.int .i64 (wrap64 (2 + (wrap64 (Int.tmod (IntKind.u64.wrap (a0)) 9990)))), .int .i64 (wrap64 (1 + (wrap64 (Int.tmod (IntKind.u64.wrap (a1)) 12)))), .int .i64 (wrap64 (1 + (wrap64 (Int.tmod (IntKind.u64.wrap (a2)) 28))))] 39 (0, 0)) (by (with_reducible repeat (first | refine blk_drewN ?_ _ | refine blk_drew ?_ | refine blk_alloc ?_ _)); exact BK299.out) hb); have n1_ := Aside0.mk (below_step (by repeat (first | (with_reducible first | exact HB.out | apply below_alloc | apply pw_below_drewN | apply below_drew1 | refine below_set ?_ GE299.out) | exact HB.out)) hb); clear BK299; clear HB; have BK299 := n0_; have HB := n1_; clear n0_ n1_; (try clear hb); (try clear hb2); (try clear hk); (try clear hi)))
                          go_ret
                          exact ⟨by first | rfl | (simp [errW_none, errW_some] <;> rfl) | (simp [*, errW_none, errW_some] <;> rfl), by repeat (first | (with_reducible first | exact HB.out | apply below_alloc | apply pw_below_drewN | apply below_drew1 | refine below_set ?_ GE299.out) | exact HB.out)⟩
                        · rw [if_neg c43] at H
                          have c43b0 : (t306 == (wrap64 (t303 + 1))) = false := beq_eq_false_iff_ne.mpr c43
                          have c43b1 : (t306 != (wrap64 (t303 + 1))) = true := bne_iff_ne.mpr c43
                          obtain rfl := Option.some.inj H
                          go_wp2
                          go_ret
                          exact ⟨by first | rfl | (simp [errW_none, errW_some] <;> rfl) | (simp [*, errW_none, errW_some] <;> rfl), by repeat (first | (with_reducible first | exact HB.out | apply below_alloc | apply pw_below_drewN | apply below_drew1 | refine below_set ?_ GE299.out) | exact HB.out)⟩
                      · rw [if_neg c42] at H
                        have c42b0 : (t305 == t302) = false := beq_eq_false_iff_ne.mpr c42
                        have c42b1 : (t305 != t302) = true := bne_iff_ne.mpr c42
                        obtain rfl := Option.some.inj H
                        go_wp2
                        go_ret
                        exact ⟨by first | rfl | (simp [errW_none, errW_some] <;> rfl) | (simp [*, errW_none, errW_some] <;> rfl), by repeat (first | (with_reducible first | exact HB.out | apply below_alloc | apply pw_below_drewN | apply below_drew1 | refine below_set ?_ GE299.out) | exact HB.out)⟩
                    · rw [if_neg c41] at H
                      have c41b0 : decide (t303 < t311) = false := decide_eq_false c41
                      clear c41
                      by_cases c46 : t305 = (wrap64 (t302 + 1))
                      · rw [if_pos c46] at H
                        have c46b0 : (t305 == (wrap64 (t302 + 1))) = true := beq_iff_eq.mpr c46
                        have c46b1 : (t305 != (wrap64 (t302 + 1))) = false := bne_eq_false_iff_eq.mpr c46
                        clear c46
                        by_cases c47 : t306 = 1
                        · rw [if_pos c47] at H
                          have c47b0 : (t306 == 1) = true := beq_iff_eq.mpr c47
                          have c47b1 : (t306 != 1) = false := bne_eq_false_iff_eq.mpr c47
                          clear c47
                          replace H := Option.bind_eq_some_iff.mp H
                          obtain ⟨t320, A480, H⟩ := H
                          replace H : (some t320) = some r := H
                          have A48 := Aside0.mk A480
                          clear A480
                          obtain rfl := Option.some.inj H
                          go_wp2_with (first | (go_at_call 17; (with_reducible refine (solsticelaw03_wakes.calls kj35  t320 _ A48.out).mono ?_); rintro e w49 ⟨rfl, hb⟩; have n0_ := Aside0.mk (blk_below (g := gb299) (o := .cells #[.int .i64 (wrap64 (2 + (wrap64 (Int.tmod (IntKind.u64.wrap (a0)) 9990)))), .int .i64 (wrap64 (1 + (wrap64 (Int.tmod (IntKind.u64.wrap (a1)) 12)))), .int .i64 (wrap64 (1 + (wrap64 (Int.tmod (IntKind.u64.wrap (a2)) 28))))] 39 (0, 0)) (by (with_reducible repeat (first | refine blk_drewN ?_ _ | refine blk_drew ?_ | refine blk_alloc ?_ _)); exact BK299.out) hb); have n1_ := Aside0.mk (below_step (by repeat (first | (with_reducible first | exact HB.out | apply below_alloc | apply pw_below_drewN | apply below_drew1 | refine below_set ?_ GE299.out) | exact HB.out)) hb); clear BK299; clear HB; have BK299 := n0_; have HB := n1_; clear n0_ n1_; (try clear hb); (try clear hb2); (try clear hk); (try clear hi)))
                          go_ret
                          exact ⟨by first | rfl | (simp [errW_none, errW_some] <;> rfl) | (simp [*, errW_none, errW_some] <;> rfl), by repeat (first | (with_reducible first | exact HB.out | apply below_alloc | apply pw_below_drewN | apply below_drew1 | refine below_set ?_ GE299.out) | exact HB.out)⟩
                        · rw [if_neg c47] at H
                          have c47b0 : (t306 == 1) = false := beq_eq_false_iff_ne.mpr c47
                          have c47b1 : (t306 != 1) = true := bne_iff_ne.mpr c47
                          obtain rfl := Option.some.inj H
                          go_wp2
                          go_ret
                          exact ⟨by first | rfl | (simp [errW_none, errW_some] <;> rfl) | (simp [*, errW_none, errW_some] <;> rfl), by repeat (first | (with_reducible first | exact HB.out | apply below_alloc | apply pw_below_drewN | apply below_drew1 | refine below_set ?_ GE299.out) | exact HB.out)⟩
                      · rw [if_neg c46] at H
                        have c46b0 : (t305 == (wrap64 (t302 + 1))) = false := beq_eq_false_iff_ne.mpr c46
                        have c46b1 : (t305 != (wrap64 (t302 + 1))) = true := bne_iff_ne.mpr c46
                        obtain rfl := Option.some.inj H
                        go_wp2
                        go_ret
                        exact ⟨by first | rfl | (simp [errW_none, errW_some] <;> rfl) | (simp [*, errW_none, errW_some] <;> rfl), by repeat (first | (with_reducible first | exact HB.out | apply below_alloc | apply pw_below_drewN | apply below_drew1 | refine below_set ?_ GE299.out) | exact HB.out)⟩

/-- THE ONE PURE STATEMENT of solsticelaw03_WeekNumbers: yours. -/
def solsticelaw03_WeekNumbers.Pure : Prop := ∀ (a0 : Int) (a1 : Int) (a2 : Int) (a3 : Int), (Lit.int .i64 a0).wf = true → (Lit.int .i64 a1).wf = true → (Lit.int .i64 a2).wf = true → (Lit.int .i64 a3).wf = true → ∃ k, solsticelaw03_WeekNumbers.f k a0 a1 a2 a3 = some true
theorem solsticelaw03_WeekNumbers.walk (P : solsticelaw03_WeekNumbers.Pure) (a0 : Int) (a1 : Int) (a2 : Int) (a3 : Int) (w : World) (w0 : (Lit.int .i64 a0).wf = true) (w1 : (Lit.int .i64 a1).wf = true) (w2 : (Lit.int .i64 a2).wf = true) (w3 : (Lit.int .i64 a3).wf = true) :
    Calls Try.prog 6 #[.int .i64 a0, .int .i64 a1, .int .i64 a2, .int .i64 a3] w fun e w' => e = .returned (.bool true) ∧ Below w.heap.size w w' := by
  obtain ⟨k, h⟩ := P a0 a1 a2 a3 w0 w1 w2 w3
  refine (solsticelaw03_WeekNumbers.calls k a0 a1 a2 a3 true w h).mono ?_
  rintro e w' ⟨rfl, hd⟩
  exact ⟨rfl, hd⟩

end Go.Proofs.Ytlefnaoflajnmaa.O
