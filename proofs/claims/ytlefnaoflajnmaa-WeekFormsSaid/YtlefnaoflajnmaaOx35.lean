-- What some functions of the program compute: a text of this claim's own (lines first written by the kit's tool, some proved anew).
import Derived.Test.YtlefnaoflajnmaaOx0
import Derived.Test.YtlefnaoflajnmaaOx4
import Derived.Test.YtlefnaoflajnmaaOx7
import Derived.Test.YtlefnaoflajnmaaOx8
import Derived.Test.YtlefnaoflajnmaaOx11
import Derived.Test.YtlefnaoflajnmaaOx27
namespace Go.Proofs.Ytlefnaoflajnmaa.O
open Go.RowKit Go.Proofs.YtlefnaoflajnmaaW.PrintWords Go.Proofs.YtlefnaoflajnmaaW.PrintLast Go.Proofs.YtlefnaoflajnmaaW.PrintMore
attribute [local go_sem] max2_int min2_int max_two min_two max_three min_three max_four min_four   -- for this text's walks alone
set_option linter.unusedVariables false
set_option linter.unusedSimpArgs false

/-! ### solsticelaw03_WeekForms: function 4 -/
def solsticelaw03_WeekForms.j0 : Nat → Int → Int → Int → Int → Int → Int → Int → Int → Int → Bool → Option (Bool)
  | 0, _, _, _, _, _, _, _, _, _, _ => none
  | k + 1, x2, x3, x9, x10, x12, x14, x16, x18, x20, x119 => if x119 = true then (some false) else (if x20 = x10 then (if x14 ≥ x10 then (if x14 < (wrap64 (x10 + 7)) then (if x16 ≤ x10 then (if x16 > (wrap64 (x10 - 7)) then (if x18 ≤ x12 then (if x18 > (wrap64 (x12 - 7)) then ((civil_Weekday.f x14).bind fun t282 => (if t282 = x2 then ((civil_Weekday.f x16).bind fun t283 => (if t283 = x2 then ((civil_Weekday.f x18).bind fun t284 => (if t284 = x2 then (if x3 < x9 then ((solsticelaw03_wakes.f k).bind fun t285 => (some t285)) else (if x16 = x18 then ((solsticelaw03_wakes.f k).bind fun t286 => (some t286)) else (some false))) else (some false))) else (some false))) else (some false))) else (some false)) else (some false)) else (some false)) else (some false)) else (some false)) else (some false)) else (some false))
def solsticelaw03_WeekForms.f (k : Nat) (a0 : Int) (a1 : Int) (a2 : Int) (a3 : Int) : Option (Bool) := (civil_Len.f k (wrap64 (1 + (wrap64 (Int.tmod (IntKind.u64.wrap (a0)) 9999)))) (wrap64 (1 + (wrap64 (Int.tmod (IntKind.u64.wrap (a1)) 12))))).bind fun t269 => (if t269 < 28 then (some false) else (if (IntKind.u64.wrap (t269)) = 0 then (none) else ((civil_Number.f k (wrap64 (1 + (wrap64 (Int.tmod (IntKind.u64.wrap (a0)) 9999)))) (wrap64 (1 + (wrap64 (Int.tmod (IntKind.u64.wrap (a1)) 12)))) (wrap64 (1 + (wrap64 (Int.tmod (IntKind.u64.wrap (a3)) (IntKind.u64.wrap (t269))))))).bind fun bt270 => ((civil_Number.f k (wrap64 (1 + (wrap64 (Int.tmod (IntKind.u64.wrap (a0)) 9999)))) (wrap64 (1 + (wrap64 (Int.tmod (IntKind.u64.wrap (a1)) 12)))) t269).bind fun bt272 => ((week_Resolve.f k (wrap64 (1 + (wrap64 (Int.tmod (IntKind.u64.wrap (a0)) 9999)))) (wrap64 (1 + (wrap64 (Int.tmod (IntKind.u64.wrap (a1)) 12)))) 3 (wrap64 (Int.tmod (IntKind.u64.wrap (a2)) 7)) (wrap64 (1 + (wrap64 (Int.tmod (IntKind.u64.wrap (a3)) (IntKind.u64.wrap (t269))))))).bind fun bt274 => ((week_Resolve.f k (wrap64 (1 + (wrap64 (Int.tmod (IntKind.u64.wrap (a0)) 9999)))) (wrap64 (1 + (wrap64 (Int.tmod (IntKind.u64.wrap (a1)) 12)))) 4 (wrap64 (Int.tmod (IntKind.u64.wrap (a2)) 7)) (wrap64 (1 + (wrap64 (Int.tmod (IntKind.u64.wrap (a3)) (IntKind.u64.wrap (t269))))))).bind fun bt276 => ((week_Resolve.f k (wrap64 (1 + (wrap64 (Int.tmod (IntKind.u64.wrap (a0)) 9999)))) (wrap64 (1 + (wrap64 (Int.tmod (IntKind.u64.wrap (a1)) 12)))) 2 (wrap64 (Int.tmod (IntKind.u64.wrap (a2)) 7)) 0).bind fun bt278 => ((week_Resolve.f k (wrap64 (1 + (wrap64 (Int.tmod (IntKind.u64.wrap (a0)) 9999)))) (wrap64 (1 + (wrap64 (Int.tmod (IntKind.u64.wrap (a1)) 12)))) 1 0 (wrap64 (1 + (wrap64 (Int.tmod (IntKind.u64.wrap (a3)) (IntKind.u64.wrap (t269))))))).bind fun bt280 => (if bt270.2 = 0 then (if bt272.2 = 0 then (if bt274.2 = 0 then (if bt276.2 = 0 then (if bt278.2 = 0 then (solsticelaw03_WeekForms.j0 k (wrap64 (Int.tmod (IntKind.u64.wrap (a2)) 7)) (wrap64 (1 + (wrap64 (Int.tmod (IntKind.u64.wrap (a3)) (IntKind.u64.wrap (t269)))))) t269 bt270.1 bt272.1 bt274.1 bt276.1 bt278.1 bt280.1 (bt280.2 != 0)) else (solsticelaw03_WeekForms.j0 k (wrap64 (Int.tmod (IntKind.u64.wrap (a2)) 7)) (wrap64 (1 + (wrap64 (Int.tmod (IntKind.u64.wrap (a3)) (IntKind.u64.wrap (t269)))))) t269 bt270.1 bt272.1 bt274.1 bt276.1 bt278.1 bt280.1 true)) else (solsticelaw03_WeekForms.j0 k (wrap64 (Int.tmod (IntKind.u64.wrap (a2)) 7)) (wrap64 (1 + (wrap64 (Int.tmod (IntKind.u64.wrap (a3)) (IntKind.u64.wrap (t269)))))) t269 bt270.1 bt272.1 bt274.1 bt276.1 bt278.1 bt280.1 true)) else (solsticelaw03_WeekForms.j0 k (wrap64 (Int.tmod (IntKind.u64.wrap (a2)) 7)) (wrap64 (1 + (wrap64 (Int.tmod (IntKind.u64.wrap (a3)) (IntKind.u64.wrap (t269)))))) t269 bt270.1 bt272.1 bt274.1 bt276.1 bt278.1 bt280.1 true)) else (solsticelaw03_WeekForms.j0 k (wrap64 (Int.tmod (IntKind.u64.wrap (a2)) 7)) (wrap64 (1 + (wrap64 (Int.tmod (IntKind.u64.wrap (a3)) (IntKind.u64.wrap (t269)))))) t269 bt270.1 bt272.1 bt274.1 bt276.1 bt278.1 bt280.1 true)) else (solsticelaw03_WeekForms.j0 k (wrap64 (Int.tmod (IntKind.u64.wrap (a2)) 7)) (wrap64 (1 + (wrap64 (Int.tmod (IntKind.u64.wrap (a3)) (IntKind.u64.wrap (t269)))))) t269 bt270.1 bt272.1 bt274.1 bt276.1 bt278.1 bt280.1 true))))))))))
theorem solsticelaw03_WeekForms.mono_l : ∀ k, (∀ y0 y1 y2 y3 y4 y5 y6 y7 y8 y9, LeO (solsticelaw03_WeekForms.j0 k y0 y1 y2 y3 y4 y5 y6 y7 y8 y9) (solsticelaw03_WeekForms.j0 (k + 1) y0 y1 y2 y3 y4 y5 y6 y7 y8 y9))
  | 0 => fun _ _ _ _ _ _ _ _ _ _ r h => by simp [solsticelaw03_WeekForms.j0] at h
  | k + 1 => by
    have ih0 := solsticelaw03_WeekForms.mono_l k
    · intro y0 y1 y2 y3 y4 y5 y6 y7 y8 y9
      unfold solsticelaw03_WeekForms.j0
      repeat' first
      | (with_reducible exact ih0 _ _ _ _ _ _ _ _ _ _)
      | (with_reducible exact civil_Len.mono _ _ _)
      | (with_reducible exact civil_Number.mono _ _ _ _)
      | (with_reducible exact solsticelaw03_wakes.mono _)
      | (with_reducible exact week_Resolve.mono _ _ _ _ _ _)
      | (with_reducible exact LeO.refl _)
      | (with_reducible exact LeO.none _)
      | (with_reducible refine LeO.ite ?_ ?_)
      | (with_reducible refine LeO.bind ?_ (fun _ => ?_))
      | exact ih0 _ _ _ _ _ _ _ _ _ _
      | exact civil_Len.mono _ _ _
      | exact civil_Number.mono _ _ _ _
      | exact solsticelaw03_wakes.mono _
      | exact week_Resolve.mono _ _ _ _ _ _
      | exact LeO.none _
      | refine LeO.ite ?_ ?_
      | refine LeO.bind ?_ (fun _ => ?_)
theorem solsticelaw03_WeekForms.mono : ∀ a0 a1 a2 a3 k, LeO (solsticelaw03_WeekForms.f k a0 a1 a2 a3) (solsticelaw03_WeekForms.f (k + 1) a0 a1 a2 a3) := by
  intro a0 a1 a2 a3 k
  have ih0 := solsticelaw03_WeekForms.mono_l k
  unfold solsticelaw03_WeekForms.f
  repeat' first
      | (with_reducible exact ih0 _ _ _ _ _ _ _ _ _ _)
      | (with_reducible exact civil_Len.mono _ _ _)
      | (with_reducible exact civil_Number.mono _ _ _ _)
      | (with_reducible exact solsticelaw03_wakes.mono _)
      | (with_reducible exact week_Resolve.mono _ _ _ _ _ _)
      | (with_reducible exact LeO.refl _)
      | (with_reducible exact LeO.none _)
      | (with_reducible refine LeO.ite ?_ ?_)
      | (with_reducible refine LeO.bind ?_ (fun _ => ?_))
      | exact ih0 _ _ _ _ _ _ _ _ _ _
      | exact civil_Len.mono _ _ _
      | exact civil_Number.mono _ _ _ _
      | exact solsticelaw03_wakes.mono _
      | exact week_Resolve.mono _ _ _ _ _ _
      | exact LeO.none _
      | refine LeO.ite ?_ ?_
      | refine LeO.bind ?_ (fun _ => ?_)
set_option maxHeartbeats 8000000 in
set_option maxRecDepth 100000 in
theorem solsticelaw03_WeekForms.calls (k : Nat) (a0 : Int) (a1 : Int) (a2 : Int) (a3 : Int) (r : Bool) (w : World) (hr0 : r = true) (h : solsticelaw03_WeekForms.f k a0 a1 a2 a3 = some r) :
    Calls Try.prog 4 #[.int .i64 a0, .int .i64 a1, .int .i64 a2, .int .i64 a3] w fun e w' => e = .returned (.bool r) ∧ Below w.heap.size w w' := by
  have hr := Aside0.mk hr0
  clear hr0
  have hu39 := Try.underlying39
  have hu23 := Try.underlying23
  have HB := Aside0.mk (Below.refl w.heap.size w)
  have H : ((civil_Len.f k (wrap64 (1 + (wrap64 (Int.tmod (IntKind.u64.wrap (a0)) 9999)))) (wrap64 (1 + (wrap64 (Int.tmod (IntKind.u64.wrap (a1)) 12))))).bind fun t269 => (if t269 < 28 then (some false) else (if (IntKind.u64.wrap (t269)) = 0 then (none) else ((civil_Number.f k (wrap64 (1 + (wrap64 (Int.tmod (IntKind.u64.wrap (a0)) 9999)))) (wrap64 (1 + (wrap64 (Int.tmod (IntKind.u64.wrap (a1)) 12)))) (wrap64 (1 + (wrap64 (Int.tmod (IntKind.u64.wrap (a3)) (IntKind.u64.wrap (t269))))))).bind fun bt270 => ((civil_Number.f k (wrap64 (1 + (wrap64 (Int.tmod (IntKind.u64.wrap (a0)) 9999)))) (wrap64 (1 + (wrap64 (Int.tmod (IntKind.u64.wrap (a1)) 12)))) t269).bind fun bt272 => ((week_Resolve.f k (wrap64 (1 + (wrap64 (Int.tmod (IntKind.u64.wrap (a0)) 9999)))) (wrap64 (1 + (wrap64 (Int.tmod (IntKind.u64.wrap (a1)) 12)))) 3 (wrap64 (Int.tmod (IntKind.u64.wrap (a2)) 7)) (wrap64 (1 + (wrap64 (Int.tmod (IntKind.u64.wrap (a3)) (IntKind.u64.wrap (t269))))))).bind fun bt274 => ((week_Resolve.f k (wrap64 (1 + (wrap64 (Int.tmod (IntKind.u64.wrap (a0)) 9999)))) (wrap64 (1 + (wrap64 (Int.tmod (IntKind.u64.wrap (a1)) 12)))) 4 (wrap64 (Int.tmod (IntKind.u64.wrap (a2)) 7)) (wrap64 (1 + (wrap64 (Int.tmod (IntKind.u64.wrap (a3)) (IntKind.u64.wrap (t269))))))).bind fun bt276 => ((week_Resolve.f k (wrap64 (1 + (wrap64 (Int.tmod (IntKind.u64.wrap (a0)) 9999)))) (wrap64 (1 + (wrap64 (Int.tmod (IntKind.u64.wrap (a1)) 12)))) 2 (wrap64 (Int.tmod (IntKind.u64.wrap (a2)) 7)) 0).bind fun bt278 => ((week_Resolve.f k (wrap64 (1 + (wrap64 (Int.tmod (IntKind.u64.wrap (a0)) 9999)))) (wrap64 (1 + (wrap64 (Int.tmod (IntKind.u64.wrap (a1)) 12)))) 1 0 (wrap64 (1 + (wrap64 (Int.tmod (IntKind.u64.wrap (a3)) (IntKind.u64.wrap (t269))))))).bind fun bt280 => (if bt270.2 = 0 then (if bt272.2 = 0 then (if bt274.2 = 0 then (if bt276.2 = 0 then (if bt278.2 = 0 then (solsticelaw03_WeekForms.j0 k (wrap64 (Int.tmod (IntKind.u64.wrap (a2)) 7)) (wrap64 (1 + (wrap64 (Int.tmod (IntKind.u64.wrap (a3)) (IntKind.u64.wrap (t269)))))) t269 bt270.1 bt272.1 bt274.1 bt276.1 bt278.1 bt280.1 (bt280.2 != 0)) else (solsticelaw03_WeekForms.j0 k (wrap64 (Int.tmod (IntKind.u64.wrap (a2)) 7)) (wrap64 (1 + (wrap64 (Int.tmod (IntKind.u64.wrap (a3)) (IntKind.u64.wrap (t269)))))) t269 bt270.1 bt272.1 bt274.1 bt276.1 bt278.1 bt280.1 true)) else (solsticelaw03_WeekForms.j0 k (wrap64 (Int.tmod (IntKind.u64.wrap (a2)) 7)) (wrap64 (1 + (wrap64 (Int.tmod (IntKind.u64.wrap (a3)) (IntKind.u64.wrap (t269)))))) t269 bt270.1 bt272.1 bt274.1 bt276.1 bt278.1 bt280.1 true)) else (solsticelaw03_WeekForms.j0 k (wrap64 (Int.tmod (IntKind.u64.wrap (a2)) 7)) (wrap64 (1 + (wrap64 (Int.tmod (IntKind.u64.wrap (a3)) (IntKind.u64.wrap (t269)))))) t269 bt270.1 bt272.1 bt274.1 bt276.1 bt278.1 bt280.1 true)) else (solsticelaw03_WeekForms.j0 k (wrap64 (Int.tmod (IntKind.u64.wrap (a2)) 7)) (wrap64 (1 + (wrap64 (Int.tmod (IntKind.u64.wrap (a3)) (IntKind.u64.wrap (t269)))))) t269 bt270.1 bt272.1 bt274.1 bt276.1 bt278.1 bt280.1 true)) else (solsticelaw03_WeekForms.j0 k (wrap64 (Int.tmod (IntKind.u64.wrap (a2)) 7)) (wrap64 (1 + (wrap64 (Int.tmod (IntKind.u64.wrap (a3)) (IntKind.u64.wrap (t269)))))) t269 bt270.1 bt272.1 bt274.1 bt276.1 bt278.1 bt280.1 true))))))))))) = some r := h
  clear h
  replace H := Option.bind_eq_some_iff.mp H
  obtain ⟨t269, A50, H⟩ := H
  replace H : (if t269 < 28 then (some false) else (if (IntKind.u64.wrap (t269)) = 0 then (none) else ((civil_Number.f k (wrap64 (1 + (wrap64 (Int.tmod (IntKind.u64.wrap (a0)) 9999)))) (wrap64 (1 + (wrap64 (Int.tmod (IntKind.u64.wrap (a1)) 12)))) (wrap64 (1 + (wrap64 (Int.tmod (IntKind.u64.wrap (a3)) (IntKind.u64.wrap (t269))))))).bind fun bt270 => ((civil_Number.f k (wrap64 (1 + (wrap64 (Int.tmod (IntKind.u64.wrap (a0)) 9999)))) (wrap64 (1 + (wrap64 (Int.tmod (IntKind.u64.wrap (a1)) 12)))) t269).bind fun bt272 => ((week_Resolve.f k (wrap64 (1 + (wrap64 (Int.tmod (IntKind.u64.wrap (a0)) 9999)))) (wrap64 (1 + (wrap64 (Int.tmod (IntKind.u64.wrap (a1)) 12)))) 3 (wrap64 (Int.tmod (IntKind.u64.wrap (a2)) 7)) (wrap64 (1 + (wrap64 (Int.tmod (IntKind.u64.wrap (a3)) (IntKind.u64.wrap (t269))))))).bind fun bt274 => ((week_Resolve.f k (wrap64 (1 + (wrap64 (Int.tmod (IntKind.u64.wrap (a0)) 9999)))) (wrap64 (1 + (wrap64 (Int.tmod (IntKind.u64.wrap (a1)) 12)))) 4 (wrap64 (Int.tmod (IntKind.u64.wrap (a2)) 7)) (wrap64 (1 + (wrap64 (Int.tmod (IntKind.u64.wrap (a3)) (IntKind.u64.wrap (t269))))))).bind fun bt276 => ((week_Resolve.f k (wrap64 (1 + (wrap64 (Int.tmod (IntKind.u64.wrap (a0)) 9999)))) (wrap64 (1 + (wrap64 (Int.tmod (IntKind.u64.wrap (a1)) 12)))) 2 (wrap64 (Int.tmod (IntKind.u64.wrap (a2)) 7)) 0).bind fun bt278 => ((week_Resolve.f k (wrap64 (1 + (wrap64 (Int.tmod (IntKind.u64.wrap (a0)) 9999)))) (wrap64 (1 + (wrap64 (Int.tmod (IntKind.u64.wrap (a1)) 12)))) 1 0 (wrap64 (1 + (wrap64 (Int.tmod (IntKind.u64.wrap (a3)) (IntKind.u64.wrap (t269))))))).bind fun bt280 => (if bt270.2 = 0 then (if bt272.2 = 0 then (if bt274.2 = 0 then (if bt276.2 = 0 then (if bt278.2 = 0 then (solsticelaw03_WeekForms.j0 k (wrap64 (Int.tmod (IntKind.u64.wrap (a2)) 7)) (wrap64 (1 + (wrap64 (Int.tmod (IntKind.u64.wrap (a3)) (IntKind.u64.wrap (t269)))))) t269 bt270.1 bt272.1 bt274.1 bt276.1 bt278.1 bt280.1 (bt280.2 != 0)) else (solsticelaw03_WeekForms.j0 k (wrap64 (Int.tmod (IntKind.u64.wrap (a2)) 7)) (wrap64 (1 + (wrap64 (Int.tmod (IntKind.u64.wrap (a3)) (IntKind.u64.wrap (t269)))))) t269 bt270.1 bt272.1 bt274.1 bt276.1 bt278.1 bt280.1 true)) else (solsticelaw03_WeekForms.j0 k (wrap64 (Int.tmod (IntKind.u64.wrap (a2)) 7)) (wrap64 (1 + (wrap64 (Int.tmod (IntKind.u64.wrap (a3)) (IntKind.u64.wrap (t269)))))) t269 bt270.1 bt272.1 bt274.1 bt276.1 bt278.1 bt280.1 true)) else (solsticelaw03_WeekForms.j0 k (wrap64 (Int.tmod (IntKind.u64.wrap (a2)) 7)) (wrap64 (1 + (wrap64 (Int.tmod (IntKind.u64.wrap (a3)) (IntKind.u64.wrap (t269)))))) t269 bt270.1 bt272.1 bt274.1 bt276.1 bt278.1 bt280.1 true)) else (solsticelaw03_WeekForms.j0 k (wrap64 (Int.tmod (IntKind.u64.wrap (a2)) 7)) (wrap64 (1 + (wrap64 (Int.tmod (IntKind.u64.wrap (a3)) (IntKind.u64.wrap (t269)))))) t269 bt270.1 bt272.1 bt274.1 bt276.1 bt278.1 bt280.1 true)) else (solsticelaw03_WeekForms.j0 k (wrap64 (Int.tmod (IntKind.u64.wrap (a2)) 7)) (wrap64 (1 + (wrap64 (Int.tmod (IntKind.u64.wrap (a3)) (IntKind.u64.wrap (t269)))))) t269 bt270.1 bt272.1 bt274.1 bt276.1 bt278.1 bt280.1 true)))))))))) = some r := H
  have A5 := Aside0.mk A50
  clear A50
  by_cases c6 : t269 < 28
  · rw [if_pos c6] at H
    have c6b0 : decide (t269 < 28) = true := decide_eq_true c6
    clear c6
    exact absurd ((Option.some.inj H).trans hr.out) (by decide)
  · rw [if_neg c6] at H
    have c6b0 : decide (t269 < 28) = false := decide_eq_false c6
    clear c6
    by_cases c8 : (IntKind.u64.wrap (t269)) = 0
    · rw [if_pos c8] at H
      exact absurd H (by simp)
    · rw [if_neg c8] at H
      have c8b0 : ((IntKind.u64.wrap (t269)) == 0) = false := beq_eq_false_iff_ne.mpr c8
      have c8b1 : ((IntKind.u64.wrap (t269)) != 0) = true := bne_iff_ne.mpr c8
      replace H := Option.bind_eq_some_iff.mp H
      obtain ⟨⟨t270, t271⟩, A90, H⟩ := H
      replace H : ((civil_Number.f k (wrap64 (1 + (wrap64 (Int.tmod (IntKind.u64.wrap (a0)) 9999)))) (wrap64 (1 + (wrap64 (Int.tmod (IntKind.u64.wrap (a1)) 12)))) t269).bind fun bt272 => ((week_Resolve.f k (wrap64 (1 + (wrap64 (Int.tmod (IntKind.u64.wrap (a0)) 9999)))) (wrap64 (1 + (wrap64 (Int.tmod (IntKind.u64.wrap (a1)) 12)))) 3 (wrap64 (Int.tmod (IntKind.u64.wrap (a2)) 7)) (wrap64 (1 + (wrap64 (Int.tmod (IntKind.u64.wrap (a3)) (IntKind.u64.wrap (t269))))))).bind fun bt274 => ((week_Resolve.f k (wrap64 (1 + (wrap64 (Int.tmod (IntKind.u64.wrap (a0)) 9999)))) (wrap64 (1 + (wrap64 (Int.tmod (IntKind.u64.wrap (a1)) 12)))) 4 (wrap64 (Int.tmod (IntKind.u64.wrap (a2)) 7)) (wrap64 (1 + (wrap64 (Int.tmod (IntKind.u64.wrap (a3)) (IntKind.u64.wrap (t269))))))).bind fun bt276 => ((week_Resolve.f k (wrap64 (1 + (wrap64 (Int.tmod (IntKind.u64.wrap (a0)) 9999)))) (wrap64 (1 + (wrap64 (Int.tmod (IntKind.u64.wrap (a1)) 12)))) 2 (wrap64 (Int.tmod (IntKind.u64.wrap (a2)) 7)) 0).bind fun bt278 => ((week_Resolve.f k (wrap64 (1 + (wrap64 (Int.tmod (IntKind.u64.wrap (a0)) 9999)))) (wrap64 (1 + (wrap64 (Int.tmod (IntKind.u64.wrap (a1)) 12)))) 1 0 (wrap64 (1 + (wrap64 (Int.tmod (IntKind.u64.wrap (a3)) (IntKind.u64.wrap (t269))))))).bind fun bt280 => (if t271 = 0 then (if bt272.2 = 0 then (if bt274.2 = 0 then (if bt276.2 = 0 then (if bt278.2 = 0 then (solsticelaw03_WeekForms.j0 k (wrap64 (Int.tmod (IntKind.u64.wrap (a2)) 7)) (wrap64 (1 + (wrap64 (Int.tmod (IntKind.u64.wrap (a3)) (IntKind.u64.wrap (t269)))))) t269 t270 bt272.1 bt274.1 bt276.1 bt278.1 bt280.1 (bt280.2 != 0)) else (solsticelaw03_WeekForms.j0 k (wrap64 (Int.tmod (IntKind.u64.wrap (a2)) 7)) (wrap64 (1 + (wrap64 (Int.tmod (IntKind.u64.wrap (a3)) (IntKind.u64.wrap (t269)))))) t269 t270 bt272.1 bt274.1 bt276.1 bt278.1 bt280.1 true)) else (solsticelaw03_WeekForms.j0 k (wrap64 (Int.tmod (IntKind.u64.wrap (a2)) 7)) (wrap64 (1 + (wrap64 (Int.tmod (IntKind.u64.wrap (a3)) (IntKind.u64.wrap (t269)))))) t269 t270 bt272.1 bt274.1 bt276.1 bt278.1 bt280.1 true)) else (solsticelaw03_WeekForms.j0 k (wrap64 (Int.tmod (IntKind.u64.wrap (a2)) 7)) (wrap64 (1 + (wrap64 (Int.tmod (IntKind.u64.wrap (a3)) (IntKind.u64.wrap (t269)))))) t269 t270 bt272.1 bt274.1 bt276.1 bt278.1 bt280.1 true)) else (solsticelaw03_WeekForms.j0 k (wrap64 (Int.tmod (IntKind.u64.wrap (a2)) 7)) (wrap64 (1 + (wrap64 (Int.tmod (IntKind.u64.wrap (a3)) (IntKind.u64.wrap (t269)))))) t269 t270 bt272.1 bt274.1 bt276.1 bt278.1 bt280.1 true)) else (solsticelaw03_WeekForms.j0 k (wrap64 (Int.tmod (IntKind.u64.wrap (a2)) 7)) (wrap64 (1 + (wrap64 (Int.tmod (IntKind.u64.wrap (a3)) (IntKind.u64.wrap (t269)))))) t269 t270 bt272.1 bt274.1 bt276.1 bt278.1 bt280.1 true))))))) = some r := H
      have A9 := Aside0.mk A90
      clear A90
      replace H := Option.bind_eq_some_iff.mp H
      obtain ⟨⟨t272, t273⟩, A100, H⟩ := H
      replace H : ((week_Resolve.f k (wrap64 (1 + (wrap64 (Int.tmod (IntKind.u64.wrap (a0)) 9999)))) (wrap64 (1 + (wrap64 (Int.tmod (IntKind.u64.wrap (a1)) 12)))) 3 (wrap64 (Int.tmod (IntKind.u64.wrap (a2)) 7)) (wrap64 (1 + (wrap64 (Int.tmod (IntKind.u64.wrap (a3)) (IntKind.u64.wrap (t269))))))).bind fun bt274 => ((week_Resolve.f k (wrap64 (1 + (wrap64 (Int.tmod (IntKind.u64.wrap (a0)) 9999)))) (wrap64 (1 + (wrap64 (Int.tmod (IntKind.u64.wrap (a1)) 12)))) 4 (wrap64 (Int.tmod (IntKind.u64.wrap (a2)) 7)) (wrap64 (1 + (wrap64 (Int.tmod (IntKind.u64.wrap (a3)) (IntKind.u64.wrap (t269))))))).bind fun bt276 => ((week_Resolve.f k (wrap64 (1 + (wrap64 (Int.tmod (IntKind.u64.wrap (a0)) 9999)))) (wrap64 (1 + (wrap64 (Int.tmod (IntKind.u64.wrap (a1)) 12)))) 2 (wrap64 (Int.tmod (IntKind.u64.wrap (a2)) 7)) 0).bind fun bt278 => ((week_Resolve.f k (wrap64 (1 + (wrap64 (Int.tmod (IntKind.u64.wrap (a0)) 9999)))) (wrap64 (1 + (wrap64 (Int.tmod (IntKind.u64.wrap (a1)) 12)))) 1 0 (wrap64 (1 + (wrap64 (Int.tmod (IntKind.u64.wrap (a3)) (IntKind.u64.wrap (t269))))))).bind fun bt280 => (if t271 = 0 then (if t273 = 0 then (if bt274.2 = 0 then (if bt276.2 = 0 then (if bt278.2 = 0 then (solsticelaw03_WeekForms.j0 k (wrap64 (Int.tmod (IntKind.u64.wrap (a2)) 7)) (wrap64 (1 + (wrap64 (Int.tmod (IntKind.u64.wrap (a3)) (IntKind.u64.wrap (t269)))))) t269 t270 t272 bt274.1 bt276.1 bt278.1 bt280.1 (bt280.2 != 0)) else (solsticelaw03_WeekForms.j0 k (wrap64 (Int.tmod (IntKind.u64.wrap (a2)) 7)) (wrap64 (1 + (wrap64 (Int.tmod (IntKind.u64.wrap (a3)) (IntKind.u64.wrap (t269)))))) t269 t270 t272 bt274.1 bt276.1 bt278.1 bt280.1 true)) else (solsticelaw03_WeekForms.j0 k (wrap64 (Int.tmod (IntKind.u64.wrap (a2)) 7)) (wrap64 (1 + (wrap64 (Int.tmod (IntKind.u64.wrap (a3)) (IntKind.u64.wrap (t269)))))) t269 t270 t272 bt274.1 bt276.1 bt278.1 bt280.1 true)) else (solsticelaw03_WeekForms.j0 k (wrap64 (Int.tmod (IntKind.u64.wrap (a2)) 7)) (wrap64 (1 + (wrap64 (Int.tmod (IntKind.u64.wrap (a3)) (IntKind.u64.wrap (t269)))))) t269 t270 t272 bt274.1 bt276.1 bt278.1 bt280.1 true)) else (solsticelaw03_WeekForms.j0 k (wrap64 (Int.tmod (IntKind.u64.wrap (a2)) 7)) (wrap64 (1 + (wrap64 (Int.tmod (IntKind.u64.wrap (a3)) (IntKind.u64.wrap (t269)))))) t269 t270 t272 bt274.1 bt276.1 bt278.1 bt280.1 true)) else (solsticelaw03_WeekForms.j0 k (wrap64 (Int.tmod (IntKind.u64.wrap (a2)) 7)) (wrap64 (1 + (wrap64 (Int.tmod (IntKind.u64.wrap (a3)) (IntKind.u64.wrap (t269)))))) t269 t270 t272 bt274.1 bt276.1 bt278.1 bt280.1 true)))))) = some r := H
      have A10 := Aside0.mk A100
      clear A100
      replace H := Option.bind_eq_some_iff.mp H
      obtain ⟨⟨t274, t275⟩, A110, H⟩ := H
      replace H : ((week_Resolve.f k (wrap64 (1 + (wrap64 (Int.tmod (IntKind.u64.wrap (a0)) 9999)))) (wrap64 (1 + (wrap64 (Int.tmod (IntKind.u64.wrap (a1)) 12)))) 4 (wrap64 (Int.tmod (IntKind.u64.wrap (a2)) 7)) (wrap64 (1 + (wrap64 (Int.tmod (IntKind.u64.wrap (a3)) (IntKind.u64.wrap (t269))))))).bind fun bt276 => ((week_Resolve.f k (wrap64 (1 + (wrap64 (Int.tmod (IntKind.u64.wrap (a0)) 9999)))) (wrap64 (1 + (wrap64 (Int.tmod (IntKind.u64.wrap (a1)) 12)))) 2 (wrap64 (Int.tmod (IntKind.u64.wrap (a2)) 7)) 0).bind fun bt278 => ((week_Resolve.f k (wrap64 (1 + (wrap64 (Int.tmod (IntKind.u64.wrap (a0)) 9999)))) (wrap64 (1 + (wrap64 (Int.tmod (IntKind.u64.wrap (a1)) 12)))) 1 0 (wrap64 (1 + (wrap64 (Int.tmod (IntKind.u64.wrap (a3)) (IntKind.u64.wrap (t269))))))).bind fun bt280 => (if t271 = 0 then (if t273 = 0 then (if t275 = 0 then (if bt276.2 = 0 then (if bt278.2 = 0 then (solsticelaw03_WeekForms.j0 k (wrap64 (Int.tmod (IntKind.u64.wrap (a2)) 7)) (wrap64 (1 + (wrap64 (Int.tmod (IntKind.u64.wrap (a3)) (IntKind.u64.wrap (t269)))))) t269 t270 t272 t274 bt276.1 bt278.1 bt280.1 (bt280.2 != 0)) else (solsticelaw03_WeekForms.j0 k (wrap64 (Int.tmod (IntKind.u64.wrap (a2)) 7)) (wrap64 (1 + (wrap64 (Int.tmod (IntKind.u64.wrap (a3)) (IntKind.u64.wrap (t269)))))) t269 t270 t272 t274 bt276.1 bt278.1 bt280.1 true)) else (solsticelaw03_WeekForms.j0 k (wrap64 (Int.tmod (IntKind.u64.wrap (a2)) 7)) (wrap64 (1 + (wrap64 (Int.tmod (IntKind.u64.wrap (a3)) (IntKind.u64.wrap (t269)))))) t269 t270 t272 t274 bt276.1 bt278.1 bt280.1 true)) else (solsticelaw03_WeekForms.j0 k (wrap64 (Int.tmod (IntKind.u64.wrap (a2)) 7)) (wrap64 (1 + (wrap64 (Int.tmod (IntKind.u64.wrap (a3)) (IntKind.u64.wrap (t269)))))) t269 t270 t272 t274 bt276.1 bt278.1 bt280.1 true)) else (solsticelaw03_WeekForms.j0 k (wrap64 (Int.tmod (IntKind.u64.wrap (a2)) 7)) (wrap64 (1 + (wrap64 (Int.tmod (IntKind.u64.wrap (a3)) (IntKind.u64.wrap (t269)))))) t269 t270 t272 t274 bt276.1 bt278.1 bt280.1 true)) else (solsticelaw03_WeekForms.j0 k (wrap64 (Int.tmod (IntKind.u64.wrap (a2)) 7)) (wrap64 (1 + (wrap64 (Int.tmod (IntKind.u64.wrap (a3)) (IntKind.u64.wrap (t269)))))) t269 t270 t272 t274 bt276.1 bt278.1 bt280.1 true))))) = some r := H
      have A11 := Aside0.mk A110
      clear A110
      replace H := Option.bind_eq_some_iff.mp H
      obtain ⟨⟨t276, t277⟩, A120, H⟩ := H
      replace H : ((week_Resolve.f k (wrap64 (1 + (wrap64 (Int.tmod (IntKind.u64.wrap (a0)) 9999)))) (wrap64 (1 + (wrap64 (Int.tmod (IntKind.u64.wrap (a1)) 12)))) 2 (wrap64 (Int.tmod (IntKind.u64.wrap (a2)) 7)) 0).bind fun bt278 => ((week_Resolve.f k (wrap64 (1 + (wrap64 (Int.tmod (IntKind.u64.wrap (a0)) 9999)))) (wrap64 (1 + (wrap64 (Int.tmod (IntKind.u64.wrap (a1)) 12)))) 1 0 (wrap64 (1 + (wrap64 (Int.tmod (IntKind.u64.wrap (a3)) (IntKind.u64.wrap (t269))))))).bind fun bt280 => (if t271 = 0 then (if t273 = 0 then (if t275 = 0 then (if t277 = 0 then (if bt278.2 = 0 then (solsticelaw03_WeekForms.j0 k (wrap64 (Int.tmod (IntKind.u64.wrap (a2)) 7)) (wrap64 (1 + (wrap64 (Int.tmod (IntKind.u64.wrap (a3)) (IntKind.u64.wrap (t269)))))) t269 t270 t272 t274 t276 bt278.1 bt280.1 (bt280.2 != 0)) else (solsticelaw03_WeekForms.j0 k (wrap64 (Int.tmod (IntKind.u64.wrap (a2)) 7)) (wrap64 (1 + (wrap64 (Int.tmod (IntKind.u64.wrap (a3)) (IntKind.u64.wrap (t269)))))) t269 t270 t272 t274 t276 bt278.1 bt280.1 true)) else (solsticelaw03_WeekForms.j0 k (wrap64 (Int.tmod (IntKind.u64.wrap (a2)) 7)) (wrap64 (1 + (wrap64 (Int.tmod (IntKind.u64.wrap (a3)) (IntKind.u64.wrap (t269)))))) t269 t270 t272 t274 t276 bt278.1 bt280.1 true)) else (solsticelaw03_WeekForms.j0 k (wrap64 (Int.tmod (IntKind.u64.wrap (a2)) 7)) (wrap64 (1 + (wrap64 (Int.tmod (IntKind.u64.wrap (a3)) (IntKind.u64.wrap (t269)))))) t269 t270 t272 t274 t276 bt278.1 bt280.1 true)) else (solsticelaw03_WeekForms.j0 k (wrap64 (Int.tmod (IntKind.u64.wrap (a2)) 7)) (wrap64 (1 + (wrap64 (Int.tmod (IntKind.u64.wrap (a3)) (IntKind.u64.wrap (t269)))))) t269 t270 t272 t274 t276 bt278.1 bt280.1 true)) else (solsticelaw03_WeekForms.j0 k (wrap64 (Int.tmod (IntKind.u64.wrap (a2)) 7)) (wrap64 (1 + (wrap64 (Int.tmod (IntKind.u64.wrap (a3)) (IntKind.u64.wrap (t269)))))) t269 t270 t272 t274 t276 bt278.1 bt280.1 true)))) = some r := H
      have A12 := Aside0.mk A120
      clear A120
      replace H := Option.bind_eq_some_iff.mp H
      obtain ⟨⟨t278, t279⟩, A130, H⟩ := H
      replace H : ((week_Resolve.f k (wrap64 (1 + (wrap64 (Int.tmod (IntKind.u64.wrap (a0)) 9999)))) (wrap64 (1 + (wrap64 (Int.tmod (IntKind.u64.wrap (a1)) 12)))) 1 0 (wrap64 (1 + (wrap64 (Int.tmod (IntKind.u64.wrap (a3)) (IntKind.u64.wrap (t269))))))).bind fun bt280 => (if t271 = 0 then (if t273 = 0 then (if t275 = 0 then (if t277 = 0 then (if t279 = 0 then (solsticelaw03_WeekForms.j0 k (wrap64 (Int.tmod (IntKind.u64.wrap (a2)) 7)) (wrap64 (1 + (wrap64 (Int.tmod (IntKind.u64.wrap (a3)) (IntKind.u64.wrap (t269)))))) t269 t270 t272 t274 t276 t278 bt280.1 (bt280.2 != 0)) else (solsticelaw03_WeekForms.j0 k (wrap64 (Int.tmod (IntKind.u64.wrap (a2)) 7)) (wrap64 (1 + (wrap64 (Int.tmod (IntKind.u64.wrap (a3)) (IntKind.u64.wrap (t269)))))) t269 t270 t272 t274 t276 t278 bt280.1 true)) else (solsticelaw03_WeekForms.j0 k (wrap64 (Int.tmod (IntKind.u64.wrap (a2)) 7)) (wrap64 (1 + (wrap64 (Int.tmod (IntKind.u64.wrap (a3)) (IntKind.u64.wrap (t269)))))) t269 t270 t272 t274 t276 t278 bt280.1 true)) else (solsticelaw03_WeekForms.j0 k (wrap64 (Int.tmod (IntKind.u64.wrap (a2)) 7)) (wrap64 (1 + (wrap64 (Int.tmod (IntKind.u64.wrap (a3)) (IntKind.u64.wrap (t269)))))) t269 t270 t272 t274 t276 t278 bt280.1 true)) else (solsticelaw03_WeekForms.j0 k (wrap64 (Int.tmod (IntKind.u64.wrap (a2)) 7)) (wrap64 (1 + (wrap64 (Int.tmod (IntKind.u64.wrap (a3)) (IntKind.u64.wrap (t269)))))) t269 t270 t272 t274 t276 t278 bt280.1 true)) else (solsticelaw03_WeekForms.j0 k (wrap64 (Int.tmod (IntKind.u64.wrap (a2)) 7)) (wrap64 (1 + (wrap64 (Int.tmod (IntKind.u64.wrap (a3)) (IntKind.u64.wrap (t269)))))) t269 t270 t272 t274 t276 t278 bt280.1 true))) = some r := H
      have A13 := Aside0.mk A130
      clear A130
      replace H := Option.bind_eq_some_iff.mp H
      obtain ⟨⟨t280, t281⟩, A140, H⟩ := H
      replace H : (if t271 = 0 then (if t273 = 0 then (if t275 = 0 then (if t277 = 0 then (if t279 = 0 then (solsticelaw03_WeekForms.j0 k (wrap64 (Int.tmod (IntKind.u64.wrap (a2)) 7)) (wrap64 (1 + (wrap64 (Int.tmod (IntKind.u64.wrap (a3)) (IntKind.u64.wrap (t269)))))) t269 t270 t272 t274 t276 t278 t280 (t281 != 0)) else (solsticelaw03_WeekForms.j0 k (wrap64 (Int.tmod (IntKind.u64.wrap (a2)) 7)) (wrap64 (1 + (wrap64 (Int.tmod (IntKind.u64.wrap (a3)) (IntKind.u64.wrap (t269)))))) t269 t270 t272 t274 t276 t278 t280 true)) else (solsticelaw03_WeekForms.j0 k (wrap64 (Int.tmod (IntKind.u64.wrap (a2)) 7)) (wrap64 (1 + (wrap64 (Int.tmod (IntKind.u64.wrap (a3)) (IntKind.u64.wrap (t269)))))) t269 t270 t272 t274 t276 t278 t280 true)) else (solsticelaw03_WeekForms.j0 k (wrap64 (Int.tmod (IntKind.u64.wrap (a2)) 7)) (wrap64 (1 + (wrap64 (Int.tmod (IntKind.u64.wrap (a3)) (IntKind.u64.wrap (t269)))))) t269 t270 t272 t274 t276 t278 t280 true)) else (solsticelaw03_WeekForms.j0 k (wrap64 (Int.tmod (IntKind.u64.wrap (a2)) 7)) (wrap64 (1 + (wrap64 (Int.tmod (IntKind.u64.wrap (a3)) (IntKind.u64.wrap (t269)))))) t269 t270 t272 t274 t276 t278 t280 true)) else (solsticelaw03_WeekForms.j0 k (wrap64 (Int.tmod (IntKind.u64.wrap (a2)) 7)) (wrap64 (1 + (wrap64 (Int.tmod (IntKind.u64.wrap (a3)) (IntKind.u64.wrap (t269)))))) t269 t270 t272 t274 t276 t278 t280 true)) = some r := H
      have A14 := Aside0.mk A140
      clear A140
      have HC15 := Aside0.mk H
      clear H
      go_enter Try.func4, Try.ntmps4
      go_upto_region 12 with (first | ((with_reducible refine gate_callee (f := 23) rfl ?_); refine goesL_ (some 38) rfl rfl Try.func23 (by kernel_rfl) rfl #[.int .i64 (wrap64 (1 + (wrap64 (Int.tmod (IntKind.u64.wrap (a0)) 9999)))), .int .i64 (wrap64 (1 + (wrap64 (Int.tmod (IntKind.u64.wrap (a1)) 12))))] rfl (by (try simp only [List.map_toArray, List.map_cons, List.map_nil]); first | done | rfl | (simp only [List.length_drop, List.length_take]; rfl)) ?_; (with_reducible refine (civil_Len.calls k (wrap64 (1 + (wrap64 (Int.tmod (IntKind.u64.wrap (a0)) 9999)))) (wrap64 (1 + (wrap64 (Int.tmod (IntKind.u64.wrap (a1)) 12)))) t269 _ A5.out).mono ?_); rintro e w16 ⟨rfl, hb⟩; refine ⟨_, rfl, ?_⟩; have n0_ := Aside0.mk (below_step (by repeat (first | (with_reducible first | exact HB.out | apply below_alloc | apply pw_below_drewN | apply below_drew1) | exact HB.out)) hb); clear HB; have HB := n0_; clear n0_; (try clear hb); (try clear hb2); (try clear hk); (try clear hi)) | ((with_reducible refine gate_callee (f := 24) rfl ?_); refine goesL_ (some 53) rfl rfl Try.func24 (by kernel_rfl) rfl #[.agg #[.int .i64 (wrap64 (1 + (wrap64 (Int.tmod (IntKind.u64.wrap (a0)) 9999)))), .int .i64 (wrap64 (1 + (wrap64 (Int.tmod (IntKind.u64.wrap (a1)) 12)))), .int .i64 (wrap64 (1 + (wrap64 (Int.tmod (IntKind.u64.wrap (a3)) (IntKind.u64.wrap (t269))))))]] rfl (by (try simp only [List.map_toArray, List.map_cons, List.map_nil]); first | done | rfl | (simp only [List.length_drop, List.length_take]; rfl)) ?_; (with_reducible refine (civil_Number.calls k (wrap64 (1 + (wrap64 (Int.tmod (IntKind.u64.wrap (a0)) 9999)))) (wrap64 (1 + (wrap64 (Int.tmod (IntKind.u64.wrap (a1)) 12)))) (wrap64 (1 + (wrap64 (Int.tmod (IntKind.u64.wrap (a3)) (IntKind.u64.wrap (t269)))))) t270 t271 _ A9.out).mono ?_); rintro e w17 ⟨rfl, hb⟩; refine ⟨_, rfl, ?_⟩; have n0_ := Aside0.mk (below_step (by repeat (first | (with_reducible first | exact HB.out | apply below_alloc | apply pw_below_drewN | apply below_drew1) | exact HB.out)) hb); clear HB; have HB := n0_; clear n0_; (try clear hb); (try clear hb2); (try clear hk); (try clear hi)) | ((with_reducible refine gate_callee (f := 24) rfl ?_); refine goesL_ (some 61) rfl rfl Try.func24 (by kernel_rfl) rfl #[.agg #[.int .i64 (wrap64 (1 + (wrap64 (Int.tmod (IntKind.u64.wrap (a0)) 9999)))), .int .i64 (wrap64 (1 + (wrap64 (Int.tmod (IntKind.u64.wrap (a1)) 12)))), .int .i64 t269]] rfl (by (try simp only [List.map_toArray, List.map_cons, List.map_nil]); first | done | rfl | (simp only [List.length_drop, List.length_take]; rfl)) ?_; (with_reducible refine (civil_Number.calls k (wrap64 (1 + (wrap64 (Int.tmod (IntKind.u64.wrap (a0)) 9999)))) (wrap64 (1 + (wrap64 (Int.tmod (IntKind.u64.wrap (a1)) 12)))) t269 t272 t273 _ A10.out).mono ?_); rintro e w18 ⟨rfl, hb⟩; refine ⟨_, rfl, ?_⟩; have n0_ := Aside0.mk (below_step (by repeat (first | (with_reducible first | exact HB.out | apply below_alloc | apply pw_below_drewN | apply below_drew1) | exact HB.out)) hb); clear HB; have HB := n0_; clear n0_; (try clear hb); (try clear hb2); (try clear hk); (try clear hi)) | ((with_reducible refine gate_callee (f := 9) rfl ?_); refine goesL_ (some 70) rfl rfl Try.func9 (by kernel_rfl) rfl #[.int .i64 (wrap64 (1 + (wrap64 (Int.tmod (IntKind.u64.wrap (a0)) 9999)))), .int .i64 (wrap64 (1 + (wrap64 (Int.tmod (IntKind.u64.wrap (a1)) 12)))), .agg #[.int .i64 3, .int .i64 (wrap64 (Int.tmod (IntKind.u64.wrap (a2)) 7)), .int .i64 (wrap64 (1 + (wrap64 (Int.tmod (IntKind.u64.wrap (a3)) (IntKind.u64.wrap (t269))))))]] rfl (by (try simp only [List.map_toArray, List.map_cons, List.map_nil]); first | done | rfl | (simp only [List.length_drop, List.length_take]; rfl)) ?_; (with_reducible refine (week_Resolve.calls k (wrap64 (1 + (wrap64 (Int.tmod (IntKind.u64.wrap (a0)) 9999)))) (wrap64 (1 + (wrap64 (Int.tmod (IntKind.u64.wrap (a1)) 12)))) 3 (wrap64 (Int.tmod (IntKind.u64.wrap (a2)) 7)) (wrap64 (1 + (wrap64 (Int.tmod (IntKind.u64.wrap (a3)) (IntKind.u64.wrap (t269)))))) t274 t275 _ A11.out).mono ?_); rintro e w19 ⟨rfl, hb⟩; refine ⟨_, rfl, ?_⟩; have n0_ := Aside0.mk (below_step (by repeat (first | (with_reducible first | exact HB.out | apply below_alloc | apply pw_below_drewN | apply below_drew1) | exact HB.out)) hb); clear HB; have HB := n0_; clear n0_; (try clear hb); (try clear hb2); (try clear hk); (try clear hi)) | ((with_reducible refine gate_callee (f := 9) rfl ?_); refine goesL_ (some 79) rfl rfl Try.func9 (by kernel_rfl) rfl #[.int .i64 (wrap64 (1 + (wrap64 (Int.tmod (IntKind.u64.wrap (a0)) 9999)))), .int .i64 (wrap64 (1 + (wrap64 (Int.tmod (IntKind.u64.wrap (a1)) 12)))), .agg #[.int .i64 4, .int .i64 (wrap64 (Int.tmod (IntKind.u64.wrap (a2)) 7)), .int .i64 (wrap64 (1 + (wrap64 (Int.tmod (IntKind.u64.wrap (a3)) (IntKind.u64.wrap (t269))))))]] rfl (by (try simp only [List.map_toArray, List.map_cons, List.map_nil]); first | done | rfl | (simp only [List.length_drop, List.length_take]; rfl)) ?_; (with_reducible refine (week_Resolve.calls k (wrap64 (1 + (wrap64 (Int.tmod (IntKind.u64.wrap (a0)) 9999)))) (wrap64 (1 + (wrap64 (Int.tmod (IntKind.u64.wrap (a1)) 12)))) 4 (wrap64 (Int.tmod (IntKind.u64.wrap (a2)) 7)) (wrap64 (1 + (wrap64 (Int.tmod (IntKind.u64.wrap (a3)) (IntKind.u64.wrap (t269)))))) t276 t277 _ A12.out).mono ?_); rintro e w20 ⟨rfl, hb⟩; refine ⟨_, rfl, ?_⟩; have n0_ := Aside0.mk (below_step (by repeat (first | (with_reducible first | exact HB.out | apply below_alloc | apply pw_below_drewN | apply below_drew1) | exact HB.out)) hb); clear HB; have HB := n0_; clear n0_; (try clear hb); (try clear hb2); (try clear hk); (try clear hi)) | ((with_reducible refine gate_callee (f := 9) rfl ?_); refine goesL_ (some 87) rfl rfl Try.func9 (by kernel_rfl) rfl #[.int .i64 (wrap64 (1 + (wrap64 (Int.tmod (IntKind.u64.wrap (a0)) 9999)))), .int .i64 (wrap64 (1 + (wrap64 (Int.tmod (IntKind.u64.wrap (a1)) 12)))), .agg #[.int .i64 2, .int .i64 (wrap64 (Int.tmod (IntKind.u64.wrap (a2)) 7)), .int .i64 0]] rfl (by (try simp only [List.map_toArray, List.map_cons, List.map_nil]); first | done | rfl | (simp only [List.length_drop, List.length_take]; rfl)) ?_; (with_reducible refine (week_Resolve.calls k (wrap64 (1 + (wrap64 (Int.tmod (IntKind.u64.wrap (a0)) 9999)))) (wrap64 (1 + (wrap64 (Int.tmod (IntKind.u64.wrap (a1)) 12)))) 2 (wrap64 (Int.tmod (IntKind.u64.wrap (a2)) 7)) 0 t278 t279 _ A13.out).mono ?_); rintro e w21 ⟨rfl, hb⟩; refine ⟨_, rfl, ?_⟩; have n0_ := Aside0.mk (below_step (by repeat (first | (with_reducible first | exact HB.out | apply below_alloc | apply pw_below_drewN | apply below_drew1) | exact HB.out)) hb); clear HB; have HB := n0_; clear n0_; (try clear hb); (try clear hb2); (try clear hk); (try clear hi)) | ((with_reducible refine gate_callee (f := 9) rfl ?_); refine goesL_ (some 95) rfl rfl Try.func9 (by kernel_rfl) rfl #[.int .i64 (wrap64 (1 + (wrap64 (Int.tmod (IntKind.u64.wrap (a0)) 9999)))), .int .i64 (wrap64 (1 + (wrap64 (Int.tmod (IntKind.u64.wrap (a1)) 12)))), .agg #[.int .i64 1, .int .i64 0, .int .i64 (wrap64 (1 + (wrap64 (Int.tmod (IntKind.u64.wrap (a3)) (IntKind.u64.wrap (t269))))))]] rfl (by (try simp only [List.map_toArray, List.map_cons, List.map_nil]); first | done | rfl | (simp only [List.length_drop, List.length_take]; rfl)) ?_; (with_reducible refine (week_Resolve.calls k (wrap64 (1 + (wrap64 (Int.tmod (IntKind.u64.wrap (a0)) 9999)))) (wrap64 (1 + (wrap64 (Int.tmod (IntKind.u64.wrap (a1)) 12)))) 1 0 (wrap64 (1 + (wrap64 (Int.tmod (IntKind.u64.wrap (a3)) (IntKind.u64.wrap (t269)))))) t280 t281 _ A14.out).mono ?_); rintro e w22 ⟨rfl, hb⟩; refine ⟨_, rfl, ?_⟩; have n0_ := Aside0.mk (below_step (by repeat (first | (with_reducible first | exact HB.out | apply below_alloc | apply pw_below_drewN | apply below_drew1) | exact HB.out)) hb); clear HB; have HB := n0_; clear n0_; (try clear hb); (try clear hb2); (try clear hk); (try clear hi)))
      (try simp only [Act.put, List.setIfInBounds_toArray, List.set_cons_zero, List.set_cons_succ])
      go_cut [119] (fun v119 wc => ∃ (kq : Nat) (x119_14 : Bool), v119 = .bool x119_14 ∧ Aside0 (solsticelaw03_WeekForms.j0 kq (wrap64 (Int.tmod (IntKind.u64.wrap (a2)) 7)) (wrap64 (1 + (wrap64 (Int.tmod (IntKind.u64.wrap (a3)) (IntKind.u64.wrap (t269)))))) t269 t270 t272 t274 t276 t278 t280 x119_14 = some r) ∧ Aside0 (kq ≤ k) ∧ Aside0 (Below w.heap.size w wc))
      case first =>
        have H := HC15.out
        clear HC15
        by_cases c23 : t271 = 0
        · rw [if_pos c23] at H
          have c23b0 : (t271 == 0) = true := beq_iff_eq.mpr c23
          have c23b1 : (t271 != 0) = false := bne_eq_false_iff_eq.mpr c23
          clear c23
          (first | rw [c23b0] | (simp only [i64_w, i32_w]; rw [c23b0]) | skip)
          by_cases c24 : t273 = 0
          · rw [if_pos c24] at H
            have c24b0 : (t273 == 0) = true := beq_iff_eq.mpr c24
            have c24b1 : (t273 != 0) = false := bne_eq_false_iff_eq.mpr c24
            clear c24
            by_cases c25 : t275 = 0
            · rw [if_pos c25] at H
              have c25b0 : (t275 == 0) = true := beq_iff_eq.mpr c25
              have c25b1 : (t275 != 0) = false := bne_eq_false_iff_eq.mpr c25
              clear c25
              by_cases c26 : t277 = 0
              · rw [if_pos c26] at H
                have c26b0 : (t277 == 0) = true := beq_iff_eq.mpr c26
                have c26b1 : (t277 != 0) = false := bne_eq_false_iff_eq.mpr c26
                clear c26
                by_cases c27 : t279 = 0
                · rw [if_pos c27] at H
                  have c27b0 : (t279 == 0) = true := beq_iff_eq.mpr c27
                  have c27b1 : (t279 != 0) = false := bne_eq_false_iff_eq.mpr c27
                  clear c27
                  have H' := Aside0.mk H
                  clear H
                  go_wp2
                  go_meet
                  case rel => exact ⟨_, ((t281 != 0)), (by first | rfl | (simp; done) | (simp [*]; done)), H', ⟨by first | omega | exact Nat.le_refl _⟩, ⟨by repeat (first | (with_reducible first | exact HB.out | apply below_alloc | apply pw_below_drewN | apply below_drew1) | exact HB.out)⟩⟩
                · rw [if_neg c27] at H
                  have c27b0 : (t279 == 0) = false := beq_eq_false_iff_ne.mpr c27
                  have c27b1 : (t279 != 0) = true := bne_iff_ne.mpr c27
                  have H' := Aside0.mk H
                  clear H
                  go_wp2
                  go_meet
                  case rel => exact ⟨_, (true), (by first | rfl | (simp; done) | (simp [*]; done)), H', ⟨by first | omega | exact Nat.le_refl _⟩, ⟨by repeat (first | (with_reducible first | exact HB.out | apply below_alloc | apply pw_below_drewN | apply below_drew1) | exact HB.out)⟩⟩
              · rw [if_neg c26] at H
                have c26b0 : (t277 == 0) = false := beq_eq_false_iff_ne.mpr c26
                have c26b1 : (t277 != 0) = true := bne_iff_ne.mpr c26
                have H' := Aside0.mk H
                clear H
                go_wp2
                go_meet
                case rel => exact ⟨_, (true), (by first | rfl | (simp; done) | (simp [*]; done)), H', ⟨by first | omega | exact Nat.le_refl _⟩, ⟨by repeat (first | (with_reducible first | exact HB.out | apply below_alloc | apply pw_below_drewN | apply below_drew1) | exact HB.out)⟩⟩
            · rw [if_neg c25] at H
              have c25b0 : (t275 == 0) = false := beq_eq_false_iff_ne.mpr c25
              have c25b1 : (t275 != 0) = true := bne_iff_ne.mpr c25
              have H' := Aside0.mk H
              clear H
              go_wp2
              go_meet
              case rel => exact ⟨_, (true), (by first | rfl | (simp; done) | (simp [*]; done)), H', ⟨by first | omega | exact Nat.le_refl _⟩, ⟨by repeat (first | (with_reducible first | exact HB.out | apply below_alloc | apply pw_below_drewN | apply below_drew1) | exact HB.out)⟩⟩
          · rw [if_neg c24] at H
            have c24b0 : (t273 == 0) = false := beq_eq_false_iff_ne.mpr c24
            have c24b1 : (t273 != 0) = true := bne_iff_ne.mpr c24
            have H' := Aside0.mk H
            clear H
            go_wp2
            go_meet
            case rel => exact ⟨_, (true), (by first | rfl | (simp; done) | (simp [*]; done)), H', ⟨by first | omega | exact Nat.le_refl _⟩, ⟨by repeat (first | (with_reducible first | exact HB.out | apply below_alloc | apply pw_below_drewN | apply below_drew1) | exact HB.out)⟩⟩
        · rw [if_neg c23] at H
          have c23b0 : (t271 == 0) = false := beq_eq_false_iff_ne.mpr c23
          have c23b1 : (t271 != 0) = true := bne_iff_ne.mpr c23
          (first | rw [c23b0] | (simp only [i64_w, i32_w]; rw [c23b0]) | skip)
          have H' := Aside0.mk H
          clear H
          go_wp2
          go_meet
          case rel => exact ⟨_, (true), (by first | rfl | (simp; done) | (simp [*]; done)), H', ⟨by first | omega | exact Nat.le_refl _⟩, ⟨by repeat (first | (with_reducible first | exact HB.out | apply below_alloc | apply pw_below_drewN | apply below_drew1) | exact HB.out)⟩⟩
      case rest =>
        clear HC15
        try clear c2
        try clear p2
        try clear c4
        try clear c6
        try clear c6b0
        try clear p6
        try clear c8
        try clear c8b0
        try clear c8b1
        try clear c9
        try clear c23
        try clear c23b0
        try clear c23b1
        try clear c24
        try clear c24b0
        try clear c24b1
        try clear c25
        try clear c25b0
        try clear c25b1
        try clear c26
        try clear c26b0
        try clear c26b1
        try clear c27
        try clear c27b0
        try clear c27b1
        obtain ⟨kq, x119_14, rfl, HA, HJ14, HB⟩ := hcut
        cases kq with
        | zero => exact absurd HA.out (by simp [solsticelaw03_WeekForms.j0])
        | succ kj14 =>
          have H := HA.out
          clear HA
          simp only [solsticelaw03_WeekForms.j0] at H
          by_cases c28 : x119_14 = true
          · subst c28
            have H1 : (some false) = some r := by rw [if_pos rfl] at H; exact H
            clear H
            have H := H1
            clear H1
            exact absurd ((Option.some.inj H).trans hr.out) (by decide)
          · replace c28 := Bool.eq_false_iff.mpr c28
            subst c28
            have H1 : (if t280 = t270 then (if t274 ≥ t270 then (if t274 < (wrap64 (t270 + 7)) then (if t276 ≤ t270 then (if t276 > (wrap64 (t270 - 7)) then (if t278 ≤ t272 then (if t278 > (wrap64 (t272 - 7)) then ((civil_Weekday.f t274).bind fun t282 => (if t282 = (wrap64 (Int.tmod (IntKind.u64.wrap (a2)) 7)) then ((civil_Weekday.f t276).bind fun t283 => (if t283 = (wrap64 (Int.tmod (IntKind.u64.wrap (a2)) 7)) then ((civil_Weekday.f t278).bind fun t284 => (if t284 = (wrap64 (Int.tmod (IntKind.u64.wrap (a2)) 7)) then (if (wrap64 (1 + (wrap64 (Int.tmod (IntKind.u64.wrap (a3)) (IntKind.u64.wrap (t269)))))) < t269 then ((solsticelaw03_wakes.f kj14).bind fun t285 => (some t285)) else (if t276 = t278 then ((solsticelaw03_wakes.f kj14).bind fun t286 => (some t286)) else (some false))) else (some false))) else (some false))) else (some false))) else (some false)) else (some false)) else (some false)) else (some false)) else (some false)) else (some false)) else (some false)) = some r := by rw [if_neg (show ¬ (false = true) by decide)] at H; exact H
            clear H
            have H := H1
            clear H1
            by_cases c29 : t280 = t270
            · rw [if_pos c29] at H
              have c29b0 : (t280 == t270) = true := beq_iff_eq.mpr c29
              have c29b1 : (t280 != t270) = false := bne_eq_false_iff_eq.mpr c29
              clear c29
              by_cases c30 : t274 ≥ t270
              · rw [if_pos c30] at H
                have c30b0 : decide (t270 ≤ t274) = true := decide_eq_true c30
                clear c30
                by_cases c31 : t274 < (wrap64 (t270 + 7))
                · rw [if_pos c31] at H
                  have c31b0 : decide (t274 < (wrap64 (t270 + 7))) = true := decide_eq_true c31
                  clear c31
                  by_cases c32 : t276 ≤ t270
                  · rw [if_pos c32] at H
                    have c32b0 : decide (t276 ≤ t270) = true := decide_eq_true c32
                    clear c32
                    by_cases c33 : t276 > (wrap64 (t270 - 7))
                    · rw [if_pos c33] at H
                      have c33b0 : decide ((wrap64 (t270 - 7)) < t276) = true := decide_eq_true c33
                      clear c33
                      by_cases c34 : t278 ≤ t272
                      · rw [if_pos c34] at H
                        have c34b0 : decide (t278 ≤ t272) = true := decide_eq_true c34
                        clear c34
                        by_cases c35 : t278 > (wrap64 (t272 - 7))
                        · rw [if_pos c35] at H
                          have c35b0 : decide ((wrap64 (t272 - 7)) < t278) = true := decide_eq_true c35
                          clear c35
                          replace H := Option.bind_eq_some_iff.mp H
                          obtain ⟨t282, A360, H⟩ := H
                          replace H : (if t282 = (wrap64 (Int.tmod (IntKind.u64.wrap (a2)) 7)) then ((civil_Weekday.f t276).bind fun t283 => (if t283 = (wrap64 (Int.tmod (IntKind.u64.wrap (a2)) 7)) then ((civil_Weekday.f t278).bind fun t284 => (if t284 = (wrap64 (Int.tmod (IntKind.u64.wrap (a2)) 7)) then (if (wrap64 (1 + (wrap64 (Int.tmod (IntKind.u64.wrap (a3)) (IntKind.u64.wrap (t269)))))) < t269 then ((solsticelaw03_wakes.f kj14).bind fun t285 => (some t285)) else (if t276 = t278 then ((solsticelaw03_wakes.f kj14).bind fun t286 => (some t286)) else (some false))) else (some false))) else (some false))) else (some false)) = some r := H
                          have A36 := Aside0.mk A360
                          clear A360
                          by_cases c37 : t282 = (wrap64 (Int.tmod (IntKind.u64.wrap (a2)) 7))
                          · rw [if_pos c37] at H
                            have c37b0 : (t282 == (wrap64 (Int.tmod (IntKind.u64.wrap (a2)) 7))) = true := beq_iff_eq.mpr c37
                            have c37b1 : (t282 != (wrap64 (Int.tmod (IntKind.u64.wrap (a2)) 7))) = false := bne_eq_false_iff_eq.mpr c37
                            clear c37
                            replace H := Option.bind_eq_some_iff.mp H
                            obtain ⟨t283, A380, H⟩ := H
                            replace H : (if t283 = (wrap64 (Int.tmod (IntKind.u64.wrap (a2)) 7)) then ((civil_Weekday.f t278).bind fun t284 => (if t284 = (wrap64 (Int.tmod (IntKind.u64.wrap (a2)) 7)) then (if (wrap64 (1 + (wrap64 (Int.tmod (IntKind.u64.wrap (a3)) (IntKind.u64.wrap (t269)))))) < t269 then ((solsticelaw03_wakes.f kj14).bind fun t285 => (some t285)) else (if t276 = t278 then ((solsticelaw03_wakes.f kj14).bind fun t286 => (some t286)) else (some false))) else (some false))) else (some false)) = some r := H
                            have A38 := Aside0.mk A380
                            clear A380
                            by_cases c39 : t283 = (wrap64 (Int.tmod (IntKind.u64.wrap (a2)) 7))
                            · rw [if_pos c39] at H
                              have c39b0 : (t283 == (wrap64 (Int.tmod (IntKind.u64.wrap (a2)) 7))) = true := beq_iff_eq.mpr c39
                              have c39b1 : (t283 != (wrap64 (Int.tmod (IntKind.u64.wrap (a2)) 7))) = false := bne_eq_false_iff_eq.mpr c39
                              clear c39
                              replace H := Option.bind_eq_some_iff.mp H
                              obtain ⟨t284, A400, H⟩ := H
                              replace H : (if t284 = (wrap64 (Int.tmod (IntKind.u64.wrap (a2)) 7)) then (if (wrap64 (1 + (wrap64 (Int.tmod (IntKind.u64.wrap (a3)) (IntKind.u64.wrap (t269)))))) < t269 then ((solsticelaw03_wakes.f kj14).bind fun t285 => (some t285)) else (if t276 = t278 then ((solsticelaw03_wakes.f kj14).bind fun t286 => (some t286)) else (some false))) else (some false)) = some r := H
                              have A40 := Aside0.mk A400
                              clear A400
                              by_cases c41 : t284 = (wrap64 (Int.tmod (IntKind.u64.wrap (a2)) 7))
                              · rw [if_pos c41] at H
                                have c41b0 : (t284 == (wrap64 (Int.tmod (IntKind.u64.wrap (a2)) 7))) = true := beq_iff_eq.mpr c41
                                have c41b1 : (t284 != (wrap64 (Int.tmod (IntKind.u64.wrap (a2)) 7))) = false := bne_eq_false_iff_eq.mpr c41
                                clear c41
                                by_cases c42 : (wrap64 (1 + (wrap64 (Int.tmod (IntKind.u64.wrap (a3)) (IntKind.u64.wrap (t269)))))) < t269
                                · rw [if_pos c42] at H
                                  have c42b0 : decide ((wrap64 (1 + (wrap64 (Int.tmod (IntKind.u64.wrap (a3)) (IntKind.u64.wrap (t269)))))) < t269) = true := decide_eq_true c42
                                  clear c42
                                  replace H := Option.bind_eq_some_iff.mp H
                                  obtain ⟨t285, A430, H⟩ := H
                                  replace H : (some t285) = some r := H
                                  have A43 := Aside0.mk A430
                                  clear A430
                                  obtain rfl := Option.some.inj H
                                  go_wp2_with (first | (go_at_call 25; (with_reducible refine (civil_Weekday.calls t274 t282 _ A36.out).mono ?_); rintro e w' ⟨rfl, ⟨nd, rfl⟩⟩) | (go_at_call 25; (with_reducible refine (civil_Weekday.calls t276 t283 _ A38.out).mono ?_); rintro e w' ⟨rfl, ⟨nd, rfl⟩⟩) | (go_at_call 25; (with_reducible refine (civil_Weekday.calls t278 t284 _ A40.out).mono ?_); rintro e w' ⟨rfl, ⟨nd, rfl⟩⟩) | (go_at_call 17; (with_reducible refine (solsticelaw03_wakes.calls kj14  t285 _ A43.out).mono ?_); rintro e w44 ⟨rfl, hb⟩; have n0_ := Aside0.mk (below_step (by repeat (first | (with_reducible first | exact HB.out | apply below_alloc | apply pw_below_drewN | apply below_drew1) | exact HB.out)) hb); clear HB; have HB := n0_; clear n0_; (try clear hb); (try clear hb2); (try clear hk); (try clear hi)))
                                  go_ret
                                  exact ⟨by first | rfl | (simp [errW_none, errW_some] <;> rfl) | (simp [*, errW_none, errW_some] <;> rfl), by repeat (first | (with_reducible first | exact HB.out | apply below_alloc | apply pw_below_drewN | apply below_drew1) | exact HB.out)⟩
                                · rw [if_neg c42] at H
                                  have c42b0 : decide ((wrap64 (1 + (wrap64 (Int.tmod (IntKind.u64.wrap (a3)) (IntKind.u64.wrap (t269)))))) < t269) = false := decide_eq_false c42
                                  clear c42
                                  by_cases c45 : t276 = t278
                                  · rw [if_pos c45] at H
                                    have c45b0 : (t276 == t278) = true := beq_iff_eq.mpr c45
                                    have c45b1 : (t276 != t278) = false := bne_eq_false_iff_eq.mpr c45
                                    clear c45
                                    replace H := Option.bind_eq_some_iff.mp H
                                    obtain ⟨t286, A460, H⟩ := H
                                    replace H : (some t286) = some r := H
                                    have A46 := Aside0.mk A460
                                    clear A460
                                    obtain rfl := Option.some.inj H
                                    go_wp2_with (first | (go_at_call 25; (with_reducible refine (civil_Weekday.calls t274 t282 _ A36.out).mono ?_); rintro e w' ⟨rfl, ⟨nd, rfl⟩⟩) | (go_at_call 25; (with_reducible refine (civil_Weekday.calls t276 t283 _ A38.out).mono ?_); rintro e w' ⟨rfl, ⟨nd, rfl⟩⟩) | (go_at_call 25; (with_reducible refine (civil_Weekday.calls t278 t284 _ A40.out).mono ?_); rintro e w' ⟨rfl, ⟨nd, rfl⟩⟩) | (go_at_call 17; (with_reducible refine (solsticelaw03_wakes.calls kj14  t286 _ A46.out).mono ?_); rintro e w47 ⟨rfl, hb⟩; have n0_ := Aside0.mk (below_step (by repeat (first | (with_reducible first | exact HB.out | apply below_alloc | apply pw_below_drewN | apply below_drew1) | exact HB.out)) hb); clear HB; have HB := n0_; clear n0_; (try clear hb); (try clear hb2); (try clear hk); (try clear hi)))
                                    go_ret
                                    exact ⟨by first | rfl | (simp [errW_none, errW_some] <;> rfl) | (simp [*, errW_none, errW_some] <;> rfl), by repeat (first | (with_reducible first | exact HB.out | apply below_alloc | apply pw_below_drewN | apply below_drew1) | exact HB.out)⟩
                                  · rw [if_neg c45] at H
                                    have c45b0 : (t276 == t278) = false := beq_eq_false_iff_ne.mpr c45
                                    have c45b1 : (t276 != t278) = true := bne_iff_ne.mpr c45
                                    exact absurd ((Option.some.inj H).trans hr.out) (by decide)
                              · rw [if_neg c41] at H
                                have c41b0 : (t284 == (wrap64 (Int.tmod (IntKind.u64.wrap (a2)) 7))) = false := beq_eq_false_iff_ne.mpr c41
                                have c41b1 : (t284 != (wrap64 (Int.tmod (IntKind.u64.wrap (a2)) 7))) = true := bne_iff_ne.mpr c41
                                exact absurd ((Option.some.inj H).trans hr.out) (by decide)
                            · rw [if_neg c39] at H
                              have c39b0 : (t283 == (wrap64 (Int.tmod (IntKind.u64.wrap (a2)) 7))) = false := beq_eq_false_iff_ne.mpr c39
                              have c39b1 : (t283 != (wrap64 (Int.tmod (IntKind.u64.wrap (a2)) 7))) = true := bne_iff_ne.mpr c39
                              exact absurd ((Option.some.inj H).trans hr.out) (by decide)
                          · rw [if_neg c37] at H
                            have c37b0 : (t282 == (wrap64 (Int.tmod (IntKind.u64.wrap (a2)) 7))) = false := beq_eq_false_iff_ne.mpr c37
                            have c37b1 : (t282 != (wrap64 (Int.tmod (IntKind.u64.wrap (a2)) 7))) = true := bne_iff_ne.mpr c37
                            exact absurd ((Option.some.inj H).trans hr.out) (by decide)
                        · rw [if_neg c35] at H
                          have c35b0 : decide ((wrap64 (t272 - 7)) < t278) = false := decide_eq_false c35
                          clear c35
                          exact absurd ((Option.some.inj H).trans hr.out) (by decide)
                      · rw [if_neg c34] at H
                        have c34b0 : decide (t278 ≤ t272) = false := decide_eq_false c34
                        clear c34
                        exact absurd ((Option.some.inj H).trans hr.out) (by decide)
                    · rw [if_neg c33] at H
                      have c33b0 : decide ((wrap64 (t270 - 7)) < t276) = false := decide_eq_false c33
                      clear c33
                      exact absurd ((Option.some.inj H).trans hr.out) (by decide)
                  · rw [if_neg c32] at H
                    have c32b0 : decide (t276 ≤ t270) = false := decide_eq_false c32
                    clear c32
                    exact absurd ((Option.some.inj H).trans hr.out) (by decide)
                · rw [if_neg c31] at H
                  have c31b0 : decide (t274 < (wrap64 (t270 + 7))) = false := decide_eq_false c31
                  clear c31
                  exact absurd ((Option.some.inj H).trans hr.out) (by decide)
              · rw [if_neg c30] at H
                have c30b0 : decide (t270 ≤ t274) = false := decide_eq_false c30
                clear c30
                exact absurd ((Option.some.inj H).trans hr.out) (by decide)
            · rw [if_neg c29] at H
              have c29b0 : (t280 == t270) = false := beq_eq_false_iff_ne.mpr c29
              have c29b1 : (t280 != t270) = true := bne_iff_ne.mpr c29
              exact absurd ((Option.some.inj H).trans hr.out) (by decide)
/-- THE ONE PURE STATEMENT of solsticelaw03_WeekForms: yours. -/
def solsticelaw03_WeekForms.Pure : Prop := ∀ (a0 : Int) (a1 : Int) (a2 : Int) (a3 : Int), (Lit.int .i64 a0).wf = true → (Lit.int .i64 a1).wf = true → (Lit.int .i64 a2).wf = true → (Lit.int .i64 a3).wf = true → ∃ k, solsticelaw03_WeekForms.f k a0 a1 a2 a3 = some true
theorem solsticelaw03_WeekForms.walk (P : solsticelaw03_WeekForms.Pure) (a0 : Int) (a1 : Int) (a2 : Int) (a3 : Int) (w : World) (w0 : (Lit.int .i64 a0).wf = true) (w1 : (Lit.int .i64 a1).wf = true) (w2 : (Lit.int .i64 a2).wf = true) (w3 : (Lit.int .i64 a3).wf = true) :
    Calls Try.prog 4 #[.int .i64 a0, .int .i64 a1, .int .i64 a2, .int .i64 a3] w fun e w' => e = .returned (.bool true) ∧ Below w.heap.size w w' := by
  obtain ⟨k, h⟩ := P a0 a1 a2 a3 w0 w1 w2 w3
  refine (solsticelaw03_WeekForms.calls k a0 a1 a2 a3 true w rfl h).mono ?_
  rintro e w' ⟨rfl, hd⟩
  exact ⟨rfl, hd⟩

end Go.Proofs.Ytlefnaoflajnmaa.O
