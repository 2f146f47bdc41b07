-- What some functions of the program compute: a text of this claim's own (lines first written by the kit's tool, some proved anew).
import Derived.Test.YtgmofklgfnfnmaaOx0
import Derived.Test.YtgmofklgfnfnmaaOx1
import Derived.Test.YtgmofklgfnfnmaaOx6
import Derived.Test.YtgmofklgfnfnmaaOx8
import Derived.Test.YtgmofklgfnfnmaaOx11
import Derived.Test.YtgmofklgfnfnmaaOx12
import Derived.Test.YtgmofklgfnfnmaaOx14
namespace Go.Proofs.Ytgmofklgfnfnmaa.O
open Go.RowKit Go.Proofs.YtgmofklgfnfnmaaW.PrintWords Go.Proofs.YtgmofklgfnfnmaaW.PrintLast Go.Proofs.YtgmofklgfnfnmaaW.PrintMore
attribute [local go_sem] max2_int min2_int max_two min_two max_three min_three max_four min_four   -- for this text's walks alone
set_option linter.unusedVariables false
set_option linter.unusedSimpArgs false

attribute [local go_sem high] eqA23
/-! ### solsticelaw02_CivilBack: function 3 -/
mutual
def solsticelaw02_CivilBack.j0 : Nat → Int → Int → Bool → Int → Int → Int → Int → Int → Int → Option (Bool)
  | 0, _, _, _, _, _, _, _, _, _ => none
  | k + 1, x15, x17, x62, x151000, x151001, x151002, x152000, x152001, x152002 => if x62 = true then (some false) else (if x151000 > x152000 then (solsticelaw02_CivilBack.j1 k x15 x17 true x151000 x151001 x151002 x152000 x152001 x152002) else (if x151000 = x152000 then (if x151001 > x152001 then (solsticelaw02_CivilBack.j1 k x15 x17 true x151000 x151001 x151002 x152000 x152001 x152002) else (if x151001 = x152001 then (solsticelaw02_CivilBack.j1 k x15 x17 (decide (x151002 > x152002)) x151000 x151001 x151002 x152000 x152001 x152002) else (solsticelaw02_CivilBack.j1 k x15 x17 false x151000 x151001 x151002 x152000 x152001 x152002))) else (solsticelaw02_CivilBack.j1 k x15 x17 false x151000 x151001 x151002 x152000 x152001 x152002)))
def solsticelaw02_CivilBack.j1 : Nat → Int → Int → Bool → Int → Int → Int → Int → Int → Int → Option (Bool)
  | 0, _, _, _, _, _, _, _, _, _ => none
  | k + 1, x15, x17, x21, x151000, x151001, x151002, x152000, x152001, x152002 => if ((decide (x15 > x17)) != x21) = true then (solsticelaw02_CivilBack.j2 k x15 true x151000 x151001 x151002) else (solsticelaw02_CivilBack.j2 k x15 ((x15 == x17) != (x151000 == x152000 && (x151001 == x152001 && (x151002 == x152002)))) x151000 x151001 x151002)
def solsticelaw02_CivilBack.j2 : Nat → Int → Bool → Int → Int → Int → Option (Bool)
  | 0, _, _, _, _, _ => none
  | k + 1, x15, x109, x151000, x151001, x151002 => if x109 = true then (some false) else ((civil_Len.f k x151000 x151001).bind fun t162 => (if (wrap64 (x151002 + 1)) > t162 then (solsticelaw02_CivilBack.j3 k x15 x151000 (wrap64 (x151001 + 1)) 1) else (solsticelaw02_CivilBack.j3 k x15 x151000 x151001 (wrap64 (x151002 + 1)))))
def solsticelaw02_CivilBack.j3 : Nat → Int → Int → Int → Int → Option (Bool)
  | 0, _, _, _, _ => none
  | k + 1, x15, x162000, x162001, x162002 => if x162001 > 12 then (solsticelaw02_CivilBack.j4 k x15 (wrap64 (x162000 + 1)) 1 x162002) else (solsticelaw02_CivilBack.j4 k x15 x162000 x162001 x162002)
def solsticelaw02_CivilBack.j4 : Nat → Int → Int → Int → Int → Option (Bool)
  | 0, _, _, _, _ => none
  | k + 1, x15, x162000, x162001, x162002 => if x162000 > 10000 then ((solsticelaw02_wakes.f k).bind fun t163 => (some t163)) else ((civil_Number.f k x162000 x162001 x162002).bind fun bt164 => (if bt164.2 = 0 then (if bt164.1 = (wrap64 (x15 + 1)) then ((solsticelaw02_wakes.f k).bind fun t166 => (some t166)) else (some false)) else (some false)))
end
def solsticelaw02_CivilBack.f (k : Nat) (a0 : Int) (a1 : Int) (a2 : Int) (a3 : Int) (a4 : Int) (a5 : Int) : Option (Bool) := (solsticelaw02_Some.f k a0 a1 a2).bind fun bt144 => ((solsticelaw02_Some.f k a3 a4 a5).bind fun bt147 => ((civil_Number.f k bt144.1 bt144.2.1 bt144.2.2).bind fun bt152 => ((civil_Number.f k bt147.1 bt147.2.1 bt147.2.2).bind fun bt154 => ((civil_Date.f k bt152.1).bind fun bt156 => (if bt152.2 = 0 then (if bt154.2 = 0 then (if bt156.2.2.2 = 0 then (solsticelaw02_CivilBack.j0 k bt152.1 bt154.1 (!(bt156.1 == bt144.1) || (!(bt156.2.1 == bt144.2.1) || (!(bt156.2.2.1 == bt144.2.2)))) bt144.1 bt144.2.1 bt144.2.2 bt147.1 bt147.2.1 bt147.2.2) else (solsticelaw02_CivilBack.j0 k bt152.1 bt154.1 true bt144.1 bt144.2.1 bt144.2.2 bt147.1 bt147.2.1 bt147.2.2)) else (solsticelaw02_CivilBack.j0 k bt152.1 bt154.1 true bt144.1 bt144.2.1 bt144.2.2 bt147.1 bt147.2.1 bt147.2.2)) else (solsticelaw02_CivilBack.j0 k bt152.1 bt154.1 true bt144.1 bt144.2.1 bt144.2.2 bt147.1 bt147.2.1 bt147.2.2))))))
theorem solsticelaw02_CivilBack.mono_l : ∀ k, (∀ y0 y1 y2 y3 y4 y5 y6 y7 y8, LeO (solsticelaw02_CivilBack.j0 k y0 y1 y2 y3 y4 y5 y6 y7 y8) (solsticelaw02_CivilBack.j0 (k + 1) y0 y1 y2 y3 y4 y5 y6 y7 y8)) ∧ (∀ y0 y1 y2 y3 y4 y5 y6 y7 y8, LeO (solsticelaw02_CivilBack.j1 k y0 y1 y2 y3 y4 y5 y6 y7 y8) (solsticelaw02_CivilBack.j1 (k + 1) y0 y1 y2 y3 y4 y5 y6 y7 y8)) ∧ (∀ y0 y1 y2 y3 y4, LeO (solsticelaw02_CivilBack.j2 k y0 y1 y2 y3 y4) (solsticelaw02_CivilBack.j2 (k + 1) y0 y1 y2 y3 y4)) ∧ (∀ y0 y1 y2 y3, LeO (solsticelaw02_CivilBack.j3 k y0 y1 y2 y3) (solsticelaw02_CivilBack.j3 (k + 1) y0 y1 y2 y3)) ∧ (∀ y0 y1 y2 y3, LeO (solsticelaw02_CivilBack.j4 k y0 y1 y2 y3) (solsticelaw02_CivilBack.j4 (k + 1) y0 y1 y2 y3))
  | 0 => ⟨fun _ _ _ _ _ _ _ _ _ r h => by simp [solsticelaw02_CivilBack.j0] at h, fun _ _ _ _ _ _ _ _ _ r h => by simp [solsticelaw02_CivilBack.j1] at h, fun _ _ _ _ _ r h => by simp [solsticelaw02_CivilBack.j2] at h, fun _ _ _ _ r h => by simp [solsticelaw02_CivilBack.j3] at h, fun _ _ _ _ r h => by simp [solsticelaw02_CivilBack.j4] at h⟩
  | k + 1 => by
    obtain ⟨ih0, ih1, ih2, ih3, ih4⟩ := solsticelaw02_CivilBack.mono_l k
    refine ⟨?_, ?_, ?_, ?_, ?_⟩
    · intro y0 y1 y2 y3 y4 y5 y6 y7 y8
      unfold solsticelaw02_CivilBack.j0
      repeat' first
      | (with_reducible exact ih0 _ _ _ _ _ _ _ _ _)
      | (with_reducible exact ih1 _ _ _ _ _ _ _ _ _)
      | (with_reducible exact ih2 _ _ _ _ _)
      | (with_reducible exact ih3 _ _ _ _)
      | (with_reducible exact ih4 _ _ _ _)
      | (with_reducible exact civil_Date.mono _ _)
      | (with_reducible exact civil_Len.mono _ _ _)
      | (with_reducible exact civil_Number.mono _ _ _ _)
      | (with_reducible exact solsticelaw02_Some.mono _ _ _ _)
      | (with_reducible exact solsticelaw02_wakes.mono _)
      | (with_reducible exact LeO.refl _)
      | (with_reducible exact LeO.none _)
      | (with_reducible refine LeO.ite ?_ ?_)
      | (with_reducible refine LeO.bind ?_ (fun _ => ?_))
      | exact ih0 _ _ _ _ _ _ _ _ _
      | exact ih1 _ _ _ _ _ _ _ _ _
      | exact ih2 _ _ _ _ _
      | exact ih3 _ _ _ _
      | exact ih4 _ _ _ _
      | exact civil_Date.mono _ _
      | exact civil_Len.mono _ _ _
      | exact civil_Number.mono _ _ _ _
      | exact solsticelaw02_Some.mono _ _ _ _
      | exact solsticelaw02_wakes.mono _
      | exact LeO.none _
      | refine LeO.ite ?_ ?_
      | refine LeO.bind ?_ (fun _ => ?_)
    · intro y0 y1 y2 y3 y4 y5 y6 y7 y8
      unfold solsticelaw02_CivilBack.j1
      repeat' first
      | (with_reducible exact ih0 _ _ _ _ _ _ _ _ _)
      | (with_reducible exact ih1 _ _ _ _ _ _ _ _ _)
      | (with_reducible exact ih2 _ _ _ _ _)
      | (with_reducible exact ih3 _ _ _ _)
      | (with_reducible exact ih4 _ _ _ _)
      | (with_reducible exact civil_Date.mono _ _)
      | (with_reducible exact civil_Len.mono _ _ _)
      | (with_reducible exact civil_Number.mono _ _ _ _)
      | (with_reducible exact solsticelaw02_Some.mono _ _ _ _)
      | (with_reducible exact solsticelaw02_wakes.mono _)
      | (with_reducible exact LeO.refl _)
      | (with_reducible exact LeO.none _)
      | (with_reducible refine LeO.ite ?_ ?_)
      | (with_reducible refine LeO.bind ?_ (fun _ => ?_))
      | exact ih0 _ _ _ _ _ _ _ _ _
      | exact ih1 _ _ _ _ _ _ _ _ _
      | exact ih2 _ _ _ _ _
      | exact ih3 _ _ _ _
      | exact ih4 _ _ _ _
      | exact civil_Date.mono _ _
      | exact civil_Len.mono _ _ _
      | exact civil_Number.mono _ _ _ _
      | exact solsticelaw02_Some.mono _ _ _ _
      | exact solsticelaw02_wakes.mono _
      | exact LeO.none _
      | refine LeO.ite ?_ ?_
      | refine LeO.bind ?_ (fun _ => ?_)
    · intro y0 y1 y2 y3 y4
      unfold solsticelaw02_CivilBack.j2
      repeat' first
      | (with_reducible exact ih0 _ _ _ _ _ _ _ _ _)
      | (with_reducible exact ih1 _ _ _ _ _ _ _ _ _)
      | (with_reducible exact ih2 _ _ _ _ _)
      | (with_reducible exact ih3 _ _ _ _)
      | (with_reducible exact ih4 _ _ _ _)
      | (with_reducible exact civil_Date.mono _ _)
      | (with_reducible exact civil_Len.mono _ _ _)
      | (with_reducible exact civil_Number.mono _ _ _ _)
      | (with_reducible exact solsticelaw02_Some.mono _ _ _ _)
      | (with_reducible exact solsticelaw02_wakes.mono _)
      | (with_reducible exact LeO.refl _)
      | (with_reducible exact LeO.none _)
      | (with_reducible refine LeO.ite ?_ ?_)
      | (with_reducible refine LeO.bind ?_ (fun _ => ?_))
      | exact ih0 _ _ _ _ _ _ _ _ _
      | exact ih1 _ _ _ _ _ _ _ _ _
      | exact ih2 _ _ _ _ _
      | exact ih3 _ _ _ _
      | exact ih4 _ _ _ _
      | exact civil_Date.mono _ _
      | exact civil_Len.mono _ _ _
      | exact civil_Number.mono _ _ _ _
      | exact solsticelaw02_Some.mono _ _ _ _
      | exact solsticelaw02_wakes.mono _
      | exact LeO.none _
      | refine LeO.ite ?_ ?_
      | refine LeO.bind ?_ (fun _ => ?_)
    · intro y0 y1 y2 y3
      unfold solsticelaw02_CivilBack.j3
      repeat' first
      | (with_reducible exact ih0 _ _ _ _ _ _ _ _ _)
      | (with_reducible exact ih1 _ _ _ _ _ _ _ _ _)
      | (with_reducible exact ih2 _ _ _ _ _)
      | (with_reducible exact ih3 _ _ _ _)
      | (with_reducible exact ih4 _ _ _ _)
      | (with_reducible exact civil_Date.mono _ _)
      | (with_reducible exact civil_Len.mono _ _ _)
      | (with_reducible exact civil_Number.mono _ _ _ _)
      | (with_reducible exact solsticelaw02_Some.mono _ _ _ _)
      | (with_reducible exact solsticelaw02_wakes.mono _)
      | (with_reducible exact LeO.refl _)
      | (with_reducible exact LeO.none _)
      | (with_reducible refine LeO.ite ?_ ?_)
      | (with_reducible refine LeO.bind ?_ (fun _ => ?_))
      | exact ih0 _ _ _ _ _ _ _ _ _
      | exact ih1 _ _ _ _ _ _ _ _ _
      | exact ih2 _ _ _ _ _
      | exact ih3 _ _ _ _
      | exact ih4 _ _ _ _
      | exact civil_Date.mono _ _
      | exact civil_Len.mono _ _ _
      | exact civil_Number.mono _ _ _ _
      | exact solsticelaw02_Some.mono _ _ _ _
      | exact solsticelaw02_wakes.mono _
      | exact LeO.none _
      | refine LeO.ite ?_ ?_
      | refine LeO.bind ?_ (fun _ => ?_)
    · intro y0 y1 y2 y3
      unfold solsticelaw02_CivilBack.j4
      repeat' first
      | (with_reducible exact ih0 _ _ _ _ _ _ _ _ _)
      | (with_reducible exact ih1 _ _ _ _ _ _ _ _ _)
      | (with_reducible exact ih2 _ _ _ _ _)
      | (with_reducible exact ih3 _ _ _ _)
      | (with_reducible exact ih4 _ _ _ _)
      | (with_reducible exact civil_Date.mono _ _)
      | (with_reducible exact civil_Len.mono _ _ _)
      | (with_reducible exact civil_Number.mono _ _ _ _)
      | (with_reducible exact solsticelaw02_Some.mono _ _ _ _)
      | (with_reducible exact solsticelaw02_wakes.mono _)
      | (with_reducible exact LeO.refl _)
      | (with_reducible exact LeO.none _)
      | (with_reducible refine LeO.ite ?_ ?_)
      | (with_reducible refine LeO.bind ?_ (fun _ => ?_))
      | exact ih0 _ _ _ _ _ _ _ _ _
      | exact ih1 _ _ _ _ _ _ _ _ _
      | exact ih2 _ _ _ _ _
      | exact ih3 _ _ _ _
      | exact ih4 _ _ _ _
      | exact civil_Date.mono _ _
      | exact civil_Len.mono _ _ _
      | exact civil_Number.mono _ _ _ _
      | exact solsticelaw02_Some.mono _ _ _ _
      | exact solsticelaw02_wakes.mono _
      | exact LeO.none _
      | refine LeO.ite ?_ ?_
      | refine LeO.bind ?_ (fun _ => ?_)
theorem solsticelaw02_CivilBack.mono : ∀ a0 a1 a2 a3 a4 a5 k, LeO (solsticelaw02_CivilBack.f k a0 a1 a2 a3 a4 a5) (solsticelaw02_CivilBack.f (k + 1) a0 a1 a2 a3 a4 a5) := by
  intro a0 a1 a2 a3 a4 a5 k
  obtain ⟨ih0, ih1, ih2, ih3, ih4⟩ := solsticelaw02_CivilBack.mono_l k
  unfold solsticelaw02_CivilBack.f
  repeat' first
      | (with_reducible exact ih0 _ _ _ _ _ _ _ _ _)
      | (with_reducible exact ih1 _ _ _ _ _ _ _ _ _)
      | (with_reducible exact ih2 _ _ _ _ _)
      | (with_reducible exact ih3 _ _ _ _)
      | (with_reducible exact ih4 _ _ _ _)
      | (with_reducible exact civil_Date.mono _ _)
      | (with_reducible exact civil_Len.mono _ _ _)
      | (with_reducible exact civil_Number.mono _ _ _ _)
      | (with_reducible exact solsticelaw02_Some.mono _ _ _ _)
      | (with_reducible exact solsticelaw02_wakes.mono _)
      | (with_reducible exact LeO.refl _)
      | (with_reducible exact LeO.none _)
      | (with_reducible refine LeO.ite ?_ ?_)
      | (with_reducible refine LeO.bind ?_ (fun _ => ?_))
      | exact ih0 _ _ _ _ _ _ _ _ _
      | exact ih1 _ _ _ _ _ _ _ _ _
      | exact ih2 _ _ _ _ _
      | exact ih3 _ _ _ _
      | exact ih4 _ _ _ _
      | exact civil_Date.mono _ _
      | exact civil_Len.mono _ _ _
      | exact civil_Number.mono _ _ _ _
      | exact solsticelaw02_Some.mono _ _ _ _
      | exact solsticelaw02_wakes.mono _
      | exact LeO.none _
      | refine LeO.ite ?_ ?_
      | refine LeO.bind ?_ (fun _ => ?_)
def solsticelaw02_CivilBack.T12 : Bool × List (List Nat × List Nat) := (true, [([], []), ([0], [0]), ([], []), ([2], [2]), ([], []), ([4], [4]), ([3, 5], [3, 5]), ([1, 6], [1, 6])])
def solsticelaw02_CivilBack.B12 : List Nat := [0, 1, 0, 4, 0, 16, 60, 127]
theorem solsticelaw02_CivilBack.tab12 : rtab .any (opsOf Try.f3 12) = solsticelaw02_CivilBack.T12 := by kernel_rfl
theorem solsticelaw02_CivilBack.bits12 : waitsOk solsticelaw02_CivilBack.T12.2 solsticelaw02_CivilBack.B12 = true := by kernel_rfl
set_option maxHeartbeats 8000000 in
set_option maxRecDepth 100000 in
theorem solsticelaw02_CivilBack.calls (k : Nat) (a0 : Int) (a1 : Int) (a2 : Int) (a3 : Int) (a4 : Int) (a5 : Int) (r : Bool) (w : World) (h : solsticelaw02_CivilBack.f k a0 a1 a2 a3 a4 a5 = some r) :
    Calls Try.prog 3 #[.int .i64 a0, .int .i64 a1, .int .i64 a2, .int .i64 a3, .int .i64 a4, .int .i64 a5] w fun e w' => e = .returned (.bool r) ∧ Below w.heap.size w w' := by
  have hu23 := Try.underlying23
  have HB := Aside0.mk (Below.refl w.heap.size w)
  have H : ((solsticelaw02_Some.f k a0 a1 a2).bind fun bt144 => ((solsticelaw02_Some.f k a3 a4 a5).bind fun bt147 => ((civil_Number.f k bt144.1 bt144.2.1 bt144.2.2).bind fun bt152 => ((civil_Number.f k bt147.1 bt147.2.1 bt147.2.2).bind fun bt154 => ((civil_Date.f k bt152.1).bind fun bt156 => (if bt152.2 = 0 then (if bt154.2 = 0 then (if bt156.2.2.2 = 0 then (solsticelaw02_CivilBack.j0 k bt152.1 bt154.1 (!(bt156.1 == bt144.1) || (!(bt156.2.1 == bt144.2.1) || (!(bt156.2.2.1 == bt144.2.2)))) bt144.1 bt144.2.1 bt144.2.2 bt147.1 bt147.2.1 bt147.2.2) else (solsticelaw02_CivilBack.j0 k bt152.1 bt154.1 true bt144.1 bt144.2.1 bt144.2.2 bt147.1 bt147.2.1 bt147.2.2)) else (solsticelaw02_CivilBack.j0 k bt152.1 bt154.1 true bt144.1 bt144.2.1 bt144.2.2 bt147.1 bt147.2.1 bt147.2.2)) else (solsticelaw02_CivilBack.j0 k bt152.1 bt154.1 true bt144.1 bt144.2.1 bt144.2.2 bt147.1 bt147.2.1 bt147.2.2))))))) = some r := h
  clear h
  replace H := Option.bind_eq_some_iff.mp H
  obtain ⟨⟨t144, t145, t146⟩, A70, H⟩ := H
  replace H : ((solsticelaw02_Some.f k a3 a4 a5).bind fun bt147 => ((civil_Number.f k t144 t145 t146).bind fun bt152 => ((civil_Number.f k bt147.1 bt147.2.1 bt147.2.2).bind fun bt154 => ((civil_Date.f k bt152.1).bind fun bt156 => (if bt152.2 = 0 then (if bt154.2 = 0 then (if bt156.2.2.2 = 0 then (solsticelaw02_CivilBack.j0 k bt152.1 bt154.1 (!(bt156.1 == t144) || (!(bt156.2.1 == t145) || (!(bt156.2.2.1 == t146)))) t144 t145 t146 bt147.1 bt147.2.1 bt147.2.2) else (solsticelaw02_CivilBack.j0 k bt152.1 bt154.1 true t144 t145 t146 bt147.1 bt147.2.1 bt147.2.2)) else (solsticelaw02_CivilBack.j0 k bt152.1 bt154.1 true t144 t145 t146 bt147.1 bt147.2.1 bt147.2.2)) else (solsticelaw02_CivilBack.j0 k bt152.1 bt154.1 true t144 t145 t146 bt147.1 bt147.2.1 bt147.2.2)))))) = some r := H
  have A7 := Aside0.mk A70
  clear A70
  replace H := Option.bind_eq_some_iff.mp H
  obtain ⟨⟨t147, t148, t149⟩, A80, H⟩ := H
  replace H : ((civil_Number.f k t144 t145 t146).bind fun bt152 => ((civil_Number.f k t147 t148 t149).bind fun bt154 => ((civil_Date.f k bt152.1).bind fun bt156 => (if bt152.2 = 0 then (if bt154.2 = 0 then (if bt156.2.2.2 = 0 then (solsticelaw02_CivilBack.j0 k bt152.1 bt154.1 (!(bt156.1 == t144) || (!(bt156.2.1 == t145) || (!(bt156.2.2.1 == t146)))) t144 t145 t146 t147 t148 t149) else (solsticelaw02_CivilBack.j0 k bt152.1 bt154.1 true t144 t145 t146 t147 t148 t149)) else (solsticelaw02_CivilBack.j0 k bt152.1 bt154.1 true t144 t145 t146 t147 t148 t149)) else (solsticelaw02_CivilBack.j0 k bt152.1 bt154.1 true t144 t145 t146 t147 t148 t149))))) = some r := H
  have A8 := Aside0.mk A80
  clear A80
  replace H := Option.bind_eq_some_iff.mp H
  obtain ⟨⟨t152, t153⟩, A90, H⟩ := H
  replace H : ((civil_Number.f k t147 t148 t149).bind fun bt154 => ((civil_Date.f k t152).bind fun bt156 => (if t153 = 0 then (if bt154.2 = 0 then (if bt156.2.2.2 = 0 then (solsticelaw02_CivilBack.j0 k t152 bt154.1 (!(bt156.1 == t144) || (!(bt156.2.1 == t145) || (!(bt156.2.2.1 == t146)))) t144 t145 t146 t147 t148 t149) else (solsticelaw02_CivilBack.j0 k t152 bt154.1 true t144 t145 t146 t147 t148 t149)) else (solsticelaw02_CivilBack.j0 k t152 bt154.1 true t144 t145 t146 t147 t148 t149)) else (solsticelaw02_CivilBack.j0 k t152 bt154.1 true t144 t145 t146 t147 t148 t149)))) = some r := H
  have A9 := Aside0.mk A90
  clear A90
  replace H := Option.bind_eq_some_iff.mp H
  obtain ⟨⟨t154, t155⟩, A100, H⟩ := H
  replace H : ((civil_Date.f k t152).bind fun bt156 => (if t153 = 0 then (if t155 = 0 then (if bt156.2.2.2 = 0 then (solsticelaw02_CivilBack.j0 k t152 t154 (!(bt156.1 == t144) || (!(bt156.2.1 == t145) || (!(bt156.2.2.1 == t146)))) t144 t145 t146 t147 t148 t149) else (solsticelaw02_CivilBack.j0 k t152 t154 true t144 t145 t146 t147 t148 t149)) else (solsticelaw02_CivilBack.j0 k t152 t154 true t144 t145 t146 t147 t148 t149)) else (solsticelaw02_CivilBack.j0 k t152 t154 true t144 t145 t146 t147 t148 t149))) = some r := H
  have A10 := Aside0.mk A100
  clear A100
  replace H := Option.bind_eq_some_iff.mp H
  obtain ⟨⟨t156, t157, t158, t159⟩, A110, H⟩ := H
  replace H : (if t153 = 0 then (if t155 = 0 then (if t159 = 0 then (solsticelaw02_CivilBack.j0 k t152 t154 (!(t156 == t144) || (!(t157 == t145) || (!(t158 == t146)))) t144 t145 t146 t147 t148 t149) else (solsticelaw02_CivilBack.j0 k t152 t154 true t144 t145 t146 t147 t148 t149)) else (solsticelaw02_CivilBack.j0 k t152 t154 true t144 t145 t146 t147 t148 t149)) else (solsticelaw02_CivilBack.j0 k t152 t154 true t144 t145 t146 t147 t148 t149)) = some r := H
  have A11 := Aside0.mk A110
  clear A110
  have HC12 := Aside0.mk H
  clear H
  go_enter Try.func3, Try.ntmps3
  go_upto_region 5 with (first | ((with_reducible refine gate_callee (f := 9) rfl ?_); refine goesL_ (some 28) rfl rfl Try.func9 (by kernel_rfl) rfl #[.int .i64 a0, .int .i64 a1, .int .i64 a2] rfl (by (try simp only [List.map_toArray, List.map_cons, List.map_nil]); first | done | rfl | (simp only [List.length_drop, List.length_take]; rfl)) ?_; (with_reducible refine (solsticelaw02_Some.calls k a0 a1 a2 t144 t145 t146 _ A7.out).mono ?_); rintro e w13 ⟨rfl, hb⟩; refine ⟨_, rfl, ?_⟩; have n0_ := Aside0.mk (below_step (by repeat (first | (with_reducible first | exact HB.out | apply below_alloc | apply pw_below_drewN | apply below_drew1) | exact HB.out)) hb); clear HB; have HB := n0_; clear n0_; (try clear hb); (try clear hb2); (try clear hk); (try clear hi)) | ((with_reducible refine gate_callee (f := 9) rfl ?_); refine goesL_ (some 32) rfl rfl Try.func9 (by kernel_rfl) rfl #[.int .i64 a3, .int .i64 a4, .int .i64 a5] rfl (by (try simp only [List.map_toArray, List.map_cons, List.map_nil]); first | done | rfl | (simp only [List.length_drop, List.length_take]; rfl)) ?_; (with_reducible refine (solsticelaw02_Some.calls k a3 a4 a5 t147 t148 t149 _ A8.out).mono ?_); rintro e w14 ⟨rfl, hb⟩; refine ⟨_, rfl, ?_⟩; have n0_ := Aside0.mk (below_step (by repeat (first | (with_reducible first | exact HB.out | apply below_alloc | apply pw_below_drewN | apply below_drew1) | exact HB.out)) hb); clear HB; have HB := n0_; clear n0_; (try clear hb); (try clear hb2); (try clear hk); (try clear hi)) | ((with_reducible refine gate_dst (N := 13) rfl ?_); refine box_event ?hg (N := 13) ?hd (cs := #[.int .i64 0, .int .i64 0, .int .i64 0]) (t := 23) ?hr ?_; (case hd => rfl); (case hg => rfl); (case hr => first | (go_simp; done) | (go_simp; rfl)); intro gb150 hg w15 hbox hb; have n0_ := Aside0.mk (below_step (by repeat (first | (with_reducible first | exact HB.out | apply below_alloc | apply pw_below_drewN | apply below_drew1) | exact HB.out)) hb); have n1_ := Aside0.mk (hbox); have n2_ := Aside0.mk ((by rw [hg]; exact (below_size (by repeat (first | (with_reducible first | exact HB.out | apply below_alloc | apply pw_below_drewN | apply below_drew1) | exact HB.out))) : w.heap.size ≤ gb150)); have n3_ := Aside0.mk ((by rw [hg]; exact (below_size (by repeat (first | (with_reducible first | exact HB.out | apply below_alloc | apply pw_below_drewN | apply below_drew1) | exact HB.out))) : w.heap.size ≤ gb150)); clear HB; have HB := n0_; have BK150 := n1_; have GW150 := n2_; have GE150 := n3_; clear n0_ n1_ n2_ n3_; clear hb hbox hg) | ((with_reducible refine gate_dst (N := 14) rfl ?_); refine box_event ?hg (N := 14) ?hd (cs := #[.int .i64 0, .int .i64 0, .int .i64 0]) (t := 23) ?hr ?_; (case hd => rfl); (case hg => rfl); (case hr => first | (go_simp; done) | (go_simp; rfl)); intro gb151 hg w16 hbox hb; have n0_ := Aside0.mk (blk_below (g := gb150) (o := .cells #[.int .i64 0, .int .i64 0, .int .i64 0] 23 (0, 0)) (by (with_reducible repeat (first | refine blk_drewN ?_ _ | refine blk_drew ?_ | refine blk_alloc ?_ _)); exact BK150.out) hb); have n1_ := Aside0.mk (below_step (by repeat (first | (with_reducible first | exact HB.out | apply below_alloc | apply pw_below_drewN | apply below_drew1 | refine below_set ?_ GE150.out) | exact HB.out)) hb); have n2_ := Aside0.mk (hbox); have n3_ := Aside0.mk ((by rw [hg]; exact (below_size (by repeat (first | (with_reducible first | exact HB.out | apply below_alloc | apply pw_below_drewN | apply below_drew1 | refine below_set ?_ GE150.out) | exact HB.out))) : w.heap.size ≤ gb151)); have n4_ := Aside0.mk ((by rw [hg]; exact (below_size (by repeat (first | (with_reducible first | exact HB.out | apply below_alloc | apply pw_below_drewN | apply below_drew1 | refine below_set ?_ GE150.out) | exact HB.out))) : w.heap.size ≤ gb151)); have n5_ := Aside0.mk ((by rw [hg]; exact Nat.ne_of_lt (blk_lt (g := gb150) (o := .cells #[.int .i64 0, .int .i64 0, .int .i64 0] 23 (0, 0)) (by (with_reducible repeat (first | refine blk_drewN ?_ _ | refine blk_drew ?_ | refine blk_alloc ?_ _)); exact BK150.out)) : gb150 ≠ gb151)); have n6_ := Aside0.mk ((by rw [hg]; exact Nat.ne_of_gt (blk_lt (g := gb150) (o := .cells #[.int .i64 0, .int .i64 0, .int .i64 0] 23 (0, 0)) (by (with_reducible repeat (first | refine blk_drewN ?_ _ | refine blk_drew ?_ | refine blk_alloc ?_ _)); exact BK150.out)) : gb151 ≠ gb150)); clear BK150; clear HB; have BK150 := n0_; have HB := n1_; have BK151 := n2_; have GW151 := n3_; have GE151 := n4_; have NB150_151 := n5_; have NB151_150 := n6_; clear n0_ n1_ n2_ n3_ n4_ n5_ n6_; clear hb hbox hg; have hnb17 := NB150_151.out; have hnc17 := NB151_150.out; have hcz18_0 : w16.cell? ⟨gb150, 0, none⟩ = some (.int .i64 0) := (blk_cell BK150.out 0).trans rfl; have hcz18_1 : w16.cell? ⟨gb150, 1, none⟩ = some (.int .i64 0) := (blk_cell BK150.out 1).trans rfl; have hcz18_2 : w16.cell? ⟨gb150, 2, none⟩ = some (.int .i64 0) := (blk_cell BK150.out 2).trans rfl; have hfz18_0 := blk_frozen BK150.out 0; have hfz18_1 := blk_frozen BK150.out 1; have hfz18_2 := blk_frozen BK150.out 2; have hcz19_0 : w16.cell? ⟨gb151, 0, none⟩ = some (.int .i64 0) := (blk_cell BK151.out 0).trans rfl; have hcz19_1 : w16.cell? ⟨gb151, 1, none⟩ = some (.int .i64 0) := (blk_cell BK151.out 1).trans rfl; have hcz19_2 : w16.cell? ⟨gb151, 2, none⟩ = some (.int .i64 0) := (blk_cell BK151.out 2).trans rfl; have hfz19_0 := blk_frozen BK151.out 0; have hfz19_1 := blk_frozen BK151.out 1; have hfz19_2 := blk_frozen BK151.out 2) | ((with_reducible refine gate_callee (f := 10) rfl ?_); refine goesL_ (some 35) rfl rfl Try.func10 (by kernel_rfl) rfl #[.agg #[.int .i64 t144, .int .i64 t145, .int .i64 t146]] rfl (by (try simp only [List.map_toArray, List.map_cons, List.map_nil]); first | done | rfl | (simp only [List.length_drop, List.length_take]; rfl)) ?_; (with_reducible refine (civil_Number.calls k t144 t145 t146 t152 t153 _ A9.out).mono ?_); rintro e w20 ⟨rfl, hb⟩; refine ⟨_, rfl, ?_⟩; have n0_ := Aside0.mk (blk_below (g := gb150) (o := .cells #[.int .i64 t144, .int .i64 t145, .int .i64 t146] 23 (0, 0)) (by (with_reducible repeat (first | refine blk_drewN ?_ _ | refine blk_drew ?_ | refine blk_alloc ?_ _)); refine blk_far ?_ NB150_151.out _; (with_reducible repeat (first | refine blk_drewN ?_ _ | refine blk_drew ?_ | refine blk_alloc ?_ _)); refine blk_far ?_ NB150_151.out _; (with_reducible repeat (first | refine blk_drewN ?_ _ | refine blk_drew ?_ | refine blk_alloc ?_ _)); refine blk_far ?_ NB150_151.out _; (with_reducible repeat (first | refine blk_drewN ?_ _ | refine blk_drew ?_ | refine blk_alloc ?_ _)); refine blk_put (cs := #[.int .i64 t144, .int .i64 t145, .int .i64 0]) ?_ 2 _ rfl; (with_reducible repeat (first | refine blk_drewN ?_ _ | refine blk_drew ?_ | refine blk_alloc ?_ _)); refine blk_put (cs := #[.int .i64 t144, .int .i64 0, .int .i64 0]) ?_ 1 _ rfl; (with_reducible repeat (first | refine blk_drewN ?_ _ | refine blk_drew ?_ | refine blk_alloc ?_ _)); refine blk_put (cs := #[.int .i64 0, .int .i64 0, .int .i64 0]) ?_ 0 _ rfl; (with_reducible repeat (first | refine blk_drewN ?_ _ | refine blk_drew ?_ | refine blk_alloc ?_ _)); exact BK150.out) hb); have n1_ := Aside0.mk (blk_below (g := gb151) (o := .cells #[.int .i64 t147, .int .i64 t148, .int .i64 t149] 23 (0, 0)) (by (with_reducible repeat (first | refine blk_drewN ?_ _ | refine blk_drew ?_ | refine blk_alloc ?_ _)); refine blk_put (cs := #[.int .i64 t147, .int .i64 t148, .int .i64 0]) ?_ 2 _ rfl; (with_reducible repeat (first | refine blk_drewN ?_ _ | refine blk_drew ?_ | refine blk_alloc ?_ _)); refine blk_put (cs := #[.int .i64 t147, .int .i64 0, .int .i64 0]) ?_ 1 _ rfl; (with_reducible repeat (first | refine blk_drewN ?_ _ | refine blk_drew ?_ | refine blk_alloc ?_ _)); refine blk_put (cs := #[.int .i64 0, .int .i64 0, .int .i64 0]) ?_ 0 _ rfl; (with_reducible repeat (first | refine blk_drewN ?_ _ | refine blk_drew ?_ | refine blk_alloc ?_ _)); refine blk_far ?_ NB151_150.out _; (with_reducible repeat (first | refine blk_drewN ?_ _ | refine blk_drew ?_ | refine blk_alloc ?_ _)); refine blk_far ?_ NB151_150.out _; (with_reducible repeat (first | refine blk_drewN ?_ _ | refine blk_drew ?_ | refine blk_alloc ?_ _)); refine blk_far ?_ NB151_150.out _; (with_reducible repeat (first | refine blk_drewN ?_ _ | refine blk_drew ?_ | refine blk_alloc ?_ _)); exact BK151.out) hb); have n2_ := Aside0.mk (below_step (by repeat (first | (with_reducible first | exact HB.out | apply below_alloc | apply pw_below_drewN | apply below_drew1 | refine below_set ?_ GE150.out | refine below_set ?_ GE151.out) | exact HB.out)) hb); clear BK150; clear BK151; clear HB; have BK150 := n0_; have BK151 := n1_; have HB := n2_; clear n0_ n1_ n2_; (try clear hb); (try clear hb2); (try clear hk); (try clear hi); have hcz21_0 : w20.cell? ⟨gb151, 0, none⟩ = some (.int .i64 t147) := (blk_cell BK151.out 0).trans rfl; have hcz21_1 : w20.cell? ⟨gb151, 1, none⟩ = some (.int .i64 t148) := (blk_cell BK151.out 1).trans rfl; have hcz21_2 : w20.cell? ⟨gb151, 2, none⟩ = some (.int .i64 t149) := (blk_cell BK151.out 2).trans rfl; have hfz21_0 := blk_frozen BK151.out 0; have hfz21_1 := blk_frozen BK151.out 1; have hfz21_2 := blk_frozen BK151.out 2) | ((with_reducible refine gate_callee (f := 10) rfl ?_); refine goesL_ (some 40) rfl rfl Try.func10 (by kernel_rfl) rfl #[.agg #[.int .i64 t147, .int .i64 t148, .int .i64 t149]] rfl (by (try simp only [List.map_toArray, List.map_cons, List.map_nil]); first | done | rfl | (simp only [List.length_drop, List.length_take]; rfl)) ?_; (with_reducible refine (civil_Number.calls k t147 t148 t149 t154 t155 _ A10.out).mono ?_); rintro e w22 ⟨rfl, hb⟩; refine ⟨_, rfl, ?_⟩; have n0_ := Aside0.mk (blk_below (g := gb150) (o := .cells #[.int .i64 t144, .int .i64 t145, .int .i64 t146] 23 (0, 0)) (by (with_reducible repeat (first | refine blk_drewN ?_ _ | refine blk_drew ?_ | refine blk_alloc ?_ _)); exact BK150.out) hb); have n1_ := Aside0.mk (blk_below (g := gb151) (o := .cells #[.int .i64 t147, .int .i64 t148, .int .i64 t149] 23 (0, 0)) (by (with_reducible repeat (first | refine blk_drewN ?_ _ | refine blk_drew ?_ | refine blk_alloc ?_ _)); exact BK151.out) hb); have n2_ := Aside0.mk (below_step (by repeat (first | (with_reducible first | exact HB.out | apply below_alloc | apply pw_below_drewN | apply below_drew1 | refine below_set ?_ GE150.out | refine below_set ?_ GE151.out) | exact HB.out)) hb); clear BK150; clear BK151; clear HB; have BK150 := n0_; have BK151 := n1_; have HB := n2_; clear n0_ n1_ n2_; (try clear hb); (try clear hb2); (try clear hk); (try clear hi)) | ((with_reducible refine gate_callee (f := 11) rfl ?_); refine goesL_ (some 45) rfl rfl Try.func11 (by kernel_rfl) rfl #[.int .i64 t152] rfl (by (try simp only [List.map_toArray, List.map_cons, List.map_nil]); first | done | rfl | (simp only [List.length_drop, List.length_take]; rfl)) ?_; (with_reducible refine (civil_Date.calls k t152 t156 t157 t158 t159 _ A11.out).mono ?_); rintro e w23 ⟨rfl, hb⟩; refine ⟨_, rfl, ?_⟩; have n0_ := Aside0.mk (blk_below (g := gb150) (o := .cells #[.int .i64 t144, .int .i64 t145, .int .i64 t146] 23 (0, 0)) (by (with_reducible repeat (first | refine blk_drewN ?_ _ | refine blk_drew ?_ | refine blk_alloc ?_ _)); exact BK150.out) hb); have n1_ := Aside0.mk (blk_below (g := gb151) (o := .cells #[.int .i64 t147, .int .i64 t148, .int .i64 t149] 23 (0, 0)) (by (with_reducible repeat (first | refine blk_drewN ?_ _ | refine blk_drew ?_ | refine blk_alloc ?_ _)); exact BK151.out) hb); have n2_ := Aside0.mk (below_step (by repeat (first | (with_reducible first | exact HB.out | apply below_alloc | apply pw_below_drewN | apply below_drew1 | refine below_set ?_ GE150.out | refine below_set ?_ GE151.out) | exact HB.out)) hb); clear BK150; clear BK151; clear HB; have BK150 := n0_; have BK151 := n1_; have HB := n2_; clear n0_ n1_ n2_; (try clear hb); (try clear hb2); (try clear hk); (try clear hi)) | ((with_reducible refine gate_dst (N := 19) rfl ?_); refine box_event ?hg (N := 19) ?hd (cs := #[.int .i64 0, .int .i64 0, .int .i64 0]) (t := 23) ?hr ?_; (case hd => rfl); (case hg => rfl); (case hr => first | (go_simp; done) | (go_simp; rfl)); intro gb160 hg w24 hbox hb; have n0_ := Aside0.mk (blk_below (g := gb150) (o := .cells #[.int .i64 t144, .int .i64 t145, .int .i64 t146] 23 (0, 0)) (by (with_reducible repeat (first | refine blk_drewN ?_ _ | refine blk_drew ?_ | refine blk_alloc ?_ _)); exact BK150.out) hb); have n1_ := Aside0.mk (blk_below (g := gb151) (o := .cells #[.int .i64 t147, .int .i64 t148, .int .i64 t149] 23 (0, 0)) (by (with_reducible repeat (first | refine blk_drewN ?_ _ | refine blk_drew ?_ | refine blk_alloc ?_ _)); exact BK151.out) hb); have n2_ := Aside0.mk (below_step (by repeat (first | (with_reducible first | exact HB.out | apply below_alloc | apply pw_below_drewN | apply below_drew1 | refine below_set ?_ GE150.out | refine below_set ?_ GE151.out) | exact HB.out)) hb); have n3_ := Aside0.mk (hbox); have n4_ := Aside0.mk ((by rw [hg]; exact (below_size (by repeat (first | (with_reducible first | exact HB.out | apply below_alloc | apply pw_below_drewN | apply below_drew1 | refine below_set ?_ GE150.out | refine below_set ?_ GE151.out) | exact HB.out))) : w.heap.size ≤ gb160)); have n5_ := Aside0.mk ((by rw [hg]; exact (below_size (by repeat (first | (with_reducible first | exact HB.out | apply below_alloc | apply pw_below_drewN | apply below_drew1 | refine below_set ?_ GE150.out | refine below_set ?_ GE151.out) | exact HB.out))) : w.heap.size ≤ gb160)); have n6_ := Aside0.mk ((by rw [hg]; exact Nat.ne_of_lt (blk_lt (g := gb150) (o := .cells #[.int .i64 t144, .int .i64 t145, .int .i64 t146] 23 (0, 0)) (by (with_reducible repeat (first | refine blk_drewN ?_ _ | refine blk_drew ?_ | refine blk_alloc ?_ _)); exact BK150.out)) : gb150 ≠ gb160)); have n7_ := Aside0.mk ((by rw [hg]; exact Nat.ne_of_gt (blk_lt (g := gb150) (o := .cells #[.int .i64 t144, .int .i64 t145, .int .i64 t146] 23 (0, 0)) (by (with_reducible repeat (first | refine blk_drewN ?_ _ | refine blk_drew ?_ | refine blk_alloc ?_ _)); exact BK150.out)) : gb160 ≠ gb150)); have n8_ := Aside0.mk ((by rw [hg]; exact Nat.ne_of_lt (blk_lt (g := gb151) (o := .cells #[.int .i64 t147, .int .i64 t148, .int .i64 t149] 23 (0, 0)) (by (with_reducible repeat (first | refine blk_drewN ?_ _ | refine blk_drew ?_ | refine blk_alloc ?_ _)); exact BK151.out)) : gb151 ≠ gb160)); have n9_ := Aside0.mk ((by rw [hg]; exact Nat.ne_of_gt (blk_lt (g := gb151) (o := .cells #[.int .i64 t147, .int .i64 t148, .int .i64 t149] 23 (0, 0)) (by (with_reducible repeat (first | refine blk_drewN ?_ _ | refine blk_drew ?_ | refine blk_alloc ?_ _)); exact BK151.out)) : gb160 ≠ gb151)); clear BK150; clear BK151; clear HB; have BK150 := n0_; have BK151 := n1_; have HB := n2_; have BK160 := n3_; have GW160 := n4_; have GE160 := n5_; have NB150_160 := n6_; have NB160_150 := n7_; have NB151_160 := n8_; have NB160_151 := n9_; clear n0_ n1_ n2_ n3_ n4_ n5_ n6_ n7_ n8_ n9_; clear hb hbox hg; have hnb25 := NB160_150.out; have hnc25 := NB150_160.out; have hnb26 := NB160_151.out; have hnc26 := NB151_160.out; have hcz27_0 : w24.cell? ⟨gb160, 0, none⟩ = some (.int .i64 0) := (blk_cell BK160.out 0).trans rfl; have hcz27_1 : w24.cell? ⟨gb160, 1, none⟩ = some (.int .i64 0) := (blk_cell BK160.out 1).trans rfl; have hcz27_2 : w24.cell? ⟨gb160, 2, none⟩ = some (.int .i64 0) := (blk_cell BK160.out 2).trans rfl; have hfz27_0 := blk_frozen BK160.out 0; have hfz27_1 := blk_frozen BK160.out 1; have hfz27_2 := blk_frozen BK160.out 2))
  (try simp only [Act.put, List.setIfInBounds_toArray, List.set_cons_zero, List.set_cons_succ])
  go_cut [62] (fun v62 wc => ∃ (kq : Nat) (x62_11 : Bool), v62 = .bool x62_11 ∧ Aside0 (solsticelaw02_CivilBack.j0 kq t152 t154 x62_11 t144 t145 t146 t147 t148 t149 = some r) ∧ Aside0 (kq ≤ k) ∧ Aside0 (wc.heap[gb150]? = some (.cells #[.int .i64 t144, .int .i64 t145, .int .i64 t146] 23 (0, 0))) ∧ Aside0 (wc.heap[gb151]? = some (.cells #[.int .i64 t147, .int .i64 t148, .int .i64 t149] 23 (0, 0))) ∧ Aside0 (wc.heap[gb160]? = some (.cells #[.int .i64 t156, .int .i64 t157, .int .i64 t158] 23 (0, 0))) ∧ Aside0 (Below w.heap.size w wc))
  case first =>
    have H := HC12.out
    clear HC12
    by_cases c28 : t153 = 0
    · rw [if_pos c28] at H
      have c28b0 : (t153 == 0) = true := beq_iff_eq.mpr c28
      have c28b1 : (t153 != 0) = false := bne_eq_false_iff_eq.mpr c28
      clear c28
      (first | rw [c28b0] | (simp only [i64_w, i32_w]; rw [c28b0]) | skip)
      by_cases c29 : t155 = 0
      · rw [if_pos c29] at H
        have c29b0 : (t155 == 0) = true := beq_iff_eq.mpr c29
        have c29b1 : (t155 != 0) = false := bne_eq_false_iff_eq.mpr c29
        clear c29
        by_cases c30 : t159 = 0
        · rw [if_pos c30] at H
          have c30b0 : (t159 == 0) = true := beq_iff_eq.mpr c30
          have c30b1 : (t159 != 0) = false := bne_eq_false_iff_eq.mpr c30
          clear c30
          have H' := Aside0.mk H
          clear H
          have hnb31 := NB160_150.out
          have hnc31 := NB150_160.out
          have hnb32 := NB160_151.out
          have hnc32 := NB151_160.out
          have hcz33_0 : w24.cell? ⟨gb160, 0, none⟩ = some (.int .i64 0) := (blk_cell BK160.out 0).trans rfl
          have hcz33_1 : w24.cell? ⟨gb160, 1, none⟩ = some (.int .i64 0) := (blk_cell BK160.out 1).trans rfl
          have hcz33_2 : w24.cell? ⟨gb160, 2, none⟩ = some (.int .i64 0) := (blk_cell BK160.out 2).trans rfl
          have hfz33_0 := blk_frozen BK160.out 0
          have hfz33_1 := blk_frozen BK160.out 1
          have hfz33_2 := blk_frozen BK160.out 2
          have hnb34 := NB150_151.out
          have hnc34 := NB151_150.out
          have hcz35_0 : w24.cell? ⟨gb150, 0, none⟩ = some (.int .i64 t144) := (blk_cell BK150.out 0).trans rfl
          have hcz35_1 : w24.cell? ⟨gb150, 1, none⟩ = some (.int .i64 t145) := (blk_cell BK150.out 1).trans rfl
          have hcz35_2 : w24.cell? ⟨gb150, 2, none⟩ = some (.int .i64 t146) := (blk_cell BK150.out 2).trans rfl
          have hfz35_0 := blk_frozen BK150.out 0
          have hfz35_1 := blk_frozen BK150.out 1
          have hfz35_2 := blk_frozen BK150.out 2
          go_wp2
          go_meet
          case rel => exact ⟨_, ((!(t156 == t144) || (!(t157 == t145) || (!(t158 == t146))))), (by first | rfl | (simp; done) | (simp [*]; done)), H', ⟨by first | omega | exact Nat.le_refl _⟩, ⟨by (with_reducible repeat (first | refine blk_drewN ?_ _ | refine blk_drew ?_ | refine blk_alloc ?_ _)); refine blk_far ?_ NB150_160.out _; (with_reducible repeat (first | refine blk_drewN ?_ _ | refine blk_drew ?_ | refine blk_alloc ?_ _)); refine blk_far ?_ NB150_160.out _; (with_reducible repeat (first | refine blk_drewN ?_ _ | refine blk_drew ?_ | refine blk_alloc ?_ _)); refine blk_far ?_ NB150_160.out _; (with_reducible repeat (first | refine blk_drewN ?_ _ | refine blk_drew ?_ | refine blk_alloc ?_ _)); exact BK150.out⟩, ⟨by (with_reducible repeat (first | refine blk_drewN ?_ _ | refine blk_drew ?_ | refine blk_alloc ?_ _)); refine blk_far ?_ NB151_160.out _; (with_reducible repeat (first | refine blk_drewN ?_ _ | refine blk_drew ?_ | refine blk_alloc ?_ _)); refine blk_far ?_ NB151_160.out _; (with_reducible repeat (first | refine blk_drewN ?_ _ | refine blk_drew ?_ | refine blk_alloc ?_ _)); refine blk_far ?_ NB151_160.out _; (with_reducible repeat (first | refine blk_drewN ?_ _ | refine blk_drew ?_ | refine blk_alloc ?_ _)); exact BK151.out⟩, ⟨by (with_reducible repeat (first | refine blk_drewN ?_ _ | refine blk_drew ?_ | refine blk_alloc ?_ _)); refine blk_put (cs := #[.int .i64 t156, .int .i64 t157, .int .i64 0]) ?_ 2 _ rfl; (with_reducible repeat (first | refine blk_drewN ?_ _ | refine blk_drew ?_ | refine blk_alloc ?_ _)); refine blk_put (cs := #[.int .i64 t156, .int .i64 0, .int .i64 0]) ?_ 1 _ rfl; (with_reducible repeat (first | refine blk_drewN ?_ _ | refine blk_drew ?_ | refine blk_alloc ?_ _)); refine blk_put (cs := #[.int .i64 0, .int .i64 0, .int .i64 0]) ?_ 0 _ rfl; (with_reducible repeat (first | refine blk_drewN ?_ _ | refine blk_drew ?_ | refine blk_alloc ?_ _)); exact BK160.out⟩, ⟨by repeat (first | (with_reducible first | exact HB.out | apply below_alloc | apply pw_below_drewN | apply below_drew1 | refine below_set ?_ GE150.out | refine below_set ?_ GE151.out | refine below_set ?_ GE160.out) | exact HB.out)⟩⟩
        · rw [if_neg c30] at H
          have c30b0 : (t159 == 0) = false := beq_eq_false_iff_ne.mpr c30
          have c30b1 : (t159 != 0) = true := bne_iff_ne.mpr c30
          have H' := Aside0.mk H
          clear H
          go_wp2
          go_meet
          case rel => exact ⟨_, (true), (by first | rfl | (simp; done) | (simp [*]; done)), H', ⟨by first | omega | exact Nat.le_refl _⟩, ⟨by (with_reducible repeat (first | refine blk_drewN ?_ _ | refine blk_drew ?_ | refine blk_alloc ?_ _)); refine blk_far ?_ NB150_160.out _; (with_reducible repeat (first | refine blk_drewN ?_ _ | refine blk_drew ?_ | refine blk_alloc ?_ _)); refine blk_far ?_ NB150_160.out _; (with_reducible repeat (first | refine blk_drewN ?_ _ | refine blk_drew ?_ | refine blk_alloc ?_ _)); refine blk_far ?_ NB150_160.out _; (with_reducible repeat (first | refine blk_drewN ?_ _ | refine blk_drew ?_ | refine blk_alloc ?_ _)); exact BK150.out⟩, ⟨by (with_reducible repeat (first | refine blk_drewN ?_ _ | refine blk_drew ?_ | refine blk_alloc ?_ _)); refine blk_far ?_ NB151_160.out _; (with_reducible repeat (first | refine blk_drewN ?_ _ | refine blk_drew ?_ | refine blk_alloc ?_ _)); refine blk_far ?_ NB151_160.out _; (with_reducible repeat (first | refine blk_drewN ?_ _ | refine blk_drew ?_ | refine blk_alloc ?_ _)); refine blk_far ?_ NB151_160.out _; (with_reducible repeat (first | refine blk_drewN ?_ _ | refine blk_drew ?_ | refine blk_alloc ?_ _)); exact BK151.out⟩, ⟨by (with_reducible repeat (first | refine blk_drewN ?_ _ | refine blk_drew ?_ | refine blk_alloc ?_ _)); refine blk_put (cs := #[.int .i64 t156, .int .i64 t157, .int .i64 0]) ?_ 2 _ rfl; (with_reducible repeat (first | refine blk_drewN ?_ _ | refine blk_drew ?_ | refine blk_alloc ?_ _)); refine blk_put (cs := #[.int .i64 t156, .int .i64 0, .int .i64 0]) ?_ 1 _ rfl; (with_reducible repeat (first | refine blk_drewN ?_ _ | refine blk_drew ?_ | refine blk_alloc ?_ _)); refine blk_put (cs := #[.int .i64 0, .int .i64 0, .int .i64 0]) ?_ 0 _ rfl; (with_reducible repeat (first | refine blk_drewN ?_ _ | refine blk_drew ?_ | refine blk_alloc ?_ _)); exact BK160.out⟩, ⟨by repeat (first | (with_reducible first | exact HB.out | apply below_alloc | apply pw_below_drewN | apply below_drew1 | refine below_set ?_ GE150.out | refine below_set ?_ GE151.out | refine below_set ?_ GE160.out) | exact HB.out)⟩⟩
      · rw [if_neg c29] at H
        have c29b0 : (t155 == 0) = false := beq_eq_false_iff_ne.mpr c29
        have c29b1 : (t155 != 0) = true := bne_iff_ne.mpr c29
        have H' := Aside0.mk H
        clear H
        go_wp2
        go_meet
        case rel => exact ⟨_, (true), (by first | rfl | (simp; done) | (simp [*]; done)), H', ⟨by first | omega | exact Nat.le_refl _⟩, ⟨by (with_reducible repeat (first | refine blk_drewN ?_ _ | refine blk_drew ?_ | refine blk_alloc ?_ _)); refine blk_far ?_ NB150_160.out _; (with_reducible repeat (first | refine blk_drewN ?_ _ | refine blk_drew ?_ | refine blk_alloc ?_ _)); refine blk_far ?_ NB150_160.out _; (with_reducible repeat (first | refine blk_drewN ?_ _ | refine blk_drew ?_ | refine blk_alloc ?_ _)); refine blk_far ?_ NB150_160.out _; (with_reducible repeat (first | refine blk_drewN ?_ _ | refine blk_drew ?_ | refine blk_alloc ?_ _)); exact BK150.out⟩, ⟨by (with_reducible repeat (first | refine blk_drewN ?_ _ | refine blk_drew ?_ | refine blk_alloc ?_ _)); refine blk_far ?_ NB151_160.out _; (with_reducible repeat (first | refine blk_drewN ?_ _ | refine blk_drew ?_ | refine blk_alloc ?_ _)); refine blk_far ?_ NB151_160.out _; (with_reducible repeat (first | refine blk_drewN ?_ _ | refine blk_drew ?_ | refine blk_alloc ?_ _)); refine blk_far ?_ NB151_160.out _; (with_reducible repeat (first | refine blk_drewN ?_ _ | refine blk_drew ?_ | refine blk_alloc ?_ _)); exact BK151.out⟩, ⟨by (with_reducible repeat (first | refine blk_drewN ?_ _ | refine blk_drew ?_ | refine blk_alloc ?_ _)); refine blk_put (cs := #[.int .i64 t156, .int .i64 t157, .int .i64 0]) ?_ 2 _ rfl; (with_reducible repeat (first | refine blk_drewN ?_ _ | refine blk_drew ?_ | refine blk_alloc ?_ _)); refine blk_put (cs := #[.int .i64 t156, .int .i64 0, .int .i64 0]) ?_ 1 _ rfl; (with_reducible repeat (first | refine blk_drewN ?_ _ | refine blk_drew ?_ | refine blk_alloc ?_ _)); refine blk_put (cs := #[.int .i64 0, .int .i64 0, .int .i64 0]) ?_ 0 _ rfl; (with_reducible repeat (first | refine blk_drewN ?_ _ | refine blk_drew ?_ | refine blk_alloc ?_ _)); exact BK160.out⟩, ⟨by repeat (first | (with_reducible first | exact HB.out | apply below_alloc | apply pw_below_drewN | apply below_drew1 | refine below_set ?_ GE150.out | refine below_set ?_ GE151.out | refine below_set ?_ GE160.out) | exact HB.out)⟩⟩
    · rw [if_neg c28] at H
      have c28b0 : (t153 == 0) = false := beq_eq_false_iff_ne.mpr c28
      have c28b1 : (t153 != 0) = true := bne_iff_ne.mpr c28
      (first | rw [c28b0] | (simp only [i64_w, i32_w]; rw [c28b0]) | skip)
      have H' := Aside0.mk H
      clear H
      go_wp2
      go_meet
      case rel => exact ⟨_, (true), (by first | rfl | (simp; done) | (simp [*]; done)), H', ⟨by first | omega | exact Nat.le_refl _⟩, ⟨by (with_reducible repeat (first | refine blk_drewN ?_ _ | refine blk_drew ?_ | refine blk_alloc ?_ _)); refine blk_far ?_ NB150_160.out _; (with_reducible repeat (first | refine blk_drewN ?_ _ | refine blk_drew ?_ | refine blk_alloc ?_ _)); refine blk_far ?_ NB150_160.out _; (with_reducible repeat (first | refine blk_drewN ?_ _ | refine blk_drew ?_ | refine blk_alloc ?_ _)); refine blk_far ?_ NB150_160.out _; (with_reducible repeat (first | refine blk_drewN ?_ _ | refine blk_drew ?_ | refine blk_alloc ?_ _)); exact BK150.out⟩, ⟨by (with_reducible repeat (first | refine blk_drewN ?_ _ | refine blk_drew ?_ | refine blk_alloc ?_ _)); refine blk_far ?_ NB151_160.out _; (with_reducible repeat (first | refine blk_drewN ?_ _ | refine blk_drew ?_ | refine blk_alloc ?_ _)); refine blk_far ?_ NB151_160.out _; (with_reducible repeat (first | refine blk_drewN ?_ _ | refine blk_drew ?_ | refine blk_alloc ?_ _)); refine blk_far ?_ NB151_160.out _; (with_reducible repeat (first | refine blk_drewN ?_ _ | refine blk_drew ?_ | refine blk_alloc ?_ _)); exact BK151.out⟩, ⟨by (with_reducible repeat (first | refine blk_drewN ?_ _ | refine blk_drew ?_ | refine blk_alloc ?_ _)); refine blk_put (cs := #[.int .i64 t156, .int .i64 t157, .int .i64 0]) ?_ 2 _ rfl; (with_reducible repeat (first | refine blk_drewN ?_ _ | refine blk_drew ?_ | refine blk_alloc ?_ _)); refine blk_put (cs := #[.int .i64 t156, .int .i64 0, .int .i64 0]) ?_ 1 _ rfl; (with_reducible repeat (first | refine blk_drewN ?_ _ | refine blk_drew ?_ | refine blk_alloc ?_ _)); refine blk_put (cs := #[.int .i64 0, .int .i64 0, .int .i64 0]) ?_ 0 _ rfl; (with_reducible repeat (first | refine blk_drewN ?_ _ | refine blk_drew ?_ | refine blk_alloc ?_ _)); exact BK160.out⟩, ⟨by repeat (first | (with_reducible first | exact HB.out | apply below_alloc | apply pw_below_drewN | apply below_drew1 | refine below_set ?_ GE150.out | refine below_set ?_ GE151.out | refine below_set ?_ GE160.out) | exact HB.out)⟩⟩
  case rest =>
    clear HC12
    try clear c1
    try clear c2
    try clear p2
    try clear c3
    try clear c9
    try clear c10
    try clear c11
    try clear c17
    try clear c25
    try clear c26
    try clear c28
    try clear c28b0
    try clear c28b1
    try clear c29
    try clear c29b0
    try clear c29b1
    try clear c30
    try clear c30b0
    try clear c30b1
    try clear c31
    try clear c32
    try clear c34
    try clear hcz18_0
    try clear hcz18_1
    try clear hcz18_2
    try clear hcz19_0
    try clear hcz19_1
    try clear hcz19_2
    try clear hcz21_0
    try clear hcz21_1
    try clear hcz21_2
    try clear hcz27_0
    try clear hcz27_1
    try clear hcz27_2
    try clear hcz33_0
    try clear hcz33_1
    try clear hcz33_2
    try clear hcz35_0
    try clear hcz35_1
    try clear hcz35_2
    try clear hfz18_0
    try clear hfz18_1
    try clear hfz18_2
    try clear hfz19_0
    try clear hfz19_1
    try clear hfz19_2
    try clear hfz21_0
    try clear hfz21_1
    try clear hfz21_2
    try clear hfz27_0
    try clear hfz27_1
    try clear hfz27_2
    try clear hfz33_0
    try clear hfz33_1
    try clear hfz33_2
    try clear hfz35_0
    try clear hfz35_1
    try clear hfz35_2
    obtain ⟨kq, x62_11, rfl, HA, HJ11, BK150, BK151, BK160, HB⟩ := hcut
    cases kq with
    | zero => exact absurd HA.out (by simp [solsticelaw02_CivilBack.j0])
    | succ kj11 =>
      have H := HA.out
      clear HA
      simp only [solsticelaw02_CivilBack.j0] at H
      by_cases c36 : x62_11 = true
      · subst c36
        have H1 : (some false) = some r := by rw [if_pos rfl] at H; exact H
        clear H
        have H := H1
        clear H1
        obtain rfl := Option.some.inj H
        go_wp2
        go_ret
        exact ⟨by first | rfl | (simp [errW_none, errW_some] <;> rfl) | (simp [*, errW_none, errW_some] <;> rfl), by repeat (first | (with_reducible first | exact HB.out | apply below_alloc | apply pw_below_drewN | apply below_drew1 | refine below_set ?_ GE150.out | refine below_set ?_ GE151.out | refine below_set ?_ GE160.out) | exact HB.out)⟩
      · replace c36 := Bool.eq_false_iff.mpr c36
        subst c36
        have H1 : (if t144 > t147 then (solsticelaw02_CivilBack.j1 kj11 t152 t154 true t144 t145 t146 t147 t148 t149) else (if t144 = t147 then (if t145 > t148 then (solsticelaw02_CivilBack.j1 kj11 t152 t154 true t144 t145 t146 t147 t148 t149) else (if t145 = t148 then (solsticelaw02_CivilBack.j1 kj11 t152 t154 (decide (t146 > t149)) t144 t145 t146 t147 t148 t149) else (solsticelaw02_CivilBack.j1 kj11 t152 t154 false t144 t145 t146 t147 t148 t149))) else (solsticelaw02_CivilBack.j1 kj11 t152 t154 false t144 t145 t146 t147 t148 t149))) = some r := by rw [if_neg (show ¬ (false = true) by decide)] at H; exact H
        clear H
        have H := H1
        clear H1
        have HC37 := Aside0.mk H
        clear H
        go_upto_region 7 with (fail)
        go_cut [21] (fun v21 wc => ∃ (kq : Nat) (x21_36 : Bool), v21 = .bool x21_36 ∧ Aside0 (solsticelaw02_CivilBack.j1 kq t152 t154 x21_36 t144 t145 t146 t147 t148 t149 = some r) ∧ Aside0 (kq ≤ kj11) ∧ Aside0 (wc.heap[gb150]? = some (.cells #[.int .i64 t144, .int .i64 t145, .int .i64 t146] 23 (0, 0))) ∧ Aside0 (wc.heap[gb151]? = some (.cells #[.int .i64 t147, .int .i64 t148, .int .i64 t149] 23 (0, 0))) ∧ Aside0 (wc.heap[gb160]? = some (.cells #[.int .i64 t156, .int .i64 t157, .int .i64 t158] 23 (0, 0))) ∧ Aside0 (Below w.heap.size w wc))
        case first =>
          have H := HC37.out
          clear HC37
          by_cases c38 : t144 > t147
          · rw [if_pos c38] at H
            have c38b0 : decide (t147 < t144) = true := decide_eq_true c38
            clear c38
            (first | rw [c38b0] | (simp only [i64_w, i32_w]; rw [c38b0]) | skip)
            have H' := Aside0.mk H
            clear H
            have hnb39 := NB150_151.out
            have hnc39 := NB151_150.out
            have hnb40 := NB150_160.out
            have hnc40 := NB160_150.out
            have hcz41_0 : wc.cell? ⟨gb150, 0, none⟩ = some (.int .i64 t144) := (blk_cell BK150.out 0).trans rfl
            have hcz41_1 : wc.cell? ⟨gb150, 1, none⟩ = some (.int .i64 t145) := (blk_cell BK150.out 1).trans rfl
            have hcz41_2 : wc.cell? ⟨gb150, 2, none⟩ = some (.int .i64 t146) := (blk_cell BK150.out 2).trans rfl
            have hfz41_0 := blk_frozen BK150.out 0
            have hfz41_1 := blk_frozen BK150.out 1
            have hfz41_2 := blk_frozen BK150.out 2
            have hnb42 := NB151_160.out
            have hnc42 := NB160_151.out
            have hcz43_0 : wc.cell? ⟨gb151, 0, none⟩ = some (.int .i64 t147) := (blk_cell BK151.out 0).trans rfl
            have hcz43_1 : wc.cell? ⟨gb151, 1, none⟩ = some (.int .i64 t148) := (blk_cell BK151.out 1).trans rfl
            have hcz43_2 : wc.cell? ⟨gb151, 2, none⟩ = some (.int .i64 t149) := (blk_cell BK151.out 2).trans rfl
            have hfz43_0 := blk_frozen BK151.out 0
            have hfz43_1 := blk_frozen BK151.out 1
            have hfz43_2 := blk_frozen BK151.out 2
            go_wp2
            go_meet
            case rel => exact ⟨_, (true), (by first | rfl | (simp; done) | (simp [*]; done)), H', ⟨by have := HJ11.out; first | omega | exact Nat.le_refl _⟩, ⟨by (with_reducible repeat (first | refine blk_drewN ?_ _ | refine blk_drew ?_ | refine blk_alloc ?_ _)); exact BK150.out⟩, ⟨by (with_reducible repeat (first | refine blk_drewN ?_ _ | refine blk_drew ?_ | refine blk_alloc ?_ _)); exact BK151.out⟩, ⟨by (with_reducible repeat (first | refine blk_drewN ?_ _ | refine blk_drew ?_ | refine blk_alloc ?_ _)); exact BK160.out⟩, ⟨by repeat (first | (with_reducible first | exact HB.out | apply below_alloc | apply pw_below_drewN | apply below_drew1 | refine below_set ?_ GE150.out | refine below_set ?_ GE151.out | refine below_set ?_ GE160.out) | exact HB.out)⟩⟩
          · rw [if_neg c38] at H
            have c38b0 : decide (t147 < t144) = false := decide_eq_false c38
            clear c38
            (first | rw [c38b0] | (simp only [i64_w, i32_w]; rw [c38b0]) | skip)
            by_cases c44 : t144 = t147
            · rw [if_pos c44] at H
              have c44b0 : (t144 == t147) = true := beq_iff_eq.mpr c44
              have c44b1 : (t144 != t147) = false := bne_eq_false_iff_eq.mpr c44
              clear c44
              by_cases c45 : t145 > t148
              · rw [if_pos c45] at H
                have c45b0 : decide (t148 < t145) = true := decide_eq_true c45
                clear c45
                have H' := Aside0.mk H
                clear H
                have hnb46 := NB150_151.out
                have hnc46 := NB151_150.out
                have hnb47 := NB150_160.out
                have hnc47 := NB160_150.out
                have hcz48_0 : wc.cell? ⟨gb150, 0, none⟩ = some (.int .i64 t144) := (blk_cell BK150.out 0).trans rfl
                have hcz48_1 : wc.cell? ⟨gb150, 1, none⟩ = some (.int .i64 t145) := (blk_cell BK150.out 1).trans rfl
                have hcz48_2 : wc.cell? ⟨gb150, 2, none⟩ = some (.int .i64 t146) := (blk_cell BK150.out 2).trans rfl
                have hfz48_0 := blk_frozen BK150.out 0
                have hfz48_1 := blk_frozen BK150.out 1
                have hfz48_2 := blk_frozen BK150.out 2
                have hnb49 := NB151_160.out
                have hnc49 := NB160_151.out
                have hcz50_0 : wc.cell? ⟨gb151, 0, none⟩ = some (.int .i64 t147) := (blk_cell BK151.out 0).trans rfl
                have hcz50_1 : wc.cell? ⟨gb151, 1, none⟩ = some (.int .i64 t148) := (blk_cell BK151.out 1).trans rfl
                have hcz50_2 : wc.cell? ⟨gb151, 2, none⟩ = some (.int .i64 t149) := (blk_cell BK151.out 2).trans rfl
                have hfz50_0 := blk_frozen BK151.out 0
                have hfz50_1 := blk_frozen BK151.out 1
                have hfz50_2 := blk_frozen BK151.out 2
                go_wp2
                go_meet
                case rel => exact ⟨_, (true), (by first | rfl | (simp; done) | (simp [*]; done)), H', ⟨by have := HJ11.out; first | omega | exact Nat.le_refl _⟩, ⟨by (with_reducible repeat (first | refine blk_drewN ?_ _ | refine blk_drew ?_ | refine blk_alloc ?_ _)); exact BK150.out⟩, ⟨by (with_reducible repeat (first | refine blk_drewN ?_ _ | refine blk_drew ?_ | refine blk_alloc ?_ _)); exact BK151.out⟩, ⟨by (with_reducible repeat (first | refine blk_drewN ?_ _ | refine blk_drew ?_ | refine blk_alloc ?_ _)); exact BK160.out⟩, ⟨by repeat (first | (with_reducible first | exact HB.out | apply below_alloc | apply pw_below_drewN | apply below_drew1 | refine below_set ?_ GE150.out | refine below_set ?_ GE151.out | refine below_set ?_ GE160.out) | exact HB.out)⟩⟩
              · rw [if_neg c45] at H
                have c45b0 : decide (t148 < t145) = false := decide_eq_false c45
                clear c45
                by_cases c51 : t145 = t148
                · rw [if_pos c51] at H
                  have c51b0 : (t145 == t148) = true := beq_iff_eq.mpr c51
                  have c51b1 : (t145 != t148) = false := bne_eq_false_iff_eq.mpr c51
                  clear c51
                  have H' := Aside0.mk H
                  clear H
                  have hnb52 := NB150_151.out
                  have hnc52 := NB151_150.out
                  have hnb53 := NB150_160.out
                  have hnc53 := NB160_150.out
                  have hcz54_0 : wc.cell? ⟨gb150, 0, none⟩ = some (.int .i64 t144) := (blk_cell BK150.out 0).trans rfl
                  have hcz54_1 : wc.cell? ⟨gb150, 1, none⟩ = some (.int .i64 t145) := (blk_cell BK150.out 1).trans rfl
                  have hcz54_2 : wc.cell? ⟨gb150, 2, none⟩ = some (.int .i64 t146) := (blk_cell BK150.out 2).trans rfl
                  have hfz54_0 := blk_frozen BK150.out 0
                  have hfz54_1 := blk_frozen BK150.out 1
                  have hfz54_2 := blk_frozen BK150.out 2
                  have hnb55 := NB151_160.out
                  have hnc55 := NB160_151.out
                  have hcz56_0 : wc.cell? ⟨gb151, 0, none⟩ = some (.int .i64 t147) := (blk_cell BK151.out 0).trans rfl
                  have hcz56_1 : wc.cell? ⟨gb151, 1, none⟩ = some (.int .i64 t148) := (blk_cell BK151.out 1).trans rfl
                  have hcz56_2 : wc.cell? ⟨gb151, 2, none⟩ = some (.int .i64 t149) := (blk_cell BK151.out 2).trans rfl
                  have hfz56_0 := blk_frozen BK151.out 0
                  have hfz56_1 := blk_frozen BK151.out 1
                  have hfz56_2 := blk_frozen BK151.out 2
                  go_wp2
                  go_meet
                  case rel => exact ⟨_, (decide (t146 > t149)), (by first | rfl | (simp; done) | (simp [*]; done)), H', ⟨by have := HJ11.out; first | omega | exact Nat.le_refl _⟩, ⟨by (with_reducible repeat (first | refine blk_drewN ?_ _ | refine blk_drew ?_ | refine blk_alloc ?_ _)); exact BK150.out⟩, ⟨by (with_reducible repeat (first | refine blk_drewN ?_ _ | refine blk_drew ?_ | refine blk_alloc ?_ _)); exact BK151.out⟩, ⟨by (with_reducible repeat (first | refine blk_drewN ?_ _ | refine blk_drew ?_ | refine blk_alloc ?_ _)); exact BK160.out⟩, ⟨by repeat (first | (with_reducible first | exact HB.out | apply below_alloc | apply pw_below_drewN | apply below_drew1 | refine below_set ?_ GE150.out | refine below_set ?_ GE151.out | refine below_set ?_ GE160.out) | exact HB.out)⟩⟩
                · rw [if_neg c51] at H
                  have c51b0 : (t145 == t148) = false := beq_eq_false_iff_ne.mpr c51
                  have c51b1 : (t145 != t148) = true := bne_iff_ne.mpr c51
                  have H' := Aside0.mk H
                  clear H
                  have hnb57 := NB150_151.out
                  have hnc57 := NB151_150.out
                  have hnb58 := NB150_160.out
                  have hnc58 := NB160_150.out
                  have hcz59_0 : wc.cell? ⟨gb150, 0, none⟩ = some (.int .i64 t144) := (blk_cell BK150.out 0).trans rfl
                  have hcz59_1 : wc.cell? ⟨gb150, 1, none⟩ = some (.int .i64 t145) := (blk_cell BK150.out 1).trans rfl
                  have hcz59_2 : wc.cell? ⟨gb150, 2, none⟩ = some (.int .i64 t146) := (blk_cell BK150.out 2).trans rfl
                  have hfz59_0 := blk_frozen BK150.out 0
                  have hfz59_1 := blk_frozen BK150.out 1
                  have hfz59_2 := blk_frozen BK150.out 2
                  have hnb60 := NB151_160.out
                  have hnc60 := NB160_151.out
                  have hcz61_0 : wc.cell? ⟨gb151, 0, none⟩ = some (.int .i64 t147) := (blk_cell BK151.out 0).trans rfl
                  have hcz61_1 : wc.cell? ⟨gb151, 1, none⟩ = some (.int .i64 t148) := (blk_cell BK151.out 1).trans rfl
                  have hcz61_2 : wc.cell? ⟨gb151, 2, none⟩ = some (.int .i64 t149) := (blk_cell BK151.out 2).trans rfl
                  have hfz61_0 := blk_frozen BK151.out 0
                  have hfz61_1 := blk_frozen BK151.out 1
                  have hfz61_2 := blk_frozen BK151.out 2
                  go_wp2
                  go_meet
                  case rel => exact ⟨_, (false), (by first | rfl | (simp; done) | (simp [*]; done)), H', ⟨by have := HJ11.out; first | omega | exact Nat.le_refl _⟩, ⟨by (with_reducible repeat (first | refine blk_drewN ?_ _ | refine blk_drew ?_ | refine blk_alloc ?_ _)); exact BK150.out⟩, ⟨by (with_reducible repeat (first | refine blk_drewN ?_ _ | refine blk_drew ?_ | refine blk_alloc ?_ _)); exact BK151.out⟩, ⟨by (with_reducible repeat (first | refine blk_drewN ?_ _ | refine blk_drew ?_ | refine blk_alloc ?_ _)); exact BK160.out⟩, ⟨by repeat (first | (with_reducible first | exact HB.out | apply below_alloc | apply pw_below_drewN | apply below_drew1 | refine below_set ?_ GE150.out | refine below_set ?_ GE151.out | refine below_set ?_ GE160.out) | exact HB.out)⟩⟩
            · rw [if_neg c44] at H
              have c44b0 : (t144 == t147) = false := beq_eq_false_iff_ne.mpr c44
              have c44b1 : (t144 != t147) = true := bne_iff_ne.mpr c44
              have H' := Aside0.mk H
              clear H
              have hnb62 := NB150_151.out
              have hnc62 := NB151_150.out
              have hnb63 := NB150_160.out
              have hnc63 := NB160_150.out
              have hcz64_0 : wc.cell? ⟨gb150, 0, none⟩ = some (.int .i64 t144) := (blk_cell BK150.out 0).trans rfl
              have hcz64_1 : wc.cell? ⟨gb150, 1, none⟩ = some (.int .i64 t145) := (blk_cell BK150.out 1).trans rfl
              have hcz64_2 : wc.cell? ⟨gb150, 2, none⟩ = some (.int .i64 t146) := (blk_cell BK150.out 2).trans rfl
              have hfz64_0 := blk_frozen BK150.out 0
              have hfz64_1 := blk_frozen BK150.out 1
              have hfz64_2 := blk_frozen BK150.out 2
              have hnb65 := NB151_160.out
              have hnc65 := NB160_151.out
              have hcz66_0 : wc.cell? ⟨gb151, 0, none⟩ = some (.int .i64 t147) := (blk_cell BK151.out 0).trans rfl
              have hcz66_1 : wc.cell? ⟨gb151, 1, none⟩ = some (.int .i64 t148) := (blk_cell BK151.out 1).trans rfl
              have hcz66_2 : wc.cell? ⟨gb151, 2, none⟩ = some (.int .i64 t149) := (blk_cell BK151.out 2).trans rfl
              have hfz66_0 := blk_frozen BK151.out 0
              have hfz66_1 := blk_frozen BK151.out 1
              have hfz66_2 := blk_frozen BK151.out 2
              go_wp2
              go_meet
              case rel => exact ⟨_, (false), (by first | rfl | (simp; done) | (simp [*]; done)), H', ⟨by have := HJ11.out; first | omega | exact Nat.le_refl _⟩, ⟨by (with_reducible repeat (first | refine blk_drewN ?_ _ | refine blk_drew ?_ | refine blk_alloc ?_ _)); exact BK150.out⟩, ⟨by (with_reducible repeat (first | refine blk_drewN ?_ _ | refine blk_drew ?_ | refine blk_alloc ?_ _)); exact BK151.out⟩, ⟨by (with_reducible repeat (first | refine blk_drewN ?_ _ | refine blk_drew ?_ | refine blk_alloc ?_ _)); exact BK160.out⟩, ⟨by repeat (first | (with_reducible first | exact HB.out | apply below_alloc | apply pw_below_drewN | apply below_drew1 | refine below_set ?_ GE150.out | refine below_set ?_ GE151.out | refine below_set ?_ GE160.out) | exact HB.out)⟩⟩
        case rest =>
          clear HC37
          try clear c1
          try clear c2
          try clear p2
          try clear c3
          try clear c4
          try clear c5
          try clear c6
          try clear c9
          try clear c10
          try clear c11
          try clear c17
          try clear c25
          try clear c26
          try clear c28
          try clear c28b0
          try clear c28b1
          try clear c29
          try clear c29b0
          try clear c29b1
          try clear c30
          try clear c30b0
          try clear c30b1
          try clear c31
          try clear c32
          try clear c34
          try clear c36
          try clear c38
          try clear c38b0
          try clear c39
          try clear c40
          try clear c42
          try clear c44
          try clear c44b0
          try clear c44b1
          try clear c45
          try clear c45b0
          try clear c46
          try clear c47
          try clear c49
          try clear c51
          try clear c51b0
          try clear c51b1
          try clear c52
          try clear c53
          try clear c55
          try clear c57
          try clear c58
          try clear c60
          try clear c62
          try clear c63
          try clear c65
          try clear hcz18_0
          try clear hcz18_1
          try clear hcz18_2
          try clear hcz19_0
          try clear hcz19_1
          try clear hcz19_2
          try clear hcz21_0
          try clear hcz21_1
          try clear hcz21_2
          try clear hcz27_0
          try clear hcz27_1
          try clear hcz27_2
          try clear hcz33_0
          try clear hcz33_1
          try clear hcz33_2
          try clear hcz35_0
          try clear hcz35_1
          try clear hcz35_2
          try clear hcz41_0
          try clear hcz41_1
          try clear hcz41_2
          try clear hcz43_0
          try clear hcz43_1
          try clear hcz43_2
          try clear hcz48_0
          try clear hcz48_1
          try clear hcz48_2
          try clear hcz50_0
          try clear hcz50_1
          try clear hcz50_2
          try clear hcz54_0
          try clear hcz54_1
          try clear hcz54_2
          try clear hcz56_0
          try clear hcz56_1
          try clear hcz56_2
          try clear hcz59_0
          try clear hcz59_1
          try clear hcz59_2
          try clear hcz61_0
          try clear hcz61_1
          try clear hcz61_2
          try clear hcz64_0
          try clear hcz64_1
          try clear hcz64_2
          try clear hcz66_0
          try clear hcz66_1
          try clear hcz66_2
          try clear hfz18_0
          try clear hfz18_1
          try clear hfz18_2
          try clear hfz19_0
          try clear hfz19_1
          try clear hfz19_2
          try clear hfz21_0
          try clear hfz21_1
          try clear hfz21_2
          try clear hfz27_0
          try clear hfz27_1
          try clear hfz27_2
          try clear hfz33_0
          try clear hfz33_1
          try clear hfz33_2
          try clear hfz35_0
          try clear hfz35_1
          try clear hfz35_2
          try clear hfz41_0
          try clear hfz41_1
          try clear hfz41_2
          try clear hfz43_0
          try clear hfz43_1
          try clear hfz43_2
          try clear hfz48_0
          try clear hfz48_1
          try clear hfz48_2
          try clear hfz50_0
          try clear hfz50_1
          try clear hfz50_2
          try clear hfz54_0
          try clear hfz54_1
          try clear hfz54_2
          try clear hfz56_0
          try clear hfz56_1
          try clear hfz56_2
          try clear hfz59_0
          try clear hfz59_1
          try clear hfz59_2
          try clear hfz61_0
          try clear hfz61_1
          try clear hfz61_2
          try clear hfz64_0
          try clear hfz64_1
          try clear hfz64_2
          try clear hfz66_0
          try clear hfz66_1
          try clear hfz66_2
          try clear p2
          obtain ⟨kq, x21_36, rfl, HA, HJ36, BK150, BK151, BK160, HB⟩ := hcut
          cases kq with
          | zero => exact absurd HA.out (by simp [solsticelaw02_CivilBack.j1])
          | succ kj36 =>
            have H := HA.out
            clear HA
            simp only [solsticelaw02_CivilBack.j1] at H
            have HC67 := Aside0.mk H
            clear H
            go_upto_region 8 with (fail)
            go_cut [109] (fun v109 wc => ∃ (kq : Nat) (x109_66 : Bool), v109 = .bool x109_66 ∧ Aside0 (solsticelaw02_CivilBack.j2 kq t152 x109_66 t144 t145 t146 = some r) ∧ Aside0 (kq ≤ kj36) ∧ Aside0 (wc.heap[gb150]? = some (.cells #[.int .i64 t144, .int .i64 t145, .int .i64 t146] 23 (0, 0))) ∧ Aside0 (wc.heap[gb151]? = some (.cells #[.int .i64 t147, .int .i64 t148, .int .i64 t149] 23 (0, 0))) ∧ Aside0 (wc.heap[gb160]? = some (.cells #[.int .i64 t156, .int .i64 t157, .int .i64 t158] 23 (0, 0))) ∧ Aside0 (Below w.heap.size w wc))
            case first =>
              have H := HC67.out
              clear HC67
              by_cases c68 : ((decide (t152 > t154)) != x21_36) = true
              · rw [if_pos c68] at H
                have c68b0 : ((decide (t152 > t154)) != x21_36) = true := c68
                (try (have c68b1 : decide ((decide (t152 > t154)) = x21_36) = false := by simpa using c68))
                (try (have c68b2 : ((decide (t152 > t154)) == x21_36) = false := by simpa using c68))
                (try (have c68b3 : ¬ ((decide (t152 > t154)) = x21_36) := by simpa using c68))
                clear c68
                (first | rw [c68b0] | (simp only [i64_w, i32_w]; rw [c68b0]) | skip)
                have H' := Aside0.mk H
                clear H
                go_wp2
                go_meet
                case rel => exact ⟨_, (true), (by first | rfl | (simp; done) | (simp [*]; done)), H', ⟨by have := HJ11.out; have := HJ36.out; first | omega | exact Nat.le_refl _⟩, ⟨by (with_reducible repeat (first | refine blk_drewN ?_ _ | refine blk_drew ?_ | refine blk_alloc ?_ _)); exact BK150.out⟩, ⟨by (with_reducible repeat (first | refine blk_drewN ?_ _ | refine blk_drew ?_ | refine blk_alloc ?_ _)); exact BK151.out⟩, ⟨by (with_reducible repeat (first | refine blk_drewN ?_ _ | refine blk_drew ?_ | refine blk_alloc ?_ _)); exact BK160.out⟩, ⟨by repeat (first | (with_reducible first | exact HB.out | apply below_alloc | apply pw_below_drewN | apply below_drew1 | refine below_set ?_ GE150.out | refine below_set ?_ GE151.out | refine below_set ?_ GE160.out) | exact HB.out)⟩⟩
              · rw [if_neg c68] at H
                have c68b0 : ((decide (t152 > t154)) != x21_36) = false := by simpa using c68
                (try (have c68b1 : decide ((decide (t152 > t154)) = x21_36) = true := by simpa using c68))
                (try (have c68b2 : ((decide (t152 > t154)) == x21_36) = true := by simpa using c68))
                clear c68
                (first | rw [c68b0] | (simp only [i64_w, i32_w]; rw [c68b0]) | skip)
                have H' := Aside0.mk H
                clear H
                have hnb69 := NB150_151.out
                have hnc69 := NB151_150.out
                have hnb70 := NB150_160.out
                have hnc70 := NB160_150.out
                have hcz71_0 : wc.cell? ⟨gb150, 0, none⟩ = some (.int .i64 t144) := (blk_cell BK150.out 0).trans rfl
                have hcz71_1 : wc.cell? ⟨gb150, 1, none⟩ = some (.int .i64 t145) := (blk_cell BK150.out 1).trans rfl
                have hcz71_2 : wc.cell? ⟨gb150, 2, none⟩ = some (.int .i64 t146) := (blk_cell BK150.out 2).trans rfl
                have hfz71_0 := blk_frozen BK150.out 0
                have hfz71_1 := blk_frozen BK150.out 1
                have hfz71_2 := blk_frozen BK150.out 2
                have hnb72 := NB151_160.out
                have hnc72 := NB160_151.out
                have hcz73_0 : wc.cell? ⟨gb151, 0, none⟩ = some (.int .i64 t147) := (blk_cell BK151.out 0).trans rfl
                have hcz73_1 : wc.cell? ⟨gb151, 1, none⟩ = some (.int .i64 t148) := (blk_cell BK151.out 1).trans rfl
                have hcz73_2 : wc.cell? ⟨gb151, 2, none⟩ = some (.int .i64 t149) := (blk_cell BK151.out 2).trans rfl
                have hfz73_0 := blk_frozen BK151.out 0
                have hfz73_1 := blk_frozen BK151.out 1
                have hfz73_2 := blk_frozen BK151.out 2
                go_wp2
                go_meet
                case rel => exact ⟨_, (((t152 == t154) != (t144 == t147 && (t145 == t148 && (t146 == t149))))), (by first | rfl | (simp; done) | (simp [*]; done)), H', ⟨by have := HJ11.out; have := HJ36.out; first | omega | exact Nat.le_refl _⟩, ⟨by (with_reducible repeat (first | refine blk_drewN ?_ _ | refine blk_drew ?_ | refine blk_alloc ?_ _)); exact BK150.out⟩, ⟨by (with_reducible repeat (first | refine blk_drewN ?_ _ | refine blk_drew ?_ | refine blk_alloc ?_ _)); exact BK151.out⟩, ⟨by (with_reducible repeat (first | refine blk_drewN ?_ _ | refine blk_drew ?_ | refine blk_alloc ?_ _)); exact BK160.out⟩, ⟨by repeat (first | (with_reducible first | exact HB.out | apply below_alloc | apply pw_below_drewN | apply below_drew1 | refine below_set ?_ GE150.out | refine below_set ?_ GE151.out | refine below_set ?_ GE160.out) | exact HB.out)⟩⟩
            case rest =>
              clear HC67
              try clear c1
              try clear c2
              try clear p2
              try clear c3
              try clear c4
              try clear c5
              try clear c6
              try clear c7
              try clear c9
              try clear c10
              try clear c11
              try clear c17
              try clear c25
              try clear c26
              try clear c28
              try clear c28b0
              try clear c28b1
              try clear c29
              try clear c29b0
              try clear c29b1
              try clear c30
              try clear c30b0
              try clear c30b1
              try clear c31
              try clear c32
              try clear c34
              try clear c36
              try clear c38
              try clear c38b0
              try clear c39
              try clear c40
              try clear c42
              try clear c44
              try clear c44b0
              try clear c44b1
              try clear c45
              try clear c45b0
              try clear c46
              try clear c47
              try clear c49
              try clear c51
              try clear c51b0
              try clear c51b1
              try clear c52
              try clear c53
              try clear c55
              try clear c57
              try clear c58
              try clear c60
              try clear c62
              try clear c63
              try clear c65
              try clear c68
              try clear c68b0
              try clear c68b1
              try clear c68b2
              try clear c69
              try clear c70
              try clear c72
              try clear hcz18_0
              try clear hcz18_1
              try clear hcz18_2
              try clear hcz19_0
              try clear hcz19_1
              try clear hcz19_2
              try clear hcz21_0
              try clear hcz21_1
              try clear hcz21_2
              try clear hcz27_0
              try clear hcz27_1
              try clear hcz27_2
              try clear hcz33_0
              try clear hcz33_1
              try clear hcz33_2
              try clear hcz35_0
              try clear hcz35_1
              try clear hcz35_2
              try clear hcz41_0
              try clear hcz41_1
              try clear hcz41_2
              try clear hcz43_0
              try clear hcz43_1
              try clear hcz43_2
              try clear hcz48_0
              try clear hcz48_1
              try clear hcz48_2
              try clear hcz50_0
              try clear hcz50_1
              try clear hcz50_2
              try clear hcz54_0
              try clear hcz54_1
              try clear hcz54_2
              try clear hcz56_0
              try clear hcz56_1
              try clear hcz56_2
              try clear hcz59_0
              try clear hcz59_1
              try clear hcz59_2
              try clear hcz61_0
              try clear hcz61_1
              try clear hcz61_2
              try clear hcz64_0
              try clear hcz64_1
              try clear hcz64_2
              try clear hcz66_0
              try clear hcz66_1
              try clear hcz66_2
              try clear hcz71_0
              try clear hcz71_1
              try clear hcz71_2
              try clear hcz73_0
              try clear hcz73_1
              try clear hcz73_2
              try clear hfz18_0
              try clear hfz18_1
              try clear hfz18_2
              try clear hfz19_0
              try clear hfz19_1
              try clear hfz19_2
              try clear hfz21_0
              try clear hfz21_1
              try clear hfz21_2
              try clear hfz27_0
              try clear hfz27_1
              try clear hfz27_2
              try clear hfz33_0
              try clear hfz33_1
              try clear hfz33_2
              try clear hfz35_0
              try clear hfz35_1
              try clear hfz35_2
              try clear hfz41_0
              try clear hfz41_1
              try clear hfz41_2
              try clear hfz43_0
              try clear hfz43_1
              try clear hfz43_2
              try clear hfz48_0
              try clear hfz48_1
              try clear hfz48_2
              try clear hfz50_0
              try clear hfz50_1
              try clear hfz50_2
              try clear hfz54_0
              try clear hfz54_1
              try clear hfz54_2
              try clear hfz56_0
              try clear hfz56_1
              try clear hfz56_2
              try clear hfz59_0
              try clear hfz59_1
              try clear hfz59_2
              try clear hfz61_0
              try clear hfz61_1
              try clear hfz61_2
              try clear hfz64_0
              try clear hfz64_1
              try clear hfz64_2
              try clear hfz66_0
              try clear hfz66_1
              try clear hfz66_2
              try clear hfz71_0
              try clear hfz71_1
              try clear hfz71_2
              try clear hfz73_0
              try clear hfz73_1
              try clear hfz73_2
              try clear p2
              obtain ⟨kq, x109_66, rfl, HA, HJ66, BK150, BK151, BK160, HB⟩ := hcut
              cases kq with
              | zero => exact absurd HA.out (by simp [solsticelaw02_CivilBack.j2])
              | succ kj66 =>
                have H := HA.out
                clear HA
                simp only [solsticelaw02_CivilBack.j2] at H
                by_cases c74 : x109_66 = true
                · subst c74
                  have H1 : (some false) = some r := by rw [if_pos rfl] at H; exact H
                  clear H
                  have H := H1
                  clear H1
                  obtain rfl := Option.some.inj H
                  go_wp2
                  go_ret
                  exact ⟨by first | rfl | (simp [errW_none, errW_some] <;> rfl) | (simp [*, errW_none, errW_some] <;> rfl), by repeat (first | (with_reducible first | exact HB.out | apply below_alloc | apply pw_below_drewN | apply below_drew1 | refine below_set ?_ GE150.out | refine below_set ?_ GE151.out | refine below_set ?_ GE160.out) | exact HB.out)⟩
                · replace c74 := Bool.eq_false_iff.mpr c74
                  subst c74
                  have H1 : ((civil_Len.f kj66 t144 t145).bind fun t162 => (if (wrap64 (t146 + 1)) > t162 then (solsticelaw02_CivilBack.j3 kj66 t152 t144 (wrap64 (t145 + 1)) 1) else (solsticelaw02_CivilBack.j3 kj66 t152 t144 t145 (wrap64 (t146 + 1))))) = some r := by rw [if_neg (show ¬ (false = true) by decide)] at H; exact H
                  clear H
                  have H := H1
                  clear H1
                  replace H := Option.bind_eq_some_iff.mp H
                  obtain ⟨t162, A750, H⟩ := H
                  replace H : (if (wrap64 (t146 + 1)) > t162 then (solsticelaw02_CivilBack.j3 kj66 t152 t144 (wrap64 (t145 + 1)) 1) else (solsticelaw02_CivilBack.j3 kj66 t152 t144 t145 (wrap64 (t146 + 1)))) = some r := H
                  have A75 := Aside0.mk A750
                  clear A750
                  have HC76 := Aside0.mk H
                  clear H
                  have hnb77 := NB150_151.out
                  have hnc77 := NB151_150.out
                  have hnb78 := NB150_160.out
                  have hnc78 := NB160_150.out
                  have hcz79_0 : wc.cell? ⟨gb150, 0, none⟩ = some (.int .i64 t144) := (blk_cell BK150.out 0).trans rfl
                  have hcz79_1 : wc.cell? ⟨gb150, 1, none⟩ = some (.int .i64 t145) := (blk_cell BK150.out 1).trans rfl
                  have hcz79_2 : wc.cell? ⟨gb150, 2, none⟩ = some (.int .i64 t146) := (blk_cell BK150.out 2).trans rfl
                  have hfz79_0 := blk_frozen BK150.out 0
                  have hfz79_1 := blk_frozen BK150.out 1
                  have hfz79_2 := blk_frozen BK150.out 2
                  try go_wp2_with (first | ((with_reducible refine gate_dst (N := 22) rfl ?_); refine box_event ?hg (N := 22) ?hd (cs := #[.int .i64 0, .int .i64 0, .int .i64 0]) (t := 23) ?hr ?_; (case hd => rfl); (case hg => rfl); (case hr => first | (go_simp; done) | (go_simp; rfl)); intro gb161 hg w80 hbox hb; have n0_ := Aside0.mk (blk_below (g := gb150) (o := .cells #[.int .i64 t144, .int .i64 t145, .int .i64 t146] 23 (0, 0)) (by (with_reducible repeat (first | refine blk_drewN ?_ _ | refine blk_drew ?_ | refine blk_alloc ?_ _)); exact BK150.out) hb); have n1_ := Aside0.mk (blk_below (g := gb151) (o := .cells #[.int .i64 t147, .int .i64 t148, .int .i64 t149] 23 (0, 0)) (by (with_reducible repeat (first | refine blk_drewN ?_ _ | refine blk_drew ?_ | refine blk_alloc ?_ _)); exact BK151.out) hb); have n2_ := Aside0.mk (blk_below (g := gb160) (o := .cells #[.int .i64 t156, .int .i64 t157, .int .i64 t158] 23 (0, 0)) (by (with_reducible repeat (first | refine blk_drewN ?_ _ | refine blk_drew ?_ | refine blk_alloc ?_ _)); exact BK160.out) hb); have n3_ := Aside0.mk (below_step (by repeat (first | (with_reducible first | exact HB.out | apply below_alloc | apply pw_below_drewN | apply below_drew1 | refine below_set ?_ GE150.out | refine below_set ?_ GE151.out | refine below_set ?_ GE160.out) | exact HB.out)) hb); have n4_ := Aside0.mk (hbox); have n5_ := Aside0.mk ((by rw [hg]; exact (below_size (by repeat (first | (with_reducible first | exact HB.out | apply below_alloc | apply pw_below_drewN | apply below_drew1 | refine below_set ?_ GE150.out | refine below_set ?_ GE151.out | refine below_set ?_ GE160.out) | exact HB.out))) : w.heap.size ≤ gb161)); have n6_ := Aside0.mk ((by rw [hg]; exact (below_size (by repeat (first | (with_reducible first | exact HB.out | apply below_alloc | apply pw_below_drewN | apply below_drew1 | refine below_set ?_ GE150.out | refine below_set ?_ GE151.out | refine below_set ?_ GE160.out) | exact HB.out))) : w.heap.size ≤ gb161)); have n7_ := Aside0.mk ((by rw [hg]; exact Nat.ne_of_lt (blk_lt (g := gb150) (o := .cells #[.int .i64 t144, .int .i64 t145, .int .i64 t146] 23 (0, 0)) (by (with_reducible repeat (first | refine blk_drewN ?_ _ | refine blk_drew ?_ | refine blk_alloc ?_ _)); exact BK150.out)) : gb150 ≠ gb161)); have n8_ := Aside0.mk ((by rw [hg]; exact Nat.ne_of_gt (blk_lt (g := gb150) (o := .cells #[.int .i64 t144, .int .i64 t145, .int .i64 t146] 23 (0, 0)) (by (with_reducible repeat (first | refine blk_drewN ?_ _ | refine blk_drew ?_ | refine blk_alloc ?_ _)); exact BK150.out)) : gb161 ≠ gb150)); have n9_ := Aside0.mk ((by rw [hg]; exact Nat.ne_of_lt (blk_lt (g := gb151) (o := .cells #[.int .i64 t147, .int .i64 t148, .int .i64 t149] 23 (0, 0)) (by (with_reducible repeat (first | refine blk_drewN ?_ _ | refine blk_drew ?_ | refine blk_alloc ?_ _)); exact BK151.out)) : gb151 ≠ gb161)); have n10_ := Aside0.mk ((by rw [hg]; exact Nat.ne_of_gt (blk_lt (g := gb151) (o := .cells #[.int .i64 t147, .int .i64 t148, .int .i64 t149] 23 (0, 0)) (by (with_reducible repeat (first | refine blk_drewN ?_ _ | refine blk_drew ?_ | refine blk_alloc ?_ _)); exact BK151.out)) : gb161 ≠ gb151)); have n11_ := Aside0.mk ((by rw [hg]; exact Nat.ne_of_lt (blk_lt (g := gb160) (o := .cells #[.int .i64 t156, .int .i64 t157, .int .i64 t158] 23 (0, 0)) (by (with_reducible repeat (first | refine blk_drewN ?_ _ | refine blk_drew ?_ | refine blk_alloc ?_ _)); exact BK160.out)) : gb160 ≠ gb161)); have n12_ := Aside0.mk ((by rw [hg]; exact Nat.ne_of_gt (blk_lt (g := gb160) (o := .cells #[.int .i64 t156, .int .i64 t157, .int .i64 t158] 23 (0, 0)) (by (with_reducible repeat (first | refine blk_drewN ?_ _ | refine blk_drew ?_ | refine blk_alloc ?_ _)); exact BK160.out)) : gb161 ≠ gb160)); clear BK150; clear BK151; clear BK160; clear HB; have BK150 := n0_; have BK151 := n1_; have BK160 := n2_; have HB := n3_; have BK161 := n4_; have GW161 := n5_; have GE161 := n6_; have NB150_161 := n7_; have NB161_150 := n8_; have NB151_161 := n9_; have NB161_151 := n10_; have NB160_161 := n11_; have NB161_160 := n12_; clear n0_ n1_ n2_ n3_ n4_ n5_ n6_ n7_ n8_ n9_ n10_ n11_ n12_; clear hb hbox hg; have hnb81 := NB161_150.out; have hnc81 := NB150_161.out; have hnb82 := NB161_151.out; have hnc82 := NB151_161.out; have hnb83 := NB161_160.out; have hnc83 := NB160_161.out; have hcz84_0 : w80.cell? ⟨gb161, 0, none⟩ = some (.int .i64 0) := (blk_cell BK161.out 0).trans rfl; have hcz84_1 : w80.cell? ⟨gb161, 1, none⟩ = some (.int .i64 0) := (blk_cell BK161.out 1).trans rfl; have hcz84_2 : w80.cell? ⟨gb161, 2, none⟩ = some (.int .i64 0) := (blk_cell BK161.out 2).trans rfl; have hfz84_0 := blk_frozen BK161.out 0; have hfz84_1 := blk_frozen BK161.out 1; have hfz84_2 := blk_frozen BK161.out 2))
                  have n0_ : Aside0 (((((w80.setCell ⟨gb161, 0, none⟩ (.int .i64 t144)).setCell ⟨gb161, 1, none⟩ (.int .i64 t145)).setCell ⟨gb161, 2, none⟩ (.int .i64 t146)).setCell ⟨gb161, 2, none⟩ (.int .i64 (wrap64 (t146 + 1)))).heap[gb150]? = some (.cells #[.int .i64 t144, .int .i64 t145, .int .i64 t146] 23 (0, 0))) := ⟨by (with_reducible repeat (first | refine blk_drewN ?_ _ | refine blk_drew ?_ | refine blk_alloc ?_ _)); refine blk_far ?_ NB150_161.out _; (with_reducible repeat (first | refine blk_drewN ?_ _ | refine blk_drew ?_ | refine blk_alloc ?_ _)); refine blk_far ?_ NB150_161.out _; (with_reducible repeat (first | refine blk_drewN ?_ _ | refine blk_drew ?_ | refine blk_alloc ?_ _)); refine blk_far ?_ NB150_161.out _; (with_reducible repeat (first | refine blk_drewN ?_ _ | refine blk_drew ?_ | refine blk_alloc ?_ _)); refine blk_far ?_ NB150_161.out _; (with_reducible repeat (first | refine blk_drewN ?_ _ | refine blk_drew ?_ | refine blk_alloc ?_ _)); exact BK150.out⟩
                  have n1_ : Aside0 (((((w80.setCell ⟨gb161, 0, none⟩ (.int .i64 t144)).setCell ⟨gb161, 1, none⟩ (.int .i64 t145)).setCell ⟨gb161, 2, none⟩ (.int .i64 t146)).setCell ⟨gb161, 2, none⟩ (.int .i64 (wrap64 (t146 + 1)))).heap[gb151]? = some (.cells #[.int .i64 t147, .int .i64 t148, .int .i64 t149] 23 (0, 0))) := ⟨by (with_reducible repeat (first | refine blk_drewN ?_ _ | refine blk_drew ?_ | refine blk_alloc ?_ _)); refine blk_far ?_ NB151_161.out _; (with_reducible repeat (first | refine blk_drewN ?_ _ | refine blk_drew ?_ | refine blk_alloc ?_ _)); refine blk_far ?_ NB151_161.out _; (with_reducible repeat (first | refine blk_drewN ?_ _ | refine blk_drew ?_ | refine blk_alloc ?_ _)); refine blk_far ?_ NB151_161.out _; (with_reducible repeat (first | refine blk_drewN ?_ _ | refine blk_drew ?_ | refine blk_alloc ?_ _)); refine blk_far ?_ NB151_161.out _; (with_reducible repeat (first | refine blk_drewN ?_ _ | refine blk_drew ?_ | refine blk_alloc ?_ _)); exact BK151.out⟩
                  have n2_ : Aside0 (((((w80.setCell ⟨gb161, 0, none⟩ (.int .i64 t144)).setCell ⟨gb161, 1, none⟩ (.int .i64 t145)).setCell ⟨gb161, 2, none⟩ (.int .i64 t146)).setCell ⟨gb161, 2, none⟩ (.int .i64 (wrap64 (t146 + 1)))).heap[gb160]? = some (.cells #[.int .i64 t156, .int .i64 t157, .int .i64 t158] 23 (0, 0))) := ⟨by (with_reducible repeat (first | refine blk_drewN ?_ _ | refine blk_drew ?_ | refine blk_alloc ?_ _)); refine blk_far ?_ NB160_161.out _; (with_reducible repeat (first | refine blk_drewN ?_ _ | refine blk_drew ?_ | refine blk_alloc ?_ _)); refine blk_far ?_ NB160_161.out _; (with_reducible repeat (first | refine blk_drewN ?_ _ | refine blk_drew ?_ | refine blk_alloc ?_ _)); refine blk_far ?_ NB160_161.out _; (with_reducible repeat (first | refine blk_drewN ?_ _ | refine blk_drew ?_ | refine blk_alloc ?_ _)); refine blk_far ?_ NB160_161.out _; (with_reducible repeat (first | refine blk_drewN ?_ _ | refine blk_drew ?_ | refine blk_alloc ?_ _)); exact BK160.out⟩
                  have n3_ : Aside0 (((((w80.setCell ⟨gb161, 0, none⟩ (.int .i64 t144)).setCell ⟨gb161, 1, none⟩ (.int .i64 t145)).setCell ⟨gb161, 2, none⟩ (.int .i64 t146)).setCell ⟨gb161, 2, none⟩ (.int .i64 (wrap64 (t146 + 1)))).heap[gb161]? = some (.cells #[.int .i64 t144, .int .i64 t145, .int .i64 (wrap64 (t146 + 1))] 23 (0, 0))) := ⟨by (with_reducible repeat (first | refine blk_drewN ?_ _ | refine blk_drew ?_ | refine blk_alloc ?_ _)); refine blk_put (cs := #[.int .i64 t144, .int .i64 t145, .int .i64 t146]) ?_ 2 _ rfl; (with_reducible repeat (first | refine blk_drewN ?_ _ | refine blk_drew ?_ | refine blk_alloc ?_ _)); refine blk_put (cs := #[.int .i64 t144, .int .i64 t145, .int .i64 0]) ?_ 2 _ rfl; (with_reducible repeat (first | refine blk_drewN ?_ _ | refine blk_drew ?_ | refine blk_alloc ?_ _)); refine blk_put (cs := #[.int .i64 t144, .int .i64 0, .int .i64 0]) ?_ 1 _ rfl; (with_reducible repeat (first | refine blk_drewN ?_ _ | refine blk_drew ?_ | refine blk_alloc ?_ _)); refine blk_put (cs := #[.int .i64 0, .int .i64 0, .int .i64 0]) ?_ 0 _ rfl; (with_reducible repeat (first | refine blk_drewN ?_ _ | refine blk_drew ?_ | refine blk_alloc ?_ _)); exact BK161.out⟩
                  have n4_ : Aside0 (Below w.heap.size w ((((w80.setCell ⟨gb161, 0, none⟩ (.int .i64 t144)).setCell ⟨gb161, 1, none⟩ (.int .i64 t145)).setCell ⟨gb161, 2, none⟩ (.int .i64 t146)).setCell ⟨gb161, 2, none⟩ (.int .i64 (wrap64 (t146 + 1))))) := ⟨by repeat (first | (with_reducible first | exact HB.out | apply below_alloc | apply pw_below_drewN | apply below_drew1 | refine below_set ?_ GE150.out | refine below_set ?_ GE151.out | refine below_set ?_ GE160.out | refine below_set ?_ GE161.out) | exact HB.out)⟩
                  (try clear BK150)
                  (try clear BK151)
                  (try clear BK160)
                  (try clear BK161)
                  (try clear HB)
                  generalize ((((w80.setCell ⟨gb161, 0, none⟩ (.int .i64 t144)).setCell ⟨gb161, 1, none⟩ (.int .i64 t145)).setCell ⟨gb161, 2, none⟩ (.int .i64 t146)).setCell ⟨gb161, 2, none⟩ (.int .i64 (wrap64 (t146 + 1)))) = w85 at n0_ n1_ n2_ n3_ n4_ ⊢
                  have BK150 := n0_
                  have BK151 := n1_
                  have BK160 := n2_
                  have BK161 := n3_
                  have HB := n4_
                  clear n0_ n1_ n2_ n3_ n4_
                  have n0_ := Aside0.mk (blk_drew BK150.out)
                  have n1_ := Aside0.mk (blk_drew BK151.out)
                  have n2_ := Aside0.mk (blk_drew BK160.out)
                  have n3_ := Aside0.mk (blk_drew BK161.out)
                  have n4_ := Aside0.mk (below_drew1 HB.out)
                  clear BK150
                  clear BK151
                  clear BK160
                  clear BK161
                  clear HB
                  have BK150 := n0_
                  have BK151 := n1_
                  have BK160 := n2_
                  have BK161 := n3_
                  have HB := n4_
                  clear n0_ n1_ n2_ n3_ n4_
                  refine start_ (n := 8) (S := fun w' => w'.cell? ⟨gb161, 0, none⟩ = some (.int .i64 t144) ∧ w'.cell? ⟨gb161, 1, none⟩ = some (.int .i64 t145) ∧ w'.cell? ⟨gb161, 2, none⟩ = some (.int .i64 (wrap64 (t146 + 1))) ∧ w'.cell? ⟨gb150, 0, none⟩ = some (.int .i64 t144) ∧ w'.cell? ⟨gb150, 1, none⟩ = some (.int .i64 t145) ∧ w'.cell? ⟨gb150, 2, none⟩ = some (.int .i64 t146)) (ds := []) #[false, false, false, false, false, false, false, false] (by kernel_rfl) rfl rfl ⟨(blk_cell BK161.out 0).trans rfl, (blk_cell BK161.out 1).trans rfl, (blk_cell BK161.out 2).trans rfl, (blk_cell BK150.out 0).trans rfl, (blk_cell BK150.out 1).trans rfl, (blk_cell BK150.out 2).trans rfl⟩ (fun hHeld => ?_); refine with_tabW solsticelaw02_CivilBack.tab12 solsticelaw02_CivilBack.bits12 (fun HT_ HW_ => ?_)
                  generalize w85.drew = w86 at BK150 BK151 BK160 BK161 HB hHeld ⊢
                  refine pure_ (i := 0) (N := some 115) (v := ?_) (a' := ?_) #[true, false, false, false, false, false, false, false] rfl rfl (any_of HT_.out (by kernel_rfl)) (fun _ _ _ h => h) (Or.inl ⟨by rfl, ?_⟩) ?_ ?_
                  rotate_left
                  · intro w'
                    go_simp
                    with_reducible rfl
                  rotate_left
                  · simp only [Act.put, List.setIfInBounds_toArray, List.set_cons_zero, List.set_cons_succ, i64_w, i32_w]
                    rfl
                  refine pure_ (i := 2) (N := some 117) (v := ?_) (a' := ?_) #[true, false, true, false, false, false, false, false] rfl rfl (any_of HT_.out (by kernel_rfl)) (fun _ _ _ h => h) (Or.inl ⟨by rfl, ?_⟩) ?_ ?_
                  rotate_left
                  · intro w'
                    go_simp
                    with_reducible rfl
                  rotate_left
                  · simp only [Act.put, List.setIfInBounds_toArray, List.set_cons_zero, List.set_cons_succ, i64_w, i32_w]
                    rfl
                  refine pure_ (i := 4) (N := some 119) (v := ?_) (a' := ?_) #[true, false, true, false, true, false, false, false] rfl rfl (any_of HT_.out (by kernel_rfl)) (fun _ _ _ h => h) (Or.inl ⟨by rfl, ?_⟩) ?_ ?_
                  rotate_left
                  · intro w'
                    go_simp
                    with_reducible rfl
                  rotate_left
                  · simp only [Act.put, List.setIfInBounds_toArray, List.set_cons_zero, List.set_cons_succ, i64_w, i32_w]
                    rfl
                  refine take_ (i := 1) (N := some 116) (v := ?_) (a' := ?_) #[true, true, true, false, true, false, false, false] rfl rfl (take_ofW HT_.out HW_.out (by kernel_rfl)) (fun _ _ _ h => h) (Or.inl ⟨by rfl, ?_⟩) hHeld ?_ ?_
                  rotate_left
                  · rintro w' ⟨s0, s1, s2, s3, s4, s5⟩
                    go_simp
                    with_reducible rfl
                  rotate_left
                  · simp only [Act.put, List.setIfInBounds_toArray, List.set_cons_zero, List.set_cons_succ, i64_w, i32_w]
                    rfl
                  refine take_ (i := 3) (N := some 118) (v := ?_) (a' := ?_) #[true, true, true, true, true, false, false, false] rfl rfl (take_ofW HT_.out HW_.out (by kernel_rfl)) (fun _ _ _ h => h) (Or.inl ⟨by rfl, ?_⟩) hHeld ?_ ?_
                  rotate_left
                  · rintro w' ⟨s0, s1, s2, s3, s4, s5⟩
                    go_simp
                    with_reducible rfl
                  rotate_left
                  · simp only [Act.put, List.setIfInBounds_toArray, List.set_cons_zero, List.set_cons_succ, i64_w, i32_w]
                    rfl
                  refine take_ (i := 5) (N := some 120) (v := ?_) (a' := ?_) #[true, true, true, true, true, true, false, false] rfl rfl (take_ofW HT_.out HW_.out (by kernel_rfl)) (fun _ _ _ h => h) (Or.inl ⟨by rfl, ?_⟩) hHeld ?_ ?_
                  rotate_left
                  · rintro w' ⟨s0, s1, s2, s3, s4, s5⟩
                    go_simp
                    with_reducible rfl
                  rotate_left
                  · simp only [Act.put, List.setIfInBounds_toArray, List.set_cons_zero, List.set_cons_succ, i64_w, i32_w]
                    rfl
                  refine one_ (i := 6) (N := some 121) #[true, true, true, true, true, true, true, false] rfl rfl (one_of HT_.out (by kernel_rfl)) (by decide) (fun K hK => ?_)
                  refine goes_ Try.func12 (by kernel_rfl) rfl #[.int .i64 t144, .int .i64 t145] (by rfl) rfl rfl (by (try simp only [List.map_toArray, List.map_cons, List.map_nil]); first | done | rfl | (simp only [List.length_drop, List.length_take]; rfl)) ?_
                  with_reducible refine (civil_Len.calls kj66 t144 t145 t162 _ A75.out).mono ?_
                  rintro e w87 ⟨rfl, hb⟩
                  refine ⟨_, rfl, ?_⟩
                  have n0_ := Aside0.mk (blk_below (g := gb150) (o := .cells #[.int .i64 t144, .int .i64 t145, .int .i64 t146] 23 (0, 0)) (by (with_reducible repeat (first | refine blk_drewN ?_ _ | refine blk_drew ?_ | refine blk_alloc ?_ _)); exact BK150.out) hb)
                  have n1_ := Aside0.mk (blk_below (g := gb151) (o := .cells #[.int .i64 t147, .int .i64 t148, .int .i64 t149] 23 (0, 0)) (by (with_reducible repeat (first | refine blk_drewN ?_ _ | refine blk_drew ?_ | refine blk_alloc ?_ _)); exact BK151.out) hb)
                  have n2_ := Aside0.mk (blk_below (g := gb160) (o := .cells #[.int .i64 t156, .int .i64 t157, .int .i64 t158] 23 (0, 0)) (by (with_reducible repeat (first | refine blk_drewN ?_ _ | refine blk_drew ?_ | refine blk_alloc ?_ _)); exact BK160.out) hb)
                  have n3_ := Aside0.mk (blk_below (g := gb161) (o := .cells #[.int .i64 t144, .int .i64 t145, .int .i64 (wrap64 (t146 + 1))] 23 (0, 0)) (by (with_reducible repeat (first | refine blk_drewN ?_ _ | refine blk_drew ?_ | refine blk_alloc ?_ _)); exact BK161.out) hb)
                  have n4_ := Aside0.mk (below_step (by repeat (first | (with_reducible first | exact HB.out | apply below_alloc | apply pw_below_drewN | apply below_drew1 | refine below_set ?_ GE150.out | refine below_set ?_ GE151.out | refine below_set ?_ GE160.out | refine below_set ?_ GE161.out) | exact HB.out)) hb)
                  clear BK150
                  clear BK151
                  clear BK160
                  clear BK161
                  clear HB
                  have BK150 := n0_
                  have BK151 := n1_
                  have BK160 := n2_
                  have BK161 := n3_
                  have HB := n4_
                  clear n0_ n1_ n2_ n3_ n4_
                  (try clear hb)
                  (try clear hb2)
                  (try clear hk)
                  (try clear hi)
                  refine hK.out _ _ ⟨(blk_cell BK161.out 0).trans rfl, (blk_cell BK161.out 1).trans rfl, (blk_cell BK161.out 2).trans rfl, (blk_cell BK150.out 0).trans rfl, (blk_cell BK150.out 1).trans rfl, (blk_cell BK150.out 2).trans rfl⟩ (fun hHeld => ?_)
                  clear hK K
                  refine norm_ (a' := ?_) ?_ ?_
                  rotate_left
                  · show Act.put _ (some 121) _ = _
                    simp only [Act.put, List.setIfInBounds_toArray, List.set_cons_zero, List.set_cons_succ, i64_w, i32_w]
                    rfl
                  refine pure_ (i := 7) (N := some 122) (v := ?_) (a' := ?_) #[true, true, true, true, true, true, true, true] rfl rfl (any_of HT_.out (by kernel_rfl)) (fun _ _ _ h => h) (Or.inl ⟨by rfl, ?_⟩) ?_ ?_
                  rotate_left
                  · intro w'
                    go_simp
                    with_reducible rfl
                  rotate_left
                  · simp only [Act.put, List.setIfInBounds_toArray, List.set_cons_zero, List.set_cons_succ, i64_w, i32_w]
                    rfl
                  refine done_ (done_of HT_.out (by kernel_rfl)) ?_
                  go_upto_if 122 with (fail)
                  go_cut [] (fun wc => ∃ (kq : Nat) (x162001_75 : Int) (x162002_75 : Int), Aside0 (solsticelaw02_CivilBack.j3 kq t152 t144 x162001_75 x162002_75 = some r) ∧ Aside0 (kq ≤ kj66) ∧ Aside0 (wc.heap[gb150]? = some (.cells #[.int .i64 t144, .int .i64 t145, .int .i64 t146] 23 (0, 0))) ∧ Aside0 (wc.heap[gb151]? = some (.cells #[.int .i64 t147, .int .i64 t148, .int .i64 t149] 23 (0, 0))) ∧ Aside0 (wc.heap[gb160]? = some (.cells #[.int .i64 t156, .int .i64 t157, .int .i64 t158] 23 (0, 0))) ∧ Aside0 (wc.heap[gb161]? = some (.cells #[.int .i64 t144, .int .i64 x162001_75, .int .i64 x162002_75] 23 (0, 0))) ∧ Aside0 (Below w.heap.size w wc))
                  case first =>
                    have H := HC76.out
                    clear HC76
                    by_cases c88 : (wrap64 (t146 + 1)) > t162
                    · rw [if_pos c88] at H
                      have c88b0 : decide (t162 < (wrap64 (t146 + 1))) = true := decide_eq_true c88
                      clear c88
                      (first | rw [c88b0] | (simp only [i64_w, i32_w]; rw [c88b0]) | skip)
                      have H' := Aside0.mk H
                      clear H
                      have hnb89 := NB161_150.out
                      have hnc89 := NB150_161.out
                      have hnb90 := NB161_151.out
                      have hnc90 := NB151_161.out
                      have hnb91 := NB161_160.out
                      have hnc91 := NB160_161.out
                      have hcz92_0 : w87.cell? ⟨gb161, 0, none⟩ = some (.int .i64 t144) := (blk_cell BK161.out 0).trans rfl
                      have hcz92_1 : w87.cell? ⟨gb161, 1, none⟩ = some (.int .i64 t145) := (blk_cell BK161.out 1).trans rfl
                      have hcz92_2 : w87.cell? ⟨gb161, 2, none⟩ = some (.int .i64 (wrap64 (t146 + 1))) := (blk_cell BK161.out 2).trans rfl
                      have hfz92_0 := blk_frozen BK161.out 0
                      have hfz92_1 := blk_frozen BK161.out 1
                      have hfz92_2 := blk_frozen BK161.out 2
                      go_wp2
                      go_meet
                      case rel => exact ⟨_, (wrap64 (t145 + 1)), (1), H', ⟨by have := HJ11.out; have := HJ36.out; have := HJ66.out; first | omega | exact Nat.le_refl _⟩, ⟨by (with_reducible repeat (first | refine blk_drewN ?_ _ | refine blk_drew ?_ | refine blk_alloc ?_ _)); refine blk_far ?_ NB150_161.out _; (with_reducible repeat (first | refine blk_drewN ?_ _ | refine blk_drew ?_ | refine blk_alloc ?_ _)); refine blk_far ?_ NB150_161.out _; (with_reducible repeat (first | refine blk_drewN ?_ _ | refine blk_drew ?_ | refine blk_alloc ?_ _)); exact BK150.out⟩, ⟨by (with_reducible repeat (first | refine blk_drewN ?_ _ | refine blk_drew ?_ | refine blk_alloc ?_ _)); refine blk_far ?_ NB151_161.out _; (with_reducible repeat (first | refine blk_drewN ?_ _ | refine blk_drew ?_ | refine blk_alloc ?_ _)); refine blk_far ?_ NB151_161.out _; (with_reducible repeat (first | refine blk_drewN ?_ _ | refine blk_drew ?_ | refine blk_alloc ?_ _)); exact BK151.out⟩, ⟨by (with_reducible repeat (first | refine blk_drewN ?_ _ | refine blk_drew ?_ | refine blk_alloc ?_ _)); refine blk_far ?_ NB160_161.out _; (with_reducible repeat (first | refine blk_drewN ?_ _ | refine blk_drew ?_ | refine blk_alloc ?_ _)); refine blk_far ?_ NB160_161.out _; (with_reducible repeat (first | refine blk_drewN ?_ _ | refine blk_drew ?_ | refine blk_alloc ?_ _)); exact BK160.out⟩, ⟨by (with_reducible repeat (first | refine blk_drewN ?_ _ | refine blk_drew ?_ | refine blk_alloc ?_ _)); refine blk_put (cs := #[.int .i64 t144, .int .i64 t145, .int .i64 1]) ?_ 1 _ rfl; (with_reducible repeat (first | refine blk_drewN ?_ _ | refine blk_drew ?_ | refine blk_alloc ?_ _)); refine blk_put (cs := #[.int .i64 t144, .int .i64 t145, .int .i64 (wrap64 (t146 + 1))]) ?_ 2 _ rfl; (with_reducible repeat (first | refine blk_drewN ?_ _ | refine blk_drew ?_ | refine blk_alloc ?_ _)); exact BK161.out⟩, ⟨by repeat (first | (with_reducible first | exact HB.out | apply below_alloc | apply pw_below_drewN | apply below_drew1 | refine below_set ?_ GE150.out | refine below_set ?_ GE151.out | refine below_set ?_ GE160.out | refine below_set ?_ GE161.out) | exact HB.out)⟩⟩
                    · rw [if_neg c88] at H
                      have c88b0 : decide (t162 < (wrap64 (t146 + 1))) = false := decide_eq_false c88
                      clear c88
                      (first | rw [c88b0] | (simp only [i64_w, i32_w]; rw [c88b0]) | skip)
                      have H' := Aside0.mk H
                      clear H
                      go_wp2
                      go_meet
                      case rel => exact ⟨_, (t145), (wrap64 (t146 + 1)), H', ⟨by have := HJ11.out; have := HJ36.out; have := HJ66.out; first | omega | exact Nat.le_refl _⟩, ⟨by (with_reducible repeat (first | refine blk_drewN ?_ _ | refine blk_drew ?_ | refine blk_alloc ?_ _)); exact BK150.out⟩, ⟨by (with_reducible repeat (first | refine blk_drewN ?_ _ | refine blk_drew ?_ | refine blk_alloc ?_ _)); exact BK151.out⟩, ⟨by (with_reducible repeat (first | refine blk_drewN ?_ _ | refine blk_drew ?_ | refine blk_alloc ?_ _)); exact BK160.out⟩, ⟨by (with_reducible repeat (first | refine blk_drewN ?_ _ | refine blk_drew ?_ | refine blk_alloc ?_ _)); exact BK161.out⟩, ⟨by repeat (first | (with_reducible first | exact HB.out | apply below_alloc | apply pw_below_drewN | apply below_drew1 | refine below_set ?_ GE150.out | refine below_set ?_ GE151.out | refine below_set ?_ GE160.out | refine below_set ?_ GE161.out) | exact HB.out)⟩⟩
                  case rest =>
                    clear HC76
                    try clear c1
                    try clear c2
                    try clear p2
                    try clear c3
                    try clear c4
                    try clear c5
                    try clear c6
                    try clear p6
                    try clear c7
                    try clear c8
                    try clear c9
                    try clear c10
                    try clear c11
                    try clear c12
                    try clear c17
                    try clear c25
                    try clear c26
                    try clear c28
                    try clear c28b0
                    try clear c28b1
                    try clear c29
                    try clear c29b0
                    try clear c29b1
                    try clear c30
                    try clear c30b0
                    try clear c30b1
                    try clear c31
                    try clear c32
                    try clear c34
                    try clear c36
                    try clear c38
                    try clear c38b0
                    try clear c39
                    try clear c40
                    try clear c42
                    try clear c44
                    try clear c44b0
                    try clear c44b1
                    try clear c45
                    try clear c45b0
                    try clear c46
                    try clear c47
                    try clear c49
                    try clear c51
                    try clear c51b0
                    try clear c51b1
                    try clear c52
                    try clear c53
                    try clear c55
                    try clear c57
                    try clear c58
                    try clear c60
                    try clear c62
                    try clear c63
                    try clear p64
                    try clear c65
                    try clear c68
                    try clear c68b0
                    try clear c68b1
                    try clear c68b2
                    try clear c69
                    try clear c70
                    try clear c72
                    try clear c74
                    try clear c77
                    try clear c78
                    try clear c81
                    try clear c82
                    try clear c83
                    try clear c88
                    try clear c88b0
                    try clear c89
                    try clear c90
                    try clear c91
                    try clear hcz18_0
                    try clear hcz18_1
                    try clear hcz18_2
                    try clear hcz19_0
                    try clear hcz19_1
                    try clear hcz19_2
                    try clear hcz21_0
                    try clear hcz21_1
                    try clear hcz21_2
                    try clear hcz27_0
                    try clear hcz27_1
                    try clear hcz27_2
                    try clear hcz33_0
                    try clear hcz33_1
                    try clear hcz33_2
                    try clear hcz35_0
                    try clear hcz35_1
                    try clear hcz35_2
                    try clear hcz41_0
                    try clear hcz41_1
                    try clear hcz41_2
                    try clear hcz43_0
                    try clear hcz43_1
                    try clear hcz43_2
                    try clear hcz48_0
                    try clear hcz48_1
                    try clear hcz48_2
                    try clear hcz50_0
                    try clear hcz50_1
                    try clear hcz50_2
                    try clear hcz54_0
                    try clear hcz54_1
                    try clear hcz54_2
                    try clear hcz56_0
                    try clear hcz56_1
                    try clear hcz56_2
                    try clear hcz59_0
                    try clear hcz59_1
                    try clear hcz59_2
                    try clear hcz61_0
                    try clear hcz61_1
                    try clear hcz61_2
                    try clear hcz64_0
                    try clear hcz64_1
                    try clear hcz64_2
                    try clear hcz66_0
                    try clear hcz66_1
                    try clear hcz66_2
                    try clear hcz71_0
                    try clear hcz71_1
                    try clear hcz71_2
                    try clear hcz73_0
                    try clear hcz73_1
                    try clear hcz73_2
                    try clear hcz79_0
                    try clear hcz79_1
                    try clear hcz79_2
                    try clear hcz84_0
                    try clear hcz84_1
                    try clear hcz84_2
                    try clear hcz92_0
                    try clear hcz92_1
                    try clear hcz92_2
                    try clear hfz18_0
                    try clear hfz18_1
                    try clear hfz18_2
                    try clear hfz19_0
                    try clear hfz19_1
                    try clear hfz19_2
                    try clear hfz21_0
                    try clear hfz21_1
                    try clear hfz21_2
                    try clear hfz27_0
                    try clear hfz27_1
                    try clear hfz27_2
                    try clear hfz33_0
                    try clear hfz33_1
                    try clear hfz33_2
                    try clear hfz35_0
                    try clear hfz35_1
                    try clear hfz35_2
                    try clear hfz41_0
                    try clear hfz41_1
                    try clear hfz41_2
                    try clear hfz43_0
                    try clear hfz43_1
                    try clear hfz43_2
                    try clear hfz48_0
                    try clear hfz48_1
                    try clear hfz48_2
                    try clear hfz50_0
                    try clear hfz50_1
                    try clear hfz50_2
                    try clear hfz54_0
                    try clear hfz54_1
                    try clear hfz54_2
                    try clear hfz56_0
                    try clear hfz56_1
                    try clear hfz56_2
                    try clear hfz59_0
                    try clear hfz59_1
                    try clear hfz59_2
                    try clear hfz61_0
                    try clear hfz61_1
                    try clear hfz61_2
                    try clear hfz64_0
                    try clear hfz64_1
                    try clear hfz64_2
                    try clear hfz66_0
                    try clear hfz66_1
                    try clear hfz66_2
                    try clear hfz71_0
                    try clear hfz71_1
                    try clear hfz71_2
                    try clear hfz73_0
                    try clear hfz73_1
                    try clear hfz73_2
                    try clear hfz79_0
                    try clear hfz79_1
                    try clear hfz79_2
                    try clear hfz84_0
                    try clear hfz84_1
                    try clear hfz84_2
                    try clear hfz92_0
                    try clear hfz92_1
                    try clear hfz92_2
                    try clear p2
                    obtain ⟨kq, x162001_75, x162002_75, HA, HJ75, BK150, BK151, BK160, BK161, HB⟩ := hcut
                    cases kq with
                    | zero => exact absurd HA.out (by simp [solsticelaw02_CivilBack.j3])
                    | succ kj75 =>
                      have H := HA.out
                      clear HA
                      simp only [solsticelaw02_CivilBack.j3] at H
                      have HC93 := Aside0.mk H
                      clear H
                      have hnb94 := NB161_150.out
                      have hnc94 := NB150_161.out
                      have hnb95 := NB161_151.out
                      have hnc95 := NB151_161.out
                      have hnb96 := NB161_160.out
                      have hnc96 := NB160_161.out
                      have hcz97_0 : wc.cell? ⟨gb161, 0, none⟩ = some (.int .i64 t144) := (blk_cell BK161.out 0).trans rfl
                      have hcz97_1 : wc.cell? ⟨gb161, 1, none⟩ = some (.int .i64 x162001_75) := (blk_cell BK161.out 1).trans rfl
                      have hcz97_2 : wc.cell? ⟨gb161, 2, none⟩ = some (.int .i64 x162002_75) := (blk_cell BK161.out 2).trans rfl
                      have hfz97_0 := blk_frozen BK161.out 0
                      have hfz97_1 := blk_frozen BK161.out 1
                      have hfz97_2 := blk_frozen BK161.out 2
                      go_upto_if 130 with (fail)
                      go_cut [] (fun wc => ∃ (kq : Nat) (x162000_92 : Int) (x162001_92 : Int), Aside0 (solsticelaw02_CivilBack.j4 kq t152 x162000_92 x162001_92 x162002_75 = some r) ∧ Aside0 (kq ≤ kj75) ∧ Aside0 (wc.heap[gb150]? = some (.cells #[.int .i64 t144, .int .i64 t145, .int .i64 t146] 23 (0, 0))) ∧ Aside0 (wc.heap[gb151]? = some (.cells #[.int .i64 t147, .int .i64 t148, .int .i64 t149] 23 (0, 0))) ∧ Aside0 (wc.heap[gb160]? = some (.cells #[.int .i64 t156, .int .i64 t157, .int .i64 t158] 23 (0, 0))) ∧ Aside0 (wc.heap[gb161]? = some (.cells #[.int .i64 x162000_92, .int .i64 x162001_92, .int .i64 x162002_75] 23 (0, 0))) ∧ Aside0 (Below w.heap.size w wc))
                      case first =>
                        have H := HC93.out
                        clear HC93
                        by_cases c98 : x162001_75 > 12
                        · rw [if_pos c98] at H
                          have c98b0 : decide (12 < x162001_75) = true := decide_eq_true c98
                          clear c98
                          (first | rw [c98b0] | (simp only [i64_w, i32_w]; rw [c98b0]) | skip)
                          have H' := Aside0.mk H
                          clear H
                          have hnb99 := NB161_150.out
                          have hnc99 := NB150_161.out
                          have hnb100 := NB161_151.out
                          have hnc100 := NB151_161.out
                          have hnb101 := NB161_160.out
                          have hnc101 := NB160_161.out
                          have hcz102_0 : wc.cell? ⟨gb161, 0, none⟩ = some (.int .i64 t144) := (blk_cell BK161.out 0).trans rfl
                          have hcz102_1 : wc.cell? ⟨gb161, 1, none⟩ = some (.int .i64 x162001_75) := (blk_cell BK161.out 1).trans rfl
                          have hcz102_2 : wc.cell? ⟨gb161, 2, none⟩ = some (.int .i64 x162002_75) := (blk_cell BK161.out 2).trans rfl
                          have hfz102_0 := blk_frozen BK161.out 0
                          have hfz102_1 := blk_frozen BK161.out 1
                          have hfz102_2 := blk_frozen BK161.out 2
                          go_wp2
                          go_meet
                          case rel => exact ⟨_, (wrap64 (t144 + 1)), (1), H', ⟨by have := HJ11.out; have := HJ36.out; have := HJ66.out; have := HJ75.out; first | omega | exact Nat.le_refl _⟩, ⟨by (with_reducible repeat (first | refine blk_drewN ?_ _ | refine blk_drew ?_ | refine blk_alloc ?_ _)); refine blk_far ?_ NB150_161.out _; (with_reducible repeat (first | refine blk_drewN ?_ _ | refine blk_drew ?_ | refine blk_alloc ?_ _)); refine blk_far ?_ NB150_161.out _; (with_reducible repeat (first | refine blk_drewN ?_ _ | refine blk_drew ?_ | refine blk_alloc ?_ _)); exact BK150.out⟩, ⟨by (with_reducible repeat (first | refine blk_drewN ?_ _ | refine blk_drew ?_ | refine blk_alloc ?_ _)); refine blk_far ?_ NB151_161.out _; (with_reducible repeat (first | refine blk_drewN ?_ _ | refine blk_drew ?_ | refine blk_alloc ?_ _)); refine blk_far ?_ NB151_161.out _; (with_reducible repeat (first | refine blk_drewN ?_ _ | refine blk_drew ?_ | refine blk_alloc ?_ _)); exact BK151.out⟩, ⟨by (with_reducible repeat (first | refine blk_drewN ?_ _ | refine blk_drew ?_ | refine blk_alloc ?_ _)); refine blk_far ?_ NB160_161.out _; (with_reducible repeat (first | refine blk_drewN ?_ _ | refine blk_drew ?_ | refine blk_alloc ?_ _)); refine blk_far ?_ NB160_161.out _; (with_reducible repeat (first | refine blk_drewN ?_ _ | refine blk_drew ?_ | refine blk_alloc ?_ _)); exact BK160.out⟩, ⟨by (with_reducible repeat (first | refine blk_drewN ?_ _ | refine blk_drew ?_ | refine blk_alloc ?_ _)); refine blk_put (cs := #[.int .i64 t144, .int .i64 1, .int .i64 x162002_75]) ?_ 0 _ rfl; (with_reducible repeat (first | refine blk_drewN ?_ _ | refine blk_drew ?_ | refine blk_alloc ?_ _)); refine blk_put (cs := #[.int .i64 t144, .int .i64 x162001_75, .int .i64 x162002_75]) ?_ 1 _ rfl; (with_reducible repeat (first | refine blk_drewN ?_ _ | refine blk_drew ?_ | refine blk_alloc ?_ _)); exact BK161.out⟩, ⟨by repeat (first | (with_reducible first | exact HB.out | apply below_alloc | apply pw_below_drewN | apply below_drew1 | refine below_set ?_ GE150.out | refine below_set ?_ GE151.out | refine below_set ?_ GE160.out | refine below_set ?_ GE161.out) | exact HB.out)⟩⟩
                        · rw [if_neg c98] at H
                          have c98b0 : decide (12 < x162001_75) = false := decide_eq_false c98
                          clear c98
                          (first | rw [c98b0] | (simp only [i64_w, i32_w]; rw [c98b0]) | skip)
                          have H' := Aside0.mk H
                          clear H
                          go_wp2
                          go_meet
                          case rel => exact ⟨_, (t144), (x162001_75), H', ⟨by have := HJ11.out; have := HJ36.out; have := HJ66.out; have := HJ75.out; first | omega | exact Nat.le_refl _⟩, ⟨by (with_reducible repeat (first | refine blk_drewN ?_ _ | refine blk_drew ?_ | refine blk_alloc ?_ _)); exact BK150.out⟩, ⟨by (with_reducible repeat (first | refine blk_drewN ?_ _ | refine blk_drew ?_ | refine blk_alloc ?_ _)); exact BK151.out⟩, ⟨by (with_reducible repeat (first | refine blk_drewN ?_ _ | refine blk_drew ?_ | refine blk_alloc ?_ _)); exact BK160.out⟩, ⟨by (with_reducible repeat (first | refine blk_drewN ?_ _ | refine blk_drew ?_ | refine blk_alloc ?_ _)); exact BK161.out⟩, ⟨by repeat (first | (with_reducible first | exact HB.out | apply below_alloc | apply pw_below_drewN | apply below_drew1 | refine below_set ?_ GE150.out | refine below_set ?_ GE151.out | refine below_set ?_ GE160.out | refine below_set ?_ GE161.out) | exact HB.out)⟩⟩
                      case rest =>
                        clear HC93
                        try clear c1
                        try clear c2
                        try clear p2
                        try clear c3
                        try clear c4
                        try clear c5
                        try clear c6
                        try clear p6
                        try clear c7
                        try clear c8
                        try clear c9
                        try clear c10
                        try clear c11
                        try clear c12
                        try clear c17
                        try clear c25
                        try clear c26
                        try clear c28
                        try clear c28b0
                        try clear c28b1
                        try clear c29
                        try clear c29b0
                        try clear c29b1
                        try clear c30
                        try clear c30b0
                        try clear c30b1
                        try clear c31
                        try clear c32
                        try clear c34
                        try clear c36
                        try clear c38
                        try clear c38b0
                        try clear c39
                        try clear c40
                        try clear c42
                        try clear c44
                        try clear c44b0
                        try clear c44b1
                        try clear c45
                        try clear c45b0
                        try clear c46
                        try clear c47
                        try clear c49
                        try clear c51
                        try clear c51b0
                        try clear c51b1
                        try clear c52
                        try clear c53
                        try clear c55
                        try clear c57
                        try clear c58
                        try clear c60
                        try clear c62
                        try clear c63
                        try clear p64
                        try clear c65
                        try clear c68
                        try clear c68b0
                        try clear c68b1
                        try clear c68b2
                        try clear c69
                        try clear c70
                        try clear c72
                        try clear c74
                        try clear c77
                        try clear c78
                        try clear c81
                        try clear c82
                        try clear c83
                        try clear c88
                        try clear c88b0
                        try clear c89
                        try clear c90
                        try clear c91
                        try clear c94
                        try clear c95
                        try clear c96
                        try clear c98
                        try clear c98b0
                        try clear c99
                        try clear c100
                        try clear c101
                        try clear hcz102_0
                        try clear hcz102_1
                        try clear hcz102_2
                        try clear hcz18_0
                        try clear hcz18_1
                        try clear hcz18_2
                        try clear hcz19_0
                        try clear hcz19_1
                        try clear hcz19_2
                        try clear hcz21_0
                        try clear hcz21_1
                        try clear hcz21_2
                        try clear hcz27_0
                        try clear hcz27_1
                        try clear hcz27_2
                        try clear hcz33_0
                        try clear hcz33_1
                        try clear hcz33_2
                        try clear hcz35_0
                        try clear hcz35_1
                        try clear hcz35_2
                        try clear hcz41_0
                        try clear hcz41_1
                        try clear hcz41_2
                        try clear hcz43_0
                        try clear hcz43_1
                        try clear hcz43_2
                        try clear hcz48_0
                        try clear hcz48_1
                        try clear hcz48_2
                        try clear hcz50_0
                        try clear hcz50_1
                        try clear hcz50_2
                        try clear hcz54_0
                        try clear hcz54_1
                        try clear hcz54_2
                        try clear hcz56_0
                        try clear hcz56_1
                        try clear hcz56_2
                        try clear hcz59_0
                        try clear hcz59_1
                        try clear hcz59_2
                        try clear hcz61_0
                        try clear hcz61_1
                        try clear hcz61_2
                        try clear hcz64_0
                        try clear hcz64_1
                        try clear hcz64_2
                        try clear hcz66_0
                        try clear hcz66_1
                        try clear hcz66_2
                        try clear hcz71_0
                        try clear hcz71_1
                        try clear hcz71_2
                        try clear hcz73_0
                        try clear hcz73_1
                        try clear hcz73_2
                        try clear hcz79_0
                        try clear hcz79_1
                        try clear hcz79_2
                        try clear hcz84_0
                        try clear hcz84_1
                        try clear hcz84_2
                        try clear hcz92_0
                        try clear hcz92_1
                        try clear hcz92_2
                        try clear hcz97_0
                        try clear hcz97_1
                        try clear hcz97_2
                        try clear hfz102_0
                        try clear hfz102_1
                        try clear hfz102_2
                        try clear hfz18_0
                        try clear hfz18_1
                        try clear hfz18_2
                        try clear hfz19_0
                        try clear hfz19_1
                        try clear hfz19_2
                        try clear hfz21_0
                        try clear hfz21_1
                        try clear hfz21_2
                        try clear hfz27_0
                        try clear hfz27_1
                        try clear hfz27_2
                        try clear hfz33_0
                        try clear hfz33_1
                        try clear hfz33_2
                        try clear hfz35_0
                        try clear hfz35_1
                        try clear hfz35_2
                        try clear hfz41_0
                        try clear hfz41_1
                        try clear hfz41_2
                        try clear hfz43_0
                        try clear hfz43_1
                        try clear hfz43_2
                        try clear hfz48_0
                        try clear hfz48_1
                        try clear hfz48_2
                        try clear hfz50_0
                        try clear hfz50_1
                        try clear hfz50_2
                        try clear hfz54_0
                        try clear hfz54_1
                        try clear hfz54_2
                        try clear hfz56_0
                        try clear hfz56_1
                        try clear hfz56_2
                        try clear hfz59_0
                        try clear hfz59_1
                        try clear hfz59_2
                        try clear hfz61_0
                        try clear hfz61_1
                        try clear hfz61_2
                        try clear hfz64_0
                        try clear hfz64_1
                        try clear hfz64_2
                        try clear hfz66_0
                        try clear hfz66_1
                        try clear hfz66_2
                        try clear hfz71_0
                        try clear hfz71_1
                        try clear hfz71_2
                        try clear hfz73_0
                        try clear hfz73_1
                        try clear hfz73_2
                        try clear hfz79_0
                        try clear hfz79_1
                        try clear hfz79_2
                        try clear hfz84_0
                        try clear hfz84_1
                        try clear hfz84_2
                        try clear hfz92_0
                        try clear hfz92_1
                        try clear hfz92_2
                        try clear hfz97_0
                        try clear hfz97_1
                        try clear hfz97_2
                        try clear p2
                        try clear p6
                        try clear p64
                        obtain ⟨kq, x162000_92, x162001_92, HA, HJ92, BK150, BK151, BK160, BK161, HB⟩ := hcut
                        cases kq with
                        | zero => exact absurd HA.out (by simp [solsticelaw02_CivilBack.j4])
                        | succ kj92 =>
                          have H := HA.out
                          clear HA
                          simp only [solsticelaw02_CivilBack.j4] at H
                          by_cases c103 : x162000_92 > 10000
                          · rw [if_pos c103] at H
                            have c103b0 : decide (10000 < x162000_92) = true := decide_eq_true c103
                            clear c103
                            replace H := Option.bind_eq_some_iff.mp H
                            obtain ⟨t163, A1040, H⟩ := H
                            replace H : (some t163) = some r := H
                            have A104 := Aside0.mk A1040
                            clear A1040
                            obtain rfl := Option.some.inj H
                            have hnb105 := NB161_150.out
                            have hnc105 := NB150_161.out
                            have hnb106 := NB161_151.out
                            have hnc106 := NB151_161.out
                            have hnb107 := NB161_160.out
                            have hnc107 := NB160_161.out
                            have hcz108_0 : wc.cell? ⟨gb161, 0, none⟩ = some (.int .i64 x162000_92) := (blk_cell BK161.out 0).trans rfl
                            have hcz108_1 : wc.cell? ⟨gb161, 1, none⟩ = some (.int .i64 x162001_92) := (blk_cell BK161.out 1).trans rfl
                            have hcz108_2 : wc.cell? ⟨gb161, 2, none⟩ = some (.int .i64 x162002_75) := (blk_cell BK161.out 2).trans rfl
                            have hfz108_0 := blk_frozen BK161.out 0
                            have hfz108_1 := blk_frozen BK161.out 1
                            have hfz108_2 := blk_frozen BK161.out 2
                            go_wp2_with (first | ((with_reducible refine gate_callee (f := 13) rfl ?_); refine goesL_ (some 139) rfl rfl Try.func13 (by kernel_rfl) rfl #[] rfl (by (try simp only [List.map_toArray, List.map_cons, List.map_nil]); first | done | rfl | (simp only [List.length_drop, List.length_take]; rfl)) ?_; (with_reducible refine (solsticelaw02_wakes.calls kj92  t163 _ A104.out).mono ?_); rintro e w109 ⟨rfl, hb⟩; refine ⟨_, rfl, ?_⟩; have n0_ := Aside0.mk (blk_below (g := gb150) (o := .cells #[.int .i64 t144, .int .i64 t145, .int .i64 t146] 23 (0, 0)) (by (with_reducible repeat (first | refine blk_drewN ?_ _ | refine blk_drew ?_ | refine blk_alloc ?_ _)); exact BK150.out) hb); have n1_ := Aside0.mk (blk_below (g := gb151) (o := .cells #[.int .i64 t147, .int .i64 t148, .int .i64 t149] 23 (0, 0)) (by (with_reducible repeat (first | refine blk_drewN ?_ _ | refine blk_drew ?_ | refine blk_alloc ?_ _)); exact BK151.out) hb); have n2_ := Aside0.mk (blk_below (g := gb160) (o := .cells #[.int .i64 t156, .int .i64 t157, .int .i64 t158] 23 (0, 0)) (by (with_reducible repeat (first | refine blk_drewN ?_ _ | refine blk_drew ?_ | refine blk_alloc ?_ _)); exact BK160.out) hb); have n3_ := Aside0.mk (blk_below (g := gb161) (o := .cells #[.int .i64 x162000_92, .int .i64 x162001_92, .int .i64 x162002_75] 23 (0, 0)) (by (with_reducible repeat (first | refine blk_drewN ?_ _ | refine blk_drew ?_ | refine blk_alloc ?_ _)); exact BK161.out) hb); have n4_ := Aside0.mk (below_step (by repeat (first | (with_reducible first | exact HB.out | apply below_alloc | apply pw_below_drewN | apply below_drew1 | refine below_set ?_ GE150.out | refine below_set ?_ GE151.out | refine below_set ?_ GE160.out | refine below_set ?_ GE161.out) | exact HB.out)) hb); clear BK150; clear BK151; clear BK160; clear BK161; clear HB; have BK150 := n0_; have BK151 := n1_; have BK160 := n2_; have BK161 := n3_; have HB := n4_; clear n0_ n1_ n2_ n3_ n4_; (try clear hb); (try clear hb2); (try clear hk); (try clear hi)))
                            go_ret
                            exact ⟨by first | rfl | (simp [errW_none, errW_some] <;> rfl) | (simp [*, errW_none, errW_some] <;> rfl), by repeat (first | (with_reducible first | exact HB.out | apply below_alloc | apply pw_below_drewN | apply below_drew1 | refine below_set ?_ GE150.out | refine below_set ?_ GE151.out | refine below_set ?_ GE160.out | refine below_set ?_ GE161.out) | exact HB.out)⟩
                          · rw [if_neg c103] at H
                            have c103b0 : decide (10000 < x162000_92) = false := decide_eq_false c103
                            clear c103
                            replace H := Option.bind_eq_some_iff.mp H
                            obtain ⟨⟨t164, t165⟩, A1100, H⟩ := H
                            replace H : (if t165 = 0 then (if t164 = (wrap64 (t152 + 1)) then ((solsticelaw02_wakes.f kj92).bind fun t166 => (some t166)) else (some false)) else (some false)) = some r := H
                            have A110 := Aside0.mk A1100
                            clear A1100
                            by_cases c111 : t165 = 0
                            · rw [if_pos c111] at H
                              have c111b0 : (t165 == 0) = true := beq_iff_eq.mpr c111
                              have c111b1 : (t165 != 0) = false := bne_eq_false_iff_eq.mpr c111
                              clear c111
                              by_cases c112 : t164 = (wrap64 (t152 + 1))
                              · rw [if_pos c112] at H
                                have c112b0 : (t164 == (wrap64 (t152 + 1))) = true := beq_iff_eq.mpr c112
                                have c112b1 : (t164 != (wrap64 (t152 + 1))) = false := bne_eq_false_iff_eq.mpr c112
                                clear c112
                                replace H := Option.bind_eq_some_iff.mp H
                                obtain ⟨t166, A1130, H⟩ := H
                                replace H : (some t166) = some r := H
                                have A113 := Aside0.mk A1130
                                clear A1130
                                obtain rfl := Option.some.inj H
                                have hnb114 := NB161_150.out
                                have hnc114 := NB150_161.out
                                have hnb115 := NB161_151.out
                                have hnc115 := NB151_161.out
                                have hnb116 := NB161_160.out
                                have hnc116 := NB160_161.out
                                have hcz117_0 : wc.cell? ⟨gb161, 0, none⟩ = some (.int .i64 x162000_92) := (blk_cell BK161.out 0).trans rfl
                                have hcz117_1 : wc.cell? ⟨gb161, 1, none⟩ = some (.int .i64 x162001_92) := (blk_cell BK161.out 1).trans rfl
                                have hcz117_2 : wc.cell? ⟨gb161, 2, none⟩ = some (.int .i64 x162002_75) := (blk_cell BK161.out 2).trans rfl
                                have hfz117_0 := blk_frozen BK161.out 0
                                have hfz117_1 := blk_frozen BK161.out 1
                                have hfz117_2 := blk_frozen BK161.out 2
                                go_wp2_with (first | ((with_reducible refine gate_callee (f := 10) rfl ?_); refine goesL_ (some 142) rfl rfl Try.func10 (by kernel_rfl) rfl #[.agg #[.int .i64 x162000_92, .int .i64 x162001_92, .int .i64 x162002_75]] rfl (by (try simp only [List.map_toArray, List.map_cons, List.map_nil]); first | done | rfl | (simp only [List.length_drop, List.length_take]; rfl)) ?_; (with_reducible refine (civil_Number.calls kj92 x162000_92 x162001_92 x162002_75 t164 t165 _ A110.out).mono ?_); rintro e w118 ⟨rfl, hb⟩; refine ⟨_, rfl, ?_⟩; have n0_ := Aside0.mk (blk_below (g := gb150) (o := .cells #[.int .i64 t144, .int .i64 t145, .int .i64 t146] 23 (0, 0)) (by (with_reducible repeat (first | refine blk_drewN ?_ _ | refine blk_drew ?_ | refine blk_alloc ?_ _)); exact BK150.out) hb); have n1_ := Aside0.mk (blk_below (g := gb151) (o := .cells #[.int .i64 t147, .int .i64 t148, .int .i64 t149] 23 (0, 0)) (by (with_reducible repeat (first | refine blk_drewN ?_ _ | refine blk_drew ?_ | refine blk_alloc ?_ _)); exact BK151.out) hb); have n2_ := Aside0.mk (blk_below (g := gb160) (o := .cells #[.int .i64 t156, .int .i64 t157, .int .i64 t158] 23 (0, 0)) (by (with_reducible repeat (first | refine blk_drewN ?_ _ | refine blk_drew ?_ | refine blk_alloc ?_ _)); exact BK160.out) hb); have n3_ := Aside0.mk (blk_below (g := gb161) (o := .cells #[.int .i64 x162000_92, .int .i64 x162001_92, .int .i64 x162002_75] 23 (0, 0)) (by (with_reducible repeat (first | refine blk_drewN ?_ _ | refine blk_drew ?_ | refine blk_alloc ?_ _)); exact BK161.out) hb); have n4_ := Aside0.mk (below_step (by repeat (first | (with_reducible first | exact HB.out | apply below_alloc | apply pw_below_drewN | apply below_drew1 | refine below_set ?_ GE150.out | refine below_set ?_ GE151.out | refine below_set ?_ GE160.out | refine below_set ?_ GE161.out) | exact HB.out)) hb); clear BK150; clear BK151; clear BK160; clear BK161; clear HB; have BK150 := n0_; have BK151 := n1_; have BK160 := n2_; have BK161 := n3_; have HB := n4_; clear n0_ n1_ n2_ n3_ n4_; (try clear hb); (try clear hb2); (try clear hk); (try clear hi)) | (go_at_call 13; (with_reducible refine (solsticelaw02_wakes.calls kj92  t166 _ A113.out).mono ?_); rintro e w119 ⟨rfl, hb⟩; have n0_ := Aside0.mk (blk_below (g := gb150) (o := .cells #[.int .i64 t144, .int .i64 t145, .int .i64 t146] 23 (0, 0)) (by (with_reducible repeat (first | refine blk_drewN ?_ _ | refine blk_drew ?_ | refine blk_alloc ?_ _)); exact BK150.out) hb); have n1_ := Aside0.mk (blk_below (g := gb151) (o := .cells #[.int .i64 t147, .int .i64 t148, .int .i64 t149] 23 (0, 0)) (by (with_reducible repeat (first | refine blk_drewN ?_ _ | refine blk_drew ?_ | refine blk_alloc ?_ _)); exact BK151.out) hb); have n2_ := Aside0.mk (blk_below (g := gb160) (o := .cells #[.int .i64 t156, .int .i64 t157, .int .i64 t158] 23 (0, 0)) (by (with_reducible repeat (first | refine blk_drewN ?_ _ | refine blk_drew ?_ | refine blk_alloc ?_ _)); exact BK160.out) hb); have n3_ := Aside0.mk (blk_below (g := gb161) (o := .cells #[.int .i64 x162000_92, .int .i64 x162001_92, .int .i64 x162002_75] 23 (0, 0)) (by (with_reducible repeat (first | refine blk_drewN ?_ _ | refine blk_drew ?_ | refine blk_alloc ?_ _)); exact BK161.out) hb); have n4_ := Aside0.mk (below_step (by repeat (first | (with_reducible first | exact HB.out | apply below_alloc | apply pw_below_drewN | apply below_drew1 | refine below_set ?_ GE150.out | refine below_set ?_ GE151.out | refine below_set ?_ GE160.out | refine below_set ?_ GE161.out) | exact HB.out)) hb); clear BK150; clear BK151; clear BK160; clear BK161; clear HB; have BK150 := n0_; have BK151 := n1_; have BK160 := n2_; have BK161 := n3_; have HB := n4_; clear n0_ n1_ n2_ n3_ n4_; (try clear hb); (try clear hb2); (try clear hk); (try clear hi)))
                                go_ret
                                exact ⟨by first | rfl | (simp [errW_none, errW_some] <;> rfl) | (simp [*, errW_none, errW_some] <;> rfl), by repeat (first | (with_reducible first | exact HB.out | apply below_alloc | apply pw_below_drewN | apply below_drew1 | refine below_set ?_ GE150.out | refine below_set ?_ GE151.out | refine below_set ?_ GE160.out | refine below_set ?_ GE161.out) | exact HB.out)⟩
                              · rw [if_neg c112] at H
                                have c112b0 : (t164 == (wrap64 (t152 + 1))) = false := beq_eq_false_iff_ne.mpr c112
                                have c112b1 : (t164 != (wrap64 (t152 + 1))) = true := bne_iff_ne.mpr c112
                                obtain rfl := Option.some.inj H
                                have hnb120 := NB161_150.out
                                have hnc120 := NB150_161.out
                                have hnb121 := NB161_151.out
                                have hnc121 := NB151_161.out
                                have hnb122 := NB161_160.out
                                have hnc122 := NB160_161.out
                                have hcz123_0 : wc.cell? ⟨gb161, 0, none⟩ = some (.int .i64 x162000_92) := (blk_cell BK161.out 0).trans rfl
                                have hcz123_1 : wc.cell? ⟨gb161, 1, none⟩ = some (.int .i64 x162001_92) := (blk_cell BK161.out 1).trans rfl
                                have hcz123_2 : wc.cell? ⟨gb161, 2, none⟩ = some (.int .i64 x162002_75) := (blk_cell BK161.out 2).trans rfl
                                have hfz123_0 := blk_frozen BK161.out 0
                                have hfz123_1 := blk_frozen BK161.out 1
                                have hfz123_2 := blk_frozen BK161.out 2
                                go_wp2_with (first | ((with_reducible refine gate_callee (f := 10) rfl ?_); refine goesL_ (some 142) rfl rfl Try.func10 (by kernel_rfl) rfl #[.agg #[.int .i64 x162000_92, .int .i64 x162001_92, .int .i64 x162002_75]] rfl (by (try simp only [List.map_toArray, List.map_cons, List.map_nil]); first | done | rfl | (simp only [List.length_drop, List.length_take]; rfl)) ?_; (with_reducible refine (civil_Number.calls kj92 x162000_92 x162001_92 x162002_75 t164 t165 _ A110.out).mono ?_); rintro e w124 ⟨rfl, hb⟩; refine ⟨_, rfl, ?_⟩; have n0_ := Aside0.mk (blk_below (g := gb150) (o := .cells #[.int .i64 t144, .int .i64 t145, .int .i64 t146] 23 (0, 0)) (by (with_reducible repeat (first | refine blk_drewN ?_ _ | refine blk_drew ?_ | refine blk_alloc ?_ _)); exact BK150.out) hb); have n1_ := Aside0.mk (blk_below (g := gb151) (o := .cells #[.int .i64 t147, .int .i64 t148, .int .i64 t149] 23 (0, 0)) (by (with_reducible repeat (first | refine blk_drewN ?_ _ | refine blk_drew ?_ | refine blk_alloc ?_ _)); exact BK151.out) hb); have n2_ := Aside0.mk (blk_below (g := gb160) (o := .cells #[.int .i64 t156, .int .i64 t157, .int .i64 t158] 23 (0, 0)) (by (with_reducible repeat (first | refine blk_drewN ?_ _ | refine blk_drew ?_ | refine blk_alloc ?_ _)); exact BK160.out) hb); have n3_ := Aside0.mk (blk_below (g := gb161) (o := .cells #[.int .i64 x162000_92, .int .i64 x162001_92, .int .i64 x162002_75] 23 (0, 0)) (by (with_reducible repeat (first | refine blk_drewN ?_ _ | refine blk_drew ?_ | refine blk_alloc ?_ _)); exact BK161.out) hb); have n4_ := Aside0.mk (below_step (by repeat (first | (with_reducible first | exact HB.out | apply below_alloc | apply pw_below_drewN | apply below_drew1 | refine below_set ?_ GE150.out | refine below_set ?_ GE151.out | refine below_set ?_ GE160.out | refine below_set ?_ GE161.out) | exact HB.out)) hb); clear BK150; clear BK151; clear BK160; clear BK161; clear HB; have BK150 := n0_; have BK151 := n1_; have BK160 := n2_; have BK161 := n3_; have HB := n4_; clear n0_ n1_ n2_ n3_ n4_; (try clear hb); (try clear hb2); (try clear hk); (try clear hi)))
                                go_ret
                                exact ⟨by first | rfl | (simp [errW_none, errW_some] <;> rfl) | (simp [*, errW_none, errW_some] <;> rfl), by repeat (first | (with_reducible first | exact HB.out | apply below_alloc | apply pw_below_drewN | apply below_drew1 | refine below_set ?_ GE150.out | refine below_set ?_ GE151.out | refine below_set ?_ GE160.out | refine below_set ?_ GE161.out) | exact HB.out)⟩
                            · rw [if_neg c111] at H
                              have c111b0 : (t165 == 0) = false := beq_eq_false_iff_ne.mpr c111
                              have c111b1 : (t165 != 0) = true := bne_iff_ne.mpr c111
                              obtain rfl := Option.some.inj H
                              have hnb125 := NB161_150.out
                              have hnc125 := NB150_161.out
                              have hnb126 := NB161_151.out
                              have hnc126 := NB151_161.out
                              have hnb127 := NB161_160.out
                              have hnc127 := NB160_161.out
                              have hcz128_0 : wc.cell? ⟨gb161, 0, none⟩ = some (.int .i64 x162000_92) := (blk_cell BK161.out 0).trans rfl
                              have hcz128_1 : wc.cell? ⟨gb161, 1, none⟩ = some (.int .i64 x162001_92) := (blk_cell BK161.out 1).trans rfl
                              have hcz128_2 : wc.cell? ⟨gb161, 2, none⟩ = some (.int .i64 x162002_75) := (blk_cell BK161.out 2).trans rfl
                              have hfz128_0 := blk_frozen BK161.out 0
                              have hfz128_1 := blk_frozen BK161.out 1
                              have hfz128_2 := blk_frozen BK161.out 2
                              go_wp2_with (first | ((with_reducible refine gate_callee (f := 10) rfl ?_); refine goesL_ (some 142) rfl rfl Try.func10 (by kernel_rfl) rfl #[.agg #[.int .i64 x162000_92, .int .i64 x162001_92, .int .i64 x162002_75]] rfl (by (try simp only [List.map_toArray, List.map_cons, List.map_nil]); first | done | rfl | (simp only [List.length_drop, List.length_take]; rfl)) ?_; (with_reducible refine (civil_Number.calls kj92 x162000_92 x162001_92 x162002_75 t164 t165 _ A110.out).mono ?_); rintro e w129 ⟨rfl, hb⟩; refine ⟨_, rfl, ?_⟩; have n0_ := Aside0.mk (blk_below (g := gb150) (o := .cells #[.int .i64 t144, .int .i64 t145, .int .i64 t146] 23 (0, 0)) (by (with_reducible repeat (first | refine blk_drewN ?_ _ | refine blk_drew ?_ | refine blk_alloc ?_ _)); exact BK150.out) hb); have n1_ := Aside0.mk (blk_below (g := gb151) (o := .cells #[.int .i64 t147, .int .i64 t148, .int .i64 t149] 23 (0, 0)) (by (with_reducible repeat (first | refine blk_drewN ?_ _ | refine blk_drew ?_ | refine blk_alloc ?_ _)); exact BK151.out) hb); have n2_ := Aside0.mk (blk_below (g := gb160) (o := .cells #[.int .i64 t156, .int .i64 t157, .int .i64 t158] 23 (0, 0)) (by (with_reducible repeat (first | refine blk_drewN ?_ _ | refine blk_drew ?_ | refine blk_alloc ?_ _)); exact BK160.out) hb); have n3_ := Aside0.mk (blk_below (g := gb161) (o := .cells #[.int .i64 x162000_92, .int .i64 x162001_92, .int .i64 x162002_75] 23 (0, 0)) (by (with_reducible repeat (first | refine blk_drewN ?_ _ | refine blk_drew ?_ | refine blk_alloc ?_ _)); exact BK161.out) hb); have n4_ := Aside0.mk (below_step (by repeat (first | (with_reducible first | exact HB.out | apply below_alloc | apply pw_below_drewN | apply below_drew1 | refine below_set ?_ GE150.out | refine below_set ?_ GE151.out | refine below_set ?_ GE160.out | refine below_set ?_ GE161.out) | exact HB.out)) hb); clear BK150; clear BK151; clear BK160; clear BK161; clear HB; have BK150 := n0_; have BK151 := n1_; have BK160 := n2_; have BK161 := n3_; have HB := n4_; clear n0_ n1_ n2_ n3_ n4_; (try clear hb); (try clear hb2); (try clear hk); (try clear hi)))
                              go_ret
                              exact ⟨by first | rfl | (simp [errW_none, errW_some] <;> rfl) | (simp [*, errW_none, errW_some] <;> rfl), by repeat (first | (with_reducible first | exact HB.out | apply below_alloc | apply pw_below_drewN | apply below_drew1 | refine below_set ?_ GE150.out | refine below_set ?_ GE151.out | refine below_set ?_ GE160.out | refine below_set ?_ GE161.out) | exact HB.out)⟩

/-- THE ONE PURE STATEMENT of solsticelaw02_CivilBack: yours. -/
def solsticelaw02_CivilBack.Pure : Prop := ∀ (a0 : Int) (a1 : Int) (a2 : Int) (a3 : Int) (a4 : Int) (a5 : Int), (Lit.int .i64 a0).wf = true → (Lit.int .i64 a1).wf = true → (Lit.int .i64 a2).wf = true → (Lit.int .i64 a3).wf = true → (Lit.int .i64 a4).wf = true → (Lit.int .i64 a5).wf = true → ∃ k, solsticelaw02_CivilBack.f k a0 a1 a2 a3 a4 a5 = some true
theorem solsticelaw02_CivilBack.walk (P : solsticelaw02_CivilBack.Pure) (a0 : Int) (a1 : Int) (a2 : Int) (a3 : Int) (a4 : Int) (a5 : Int) (w : World) (w0 : (Lit.int .i64 a0).wf = true) (w1 : (Lit.int .i64 a1).wf = true) (w2 : (Lit.int .i64 a2).wf = true) (w3 : (Lit.int .i64 a3).wf = true) (w4 : (Lit.int .i64 a4).wf = true) (w5 : (Lit.int .i64 a5).wf = true) :
    Calls Try.prog 3 #[.int .i64 a0, .int .i64 a1, .int .i64 a2, .int .i64 a3, .int .i64 a4, .int .i64 a5] w fun e w' => e = .returned (.bool true) ∧ Below w.heap.size w w' := by
  obtain ⟨k, h⟩ := P a0 a1 a2 a3 a4 a5 w0 w1 w2 w3 w4 w5
  refine (solsticelaw02_CivilBack.calls k a0 a1 a2 a3 a4 a5 true w h).mono ?_
  rintro e w' ⟨rfl, hd⟩
  exact ⟨rfl, hd⟩

end Go.Proofs.Ytgmofklgfnfnmaa.O
