-- What some functions of the program compute: a text of this claim's own (lines first written by the kit's tool, some proved anew).
import Derived.Test.YtlefnaoflajnmaaOx0
import Derived.Test.YtlefnaoflajnmaaOx2
import Derived.Test.YtlefnaoflajnmaaOx11
import Derived.Test.YtlefnaoflajnmaaOx12
import Derived.Test.YtlefnaoflajnmaaOx15
import Derived.Test.YtlefnaoflajnmaaOx16
import Derived.Test.YtlefnaoflajnmaaOx18
import Derived.Test.YtlefnaoflajnmaaOx22
import Derived.Test.YtlefnaoflajnmaaOx26
import Derived.Test.YtlefnaoflajnmaaOx27
import Derived.Test.YtlefnaoflajnmaaOx25
import Derived.Test.YtlefnaoflajnmaaOx32
import Derived.Test.YtlefnaoflajnmaaOx33
namespace Go.Proofs.Ytlefnaoflajnmaa.O
open Go.RowKit Go.Proofs.YtlefnaoflajnmaaW.PrintWords Go.Proofs.YtlefnaoflajnmaaW.PrintLast Go.Proofs.YtlefnaoflajnmaaW.PrintMore
attribute [local go_sem] max2_int min2_int max_two min_two max_three min_three max_four min_four   -- for this text's walks alone
set_option linter.unusedVariables false
set_option linter.unusedSimpArgs false

/-! ### solsticelaw03_WeekExact: function 3 -/
mutual
def solsticelaw03_WeekExact.j0 : Nat → Int → Int → Int → Int → Int → Int → Int → Int → Int → Int → Int → Bool → Int → Int → Int → Option (Bool)
  | 0, _, _, _, _, _, _, _, _, _, _, _, _, _, _, _ => none
  | k + 1, x1, x2, x3, x6, x15, x16, x19, x20, x21, x22, x23, x81, x238000, x238001, x238002 => if x81 = true then (some false) else (if x1 ≥ 1 then (solsticelaw03_WeekExact.j1 k x1 x2 x3 x6 x15 x16 x19 x20 x21 x22 x23 (decide (x1 ≤ 9999)) x238000 x238001 x238002) else (solsticelaw03_WeekExact.j1 k x1 x2 x3 x6 x15 x16 x19 x20 x21 x22 x23 false x238000 x238001 x238002))
def solsticelaw03_WeekExact.j1 : Nat → Int → Int → Int → Int → Int → Int → Int → Int → Int → Int → Int → Bool → Int → Int → Int → Option (Bool)
  | 0, _, _, _, _, _, _, _, _, _, _, _, _, _, _, _ => none
  | k + 1, x1, x2, x3, x6, x15, x16, x19, x20, x21, x22, x23, x26, x238000, x238001, x238002 => (solsticeref01_On.f k x238000 x238001 x238002).bind fun t251 => (if t251 = true then (if x26 = true then ((solsticeref01_Resolve.f k x1 x2 x238000 x238001 x238002).bind fun bt252 => (if bt252.2 = true then (if x16 = 0 then (if x15 = bt252.1 then (solsticelaw03_WeekExact.j2 k x1 x3 x6 x19 x20 x21 x22 x23 x26) else (some false)) else (some false)) else (if x16 = 4 then (if x15 = 0 then (solsticelaw03_WeekExact.j2 k x1 x3 x6 x19 x20 x21 x22 x23 x26) else (some false)) else (some false)))) else (if x16 = 23 then (if x15 = 0 then (solsticelaw03_WeekExact.j2 k x1 x3 x6 x19 x20 x21 x22 x23 x26) else (some false)) else (some false))) else (if x16 = 8 then (if x15 = 0 then ((week_Check.f k x238000 x238001 x238002).bind fun t254 => (if t254 = 8 then (solsticelaw03_WeekExact.j2 k x1 x3 x6 x19 x20 x21 x22 x23 x26) else (some false))) else (some false)) else (some false)))
def solsticelaw03_WeekExact.j2 : Nat → Int → Int → Int → Int → Int → Int → Int → Int → Bool → Option (Bool)
  | 0, _, _, _, _, _, _, _, _, _ => none
  | k + 1, x1, x3, x6, x19, x20, x21, x22, x23, x26 => if x6 < 0 then (solsticelaw03_WeekExact.j3 k x1 x3 x6 x19 x20 x21 x22 x23 x26 true) else (solsticelaw03_WeekExact.j3 k x1 x3 x6 x19 x20 x21 x22 x23 x26 (decide (x6 > 6)))
def solsticelaw03_WeekExact.j4 : Nat → Int → Int → Int → Int → Int → Option (Bool)
  | 0, _, _, _, _, _ => none
  | k + 1, x3, x6, x19, x20, x21 => (solsticeref01_Least.f k).bind fun t257 => (if x3 ≥ t257 then ((solsticeref01_Most.f k).bind fun t258 => (solsticelaw03_WeekExact.j5 k x3 x6 x19 x20 x21 (decide (x3 ≤ t258)))) else (solsticelaw03_WeekExact.j5 k x3 x6 x19 x20 x21 false))
def solsticelaw03_WeekExact.j5 : Nat → Int → Int → Int → Int → Int → Bool → Option (Bool)
  | 0, _, _, _, _, _, _ => none
  | k + 1, x3, x6, x19, x20, x21, x29 => if x29 = true then ((solsticeref01_Date.f k x3).bind fun bt259 => (if bt259.1 < 1 then (solsticelaw03_WeekExact.j6 k x3 x6 x19 x20 x21 true) else ((solsticeref01_Date.f k x3).bind fun bt262 => (solsticelaw03_WeekExact.j6 k x3 x6 x19 x20 x21 (decide (bt262.1 > 9999)))))) else (solsticelaw03_WeekExact.j6 k x3 x6 x19 x20 x21 true)
def solsticelaw03_WeekExact.j6 : Nat → Int → Int → Int → Int → Int → Bool → Option (Bool)
  | 0, _, _, _, _, _, _ => none
  | k + 1, x3, x6, x19, x20, x21, x204 => if x204 = true then (if x21 = 23 then (if (wrap64 (x19 + x20)) = 0 then ((solsticelaw03_wakes.f k).bind fun t265 => (some t265)) else (some false)) else (some false)) else ((solsticeref01_No.f k x3 x6).bind fun bt266 => (if x21 = 0 then (if x19 = bt266.1 then (if x20 = bt266.2 then ((solsticelaw03_wakes.f k).bind fun t268 => (some t268)) else (some false)) else (some false)) else (some false)))
def solsticelaw03_WeekExact.j3 : Nat → Int → Int → Int → Int → Int → Int → Int → Int → Bool → Bool → Option (Bool)
  | 0, _, _, _, _, _, _, _, _, _, _ => none
  | k + 1, x1, x3, x6, x19, x20, x21, x22, x23, x26, x150 => if x150 = true then (if x21 = 1 then (if x23 = 1 then (if (wrap64 ((wrap64 (x19 + x20)) + x22)) = 0 then ((solsticelaw03_wakes.f k).bind fun t255 => (some t255)) else (some false)) else (some false)) else (some false)) else (if x26 = true then (if x23 = 0 then ((solsticeref01_Weeks.f k x1 x6).bind fun t256 => (if x22 = t256 then (solsticelaw03_WeekExact.j4 k x3 x6 x19 x20 x21) else (some false))) else (some false)) else (if x23 = 23 then (if x22 = 0 then (solsticelaw03_WeekExact.j4 k x3 x6 x19 x20 x21) else (some false)) else (some false)))
end
def solsticelaw03_WeekExact.f (k : Nat) (a0_0 : Int) (a0_1 : Int) (a0_2 : Int) (a1 : Int) (a2 : Int) (a3 : Int) (a4 : Int) (a5 : Int) (a6 : Int) : Option (Bool) := (week_Resolve.f k a1 a2 a0_0 a0_1 a0_2).bind fun bt238 => ((week_Nth.f k a3 a4 a5 a6).bind fun bt240 => ((week_No.f k a3 a6).bind fun bt242 => ((week_Weeks.f k a1 a6).bind fun bt245 => ((week_Check.f k a0_0 a0_1 a0_2).bind fun t247 => ((solsticeref01_On.f k a0_0 a0_1 a0_2).bind fun t248 => (if ((t247 == 0) != t248) = true then (some false) else ((solsticeref01_Nth.f k a3 a4 a5 a6).bind fun bt249 => (if bt240.1 = bt249.1 then (solsticelaw03_WeekExact.j0 k a1 a2 a3 a6 bt238.1 bt238.2 bt242.1 bt242.2.1 bt242.2.2 bt245.1 bt245.2 (bt240.2 != bt249.2) a0_0 a0_1 a0_2) else (solsticelaw03_WeekExact.j0 k a1 a2 a3 a6 bt238.1 bt238.2 bt242.1 bt242.2.1 bt242.2.2 bt245.1 bt245.2 true a0_0 a0_1 a0_2)))))))))
theorem solsticelaw03_WeekExact.mono_l : ∀ k, (∀ y0 y1 y2 y3 y4 y5 y6 y7 y8 y9 y10 y11 y12 y13 y14, LeO (solsticelaw03_WeekExact.j0 k y0 y1 y2 y3 y4 y5 y6 y7 y8 y9 y10 y11 y12 y13 y14) (solsticelaw03_WeekExact.j0 (k + 1) y0 y1 y2 y3 y4 y5 y6 y7 y8 y9 y10 y11 y12 y13 y14)) ∧ (∀ y0 y1 y2 y3 y4 y5 y6 y7 y8 y9 y10 y11 y12 y13 y14, LeO (solsticelaw03_WeekExact.j1 k y0 y1 y2 y3 y4 y5 y6 y7 y8 y9 y10 y11 y12 y13 y14) (solsticelaw03_WeekExact.j1 (k + 1) y0 y1 y2 y3 y4 y5 y6 y7 y8 y9 y10 y11 y12 y13 y14)) ∧ (∀ y0 y1 y2 y3 y4 y5 y6 y7 y8, LeO (solsticelaw03_WeekExact.j2 k y0 y1 y2 y3 y4 y5 y6 y7 y8) (solsticelaw03_WeekExact.j2 (k + 1) y0 y1 y2 y3 y4 y5 y6 y7 y8)) ∧ (∀ y0 y1 y2 y3 y4, LeO (solsticelaw03_WeekExact.j4 k y0 y1 y2 y3 y4) (solsticelaw03_WeekExact.j4 (k + 1) y0 y1 y2 y3 y4)) ∧ (∀ y0 y1 y2 y3 y4 y5, LeO (solsticelaw03_WeekExact.j5 k y0 y1 y2 y3 y4 y5) (solsticelaw03_WeekExact.j5 (k + 1) y0 y1 y2 y3 y4 y5)) ∧ (∀ y0 y1 y2 y3 y4 y5, LeO (solsticelaw03_WeekExact.j6 k y0 y1 y2 y3 y4 y5) (solsticelaw03_WeekExact.j6 (k + 1) y0 y1 y2 y3 y4 y5)) ∧ (∀ y0 y1 y2 y3 y4 y5 y6 y7 y8 y9, LeO (solsticelaw03_WeekExact.j3 k y0 y1 y2 y3 y4 y5 y6 y7 y8 y9) (solsticelaw03_WeekExact.j3 (k + 1) y0 y1 y2 y3 y4 y5 y6 y7 y8 y9))
  | 0 => ⟨fun _ _ _ _ _ _ _ _ _ _ _ _ _ _ _ r h => by simp [solsticelaw03_WeekExact.j0] at h, fun _ _ _ _ _ _ _ _ _ _ _ _ _ _ _ r h => by simp [solsticelaw03_WeekExact.j1] at h, fun _ _ _ _ _ _ _ _ _ r h => by simp [solsticelaw03_WeekExact.j2] at h, fun _ _ _ _ _ r h => by simp [solsticelaw03_WeekExact.j4] at h, fun _ _ _ _ _ _ r h => by simp [solsticelaw03_WeekExact.j5] at h, fun _ _ _ _ _ _ r h => by simp [solsticelaw03_WeekExact.j6] at h, fun _ _ _ _ _ _ _ _ _ _ r h => by simp [solsticelaw03_WeekExact.j3] at h⟩
  | k + 1 => by
    obtain ⟨ih0, ih1, ih2, ih3, ih4, ih5, ih6⟩ := solsticelaw03_WeekExact.mono_l k
    refine ⟨?_, ?_, ?_, ?_, ?_, ?_, ?_⟩
    · intro y0 y1 y2 y3 y4 y5 y6 y7 y8 y9 y10 y11 y12 y13 y14
      unfold solsticelaw03_WeekExact.j0
      repeat' first
      | (with_reducible exact ih0 _ _ _ _ _ _ _ _ _ _ _ _ _ _ _)
      | (with_reducible exact ih1 _ _ _ _ _ _ _ _ _ _ _ _ _ _ _)
      | (with_reducible exact ih2 _ _ _ _ _ _ _ _ _)
      | (with_reducible exact ih3 _ _ _ _ _)
      | (with_reducible exact ih4 _ _ _ _ _ _)
      | (with_reducible exact ih5 _ _ _ _ _ _)
      | (with_reducible exact ih6 _ _ _ _ _ _ _ _ _ _)
      | (with_reducible exact solsticelaw03_wakes.mono _)
      | (with_reducible exact solsticeref01_Date.mono _ _)
      | (with_reducible exact solsticeref01_Least.mono _)
      | (with_reducible exact solsticeref01_Most.mono _)
      | (with_reducible exact solsticeref01_No.mono _ _ _)
      | (with_reducible exact solsticeref01_Nth.mono _ _ _ _ _)
      | (with_reducible exact solsticeref01_On.mono _ _ _ _)
      | (with_reducible exact solsticeref01_Resolve.mono _ _ _ _ _ _)
      | (with_reducible exact solsticeref01_Weeks.mono _ _ _)
      | (with_reducible exact week_Check.mono _ _ _ _)
      | (with_reducible exact week_No.mono _ _ _)
      | (with_reducible exact week_Nth.mono _ _ _ _ _)
      | (with_reducible exact week_Resolve.mono _ _ _ _ _ _)
      | (with_reducible exact week_Weeks.mono _ _ _)
      | (with_reducible exact LeO.refl _)
      | (with_reducible exact LeO.none _)
      | (with_reducible refine LeO.ite ?_ ?_)
      | (with_reducible refine LeO.bind ?_ (fun _ => ?_))
      | exact ih0 _ _ _ _ _ _ _ _ _ _ _ _ _ _ _
      | exact ih1 _ _ _ _ _ _ _ _ _ _ _ _ _ _ _
      | exact ih2 _ _ _ _ _ _ _ _ _
      | exact ih3 _ _ _ _ _
      | exact ih4 _ _ _ _ _ _
      | exact ih5 _ _ _ _ _ _
      | exact ih6 _ _ _ _ _ _ _ _ _ _
      | exact solsticelaw03_wakes.mono _
      | exact solsticeref01_Date.mono _ _
      | exact solsticeref01_Least.mono _
      | exact solsticeref01_Most.mono _
      | exact solsticeref01_No.mono _ _ _
      | exact solsticeref01_Nth.mono _ _ _ _ _
      | exact solsticeref01_On.mono _ _ _ _
      | exact solsticeref01_Resolve.mono _ _ _ _ _ _
      | exact solsticeref01_Weeks.mono _ _ _
      | exact week_Check.mono _ _ _ _
      | exact week_No.mono _ _ _
      | exact week_Nth.mono _ _ _ _ _
      | exact week_Resolve.mono _ _ _ _ _ _
      | exact week_Weeks.mono _ _ _
      | exact LeO.none _
      | refine LeO.ite ?_ ?_
      | refine LeO.bind ?_ (fun _ => ?_)
    · intro y0 y1 y2 y3 y4 y5 y6 y7 y8 y9 y10 y11 y12 y13 y14
      unfold solsticelaw03_WeekExact.j1
      repeat' first
      | (with_reducible exact ih0 _ _ _ _ _ _ _ _ _ _ _ _ _ _ _)
      | (with_reducible exact ih1 _ _ _ _ _ _ _ _ _ _ _ _ _ _ _)
      | (with_reducible exact ih2 _ _ _ _ _ _ _ _ _)
      | (with_reducible exact ih3 _ _ _ _ _)
      | (with_reducible exact ih4 _ _ _ _ _ _)
      | (with_reducible exact ih5 _ _ _ _ _ _)
      | (with_reducible exact ih6 _ _ _ _ _ _ _ _ _ _)
      | (with_reducible exact solsticelaw03_wakes.mono _)
      | (with_reducible exact solsticeref01_Date.mono _ _)
      | (with_reducible exact solsticeref01_Least.mono _)
      | (with_reducible exact solsticeref01_Most.mono _)
      | (with_reducible exact solsticeref01_No.mono _ _ _)
      | (with_reducible exact solsticeref01_Nth.mono _ _ _ _ _)
      | (with_reducible exact solsticeref01_On.mono _ _ _ _)
      | (with_reducible exact solsticeref01_Resolve.mono _ _ _ _ _ _)
      | (with_reducible exact solsticeref01_Weeks.mono _ _ _)
      | (with_reducible exact week_Check.mono _ _ _ _)
      | (with_reducible exact week_No.mono _ _ _)
      | (with_reducible exact week_Nth.mono _ _ _ _ _)
      | (with_reducible exact week_Resolve.mono _ _ _ _ _ _)
      | (with_reducible exact week_Weeks.mono _ _ _)
      | (with_reducible exact LeO.refl _)
      | (with_reducible exact LeO.none _)
      | (with_reducible refine LeO.ite ?_ ?_)
      | (with_reducible refine LeO.bind ?_ (fun _ => ?_))
      | exact ih0 _ _ _ _ _ _ _ _ _ _ _ _ _ _ _
      | exact ih1 _ _ _ _ _ _ _ _ _ _ _ _ _ _ _
      | exact ih2 _ _ _ _ _ _ _ _ _
      | exact ih3 _ _ _ _ _
      | exact ih4 _ _ _ _ _ _
      | exact ih5 _ _ _ _ _ _
      | exact ih6 _ _ _ _ _ _ _ _ _ _
      | exact solsticelaw03_wakes.mono _
      | exact solsticeref01_Date.mono _ _
      | exact solsticeref01_Least.mono _
      | exact solsticeref01_Most.mono _
      | exact solsticeref01_No.mono _ _ _
      | exact solsticeref01_Nth.mono _ _ _ _ _
      | exact solsticeref01_On.mono _ _ _ _
      | exact solsticeref01_Resolve.mono _ _ _ _ _ _
      | exact solsticeref01_Weeks.mono _ _ _
      | exact week_Check.mono _ _ _ _
      | exact week_No.mono _ _ _
      | exact week_Nth.mono _ _ _ _ _
      | exact week_Resolve.mono _ _ _ _ _ _
      | exact week_Weeks.mono _ _ _
      | exact LeO.none _
      | refine LeO.ite ?_ ?_
      | refine LeO.bind ?_ (fun _ => ?_)
    · intro y0 y1 y2 y3 y4 y5 y6 y7 y8
      unfold solsticelaw03_WeekExact.j2
      repeat' first
      | (with_reducible exact ih0 _ _ _ _ _ _ _ _ _ _ _ _ _ _ _)
      | (with_reducible exact ih1 _ _ _ _ _ _ _ _ _ _ _ _ _ _ _)
      | (with_reducible exact ih2 _ _ _ _ _ _ _ _ _)
      | (with_reducible exact ih3 _ _ _ _ _)
      | (with_reducible exact ih4 _ _ _ _ _ _)
      | (with_reducible exact ih5 _ _ _ _ _ _)
      | (with_reducible exact ih6 _ _ _ _ _ _ _ _ _ _)
      | (with_reducible exact solsticelaw03_wakes.mono _)
      | (with_reducible exact solsticeref01_Date.mono _ _)
      | (with_reducible exact solsticeref01_Least.mono _)
      | (with_reducible exact solsticeref01_Most.mono _)
      | (with_reducible exact solsticeref01_No.mono _ _ _)
      | (with_reducible exact solsticeref01_Nth.mono _ _ _ _ _)
      | (with_reducible exact solsticeref01_On.mono _ _ _ _)
      | (with_reducible exact solsticeref01_Resolve.mono _ _ _ _ _ _)
      | (with_reducible exact solsticeref01_Weeks.mono _ _ _)
      | (with_reducible exact week_Check.mono _ _ _ _)
      | (with_reducible exact week_No.mono _ _ _)
      | (with_reducible exact week_Nth.mono _ _ _ _ _)
      | (with_reducible exact week_Resolve.mono _ _ _ _ _ _)
      | (with_reducible exact week_Weeks.mono _ _ _)
      | (with_reducible exact LeO.refl _)
      | (with_reducible exact LeO.none _)
      | (with_reducible refine LeO.ite ?_ ?_)
      | (with_reducible refine LeO.bind ?_ (fun _ => ?_))
      | exact ih0 _ _ _ _ _ _ _ _ _ _ _ _ _ _ _
      | exact ih1 _ _ _ _ _ _ _ _ _ _ _ _ _ _ _
      | exact ih2 _ _ _ _ _ _ _ _ _
      | exact ih3 _ _ _ _ _
      | exact ih4 _ _ _ _ _ _
      | exact ih5 _ _ _ _ _ _
      | exact ih6 _ _ _ _ _ _ _ _ _ _
      | exact solsticelaw03_wakes.mono _
      | exact solsticeref01_Date.mono _ _
      | exact solsticeref01_Least.mono _
      | exact solsticeref01_Most.mono _
      | exact solsticeref01_No.mono _ _ _
      | exact solsticeref01_Nth.mono _ _ _ _ _
      | exact solsticeref01_On.mono _ _ _ _
      | exact solsticeref01_Resolve.mono _ _ _ _ _ _
      | exact solsticeref01_Weeks.mono _ _ _
      | exact week_Check.mono _ _ _ _
      | exact week_No.mono _ _ _
      | exact week_Nth.mono _ _ _ _ _
      | exact week_Resolve.mono _ _ _ _ _ _
      | exact week_Weeks.mono _ _ _
      | exact LeO.none _
      | refine LeO.ite ?_ ?_
      | refine LeO.bind ?_ (fun _ => ?_)
    · intro y0 y1 y2 y3 y4
      unfold solsticelaw03_WeekExact.j4
      repeat' first
      | (with_reducible exact ih0 _ _ _ _ _ _ _ _ _ _ _ _ _ _ _)
      | (with_reducible exact ih1 _ _ _ _ _ _ _ _ _ _ _ _ _ _ _)
      | (with_reducible exact ih2 _ _ _ _ _ _ _ _ _)
      | (with_reducible exact ih3 _ _ _ _ _)
      | (with_reducible exact ih4 _ _ _ _ _ _)
      | (with_reducible exact ih5 _ _ _ _ _ _)
      | (with_reducible exact ih6 _ _ _ _ _ _ _ _ _ _)
      | (with_reducible exact solsticelaw03_wakes.mono _)
      | (with_reducible exact solsticeref01_Date.mono _ _)
      | (with_reducible exact solsticeref01_Least.mono _)
      | (with_reducible exact solsticeref01_Most.mono _)
      | (with_reducible exact solsticeref01_No.mono _ _ _)
      | (with_reducible exact solsticeref01_Nth.mono _ _ _ _ _)
      | (with_reducible exact solsticeref01_On.mono _ _ _ _)
      | (with_reducible exact solsticeref01_Resolve.mono _ _ _ _ _ _)
      | (with_reducible exact solsticeref01_Weeks.mono _ _ _)
      | (with_reducible exact week_Check.mono _ _ _ _)
      | (with_reducible exact week_No.mono _ _ _)
      | (with_reducible exact week_Nth.mono _ _ _ _ _)
      | (with_reducible exact week_Resolve.mono _ _ _ _ _ _)
      | (with_reducible exact week_Weeks.mono _ _ _)
      | (with_reducible exact LeO.refl _)
      | (with_reducible exact LeO.none _)
      | (with_reducible refine LeO.ite ?_ ?_)
      | (with_reducible refine LeO.bind ?_ (fun _ => ?_))
      | exact ih0 _ _ _ _ _ _ _ _ _ _ _ _ _ _ _
      | exact ih1 _ _ _ _ _ _ _ _ _ _ _ _ _ _ _
      | exact ih2 _ _ _ _ _ _ _ _ _
      | exact ih3 _ _ _ _ _
      | exact ih4 _ _ _ _ _ _
      | exact ih5 _ _ _ _ _ _
      | exact ih6 _ _ _ _ _ _ _ _ _ _
      | exact solsticelaw03_wakes.mono _
      | exact solsticeref01_Date.mono _ _
      | exact solsticeref01_Least.mono _
      | exact solsticeref01_Most.mono _
      | exact solsticeref01_No.mono _ _ _
      | exact solsticeref01_Nth.mono _ _ _ _ _
      | exact solsticeref01_On.mono _ _ _ _
      | exact solsticeref01_Resolve.mono _ _ _ _ _ _
      | exact solsticeref01_Weeks.mono _ _ _
      | exact week_Check.mono _ _ _ _
      | exact week_No.mono _ _ _
      | exact week_Nth.mono _ _ _ _ _
      | exact week_Resolve.mono _ _ _ _ _ _
      | exact week_Weeks.mono _ _ _
      | exact LeO.none _
      | refine LeO.ite ?_ ?_
      | refine LeO.bind ?_ (fun _ => ?_)
    · intro y0 y1 y2 y3 y4 y5
      unfold solsticelaw03_WeekExact.j5
      repeat' first
      | (with_reducible exact ih0 _ _ _ _ _ _ _ _ _ _ _ _ _ _ _)
      | (with_reducible exact ih1 _ _ _ _ _ _ _ _ _ _ _ _ _ _ _)
      | (with_reducible exact ih2 _ _ _ _ _ _ _ _ _)
      | (with_reducible exact ih3 _ _ _ _ _)
      | (with_reducible exact ih4 _ _ _ _ _ _)
      | (with_reducible exact ih5 _ _ _ _ _ _)
      | (with_reducible exact ih6 _ _ _ _ _ _ _ _ _ _)
      | (with_reducible exact solsticelaw03_wakes.mono _)
      | (with_reducible exact solsticeref01_Date.mono _ _)
      | (with_reducible exact solsticeref01_Least.mono _)
      | (with_reducible exact solsticeref01_Most.mono _)
      | (with_reducible exact solsticeref01_No.mono _ _ _)
      | (with_reducible exact solsticeref01_Nth.mono _ _ _ _ _)
      | (with_reducible exact solsticeref01_On.mono _ _ _ _)
      | (with_reducible exact solsticeref01_Resolve.mono _ _ _ _ _ _)
      | (with_reducible exact solsticeref01_Weeks.mono _ _ _)
      | (with_reducible exact week_Check.mono _ _ _ _)
      | (with_reducible exact week_No.mono _ _ _)
      | (with_reducible exact week_Nth.mono _ _ _ _ _)
      | (with_reducible exact week_Resolve.mono _ _ _ _ _ _)
      | (with_reducible exact week_Weeks.mono _ _ _)
      | (with_reducible exact LeO.refl _)
      | (with_reducible exact LeO.none _)
      | (with_reducible refine LeO.ite ?_ ?_)
      | (with_reducible refine LeO.bind ?_ (fun _ => ?_))
      | exact ih0 _ _ _ _ _ _ _ _ _ _ _ _ _ _ _
      | exact ih1 _ _ _ _ _ _ _ _ _ _ _ _ _ _ _
      | exact ih2 _ _ _ _ _ _ _ _ _
      | exact ih3 _ _ _ _ _
      | exact ih4 _ _ _ _ _ _
      | exact ih5 _ _ _ _ _ _
      | exact ih6 _ _ _ _ _ _ _ _ _ _
      | exact solsticelaw03_wakes.mono _
      | exact solsticeref01_Date.mono _ _
      | exact solsticeref01_Least.mono _
      | exact solsticeref01_Most.mono _
      | exact solsticeref01_No.mono _ _ _
      | exact solsticeref01_Nth.mono _ _ _ _ _
      | exact solsticeref01_On.mono _ _ _ _
      | exact solsticeref01_Resolve.mono _ _ _ _ _ _
      | exact solsticeref01_Weeks.mono _ _ _
      | exact week_Check.mono _ _ _ _
      | exact week_No.mono _ _ _
      | exact week_Nth.mono _ _ _ _ _
      | exact week_Resolve.mono _ _ _ _ _ _
      | exact week_Weeks.mono _ _ _
      | exact LeO.none _
      | refine LeO.ite ?_ ?_
      | refine LeO.bind ?_ (fun _ => ?_)
    · intro y0 y1 y2 y3 y4 y5
      unfold solsticelaw03_WeekExact.j6
      repeat' first
      | (with_reducible exact ih0 _ _ _ _ _ _ _ _ _ _ _ _ _ _ _)
      | (with_reducible exact ih1 _ _ _ _ _ _ _ _ _ _ _ _ _ _ _)
      | (with_reducible exact ih2 _ _ _ _ _ _ _ _ _)
      | (with_reducible exact ih3 _ _ _ _ _)
      | (with_reducible exact ih4 _ _ _ _ _ _)
      | (with_reducible exact ih5 _ _ _ _ _ _)
      | (with_reducible exact ih6 _ _ _ _ _ _ _ _ _ _)
      | (with_reducible exact solsticelaw03_wakes.mono _)
      | (with_reducible exact solsticeref01_Date.mono _ _)
      | (with_reducible exact solsticeref01_Least.mono _)
      | (with_reducible exact solsticeref01_Most.mono _)
      | (with_reducible exact solsticeref01_No.mono _ _ _)
      | (with_reducible exact solsticeref01_Nth.mono _ _ _ _ _)
      | (with_reducible exact solsticeref01_On.mono _ _ _ _)
      | (with_reducible exact solsticeref01_Resolve.mono _ _ _ _ _ _)
      | (with_reducible exact solsticeref01_Weeks.mono _ _ _)
      | (with_reducible exact week_Check.mono _ _ _ _)
      | (with_reducible exact week_No.mono _ _ _)
      | (with_reducible exact week_Nth.mono _ _ _ _ _)
      | (with_reducible exact week_Resolve.mono _ _ _ _ _ _)
      | (with_reducible exact week_Weeks.mono _ _ _)
      | (with_reducible exact LeO.refl _)
      | (with_reducible exact LeO.none _)
      | (with_reducible refine LeO.ite ?_ ?_)
      | (with_reducible refine LeO.bind ?_ (fun _ => ?_))
      | exact ih0 _ _ _ _ _ _ _ _ _ _ _ _ _ _ _
      | exact ih1 _ _ _ _ _ _ _ _ _ _ _ _ _ _ _
      | exact ih2 _ _ _ _ _ _ _ _ _
      | exact ih3 _ _ _ _ _
      | exact ih4 _ _ _ _ _ _
      | exact ih5 _ _ _ _ _ _
      | exact ih6 _ _ _ _ _ _ _ _ _ _
      | exact solsticelaw03_wakes.mono _
      | exact solsticeref01_Date.mono _ _
      | exact solsticeref01_Least.mono _
      | exact solsticeref01_Most.mono _
      | exact solsticeref01_No.mono _ _ _
      | exact solsticeref01_Nth.mono _ _ _ _ _
      | exact solsticeref01_On.mono _ _ _ _
      | exact solsticeref01_Resolve.mono _ _ _ _ _ _
      | exact solsticeref01_Weeks.mono _ _ _
      | exact week_Check.mono _ _ _ _
      | exact week_No.mono _ _ _
      | exact week_Nth.mono _ _ _ _ _
      | exact week_Resolve.mono _ _ _ _ _ _
      | exact week_Weeks.mono _ _ _
      | exact LeO.none _
      | refine LeO.ite ?_ ?_
      | refine LeO.bind ?_ (fun _ => ?_)
    · intro y0 y1 y2 y3 y4 y5 y6 y7 y8 y9
      unfold solsticelaw03_WeekExact.j3
      repeat' first
      | (with_reducible exact ih0 _ _ _ _ _ _ _ _ _ _ _ _ _ _ _)
      | (with_reducible exact ih1 _ _ _ _ _ _ _ _ _ _ _ _ _ _ _)
      | (with_reducible exact ih2 _ _ _ _ _ _ _ _ _)
      | (with_reducible exact ih3 _ _ _ _ _)
      | (with_reducible exact ih4 _ _ _ _ _ _)
      | (with_reducible exact ih5 _ _ _ _ _ _)
      | (with_reducible exact ih6 _ _ _ _ _ _ _ _ _ _)
      | (with_reducible exact solsticelaw03_wakes.mono _)
      | (with_reducible exact solsticeref01_Date.mono _ _)
      | (with_reducible exact solsticeref01_Least.mono _)
      | (with_reducible exact solsticeref01_Most.mono _)
      | (with_reducible exact solsticeref01_No.mono _ _ _)
      | (with_reducible exact solsticeref01_Nth.mono _ _ _ _ _)
      | (with_reducible exact solsticeref01_On.mono _ _ _ _)
      | (with_reducible exact solsticeref01_Resolve.mono _ _ _ _ _ _)
      | (with_reducible exact solsticeref01_Weeks.mono _ _ _)
      | (with_reducible exact week_Check.mono _ _ _ _)
      | (with_reducible exact week_No.mono _ _ _)
      | (with_reducible exact week_Nth.mono _ _ _ _ _)
      | (with_reducible exact week_Resolve.mono _ _ _ _ _ _)
      | (with_reducible exact week_Weeks.mono _ _ _)
      | (with_reducible exact LeO.refl _)
      | (with_reducible exact LeO.none _)
      | (with_reducible refine LeO.ite ?_ ?_)
      | (with_reducible refine LeO.bind ?_ (fun _ => ?_))
      | exact ih0 _ _ _ _ _ _ _ _ _ _ _ _ _ _ _
      | exact ih1 _ _ _ _ _ _ _ _ _ _ _ _ _ _ _
      | exact ih2 _ _ _ _ _ _ _ _ _
      | exact ih3 _ _ _ _ _
      | exact ih4 _ _ _ _ _ _
      | exact ih5 _ _ _ _ _ _
      | exact ih6 _ _ _ _ _ _ _ _ _ _
      | exact solsticelaw03_wakes.mono _
      | exact solsticeref01_Date.mono _ _
      | exact solsticeref01_Least.mono _
      | exact solsticeref01_Most.mono _
      | exact solsticeref01_No.mono _ _ _
      | exact solsticeref01_Nth.mono _ _ _ _ _
      | exact solsticeref01_On.mono _ _ _ _
      | exact solsticeref01_Resolve.mono _ _ _ _ _ _
      | exact solsticeref01_Weeks.mono _ _ _
      | exact week_Check.mono _ _ _ _
      | exact week_No.mono _ _ _
      | exact week_Nth.mono _ _ _ _ _
      | exact week_Resolve.mono _ _ _ _ _ _
      | exact week_Weeks.mono _ _ _
      | exact LeO.none _
      | refine LeO.ite ?_ ?_
      | refine LeO.bind ?_ (fun _ => ?_)
theorem solsticelaw03_WeekExact.mono : ∀ a0 a1 a2 a3 a4 a5 a6 a7 a8 k, LeO (solsticelaw03_WeekExact.f k a0 a1 a2 a3 a4 a5 a6 a7 a8) (solsticelaw03_WeekExact.f (k + 1) a0 a1 a2 a3 a4 a5 a6 a7 a8) := by
  intro a0 a1 a2 a3 a4 a5 a6 a7 a8 k
  obtain ⟨ih0, ih1, ih2, ih3, ih4, ih5, ih6⟩ := solsticelaw03_WeekExact.mono_l k
  unfold solsticelaw03_WeekExact.f
  repeat' first
      | (with_reducible exact ih0 _ _ _ _ _ _ _ _ _ _ _ _ _ _ _)
      | (with_reducible exact ih1 _ _ _ _ _ _ _ _ _ _ _ _ _ _ _)
      | (with_reducible exact ih2 _ _ _ _ _ _ _ _ _)
      | (with_reducible exact ih3 _ _ _ _ _)
      | (with_reducible exact ih4 _ _ _ _ _ _)
      | (with_reducible exact ih5 _ _ _ _ _ _)
      | (with_reducible exact ih6 _ _ _ _ _ _ _ _ _ _)
      | (with_reducible exact solsticelaw03_wakes.mono _)
      | (with_reducible exact solsticeref01_Date.mono _ _)
      | (with_reducible exact solsticeref01_Least.mono _)
      | (with_reducible exact solsticeref01_Most.mono _)
      | (with_reducible exact solsticeref01_No.mono _ _ _)
      | (with_reducible exact solsticeref01_Nth.mono _ _ _ _ _)
      | (with_reducible exact solsticeref01_On.mono _ _ _ _)
      | (with_reducible exact solsticeref01_Resolve.mono _ _ _ _ _ _)
      | (with_reducible exact solsticeref01_Weeks.mono _ _ _)
      | (with_reducible exact week_Check.mono _ _ _ _)
      | (with_reducible exact week_No.mono _ _ _)
      | (with_reducible exact week_Nth.mono _ _ _ _ _)
      | (with_reducible exact week_Resolve.mono _ _ _ _ _ _)
      | (with_reducible exact week_Weeks.mono _ _ _)
      | (with_reducible exact LeO.refl _)
      | (with_reducible exact LeO.none _)
      | (with_reducible refine LeO.ite ?_ ?_)
      | (with_reducible refine LeO.bind ?_ (fun _ => ?_))
      | exact ih0 _ _ _ _ _ _ _ _ _ _ _ _ _ _ _
      | exact ih1 _ _ _ _ _ _ _ _ _ _ _ _ _ _ _
      | exact ih2 _ _ _ _ _ _ _ _ _
      | exact ih3 _ _ _ _ _
      | exact ih4 _ _ _ _ _ _
      | exact ih5 _ _ _ _ _ _
      | exact ih6 _ _ _ _ _ _ _ _ _ _
      | exact solsticelaw03_wakes.mono _
      | exact solsticeref01_Date.mono _ _
      | exact solsticeref01_Least.mono _
      | exact solsticeref01_Most.mono _
      | exact solsticeref01_No.mono _ _ _
      | exact solsticeref01_Nth.mono _ _ _ _ _
      | exact solsticeref01_On.mono _ _ _ _
      | exact solsticeref01_Resolve.mono _ _ _ _ _ _
      | exact solsticeref01_Weeks.mono _ _ _
      | exact week_Check.mono _ _ _ _
      | exact week_No.mono _ _ _
      | exact week_Nth.mono _ _ _ _ _
      | exact week_Resolve.mono _ _ _ _ _ _
      | exact week_Weeks.mono _ _ _
      | exact LeO.none _
      | refine LeO.ite ?_ ?_
      | refine LeO.bind ?_ (fun _ => ?_)
set_option maxHeartbeats 8000000 in
set_option maxRecDepth 100000 in
theorem solsticelaw03_WeekExact.calls (k : Nat) (a0_0 : Int) (a0_1 : Int) (a0_2 : Int) (a1 : Int) (a2 : Int) (a3 : Int) (a4 : Int) (a5 : Int) (a6 : Int) (r : Bool) (w : World) (hr0 : r = true) (h : solsticelaw03_WeekExact.f k a0_0 a0_1 a0_2 a1 a2 a3 a4 a5 a6 = some r) :
    Calls Try.prog 3 #[.agg #[.int .i64 a0_0, .int .i64 a0_1, .int .i64 a0_2], .int .i64 a1, .int .i64 a2, .int .i64 a3, .int .i64 a4, .int .i64 a5, .int .i64 a6] w fun e w' => e = .returned (.bool r) ∧ Below w.heap.size w w' := by
  have hr := Aside0.mk hr0
  clear hr0
  have hu23 := Try.underlying23
  have HB := Aside0.mk (Below.refl w.heap.size w)
  have H : ((week_Resolve.f k a1 a2 a0_0 a0_1 a0_2).bind fun bt238 => ((week_Nth.f k a3 a4 a5 a6).bind fun bt240 => ((week_No.f k a3 a6).bind fun bt242 => ((week_Weeks.f k a1 a6).bind fun bt245 => ((week_Check.f k a0_0 a0_1 a0_2).bind fun t247 => ((solsticeref01_On.f k a0_0 a0_1 a0_2).bind fun t248 => (if ((t247 == 0) != t248) = true then (some false) else ((solsticeref01_Nth.f k a3 a4 a5 a6).bind fun bt249 => (if bt240.1 = bt249.1 then (solsticelaw03_WeekExact.j0 k a1 a2 a3 a6 bt238.1 bt238.2 bt242.1 bt242.2.1 bt242.2.2 bt245.1 bt245.2 (bt240.2 != bt249.2) a0_0 a0_1 a0_2) else (solsticelaw03_WeekExact.j0 k a1 a2 a3 a6 bt238.1 bt238.2 bt242.1 bt242.2.1 bt242.2.2 bt245.1 bt245.2 true a0_0 a0_1 a0_2)))))))))) = some r := h
  clear h
  replace H := Option.bind_eq_some_iff.mp H
  obtain ⟨⟨t238, t239⟩, A80, H⟩ := H
  replace H : ((week_Nth.f k a3 a4 a5 a6).bind fun bt240 => ((week_No.f k a3 a6).bind fun bt242 => ((week_Weeks.f k a1 a6).bind fun bt245 => ((week_Check.f k a0_0 a0_1 a0_2).bind fun t247 => ((solsticeref01_On.f k a0_0 a0_1 a0_2).bind fun t248 => (if ((t247 == 0) != t248) = true then (some false) else ((solsticeref01_Nth.f k a3 a4 a5 a6).bind fun bt249 => (if bt240.1 = bt249.1 then (solsticelaw03_WeekExact.j0 k a1 a2 a3 a6 t238 t239 bt242.1 bt242.2.1 bt242.2.2 bt245.1 bt245.2 (bt240.2 != bt249.2) a0_0 a0_1 a0_2) else (solsticelaw03_WeekExact.j0 k a1 a2 a3 a6 t238 t239 bt242.1 bt242.2.1 bt242.2.2 bt245.1 bt245.2 true a0_0 a0_1 a0_2))))))))) = some r := H
  have A8 := Aside0.mk A80
  clear A80
  replace H := Option.bind_eq_some_iff.mp H
  obtain ⟨⟨t240, t241⟩, A90, H⟩ := H
  replace H : ((week_No.f k a3 a6).bind fun bt242 => ((week_Weeks.f k a1 a6).bind fun bt245 => ((week_Check.f k a0_0 a0_1 a0_2).bind fun t247 => ((solsticeref01_On.f k a0_0 a0_1 a0_2).bind fun t248 => (if ((t247 == 0) != t248) = true then (some false) else ((solsticeref01_Nth.f k a3 a4 a5 a6).bind fun bt249 => (if t240 = bt249.1 then (solsticelaw03_WeekExact.j0 k a1 a2 a3 a6 t238 t239 bt242.1 bt242.2.1 bt242.2.2 bt245.1 bt245.2 (t241 != bt249.2) a0_0 a0_1 a0_2) else (solsticelaw03_WeekExact.j0 k a1 a2 a3 a6 t238 t239 bt242.1 bt242.2.1 bt242.2.2 bt245.1 bt245.2 true a0_0 a0_1 a0_2)))))))) = some r := H
  have A9 := Aside0.mk A90
  clear A90
  replace H := Option.bind_eq_some_iff.mp H
  obtain ⟨⟨t242, t243, t244⟩, A100, H⟩ := H
  replace H : ((week_Weeks.f k a1 a6).bind fun bt245 => ((week_Check.f k a0_0 a0_1 a0_2).bind fun t247 => ((solsticeref01_On.f k a0_0 a0_1 a0_2).bind fun t248 => (if ((t247 == 0) != t248) = true then (some false) else ((solsticeref01_Nth.f k a3 a4 a5 a6).bind fun bt249 => (if t240 = bt249.1 then (solsticelaw03_WeekExact.j0 k a1 a2 a3 a6 t238 t239 t242 t243 t244 bt245.1 bt245.2 (t241 != bt249.2) a0_0 a0_1 a0_2) else (solsticelaw03_WeekExact.j0 k a1 a2 a3 a6 t238 t239 t242 t243 t244 bt245.1 bt245.2 true a0_0 a0_1 a0_2))))))) = some r := H
  have A10 := Aside0.mk A100
  clear A100
  replace H := Option.bind_eq_some_iff.mp H
  obtain ⟨⟨t245, t246⟩, A110, H⟩ := H
  replace H : ((week_Check.f k a0_0 a0_1 a0_2).bind fun t247 => ((solsticeref01_On.f k a0_0 a0_1 a0_2).bind fun t248 => (if ((t247 == 0) != t248) = true then (some false) else ((solsticeref01_Nth.f k a3 a4 a5 a6).bind fun bt249 => (if t240 = bt249.1 then (solsticelaw03_WeekExact.j0 k a1 a2 a3 a6 t238 t239 t242 t243 t244 t245 t246 (t241 != bt249.2) a0_0 a0_1 a0_2) else (solsticelaw03_WeekExact.j0 k a1 a2 a3 a6 t238 t239 t242 t243 t244 t245 t246 true a0_0 a0_1 a0_2)))))) = some r := H
  have A11 := Aside0.mk A110
  clear A110
  replace H := Option.bind_eq_some_iff.mp H
  obtain ⟨t247, A120, H⟩ := H
  replace H : ((solsticeref01_On.f k a0_0 a0_1 a0_2).bind fun t248 => (if ((t247 == 0) != t248) = true then (some false) else ((solsticeref01_Nth.f k a3 a4 a5 a6).bind fun bt249 => (if t240 = bt249.1 then (solsticelaw03_WeekExact.j0 k a1 a2 a3 a6 t238 t239 t242 t243 t244 t245 t246 (t241 != bt249.2) a0_0 a0_1 a0_2) else (solsticelaw03_WeekExact.j0 k a1 a2 a3 a6 t238 t239 t242 t243 t244 t245 t246 true a0_0 a0_1 a0_2))))) = some r := H
  have A12 := Aside0.mk A120
  clear A120
  replace H := Option.bind_eq_some_iff.mp H
  obtain ⟨t248, A130, H⟩ := H
  replace H : (if ((t247 == 0) != t248) = true then (some false) else ((solsticeref01_Nth.f k a3 a4 a5 a6).bind fun bt249 => (if t240 = bt249.1 then (solsticelaw03_WeekExact.j0 k a1 a2 a3 a6 t238 t239 t242 t243 t244 t245 t246 (t241 != bt249.2) a0_0 a0_1 a0_2) else (solsticelaw03_WeekExact.j0 k a1 a2 a3 a6 t238 t239 t242 t243 t244 t245 t246 true a0_0 a0_1 a0_2)))) = some r := H
  have A13 := Aside0.mk A130
  clear A130
  by_cases c14 : ((t247 == 0) != t248) = true
  · rw [if_pos c14] at H
    have c14b0 : ((t247 == 0) != t248) = true := c14
    (try (have c14b1 : decide ((t247 == 0) = t248) = false := by simpa using c14))
    (try (have c14b2 : ((t247 == 0) == t248) = false := by simpa using c14))
    (try (have c14b3 : ¬ ((t247 == 0) = t248) := by simpa using c14))
    clear c14
    exact absurd ((Option.some.inj H).trans hr.out) (by decide)
  · rw [if_neg c14] at H
    have c14b0 : ((t247 == 0) != t248) = false := by simpa using c14
    (try (have c14b1 : decide ((t247 == 0) = t248) = true := by simpa using c14))
    (try (have c14b2 : ((t247 == 0) == t248) = true := by simpa using c14))
    clear c14
    replace H := Option.bind_eq_some_iff.mp H
    obtain ⟨⟨t249, t250⟩, A230, H⟩ := H
    replace H : (if t240 = t249 then (solsticelaw03_WeekExact.j0 k a1 a2 a3 a6 t238 t239 t242 t243 t244 t245 t246 (t241 != t250) a0_0 a0_1 a0_2) else (solsticelaw03_WeekExact.j0 k a1 a2 a3 a6 t238 t239 t242 t243 t244 t245 t246 true a0_0 a0_1 a0_2)) = some r := H
    have A23 := Aside0.mk A230
    clear A230
    have HC24 := Aside0.mk H
    clear H
    have hfd39_0 : ∀ (w : World) (x0 x1 x2 : Int), (Instr.field 39 (.agg #[.int .i64 x0, .int .i64 x1, .int .i64 x2]) 0).run Try.prog w = .ok (.int .i64 x0) w := fun _ _ _ _ => by kernel_rfl
    go_enter Try.func3, Try.ntmps3
    try go_wp2_with (first | ((with_reducible refine gate_dst (N := 7) rfl ?_); refine box_event ?hg (N := 7) ?hd (cs := #[.int .i64 a0_0, .int .i64 a0_1, .int .i64 a0_2]) (t := 23) ?hr ?_; (case hd => rfl); (case hg => rfl); (case hr => first | (go_simp; done) | (go_simp; rfl)); intro gb237 hg w25 hbox hb; have n0_ := Aside0.mk (below_step (by repeat (first | (with_reducible first | exact HB.out | apply below_alloc | apply pw_below_drewN | apply below_drew1) | exact HB.out)) hb); have n1_ := Aside0.mk (hbox); have n2_ := Aside0.mk ((by rw [hg]; exact (below_size (by repeat (first | (with_reducible first | exact HB.out | apply below_alloc | apply pw_below_drewN | apply below_drew1) | exact HB.out))) : w.heap.size ≤ gb237)); have n3_ := Aside0.mk ((by rw [hg]; exact (below_size (by repeat (first | (with_reducible first | exact HB.out | apply below_alloc | apply pw_below_drewN | apply below_drew1) | exact HB.out))) : w.heap.size ≤ gb237)); clear HB; have HB := n0_; have BK237 := n1_; have GW237 := n2_; have GE237 := n3_; clear n0_ n1_ n2_ n3_; clear hb hbox hg; have hcz26_0 : w25.cell? ⟨gb237, 0, none⟩ = some (.int .i64 a0_0) := (blk_cell BK237.out 0).trans rfl; have hcz26_1 : w25.cell? ⟨gb237, 1, none⟩ = some (.int .i64 a0_1) := (blk_cell BK237.out 1).trans rfl; have hcz26_2 : w25.cell? ⟨gb237, 2, none⟩ = some (.int .i64 a0_2) := (blk_cell BK237.out 2).trans rfl; have hfz26_0 := blk_frozen BK237.out 0; have hfz26_1 := blk_frozen BK237.out 1; have hfz26_2 := blk_frozen BK237.out 2) | ((with_reducible refine gate_callee (f := 9) rfl ?_); refine goesL_ (some 36) rfl rfl Try.func9 (by kernel_rfl) rfl #[.int .i64 a1, .int .i64 a2, .agg #[.int .i64 a0_0, .int .i64 a0_1, .int .i64 a0_2]] rfl (by (try simp only [List.map_toArray, List.map_cons, List.map_nil]); first | done | rfl | (simp only [List.length_drop, List.length_take]; rfl)) ?_; (with_reducible refine (week_Resolve.calls k a1 a2 a0_0 a0_1 a0_2 t238 t239 _ A8.out).mono ?_); rintro e w27 ⟨rfl, hb⟩; refine ⟨_, rfl, ?_⟩; have n0_ := Aside0.mk (blk_below (g := gb237) (o := .cells #[.int .i64 a0_0, .int .i64 a0_1, .int .i64 a0_2] 23 (0, 0)) (by (with_reducible repeat (first | refine blk_drewN ?_ _ | refine blk_drew ?_ | refine blk_alloc ?_ _)); exact BK237.out) hb); have n1_ := Aside0.mk (below_step (by repeat (first | (with_reducible first | exact HB.out | apply below_alloc | apply pw_below_drewN | apply below_drew1 | refine below_set ?_ GE237.out) | exact HB.out)) hb); clear BK237; clear HB; have BK237 := n0_; have HB := n1_; clear n0_ n1_; (try clear hb); (try clear hb2); (try clear hk); (try clear hi)) | ((with_reducible refine gate_callee (f := 10) rfl ?_); refine goesL_ (some 44) rfl rfl Try.func10 (by kernel_rfl) rfl #[.int .i64 a3, .int .i64 a4, .int .i64 a5, .int .i64 a6] rfl (by (try simp only [List.map_toArray, List.map_cons, List.map_nil]); first | done | rfl | (simp only [List.length_drop, List.length_take]; rfl)) ?_; (with_reducible refine (week_Nth.calls k a3 a4 a5 a6 t240 t241 _ A9.out).mono ?_); rintro e w' ⟨rfl, ⟨nd, rfl⟩⟩; refine ⟨_, rfl, ?_⟩) | ((with_reducible refine gate_callee (f := 11) rfl ?_); refine goesL_ (some 50) rfl rfl Try.func11 (by kernel_rfl) rfl #[.int .i64 a3, .int .i64 a6] rfl (by (try simp only [List.map_toArray, List.map_cons, List.map_nil]); first | done | rfl | (simp only [List.length_drop, List.length_take]; rfl)) ?_; (with_reducible refine (week_No.calls k a3 a6 t242 t243 t244 _ A10.out).mono ?_); rintro e w28 ⟨rfl, hb⟩; refine ⟨_, rfl, ?_⟩; have n0_ := Aside0.mk (blk_below (g := gb237) (o := .cells #[.int .i64 a0_0, .int .i64 a0_1, .int .i64 a0_2] 23 (0, 0)) (by (with_reducible repeat (first | refine blk_drewN ?_ _ | refine blk_drew ?_ | refine blk_alloc ?_ _)); exact BK237.out) hb); have n1_ := Aside0.mk (below_step (by repeat (first | (with_reducible first | exact HB.out | apply below_alloc | apply pw_below_drewN | apply below_drew1 | refine below_set ?_ GE237.out) | exact HB.out)) hb); clear BK237; clear HB; have BK237 := n0_; have HB := n1_; clear n0_ n1_; (try clear hb); (try clear hb2); (try clear hk); (try clear hi)) | ((with_reducible refine gate_callee (f := 12) rfl ?_); refine goesL_ (some 57) rfl rfl Try.func12 (by kernel_rfl) rfl #[.int .i64 a1, .int .i64 a6] rfl (by (try simp only [List.map_toArray, List.map_cons, List.map_nil]); first | done | rfl | (simp only [List.length_drop, List.length_take]; rfl)) ?_; (with_reducible refine (week_Weeks.calls k a1 a6 t245 t246 _ A11.out).mono ?_); rintro e w29 ⟨rfl, hb⟩; refine ⟨_, rfl, ?_⟩; have n0_ := Aside0.mk (blk_below (g := gb237) (o := .cells #[.int .i64 a0_0, .int .i64 a0_1, .int .i64 a0_2] 23 (0, 0)) (by (with_reducible repeat (first | refine blk_drewN ?_ _ | refine blk_drew ?_ | refine blk_alloc ?_ _)); exact BK237.out) hb); have n1_ := Aside0.mk (below_step (by repeat (first | (with_reducible first | exact HB.out | apply below_alloc | apply pw_below_drewN | apply below_drew1 | refine below_set ?_ GE237.out) | exact HB.out)) hb); clear BK237; clear HB; have BK237 := n0_; have HB := n1_; clear n0_ n1_; (try clear hb); (try clear hb2); (try clear hk); (try clear hi)))
    have n0_ := Aside0.mk (blk_drew BK237.out)
    have n1_ := Aside0.mk (below_drew1 HB.out)
    clear BK237
    clear HB
    have BK237 := n0_
    have HB := n1_
    clear n0_ n1_
    refine start_ (n := 6) (S := fun w' => w'.cell? ⟨gb237, 0, none⟩ = some (.int .i64 a0_0) ∧ w'.cell? ⟨gb237, 1, none⟩ = some (.int .i64 a0_1) ∧ w'.cell? ⟨gb237, 2, none⟩ = some (.int .i64 a0_2)) (ds := []) #[false, false, false, false, false, false] (by kernel_rfl) rfl rfl ⟨(blk_cell BK237.out 0).trans rfl, (blk_cell BK237.out 1).trans rfl, (blk_cell BK237.out 2).trans rfl⟩ (fun hHeld => ?_)
    generalize w29.drew = w30 at BK237 HB hHeld ⊢
    refine take_ (i := 0) (N := some 60) (v := ?_) (a' := ?_) #[true, false, false, false, false, false] rfl rfl (by kernel_rfl) (fun _ _ _ h => h) (Or.inl ⟨by rfl, ?_⟩) hHeld ?_ ?_
    rotate_left
    · rintro w' ⟨s0, s1, s2⟩
      go_simp
      with_reducible rfl
    rotate_left
    · simp only [Act.put, List.setIfInBounds_toArray, List.set_cons_zero, List.set_cons_succ, i64_w, i32_w]
      rfl
    refine take_ (i := 3) (N := some 63) (v := ?_) (a' := ?_) #[true, false, false, true, false, false] rfl rfl (by kernel_rfl) (fun _ _ _ h => h) (Or.inl ⟨by rfl, ?_⟩) hHeld ?_ ?_
    rotate_left
    · rintro w' ⟨s0, s1, s2⟩
      go_simp
      with_reducible rfl
    rotate_left
    · simp only [Act.put, List.setIfInBounds_toArray, List.set_cons_zero, List.set_cons_succ, i64_w, i32_w]
      rfl
    refine one_ (i := 1) (N := some 61) #[true, true, false, true, false, false] rfl rfl (by kernel_rfl) (by decide) (fun K hK => ?_)
    refine goes_ Try.func13 (by kernel_rfl) rfl #[.agg #[.int .i64 a0_0, .int .i64 a0_1, .int .i64 a0_2]] (by rfl) rfl rfl (by (try simp only [List.map_toArray, List.map_cons, List.map_nil]); first | done | rfl | (simp only [List.length_drop, List.length_take]; rfl)) ?_
    with_reducible refine (week_Check.calls k a0_0 a0_1 a0_2 t247 _ A12.out).mono ?_
    rintro e w31 ⟨rfl, hb⟩
    refine ⟨_, rfl, ?_⟩
    have n0_ := Aside0.mk (blk_below (g := gb237) (o := .cells #[.int .i64 a0_0, .int .i64 a0_1, .int .i64 a0_2] 23 (0, 0)) (by (with_reducible repeat (first | refine blk_drewN ?_ _ | refine blk_drew ?_ | refine blk_alloc ?_ _)); exact BK237.out) hb)
    have n1_ := Aside0.mk (below_step (by repeat (first | (with_reducible first | exact HB.out | apply below_alloc | apply pw_below_drewN | apply below_drew1 | refine below_set ?_ GE237.out) | exact HB.out)) hb)
    clear BK237
    clear HB
    have BK237 := n0_
    have HB := n1_
    clear n0_ n1_
    (try clear hb)
    (try clear hb2)
    (try clear hk)
    (try clear hi)
    refine hK.out _ _ ⟨(blk_cell BK237.out 0).trans rfl, (blk_cell BK237.out 1).trans rfl, (blk_cell BK237.out 2).trans rfl⟩ (fun hHeld => ?_)
    clear hK K
    refine norm_ (a' := ?_) ?_ ?_
    rotate_left
    · show Act.put _ (some 61) _ = _
      simp only [Act.put, List.setIfInBounds_toArray, List.set_cons_zero, List.set_cons_succ, i64_w, i32_w]
      rfl
    refine pure_ (i := 2) (N := some 62) (v := ?_) (a' := ?_) #[true, true, true, true, false, false] rfl rfl (by kernel_rfl) (fun _ _ _ h => h) (Or.inl ⟨by rfl, ?_⟩) ?_ ?_
    rotate_left
    · intro w'
      go_simp
      with_reducible rfl
    rotate_left
    · simp only [Act.put, List.setIfInBounds_toArray, List.set_cons_zero, List.set_cons_succ, i64_w, i32_w]
      rfl
    refine one_ (i := 4) (N := some 64) #[true, true, true, true, true, false] rfl rfl (by kernel_rfl) (by decide) (fun K hK => ?_)
    refine goes_ Try.func14 (by kernel_rfl) rfl #[.agg #[.int .i64 a0_0, .int .i64 a0_1, .int .i64 a0_2]] (by rfl) rfl rfl (by (try simp only [List.map_toArray, List.map_cons, List.map_nil]); first | done | rfl | (simp only [List.length_drop, List.length_take]; rfl)) ?_
    with_reducible refine (solsticeref01_On.calls k a0_0 a0_1 a0_2 t248 _ A13.out).mono ?_
    rintro e w32 ⟨rfl, hb⟩
    refine ⟨_, rfl, ?_⟩
    have n0_ := Aside0.mk (blk_below (g := gb237) (o := .cells #[.int .i64 a0_0, .int .i64 a0_1, .int .i64 a0_2] 23 (0, 0)) (by (with_reducible repeat (first | refine blk_drewN ?_ _ | refine blk_drew ?_ | refine blk_alloc ?_ _)); exact BK237.out) hb)
    have n1_ := Aside0.mk (below_step (by repeat (first | (with_reducible first | exact HB.out | apply below_alloc | apply pw_below_drewN | apply below_drew1 | refine below_set ?_ GE237.out) | exact HB.out)) hb)
    clear BK237
    clear HB
    have BK237 := n0_
    have HB := n1_
    clear n0_ n1_
    (try clear hb)
    (try clear hb2)
    (try clear hk)
    (try clear hi)
    refine hK.out _ _ ⟨(blk_cell BK237.out 0).trans rfl, (blk_cell BK237.out 1).trans rfl, (blk_cell BK237.out 2).trans rfl⟩ (fun hHeld => ?_)
    clear hK K
    refine norm_ (a' := ?_) ?_ ?_
    rotate_left
    · show Act.put _ (some 64) _ = _
      simp only [Act.put, List.setIfInBounds_toArray, List.set_cons_zero, List.set_cons_succ, i64_w, i32_w]
      rfl
    refine pure_ (i := 5) (N := some 65) (v := ?_) (a' := ?_) #[true, true, true, true, true, true] rfl rfl (by kernel_rfl) (fun _ _ _ h => h) (Or.inl ⟨by rfl, ?_⟩) ?_ ?_
    rotate_left
    · intro w'
      go_simp
      with_reducible rfl
    rotate_left
    · simp only [Act.put, List.setIfInBounds_toArray, List.set_cons_zero, List.set_cons_succ, i64_w, i32_w]
      rfl
    refine done_ (by kernel_rfl) ?_
    go_upto_region 8 with (first | ((with_reducible refine gate_callee (f := 15) rfl ?_); refine goesL_ (some 71) rfl rfl Try.func15 (by kernel_rfl) rfl #[.int .i64 a3, .int .i64 a4, .int .i64 a5, .int .i64 a6] rfl (by (try simp only [List.map_toArray, List.map_cons, List.map_nil]); first | done | rfl | (simp only [List.length_drop, List.length_take]; rfl)) ?_; (with_reducible refine (solsticeref01_Nth.calls k a3 a4 a5 a6 t249 t250 _ A23.out).mono ?_); rintro e w' ⟨rfl, ⟨nd, rfl⟩⟩; refine ⟨_, rfl, ?_⟩))
    (try simp only [Act.put, List.setIfInBounds_toArray, List.set_cons_zero, List.set_cons_succ])
    go_cut [81] (fun v81 wc => ∃ (kq : Nat) (x81_23 : Bool), v81 = .bool x81_23 ∧ Aside0 (solsticelaw03_WeekExact.j0 kq a1 a2 a3 a6 t238 t239 t242 t243 t244 t245 t246 x81_23 a0_0 a0_1 a0_2 = some r) ∧ Aside0 (kq ≤ k) ∧ Aside0 (wc.heap[gb237]? = some (.cells #[.int .i64 a0_0, .int .i64 a0_1, .int .i64 a0_2] 23 (0, 0))) ∧ Aside0 (Below w.heap.size w wc))
    case first => as_aux_lemma =>
      have H := HC24.out
      clear HC24
      by_cases c33 : t240 = t249
      · rw [if_pos c33] at H
        have c33b0 : (t240 == t249) = true := beq_iff_eq.mpr c33
        have c33b1 : (t240 != t249) = false := bne_eq_false_iff_eq.mpr c33
        clear c33
        (first | rw [c33b0] | (simp only [i64_w, i32_w]; rw [c33b0]) | skip)
        have H' := Aside0.mk H
        clear H
        go_wp2
        go_meet
        case rel => exact ⟨_, ((t241 != t250)), (by first | rfl | (simp; done) | (simp [*]; done)), H', ⟨by first | omega | exact Nat.le_refl _⟩, ⟨by (with_reducible repeat (first | refine blk_drewN ?_ _ | refine blk_drew ?_ | refine blk_alloc ?_ _)); exact BK237.out⟩, ⟨by repeat (first | (with_reducible first | exact HB.out | apply below_alloc | apply pw_below_drewN | apply below_drew1 | refine below_set ?_ GE237.out) | exact HB.out)⟩⟩
      · rw [if_neg c33] at H
        have c33b0 : (t240 == t249) = false := beq_eq_false_iff_ne.mpr c33
        have c33b1 : (t240 != t249) = true := bne_iff_ne.mpr c33
        (first | rw [c33b0] | (simp only [i64_w, i32_w]; rw [c33b0]) | skip)
        have H' := Aside0.mk H
        clear H
        go_wp2
        go_meet
        case rel => exact ⟨_, (true), (by first | rfl | (simp; done) | (simp [*]; done)), H', ⟨by first | omega | exact Nat.le_refl _⟩, ⟨by (with_reducible repeat (first | refine blk_drewN ?_ _ | refine blk_drew ?_ | refine blk_alloc ?_ _)); exact BK237.out⟩, ⟨by repeat (first | (with_reducible first | exact HB.out | apply below_alloc | apply pw_below_drewN | apply below_drew1 | refine below_set ?_ GE237.out) | exact HB.out)⟩⟩
    case rest => as_aux_lemma =>
      clear HC24
      try clear c1
      try clear p2
      try clear c3
      try clear c9
      try clear c10
      try clear c11
      try clear c12
      try clear c13
      try clear c14
      try clear c14b0
      try clear c14b1
      try clear c14b2
      try clear c15
      try clear c33
      try clear c33b0
      try clear c33b1
      try clear hcz16_0
      try clear hcz16_1
      try clear hcz16_2
      try clear hcz26_0
      try clear hcz26_1
      try clear hcz26_2
      try clear hfz16_0
      try clear hfz16_1
      try clear hfz16_2
      try clear hfz26_0
      try clear hfz26_1
      try clear hfz26_2
      obtain ⟨kq, x81_23, rfl, HA, HJ23, BK237, HB⟩ := hcut
      cases kq with
      | zero => exact absurd HA.out (by simp [solsticelaw03_WeekExact.j0])
      | succ kj23 =>
        have H := HA.out
        clear HA
        simp only [solsticelaw03_WeekExact.j0] at H
        by_cases c34 : x81_23 = true
        · subst c34
          have H1 : (some false) = some r := by rw [if_pos rfl] at H; exact H
          clear H
          have H := H1
          clear H1
          exact absurd ((Option.some.inj H).trans hr.out) (by decide)
        · replace c34 := Bool.eq_false_iff.mpr c34
          subst c34
          have H1 : (if a1 ≥ 1 then (solsticelaw03_WeekExact.j1 kj23 a1 a2 a3 a6 t238 t239 t242 t243 t244 t245 t246 (decide (a1 ≤ 9999)) a0_0 a0_1 a0_2) else (solsticelaw03_WeekExact.j1 kj23 a1 a2 a3 a6 t238 t239 t242 t243 t244 t245 t246 false a0_0 a0_1 a0_2)) = some r := by rw [if_neg (show ¬ (false = true) by decide)] at H; exact H
          clear H
          have H := H1
          clear H1
          have HC35 := Aside0.mk H
          clear H
          go_upto_region 10 with (fail)
          go_cut [26] (fun v26 wc => ∃ (kq : Nat) (x26_34 : Bool), v26 = .bool x26_34 ∧ Aside0 (solsticelaw03_WeekExact.j1 kq a1 a2 a3 a6 t238 t239 t242 t243 t244 t245 t246 x26_34 a0_0 a0_1 a0_2 = some r) ∧ Aside0 (kq ≤ kj23) ∧ Aside0 (wc.heap[gb237]? = some (.cells #[.int .i64 a0_0, .int .i64 a0_1, .int .i64 a0_2] 23 (0, 0))) ∧ Aside0 (Below w.heap.size w wc))
          case first => as_aux_lemma =>
            have H := HC35.out
            clear HC35
            by_cases c36 : a1 ≥ 1
            · rw [if_pos c36] at H
              have c36b0 : decide (1 ≤ a1) = true := decide_eq_true c36
              clear c36
              (first | rw [c36b0] | (simp only [i64_w, i32_w]; rw [c36b0]) | skip)
              have H' := Aside0.mk H
              clear H
              go_wp2
              go_meet
              case rel => exact ⟨_, (decide (a1 ≤ 9999)), (by first | rfl | (simp; done) | (simp [*]; done)), H', ⟨by have := HJ23.out; first | omega | exact Nat.le_refl _⟩, ⟨by (with_reducible repeat (first | refine blk_drewN ?_ _ | refine blk_drew ?_ | refine blk_alloc ?_ _)); exact BK237.out⟩, ⟨by repeat (first | (with_reducible first | exact HB.out | apply below_alloc | apply pw_below_drewN | apply below_drew1 | refine below_set ?_ GE237.out) | exact HB.out)⟩⟩
            · rw [if_neg c36] at H
              have c36b0 : decide (1 ≤ a1) = false := decide_eq_false c36
              clear c36
              (first | rw [c36b0] | (simp only [i64_w, i32_w]; rw [c36b0]) | skip)
              have H' := Aside0.mk H
              clear H
              go_wp2
              go_meet
              case rel => exact ⟨_, (false), (by first | rfl | (simp; done) | (simp [*]; done)), H', ⟨by have := HJ23.out; first | omega | exact Nat.le_refl _⟩, ⟨by (with_reducible repeat (first | refine blk_drewN ?_ _ | refine blk_drew ?_ | refine blk_alloc ?_ _)); exact BK237.out⟩, ⟨by repeat (first | (with_reducible first | exact HB.out | apply below_alloc | apply pw_below_drewN | apply below_drew1 | refine below_set ?_ GE237.out) | exact HB.out)⟩⟩
          case rest => as_aux_lemma =>
            clear HC35
            try clear c1
            try clear p2
            try clear c3
            try clear c9
            try clear c10
            try clear c11
            try clear c12
            try clear c13
            try clear c14
            try clear c14b0
            try clear c14b1
            try clear c14b2
            try clear c15
            try clear c33
            try clear c33b0
            try clear c33b1
            try clear c34
            try clear c36
            try clear c36b0
            try clear hcz16_0
            try clear hcz16_1
            try clear hcz16_2
            try clear hcz26_0
            try clear hcz26_1
            try clear hcz26_2
            try clear hfz16_0
            try clear hfz16_1
            try clear hfz16_2
            try clear hfz26_0
            try clear hfz26_1
            try clear hfz26_2
            try clear p2
            obtain ⟨kq, x26_34, rfl, HA, HJ34, BK237, HB⟩ := hcut
            cases kq with
            | zero => exact absurd HA.out (by simp [solsticelaw03_WeekExact.j1])
            | succ kj34 =>
              have H := HA.out
              clear HA
              simp only [solsticelaw03_WeekExact.j1] at H
              have HC37 := Aside0.mk H
              clear H
              go_upto_block 0 with (fail)
              go_cut [] (fun wc => ∃ (kq : Nat), Aside0 (solsticelaw03_WeekExact.j2 kq a1 a3 a6 t242 t243 t244 t245 t246 x26_34 = some r) ∧ Aside0 (kq ≤ kj34) ∧ Aside0 (wc.heap[gb237]? = some (.cells #[.int .i64 a0_0, .int .i64 a0_1, .int .i64 a0_2] 23 (0, 0))) ∧ Aside0 (Below w.heap.size w wc))
              case first => as_aux_lemma =>
                have H := HC37.out
                clear HC37
                replace H := Option.bind_eq_some_iff.mp H
                obtain ⟨t251, A380, H⟩ := H
                replace H : (if t251 = true then (if x26_34 = true then ((solsticeref01_Resolve.f kj34 a1 a2 a0_0 a0_1 a0_2).bind fun bt252 => (if bt252.2 = true then (if t239 = 0 then (if t238 = bt252.1 then (solsticelaw03_WeekExact.j2 kj34 a1 a3 a6 t242 t243 t244 t245 t246 x26_34) else (some false)) else (some false)) else (if t239 = 4 then (if t238 = 0 then (solsticelaw03_WeekExact.j2 kj34 a1 a3 a6 t242 t243 t244 t245 t246 x26_34) else (some false)) else (some false)))) else (if t239 = 23 then (if t238 = 0 then (solsticelaw03_WeekExact.j2 kj34 a1 a3 a6 t242 t243 t244 t245 t246 x26_34) else (some false)) else (some false))) else (if t239 = 8 then (if t238 = 0 then ((week_Check.f kj34 a0_0 a0_1 a0_2).bind fun t254 => (if t254 = 8 then (solsticelaw03_WeekExact.j2 kj34 a1 a3 a6 t242 t243 t244 t245 t246 x26_34) else (some false))) else (some false)) else (some false))) = some r := H
                have A38 := Aside0.mk A380
                clear A380
                by_cases c39 : t251 = true
                · subst c39
                  have H1 : (if x26_34 = true then ((solsticeref01_Resolve.f kj34 a1 a2 a0_0 a0_1 a0_2).bind fun bt252 => (if bt252.2 = true then (if t239 = 0 then (if t238 = bt252.1 then (solsticelaw03_WeekExact.j2 kj34 a1 a3 a6 t242 t243 t244 t245 t246 x26_34) else (some false)) else (some false)) else (if t239 = 4 then (if t238 = 0 then (solsticelaw03_WeekExact.j2 kj34 a1 a3 a6 t242 t243 t244 t245 t246 x26_34) else (some false)) else (some false)))) else (if t239 = 23 then (if t238 = 0 then (solsticelaw03_WeekExact.j2 kj34 a1 a3 a6 t242 t243 t244 t245 t246 x26_34) else (some false)) else (some false))) = some r := by rw [if_pos rfl] at H; exact H
                  clear H
                  have H := H1
                  clear H1
                  by_cases c40 : x26_34 = true
                  · subst c40
                    have H1 : ((solsticeref01_Resolve.f kj34 a1 a2 a0_0 a0_1 a0_2).bind fun bt252 => (if bt252.2 = true then (if t239 = 0 then (if t238 = bt252.1 then (solsticelaw03_WeekExact.j2 kj34 a1 a3 a6 t242 t243 t244 t245 t246 true) else (some false)) else (some false)) else (if t239 = 4 then (if t238 = 0 then (solsticelaw03_WeekExact.j2 kj34 a1 a3 a6 t242 t243 t244 t245 t246 true) else (some false)) else (some false)))) = some r := by rw [if_pos rfl] at H; exact H
                    clear H
                    have H := H1
                    clear H1
                    replace H := Option.bind_eq_some_iff.mp H
                    obtain ⟨⟨t252, t253⟩, A410, H⟩ := H
                    replace H : (if t253 = true then (if t239 = 0 then (if t238 = t252 then (solsticelaw03_WeekExact.j2 kj34 a1 a3 a6 t242 t243 t244 t245 t246 true) else (some false)) else (some false)) else (if t239 = 4 then (if t238 = 0 then (solsticelaw03_WeekExact.j2 kj34 a1 a3 a6 t242 t243 t244 t245 t246 true) else (some false)) else (some false))) = some r := H
                    have A41 := Aside0.mk A410
                    clear A410
                    by_cases c42 : t253 = true
                    · subst c42
                      have H1 : (if t239 = 0 then (if t238 = t252 then (solsticelaw03_WeekExact.j2 kj34 a1 a3 a6 t242 t243 t244 t245 t246 true) else (some false)) else (some false)) = some r := by rw [if_pos rfl] at H; exact H
                      clear H
                      have H := H1
                      clear H1
                      by_cases c43 : t239 = 0
                      · rw [if_pos c43] at H
                        have c43b0 : (t239 == 0) = true := beq_iff_eq.mpr c43
                        have c43b1 : (t239 != 0) = false := bne_eq_false_iff_eq.mpr c43
                        clear c43
                        (first | rw [c43b0] | (simp only [i64_w, i32_w]; rw [c43b0]) | skip)
                        by_cases c44 : t238 = t252
                        · rw [if_pos c44] at H
                          have c44b0 : (t238 == t252) = true := beq_iff_eq.mpr c44
                          have c44b1 : (t238 != t252) = false := bne_eq_false_iff_eq.mpr c44
                          clear c44
                          have H' := Aside0.mk H
                          clear H
                          have hcz45_0 : wc.cell? ⟨gb237, 0, none⟩ = some (.int .i64 a0_0) := (blk_cell BK237.out 0).trans rfl
                          have hcz45_1 : wc.cell? ⟨gb237, 1, none⟩ = some (.int .i64 a0_1) := (blk_cell BK237.out 1).trans rfl
                          have hcz45_2 : wc.cell? ⟨gb237, 2, none⟩ = some (.int .i64 a0_2) := (blk_cell BK237.out 2).trans rfl
                          have hfz45_0 := blk_frozen BK237.out 0
                          have hfz45_1 := blk_frozen BK237.out 1
                          have hfz45_2 := blk_frozen BK237.out 2
                          go_wp2_with (first | ((with_reducible refine gate_callee (f := 14) rfl ?_); refine goesL_ (some 119) rfl rfl Try.func14 (by kernel_rfl) rfl #[.agg #[.int .i64 a0_0, .int .i64 a0_1, .int .i64 a0_2]] rfl (by (try simp only [List.map_toArray, List.map_cons, List.map_nil]); first | done | rfl | (simp only [List.length_drop, List.length_take]; rfl)) ?_; (with_reducible refine (solsticeref01_On.calls kj34 a0_0 a0_1 a0_2 true _ A38.out).mono ?_); rintro e w46 ⟨rfl, hb⟩; refine ⟨_, rfl, ?_⟩; have n0_ := Aside0.mk (blk_below (g := gb237) (o := .cells #[.int .i64 a0_0, .int .i64 a0_1, .int .i64 a0_2] 23 (0, 0)) (by (with_reducible repeat (first | refine blk_drewN ?_ _ | refine blk_drew ?_ | refine blk_alloc ?_ _)); exact BK237.out) hb); have n1_ := Aside0.mk (below_step (by repeat (first | (with_reducible first | exact HB.out | apply below_alloc | apply pw_below_drewN | apply below_drew1 | refine below_set ?_ GE237.out) | exact HB.out)) hb); clear BK237; clear HB; have BK237 := n0_; have HB := n1_; clear n0_ n1_; (try clear hb); (try clear hb2); (try clear hk); (try clear hi); have hcz47_0 : w46.cell? ⟨gb237, 0, none⟩ = some (.int .i64 a0_0) := (blk_cell BK237.out 0).trans rfl; have hcz47_1 : w46.cell? ⟨gb237, 1, none⟩ = some (.int .i64 a0_1) := (blk_cell BK237.out 1).trans rfl; have hcz47_2 : w46.cell? ⟨gb237, 2, none⟩ = some (.int .i64 a0_2) := (blk_cell BK237.out 2).trans rfl; have hfz47_0 := blk_frozen BK237.out 0; have hfz47_1 := blk_frozen BK237.out 1; have hfz47_2 := blk_frozen BK237.out 2) | ((with_reducible refine gate_callee (f := 16) rfl ?_); refine goesL_ (some 92) rfl rfl Try.func16 (by kernel_rfl) rfl #[.int .i64 a1, .int .i64 a2, .agg #[.int .i64 a0_0, .int .i64 a0_1, .int .i64 a0_2]] rfl (by (try simp only [List.map_toArray, List.map_cons, List.map_nil]); first | done | rfl | (simp only [List.length_drop, List.length_take]; rfl)) ?_; (with_reducible refine (solsticeref01_Resolve.calls kj34 a1 a2 a0_0 a0_1 a0_2 t252 true _ A41.out).mono ?_); rintro e w48 ⟨rfl, hb⟩; refine ⟨_, rfl, ?_⟩; have n0_ := Aside0.mk (blk_below (g := gb237) (o := .cells #[.int .i64 a0_0, .int .i64 a0_1, .int .i64 a0_2] 23 (0, 0)) (by (with_reducible repeat (first | refine blk_drewN ?_ _ | refine blk_drew ?_ | refine blk_alloc ?_ _)); exact BK237.out) hb); have n1_ := Aside0.mk (below_step (by repeat (first | (with_reducible first | exact HB.out | apply below_alloc | apply pw_below_drewN | apply below_drew1 | refine below_set ?_ GE237.out) | exact HB.out)) hb); clear BK237; clear HB; have BK237 := n0_; have HB := n1_; clear n0_ n1_; (try clear hb); (try clear hb2); (try clear hk); (try clear hi)))
                          go_meet
                          case rel => exact ⟨_, H', ⟨by have := HJ23.out; have := HJ34.out; first | omega | exact Nat.le_refl _⟩, ⟨by (with_reducible repeat (first | refine blk_drewN ?_ _ | refine blk_drew ?_ | refine blk_alloc ?_ _)); exact BK237.out⟩, ⟨by repeat (first | (with_reducible first | exact HB.out | apply below_alloc | apply pw_below_drewN | apply below_drew1 | refine below_set ?_ GE237.out) | exact HB.out)⟩⟩
                        · rw [if_neg c44] at H
                          have c44b0 : (t238 == t252) = false := beq_eq_false_iff_ne.mpr c44
                          have c44b1 : (t238 != t252) = true := bne_iff_ne.mpr c44
                          exact absurd ((Option.some.inj H).trans hr.out) (by decide)
                      · rw [if_neg c43] at H
                        have c43b0 : (t239 == 0) = false := beq_eq_false_iff_ne.mpr c43
                        have c43b1 : (t239 != 0) = true := bne_iff_ne.mpr c43
                        (first | rw [c43b0] | (simp only [i64_w, i32_w]; rw [c43b0]) | skip)
                        exact absurd ((Option.some.inj H).trans hr.out) (by decide)
                    · replace c42 := Bool.eq_false_iff.mpr c42
                      subst c42
                      have H1 : (if t239 = 4 then (if t238 = 0 then (solsticelaw03_WeekExact.j2 kj34 a1 a3 a6 t242 t243 t244 t245 t246 true) else (some false)) else (some false)) = some r := by rw [if_neg (show ¬ (false = true) by decide)] at H; exact H
                      clear H
                      have H := H1
                      clear H1
                      by_cases c57 : t239 = 4
                      · rw [if_pos c57] at H
                        have c57b0 : (t239 == 4) = true := beq_iff_eq.mpr c57
                        have c57b1 : (t239 != 4) = false := bne_eq_false_iff_eq.mpr c57
                        clear c57
                        by_cases c58 : t238 = 0
                        · rw [if_pos c58] at H
                          have c58b0 : (t238 == 0) = true := beq_iff_eq.mpr c58
                          have c58b1 : (t238 != 0) = false := bne_eq_false_iff_eq.mpr c58
                          clear c58
                          have H' := Aside0.mk H
                          clear H
                          have hcz59_0 : wc.cell? ⟨gb237, 0, none⟩ = some (.int .i64 a0_0) := (blk_cell BK237.out 0).trans rfl
                          have hcz59_1 : wc.cell? ⟨gb237, 1, none⟩ = some (.int .i64 a0_1) := (blk_cell BK237.out 1).trans rfl
                          have hcz59_2 : wc.cell? ⟨gb237, 2, none⟩ = some (.int .i64 a0_2) := (blk_cell BK237.out 2).trans rfl
                          have hfz59_0 := blk_frozen BK237.out 0
                          have hfz59_1 := blk_frozen BK237.out 1
                          have hfz59_2 := blk_frozen BK237.out 2
                          go_wp2_with (first | ((with_reducible refine gate_callee (f := 14) rfl ?_); refine goesL_ (some 119) rfl rfl Try.func14 (by kernel_rfl) rfl #[.agg #[.int .i64 a0_0, .int .i64 a0_1, .int .i64 a0_2]] rfl (by (try simp only [List.map_toArray, List.map_cons, List.map_nil]); first | done | rfl | (simp only [List.length_drop, List.length_take]; rfl)) ?_; (with_reducible refine (solsticeref01_On.calls kj34 a0_0 a0_1 a0_2 true _ A38.out).mono ?_); rintro e w60 ⟨rfl, hb⟩; refine ⟨_, rfl, ?_⟩; have n0_ := Aside0.mk (blk_below (g := gb237) (o := .cells #[.int .i64 a0_0, .int .i64 a0_1, .int .i64 a0_2] 23 (0, 0)) (by (with_reducible repeat (first | refine blk_drewN ?_ _ | refine blk_drew ?_ | refine blk_alloc ?_ _)); exact BK237.out) hb); have n1_ := Aside0.mk (below_step (by repeat (first | (with_reducible first | exact HB.out | apply below_alloc | apply pw_below_drewN | apply below_drew1 | refine below_set ?_ GE237.out) | exact HB.out)) hb); clear BK237; clear HB; have BK237 := n0_; have HB := n1_; clear n0_ n1_; (try clear hb); (try clear hb2); (try clear hk); (try clear hi); have hcz61_0 : w60.cell? ⟨gb237, 0, none⟩ = some (.int .i64 a0_0) := (blk_cell BK237.out 0).trans rfl; have hcz61_1 : w60.cell? ⟨gb237, 1, none⟩ = some (.int .i64 a0_1) := (blk_cell BK237.out 1).trans rfl; have hcz61_2 : w60.cell? ⟨gb237, 2, none⟩ = some (.int .i64 a0_2) := (blk_cell BK237.out 2).trans rfl; have hfz61_0 := blk_frozen BK237.out 0; have hfz61_1 := blk_frozen BK237.out 1; have hfz61_2 := blk_frozen BK237.out 2) | ((with_reducible refine gate_callee (f := 16) rfl ?_); refine goesL_ (some 92) rfl rfl Try.func16 (by kernel_rfl) rfl #[.int .i64 a1, .int .i64 a2, .agg #[.int .i64 a0_0, .int .i64 a0_1, .int .i64 a0_2]] rfl (by (try simp only [List.map_toArray, List.map_cons, List.map_nil]); first | done | rfl | (simp only [List.length_drop, List.length_take]; rfl)) ?_; (with_reducible refine (solsticeref01_Resolve.calls kj34 a1 a2 a0_0 a0_1 a0_2 t252 false _ A41.out).mono ?_); rintro e w62 ⟨rfl, hb⟩; refine ⟨_, rfl, ?_⟩; have n0_ := Aside0.mk (blk_below (g := gb237) (o := .cells #[.int .i64 a0_0, .int .i64 a0_1, .int .i64 a0_2] 23 (0, 0)) (by (with_reducible repeat (first | refine blk_drewN ?_ _ | refine blk_drew ?_ | refine blk_alloc ?_ _)); exact BK237.out) hb); have n1_ := Aside0.mk (below_step (by repeat (first | (with_reducible first | exact HB.out | apply below_alloc | apply pw_below_drewN | apply below_drew1 | refine below_set ?_ GE237.out) | exact HB.out)) hb); clear BK237; clear HB; have BK237 := n0_; have HB := n1_; clear n0_ n1_; (try clear hb); (try clear hb2); (try clear hk); (try clear hi)))
                          go_meet
                          case rel => exact ⟨_, H', ⟨by have := HJ23.out; have := HJ34.out; first | omega | exact Nat.le_refl _⟩, ⟨by (with_reducible repeat (first | refine blk_drewN ?_ _ | refine blk_drew ?_ | refine blk_alloc ?_ _)); exact BK237.out⟩, ⟨by repeat (first | (with_reducible first | exact HB.out | apply below_alloc | apply pw_below_drewN | apply below_drew1 | refine below_set ?_ GE237.out) | exact HB.out)⟩⟩
                        · rw [if_neg c58] at H
                          have c58b0 : (t238 == 0) = false := beq_eq_false_iff_ne.mpr c58
                          have c58b1 : (t238 != 0) = true := bne_iff_ne.mpr c58
                          exact absurd ((Option.some.inj H).trans hr.out) (by decide)
                      · rw [if_neg c57] at H
                        have c57b0 : (t239 == 4) = false := beq_eq_false_iff_ne.mpr c57
                        have c57b1 : (t239 != 4) = true := bne_iff_ne.mpr c57
                        exact absurd ((Option.some.inj H).trans hr.out) (by decide)
                  · replace c40 := Bool.eq_false_iff.mpr c40
                    subst c40
                    have H1 : (if t239 = 23 then (if t238 = 0 then (solsticelaw03_WeekExact.j2 kj34 a1 a3 a6 t242 t243 t244 t245 t246 false) else (some false)) else (some false)) = some r := by rw [if_neg (show ¬ (false = true) by decide)] at H; exact H
                    clear H
                    have H := H1
                    clear H1
                    by_cases c71 : t239 = 23
                    · rw [if_pos c71] at H
                      have c71b0 : (t239 == 23) = true := beq_iff_eq.mpr c71
                      have c71b1 : (t239 != 23) = false := bne_eq_false_iff_eq.mpr c71
                      clear c71
                      by_cases c72 : t238 = 0
                      · rw [if_pos c72] at H
                        have c72b0 : (t238 == 0) = true := beq_iff_eq.mpr c72
                        have c72b1 : (t238 != 0) = false := bne_eq_false_iff_eq.mpr c72
                        clear c72
                        have H' := Aside0.mk H
                        clear H
                        have hcz73_0 : wc.cell? ⟨gb237, 0, none⟩ = some (.int .i64 a0_0) := (blk_cell BK237.out 0).trans rfl
                        have hcz73_1 : wc.cell? ⟨gb237, 1, none⟩ = some (.int .i64 a0_1) := (blk_cell BK237.out 1).trans rfl
                        have hcz73_2 : wc.cell? ⟨gb237, 2, none⟩ = some (.int .i64 a0_2) := (blk_cell BK237.out 2).trans rfl
                        have hfz73_0 := blk_frozen BK237.out 0
                        have hfz73_1 := blk_frozen BK237.out 1
                        have hfz73_2 := blk_frozen BK237.out 2
                        go_wp2_with (first | ((with_reducible refine gate_callee (f := 14) rfl ?_); refine goesL_ (some 119) rfl rfl Try.func14 (by kernel_rfl) rfl #[.agg #[.int .i64 a0_0, .int .i64 a0_1, .int .i64 a0_2]] rfl (by (try simp only [List.map_toArray, List.map_cons, List.map_nil]); first | done | rfl | (simp only [List.length_drop, List.length_take]; rfl)) ?_; (with_reducible refine (solsticeref01_On.calls kj34 a0_0 a0_1 a0_2 true _ A38.out).mono ?_); rintro e w74 ⟨rfl, hb⟩; refine ⟨_, rfl, ?_⟩; have n0_ := Aside0.mk (blk_below (g := gb237) (o := .cells #[.int .i64 a0_0, .int .i64 a0_1, .int .i64 a0_2] 23 (0, 0)) (by (with_reducible repeat (first | refine blk_drewN ?_ _ | refine blk_drew ?_ | refine blk_alloc ?_ _)); exact BK237.out) hb); have n1_ := Aside0.mk (below_step (by repeat (first | (with_reducible first | exact HB.out | apply below_alloc | apply pw_below_drewN | apply below_drew1 | refine below_set ?_ GE237.out) | exact HB.out)) hb); clear BK237; clear HB; have BK237 := n0_; have HB := n1_; clear n0_ n1_; (try clear hb); (try clear hb2); (try clear hk); (try clear hi)))
                        go_meet
                        case rel => exact ⟨_, H', ⟨by have := HJ23.out; have := HJ34.out; first | omega | exact Nat.le_refl _⟩, ⟨by (with_reducible repeat (first | refine blk_drewN ?_ _ | refine blk_drew ?_ | refine blk_alloc ?_ _)); exact BK237.out⟩, ⟨by repeat (first | (with_reducible first | exact HB.out | apply below_alloc | apply pw_below_drewN | apply below_drew1 | refine below_set ?_ GE237.out) | exact HB.out)⟩⟩
                      · rw [if_neg c72] at H
                        have c72b0 : (t238 == 0) = false := beq_eq_false_iff_ne.mpr c72
                        have c72b1 : (t238 != 0) = true := bne_iff_ne.mpr c72
                        exact absurd ((Option.some.inj H).trans hr.out) (by decide)
                    · rw [if_neg c71] at H
                      have c71b0 : (t239 == 23) = false := beq_eq_false_iff_ne.mpr c71
                      have c71b1 : (t239 != 23) = true := bne_iff_ne.mpr c71
                      exact absurd ((Option.some.inj H).trans hr.out) (by decide)
                · replace c39 := Bool.eq_false_iff.mpr c39
                  subst c39
                  have H1 : (if t239 = 8 then (if t238 = 0 then ((week_Check.f kj34 a0_0 a0_1 a0_2).bind fun t254 => (if t254 = 8 then (solsticelaw03_WeekExact.j2 kj34 a1 a3 a6 t242 t243 t244 t245 t246 x26_34) else (some false))) else (some false)) else (some false)) = some r := by rw [if_neg (show ¬ (false = true) by decide)] at H; exact H
                  clear H
                  have H := H1
                  clear H1
                  by_cases c79 : t239 = 8
                  · rw [if_pos c79] at H
                    have c79b0 : (t239 == 8) = true := beq_iff_eq.mpr c79
                    have c79b1 : (t239 != 8) = false := bne_eq_false_iff_eq.mpr c79
                    clear c79
                    by_cases c80 : t238 = 0
                    · rw [if_pos c80] at H
                      have c80b0 : (t238 == 0) = true := beq_iff_eq.mpr c80
                      have c80b1 : (t238 != 0) = false := bne_eq_false_iff_eq.mpr c80
                      clear c80
                      replace H := Option.bind_eq_some_iff.mp H
                      obtain ⟨t254, A810, H⟩ := H
                      replace H : (if t254 = 8 then (solsticelaw03_WeekExact.j2 kj34 a1 a3 a6 t242 t243 t244 t245 t246 x26_34) else (some false)) = some r := H
                      have A81 := Aside0.mk A810
                      clear A810
                      by_cases c82 : t254 = 8
                      · rw [if_pos c82] at H
                        have c82b0 : (t254 == 8) = true := beq_iff_eq.mpr c82
                        have c82b1 : (t254 != 8) = false := bne_eq_false_iff_eq.mpr c82
                        clear c82
                        have H' := Aside0.mk H
                        clear H
                        have hcz83_0 : wc.cell? ⟨gb237, 0, none⟩ = some (.int .i64 a0_0) := (blk_cell BK237.out 0).trans rfl
                        have hcz83_1 : wc.cell? ⟨gb237, 1, none⟩ = some (.int .i64 a0_1) := (blk_cell BK237.out 1).trans rfl
                        have hcz83_2 : wc.cell? ⟨gb237, 2, none⟩ = some (.int .i64 a0_2) := (blk_cell BK237.out 2).trans rfl
                        have hfz83_0 := blk_frozen BK237.out 0
                        have hfz83_1 := blk_frozen BK237.out 1
                        have hfz83_2 := blk_frozen BK237.out 2
                        go_wp2_with (first | ((with_reducible refine gate_callee (f := 14) rfl ?_); refine goesL_ (some 119) rfl rfl Try.func14 (by kernel_rfl) rfl #[.agg #[.int .i64 a0_0, .int .i64 a0_1, .int .i64 a0_2]] rfl (by (try simp only [List.map_toArray, List.map_cons, List.map_nil]); first | done | rfl | (simp only [List.length_drop, List.length_take]; rfl)) ?_; (with_reducible refine (solsticeref01_On.calls kj34 a0_0 a0_1 a0_2 false _ A38.out).mono ?_); rintro e w84 ⟨rfl, hb⟩; refine ⟨_, rfl, ?_⟩; have n0_ := Aside0.mk (blk_below (g := gb237) (o := .cells #[.int .i64 a0_0, .int .i64 a0_1, .int .i64 a0_2] 23 (0, 0)) (by (with_reducible repeat (first | refine blk_drewN ?_ _ | refine blk_drew ?_ | refine blk_alloc ?_ _)); exact BK237.out) hb); have n1_ := Aside0.mk (below_step (by repeat (first | (with_reducible first | exact HB.out | apply below_alloc | apply pw_below_drewN | apply below_drew1 | refine below_set ?_ GE237.out) | exact HB.out)) hb); clear BK237; clear HB; have BK237 := n0_; have HB := n1_; clear n0_ n1_; (try clear hb); (try clear hb2); (try clear hk); (try clear hi); have hcz85_0 : w84.cell? ⟨gb237, 0, none⟩ = some (.int .i64 a0_0) := (blk_cell BK237.out 0).trans rfl; have hcz85_1 : w84.cell? ⟨gb237, 1, none⟩ = some (.int .i64 a0_1) := (blk_cell BK237.out 1).trans rfl; have hcz85_2 : w84.cell? ⟨gb237, 2, none⟩ = some (.int .i64 a0_2) := (blk_cell BK237.out 2).trans rfl; have hfz85_0 := blk_frozen BK237.out 0; have hfz85_1 := blk_frozen BK237.out 1; have hfz85_2 := blk_frozen BK237.out 2) | (go_at_call 13; (with_reducible refine (week_Check.calls kj34 a0_0 a0_1 a0_2 t254 _ A81.out).mono ?_); rintro e w86 ⟨rfl, hb⟩; have n0_ := Aside0.mk (blk_below (g := gb237) (o := .cells #[.int .i64 a0_0, .int .i64 a0_1, .int .i64 a0_2] 23 (0, 0)) (by (with_reducible repeat (first | refine blk_drewN ?_ _ | refine blk_drew ?_ | refine blk_alloc ?_ _)); exact BK237.out) hb); have n1_ := Aside0.mk (below_step (by repeat (first | (with_reducible first | exact HB.out | apply below_alloc | apply pw_below_drewN | apply below_drew1 | refine below_set ?_ GE237.out) | exact HB.out)) hb); clear BK237; clear HB; have BK237 := n0_; have HB := n1_; clear n0_ n1_; (try clear hb); (try clear hb2); (try clear hk); (try clear hi)))
                        go_meet
                        case rel => exact ⟨_, H', ⟨by have := HJ23.out; have := HJ34.out; first | omega | exact Nat.le_refl _⟩, ⟨by (with_reducible repeat (first | refine blk_drewN ?_ _ | refine blk_drew ?_ | refine blk_alloc ?_ _)); exact BK237.out⟩, ⟨by repeat (first | (with_reducible first | exact HB.out | apply below_alloc | apply pw_below_drewN | apply below_drew1 | refine below_set ?_ GE237.out) | exact HB.out)⟩⟩
                      · rw [if_neg c82] at H
                        have c82b0 : (t254 == 8) = false := beq_eq_false_iff_ne.mpr c82
                        have c82b1 : (t254 != 8) = true := bne_iff_ne.mpr c82
                        exact absurd ((Option.some.inj H).trans hr.out) (by decide)
                    · rw [if_neg c80] at H
                      have c80b0 : (t238 == 0) = false := beq_eq_false_iff_ne.mpr c80
                      have c80b1 : (t238 != 0) = true := bne_iff_ne.mpr c80
                      exact absurd ((Option.some.inj H).trans hr.out) (by decide)
                  · rw [if_neg c79] at H
                    have c79b0 : (t239 == 8) = false := beq_eq_false_iff_ne.mpr c79
                    have c79b1 : (t239 != 8) = true := bne_iff_ne.mpr c79
                    exact absurd ((Option.some.inj H).trans hr.out) (by decide)
              case rest => as_aux_lemma =>
                clear HC37
                try clear c1
                try clear p2
                try clear c3
                try clear c4
                try clear c5
                try clear c7
                try clear c8
                try clear c9
                try clear c10
                try clear c11
                try clear c12
                try clear c13
                try clear c14
                try clear c14b0
                try clear c14b1
                try clear c14b2
                try clear c15
                try clear c16
                try clear c33
                try clear c33b0
                try clear c33b1
                try clear c34
                try clear c36
                try clear c36b0
                try clear c39
                try clear c40
                try clear c42
                try clear c43
                try clear c43b0
                try clear c43b1
                try clear c44
                try clear c44b0
                try clear c44b1
                try clear c57
                try clear c57b0
                try clear c57b1
                try clear c58
                try clear c58b0
                try clear c58b1
                try clear c71
                try clear c71b0
                try clear c71b1
                try clear c72
                try clear c72b0
                try clear c72b1
                try clear c79
                try clear c79b0
                try clear c79b1
                try clear c80
                try clear c80b0
                try clear c80b1
                try clear c82
                try clear c82b0
                try clear c82b1
                try clear hcz16_0
                try clear hcz16_1
                try clear hcz16_2
                try clear hcz26_0
                try clear hcz26_1
                try clear hcz26_2
                try clear hcz45_0
                try clear hcz45_1
                try clear hcz45_2
                try clear hcz47_0
                try clear hcz47_1
                try clear hcz47_2
                try clear hcz49_0
                try clear hcz49_1
                try clear hcz49_2
                try clear hcz51_0
                try clear hcz51_1
                try clear hcz51_2
                try clear hcz53_0
                try clear hcz53_1
                try clear hcz53_2
                try clear hcz55_0
                try clear hcz55_1
                try clear hcz55_2
                try clear hcz59_0
                try clear hcz59_1
                try clear hcz59_2
                try clear hcz61_0
                try clear hcz61_1
                try clear hcz61_2
                try clear hcz63_0
                try clear hcz63_1
                try clear hcz63_2
                try clear hcz65_0
                try clear hcz65_1
                try clear hcz65_2
                try clear hcz67_0
                try clear hcz67_1
                try clear hcz67_2
                try clear hcz69_0
                try clear hcz69_1
                try clear hcz69_2
                try clear hcz73_0
                try clear hcz73_1
                try clear hcz73_2
                try clear hcz75_0
                try clear hcz75_1
                try clear hcz75_2
                try clear hcz77_0
                try clear hcz77_1
                try clear hcz77_2
                try clear hcz83_0
                try clear hcz83_1
                try clear hcz83_2
                try clear hcz85_0
                try clear hcz85_1
                try clear hcz85_2
                try clear hcz87_0
                try clear hcz87_1
                try clear hcz87_2
                try clear hcz89_0
                try clear hcz89_1
                try clear hcz89_2
                try clear hcz91_0
                try clear hcz91_1
                try clear hcz91_2
                try clear hcz93_0
                try clear hcz93_1
                try clear hcz93_2
                try clear hfz16_0
                try clear hfz16_1
                try clear hfz16_2
                try clear hfz26_0
                try clear hfz26_1
                try clear hfz26_2
                try clear hfz45_0
                try clear hfz45_1
                try clear hfz45_2
                try clear hfz47_0
                try clear hfz47_1
                try clear hfz47_2
                try clear hfz49_0
                try clear hfz49_1
                try clear hfz49_2
                try clear hfz51_0
                try clear hfz51_1
                try clear hfz51_2
                try clear hfz53_0
                try clear hfz53_1
                try clear hfz53_2
                try clear hfz55_0
                try clear hfz55_1
                try clear hfz55_2
                try clear hfz59_0
                try clear hfz59_1
                try clear hfz59_2
                try clear hfz61_0
                try clear hfz61_1
                try clear hfz61_2
                try clear hfz63_0
                try clear hfz63_1
                try clear hfz63_2
                try clear hfz65_0
                try clear hfz65_1
                try clear hfz65_2
                try clear hfz67_0
                try clear hfz67_1
                try clear hfz67_2
                try clear hfz69_0
                try clear hfz69_1
                try clear hfz69_2
                try clear hfz73_0
                try clear hfz73_1
                try clear hfz73_2
                try clear hfz75_0
                try clear hfz75_1
                try clear hfz75_2
                try clear hfz77_0
                try clear hfz77_1
                try clear hfz77_2
                try clear hfz83_0
                try clear hfz83_1
                try clear hfz83_2
                try clear hfz85_0
                try clear hfz85_1
                try clear hfz85_2
                try clear hfz87_0
                try clear hfz87_1
                try clear hfz87_2
                try clear hfz89_0
                try clear hfz89_1
                try clear hfz89_2
                try clear hfz91_0
                try clear hfz91_1
                try clear hfz91_2
                try clear hfz93_0
                try clear hfz93_1
                try clear hfz93_2
                try clear p2
                obtain ⟨kq, HA, HJ36, BK237, HB⟩ := hcut
                cases kq with
                | zero => exact absurd HA.out (by simp [solsticelaw03_WeekExact.j2])
                | succ kj36 =>
                  have H := HA.out
                  clear HA
                  simp only [solsticelaw03_WeekExact.j2] at H
                  have HC95 := Aside0.mk H
                  clear H
                  go_upto_block 1 with (fail)
                  go_cut [] (fun wc => ∃ (kq : Nat), Aside0 (solsticelaw03_WeekExact.j4 kq a3 a6 t242 t243 t244 = some r) ∧ Aside0 (kq ≤ kj36) ∧ Aside0 (wc.heap[gb237]? = some (.cells #[.int .i64 a0_0, .int .i64 a0_1, .int .i64 a0_2] 23 (0, 0))) ∧ Aside0 (Below w.heap.size w wc))
                  case first => as_aux_lemma =>
                    have H := HC95.out
                    clear HC95
                    have HC96 := Aside0.mk H
                    clear H
                    go_upto_region 22 with (fail)
                    go_cut [150] (fun v150 wc => ∃ (kq : Nat) (x150_95 : Bool), v150 = .bool x150_95 ∧ Aside0 (solsticelaw03_WeekExact.j3 kq a1 a3 a6 t242 t243 t244 t245 t246 x26_34 x150_95 = some r) ∧ Aside0 (kq ≤ kj36) ∧ Aside0 (wc.heap[gb237]? = some (.cells #[.int .i64 a0_0, .int .i64 a0_1, .int .i64 a0_2] 23 (0, 0))) ∧ Aside0 (Below w.heap.size w wc))
                    case first => as_aux_lemma =>
                      have H := HC96.out
                      clear HC96
                      by_cases c97 : a6 < 0
                      · rw [if_pos c97] at H
                        have c97b0 : decide (a6 < 0) = true := decide_eq_true c97
                        clear c97
                        (first | rw [c97b0] | (simp only [i64_w, i32_w]; rw [c97b0]) | skip)
                        have H' := Aside0.mk H
                        clear H
                        go_wp2
                        go_meet
                        case rel => exact ⟨_, (true), (by first | rfl | (simp; done) | (simp [*]; done)), H', ⟨by have := HJ23.out; have := HJ34.out; have := HJ36.out; first | omega | exact Nat.le_refl _⟩, ⟨by (with_reducible repeat (first | refine blk_drewN ?_ _ | refine blk_drew ?_ | refine blk_alloc ?_ _)); exact BK237.out⟩, ⟨by repeat (first | (with_reducible first | exact HB.out | apply below_alloc | apply pw_below_drewN | apply below_drew1 | refine below_set ?_ GE237.out) | exact HB.out)⟩⟩
                      · rw [if_neg c97] at H
                        have c97b0 : decide (a6 < 0) = false := decide_eq_false c97
                        clear c97
                        (first | rw [c97b0] | (simp only [i64_w, i32_w]; rw [c97b0]) | skip)
                        have H' := Aside0.mk H
                        clear H
                        go_wp2
                        go_meet
                        case rel => exact ⟨_, (decide (a6 > 6)), (by first | rfl | (simp; done) | (simp [*]; done)), H', ⟨by have := HJ23.out; have := HJ34.out; have := HJ36.out; first | omega | exact Nat.le_refl _⟩, ⟨by (with_reducible repeat (first | refine blk_drewN ?_ _ | refine blk_drew ?_ | refine blk_alloc ?_ _)); exact BK237.out⟩, ⟨by repeat (first | (with_reducible first | exact HB.out | apply below_alloc | apply pw_below_drewN | apply below_drew1 | refine below_set ?_ GE237.out) | exact HB.out)⟩⟩
                    case rest => as_aux_lemma =>
                      clear HC96
                      try clear c1
                      try clear p2
                      try clear c3
                      try clear c4
                      try clear c5
                      try clear c7
                      try clear c8
                      try clear c9
                      try clear c10
                      try clear c11
                      try clear c12
                      try clear c13
                      try clear c14
                      try clear c14b0
                      try clear c14b1
                      try clear c14b2
                      try clear c15
                      try clear c16
                      try clear c33
                      try clear c33b0
                      try clear c33b1
                      try clear c34
                      try clear c36
                      try clear c36b0
                      try clear c39
                      try clear c40
                      try clear c42
                      try clear c43
                      try clear c43b0
                      try clear c43b1
                      try clear c44
                      try clear c44b0
                      try clear c44b1
                      try clear c57
                      try clear c57b0
                      try clear c57b1
                      try clear c58
                      try clear c58b0
                      try clear c58b1
                      try clear c71
                      try clear c71b0
                      try clear c71b1
                      try clear c72
                      try clear c72b0
                      try clear c72b1
                      try clear c79
                      try clear c79b0
                      try clear c79b1
                      try clear c80
                      try clear c80b0
                      try clear c80b1
                      try clear c82
                      try clear c82b0
                      try clear c82b1
                      try clear c97
                      try clear c97b0
                      try clear hcz16_0
                      try clear hcz16_1
                      try clear hcz16_2
                      try clear hcz26_0
                      try clear hcz26_1
                      try clear hcz26_2
                      try clear hcz45_0
                      try clear hcz45_1
                      try clear hcz45_2
                      try clear hcz47_0
                      try clear hcz47_1
                      try clear hcz47_2
                      try clear hcz49_0
                      try clear hcz49_1
                      try clear hcz49_2
                      try clear hcz51_0
                      try clear hcz51_1
                      try clear hcz51_2
                      try clear hcz53_0
                      try clear hcz53_1
                      try clear hcz53_2
                      try clear hcz55_0
                      try clear hcz55_1
                      try clear hcz55_2
                      try clear hcz59_0
                      try clear hcz59_1
                      try clear hcz59_2
                      try clear hcz61_0
                      try clear hcz61_1
                      try clear hcz61_2
                      try clear hcz63_0
                      try clear hcz63_1
                      try clear hcz63_2
                      try clear hcz65_0
                      try clear hcz65_1
                      try clear hcz65_2
                      try clear hcz67_0
                      try clear hcz67_1
                      try clear hcz67_2
                      try clear hcz69_0
                      try clear hcz69_1
                      try clear hcz69_2
                      try clear hcz73_0
                      try clear hcz73_1
                      try clear hcz73_2
                      try clear hcz75_0
                      try clear hcz75_1
                      try clear hcz75_2
                      try clear hcz77_0
                      try clear hcz77_1
                      try clear hcz77_2
                      try clear hcz83_0
                      try clear hcz83_1
                      try clear hcz83_2
                      try clear hcz85_0
                      try clear hcz85_1
                      try clear hcz85_2
                      try clear hcz87_0
                      try clear hcz87_1
                      try clear hcz87_2
                      try clear hcz89_0
                      try clear hcz89_1
                      try clear hcz89_2
                      try clear hcz91_0
                      try clear hcz91_1
                      try clear hcz91_2
                      try clear hcz93_0
                      try clear hcz93_1
                      try clear hcz93_2
                      try clear hfz16_0
                      try clear hfz16_1
                      try clear hfz16_2
                      try clear hfz26_0
                      try clear hfz26_1
                      try clear hfz26_2
                      try clear hfz45_0
                      try clear hfz45_1
                      try clear hfz45_2
                      try clear hfz47_0
                      try clear hfz47_1
                      try clear hfz47_2
                      try clear hfz49_0
                      try clear hfz49_1
                      try clear hfz49_2
                      try clear hfz51_0
                      try clear hfz51_1
                      try clear hfz51_2
                      try clear hfz53_0
                      try clear hfz53_1
                      try clear hfz53_2
                      try clear hfz55_0
                      try clear hfz55_1
                      try clear hfz55_2
                      try clear hfz59_0
                      try clear hfz59_1
                      try clear hfz59_2
                      try clear hfz61_0
                      try clear hfz61_1
                      try clear hfz61_2
                      try clear hfz63_0
                      try clear hfz63_1
                      try clear hfz63_2
                      try clear hfz65_0
                      try clear hfz65_1
                      try clear hfz65_2
                      try clear hfz67_0
                      try clear hfz67_1
                      try clear hfz67_2
                      try clear hfz69_0
                      try clear hfz69_1
                      try clear hfz69_2
                      try clear hfz73_0
                      try clear hfz73_1
                      try clear hfz73_2
                      try clear hfz75_0
                      try clear hfz75_1
                      try clear hfz75_2
                      try clear hfz77_0
                      try clear hfz77_1
                      try clear hfz77_2
                      try clear hfz83_0
                      try clear hfz83_1
                      try clear hfz83_2
                      try clear hfz85_0
                      try clear hfz85_1
                      try clear hfz85_2
                      try clear hfz87_0
                      try clear hfz87_1
                      try clear hfz87_2
                      try clear hfz89_0
                      try clear hfz89_1
                      try clear hfz89_2
                      try clear hfz91_0
                      try clear hfz91_1
                      try clear hfz91_2
                      try clear hfz93_0
                      try clear hfz93_1
                      try clear hfz93_2
                      try clear p2
                      obtain ⟨kq, x150_95, rfl, HA, HJ95, BK237, HB⟩ := hcut
                      cases kq with
                      | zero => exact absurd HA.out (by simp [solsticelaw03_WeekExact.j3])
                      | succ kj95 =>
                        have H := HA.out
                        clear HA
                        simp only [solsticelaw03_WeekExact.j3] at H
                        by_cases c98 : x150_95 = true
                        · subst c98
                          have H1 : (if t244 = 1 then (if t246 = 1 then (if (wrap64 ((wrap64 (t242 + t243)) + t245)) = 0 then ((solsticelaw03_wakes.f kj95).bind fun t255 => (some t255)) else (some false)) else (some false)) else (some false)) = some r := by rw [if_pos rfl] at H; exact H
                          clear H
                          have H := H1
                          clear H1
                          by_cases c99 : t244 = 1
                          · rw [if_pos c99] at H
                            have c99b0 : (t244 == 1) = true := beq_iff_eq.mpr c99
                            have c99b1 : (t244 != 1) = false := bne_eq_false_iff_eq.mpr c99
                            clear c99
                            by_cases c100 : t246 = 1
                            · rw [if_pos c100] at H
                              have c100b0 : (t246 == 1) = true := beq_iff_eq.mpr c100
                              have c100b1 : (t246 != 1) = false := bne_eq_false_iff_eq.mpr c100
                              clear c100
                              by_cases c101 : (wrap64 ((wrap64 (t242 + t243)) + t245)) = 0
                              · rw [if_pos c101] at H
                                have c101b0 : ((wrap64 ((wrap64 (t242 + t243)) + t245)) == 0) = true := beq_iff_eq.mpr c101
                                have c101b1 : ((wrap64 ((wrap64 (t242 + t243)) + t245)) != 0) = false := bne_eq_false_iff_eq.mpr c101
                                clear c101
                                replace H := Option.bind_eq_some_iff.mp H
                                obtain ⟨t255, A1020, H⟩ := H
                                replace H : (some t255) = some r := H
                                have A102 := Aside0.mk A1020
                                clear A1020
                                obtain rfl := Option.some.inj H
                                go_wp2_with (first | (go_at_call 17; (with_reducible refine (solsticelaw03_wakes.calls kj95  t255 _ A102.out).mono ?_); rintro e w103 ⟨rfl, hb⟩; have n0_ := Aside0.mk (blk_below (g := gb237) (o := .cells #[.int .i64 a0_0, .int .i64 a0_1, .int .i64 a0_2] 23 (0, 0)) (by (with_reducible repeat (first | refine blk_drewN ?_ _ | refine blk_drew ?_ | refine blk_alloc ?_ _)); exact BK237.out) hb); have n1_ := Aside0.mk (below_step (by repeat (first | (with_reducible first | exact HB.out | apply below_alloc | apply pw_below_drewN | apply below_drew1 | refine below_set ?_ GE237.out) | exact HB.out)) hb); clear BK237; clear HB; have BK237 := n0_; have HB := n1_; clear n0_ n1_; (try clear hb); (try clear hb2); (try clear hk); (try clear hi)))
                                go_ret
                                exact ⟨by first | rfl | (simp [errW_none, errW_some] <;> rfl) | (simp only [i64_w]; done) | (simp only [i64_w]; rfl) | (simp [*, errW_none, errW_some] <;> rfl), by repeat (first | (with_reducible first | exact HB.out | apply below_alloc | apply pw_below_drewN | apply below_drew1 | refine below_set ?_ GE237.out) | exact HB.out)⟩
                              · rw [if_neg c101] at H
                                have c101b0 : ((wrap64 ((wrap64 (t242 + t243)) + t245)) == 0) = false := beq_eq_false_iff_ne.mpr c101
                                have c101b1 : ((wrap64 ((wrap64 (t242 + t243)) + t245)) != 0) = true := bne_iff_ne.mpr c101
                                exact absurd ((Option.some.inj H).trans hr.out) (by decide)
                            · rw [if_neg c100] at H
                              have c100b0 : (t246 == 1) = false := beq_eq_false_iff_ne.mpr c100
                              have c100b1 : (t246 != 1) = true := bne_iff_ne.mpr c100
                              exact absurd ((Option.some.inj H).trans hr.out) (by decide)
                          · rw [if_neg c99] at H
                            have c99b0 : (t244 == 1) = false := beq_eq_false_iff_ne.mpr c99
                            have c99b1 : (t244 != 1) = true := bne_iff_ne.mpr c99
                            exact absurd ((Option.some.inj H).trans hr.out) (by decide)
                        · replace c98 := Bool.eq_false_iff.mpr c98
                          subst c98
                          have H1 : (if x26_34 = true then (if t246 = 0 then ((solsticeref01_Weeks.f kj95 a1 a6).bind fun t256 => (if t245 = t256 then (solsticelaw03_WeekExact.j4 kj95 a3 a6 t242 t243 t244) else (some false))) else (some false)) else (if t246 = 23 then (if t245 = 0 then (solsticelaw03_WeekExact.j4 kj95 a3 a6 t242 t243 t244) else (some false)) else (some false))) = some r := by rw [if_neg (show ¬ (false = true) by decide)] at H; exact H
                          clear H
                          have H := H1
                          clear H1
                          by_cases c104 : x26_34 = true
                          · subst c104
                            have H1 : (if t246 = 0 then ((solsticeref01_Weeks.f kj95 a1 a6).bind fun t256 => (if t245 = t256 then (solsticelaw03_WeekExact.j4 kj95 a3 a6 t242 t243 t244) else (some false))) else (some false)) = some r := by rw [if_pos rfl] at H; exact H
                            clear H
                            have H := H1
                            clear H1
                            by_cases c105 : t246 = 0
                            · rw [if_pos c105] at H
                              have c105b0 : (t246 == 0) = true := beq_iff_eq.mpr c105
                              have c105b1 : (t246 != 0) = false := bne_eq_false_iff_eq.mpr c105
                              clear c105
                              replace H := Option.bind_eq_some_iff.mp H
                              obtain ⟨t256, A1060, H⟩ := H
                              replace H : (if t245 = t256 then (solsticelaw03_WeekExact.j4 kj95 a3 a6 t242 t243 t244) else (some false)) = some r := H
                              have A106 := Aside0.mk A1060
                              clear A1060
                              by_cases c107 : t245 = t256
                              · rw [if_pos c107] at H
                                have c107b0 : (t245 == t256) = true := beq_iff_eq.mpr c107
                                have c107b1 : (t245 != t256) = false := bne_eq_false_iff_eq.mpr c107
                                clear c107
                                have H' := Aside0.mk H
                                clear H
                                go_wp2_with (first | (go_at_call 18; (with_reducible refine (solsticeref01_Weeks.calls kj95 a1 a6 t256 _ A106.out).mono ?_); rintro e w108 ⟨rfl, hb⟩; have n0_ := Aside0.mk (blk_below (g := gb237) (o := .cells #[.int .i64 a0_0, .int .i64 a0_1, .int .i64 a0_2] 23 (0, 0)) (by (with_reducible repeat (first | refine blk_drewN ?_ _ | refine blk_drew ?_ | refine blk_alloc ?_ _)); exact BK237.out) hb); have n1_ := Aside0.mk (below_step (by repeat (first | (with_reducible first | exact HB.out | apply below_alloc | apply pw_below_drewN | apply below_drew1 | refine below_set ?_ GE237.out) | exact HB.out)) hb); clear BK237; clear HB; have BK237 := n0_; have HB := n1_; clear n0_ n1_; (try clear hb); (try clear hb2); (try clear hk); (try clear hi)))
                                go_meet
                                case rel => exact ⟨_, H', ⟨by have := HJ23.out; have := HJ34.out; have := HJ36.out; have := HJ95.out; first | omega | exact Nat.le_refl _⟩, ⟨by (with_reducible repeat (first | refine blk_drewN ?_ _ | refine blk_drew ?_ | refine blk_alloc ?_ _)); exact BK237.out⟩, ⟨by repeat (first | (with_reducible first | exact HB.out | apply below_alloc | apply pw_below_drewN | apply below_drew1 | refine below_set ?_ GE237.out) | exact HB.out)⟩⟩
                              · rw [if_neg c107] at H
                                have c107b0 : (t245 == t256) = false := beq_eq_false_iff_ne.mpr c107
                                have c107b1 : (t245 != t256) = true := bne_iff_ne.mpr c107
                                exact absurd ((Option.some.inj H).trans hr.out) (by decide)
                            · rw [if_neg c105] at H
                              have c105b0 : (t246 == 0) = false := beq_eq_false_iff_ne.mpr c105
                              have c105b1 : (t246 != 0) = true := bne_iff_ne.mpr c105
                              exact absurd ((Option.some.inj H).trans hr.out) (by decide)
                          · replace c104 := Bool.eq_false_iff.mpr c104
                            subst c104
                            have H1 : (if t246 = 23 then (if t245 = 0 then (solsticelaw03_WeekExact.j4 kj95 a3 a6 t242 t243 t244) else (some false)) else (some false)) = some r := by rw [if_neg (show ¬ (false = true) by decide)] at H; exact H
                            clear H
                            have H := H1
                            clear H1
                            by_cases c110 : t246 = 23
                            · rw [if_pos c110] at H
                              have c110b0 : (t246 == 23) = true := beq_iff_eq.mpr c110
                              have c110b1 : (t246 != 23) = false := bne_eq_false_iff_eq.mpr c110
                              clear c110
                              by_cases c111 : t245 = 0
                              · rw [if_pos c111] at H
                                have c111b0 : (t245 == 0) = true := beq_iff_eq.mpr c111
                                have c111b1 : (t245 != 0) = false := bne_eq_false_iff_eq.mpr c111
                                clear c111
                                have H' := Aside0.mk H
                                clear H
                                go_wp2
                                go_meet
                                case rel => exact ⟨_, H', ⟨by have := HJ23.out; have := HJ34.out; have := HJ36.out; have := HJ95.out; first | omega | exact Nat.le_refl _⟩, ⟨by (with_reducible repeat (first | refine blk_drewN ?_ _ | refine blk_drew ?_ | refine blk_alloc ?_ _)); exact BK237.out⟩, ⟨by repeat (first | (with_reducible first | exact HB.out | apply below_alloc | apply pw_below_drewN | apply below_drew1 | refine below_set ?_ GE237.out) | exact HB.out)⟩⟩
                              · rw [if_neg c111] at H
                                have c111b0 : (t245 == 0) = false := beq_eq_false_iff_ne.mpr c111
                                have c111b1 : (t245 != 0) = true := bne_iff_ne.mpr c111
                                exact absurd ((Option.some.inj H).trans hr.out) (by decide)
                            · rw [if_neg c110] at H
                              have c110b0 : (t246 == 23) = false := beq_eq_false_iff_ne.mpr c110
                              have c110b1 : (t246 != 23) = true := bne_iff_ne.mpr c110
                              exact absurd ((Option.some.inj H).trans hr.out) (by decide)
                  case rest => as_aux_lemma =>
                    clear HC95
                    try clear c1
                    try clear p2
                    try clear c3
                    try clear c4
                    try clear c5
                    try clear p6
                    try clear c7
                    try clear c8
                    try clear c9
                    try clear c10
                    try clear c11
                    try clear c12
                    try clear c13
                    try clear c14
                    try clear c14b0
                    try clear c14b1
                    try clear c14b2
                    try clear c15
                    try clear c16
                    try clear c33
                    try clear c33b0
                    try clear c33b1
                    try clear c34
                    try clear c36
                    try clear c36b0
                    try clear c39
                    try clear c40
                    try clear c42
                    try clear c43
                    try clear c43b0
                    try clear c43b1
                    try clear c44
                    try clear c44b0
                    try clear c44b1
                    try clear c57
                    try clear c57b0
                    try clear c57b1
                    try clear c58
                    try clear c58b0
                    try clear c58b1
                    try clear p64
                    try clear c71
                    try clear c71b0
                    try clear c71b1
                    try clear c72
                    try clear c72b0
                    try clear c72b1
                    try clear c79
                    try clear c79b0
                    try clear c79b1
                    try clear c80
                    try clear c80b0
                    try clear c80b1
                    try clear c82
                    try clear c82b0
                    try clear c82b1
                    try clear c97
                    try clear c97b0
                    try clear c98
                    try clear c99
                    try clear c99b0
                    try clear c99b1
                    try clear c100
                    try clear c100b0
                    try clear c100b1
                    try clear c101
                    try clear c101b0
                    try clear c101b1
                    try clear c104
                    try clear c105
                    try clear c105b0
                    try clear c105b1
                    try clear c107
                    try clear c107b0
                    try clear c107b1
                    try clear c110
                    try clear c110b0
                    try clear c110b1
                    try clear c111
                    try clear c111b0
                    try clear c111b1
                    try clear hcz16_0
                    try clear hcz16_1
                    try clear hcz16_2
                    try clear hcz26_0
                    try clear hcz26_1
                    try clear hcz26_2
                    try clear hcz45_0
                    try clear hcz45_1
                    try clear hcz45_2
                    try clear hcz47_0
                    try clear hcz47_1
                    try clear hcz47_2
                    try clear hcz49_0
                    try clear hcz49_1
                    try clear hcz49_2
                    try clear hcz51_0
                    try clear hcz51_1
                    try clear hcz51_2
                    try clear hcz53_0
                    try clear hcz53_1
                    try clear hcz53_2
                    try clear hcz55_0
                    try clear hcz55_1
                    try clear hcz55_2
                    try clear hcz59_0
                    try clear hcz59_1
                    try clear hcz59_2
                    try clear hcz61_0
                    try clear hcz61_1
                    try clear hcz61_2
                    try clear hcz63_0
                    try clear hcz63_1
                    try clear hcz63_2
                    try clear hcz65_0
                    try clear hcz65_1
                    try clear hcz65_2
                    try clear hcz67_0
                    try clear hcz67_1
                    try clear hcz67_2
                    try clear hcz69_0
                    try clear hcz69_1
                    try clear hcz69_2
                    try clear hcz73_0
                    try clear hcz73_1
                    try clear hcz73_2
                    try clear hcz75_0
                    try clear hcz75_1
                    try clear hcz75_2
                    try clear hcz77_0
                    try clear hcz77_1
                    try clear hcz77_2
                    try clear hcz83_0
                    try clear hcz83_1
                    try clear hcz83_2
                    try clear hcz85_0
                    try clear hcz85_1
                    try clear hcz85_2
                    try clear hcz87_0
                    try clear hcz87_1
                    try clear hcz87_2
                    try clear hcz89_0
                    try clear hcz89_1
                    try clear hcz89_2
                    try clear hcz91_0
                    try clear hcz91_1
                    try clear hcz91_2
                    try clear hcz93_0
                    try clear hcz93_1
                    try clear hcz93_2
                    try clear hfz16_0
                    try clear hfz16_1
                    try clear hfz16_2
                    try clear hfz26_0
                    try clear hfz26_1
                    try clear hfz26_2
                    try clear hfz45_0
                    try clear hfz45_1
                    try clear hfz45_2
                    try clear hfz47_0
                    try clear hfz47_1
                    try clear hfz47_2
                    try clear hfz49_0
                    try clear hfz49_1
                    try clear hfz49_2
                    try clear hfz51_0
                    try clear hfz51_1
                    try clear hfz51_2
                    try clear hfz53_0
                    try clear hfz53_1
                    try clear hfz53_2
                    try clear hfz55_0
                    try clear hfz55_1
                    try clear hfz55_2
                    try clear hfz59_0
                    try clear hfz59_1
                    try clear hfz59_2
                    try clear hfz61_0
                    try clear hfz61_1
                    try clear hfz61_2
                    try clear hfz63_0
                    try clear hfz63_1
                    try clear hfz63_2
                    try clear hfz65_0
                    try clear hfz65_1
                    try clear hfz65_2
                    try clear hfz67_0
                    try clear hfz67_1
                    try clear hfz67_2
                    try clear hfz69_0
                    try clear hfz69_1
                    try clear hfz69_2
                    try clear hfz73_0
                    try clear hfz73_1
                    try clear hfz73_2
                    try clear hfz75_0
                    try clear hfz75_1
                    try clear hfz75_2
                    try clear hfz77_0
                    try clear hfz77_1
                    try clear hfz77_2
                    try clear hfz83_0
                    try clear hfz83_1
                    try clear hfz83_2
                    try clear hfz85_0
                    try clear hfz85_1
                    try clear hfz85_2
                    try clear hfz87_0
                    try clear hfz87_1
                    try clear hfz87_2
                    try clear hfz89_0
                    try clear hfz89_1
                    try clear hfz89_2
                    try clear hfz91_0
                    try clear hfz91_1
                    try clear hfz91_2
                    try clear hfz93_0
                    try clear hfz93_1
                    try clear hfz93_2
                    try clear p2
                    obtain ⟨kq, HA, HJ94, BK237, HB⟩ := hcut
                    cases kq with
                    | zero => exact absurd HA.out (by simp [solsticelaw03_WeekExact.j4])
                    | succ kj94 =>
                      have H := HA.out
                      clear HA
                      simp only [solsticelaw03_WeekExact.j4] at H
                      have HC112 := Aside0.mk H
                      clear H
                      go_upto_region 27 with (fail)
                      go_cut [29] (fun v29 wc => ∃ (kq : Nat) (x29_111 : Bool), v29 = .bool x29_111 ∧ Aside0 (solsticelaw03_WeekExact.j5 kq a3 a6 t242 t243 t244 x29_111 = some r) ∧ Aside0 (kq ≤ kj94) ∧ Aside0 (wc.heap[gb237]? = some (.cells #[.int .i64 a0_0, .int .i64 a0_1, .int .i64 a0_2] 23 (0, 0))) ∧ Aside0 (Below w.heap.size w wc))
                      case first => as_aux_lemma =>
                        have H := HC112.out
                        clear HC112
                        replace H := Option.bind_eq_some_iff.mp H
                        obtain ⟨t257, A1130, H⟩ := H
                        replace H : (if a3 ≥ t257 then ((solsticeref01_Most.f kj94).bind fun t258 => (solsticelaw03_WeekExact.j5 kj94 a3 a6 t242 t243 t244 (decide (a3 ≤ t258)))) else (solsticelaw03_WeekExact.j5 kj94 a3 a6 t242 t243 t244 false)) = some r := H
                        have A113 := Aside0.mk A1130
                        clear A1130
                        by_cases c114 : a3 ≥ t257
                        · rw [if_pos c114] at H
                          have c114b0 : decide (t257 ≤ a3) = true := decide_eq_true c114
                          clear c114
                          (first | rw [c114b0] | (simp only [i64_w, i32_w]; rw [c114b0]) | skip)
                          replace H := Option.bind_eq_some_iff.mp H
                          obtain ⟨t258, A1150, H⟩ := H
                          replace H : (solsticelaw03_WeekExact.j5 kj94 a3 a6 t242 t243 t244 (decide (a3 ≤ t258))) = some r := H
                          have A115 := Aside0.mk A1150
                          clear A1150
                          have H' := Aside0.mk H
                          clear H
                          go_wp2_with (first | ((with_reducible refine gate_callee (f := 19) rfl ?_); refine goesL_ (some 184) rfl rfl Try.func19 (by kernel_rfl) rfl #[] rfl (by (try simp only [List.map_toArray, List.map_cons, List.map_nil]); first | done | rfl | (simp only [List.length_drop, List.length_take]; rfl)) ?_; (with_reducible refine (solsticeref01_Least.calls kj94  t257 _ A113.out).mono ?_); rintro e w116 ⟨rfl, hb⟩; refine ⟨_, rfl, ?_⟩; have n0_ := Aside0.mk (blk_below (g := gb237) (o := .cells #[.int .i64 a0_0, .int .i64 a0_1, .int .i64 a0_2] 23 (0, 0)) (by (with_reducible repeat (first | refine blk_drewN ?_ _ | refine blk_drew ?_ | refine blk_alloc ?_ _)); exact BK237.out) hb); have n1_ := Aside0.mk (below_step (by repeat (first | (with_reducible first | exact HB.out | apply below_alloc | apply pw_below_drewN | apply below_drew1 | refine below_set ?_ GE237.out) | exact HB.out)) hb); clear BK237; clear HB; have BK237 := n0_; have HB := n1_; clear n0_ n1_; (try clear hb); (try clear hb2); (try clear hk); (try clear hi)) | (go_at_call 20; (with_reducible refine (solsticeref01_Most.calls kj94  t258 _ A115.out).mono ?_); rintro e w117 ⟨rfl, hb⟩; have n0_ := Aside0.mk (blk_below (g := gb237) (o := .cells #[.int .i64 a0_0, .int .i64 a0_1, .int .i64 a0_2] 23 (0, 0)) (by (with_reducible repeat (first | refine blk_drewN ?_ _ | refine blk_drew ?_ | refine blk_alloc ?_ _)); exact BK237.out) hb); have n1_ := Aside0.mk (below_step (by repeat (first | (with_reducible first | exact HB.out | apply below_alloc | apply pw_below_drewN | apply below_drew1 | refine below_set ?_ GE237.out) | exact HB.out)) hb); clear BK237; clear HB; have BK237 := n0_; have HB := n1_; clear n0_ n1_; (try clear hb); (try clear hb2); (try clear hk); (try clear hi)))
                          go_meet
                          case rel => exact ⟨_, (decide (a3 ≤ t258)), (by first | rfl | (simp; done) | (simp [*]; done)), H', ⟨by have := HJ23.out; have := HJ34.out; have := HJ36.out; have := HJ94.out; first | omega | exact Nat.le_refl _⟩, ⟨by (with_reducible repeat (first | refine blk_drewN ?_ _ | refine blk_drew ?_ | refine blk_alloc ?_ _)); exact BK237.out⟩, ⟨by repeat (first | (with_reducible first | exact HB.out | apply below_alloc | apply pw_below_drewN | apply below_drew1 | refine below_set ?_ GE237.out) | exact HB.out)⟩⟩
                        · rw [if_neg c114] at H
                          have c114b0 : decide (t257 ≤ a3) = false := decide_eq_false c114
                          clear c114
                          (first | rw [c114b0] | (simp only [i64_w, i32_w]; rw [c114b0]) | skip)
                          have H' := Aside0.mk H
                          clear H
                          go_wp2_with (first | ((with_reducible refine gate_callee (f := 19) rfl ?_); refine goesL_ (some 184) rfl rfl Try.func19 (by kernel_rfl) rfl #[] rfl (by (try simp only [List.map_toArray, List.map_cons, List.map_nil]); first | done | rfl | (simp only [List.length_drop, List.length_take]; rfl)) ?_; (with_reducible refine (solsticeref01_Least.calls kj94  t257 _ A113.out).mono ?_); rintro e w118 ⟨rfl, hb⟩; refine ⟨_, rfl, ?_⟩; have n0_ := Aside0.mk (blk_below (g := gb237) (o := .cells #[.int .i64 a0_0, .int .i64 a0_1, .int .i64 a0_2] 23 (0, 0)) (by (with_reducible repeat (first | refine blk_drewN ?_ _ | refine blk_drew ?_ | refine blk_alloc ?_ _)); exact BK237.out) hb); have n1_ := Aside0.mk (below_step (by repeat (first | (with_reducible first | exact HB.out | apply below_alloc | apply pw_below_drewN | apply below_drew1 | refine below_set ?_ GE237.out) | exact HB.out)) hb); clear BK237; clear HB; have BK237 := n0_; have HB := n1_; clear n0_ n1_; (try clear hb); (try clear hb2); (try clear hk); (try clear hi)))
                          go_meet
                          case rel => exact ⟨_, (false), (by first | rfl | (simp; done) | (simp [*]; done)), H', ⟨by have := HJ23.out; have := HJ34.out; have := HJ36.out; have := HJ94.out; first | omega | exact Nat.le_refl _⟩, ⟨by (with_reducible repeat (first | refine blk_drewN ?_ _ | refine blk_drew ?_ | refine blk_alloc ?_ _)); exact BK237.out⟩, ⟨by repeat (first | (with_reducible first | exact HB.out | apply below_alloc | apply pw_below_drewN | apply below_drew1 | refine below_set ?_ GE237.out) | exact HB.out)⟩⟩
                      case rest => as_aux_lemma =>
                        clear HC112
                        try clear c1
                        try clear p2
                        try clear c3
                        try clear c4
                        try clear c5
                        try clear p6
                        try clear c7
                        try clear c8
                        try clear c9
                        try clear c10
                        try clear c11
                        try clear c12
                        try clear c13
                        try clear c14
                        try clear c14b0
                        try clear c14b1
                        try clear c14b2
                        try clear c15
                        try clear c16
                        try clear c19
                        try clear c33
                        try clear c33b0
                        try clear c33b1
                        try clear c34
                        try clear c36
                        try clear c36b0
                        try clear c39
                        try clear c40
                        try clear c42
                        try clear c43
                        try clear c43b0
                        try clear c43b1
                        try clear c44
                        try clear c44b0
                        try clear c44b1
                        try clear c57
                        try clear c57b0
                        try clear c57b1
                        try clear c58
                        try clear c58b0
                        try clear c58b1
                        try clear p64
                        try clear c71
                        try clear c71b0
                        try clear c71b1
                        try clear c72
                        try clear c72b0
                        try clear c72b1
                        try clear c79
                        try clear c79b0
                        try clear c79b1
                        try clear c80
                        try clear c80b0
                        try clear c80b1
                        try clear c82
                        try clear c82b0
                        try clear c82b1
                        try clear c97
                        try clear c97b0
                        try clear c98
                        try clear c99
                        try clear c99b0
                        try clear c99b1
                        try clear c100
                        try clear c100b0
                        try clear c100b1
                        try clear c101
                        try clear c101b0
                        try clear c101b1
                        try clear c104
                        try clear c105
                        try clear c105b0
                        try clear c105b1
                        try clear c107
                        try clear c107b0
                        try clear c107b1
                        try clear c110
                        try clear c110b0
                        try clear c110b1
                        try clear c111
                        try clear c111b0
                        try clear c111b1
                        try clear c114
                        try clear c114b0
                        try clear hcz16_0
                        try clear hcz16_1
                        try clear hcz16_2
                        try clear hcz26_0
                        try clear hcz26_1
                        try clear hcz26_2
                        try clear hcz45_0
                        try clear hcz45_1
                        try clear hcz45_2
                        try clear hcz47_0
                        try clear hcz47_1
                        try clear hcz47_2
                        try clear hcz49_0
                        try clear hcz49_1
                        try clear hcz49_2
                        try clear hcz51_0
                        try clear hcz51_1
                        try clear hcz51_2
                        try clear hcz53_0
                        try clear hcz53_1
                        try clear hcz53_2
                        try clear hcz55_0
                        try clear hcz55_1
                        try clear hcz55_2
                        try clear hcz59_0
                        try clear hcz59_1
                        try clear hcz59_2
                        try clear hcz61_0
                        try clear hcz61_1
                        try clear hcz61_2
                        try clear hcz63_0
                        try clear hcz63_1
                        try clear hcz63_2
                        try clear hcz65_0
                        try clear hcz65_1
                        try clear hcz65_2
                        try clear hcz67_0
                        try clear hcz67_1
                        try clear hcz67_2
                        try clear hcz69_0
                        try clear hcz69_1
                        try clear hcz69_2
                        try clear hcz73_0
                        try clear hcz73_1
                        try clear hcz73_2
                        try clear hcz75_0
                        try clear hcz75_1
                        try clear hcz75_2
                        try clear hcz77_0
                        try clear hcz77_1
                        try clear hcz77_2
                        try clear hcz83_0
                        try clear hcz83_1
                        try clear hcz83_2
                        try clear hcz85_0
                        try clear hcz85_1
                        try clear hcz85_2
                        try clear hcz87_0
                        try clear hcz87_1
                        try clear hcz87_2
                        try clear hcz89_0
                        try clear hcz89_1
                        try clear hcz89_2
                        try clear hcz91_0
                        try clear hcz91_1
                        try clear hcz91_2
                        try clear hcz93_0
                        try clear hcz93_1
                        try clear hcz93_2
                        try clear hfz16_0
                        try clear hfz16_1
                        try clear hfz16_2
                        try clear hfz26_0
                        try clear hfz26_1
                        try clear hfz26_2
                        try clear hfz45_0
                        try clear hfz45_1
                        try clear hfz45_2
                        try clear hfz47_0
                        try clear hfz47_1
                        try clear hfz47_2
                        try clear hfz49_0
                        try clear hfz49_1
                        try clear hfz49_2
                        try clear hfz51_0
                        try clear hfz51_1
                        try clear hfz51_2
                        try clear hfz53_0
                        try clear hfz53_1
                        try clear hfz53_2
                        try clear hfz55_0
                        try clear hfz55_1
                        try clear hfz55_2
                        try clear hfz59_0
                        try clear hfz59_1
                        try clear hfz59_2
                        try clear hfz61_0
                        try clear hfz61_1
                        try clear hfz61_2
                        try clear hfz63_0
                        try clear hfz63_1
                        try clear hfz63_2
                        try clear hfz65_0
                        try clear hfz65_1
                        try clear hfz65_2
                        try clear hfz67_0
                        try clear hfz67_1
                        try clear hfz67_2
                        try clear hfz69_0
                        try clear hfz69_1
                        try clear hfz69_2
                        try clear hfz73_0
                        try clear hfz73_1
                        try clear hfz73_2
                        try clear hfz75_0
                        try clear hfz75_1
                        try clear hfz75_2
                        try clear hfz77_0
                        try clear hfz77_1
                        try clear hfz77_2
                        try clear hfz83_0
                        try clear hfz83_1
                        try clear hfz83_2
                        try clear hfz85_0
                        try clear hfz85_1
                        try clear hfz85_2
                        try clear hfz87_0
                        try clear hfz87_1
                        try clear hfz87_2
                        try clear hfz89_0
                        try clear hfz89_1
                        try clear hfz89_2
                        try clear hfz91_0
                        try clear hfz91_1
                        try clear hfz91_2
                        try clear hfz93_0
                        try clear hfz93_1
                        try clear hfz93_2
                        try clear p2
                        try clear p6
                        try clear p64
                        obtain ⟨kq, x29_111, rfl, HA, HJ111, BK237, HB⟩ := hcut
                        cases kq with
                        | zero => exact absurd HA.out (by simp [solsticelaw03_WeekExact.j5])
                        | succ kj111 =>
                          have H := HA.out
                          clear HA
                          simp only [solsticelaw03_WeekExact.j5] at H
                          have HC119 := Aside0.mk H
                          clear H
                          go_upto_region 28 with (fail)
                          go_cut [204] (fun v204 wc => ∃ (kq : Nat) (x204_118 : Bool), v204 = .bool x204_118 ∧ Aside0 (solsticelaw03_WeekExact.j6 kq a3 a6 t242 t243 t244 x204_118 = some r) ∧ Aside0 (kq ≤ kj111) ∧ Aside0 (wc.heap[gb237]? = some (.cells #[.int .i64 a0_0, .int .i64 a0_1, .int .i64 a0_2] 23 (0, 0))) ∧ Aside0 (Below w.heap.size w wc))
                          case first => as_aux_lemma =>
                            have H := HC119.out
                            clear HC119
                            by_cases c120 : x29_111 = true
                            · subst c120
                              have H1 : ((solsticeref01_Date.f kj111 a3).bind fun bt259 => (if bt259.1 < 1 then (solsticelaw03_WeekExact.j6 kj111 a3 a6 t242 t243 t244 true) else ((solsticeref01_Date.f kj111 a3).bind fun bt262 => (solsticelaw03_WeekExact.j6 kj111 a3 a6 t242 t243 t244 (decide (bt262.1 > 9999)))))) = some r := by rw [if_pos rfl] at H; exact H
                              clear H
                              have H := H1
                              clear H1
                              replace H := Option.bind_eq_some_iff.mp H
                              obtain ⟨⟨t259, t260, t261⟩, A1210, H⟩ := H
                              replace H : (if t259 < 1 then (solsticelaw03_WeekExact.j6 kj111 a3 a6 t242 t243 t244 true) else ((solsticeref01_Date.f kj111 a3).bind fun bt262 => (solsticelaw03_WeekExact.j6 kj111 a3 a6 t242 t243 t244 (decide (bt262.1 > 9999))))) = some r := H
                              have A121 := Aside0.mk A1210
                              clear A1210
                              by_cases c122 : t259 < 1
                              · rw [if_pos c122] at H
                                have c122b0 : decide (t259 < 1) = true := decide_eq_true c122
                                clear c122
                                (first | rw [c122b0] | (simp only [i64_w, i32_w]; rw [c122b0]) | skip)
                                have H' := Aside0.mk H
                                clear H
                                go_wp2_with (first | (go_at_call 21; (with_reducible refine (solsticeref01_Date.calls kj111 a3 t259 t260 t261 _ A121.out).mono ?_); rintro e w123 ⟨rfl, hb⟩; have n0_ := Aside0.mk (blk_below (g := gb237) (o := .cells #[.int .i64 a0_0, .int .i64 a0_1, .int .i64 a0_2] 23 (0, 0)) (by (with_reducible repeat (first | refine blk_drewN ?_ _ | refine blk_drew ?_ | refine blk_alloc ?_ _)); exact BK237.out) hb); have n1_ := Aside0.mk (below_step (by repeat (first | (with_reducible first | exact HB.out | apply below_alloc | apply pw_below_drewN | apply below_drew1 | refine below_set ?_ GE237.out) | exact HB.out)) hb); clear BK237; clear HB; have BK237 := n0_; have HB := n1_; clear n0_ n1_; (try clear hb); (try clear hb2); (try clear hk); (try clear hi)))
                                go_meet
                                case rel => exact ⟨_, (true), (by first | rfl | (simp; done) | (simp [*]; done)), H', ⟨by have := HJ23.out; have := HJ34.out; have := HJ36.out; have := HJ94.out; have := HJ111.out; first | omega | exact Nat.le_refl _⟩, ⟨by (with_reducible repeat (first | refine blk_drewN ?_ _ | refine blk_drew ?_ | refine blk_alloc ?_ _)); exact BK237.out⟩, ⟨by repeat (first | (with_reducible first | exact HB.out | apply below_alloc | apply pw_below_drewN | apply below_drew1 | refine below_set ?_ GE237.out) | exact HB.out)⟩⟩
                              · rw [if_neg c122] at H
                                have c122b0 : decide (t259 < 1) = false := decide_eq_false c122
                                clear c122
                                (first | rw [c122b0] | (simp only [i64_w, i32_w]; rw [c122b0]) | skip)
                                replace H := Option.bind_eq_some_iff.mp H
                                obtain ⟨⟨t262, t263, t264⟩, A1240, H⟩ := H
                                replace H : (solsticelaw03_WeekExact.j6 kj111 a3 a6 t242 t243 t244 (decide (t262 > 9999))) = some r := H
                                have A124 := Aside0.mk A1240
                                clear A1240
                                have H' := Aside0.mk H
                                clear H
                                go_wp2_with (first | (go_at_call 21; (with_reducible refine (solsticeref01_Date.calls kj111 a3 t259 t260 t261 _ A121.out).mono ?_); rintro e w125 ⟨rfl, hb⟩; have n0_ := Aside0.mk (blk_below (g := gb237) (o := .cells #[.int .i64 a0_0, .int .i64 a0_1, .int .i64 a0_2] 23 (0, 0)) (by (with_reducible repeat (first | refine blk_drewN ?_ _ | refine blk_drew ?_ | refine blk_alloc ?_ _)); exact BK237.out) hb); have n1_ := Aside0.mk (below_step (by repeat (first | (with_reducible first | exact HB.out | apply below_alloc | apply pw_below_drewN | apply below_drew1 | refine below_set ?_ GE237.out) | exact HB.out)) hb); clear BK237; clear HB; have BK237 := n0_; have HB := n1_; clear n0_ n1_; (try clear hb); (try clear hb2); (try clear hk); (try clear hi)) | (go_at_call 21; (with_reducible refine (solsticeref01_Date.calls kj111 a3 t262 t263 t264 _ A124.out).mono ?_); rintro e w126 ⟨rfl, hb⟩; have n0_ := Aside0.mk (blk_below (g := gb237) (o := .cells #[.int .i64 a0_0, .int .i64 a0_1, .int .i64 a0_2] 23 (0, 0)) (by (with_reducible repeat (first | refine blk_drewN ?_ _ | refine blk_drew ?_ | refine blk_alloc ?_ _)); exact BK237.out) hb); have n1_ := Aside0.mk (below_step (by repeat (first | (with_reducible first | exact HB.out | apply below_alloc | apply pw_below_drewN | apply below_drew1 | refine below_set ?_ GE237.out) | exact HB.out)) hb); clear BK237; clear HB; have BK237 := n0_; have HB := n1_; clear n0_ n1_; (try clear hb); (try clear hb2); (try clear hk); (try clear hi)))
                                have e262 : t262 = t259 := by have h262 := A124.out.symm.trans A121.out; simp only [Option.some.injEq, Prod.mk.injEq] at h262; exact h262.1
                                go_meet
                                case rel => exact ⟨_, (decide (t262 > 9999)), (by first | rfl | (simp; done) | (simp [*]; done)), H', ⟨by have := HJ23.out; have := HJ34.out; have := HJ36.out; have := HJ94.out; have := HJ111.out; first | omega | exact Nat.le_refl _⟩, ⟨by (with_reducible repeat (first | refine blk_drewN ?_ _ | refine blk_drew ?_ | refine blk_alloc ?_ _)); exact BK237.out⟩, ⟨by repeat (first | (with_reducible first | exact HB.out | apply below_alloc | apply pw_below_drewN | apply below_drew1 | refine below_set ?_ GE237.out) | exact HB.out)⟩⟩
                            · replace c120 := Bool.eq_false_iff.mpr c120
                              subst c120
                              have H1 : (solsticelaw03_WeekExact.j6 kj111 a3 a6 t242 t243 t244 true) = some r := by rw [if_neg (show ¬ (false = true) by decide)] at H; exact H
                              clear H
                              have H := H1
                              clear H1
                              have H' := Aside0.mk H
                              clear H
                              go_wp2
                              go_meet
                              case rel => exact ⟨_, (true), (by first | rfl | (simp; done) | (simp [*]; done)), H', ⟨by have := HJ23.out; have := HJ34.out; have := HJ36.out; have := HJ94.out; have := HJ111.out; first | omega | exact Nat.le_refl _⟩, ⟨by (with_reducible repeat (first | refine blk_drewN ?_ _ | refine blk_drew ?_ | refine blk_alloc ?_ _)); exact BK237.out⟩, ⟨by repeat (first | (with_reducible first | exact HB.out | apply below_alloc | apply pw_below_drewN | apply below_drew1 | refine below_set ?_ GE237.out) | exact HB.out)⟩⟩
                          case rest => as_aux_lemma =>
                            clear HC119
                            try clear c1
                            try clear p2
                            try clear c3
                            try clear c4
                            try clear c5
                            try clear p6
                            try clear c7
                            try clear c8
                            try clear c9
                            try clear c10
                            try clear c11
                            try clear c12
                            try clear c13
                            try clear c14
                            try clear c14b0
                            try clear c14b1
                            try clear c14b2
                            try clear c15
                            try clear c16
                            try clear c19
                            try clear c33
                            try clear c33b0
                            try clear c33b1
                            try clear c34
                            try clear c36
                            try clear c36b0
                            try clear c39
                            try clear c40
                            try clear c42
                            try clear c43
                            try clear c43b0
                            try clear c43b1
                            try clear c44
                            try clear c44b0
                            try clear c44b1
                            try clear c57
                            try clear c57b0
                            try clear c57b1
                            try clear c58
                            try clear c58b0
                            try clear c58b1
                            try clear p64
                            try clear c71
                            try clear c71b0
                            try clear c71b1
                            try clear c72
                            try clear c72b0
                            try clear c72b1
                            try clear c79
                            try clear c79b0
                            try clear c79b1
                            try clear c80
                            try clear c80b0
                            try clear c80b1
                            try clear c82
                            try clear c82b0
                            try clear c82b1
                            try clear c97
                            try clear c97b0
                            try clear c98
                            try clear c99
                            try clear c99b0
                            try clear c99b1
                            try clear c100
                            try clear c100b0
                            try clear c100b1
                            try clear c101
                            try clear c101b0
                            try clear c101b1
                            try clear c104
                            try clear c105
                            try clear c105b0
                            try clear c105b1
                            try clear c107
                            try clear c107b0
                            try clear c107b1
                            try clear c110
                            try clear c110b0
                            try clear c110b1
                            try clear c111
                            try clear c111b0
                            try clear c111b1
                            try clear c114
                            try clear c114b0
                            try clear c120
                            try clear c122
                            try clear c122b0
                            try clear hcz16_0
                            try clear hcz16_1
                            try clear hcz16_2
                            try clear hcz26_0
                            try clear hcz26_1
                            try clear hcz26_2
                            try clear hcz45_0
                            try clear hcz45_1
                            try clear hcz45_2
                            try clear hcz47_0
                            try clear hcz47_1
                            try clear hcz47_2
                            try clear hcz49_0
                            try clear hcz49_1
                            try clear hcz49_2
                            try clear hcz51_0
                            try clear hcz51_1
                            try clear hcz51_2
                            try clear hcz53_0
                            try clear hcz53_1
                            try clear hcz53_2
                            try clear hcz55_0
                            try clear hcz55_1
                            try clear hcz55_2
                            try clear hcz59_0
                            try clear hcz59_1
                            try clear hcz59_2
                            try clear hcz61_0
                            try clear hcz61_1
                            try clear hcz61_2
                            try clear hcz63_0
                            try clear hcz63_1
                            try clear hcz63_2
                            try clear hcz65_0
                            try clear hcz65_1
                            try clear hcz65_2
                            try clear hcz67_0
                            try clear hcz67_1
                            try clear hcz67_2
                            try clear hcz69_0
                            try clear hcz69_1
                            try clear hcz69_2
                            try clear hcz73_0
                            try clear hcz73_1
                            try clear hcz73_2
                            try clear hcz75_0
                            try clear hcz75_1
                            try clear hcz75_2
                            try clear hcz77_0
                            try clear hcz77_1
                            try clear hcz77_2
                            try clear hcz83_0
                            try clear hcz83_1
                            try clear hcz83_2
                            try clear hcz85_0
                            try clear hcz85_1
                            try clear hcz85_2
                            try clear hcz87_0
                            try clear hcz87_1
                            try clear hcz87_2
                            try clear hcz89_0
                            try clear hcz89_1
                            try clear hcz89_2
                            try clear hcz91_0
                            try clear hcz91_1
                            try clear hcz91_2
                            try clear hcz93_0
                            try clear hcz93_1
                            try clear hcz93_2
                            try clear hfz16_0
                            try clear hfz16_1
                            try clear hfz16_2
                            try clear hfz26_0
                            try clear hfz26_1
                            try clear hfz26_2
                            try clear hfz45_0
                            try clear hfz45_1
                            try clear hfz45_2
                            try clear hfz47_0
                            try clear hfz47_1
                            try clear hfz47_2
                            try clear hfz49_0
                            try clear hfz49_1
                            try clear hfz49_2
                            try clear hfz51_0
                            try clear hfz51_1
                            try clear hfz51_2
                            try clear hfz53_0
                            try clear hfz53_1
                            try clear hfz53_2
                            try clear hfz55_0
                            try clear hfz55_1
                            try clear hfz55_2
                            try clear hfz59_0
                            try clear hfz59_1
                            try clear hfz59_2
                            try clear hfz61_0
                            try clear hfz61_1
                            try clear hfz61_2
                            try clear hfz63_0
                            try clear hfz63_1
                            try clear hfz63_2
                            try clear hfz65_0
                            try clear hfz65_1
                            try clear hfz65_2
                            try clear hfz67_0
                            try clear hfz67_1
                            try clear hfz67_2
                            try clear hfz69_0
                            try clear hfz69_1
                            try clear hfz69_2
                            try clear hfz73_0
                            try clear hfz73_1
                            try clear hfz73_2
                            try clear hfz75_0
                            try clear hfz75_1
                            try clear hfz75_2
                            try clear hfz77_0
                            try clear hfz77_1
                            try clear hfz77_2
                            try clear hfz83_0
                            try clear hfz83_1
                            try clear hfz83_2
                            try clear hfz85_0
                            try clear hfz85_1
                            try clear hfz85_2
                            try clear hfz87_0
                            try clear hfz87_1
                            try clear hfz87_2
                            try clear hfz89_0
                            try clear hfz89_1
                            try clear hfz89_2
                            try clear hfz91_0
                            try clear hfz91_1
                            try clear hfz91_2
                            try clear hfz93_0
                            try clear hfz93_1
                            try clear hfz93_2
                            try clear p2
                            try clear p6
                            try clear p64
                            obtain ⟨kq, x204_118, rfl, HA, HJ118, BK237, HB⟩ := hcut
                            cases kq with
                            | zero => exact absurd HA.out (by simp [solsticelaw03_WeekExact.j6])
                            | succ kj118 =>
                              have H := HA.out
                              clear HA
                              simp only [solsticelaw03_WeekExact.j6] at H
                              by_cases c127 : x204_118 = true
                              · subst c127
                                have H1 : (if t244 = 23 then (if (wrap64 (t242 + t243)) = 0 then ((solsticelaw03_wakes.f kj118).bind fun t265 => (some t265)) else (some false)) else (some false)) = some r := by rw [if_pos rfl] at H; exact H
                                clear H
                                have H := H1
                                clear H1
                                by_cases c128 : t244 = 23
                                · rw [if_pos c128] at H
                                  have c128b0 : (t244 == 23) = true := beq_iff_eq.mpr c128
                                  have c128b1 : (t244 != 23) = false := bne_eq_false_iff_eq.mpr c128
                                  clear c128
                                  by_cases c129 : (wrap64 (t242 + t243)) = 0
                                  · rw [if_pos c129] at H
                                    have c129b0 : ((wrap64 (t242 + t243)) == 0) = true := beq_iff_eq.mpr c129
                                    have c129b1 : ((wrap64 (t242 + t243)) != 0) = false := bne_eq_false_iff_eq.mpr c129
                                    clear c129
                                    replace H := Option.bind_eq_some_iff.mp H
                                    obtain ⟨t265, A1300, H⟩ := H
                                    replace H : (some t265) = some r := H
                                    have A130 := Aside0.mk A1300
                                    clear A1300
                                    obtain rfl := Option.some.inj H
                                    go_wp2_with (first | (go_at_call 17; (with_reducible refine (solsticelaw03_wakes.calls kj118  t265 _ A130.out).mono ?_); rintro e w131 ⟨rfl, hb⟩; have n0_ := Aside0.mk (blk_below (g := gb237) (o := .cells #[.int .i64 a0_0, .int .i64 a0_1, .int .i64 a0_2] 23 (0, 0)) (by (with_reducible repeat (first | refine blk_drewN ?_ _ | refine blk_drew ?_ | refine blk_alloc ?_ _)); exact BK237.out) hb); have n1_ := Aside0.mk (below_step (by repeat (first | (with_reducible first | exact HB.out | apply below_alloc | apply pw_below_drewN | apply below_drew1 | refine below_set ?_ GE237.out) | exact HB.out)) hb); clear BK237; clear HB; have BK237 := n0_; have HB := n1_; clear n0_ n1_; (try clear hb); (try clear hb2); (try clear hk); (try clear hi)))
                                    go_ret
                                    exact ⟨by first | rfl | (simp [errW_none, errW_some] <;> rfl) | (simp only [i64_w]; done) | (simp only [i64_w]; rfl) | (simp [*, errW_none, errW_some] <;> rfl), by repeat (first | (with_reducible first | exact HB.out | apply below_alloc | apply pw_below_drewN | apply below_drew1 | refine below_set ?_ GE237.out) | exact HB.out)⟩
                                  · rw [if_neg c129] at H
                                    have c129b0 : ((wrap64 (t242 + t243)) == 0) = false := beq_eq_false_iff_ne.mpr c129
                                    have c129b1 : ((wrap64 (t242 + t243)) != 0) = true := bne_iff_ne.mpr c129
                                    exact absurd ((Option.some.inj H).trans hr.out) (by decide)
                                · rw [if_neg c128] at H
                                  have c128b0 : (t244 == 23) = false := beq_eq_false_iff_ne.mpr c128
                                  have c128b1 : (t244 != 23) = true := bne_iff_ne.mpr c128
                                  exact absurd ((Option.some.inj H).trans hr.out) (by decide)
                              · replace c127 := Bool.eq_false_iff.mpr c127
                                subst c127
                                have H1 : ((solsticeref01_No.f kj118 a3 a6).bind fun bt266 => (if t244 = 0 then (if t242 = bt266.1 then (if t243 = bt266.2 then ((solsticelaw03_wakes.f kj118).bind fun t268 => (some t268)) else (some false)) else (some false)) else (some false))) = some r := by rw [if_neg (show ¬ (false = true) by decide)] at H; exact H
                                clear H
                                have H := H1
                                clear H1
                                replace H := Option.bind_eq_some_iff.mp H
                                obtain ⟨⟨t266, t267⟩, A1320, H⟩ := H
                                replace H : (if t244 = 0 then (if t242 = t266 then (if t243 = t267 then ((solsticelaw03_wakes.f kj118).bind fun t268 => (some t268)) else (some false)) else (some false)) else (some false)) = some r := H
                                have A132 := Aside0.mk A1320
                                clear A1320
                                by_cases c133 : t244 = 0
                                · rw [if_pos c133] at H
                                  have c133b0 : (t244 == 0) = true := beq_iff_eq.mpr c133
                                  have c133b1 : (t244 != 0) = false := bne_eq_false_iff_eq.mpr c133
                                  clear c133
                                  by_cases c134 : t242 = t266
                                  · rw [if_pos c134] at H
                                    have c134b0 : (t242 == t266) = true := beq_iff_eq.mpr c134
                                    have c134b1 : (t242 != t266) = false := bne_eq_false_iff_eq.mpr c134
                                    clear c134
                                    by_cases c135 : t243 = t267
                                    · rw [if_pos c135] at H
                                      have c135b0 : (t243 == t267) = true := beq_iff_eq.mpr c135
                                      have c135b1 : (t243 != t267) = false := bne_eq_false_iff_eq.mpr c135
                                      clear c135
                                      replace H := Option.bind_eq_some_iff.mp H
                                      obtain ⟨t268, A1360, H⟩ := H
                                      replace H : (some t268) = some r := H
                                      have A136 := Aside0.mk A1360
                                      clear A1360
                                      obtain rfl := Option.some.inj H
                                      go_wp2_with (first | ((with_reducible refine gate_callee (f := 22) rfl ?_); refine goesL_ (some 219) rfl rfl Try.func22 (by kernel_rfl) rfl #[.int .i64 a3, .int .i64 a6] rfl (by (try simp only [List.map_toArray, List.map_cons, List.map_nil]); first | done | rfl | (simp only [List.length_drop, List.length_take]; rfl)) ?_; (with_reducible refine (solsticeref01_No.calls kj118 a3 a6 t266 t267 _ A132.out).mono ?_); rintro e w137 ⟨rfl, hb⟩; refine ⟨_, rfl, ?_⟩; have n0_ := Aside0.mk (blk_below (g := gb237) (o := .cells #[.int .i64 a0_0, .int .i64 a0_1, .int .i64 a0_2] 23 (0, 0)) (by (with_reducible repeat (first | refine blk_drewN ?_ _ | refine blk_drew ?_ | refine blk_alloc ?_ _)); exact BK237.out) hb); have n1_ := Aside0.mk (below_step (by repeat (first | (with_reducible first | exact HB.out | apply below_alloc | apply pw_below_drewN | apply below_drew1 | refine below_set ?_ GE237.out) | exact HB.out)) hb); clear BK237; clear HB; have BK237 := n0_; have HB := n1_; clear n0_ n1_; (try clear hb); (try clear hb2); (try clear hk); (try clear hi)) | (go_at_call 17; (with_reducible refine (solsticelaw03_wakes.calls kj118  t268 _ A136.out).mono ?_); rintro e w138 ⟨rfl, hb⟩; have n0_ := Aside0.mk (blk_below (g := gb237) (o := .cells #[.int .i64 a0_0, .int .i64 a0_1, .int .i64 a0_2] 23 (0, 0)) (by (with_reducible repeat (first | refine blk_drewN ?_ _ | refine blk_drew ?_ | refine blk_alloc ?_ _)); exact BK237.out) hb); have n1_ := Aside0.mk (below_step (by repeat (first | (with_reducible first | exact HB.out | apply below_alloc | apply pw_below_drewN | apply below_drew1 | refine below_set ?_ GE237.out) | exact HB.out)) hb); clear BK237; clear HB; have BK237 := n0_; have HB := n1_; clear n0_ n1_; (try clear hb); (try clear hb2); (try clear hk); (try clear hi)))
                                      go_ret
                                      exact ⟨by first | rfl | (simp [errW_none, errW_some] <;> rfl) | (simp only [i64_w]; done) | (simp only [i64_w]; rfl) | (simp [*, errW_none, errW_some] <;> rfl), by repeat (first | (with_reducible first | exact HB.out | apply below_alloc | apply pw_below_drewN | apply below_drew1 | refine below_set ?_ GE237.out) | exact HB.out)⟩
                                    · rw [if_neg c135] at H
                                      have c135b0 : (t243 == t267) = false := beq_eq_false_iff_ne.mpr c135
                                      have c135b1 : (t243 != t267) = true := bne_iff_ne.mpr c135
                                      exact absurd ((Option.some.inj H).trans hr.out) (by decide)
                                  · rw [if_neg c134] at H
                                    have c134b0 : (t242 == t266) = false := beq_eq_false_iff_ne.mpr c134
                                    have c134b1 : (t242 != t266) = true := bne_iff_ne.mpr c134
                                    exact absurd ((Option.some.inj H).trans hr.out) (by decide)
                                · rw [if_neg c133] at H
                                  have c133b0 : (t244 == 0) = false := beq_eq_false_iff_ne.mpr c133
                                  have c133b1 : (t244 != 0) = true := bne_iff_ne.mpr c133
                                  exact absurd ((Option.some.inj H).trans hr.out) (by decide)
end Go.Proofs.Ytlefnaoflajnmaa.O
