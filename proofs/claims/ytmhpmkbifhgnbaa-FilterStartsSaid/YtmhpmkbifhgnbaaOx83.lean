-- What some functions of the program compute: a text of this claim's own (lines first written by the kit's tool, some proved anew).
import Derived.Test.YtmhpmkbifhgnbaaOx0
import Derived.Test.YtmhpmkbifhgnbaaOx8
import Derived.Test.YtmhpmkbifhgnbaaOx16
import Derived.Test.YtmhpmkbifhgnbaaOx48
import Derived.Test.YtmhpmkbifhgnbaaOx79
import Derived.Test.YtmhpmkbifhgnbaaOx66
namespace Go.Proofs.Ytmhpmkbifhgnbaa.O
open Go.RowKit Go.Proofs.YtmhpmkbifhgnbaaW.PrintWords Go.Proofs.YtmhpmkbifhgnbaaW.PrintLast Go.Proofs.YtmhpmkbifhgnbaaW.PrintMore
attribute [local go_sem] max2_int min2_int max_two min_two max_three min_three max_four min_four   -- for this text's walks alone
set_option linter.unusedVariables false
set_option linter.unusedSimpArgs false

/-! ### solsticelaw22_FilterStarts: function 7 -/
mutual
def solsticelaw22_FilterStarts.j0 : Nat → Int → Int → Int → Option (Bool)
  | 0, _, _, _ => none
  | k + 1, x0, x1, x2 => (solsticeref01_Div.f x0 86400).bind fun bt671 => ((solsticeref01_Div.f x1 86400).bind fun bt673 => ((civil_Date.f k bt671.1).bind fun bt675 => ((civil_Date.f k bt673.1).bind fun bt680 => (if x2 ≥ 4 then (solsticelaw22_FilterStarts.j1 k x0 x1 x2 bt671.1 bt673.1 bt675.2.2.2 bt680.2.2.2 (bt671.2 == bt673.2) bt675.1 bt675.2.1 bt675.2.2.1 bt680.1 bt680.2.1 bt680.2.2.1) else (if x2 = 3 then (solsticelaw22_FilterStarts.j1 k x0 x1 x2 bt671.1 bt673.1 bt675.2.2.2 bt680.2.2.2 ((Int.tmod bt671.2 3600) == (Int.tmod bt673.2 3600)) bt675.1 bt675.2.1 bt675.2.2.1 bt680.1 bt680.2.1 bt680.2.2.1) else (if x2 = 2 then (solsticelaw22_FilterStarts.j1 k x0 x1 x2 bt671.1 bt673.1 bt675.2.2.2 bt680.2.2.2 ((Int.tmod bt671.2 60) == (Int.tmod bt673.2 60)) bt675.1 bt675.2.1 bt675.2.2.1 bt680.1 bt680.2.1 bt680.2.2.1) else (solsticelaw22_FilterStarts.j1 k x0 x1 x2 bt671.1 bt673.1 bt675.2.2.2 bt680.2.2.2 true bt675.1 bt675.2.1 bt675.2.2.1 bt680.1 bt680.2.1 bt680.2.2.1)))))))
def solsticelaw22_FilterStarts.j1 : Nat → Int → Int → Int → Int → Int → Int → Int → Bool → Int → Int → Int → Int → Int → Int → Option (Bool)
  | 0, _, _, _, _, _, _, _, _, _, _, _, _, _, _ => none
  | k + 1, x0, x1, x2, x11, x13, x16, x18, x19, x680000, x680001, x680002, x685000, x685001, x685002 => if x2 = 5 then (if x19 = true then ((civil_Weekday.f x11).bind fun t685 => ((civil_Weekday.f x13).bind fun t686 => (if x16 = 0 then (if x18 = 0 then ((filter_Lets.f k x2 1 0 false 0 false ([] : List Int) ([] : List Int) ([] : List Int) ([] : List (S47)) ([] : List Int) ([] : List Int) ([] : List Int) ([] : List Int) ([] : List Int) 1 x0 x1).bind fun t687 => (if (t687 == (t685 == t686)) = true then ((solsticelaw22_wakes.f k).bind fun t688 => (some t688)) else (some false))) else (some false)) else (some false)))) else (if x16 = 0 then (if x18 = 0 then ((filter_Lets.f k x2 1 0 false 0 false ([] : List Int) ([] : List Int) ([] : List Int) ([] : List (S47)) ([] : List Int) ([] : List Int) ([] : List Int) ([] : List Int) ([] : List Int) 1 x0 x1).bind fun t689 => (if (t689 == false) = true then ((solsticelaw22_wakes.f k).bind fun t690 => (some t690)) else (some false))) else (some false)) else (some false))) else (if x2 = 6 then (if x19 = true then (if x16 = 0 then (if x18 = 0 then ((filter_Lets.f k x2 1 0 false 0 false ([] : List Int) ([] : List Int) ([] : List Int) ([] : List (S47)) ([] : List Int) ([] : List Int) ([] : List Int) ([] : List Int) ([] : List Int) 1 x0 x1).bind fun t691 => (if (t691 == (x680002 == x685002)) = true then ((solsticelaw22_wakes.f k).bind fun t692 => (some t692)) else (some false))) else (some false)) else (some false)) else (if x16 = 0 then (if x18 = 0 then ((filter_Lets.f k x2 1 0 false 0 false ([] : List Int) ([] : List Int) ([] : List Int) ([] : List (S47)) ([] : List Int) ([] : List Int) ([] : List Int) ([] : List Int) ([] : List Int) 1 x0 x1).bind fun t693 => (if (t693 == false) = true then ((solsticelaw22_wakes.f k).bind fun t694 => (some t694)) else (some false))) else (some false)) else (some false))) else (if x2 = 7 then (if x19 = true then (if x680002 = x685002 then (if x16 = 0 then (if x18 = 0 then ((filter_Lets.f k x2 1 0 false 0 false ([] : List Int) ([] : List Int) ([] : List Int) ([] : List (S47)) ([] : List Int) ([] : List Int) ([] : List Int) ([] : List Int) ([] : List Int) 1 x0 x1).bind fun t695 => (if (t695 == (x680001 == x685001)) = true then ((solsticelaw22_wakes.f k).bind fun t696 => (some t696)) else (some false))) else (some false)) else (some false)) else (if x16 = 0 then (if x18 = 0 then ((filter_Lets.f k x2 1 0 false 0 false ([] : List Int) ([] : List Int) ([] : List Int) ([] : List (S47)) ([] : List Int) ([] : List Int) ([] : List Int) ([] : List Int) ([] : List Int) 1 x0 x1).bind fun t697 => (if (t697 == false) = true then ((solsticelaw22_wakes.f k).bind fun t698 => (some t698)) else (some false))) else (some false)) else (some false))) else (if x16 = 0 then (if x18 = 0 then ((filter_Lets.f k x2 1 0 false 0 false ([] : List Int) ([] : List Int) ([] : List Int) ([] : List (S47)) ([] : List Int) ([] : List Int) ([] : List Int) ([] : List Int) ([] : List Int) 1 x0 x1).bind fun t699 => (if (t699 == false) = true then ((solsticelaw22_wakes.f k).bind fun t700 => (some t700)) else (some false))) else (some false)) else (some false))) else (if x16 = 0 then (if x18 = 0 then ((filter_Lets.f k x2 1 0 false 0 false ([] : List Int) ([] : List Int) ([] : List Int) ([] : List (S47)) ([] : List Int) ([] : List Int) ([] : List Int) ([] : List Int) ([] : List Int) 1 x0 x1).bind fun t701 => (if (t701 == x19) = true then ((solsticelaw22_wakes.f k).bind fun t702 => (some t702)) else (some false))) else (some false)) else (some false))))
end
def solsticelaw22_FilterStarts.f (k : Nat) (a0 : Int) (a1 : Int) (a2 : Int) : Option (Bool) := (solsticelaw20_Some.f k a0).bind fun t665 => ((solsticelaw20_Some.f k a1).bind fun t666 => (if (Int.tmod t666 2) = 0 then ((solsticeref01_Div.f t665 86400).bind fun bt667 => ((solsticeref01_Div.f t666 86400).bind fun bt669 => (solsticelaw22_FilterStarts.j0 k t665 (wrap64 ((wrap64 (bt669.1 * 86400)) + bt667.2)) (wrap64 (1 + (wrap64 (Int.tmod (IntKind.u64.wrap (a2)) 7))))))) else (solsticelaw22_FilterStarts.j0 k t665 t666 (wrap64 (1 + (wrap64 (Int.tmod (IntKind.u64.wrap (a2)) 7)))))))
theorem solsticelaw22_FilterStarts.mono_l : ∀ k, (∀ y0 y1 y2, LeO (solsticelaw22_FilterStarts.j0 k y0 y1 y2) (solsticelaw22_FilterStarts.j0 (k + 1) y0 y1 y2)) ∧ (∀ y0 y1 y2 y3 y4 y5 y6 y7 y8 y9 y10 y11 y12 y13, LeO (solsticelaw22_FilterStarts.j1 k y0 y1 y2 y3 y4 y5 y6 y7 y8 y9 y10 y11 y12 y13) (solsticelaw22_FilterStarts.j1 (k + 1) y0 y1 y2 y3 y4 y5 y6 y7 y8 y9 y10 y11 y12 y13))
  | 0 => ⟨fun _ _ _ r h => by simp [solsticelaw22_FilterStarts.j0] at h, fun _ _ _ _ _ _ _ _ _ _ _ _ _ _ r h => by simp [solsticelaw22_FilterStarts.j1] at h⟩
  | k + 1 => by
    obtain ⟨ih0, ih1⟩ := solsticelaw22_FilterStarts.mono_l k
    refine ⟨?_, ?_⟩
    · intro y0 y1 y2
      unfold solsticelaw22_FilterStarts.j0
      repeat' first
      | (with_reducible exact ih0 _ _ _)
      | (with_reducible exact ih1 _ _ _ _ _ _ _ _ _ _ _ _ _ _)
      | (with_reducible exact civil_Date.mono _ _)
      | (with_reducible exact filter_Lets.mono _ _ _ _ _ _ _ _ _ _ _ _ _ _ _ _ _ _ _)
      | (with_reducible exact solsticelaw20_Some.mono _ _)
      | (with_reducible exact solsticelaw22_wakes.mono _)
      | (with_reducible exact LeO.refl _)
      | (with_reducible exact LeO.none _)
      | (with_reducible refine LeO.ite ?_ ?_)
      | (with_reducible refine LeO.bind ?_ (fun _ => ?_))
      | exact ih0 _ _ _
      | exact ih1 _ _ _ _ _ _ _ _ _ _ _ _ _ _
      | exact civil_Date.mono _ _
      | exact filter_Lets.mono _ _ _ _ _ _ _ _ _ _ _ _ _ _ _ _ _ _ _
      | exact solsticelaw20_Some.mono _ _
      | exact solsticelaw22_wakes.mono _
      | exact LeO.none _
      | refine LeO.ite ?_ ?_
      | refine LeO.bind ?_ (fun _ => ?_)
    · intro y0 y1 y2 y3 y4 y5 y6 y7 y8 y9 y10 y11 y12 y13
      unfold solsticelaw22_FilterStarts.j1
      repeat' first
      | (with_reducible exact ih0 _ _ _)
      | (with_reducible exact ih1 _ _ _ _ _ _ _ _ _ _ _ _ _ _)
      | (with_reducible exact civil_Date.mono _ _)
      | (with_reducible exact filter_Lets.mono _ _ _ _ _ _ _ _ _ _ _ _ _ _ _ _ _ _ _)
      | (with_reducible exact solsticelaw20_Some.mono _ _)
      | (with_reducible exact solsticelaw22_wakes.mono _)
      | (with_reducible exact LeO.refl _)
      | (with_reducible exact LeO.none _)
      | (with_reducible refine LeO.ite ?_ ?_)
      | (with_reducible refine LeO.bind ?_ (fun _ => ?_))
      | exact ih0 _ _ _
      | exact ih1 _ _ _ _ _ _ _ _ _ _ _ _ _ _
      | exact civil_Date.mono _ _
      | exact filter_Lets.mono _ _ _ _ _ _ _ _ _ _ _ _ _ _ _ _ _ _ _
      | exact solsticelaw20_Some.mono _ _
      | exact solsticelaw22_wakes.mono _
      | exact LeO.none _
      | refine LeO.ite ?_ ?_
      | refine LeO.bind ?_ (fun _ => ?_)
theorem solsticelaw22_FilterStarts.mono : ∀ a0 a1 a2 k, LeO (solsticelaw22_FilterStarts.f k a0 a1 a2) (solsticelaw22_FilterStarts.f (k + 1) a0 a1 a2) := by
  intro a0 a1 a2 k
  obtain ⟨ih0, ih1⟩ := solsticelaw22_FilterStarts.mono_l k
  unfold solsticelaw22_FilterStarts.f
  repeat' first
      | (with_reducible exact ih0 _ _ _)
      | (with_reducible exact ih1 _ _ _ _ _ _ _ _ _ _ _ _ _ _)
      | (with_reducible exact civil_Date.mono _ _)
      | (with_reducible exact filter_Lets.mono _ _ _ _ _ _ _ _ _ _ _ _ _ _ _ _ _ _ _)
      | (with_reducible exact solsticelaw20_Some.mono _ _)
      | (with_reducible exact solsticelaw22_wakes.mono _)
      | (with_reducible exact LeO.refl _)
      | (with_reducible exact LeO.none _)
      | (with_reducible refine LeO.ite ?_ ?_)
      | (with_reducible refine LeO.bind ?_ (fun _ => ?_))
      | exact ih0 _ _ _
      | exact ih1 _ _ _ _ _ _ _ _ _ _ _ _ _ _
      | exact civil_Date.mono _ _
      | exact filter_Lets.mono _ _ _ _ _ _ _ _ _ _ _ _ _ _ _ _ _ _ _
      | exact solsticelaw20_Some.mono _ _
      | exact solsticelaw22_wakes.mono _
      | exact LeO.none _
      | refine LeO.ite ?_ ?_
      | refine LeO.bind ?_ (fun _ => ?_)
set_option maxHeartbeats 8000000 in
set_option maxRecDepth 100000 in
theorem solsticelaw22_FilterStarts.calls (k : Nat) (a0 : Int) (a1 : Int) (a2 : Int) (r : Bool) (w : World) (hr0 : r = true) (h : solsticelaw22_FilterStarts.f k a0 a1 a2 = some r) :
    Calls Try.prog 7 #[.int .i64 a0, .int .i64 a1, .int .i64 a2] w fun e w' => e = .returned (.bool r) ∧ Below w.heap.size w w' := by
  have hr := Aside0.mk hr0
  clear hr0
  have hu39 := Try.underlying39
  have hu25 := Try.underlying25
  have HB := Aside0.mk (Below.refl w.heap.size w)
  have H : ((solsticelaw20_Some.f k a0).bind fun t665 => ((solsticelaw20_Some.f k a1).bind fun t666 => (if (Int.tmod t666 2) = 0 then ((solsticeref01_Div.f t665 86400).bind fun bt667 => ((solsticeref01_Div.f t666 86400).bind fun bt669 => (solsticelaw22_FilterStarts.j0 k t665 (wrap64 ((wrap64 (bt669.1 * 86400)) + bt667.2)) (wrap64 (1 + (wrap64 (Int.tmod (IntKind.u64.wrap (a2)) 7))))))) else (solsticelaw22_FilterStarts.j0 k t665 t666 (wrap64 (1 + (wrap64 (Int.tmod (IntKind.u64.wrap (a2)) 7)))))))) = some r := h
  clear h
  replace H := Option.bind_eq_some_iff.mp H
  obtain ⟨t665, A40, H⟩ := H
  replace H : ((solsticelaw20_Some.f k a1).bind fun t666 => (if (Int.tmod t666 2) = 0 then ((solsticeref01_Div.f t665 86400).bind fun bt667 => ((solsticeref01_Div.f t666 86400).bind fun bt669 => (solsticelaw22_FilterStarts.j0 k t665 (wrap64 ((wrap64 (bt669.1 * 86400)) + bt667.2)) (wrap64 (1 + (wrap64 (Int.tmod (IntKind.u64.wrap (a2)) 7))))))) else (solsticelaw22_FilterStarts.j0 k t665 t666 (wrap64 (1 + (wrap64 (Int.tmod (IntKind.u64.wrap (a2)) 7))))))) = some r := H
  have A4 := Aside0.mk A40
  clear A40
  replace H := Option.bind_eq_some_iff.mp H
  obtain ⟨t666, A50, H⟩ := H
  replace H : (if (Int.tmod t666 2) = 0 then ((solsticeref01_Div.f t665 86400).bind fun bt667 => ((solsticeref01_Div.f t666 86400).bind fun bt669 => (solsticelaw22_FilterStarts.j0 k t665 (wrap64 ((wrap64 (bt669.1 * 86400)) + bt667.2)) (wrap64 (1 + (wrap64 (Int.tmod (IntKind.u64.wrap (a2)) 7))))))) else (solsticelaw22_FilterStarts.j0 k t665 t666 (wrap64 (1 + (wrap64 (Int.tmod (IntKind.u64.wrap (a2)) 7)))))) = some r := H
  have A5 := Aside0.mk A50
  clear A50
  have HC6 := Aside0.mk H
  clear H
  go_enter Try.func7, Try.ntmps7
  go_upto_if 31 with (first | ((with_reducible refine gate_callee (f := 21) rfl ?_); refine goesL_ (some 21) rfl rfl Try.func21 (by kernel_rfl) rfl #[.int .i64 a0] rfl (by (try simp only [List.map_toArray, List.map_cons, List.map_nil]); first | done | rfl | (simp only [List.length_drop, List.length_take]; rfl)) ?_; (with_reducible refine (solsticelaw20_Some.calls k a0 t665 _ A4.out).mono ?_); rintro e w7 ⟨rfl, hb⟩; refine ⟨_, rfl, ?_⟩; have n0_ := Aside0.mk (below_step (by repeat (first | (with_reducible first | exact HB.out | apply below_alloc | apply pw_below_drewN | apply below_drew1) | exact HB.out)) hb); clear HB; have HB := n0_; clear n0_; (try clear hb); (try clear hb2); (try clear hk); (try clear hi)) | ((with_reducible refine gate_callee (f := 21) rfl ?_); refine goesL_ (some 23) rfl rfl Try.func21 (by kernel_rfl) rfl #[.int .i64 a1] rfl (by (try simp only [List.map_toArray, List.map_cons, List.map_nil]); first | done | rfl | (simp only [List.length_drop, List.length_take]; rfl)) ?_; (with_reducible refine (solsticelaw20_Some.calls k a1 t666 _ A5.out).mono ?_); rintro e w8 ⟨rfl, hb⟩; refine ⟨_, rfl, ?_⟩; have n0_ := Aside0.mk (below_step (by repeat (first | (with_reducible first | exact HB.out | apply below_alloc | apply pw_below_drewN | apply below_drew1) | exact HB.out)) hb); clear HB; have HB := n0_; clear n0_; (try clear hb); (try clear hb2); (try clear hk); (try clear hi)))
  (try simp only [Act.put, List.setIfInBounds_toArray, List.set_cons_zero, List.set_cons_succ])
  go_cut [1] (fun v1 wc => ∃ (kq : Nat) (x1_5 : Int), v1 = .int .i64 x1_5 ∧ Aside0 (solsticelaw22_FilterStarts.j0 kq t665 x1_5 (wrap64 (1 + (wrap64 (Int.tmod (IntKind.u64.wrap (a2)) 7)))) = some r) ∧ Aside0 (kq ≤ k) ∧ Aside0 (Below w.heap.size w wc))
  case first =>
    have H := HC6.out
    clear HC6
    by_cases c9 : (Int.tmod t666 2) = 0
    · rw [if_pos c9] at H
      have c9b0 : ((Int.tmod t666 2) == 0) = true := beq_iff_eq.mpr c9
      have c9b1 : ((Int.tmod t666 2) != 0) = false := bne_eq_false_iff_eq.mpr c9
      clear c9
      (first | rw [c9b0] | (simp only [i64_w, i32_w]; rw [c9b0]) | skip)
      replace H := Option.bind_eq_some_iff.mp H
      obtain ⟨⟨t667, t668⟩, A100, H⟩ := H
      replace H : ((solsticeref01_Div.f t666 86400).bind fun bt669 => (solsticelaw22_FilterStarts.j0 k t665 (wrap64 ((wrap64 (bt669.1 * 86400)) + t668)) (wrap64 (1 + (wrap64 (Int.tmod (IntKind.u64.wrap (a2)) 7)))))) = some r := H
      have A10 := Aside0.mk A100
      clear A100
      replace H := Option.bind_eq_some_iff.mp H
      obtain ⟨⟨t669, t670⟩, A110, H⟩ := H
      replace H : (solsticelaw22_FilterStarts.j0 k t665 (wrap64 ((wrap64 (t669 * 86400)) + t668)) (wrap64 (1 + (wrap64 (Int.tmod (IntKind.u64.wrap (a2)) 7))))) = some r := H
      have A11 := Aside0.mk A110
      clear A110
      have H' := Aside0.mk H
      clear H
      go_wp2_with (first | ((with_reducible refine gate_callee (f := 22) rfl ?_); refine goesL_ (some 34) rfl rfl Try.func22 (by kernel_rfl) rfl #[.int .i64 t665, .int .i64 86400] rfl (by (try simp only [List.map_toArray, List.map_cons, List.map_nil]); first | done | rfl | (simp only [List.length_drop, List.length_take]; rfl)) ?_; (with_reducible refine (solsticeref01_Div.calls t665 86400 t667 t668 _ A10.out).mono ?_); rintro e w' ⟨rfl, ⟨nd, rfl⟩⟩; refine ⟨_, rfl, ?_⟩) | ((with_reducible refine gate_callee (f := 22) rfl ?_); refine goesL_ (some 39) rfl rfl Try.func22 (by kernel_rfl) rfl #[.int .i64 t666, .int .i64 86400] rfl (by (try simp only [List.map_toArray, List.map_cons, List.map_nil]); first | done | rfl | (simp only [List.length_drop, List.length_take]; rfl)) ?_; (with_reducible refine (solsticeref01_Div.calls t666 86400 t669 t670 _ A11.out).mono ?_); rintro e w' ⟨rfl, ⟨nd, rfl⟩⟩; refine ⟨_, rfl, ?_⟩))
      go_meet
      case rel => exact ⟨_, (wrap64 ((wrap64 (t669 * 86400)) + t668)), (by first | rfl | (simp; done) | (simp [*]; done)), H', ⟨by first | omega | exact Nat.le_refl _⟩, ⟨by repeat (first | (with_reducible first | exact HB.out | apply below_alloc | apply pw_below_drewN | apply below_drew1) | exact HB.out)⟩⟩
    · rw [if_neg c9] at H
      have c9b0 : ((Int.tmod t666 2) == 0) = false := beq_eq_false_iff_ne.mpr c9
      have c9b1 : ((Int.tmod t666 2) != 0) = true := bne_iff_ne.mpr c9
      (first | rw [c9b0] | (simp only [i64_w, i32_w]; rw [c9b0]) | skip)
      have H' := Aside0.mk H
      clear H
      go_wp2
      go_meet
      case rel => exact ⟨_, (t666), (by first | rfl | (simp; done) | (simp [*]; done)), H', ⟨by first | omega | exact Nat.le_refl _⟩, ⟨by repeat (first | (with_reducible first | exact HB.out | apply below_alloc | apply pw_below_drewN | apply below_drew1) | exact HB.out)⟩⟩
  case rest => as_aux_lemma =>
    clear HC6
    try clear c2
    try clear p2
    try clear p6
    try clear c7
    try clear c9
    try clear c9b0
    try clear c9b1
    obtain ⟨kq, x1_5, rfl, HA, HJ5, HB⟩ := hcut
    cases kq with
    | zero => exact absurd HA.out (by simp [solsticelaw22_FilterStarts.j0])
    | succ kj5 =>
      have H := HA.out
      clear HA
      simp only [solsticelaw22_FilterStarts.j0] at H
      replace H := Option.bind_eq_some_iff.mp H
      obtain ⟨⟨t671, t672⟩, A120, H⟩ := H
      replace H : ((solsticeref01_Div.f x1_5 86400).bind fun bt673 => ((civil_Date.f kj5 t671).bind fun bt675 => ((civil_Date.f kj5 bt673.1).bind fun bt680 => (if (wrap64 (1 + (wrap64 (Int.tmod (IntKind.u64.wrap (a2)) 7)))) ≥ 4 then (solsticelaw22_FilterStarts.j1 kj5 t665 x1_5 (wrap64 (1 + (wrap64 (Int.tmod (IntKind.u64.wrap (a2)) 7)))) t671 bt673.1 bt675.2.2.2 bt680.2.2.2 (t672 == bt673.2) bt675.1 bt675.2.1 bt675.2.2.1 bt680.1 bt680.2.1 bt680.2.2.1) else (if (wrap64 (1 + (wrap64 (Int.tmod (IntKind.u64.wrap (a2)) 7)))) = 3 then (solsticelaw22_FilterStarts.j1 kj5 t665 x1_5 (wrap64 (1 + (wrap64 (Int.tmod (IntKind.u64.wrap (a2)) 7)))) t671 bt673.1 bt675.2.2.2 bt680.2.2.2 ((Int.tmod t672 3600) == (Int.tmod bt673.2 3600)) bt675.1 bt675.2.1 bt675.2.2.1 bt680.1 bt680.2.1 bt680.2.2.1) else (if (wrap64 (1 + (wrap64 (Int.tmod (IntKind.u64.wrap (a2)) 7)))) = 2 then (solsticelaw22_FilterStarts.j1 kj5 t665 x1_5 (wrap64 (1 + (wrap64 (Int.tmod (IntKind.u64.wrap (a2)) 7)))) t671 bt673.1 bt675.2.2.2 bt680.2.2.2 ((Int.tmod t672 60) == (Int.tmod bt673.2 60)) bt675.1 bt675.2.1 bt675.2.2.1 bt680.1 bt680.2.1 bt680.2.2.1) else (solsticelaw22_FilterStarts.j1 kj5 t665 x1_5 (wrap64 (1 + (wrap64 (Int.tmod (IntKind.u64.wrap (a2)) 7)))) t671 bt673.1 bt675.2.2.2 bt680.2.2.2 true bt675.1 bt675.2.1 bt675.2.2.1 bt680.1 bt680.2.1 bt680.2.2.1))))))) = some r := H
      have A12 := Aside0.mk A120
      clear A120
      replace H := Option.bind_eq_some_iff.mp H
      obtain ⟨⟨t673, t674⟩, A130, H⟩ := H
      replace H : ((civil_Date.f kj5 t671).bind fun bt675 => ((civil_Date.f kj5 t673).bind fun bt680 => (if (wrap64 (1 + (wrap64 (Int.tmod (IntKind.u64.wrap (a2)) 7)))) ≥ 4 then (solsticelaw22_FilterStarts.j1 kj5 t665 x1_5 (wrap64 (1 + (wrap64 (Int.tmod (IntKind.u64.wrap (a2)) 7)))) t671 t673 bt675.2.2.2 bt680.2.2.2 (t672 == t674) bt675.1 bt675.2.1 bt675.2.2.1 bt680.1 bt680.2.1 bt680.2.2.1) else (if (wrap64 (1 + (wrap64 (Int.tmod (IntKind.u64.wrap (a2)) 7)))) = 3 then (solsticelaw22_FilterStarts.j1 kj5 t665 x1_5 (wrap64 (1 + (wrap64 (Int.tmod (IntKind.u64.wrap (a2)) 7)))) t671 t673 bt675.2.2.2 bt680.2.2.2 ((Int.tmod t672 3600) == (Int.tmod t674 3600)) bt675.1 bt675.2.1 bt675.2.2.1 bt680.1 bt680.2.1 bt680.2.2.1) else (if (wrap64 (1 + (wrap64 (Int.tmod (IntKind.u64.wrap (a2)) 7)))) = 2 then (solsticelaw22_FilterStarts.j1 kj5 t665 x1_5 (wrap64 (1 + (wrap64 (Int.tmod (IntKind.u64.wrap (a2)) 7)))) t671 t673 bt675.2.2.2 bt680.2.2.2 ((Int.tmod t672 60) == (Int.tmod t674 60)) bt675.1 bt675.2.1 bt675.2.2.1 bt680.1 bt680.2.1 bt680.2.2.1) else (solsticelaw22_FilterStarts.j1 kj5 t665 x1_5 (wrap64 (1 + (wrap64 (Int.tmod (IntKind.u64.wrap (a2)) 7)))) t671 t673 bt675.2.2.2 bt680.2.2.2 true bt675.1 bt675.2.1 bt675.2.2.1 bt680.1 bt680.2.1 bt680.2.2.1)))))) = some r := H
      have A13 := Aside0.mk A130
      clear A130
      replace H := Option.bind_eq_some_iff.mp H
      obtain ⟨⟨t675, t676, t677, t678⟩, A140, H⟩ := H
      replace H : ((civil_Date.f kj5 t673).bind fun bt680 => (if (wrap64 (1 + (wrap64 (Int.tmod (IntKind.u64.wrap (a2)) 7)))) ≥ 4 then (solsticelaw22_FilterStarts.j1 kj5 t665 x1_5 (wrap64 (1 + (wrap64 (Int.tmod (IntKind.u64.wrap (a2)) 7)))) t671 t673 t678 bt680.2.2.2 (t672 == t674) t675 t676 t677 bt680.1 bt680.2.1 bt680.2.2.1) else (if (wrap64 (1 + (wrap64 (Int.tmod (IntKind.u64.wrap (a2)) 7)))) = 3 then (solsticelaw22_FilterStarts.j1 kj5 t665 x1_5 (wrap64 (1 + (wrap64 (Int.tmod (IntKind.u64.wrap (a2)) 7)))) t671 t673 t678 bt680.2.2.2 ((Int.tmod t672 3600) == (Int.tmod t674 3600)) t675 t676 t677 bt680.1 bt680.2.1 bt680.2.2.1) else (if (wrap64 (1 + (wrap64 (Int.tmod (IntKind.u64.wrap (a2)) 7)))) = 2 then (solsticelaw22_FilterStarts.j1 kj5 t665 x1_5 (wrap64 (1 + (wrap64 (Int.tmod (IntKind.u64.wrap (a2)) 7)))) t671 t673 t678 bt680.2.2.2 ((Int.tmod t672 60) == (Int.tmod t674 60)) t675 t676 t677 bt680.1 bt680.2.1 bt680.2.2.1) else (solsticelaw22_FilterStarts.j1 kj5 t665 x1_5 (wrap64 (1 + (wrap64 (Int.tmod (IntKind.u64.wrap (a2)) 7)))) t671 t673 t678 bt680.2.2.2 true t675 t676 t677 bt680.1 bt680.2.1 bt680.2.2.1))))) = some r := H
      have A14 := Aside0.mk A140
      clear A140
      replace H := Option.bind_eq_some_iff.mp H
      obtain ⟨⟨t680, t681, t682, t683⟩, A150, H⟩ := H
      replace H : (if (wrap64 (1 + (wrap64 (Int.tmod (IntKind.u64.wrap (a2)) 7)))) ≥ 4 then (solsticelaw22_FilterStarts.j1 kj5 t665 x1_5 (wrap64 (1 + (wrap64 (Int.tmod (IntKind.u64.wrap (a2)) 7)))) t671 t673 t678 t683 (t672 == t674) t675 t676 t677 t680 t681 t682) else (if (wrap64 (1 + (wrap64 (Int.tmod (IntKind.u64.wrap (a2)) 7)))) = 3 then (solsticelaw22_FilterStarts.j1 kj5 t665 x1_5 (wrap64 (1 + (wrap64 (Int.tmod (IntKind.u64.wrap (a2)) 7)))) t671 t673 t678 t683 ((Int.tmod t672 3600) == (Int.tmod t674 3600)) t675 t676 t677 t680 t681 t682) else (if (wrap64 (1 + (wrap64 (Int.tmod (IntKind.u64.wrap (a2)) 7)))) = 2 then (solsticelaw22_FilterStarts.j1 kj5 t665 x1_5 (wrap64 (1 + (wrap64 (Int.tmod (IntKind.u64.wrap (a2)) 7)))) t671 t673 t678 t683 ((Int.tmod t672 60) == (Int.tmod t674 60)) t675 t676 t677 t680 t681 t682) else (solsticelaw22_FilterStarts.j1 kj5 t665 x1_5 (wrap64 (1 + (wrap64 (Int.tmod (IntKind.u64.wrap (a2)) 7)))) t671 t673 t678 t683 true t675 t676 t677 t680 t681 t682)))) = some r := H
      have A15 := Aside0.mk A150
      clear A150
      have HC16 := Aside0.mk H
      clear H
      go_upto_block 0 with (first | ((with_reducible refine gate_callee (f := 22) rfl ?_); refine goesL_ (some 48) rfl rfl Try.func22 (by kernel_rfl) rfl #[.int .i64 t665, .int .i64 86400] rfl (by (try simp only [List.map_toArray, List.map_cons, List.map_nil]); first | done | rfl | (simp only [List.length_drop, List.length_take]; rfl)) ?_; (with_reducible refine (solsticeref01_Div.calls t665 86400 t671 t672 _ A12.out).mono ?_); rintro e w' ⟨rfl, ⟨nd, rfl⟩⟩; refine ⟨_, rfl, ?_⟩; (try (rw [drewN_self wc]; generalize hq_ : World.drewN wc _ = wc; have n0_ : Aside0 (Below w.heap.size w wc) := ⟨by rw [← hq_]; exact (by repeat (first | (with_reducible first | exact HB.out | apply below_alloc | apply pw_below_drewN | apply below_drew1) | exact HB.out))⟩; clear HB hq_; have HB := n0_; clear n0_))) | ((with_reducible refine gate_callee (f := 22) rfl ?_); refine goesL_ (some 53) rfl rfl Try.func22 (by kernel_rfl) rfl #[.int .i64 x1_5, .int .i64 86400] rfl (by (try simp only [List.map_toArray, List.map_cons, List.map_nil]); first | done | rfl | (simp only [List.length_drop, List.length_take]; rfl)) ?_; (with_reducible refine (solsticeref01_Div.calls x1_5 86400 t673 t674 _ A13.out).mono ?_); rintro e w' ⟨rfl, ⟨nd, rfl⟩⟩; refine ⟨_, rfl, ?_⟩; (try (rw [drewN_self wc]; generalize hq_ : World.drewN wc _ = wc; have n0_ : Aside0 (Below w.heap.size w wc) := ⟨by rw [← hq_]; exact (by repeat (first | (with_reducible first | exact HB.out | apply below_alloc | apply pw_below_drewN | apply below_drew1) | exact HB.out))⟩; clear HB hq_; have HB := n0_; clear n0_))) | ((with_reducible refine gate_callee (f := 28) rfl ?_); refine goesL_ (some 58) rfl rfl Try.func28 (by kernel_rfl) rfl #[.int .i64 t671] rfl (by (try simp only [List.map_toArray, List.map_cons, List.map_nil]); first | done | rfl | (simp only [List.length_drop, List.length_take]; rfl)) ?_; (with_reducible refine (civil_Date.calls kj5 t671 t675 t676 t677 t678 _ A14.out).mono ?_); rintro e w17 ⟨rfl, hb⟩; refine ⟨_, rfl, ?_⟩; have n0_ := Aside0.mk (below_step (by repeat (first | (with_reducible first | exact HB.out | apply below_alloc | apply pw_below_drewN | apply below_drew1) | exact HB.out)) hb); clear HB; have HB := n0_; clear n0_; (try clear hb); (try clear hb2); (try clear hk); (try clear hi)) | ((with_reducible refine gate_dst (N := 15) rfl ?_); refine box_event ?hg (N := 15) ?hd (cs := #[.int .i64 0, .int .i64 0, .int .i64 0]) (t := 39) ?hr ?_; (case hd => rfl); (case hg => rfl); (case hr => first | (go_simp; done) | (go_simp; rfl)); intro gb679 hg w18 hbox hb; have n0_ := Aside0.mk (below_step (by repeat (first | (with_reducible first | exact HB.out | apply below_alloc | apply pw_below_drewN | apply below_drew1) | exact HB.out)) hb); have n1_ := Aside0.mk (hbox); have n2_ := Aside0.mk ((by rw [hg]; exact (below_size (by repeat (first | (with_reducible first | exact HB.out | apply below_alloc | apply pw_below_drewN | apply below_drew1) | exact HB.out))) : w.heap.size ≤ gb679)); have n3_ := Aside0.mk ((by rw [hg]; exact (below_size (by repeat (first | (with_reducible first | exact HB.out | apply below_alloc | apply pw_below_drewN | apply below_drew1) | exact HB.out))) : w.heap.size ≤ gb679)); clear HB; have HB := n0_; have BK679 := n1_; have GW679 := n2_; have GE679 := n3_; clear n0_ n1_ n2_ n3_; clear hb hbox hg; have hcz19_0 : w18.cell? ⟨gb679, 0, none⟩ = some (.int .i64 0) := (blk_cell BK679.out 0).trans rfl; have hcz19_1 : w18.cell? ⟨gb679, 1, none⟩ = some (.int .i64 0) := (blk_cell BK679.out 1).trans rfl; have hcz19_2 : w18.cell? ⟨gb679, 2, none⟩ = some (.int .i64 0) := (blk_cell BK679.out 2).trans rfl; have hfz19_0 := blk_frozen BK679.out 0; have hfz19_1 := blk_frozen BK679.out 1; have hfz19_2 := blk_frozen BK679.out 2) | ((with_reducible refine gate_callee (f := 28) rfl ?_); refine goesL_ (some 63) rfl rfl Try.func28 (by kernel_rfl) rfl #[.int .i64 t673] rfl (by (try simp only [List.map_toArray, List.map_cons, List.map_nil]); first | done | rfl | (simp only [List.length_drop, List.length_take]; rfl)) ?_; (with_reducible refine (civil_Date.calls kj5 t673 t680 t681 t682 t683 _ A15.out).mono ?_); rintro e w20 ⟨rfl, hb⟩; refine ⟨_, rfl, ?_⟩; have n0_ := Aside0.mk (blk_below (g := gb679) (o := .cells #[.int .i64 t675, .int .i64 t676, .int .i64 t677] 39 (0, 0)) (by (with_reducible repeat (first | refine blk_drewN ?_ _ | refine blk_drew ?_ | refine blk_alloc ?_ _)); refine blk_put (cs := #[.int .i64 t675, .int .i64 t676, .int .i64 0]) ?_ 2 _ rfl; (with_reducible repeat (first | refine blk_drewN ?_ _ | refine blk_drew ?_ | refine blk_alloc ?_ _)); refine blk_put (cs := #[.int .i64 t675, .int .i64 0, .int .i64 0]) ?_ 1 _ rfl; (with_reducible repeat (first | refine blk_drewN ?_ _ | refine blk_drew ?_ | refine blk_alloc ?_ _)); refine blk_put (cs := #[.int .i64 0, .int .i64 0, .int .i64 0]) ?_ 0 _ rfl; (with_reducible repeat (first | refine blk_drewN ?_ _ | refine blk_drew ?_ | refine blk_alloc ?_ _)); exact BK679.out) hb); have n1_ := Aside0.mk (below_step (by repeat (first | (with_reducible first | exact HB.out | apply below_alloc | apply pw_below_drewN | apply below_drew1 | refine below_set ?_ GE679.out) | exact HB.out)) hb); clear BK679; clear HB; have BK679 := n0_; have HB := n1_; clear n0_ n1_; (try clear hb); (try clear hb2); (try clear hk); (try clear hi)) | ((with_reducible refine gate_dst (N := 17) rfl ?_); refine box_event ?hg (N := 17) ?hd (cs := #[.int .i64 0, .int .i64 0, .int .i64 0]) (t := 39) ?hr ?_; (case hd => rfl); (case hg => rfl); (case hr => first | (go_simp; done) | (go_simp; rfl)); intro gb684 hg w21 hbox hb; have n0_ := Aside0.mk (blk_below (g := gb679) (o := .cells #[.int .i64 t675, .int .i64 t676, .int .i64 t677] 39 (0, 0)) (by (with_reducible repeat (first | refine blk_drewN ?_ _ | refine blk_drew ?_ | refine blk_alloc ?_ _)); exact BK679.out) hb); have n1_ := Aside0.mk (below_step (by repeat (first | (with_reducible first | exact HB.out | apply below_alloc | apply pw_below_drewN | apply below_drew1 | refine below_set ?_ GE679.out) | exact HB.out)) hb); have n2_ := Aside0.mk (hbox); have n3_ := Aside0.mk ((by rw [hg]; exact (below_size (by repeat (first | (with_reducible first | exact HB.out | apply below_alloc | apply pw_below_drewN | apply below_drew1 | refine below_set ?_ GE679.out) | exact HB.out))) : w.heap.size ≤ gb684)); have n4_ := Aside0.mk ((by rw [hg]; exact (below_size (by repeat (first | (with_reducible first | exact HB.out | apply below_alloc | apply pw_below_drewN | apply below_drew1 | refine below_set ?_ GE679.out) | exact HB.out))) : w.heap.size ≤ gb684)); have n5_ := Aside0.mk ((by rw [hg]; exact Nat.ne_of_lt (blk_lt (g := gb679) (o := .cells #[.int .i64 t675, .int .i64 t676, .int .i64 t677] 39 (0, 0)) (by (with_reducible repeat (first | refine blk_drewN ?_ _ | refine blk_drew ?_ | refine blk_alloc ?_ _)); exact BK679.out)) : gb679 ≠ gb684)); have n6_ := Aside0.mk ((by rw [hg]; exact Nat.ne_of_gt (blk_lt (g := gb679) (o := .cells #[.int .i64 t675, .int .i64 t676, .int .i64 t677] 39 (0, 0)) (by (with_reducible repeat (first | refine blk_drewN ?_ _ | refine blk_drew ?_ | refine blk_alloc ?_ _)); exact BK679.out)) : gb684 ≠ gb679)); clear BK679; clear HB; have BK679 := n0_; have HB := n1_; have BK684 := n2_; have GW684 := n3_; have GE684 := n4_; have NB679_684 := n5_; have NB684_679 := n6_; clear n0_ n1_ n2_ n3_ n4_ n5_ n6_; clear hb hbox hg; have hnb22 := NB684_679.out; have hnc22 := NB679_684.out; have hcz23_0 : w21.cell? ⟨gb684, 0, none⟩ = some (.int .i64 0) := (blk_cell BK684.out 0).trans rfl; have hcz23_1 : w21.cell? ⟨gb684, 1, none⟩ = some (.int .i64 0) := (blk_cell BK684.out 1).trans rfl; have hcz23_2 : w21.cell? ⟨gb684, 2, none⟩ = some (.int .i64 0) := (blk_cell BK684.out 2).trans rfl; have hfz23_0 := blk_frozen BK684.out 0; have hfz23_1 := blk_frozen BK684.out 1; have hfz23_2 := blk_frozen BK684.out 2))
      (try simp only [Act.put, List.setIfInBounds_toArray, List.set_cons_zero, List.set_cons_succ])
      go_cut [19] (fun v19 wc => ∃ (kq : Nat) (x19_15 : Bool), v19 = .bool x19_15 ∧ Aside0 (solsticelaw22_FilterStarts.j1 kq t665 x1_5 (wrap64 (1 + (wrap64 (Int.tmod (IntKind.u64.wrap (a2)) 7)))) t671 t673 t678 t683 x19_15 t675 t676 t677 t680 t681 t682 = some r) ∧ Aside0 (kq ≤ kj5) ∧ Aside0 (wc.heap[gb679]? = some (.cells #[.int .i64 t675, .int .i64 t676, .int .i64 t677] 39 (0, 0))) ∧ Aside0 (wc.heap[gb684]? = some (.cells #[.int .i64 t680, .int .i64 t681, .int .i64 t682] 39 (0, 0))) ∧ Aside0 (Below w.heap.size w wc))
      case first =>
        have H := HC16.out
        clear HC16
        by_cases c24 : (wrap64 (1 + (wrap64 (Int.tmod (IntKind.u64.wrap (a2)) 7)))) ≥ 4
        · rw [if_pos c24] at H
          have c24b0 : decide (4 ≤ (wrap64 (1 + (wrap64 (Int.tmod (IntKind.u64.wrap (a2)) 7))))) = true := decide_eq_true c24
          clear c24
          (first | rw [c24b0] | (simp only [i64_w, i32_w]; rw [c24b0]) | skip)
          have H' := Aside0.mk H
          clear H
          go_wp2
          go_meet
          case rel => exact ⟨_, ((t672 == t674)), (by first | rfl | (simp; done) | (simp [*]; done)), H', ⟨by have := HJ5.out; first | omega | exact Nat.le_refl _⟩, ⟨by (with_reducible repeat (first | refine blk_drewN ?_ _ | refine blk_drew ?_ | refine blk_alloc ?_ _)); refine blk_far ?_ NB679_684.out _; (with_reducible repeat (first | refine blk_drewN ?_ _ | refine blk_drew ?_ | refine blk_alloc ?_ _)); refine blk_far ?_ NB679_684.out _; (with_reducible repeat (first | refine blk_drewN ?_ _ | refine blk_drew ?_ | refine blk_alloc ?_ _)); refine blk_far ?_ NB679_684.out _; (with_reducible repeat (first | refine blk_drewN ?_ _ | refine blk_drew ?_ | refine blk_alloc ?_ _)); exact BK679.out⟩, ⟨by (with_reducible repeat (first | refine blk_drewN ?_ _ | refine blk_drew ?_ | refine blk_alloc ?_ _)); refine blk_put (cs := #[.int .i64 t680, .int .i64 t681, .int .i64 0]) ?_ 2 _ rfl; (with_reducible repeat (first | refine blk_drewN ?_ _ | refine blk_drew ?_ | refine blk_alloc ?_ _)); refine blk_put (cs := #[.int .i64 t680, .int .i64 0, .int .i64 0]) ?_ 1 _ rfl; (with_reducible repeat (first | refine blk_drewN ?_ _ | refine blk_drew ?_ | refine blk_alloc ?_ _)); refine blk_put (cs := #[.int .i64 0, .int .i64 0, .int .i64 0]) ?_ 0 _ rfl; (with_reducible repeat (first | refine blk_drewN ?_ _ | refine blk_drew ?_ | refine blk_alloc ?_ _)); exact BK684.out⟩, ⟨by repeat (first | (with_reducible first | exact HB.out | apply below_alloc | apply pw_below_drewN | apply below_drew1 | refine below_set ?_ GE679.out | refine below_set ?_ GE684.out) | exact HB.out)⟩⟩
        · rw [if_neg c24] at H
          have c24b0 : decide (4 ≤ (wrap64 (1 + (wrap64 (Int.tmod (IntKind.u64.wrap (a2)) 7))))) = false := decide_eq_false c24
          clear c24
          (first | rw [c24b0] | (simp only [i64_w, i32_w]; rw [c24b0]) | skip)
          by_cases c25 : (wrap64 (1 + (wrap64 (Int.tmod (IntKind.u64.wrap (a2)) 7)))) = 3
          · rw [if_pos c25] at H
            have c25b0 : ((wrap64 (1 + (wrap64 (Int.tmod (IntKind.u64.wrap (a2)) 7)))) == 3) = true := beq_iff_eq.mpr c25
            have c25b1 : ((wrap64 (1 + (wrap64 (Int.tmod (IntKind.u64.wrap (a2)) 7)))) != 3) = false := bne_eq_false_iff_eq.mpr c25
            clear c25
            have H' := Aside0.mk H
            clear H
            go_wp2
            go_meet
            case rel => exact ⟨_, (((Int.tmod t672 3600) == (Int.tmod t674 3600))), (by first | rfl | (simp; done) | (simp [*]; done)), H', ⟨by have := HJ5.out; first | omega | exact Nat.le_refl _⟩, ⟨by (with_reducible repeat (first | refine blk_drewN ?_ _ | refine blk_drew ?_ | refine blk_alloc ?_ _)); refine blk_far ?_ NB679_684.out _; (with_reducible repeat (first | refine blk_drewN ?_ _ | refine blk_drew ?_ | refine blk_alloc ?_ _)); refine blk_far ?_ NB679_684.out _; (with_reducible repeat (first | refine blk_drewN ?_ _ | refine blk_drew ?_ | refine blk_alloc ?_ _)); refine blk_far ?_ NB679_684.out _; (with_reducible repeat (first | refine blk_drewN ?_ _ | refine blk_drew ?_ | refine blk_alloc ?_ _)); exact BK679.out⟩, ⟨by (with_reducible repeat (first | refine blk_drewN ?_ _ | refine blk_drew ?_ | refine blk_alloc ?_ _)); refine blk_put (cs := #[.int .i64 t680, .int .i64 t681, .int .i64 0]) ?_ 2 _ rfl; (with_reducible repeat (first | refine blk_drewN ?_ _ | refine blk_drew ?_ | refine blk_alloc ?_ _)); refine blk_put (cs := #[.int .i64 t680, .int .i64 0, .int .i64 0]) ?_ 1 _ rfl; (with_reducible repeat (first | refine blk_drewN ?_ _ | refine blk_drew ?_ | refine blk_alloc ?_ _)); refine blk_put (cs := #[.int .i64 0, .int .i64 0, .int .i64 0]) ?_ 0 _ rfl; (with_reducible repeat (first | refine blk_drewN ?_ _ | refine blk_drew ?_ | refine blk_alloc ?_ _)); exact BK684.out⟩, ⟨by repeat (first | (with_reducible first | exact HB.out | apply below_alloc | apply pw_below_drewN | apply below_drew1 | refine below_set ?_ GE679.out | refine below_set ?_ GE684.out) | exact HB.out)⟩⟩
          · rw [if_neg c25] at H
            have c25b0 : ((wrap64 (1 + (wrap64 (Int.tmod (IntKind.u64.wrap (a2)) 7)))) == 3) = false := beq_eq_false_iff_ne.mpr c25
            have c25b1 : ((wrap64 (1 + (wrap64 (Int.tmod (IntKind.u64.wrap (a2)) 7)))) != 3) = true := bne_iff_ne.mpr c25
            by_cases c26 : (wrap64 (1 + (wrap64 (Int.tmod (IntKind.u64.wrap (a2)) 7)))) = 2
            · rw [if_pos c26] at H
              have c26b0 : ((wrap64 (1 + (wrap64 (Int.tmod (IntKind.u64.wrap (a2)) 7)))) == 2) = true := beq_iff_eq.mpr c26
              have c26b1 : ((wrap64 (1 + (wrap64 (Int.tmod (IntKind.u64.wrap (a2)) 7)))) != 2) = false := bne_eq_false_iff_eq.mpr c26
              clear c26
              have H' := Aside0.mk H
              clear H
              go_wp2
              go_meet
              case rel => exact ⟨_, (((Int.tmod t672 60) == (Int.tmod t674 60))), (by first | rfl | (simp; done) | (simp [*]; done)), H', ⟨by have := HJ5.out; first | omega | exact Nat.le_refl _⟩, ⟨by (with_reducible repeat (first | refine blk_drewN ?_ _ | refine blk_drew ?_ | refine blk_alloc ?_ _)); refine blk_far ?_ NB679_684.out _; (with_reducible repeat (first | refine blk_drewN ?_ _ | refine blk_drew ?_ | refine blk_alloc ?_ _)); refine blk_far ?_ NB679_684.out _; (with_reducible repeat (first | refine blk_drewN ?_ _ | refine blk_drew ?_ | refine blk_alloc ?_ _)); refine blk_far ?_ NB679_684.out _; (with_reducible repeat (first | refine blk_drewN ?_ _ | refine blk_drew ?_ | refine blk_alloc ?_ _)); exact BK679.out⟩, ⟨by (with_reducible repeat (first | refine blk_drewN ?_ _ | refine blk_drew ?_ | refine blk_alloc ?_ _)); refine blk_put (cs := #[.int .i64 t680, .int .i64 t681, .int .i64 0]) ?_ 2 _ rfl; (with_reducible repeat (first | refine blk_drewN ?_ _ | refine blk_drew ?_ | refine blk_alloc ?_ _)); refine blk_put (cs := #[.int .i64 t680, .int .i64 0, .int .i64 0]) ?_ 1 _ rfl; (with_reducible repeat (first | refine blk_drewN ?_ _ | refine blk_drew ?_ | refine blk_alloc ?_ _)); refine blk_put (cs := #[.int .i64 0, .int .i64 0, .int .i64 0]) ?_ 0 _ rfl; (with_reducible repeat (first | refine blk_drewN ?_ _ | refine blk_drew ?_ | refine blk_alloc ?_ _)); exact BK684.out⟩, ⟨by repeat (first | (with_reducible first | exact HB.out | apply below_alloc | apply pw_below_drewN | apply below_drew1 | refine below_set ?_ GE679.out | refine below_set ?_ GE684.out) | exact HB.out)⟩⟩
            · rw [if_neg c26] at H
              have c26b0 : ((wrap64 (1 + (wrap64 (Int.tmod (IntKind.u64.wrap (a2)) 7)))) == 2) = false := beq_eq_false_iff_ne.mpr c26
              have c26b1 : ((wrap64 (1 + (wrap64 (Int.tmod (IntKind.u64.wrap (a2)) 7)))) != 2) = true := bne_iff_ne.mpr c26
              have H' := Aside0.mk H
              clear H
              go_wp2
              go_meet
              case rel => exact ⟨_, (true), (by first | rfl | (simp; done) | (simp [*]; done)), H', ⟨by have := HJ5.out; first | omega | exact Nat.le_refl _⟩, ⟨by (with_reducible repeat (first | refine blk_drewN ?_ _ | refine blk_drew ?_ | refine blk_alloc ?_ _)); refine blk_far ?_ NB679_684.out _; (with_reducible repeat (first | refine blk_drewN ?_ _ | refine blk_drew ?_ | refine blk_alloc ?_ _)); refine blk_far ?_ NB679_684.out _; (with_reducible repeat (first | refine blk_drewN ?_ _ | refine blk_drew ?_ | refine blk_alloc ?_ _)); refine blk_far ?_ NB679_684.out _; (with_reducible repeat (first | refine blk_drewN ?_ _ | refine blk_drew ?_ | refine blk_alloc ?_ _)); exact BK679.out⟩, ⟨by (with_reducible repeat (first | refine blk_drewN ?_ _ | refine blk_drew ?_ | refine blk_alloc ?_ _)); refine blk_put (cs := #[.int .i64 t680, .int .i64 t681, .int .i64 0]) ?_ 2 _ rfl; (with_reducible repeat (first | refine blk_drewN ?_ _ | refine blk_drew ?_ | refine blk_alloc ?_ _)); refine blk_put (cs := #[.int .i64 t680, .int .i64 0, .int .i64 0]) ?_ 1 _ rfl; (with_reducible repeat (first | refine blk_drewN ?_ _ | refine blk_drew ?_ | refine blk_alloc ?_ _)); refine blk_put (cs := #[.int .i64 0, .int .i64 0, .int .i64 0]) ?_ 0 _ rfl; (with_reducible repeat (first | refine blk_drewN ?_ _ | refine blk_drew ?_ | refine blk_alloc ?_ _)); exact BK684.out⟩, ⟨by repeat (first | (with_reducible first | exact HB.out | apply below_alloc | apply pw_below_drewN | apply below_drew1 | refine below_set ?_ GE679.out | refine below_set ?_ GE684.out) | exact HB.out)⟩⟩
      case rest => as_aux_lemma =>
        clear HC16
        try clear c2
        try clear p2
        try clear p6
        try clear c7
        try clear c9
        try clear c9b0
        try clear c9b1
        try clear c21
        try clear c22
        try clear c24
        try clear c24b0
        try clear c25
        try clear c25b0
        try clear c25b1
        try clear c26
        try clear c26b0
        try clear c26b1
        try clear hcz19_0
        try clear hcz19_1
        try clear hcz19_2
        try clear hcz23_0
        try clear hcz23_1
        try clear hcz23_2
        try clear hfz19_0
        try clear hfz19_1
        try clear hfz19_2
        try clear hfz23_0
        try clear hfz23_1
        try clear hfz23_2
        try clear p2
        try clear p6
        obtain ⟨kq, x19_15, rfl, HA, HJ15, BK679, BK684, HB⟩ := hcut
        cases kq with
        | zero => exact absurd HA.out (by simp [solsticelaw22_FilterStarts.j1])
        | succ kj15 =>
          have H := HA.out
          clear HA
          simp only [solsticelaw22_FilterStarts.j1] at H
          by_cases c27 : (wrap64 (1 + (wrap64 (Int.tmod (IntKind.u64.wrap (a2)) 7)))) = 5
          · as_aux_lemma =>
              rw [if_pos c27] at H
              have c27b0 : ((wrap64 (1 + (wrap64 (Int.tmod (IntKind.u64.wrap (a2)) 7)))) == 5) = true := beq_iff_eq.mpr c27
              have c27b1 : ((wrap64 (1 + (wrap64 (Int.tmod (IntKind.u64.wrap (a2)) 7)))) != 5) = false := bne_eq_false_iff_eq.mpr c27
              clear c27
              by_cases c28 : x19_15 = true
              · subst c28
                have H1 : ((civil_Weekday.f t671).bind fun t685 => ((civil_Weekday.f t673).bind fun t686 => (if t678 = 0 then (if t683 = 0 then ((filter_Lets.f kj15 (wrap64 (1 + (wrap64 (Int.tmod (IntKind.u64.wrap (a2)) 7)))) 1 0 false 0 false ([] : List Int) ([] : List Int) ([] : List Int) ([] : List (S47)) ([] : List Int) ([] : List Int) ([] : List Int) ([] : List Int) ([] : List Int) 1 t665 x1_5).bind fun t687 => (if (t687 == (t685 == t686)) = true then ((solsticelaw22_wakes.f kj15).bind fun t688 => (some t688)) else (some false))) else (some false)) else (some false)))) = some r := by rw [if_pos rfl] at H; exact H
                clear H
                have H := H1
                clear H1
                replace H := Option.bind_eq_some_iff.mp H
                obtain ⟨t685, A290, H⟩ := H
                replace H : ((civil_Weekday.f t673).bind fun t686 => (if t678 = 0 then (if t683 = 0 then ((filter_Lets.f kj15 (wrap64 (1 + (wrap64 (Int.tmod (IntKind.u64.wrap (a2)) 7)))) 1 0 false 0 false ([] : List Int) ([] : List Int) ([] : List Int) ([] : List (S47)) ([] : List Int) ([] : List Int) ([] : List Int) ([] : List Int) ([] : List Int) 1 t665 x1_5).bind fun t687 => (if (t687 == (t685 == t686)) = true then ((solsticelaw22_wakes.f kj15).bind fun t688 => (some t688)) else (some false))) else (some false)) else (some false))) = some r := H
                have A29 := Aside0.mk A290
                clear A290
                replace H := Option.bind_eq_some_iff.mp H
                obtain ⟨t686, A300, H⟩ := H
                replace H : (if t678 = 0 then (if t683 = 0 then ((filter_Lets.f kj15 (wrap64 (1 + (wrap64 (Int.tmod (IntKind.u64.wrap (a2)) 7)))) 1 0 false 0 false ([] : List Int) ([] : List Int) ([] : List Int) ([] : List (S47)) ([] : List Int) ([] : List Int) ([] : List Int) ([] : List Int) ([] : List Int) 1 t665 x1_5).bind fun t687 => (if (t687 == (t685 == t686)) = true then ((solsticelaw22_wakes.f kj15).bind fun t688 => (some t688)) else (some false))) else (some false)) else (some false)) = some r := H
                have A30 := Aside0.mk A300
                clear A300
                by_cases c31 : t678 = 0
                · rw [if_pos c31] at H
                  have c31b0 : (t678 == 0) = true := beq_iff_eq.mpr c31
                  have c31b1 : (t678 != 0) = false := bne_eq_false_iff_eq.mpr c31
                  clear c31
                  by_cases c32 : t683 = 0
                  · rw [if_pos c32] at H
                    have c32b0 : (t683 == 0) = true := beq_iff_eq.mpr c32
                    have c32b1 : (t683 != 0) = false := bne_eq_false_iff_eq.mpr c32
                    clear c32
                    replace H := Option.bind_eq_some_iff.mp H
                    obtain ⟨t687, A330, H⟩ := H
                    replace H : (if (t687 == (t685 == t686)) = true then ((solsticelaw22_wakes.f kj15).bind fun t688 => (some t688)) else (some false)) = some r := H
                    have A33 := Aside0.mk A330
                    clear A330
                    by_cases c34 : (t687 == (t685 == t686)) = true
                    · rw [if_pos c34] at H
                      have c34b0 : (t687 == (t685 == t686)) = true := c34
                      (try (have c34b1 : decide (t687 = (t685 == t686)) = true := by simpa using c34))
                      (try (have c34b2 : (t687 == (t685 == t686)) = true := by simpa using c34))
                      clear c34
                      replace H := Option.bind_eq_some_iff.mp H
                      obtain ⟨t688, A350, H⟩ := H
                      replace H : (some t688) = some r := H
                      have A35 := Aside0.mk A350
                      clear A350
                      obtain rfl := Option.some.inj H
                      go_wp2_with (first | (go_at_call 29; (with_reducible refine (civil_Weekday.calls t671 t685 _ A29.out).mono ?_); rintro e w' ⟨rfl, ⟨nd, rfl⟩⟩) | (go_at_call 29; (with_reducible refine (civil_Weekday.calls t673 t686 _ A30.out).mono ?_); rintro e w' ⟨rfl, ⟨nd, rfl⟩⟩) | (go_at_call 12; (refine (filter_Lets.calls kj15 (wrap64 (1 + (wrap64 (Int.tmod (IntKind.u64.wrap (a2)) 7)))) 1 0 false 0 false _ _ ([] : List Int) _ _ ([] : List Int) _ _ ([] : List Int) _ _ ([] : List (S47)) _ _ ([] : List Int) _ _ ([] : List Int) _ _ ([] : List Int) _ _ ([] : List Int) _ _ ([] : List Int) 1 t665 x1_5 t687 _ ?side1 ?side2 ?side3 ?side4 ?side5 ?side6 ?side7 ?side8 ?side9 ?side10 ?side11 ?side12 ?side13 ?side14 ?side15 ?side16 ?side17 ?side18 A33.out).mono ?_); (case side1 => exact Kd.C_nil _ _); (case side2 => exact Nat.le_refl _); (case side3 => exact Kd.C_nil _ _); (case side4 => exact Nat.le_refl _); (case side5 => exact Kd.C_nil _ _); (case side6 => exact Nat.le_refl _); (case side7 => exact Kd.C_nil _ _); (case side8 => exact Nat.le_refl _); (case side9 => exact Kd.C_nil _ _); (case side10 => exact Nat.le_refl _); (case side11 => exact Kd.C_nil _ _); (case side12 => exact Nat.le_refl _); (case side13 => exact Kd.C_nil _ _); (case side14 => exact Nat.le_refl _); (case side15 => exact Kd.C_nil _ _); (case side16 => exact Nat.le_refl _); (case side17 => exact Kd.C_nil _ _); (case side18 => exact Nat.le_refl _); rintro e w36 ⟨rfl, hb⟩; have n0_ := Aside0.mk (blk_below (g := gb679) (o := .cells #[.int .i64 t675, .int .i64 t676, .int .i64 t677] 39 (0, 0)) (by (with_reducible repeat (first | refine blk_drewN ?_ _ | refine blk_drew ?_ | refine blk_alloc ?_ _)); exact BK679.out) hb); have n1_ := Aside0.mk (blk_below (g := gb684) (o := .cells #[.int .i64 t680, .int .i64 t681, .int .i64 t682] 39 (0, 0)) (by (with_reducible repeat (first | refine blk_drewN ?_ _ | refine blk_drew ?_ | refine blk_alloc ?_ _)); exact BK684.out) hb); have n2_ := Aside0.mk (below_step (by repeat (first | (with_reducible first | exact HB.out | apply below_alloc | apply pw_below_drewN | apply below_drew1 | refine below_set ?_ GE679.out | refine below_set ?_ GE684.out) | exact HB.out)) hb); clear BK679; clear BK684; clear HB; have BK679 := n0_; have BK684 := n1_; have HB := n2_; clear n0_ n1_ n2_; (try clear hb); (try clear hb2); (try clear hk); (try clear hi)) | (go_at_call 16; (with_reducible refine (solsticelaw22_wakes.calls kj15  t688 _ hr.out A35.out).mono ?_); rintro e w37 ⟨rfl, hb⟩; have n0_ := Aside0.mk (blk_below (g := gb679) (o := .cells #[.int .i64 t675, .int .i64 t676, .int .i64 t677] 39 (0, 0)) (by (with_reducible repeat (first | refine blk_drewN ?_ _ | refine blk_drew ?_ | refine blk_alloc ?_ _)); exact BK679.out) hb); have n1_ := Aside0.mk (blk_below (g := gb684) (o := .cells #[.int .i64 t680, .int .i64 t681, .int .i64 t682] 39 (0, 0)) (by (with_reducible repeat (first | refine blk_drewN ?_ _ | refine blk_drew ?_ | refine blk_alloc ?_ _)); exact BK684.out) hb); have n2_ := Aside0.mk (below_step (by repeat (first | (with_reducible first | exact HB.out | apply below_alloc | apply pw_below_drewN | apply below_drew1 | refine below_set ?_ GE679.out | refine below_set ?_ GE684.out) | exact HB.out)) hb); clear BK679; clear BK684; clear HB; have BK679 := n0_; have BK684 := n1_; have HB := n2_; clear n0_ n1_ n2_; (try clear hb); (try clear hb2); (try clear hk); (try clear hi)))
                      go_ret
                      exact ⟨by first | rfl | (simp [errW_none, errW_some] <;> rfl) | (simp [*, errW_none, errW_some] <;> rfl), by repeat (first | (with_reducible first | exact HB.out | apply below_alloc | apply pw_below_drewN | apply below_drew1 | refine below_set ?_ GE679.out | refine below_set ?_ GE684.out) | exact HB.out)⟩
                    · rw [if_neg c34] at H
                      have c34b0 : (t687 == (t685 == t686)) = false := by simpa using c34
                      (try (have c34b1 : decide (t687 = (t685 == t686)) = false := by simpa using c34))
                      (try (have c34b2 : (t687 == (t685 == t686)) = false := by simpa using c34))
                      (try (have c34b3 : ¬ (t687 = (t685 == t686)) := by simpa using c34))
                      clear c34
                      exact absurd ((Option.some.inj H).trans hr.out) (by decide)
                  · rw [if_neg c32] at H
                    have c32b0 : (t683 == 0) = false := beq_eq_false_iff_ne.mpr c32
                    have c32b1 : (t683 != 0) = true := bne_iff_ne.mpr c32
                    exact absurd ((Option.some.inj H).trans hr.out) (by decide)
                · rw [if_neg c31] at H
                  have c31b0 : (t678 == 0) = false := beq_eq_false_iff_ne.mpr c31
                  have c31b1 : (t678 != 0) = true := bne_iff_ne.mpr c31
                  exact absurd ((Option.some.inj H).trans hr.out) (by decide)
              · replace c28 := Bool.eq_false_iff.mpr c28
                subst c28
                have H1 : (if t678 = 0 then (if t683 = 0 then ((filter_Lets.f kj15 (wrap64 (1 + (wrap64 (Int.tmod (IntKind.u64.wrap (a2)) 7)))) 1 0 false 0 false ([] : List Int) ([] : List Int) ([] : List Int) ([] : List (S47)) ([] : List Int) ([] : List Int) ([] : List Int) ([] : List Int) ([] : List Int) 1 t665 x1_5).bind fun t689 => (if (t689 == false) = true then ((solsticelaw22_wakes.f kj15).bind fun t690 => (some t690)) else (some false))) else (some false)) else (some false)) = some r := by rw [if_neg (show ¬ (false = true) by decide)] at H; exact H
                clear H
                have H := H1
                clear H1
                by_cases c39 : t678 = 0
                · rw [if_pos c39] at H
                  have c39b0 : (t678 == 0) = true := beq_iff_eq.mpr c39
                  have c39b1 : (t678 != 0) = false := bne_eq_false_iff_eq.mpr c39
                  clear c39
                  by_cases c40 : t683 = 0
                  · rw [if_pos c40] at H
                    have c40b0 : (t683 == 0) = true := beq_iff_eq.mpr c40
                    have c40b1 : (t683 != 0) = false := bne_eq_false_iff_eq.mpr c40
                    clear c40
                    replace H := Option.bind_eq_some_iff.mp H
                    obtain ⟨t689, A410, H⟩ := H
                    replace H : (if (t689 == false) = true then ((solsticelaw22_wakes.f kj15).bind fun t690 => (some t690)) else (some false)) = some r := H
                    have A41 := Aside0.mk A410
                    clear A410
                    by_cases c42 : (t689 == false) = true
                    · rw [if_pos c42] at H
                      have c42b0 : (t689 == false) = true := c42
                      (try (have c42b1 : decide (t689 = false) = true := by simpa using c42))
                      (try (have c42b2 : (t689 == false) = true := by simpa using c42))
                      clear c42
                      replace H := Option.bind_eq_some_iff.mp H
                      obtain ⟨t690, A430, H⟩ := H
                      replace H : (some t690) = some r := H
                      have A43 := Aside0.mk A430
                      clear A430
                      obtain rfl := Option.some.inj H
                      go_wp2_with (first | (go_at_call 12; (refine (filter_Lets.calls kj15 (wrap64 (1 + (wrap64 (Int.tmod (IntKind.u64.wrap (a2)) 7)))) 1 0 false 0 false _ _ ([] : List Int) _ _ ([] : List Int) _ _ ([] : List Int) _ _ ([] : List (S47)) _ _ ([] : List Int) _ _ ([] : List Int) _ _ ([] : List Int) _ _ ([] : List Int) _ _ ([] : List Int) 1 t665 x1_5 t689 _ ?side1 ?side2 ?side3 ?side4 ?side5 ?side6 ?side7 ?side8 ?side9 ?side10 ?side11 ?side12 ?side13 ?side14 ?side15 ?side16 ?side17 ?side18 A41.out).mono ?_); (case side1 => exact Kd.C_nil _ _); (case side2 => exact Nat.le_refl _); (case side3 => exact Kd.C_nil _ _); (case side4 => exact Nat.le_refl _); (case side5 => exact Kd.C_nil _ _); (case side6 => exact Nat.le_refl _); (case side7 => exact Kd.C_nil _ _); (case side8 => exact Nat.le_refl _); (case side9 => exact Kd.C_nil _ _); (case side10 => exact Nat.le_refl _); (case side11 => exact Kd.C_nil _ _); (case side12 => exact Nat.le_refl _); (case side13 => exact Kd.C_nil _ _); (case side14 => exact Nat.le_refl _); (case side15 => exact Kd.C_nil _ _); (case side16 => exact Nat.le_refl _); (case side17 => exact Kd.C_nil _ _); (case side18 => exact Nat.le_refl _); rintro e w44 ⟨rfl, hb⟩; have n0_ := Aside0.mk (blk_below (g := gb679) (o := .cells #[.int .i64 t675, .int .i64 t676, .int .i64 t677] 39 (0, 0)) (by (with_reducible repeat (first | refine blk_drewN ?_ _ | refine blk_drew ?_ | refine blk_alloc ?_ _)); exact BK679.out) hb); have n1_ := Aside0.mk (blk_below (g := gb684) (o := .cells #[.int .i64 t680, .int .i64 t681, .int .i64 t682] 39 (0, 0)) (by (with_reducible repeat (first | refine blk_drewN ?_ _ | refine blk_drew ?_ | refine blk_alloc ?_ _)); exact BK684.out) hb); have n2_ := Aside0.mk (below_step (by repeat (first | (with_reducible first | exact HB.out | apply below_alloc | apply pw_below_drewN | apply below_drew1 | refine below_set ?_ GE679.out | refine below_set ?_ GE684.out) | exact HB.out)) hb); clear BK679; clear BK684; clear HB; have BK679 := n0_; have BK684 := n1_; have HB := n2_; clear n0_ n1_ n2_; (try clear hb); (try clear hb2); (try clear hk); (try clear hi)) | (go_at_call 16; (with_reducible refine (solsticelaw22_wakes.calls kj15  t690 _ hr.out A43.out).mono ?_); rintro e w45 ⟨rfl, hb⟩; have n0_ := Aside0.mk (blk_below (g := gb679) (o := .cells #[.int .i64 t675, .int .i64 t676, .int .i64 t677] 39 (0, 0)) (by (with_reducible repeat (first | refine blk_drewN ?_ _ | refine blk_drew ?_ | refine blk_alloc ?_ _)); exact BK679.out) hb); have n1_ := Aside0.mk (blk_below (g := gb684) (o := .cells #[.int .i64 t680, .int .i64 t681, .int .i64 t682] 39 (0, 0)) (by (with_reducible repeat (first | refine blk_drewN ?_ _ | refine blk_drew ?_ | refine blk_alloc ?_ _)); exact BK684.out) hb); have n2_ := Aside0.mk (below_step (by repeat (first | (with_reducible first | exact HB.out | apply below_alloc | apply pw_below_drewN | apply below_drew1 | refine below_set ?_ GE679.out | refine below_set ?_ GE684.out) | exact HB.out)) hb); clear BK679; clear BK684; clear HB; have BK679 := n0_; have BK684 := n1_; have HB := n2_; clear n0_ n1_ n2_; (try clear hb); (try clear hb2); (try clear hk); (try clear hi)))
                      go_ret
                      exact ⟨by first | rfl | (simp [errW_none, errW_some] <;> rfl) | (simp [*, errW_none, errW_some] <;> rfl), by repeat (first | (with_reducible first | exact HB.out | apply below_alloc | apply pw_below_drewN | apply below_drew1 | refine below_set ?_ GE679.out | refine below_set ?_ GE684.out) | exact HB.out)⟩
                    · rw [if_neg c42] at H
                      have c42b0 : (t689 == false) = false := by simpa using c42
                      (try (have c42b1 : decide (t689 = false) = false := by simpa using c42))
                      (try (have c42b2 : (t689 == false) = false := by simpa using c42))
                      (try (have c42b3 : ¬ (t689 = false) := by simpa using c42))
                      clear c42
                      exact absurd ((Option.some.inj H).trans hr.out) (by decide)
                  · rw [if_neg c40] at H
                    have c40b0 : (t683 == 0) = false := beq_eq_false_iff_ne.mpr c40
                    have c40b1 : (t683 != 0) = true := bne_iff_ne.mpr c40
                    exact absurd ((Option.some.inj H).trans hr.out) (by decide)
                · rw [if_neg c39] at H
                  have c39b0 : (t678 == 0) = false := beq_eq_false_iff_ne.mpr c39
                  have c39b1 : (t678 != 0) = true := bne_iff_ne.mpr c39
                  exact absurd ((Option.some.inj H).trans hr.out) (by decide)
          · as_aux_lemma =>
              rw [if_neg c27] at H
              have c27b0 : ((wrap64 (1 + (wrap64 (Int.tmod (IntKind.u64.wrap (a2)) 7)))) == 5) = false := beq_eq_false_iff_ne.mpr c27
              have c27b1 : ((wrap64 (1 + (wrap64 (Int.tmod (IntKind.u64.wrap (a2)) 7)))) != 5) = true := bne_iff_ne.mpr c27
              by_cases c47 : (wrap64 (1 + (wrap64 (Int.tmod (IntKind.u64.wrap (a2)) 7)))) = 6
              · as_aux_lemma =>
                  rw [if_pos c47] at H
                  have c47b0 : ((wrap64 (1 + (wrap64 (Int.tmod (IntKind.u64.wrap (a2)) 7)))) == 6) = true := beq_iff_eq.mpr c47
                  have c47b1 : ((wrap64 (1 + (wrap64 (Int.tmod (IntKind.u64.wrap (a2)) 7)))) != 6) = false := bne_eq_false_iff_eq.mpr c47
                  clear c47
                  by_cases c48 : x19_15 = true
                  · subst c48
                    have H1 : (if t678 = 0 then (if t683 = 0 then ((filter_Lets.f kj15 (wrap64 (1 + (wrap64 (Int.tmod (IntKind.u64.wrap (a2)) 7)))) 1 0 false 0 false ([] : List Int) ([] : List Int) ([] : List Int) ([] : List (S47)) ([] : List Int) ([] : List Int) ([] : List Int) ([] : List Int) ([] : List Int) 1 t665 x1_5).bind fun t691 => (if (t691 == (t677 == t682)) = true then ((solsticelaw22_wakes.f kj15).bind fun t692 => (some t692)) else (some false))) else (some false)) else (some false)) = some r := by rw [if_pos rfl] at H; exact H
                    clear H
                    have H := H1
                    clear H1
                    by_cases c49 : t678 = 0
                    · rw [if_pos c49] at H
                      have c49b0 : (t678 == 0) = true := beq_iff_eq.mpr c49
                      have c49b1 : (t678 != 0) = false := bne_eq_false_iff_eq.mpr c49
                      clear c49
                      by_cases c50 : t683 = 0
                      · rw [if_pos c50] at H
                        have c50b0 : (t683 == 0) = true := beq_iff_eq.mpr c50
                        have c50b1 : (t683 != 0) = false := bne_eq_false_iff_eq.mpr c50
                        clear c50
                        replace H := Option.bind_eq_some_iff.mp H
                        obtain ⟨t691, A510, H⟩ := H
                        replace H : (if (t691 == (t677 == t682)) = true then ((solsticelaw22_wakes.f kj15).bind fun t692 => (some t692)) else (some false)) = some r := H
                        have A51 := Aside0.mk A510
                        clear A510
                        by_cases c52 : (t691 == (t677 == t682)) = true
                        · rw [if_pos c52] at H
                          have c52b0 : (t691 == (t677 == t682)) = true := c52
                          (try (have c52b1 : decide (t691 = (t677 == t682)) = true := by simpa using c52))
                          (try (have c52b2 : (t691 == (t677 == t682)) = true := by simpa using c52))
                          clear c52
                          replace H := Option.bind_eq_some_iff.mp H
                          obtain ⟨t692, A530, H⟩ := H
                          replace H : (some t692) = some r := H
                          have A53 := Aside0.mk A530
                          clear A530
                          obtain rfl := Option.some.inj H
                          have hnb54 := NB679_684.out
                          have hnc54 := NB684_679.out
                          have hcz55_0 : wc.cell? ⟨gb679, 0, none⟩ = some (.int .i64 t675) := (blk_cell BK679.out 0).trans rfl
                          have hcz55_1 : wc.cell? ⟨gb679, 1, none⟩ = some (.int .i64 t676) := (blk_cell BK679.out 1).trans rfl
                          have hcz55_2 : wc.cell? ⟨gb679, 2, none⟩ = some (.int .i64 t677) := (blk_cell BK679.out 2).trans rfl
                          have hfz55_0 := blk_frozen BK679.out 0
                          have hfz55_1 := blk_frozen BK679.out 1
                          have hfz55_2 := blk_frozen BK679.out 2
                          have hcz56_0 : wc.cell? ⟨gb684, 0, none⟩ = some (.int .i64 t680) := (blk_cell BK684.out 0).trans rfl
                          have hcz56_1 : wc.cell? ⟨gb684, 1, none⟩ = some (.int .i64 t681) := (blk_cell BK684.out 1).trans rfl
                          have hcz56_2 : wc.cell? ⟨gb684, 2, none⟩ = some (.int .i64 t682) := (blk_cell BK684.out 2).trans rfl
                          have hfz56_0 := blk_frozen BK684.out 0
                          have hfz56_1 := blk_frozen BK684.out 1
                          have hfz56_2 := blk_frozen BK684.out 2
                          go_wp2_with (first | (go_at_call 12; (refine (filter_Lets.calls kj15 (wrap64 (1 + (wrap64 (Int.tmod (IntKind.u64.wrap (a2)) 7)))) 1 0 false 0 false _ _ ([] : List Int) _ _ ([] : List Int) _ _ ([] : List Int) _ _ ([] : List (S47)) _ _ ([] : List Int) _ _ ([] : List Int) _ _ ([] : List Int) _ _ ([] : List Int) _ _ ([] : List Int) 1 t665 x1_5 t691 _ ?side1 ?side2 ?side3 ?side4 ?side5 ?side6 ?side7 ?side8 ?side9 ?side10 ?side11 ?side12 ?side13 ?side14 ?side15 ?side16 ?side17 ?side18 A51.out).mono ?_); (case side1 => exact Kd.C_nil _ _); (case side2 => exact Nat.le_refl _); (case side3 => exact Kd.C_nil _ _); (case side4 => exact Nat.le_refl _); (case side5 => exact Kd.C_nil _ _); (case side6 => exact Nat.le_refl _); (case side7 => exact Kd.C_nil _ _); (case side8 => exact Nat.le_refl _); (case side9 => exact Kd.C_nil _ _); (case side10 => exact Nat.le_refl _); (case side11 => exact Kd.C_nil _ _); (case side12 => exact Nat.le_refl _); (case side13 => exact Kd.C_nil _ _); (case side14 => exact Nat.le_refl _); (case side15 => exact Kd.C_nil _ _); (case side16 => exact Nat.le_refl _); (case side17 => exact Kd.C_nil _ _); (case side18 => exact Nat.le_refl _); rintro e w57 ⟨rfl, hb⟩; have n0_ := Aside0.mk (blk_below (g := gb679) (o := .cells #[.int .i64 t675, .int .i64 t676, .int .i64 t677] 39 (0, 0)) (by (with_reducible repeat (first | refine blk_drewN ?_ _ | refine blk_drew ?_ | refine blk_alloc ?_ _)); exact BK679.out) hb); have n1_ := Aside0.mk (blk_below (g := gb684) (o := .cells #[.int .i64 t680, .int .i64 t681, .int .i64 t682] 39 (0, 0)) (by (with_reducible repeat (first | refine blk_drewN ?_ _ | refine blk_drew ?_ | refine blk_alloc ?_ _)); exact BK684.out) hb); have n2_ := Aside0.mk (below_step (by repeat (first | (with_reducible first | exact HB.out | apply below_alloc | apply pw_below_drewN | apply below_drew1 | refine below_set ?_ GE679.out | refine below_set ?_ GE684.out) | exact HB.out)) hb); clear BK679; clear BK684; clear HB; have BK679 := n0_; have BK684 := n1_; have HB := n2_; clear n0_ n1_ n2_; (try clear hb); (try clear hb2); (try clear hk); (try clear hi)) | (go_at_call 16; (with_reducible refine (solsticelaw22_wakes.calls kj15  t692 _ hr.out A53.out).mono ?_); rintro e w58 ⟨rfl, hb⟩; have n0_ := Aside0.mk (blk_below (g := gb679) (o := .cells #[.int .i64 t675, .int .i64 t676, .int .i64 t677] 39 (0, 0)) (by (with_reducible repeat (first | refine blk_drewN ?_ _ | refine blk_drew ?_ | refine blk_alloc ?_ _)); exact BK679.out) hb); have n1_ := Aside0.mk (blk_below (g := gb684) (o := .cells #[.int .i64 t680, .int .i64 t681, .int .i64 t682] 39 (0, 0)) (by (with_reducible repeat (first | refine blk_drewN ?_ _ | refine blk_drew ?_ | refine blk_alloc ?_ _)); exact BK684.out) hb); have n2_ := Aside0.mk (below_step (by repeat (first | (with_reducible first | exact HB.out | apply below_alloc | apply pw_below_drewN | apply below_drew1 | refine below_set ?_ GE679.out | refine below_set ?_ GE684.out) | exact HB.out)) hb); clear BK679; clear BK684; clear HB; have BK679 := n0_; have BK684 := n1_; have HB := n2_; clear n0_ n1_ n2_; (try clear hb); (try clear hb2); (try clear hk); (try clear hi)))
                          go_ret
                          exact ⟨by first | rfl | (simp [errW_none, errW_some] <;> rfl) | (simp [*, errW_none, errW_some] <;> rfl), by repeat (first | (with_reducible first | exact HB.out | apply below_alloc | apply pw_below_drewN | apply below_drew1 | refine below_set ?_ GE679.out | refine below_set ?_ GE684.out) | exact HB.out)⟩
                        · rw [if_neg c52] at H
                          have c52b0 : (t691 == (t677 == t682)) = false := by simpa using c52
                          (try (have c52b1 : decide (t691 = (t677 == t682)) = false := by simpa using c52))
                          (try (have c52b2 : (t691 == (t677 == t682)) = false := by simpa using c52))
                          (try (have c52b3 : ¬ (t691 = (t677 == t682)) := by simpa using c52))
                          clear c52
                          exact absurd ((Option.some.inj H).trans hr.out) (by decide)
                      · rw [if_neg c50] at H
                        have c50b0 : (t683 == 0) = false := beq_eq_false_iff_ne.mpr c50
                        have c50b1 : (t683 != 0) = true := bne_iff_ne.mpr c50
                        exact absurd ((Option.some.inj H).trans hr.out) (by decide)
                    · rw [if_neg c49] at H
                      have c49b0 : (t678 == 0) = false := beq_eq_false_iff_ne.mpr c49
                      have c49b1 : (t678 != 0) = true := bne_iff_ne.mpr c49
                      exact absurd ((Option.some.inj H).trans hr.out) (by decide)
                  · replace c48 := Bool.eq_false_iff.mpr c48
                    subst c48
                    have H1 : (if t678 = 0 then (if t683 = 0 then ((filter_Lets.f kj15 (wrap64 (1 + (wrap64 (Int.tmod (IntKind.u64.wrap (a2)) 7)))) 1 0 false 0 false ([] : List Int) ([] : List Int) ([] : List Int) ([] : List (S47)) ([] : List Int) ([] : List Int) ([] : List Int) ([] : List Int) ([] : List Int) 1 t665 x1_5).bind fun t693 => (if (t693 == false) = true then ((solsticelaw22_wakes.f kj15).bind fun t694 => (some t694)) else (some false))) else (some false)) else (some false)) = some r := by rw [if_neg (show ¬ (false = true) by decide)] at H; exact H
                    clear H
                    have H := H1
                    clear H1
                    by_cases c69 : t678 = 0
                    · rw [if_pos c69] at H
                      have c69b0 : (t678 == 0) = true := beq_iff_eq.mpr c69
                      have c69b1 : (t678 != 0) = false := bne_eq_false_iff_eq.mpr c69
                      clear c69
                      by_cases c70 : t683 = 0
                      · rw [if_pos c70] at H
                        have c70b0 : (t683 == 0) = true := beq_iff_eq.mpr c70
                        have c70b1 : (t683 != 0) = false := bne_eq_false_iff_eq.mpr c70
                        clear c70
                        replace H := Option.bind_eq_some_iff.mp H
                        obtain ⟨t693, A710, H⟩ := H
                        replace H : (if (t693 == false) = true then ((solsticelaw22_wakes.f kj15).bind fun t694 => (some t694)) else (some false)) = some r := H
                        have A71 := Aside0.mk A710
                        clear A710
                        by_cases c72 : (t693 == false) = true
                        · rw [if_pos c72] at H
                          have c72b0 : (t693 == false) = true := c72
                          (try (have c72b1 : decide (t693 = false) = true := by simpa using c72))
                          (try (have c72b2 : (t693 == false) = true := by simpa using c72))
                          clear c72
                          replace H := Option.bind_eq_some_iff.mp H
                          obtain ⟨t694, A730, H⟩ := H
                          replace H : (some t694) = some r := H
                          have A73 := Aside0.mk A730
                          clear A730
                          obtain rfl := Option.some.inj H
                          go_wp2_with (first | (go_at_call 12; (refine (filter_Lets.calls kj15 (wrap64 (1 + (wrap64 (Int.tmod (IntKind.u64.wrap (a2)) 7)))) 1 0 false 0 false _ _ ([] : List Int) _ _ ([] : List Int) _ _ ([] : List Int) _ _ ([] : List (S47)) _ _ ([] : List Int) _ _ ([] : List Int) _ _ ([] : List Int) _ _ ([] : List Int) _ _ ([] : List Int) 1 t665 x1_5 t693 _ ?side1 ?side2 ?side3 ?side4 ?side5 ?side6 ?side7 ?side8 ?side9 ?side10 ?side11 ?side12 ?side13 ?side14 ?side15 ?side16 ?side17 ?side18 A71.out).mono ?_); (case side1 => exact Kd.C_nil _ _); (case side2 => exact Nat.le_refl _); (case side3 => exact Kd.C_nil _ _); (case side4 => exact Nat.le_refl _); (case side5 => exact Kd.C_nil _ _); (case side6 => exact Nat.le_refl _); (case side7 => exact Kd.C_nil _ _); (case side8 => exact Nat.le_refl _); (case side9 => exact Kd.C_nil _ _); (case side10 => exact Nat.le_refl _); (case side11 => exact Kd.C_nil _ _); (case side12 => exact Nat.le_refl _); (case side13 => exact Kd.C_nil _ _); (case side14 => exact Nat.le_refl _); (case side15 => exact Kd.C_nil _ _); (case side16 => exact Nat.le_refl _); (case side17 => exact Kd.C_nil _ _); (case side18 => exact Nat.le_refl _); rintro e w74 ⟨rfl, hb⟩; have n0_ := Aside0.mk (blk_below (g := gb679) (o := .cells #[.int .i64 t675, .int .i64 t676, .int .i64 t677] 39 (0, 0)) (by (with_reducible repeat (first | refine blk_drewN ?_ _ | refine blk_drew ?_ | refine blk_alloc ?_ _)); exact BK679.out) hb); have n1_ := Aside0.mk (blk_below (g := gb684) (o := .cells #[.int .i64 t680, .int .i64 t681, .int .i64 t682] 39 (0, 0)) (by (with_reducible repeat (first | refine blk_drewN ?_ _ | refine blk_drew ?_ | refine blk_alloc ?_ _)); exact BK684.out) hb); have n2_ := Aside0.mk (below_step (by repeat (first | (with_reducible first | exact HB.out | apply below_alloc | apply pw_below_drewN | apply below_drew1 | refine below_set ?_ GE679.out | refine below_set ?_ GE684.out) | exact HB.out)) hb); clear BK679; clear BK684; clear HB; have BK679 := n0_; have BK684 := n1_; have HB := n2_; clear n0_ n1_ n2_; (try clear hb); (try clear hb2); (try clear hk); (try clear hi)) | (go_at_call 16; (with_reducible refine (solsticelaw22_wakes.calls kj15  t694 _ hr.out A73.out).mono ?_); rintro e w75 ⟨rfl, hb⟩; have n0_ := Aside0.mk (blk_below (g := gb679) (o := .cells #[.int .i64 t675, .int .i64 t676, .int .i64 t677] 39 (0, 0)) (by (with_reducible repeat (first | refine blk_drewN ?_ _ | refine blk_drew ?_ | refine blk_alloc ?_ _)); exact BK679.out) hb); have n1_ := Aside0.mk (blk_below (g := gb684) (o := .cells #[.int .i64 t680, .int .i64 t681, .int .i64 t682] 39 (0, 0)) (by (with_reducible repeat (first | refine blk_drewN ?_ _ | refine blk_drew ?_ | refine blk_alloc ?_ _)); exact BK684.out) hb); have n2_ := Aside0.mk (below_step (by repeat (first | (with_reducible first | exact HB.out | apply below_alloc | apply pw_below_drewN | apply below_drew1 | refine below_set ?_ GE679.out | refine below_set ?_ GE684.out) | exact HB.out)) hb); clear BK679; clear BK684; clear HB; have BK679 := n0_; have BK684 := n1_; have HB := n2_; clear n0_ n1_ n2_; (try clear hb); (try clear hb2); (try clear hk); (try clear hi)))
                          go_ret
                          exact ⟨by first | rfl | (simp [errW_none, errW_some] <;> rfl) | (simp [*, errW_none, errW_some] <;> rfl), by repeat (first | (with_reducible first | exact HB.out | apply below_alloc | apply pw_below_drewN | apply below_drew1 | refine below_set ?_ GE679.out | refine below_set ?_ GE684.out) | exact HB.out)⟩
                        · rw [if_neg c72] at H
                          have c72b0 : (t693 == false) = false := by simpa using c72
                          (try (have c72b1 : decide (t693 = false) = false := by simpa using c72))
                          (try (have c72b2 : (t693 == false) = false := by simpa using c72))
                          (try (have c72b3 : ¬ (t693 = false) := by simpa using c72))
                          clear c72
                          exact absurd ((Option.some.inj H).trans hr.out) (by decide)
                      · rw [if_neg c70] at H
                        have c70b0 : (t683 == 0) = false := beq_eq_false_iff_ne.mpr c70
                        have c70b1 : (t683 != 0) = true := bne_iff_ne.mpr c70
                        exact absurd ((Option.some.inj H).trans hr.out) (by decide)
                    · rw [if_neg c69] at H
                      have c69b0 : (t678 == 0) = false := beq_eq_false_iff_ne.mpr c69
                      have c69b1 : (t678 != 0) = true := bne_iff_ne.mpr c69
                      exact absurd ((Option.some.inj H).trans hr.out) (by decide)
              · as_aux_lemma =>
                  rw [if_neg c47] at H
                  have c47b0 : ((wrap64 (1 + (wrap64 (Int.tmod (IntKind.u64.wrap (a2)) 7)))) == 6) = false := beq_eq_false_iff_ne.mpr c47
                  have c47b1 : ((wrap64 (1 + (wrap64 (Int.tmod (IntKind.u64.wrap (a2)) 7)))) != 6) = true := bne_iff_ne.mpr c47
                  by_cases c77 : (wrap64 (1 + (wrap64 (Int.tmod (IntKind.u64.wrap (a2)) 7)))) = 7
                  · as_aux_lemma =>
                      rw [if_pos c77] at H
                      have c77b0 : ((wrap64 (1 + (wrap64 (Int.tmod (IntKind.u64.wrap (a2)) 7)))) == 7) = true := beq_iff_eq.mpr c77
                      have c77b1 : ((wrap64 (1 + (wrap64 (Int.tmod (IntKind.u64.wrap (a2)) 7)))) != 7) = false := bne_eq_false_iff_eq.mpr c77
                      clear c77
                      by_cases c78 : x19_15 = true
                      · as_aux_lemma =>
                          subst c78
                          have H1 : (if t677 = t682 then (if t678 = 0 then (if t683 = 0 then ((filter_Lets.f kj15 (wrap64 (1 + (wrap64 (Int.tmod (IntKind.u64.wrap (a2)) 7)))) 1 0 false 0 false ([] : List Int) ([] : List Int) ([] : List Int) ([] : List (S47)) ([] : List Int) ([] : List Int) ([] : List Int) ([] : List Int) ([] : List Int) 1 t665 x1_5).bind fun t695 => (if (t695 == (t676 == t681)) = true then ((solsticelaw22_wakes.f kj15).bind fun t696 => (some t696)) else (some false))) else (some false)) else (some false)) else (if t678 = 0 then (if t683 = 0 then ((filter_Lets.f kj15 (wrap64 (1 + (wrap64 (Int.tmod (IntKind.u64.wrap (a2)) 7)))) 1 0 false 0 false ([] : List Int) ([] : List Int) ([] : List Int) ([] : List (S47)) ([] : List Int) ([] : List Int) ([] : List Int) ([] : List Int) ([] : List Int) 1 t665 x1_5).bind fun t697 => (if (t697 == false) = true then ((solsticelaw22_wakes.f kj15).bind fun t698 => (some t698)) else (some false))) else (some false)) else (some false))) = some r := by rw [if_pos rfl] at H; exact H
                          clear H
                          have H := H1
                          clear H1
                          by_cases c79 : t677 = t682
                          · rw [if_pos c79] at H
                            have c79b0 : (t677 == t682) = true := beq_iff_eq.mpr c79
                            have c79b1 : (t677 != t682) = false := bne_eq_false_iff_eq.mpr c79
                            clear c79
                            by_cases c80 : t678 = 0
                            · rw [if_pos c80] at H
                              have c80b0 : (t678 == 0) = true := beq_iff_eq.mpr c80
                              have c80b1 : (t678 != 0) = false := bne_eq_false_iff_eq.mpr c80
                              clear c80
                              by_cases c81 : t683 = 0
                              · rw [if_pos c81] at H
                                have c81b0 : (t683 == 0) = true := beq_iff_eq.mpr c81
                                have c81b1 : (t683 != 0) = false := bne_eq_false_iff_eq.mpr c81
                                clear c81
                                replace H := Option.bind_eq_some_iff.mp H
                                obtain ⟨t695, A820, H⟩ := H
                                replace H : (if (t695 == (t676 == t681)) = true then ((solsticelaw22_wakes.f kj15).bind fun t696 => (some t696)) else (some false)) = some r := H
                                have A82 := Aside0.mk A820
                                clear A820
                                by_cases c83 : (t695 == (t676 == t681)) = true
                                · rw [if_pos c83] at H
                                  have c83b0 : (t695 == (t676 == t681)) = true := c83
                                  (try (have c83b1 : decide (t695 = (t676 == t681)) = true := by simpa using c83))
                                  (try (have c83b2 : (t695 == (t676 == t681)) = true := by simpa using c83))
                                  clear c83
                                  replace H := Option.bind_eq_some_iff.mp H
                                  obtain ⟨t696, A840, H⟩ := H
                                  replace H : (some t696) = some r := H
                                  have A84 := Aside0.mk A840
                                  clear A840
                                  obtain rfl := Option.some.inj H
                                  have hnb85 := NB679_684.out
                                  have hnc85 := NB684_679.out
                                  have hcz86_0 : wc.cell? ⟨gb679, 0, none⟩ = some (.int .i64 t675) := (blk_cell BK679.out 0).trans rfl
                                  have hcz86_1 : wc.cell? ⟨gb679, 1, none⟩ = some (.int .i64 t676) := (blk_cell BK679.out 1).trans rfl
                                  have hcz86_2 : wc.cell? ⟨gb679, 2, none⟩ = some (.int .i64 t677) := (blk_cell BK679.out 2).trans rfl
                                  have hfz86_0 := blk_frozen BK679.out 0
                                  have hfz86_1 := blk_frozen BK679.out 1
                                  have hfz86_2 := blk_frozen BK679.out 2
                                  have hcz87_0 : wc.cell? ⟨gb684, 0, none⟩ = some (.int .i64 t680) := (blk_cell BK684.out 0).trans rfl
                                  have hcz87_1 : wc.cell? ⟨gb684, 1, none⟩ = some (.int .i64 t681) := (blk_cell BK684.out 1).trans rfl
                                  have hcz87_2 : wc.cell? ⟨gb684, 2, none⟩ = some (.int .i64 t682) := (blk_cell BK684.out 2).trans rfl
                                  have hfz87_0 := blk_frozen BK684.out 0
                                  have hfz87_1 := blk_frozen BK684.out 1
                                  have hfz87_2 := blk_frozen BK684.out 2
                                  go_wp2_with (first | (go_at_call 12; (refine (filter_Lets.calls kj15 (wrap64 (1 + (wrap64 (Int.tmod (IntKind.u64.wrap (a2)) 7)))) 1 0 false 0 false _ _ ([] : List Int) _ _ ([] : List Int) _ _ ([] : List Int) _ _ ([] : List (S47)) _ _ ([] : List Int) _ _ ([] : List Int) _ _ ([] : List Int) _ _ ([] : List Int) _ _ ([] : List Int) 1 t665 x1_5 t695 _ ?side1 ?side2 ?side3 ?side4 ?side5 ?side6 ?side7 ?side8 ?side9 ?side10 ?side11 ?side12 ?side13 ?side14 ?side15 ?side16 ?side17 ?side18 A82.out).mono ?_); (case side1 => exact Kd.C_nil _ _); (case side2 => exact Nat.le_refl _); (case side3 => exact Kd.C_nil _ _); (case side4 => exact Nat.le_refl _); (case side5 => exact Kd.C_nil _ _); (case side6 => exact Nat.le_refl _); (case side7 => exact Kd.C_nil _ _); (case side8 => exact Nat.le_refl _); (case side9 => exact Kd.C_nil _ _); (case side10 => exact Nat.le_refl _); (case side11 => exact Kd.C_nil _ _); (case side12 => exact Nat.le_refl _); (case side13 => exact Kd.C_nil _ _); (case side14 => exact Nat.le_refl _); (case side15 => exact Kd.C_nil _ _); (case side16 => exact Nat.le_refl _); (case side17 => exact Kd.C_nil _ _); (case side18 => exact Nat.le_refl _); rintro e w88 ⟨rfl, hb⟩; have n0_ := Aside0.mk (blk_below (g := gb679) (o := .cells #[.int .i64 t675, .int .i64 t676, .int .i64 t677] 39 (0, 0)) (by (with_reducible repeat (first | refine blk_drewN ?_ _ | refine blk_drew ?_ | refine blk_alloc ?_ _)); exact BK679.out) hb); have n1_ := Aside0.mk (blk_below (g := gb684) (o := .cells #[.int .i64 t680, .int .i64 t681, .int .i64 t682] 39 (0, 0)) (by (with_reducible repeat (first | refine blk_drewN ?_ _ | refine blk_drew ?_ | refine blk_alloc ?_ _)); exact BK684.out) hb); have n2_ := Aside0.mk (below_step (by repeat (first | (with_reducible first | exact HB.out | apply below_alloc | apply pw_below_drewN | apply below_drew1 | refine below_set ?_ GE679.out | refine below_set ?_ GE684.out) | exact HB.out)) hb); clear BK679; clear BK684; clear HB; have BK679 := n0_; have BK684 := n1_; have HB := n2_; clear n0_ n1_ n2_; (try clear hb); (try clear hb2); (try clear hk); (try clear hi)) | (go_at_call 16; (with_reducible refine (solsticelaw22_wakes.calls kj15  t696 _ hr.out A84.out).mono ?_); rintro e w89 ⟨rfl, hb⟩; have n0_ := Aside0.mk (blk_below (g := gb679) (o := .cells #[.int .i64 t675, .int .i64 t676, .int .i64 t677] 39 (0, 0)) (by (with_reducible repeat (first | refine blk_drewN ?_ _ | refine blk_drew ?_ | refine blk_alloc ?_ _)); exact BK679.out) hb); have n1_ := Aside0.mk (blk_below (g := gb684) (o := .cells #[.int .i64 t680, .int .i64 t681, .int .i64 t682] 39 (0, 0)) (by (with_reducible repeat (first | refine blk_drewN ?_ _ | refine blk_drew ?_ | refine blk_alloc ?_ _)); exact BK684.out) hb); have n2_ := Aside0.mk (below_step (by repeat (first | (with_reducible first | exact HB.out | apply below_alloc | apply pw_below_drewN | apply below_drew1 | refine below_set ?_ GE679.out | refine below_set ?_ GE684.out) | exact HB.out)) hb); clear BK679; clear BK684; clear HB; have BK679 := n0_; have BK684 := n1_; have HB := n2_; clear n0_ n1_ n2_; (try clear hb); (try clear hb2); (try clear hk); (try clear hi)))
                                  go_ret
                                  exact ⟨by first | rfl | (simp [errW_none, errW_some] <;> rfl) | (simp [*, errW_none, errW_some] <;> rfl), by repeat (first | (with_reducible first | exact HB.out | apply below_alloc | apply pw_below_drewN | apply below_drew1 | refine below_set ?_ GE679.out | refine below_set ?_ GE684.out) | exact HB.out)⟩
                                · rw [if_neg c83] at H
                                  have c83b0 : (t695 == (t676 == t681)) = false := by simpa using c83
                                  (try (have c83b1 : decide (t695 = (t676 == t681)) = false := by simpa using c83))
                                  (try (have c83b2 : (t695 == (t676 == t681)) = false := by simpa using c83))
                                  (try (have c83b3 : ¬ (t695 = (t676 == t681)) := by simpa using c83))
                                  clear c83
                                  exact absurd ((Option.some.inj H).trans hr.out) (by decide)
                              · rw [if_neg c81] at H
                                have c81b0 : (t683 == 0) = false := beq_eq_false_iff_ne.mpr c81
                                have c81b1 : (t683 != 0) = true := bne_iff_ne.mpr c81
                                exact absurd ((Option.some.inj H).trans hr.out) (by decide)
                            · rw [if_neg c80] at H
                              have c80b0 : (t678 == 0) = false := beq_eq_false_iff_ne.mpr c80
                              have c80b1 : (t678 != 0) = true := bne_iff_ne.mpr c80
                              exact absurd ((Option.some.inj H).trans hr.out) (by decide)
                          · rw [if_neg c79] at H
                            have c79b0 : (t677 == t682) = false := beq_eq_false_iff_ne.mpr c79
                            have c79b1 : (t677 != t682) = true := bne_iff_ne.mpr c79
                            by_cases c100 : t678 = 0
                            · rw [if_pos c100] at H
                              have c100b0 : (t678 == 0) = true := beq_iff_eq.mpr c100
                              have c100b1 : (t678 != 0) = false := bne_eq_false_iff_eq.mpr c100
                              clear c100
                              by_cases c101 : t683 = 0
                              · rw [if_pos c101] at H
                                have c101b0 : (t683 == 0) = true := beq_iff_eq.mpr c101
                                have c101b1 : (t683 != 0) = false := bne_eq_false_iff_eq.mpr c101
                                clear c101
                                replace H := Option.bind_eq_some_iff.mp H
                                obtain ⟨t697, A1020, H⟩ := H
                                replace H : (if (t697 == false) = true then ((solsticelaw22_wakes.f kj15).bind fun t698 => (some t698)) else (some false)) = some r := H
                                have A102 := Aside0.mk A1020
                                clear A1020
                                by_cases c103 : (t697 == false) = true
                                · rw [if_pos c103] at H
                                  have c103b0 : (t697 == false) = true := c103
                                  (try (have c103b1 : decide (t697 = false) = true := by simpa using c103))
                                  (try (have c103b2 : (t697 == false) = true := by simpa using c103))
                                  clear c103
                                  replace H := Option.bind_eq_some_iff.mp H
                                  obtain ⟨t698, A1040, H⟩ := H
                                  replace H : (some t698) = some r := H
                                  have A104 := Aside0.mk A1040
                                  clear A1040
                                  obtain rfl := Option.some.inj H
                                  have hnb105 := NB679_684.out
                                  have hnc105 := NB684_679.out
                                  have hcz106_0 : wc.cell? ⟨gb679, 0, none⟩ = some (.int .i64 t675) := (blk_cell BK679.out 0).trans rfl
                                  have hcz106_1 : wc.cell? ⟨gb679, 1, none⟩ = some (.int .i64 t676) := (blk_cell BK679.out 1).trans rfl
                                  have hcz106_2 : wc.cell? ⟨gb679, 2, none⟩ = some (.int .i64 t677) := (blk_cell BK679.out 2).trans rfl
                                  have hfz106_0 := blk_frozen BK679.out 0
                                  have hfz106_1 := blk_frozen BK679.out 1
                                  have hfz106_2 := blk_frozen BK679.out 2
                                  have hcz107_0 : wc.cell? ⟨gb684, 0, none⟩ = some (.int .i64 t680) := (blk_cell BK684.out 0).trans rfl
                                  have hcz107_1 : wc.cell? ⟨gb684, 1, none⟩ = some (.int .i64 t681) := (blk_cell BK684.out 1).trans rfl
                                  have hcz107_2 : wc.cell? ⟨gb684, 2, none⟩ = some (.int .i64 t682) := (blk_cell BK684.out 2).trans rfl
                                  have hfz107_0 := blk_frozen BK684.out 0
                                  have hfz107_1 := blk_frozen BK684.out 1
                                  have hfz107_2 := blk_frozen BK684.out 2
                                  go_wp2_with (first | (go_at_call 12; (refine (filter_Lets.calls kj15 (wrap64 (1 + (wrap64 (Int.tmod (IntKind.u64.wrap (a2)) 7)))) 1 0 false 0 false _ _ ([] : List Int) _ _ ([] : List Int) _ _ ([] : List Int) _ _ ([] : List (S47)) _ _ ([] : List Int) _ _ ([] : List Int) _ _ ([] : List Int) _ _ ([] : List Int) _ _ ([] : List Int) 1 t665 x1_5 t697 _ ?side1 ?side2 ?side3 ?side4 ?side5 ?side6 ?side7 ?side8 ?side9 ?side10 ?side11 ?side12 ?side13 ?side14 ?side15 ?side16 ?side17 ?side18 A102.out).mono ?_); (case side1 => exact Kd.C_nil _ _); (case side2 => exact Nat.le_refl _); (case side3 => exact Kd.C_nil _ _); (case side4 => exact Nat.le_refl _); (case side5 => exact Kd.C_nil _ _); (case side6 => exact Nat.le_refl _); (case side7 => exact Kd.C_nil _ _); (case side8 => exact Nat.le_refl _); (case side9 => exact Kd.C_nil _ _); (case side10 => exact Nat.le_refl _); (case side11 => exact Kd.C_nil _ _); (case side12 => exact Nat.le_refl _); (case side13 => exact Kd.C_nil _ _); (case side14 => exact Nat.le_refl _); (case side15 => exact Kd.C_nil _ _); (case side16 => exact Nat.le_refl _); (case side17 => exact Kd.C_nil _ _); (case side18 => exact Nat.le_refl _); rintro e w108 ⟨rfl, hb⟩; have n0_ := Aside0.mk (blk_below (g := gb679) (o := .cells #[.int .i64 t675, .int .i64 t676, .int .i64 t677] 39 (0, 0)) (by (with_reducible repeat (first | refine blk_drewN ?_ _ | refine blk_drew ?_ | refine blk_alloc ?_ _)); exact BK679.out) hb); have n1_ := Aside0.mk (blk_below (g := gb684) (o := .cells #[.int .i64 t680, .int .i64 t681, .int .i64 t682] 39 (0, 0)) (by (with_reducible repeat (first | refine blk_drewN ?_ _ | refine blk_drew ?_ | refine blk_alloc ?_ _)); exact BK684.out) hb); have n2_ := Aside0.mk (below_step (by repeat (first | (with_reducible first | exact HB.out | apply below_alloc | apply pw_below_drewN | apply below_drew1 | refine below_set ?_ GE679.out | refine below_set ?_ GE684.out) | exact HB.out)) hb); clear BK679; clear BK684; clear HB; have BK679 := n0_; have BK684 := n1_; have HB := n2_; clear n0_ n1_ n2_; (try clear hb); (try clear hb2); (try clear hk); (try clear hi)) | (go_at_call 16; (with_reducible refine (solsticelaw22_wakes.calls kj15  t698 _ hr.out A104.out).mono ?_); rintro e w109 ⟨rfl, hb⟩; have n0_ := Aside0.mk (blk_below (g := gb679) (o := .cells #[.int .i64 t675, .int .i64 t676, .int .i64 t677] 39 (0, 0)) (by (with_reducible repeat (first | refine blk_drewN ?_ _ | refine blk_drew ?_ | refine blk_alloc ?_ _)); exact BK679.out) hb); have n1_ := Aside0.mk (blk_below (g := gb684) (o := .cells #[.int .i64 t680, .int .i64 t681, .int .i64 t682] 39 (0, 0)) (by (with_reducible repeat (first | refine blk_drewN ?_ _ | refine blk_drew ?_ | refine blk_alloc ?_ _)); exact BK684.out) hb); have n2_ := Aside0.mk (below_step (by repeat (first | (with_reducible first | exact HB.out | apply below_alloc | apply pw_below_drewN | apply below_drew1 | refine below_set ?_ GE679.out | refine below_set ?_ GE684.out) | exact HB.out)) hb); clear BK679; clear BK684; clear HB; have BK679 := n0_; have BK684 := n1_; have HB := n2_; clear n0_ n1_ n2_; (try clear hb); (try clear hb2); (try clear hk); (try clear hi)))
                                  go_ret
                                  exact ⟨by first | rfl | (simp [errW_none, errW_some] <;> rfl) | (simp [*, errW_none, errW_some] <;> rfl), by repeat (first | (with_reducible first | exact HB.out | apply below_alloc | apply pw_below_drewN | apply below_drew1 | refine below_set ?_ GE679.out | refine below_set ?_ GE684.out) | exact HB.out)⟩
                                · rw [if_neg c103] at H
                                  have c103b0 : (t697 == false) = false := by simpa using c103
                                  (try (have c103b1 : decide (t697 = false) = false := by simpa using c103))
                                  (try (have c103b2 : (t697 == false) = false := by simpa using c103))
                                  (try (have c103b3 : ¬ (t697 = false) := by simpa using c103))
                                  clear c103
                                  exact absurd ((Option.some.inj H).trans hr.out) (by decide)
                              · rw [if_neg c101] at H
                                have c101b0 : (t683 == 0) = false := beq_eq_false_iff_ne.mpr c101
                                have c101b1 : (t683 != 0) = true := bne_iff_ne.mpr c101
                                exact absurd ((Option.some.inj H).trans hr.out) (by decide)
                            · rw [if_neg c100] at H
                              have c100b0 : (t678 == 0) = false := beq_eq_false_iff_ne.mpr c100
                              have c100b1 : (t678 != 0) = true := bne_iff_ne.mpr c100
                              exact absurd ((Option.some.inj H).trans hr.out) (by decide)
                      · replace c78 := Bool.eq_false_iff.mpr c78
                        subst c78
                        have H1 : (if t678 = 0 then (if t683 = 0 then ((filter_Lets.f kj15 (wrap64 (1 + (wrap64 (Int.tmod (IntKind.u64.wrap (a2)) 7)))) 1 0 false 0 false ([] : List Int) ([] : List Int) ([] : List Int) ([] : List (S47)) ([] : List Int) ([] : List Int) ([] : List Int) ([] : List Int) ([] : List Int) 1 t665 x1_5).bind fun t699 => (if (t699 == false) = true then ((solsticelaw22_wakes.f kj15).bind fun t700 => (some t700)) else (some false))) else (some false)) else (some false)) = some r := by rw [if_neg (show ¬ (false = true) by decide)] at H; exact H
                        clear H
                        have H := H1
                        clear H1
                        by_cases c120 : t678 = 0
                        · rw [if_pos c120] at H
                          have c120b0 : (t678 == 0) = true := beq_iff_eq.mpr c120
                          have c120b1 : (t678 != 0) = false := bne_eq_false_iff_eq.mpr c120
                          clear c120
                          by_cases c121 : t683 = 0
                          · rw [if_pos c121] at H
                            have c121b0 : (t683 == 0) = true := beq_iff_eq.mpr c121
                            have c121b1 : (t683 != 0) = false := bne_eq_false_iff_eq.mpr c121
                            clear c121
                            replace H := Option.bind_eq_some_iff.mp H
                            obtain ⟨t699, A1220, H⟩ := H
                            replace H : (if (t699 == false) = true then ((solsticelaw22_wakes.f kj15).bind fun t700 => (some t700)) else (some false)) = some r := H
                            have A122 := Aside0.mk A1220
                            clear A1220
                            by_cases c123 : (t699 == false) = true
                            · rw [if_pos c123] at H
                              have c123b0 : (t699 == false) = true := c123
                              (try (have c123b1 : decide (t699 = false) = true := by simpa using c123))
                              (try (have c123b2 : (t699 == false) = true := by simpa using c123))
                              clear c123
                              replace H := Option.bind_eq_some_iff.mp H
                              obtain ⟨t700, A1240, H⟩ := H
                              replace H : (some t700) = some r := H
                              have A124 := Aside0.mk A1240
                              clear A1240
                              obtain rfl := Option.some.inj H
                              go_wp2_with (first | (go_at_call 12; (refine (filter_Lets.calls kj15 (wrap64 (1 + (wrap64 (Int.tmod (IntKind.u64.wrap (a2)) 7)))) 1 0 false 0 false _ _ ([] : List Int) _ _ ([] : List Int) _ _ ([] : List Int) _ _ ([] : List (S47)) _ _ ([] : List Int) _ _ ([] : List Int) _ _ ([] : List Int) _ _ ([] : List Int) _ _ ([] : List Int) 1 t665 x1_5 t699 _ ?side1 ?side2 ?side3 ?side4 ?side5 ?side6 ?side7 ?side8 ?side9 ?side10 ?side11 ?side12 ?side13 ?side14 ?side15 ?side16 ?side17 ?side18 A122.out).mono ?_); (case side1 => exact Kd.C_nil _ _); (case side2 => exact Nat.le_refl _); (case side3 => exact Kd.C_nil _ _); (case side4 => exact Nat.le_refl _); (case side5 => exact Kd.C_nil _ _); (case side6 => exact Nat.le_refl _); (case side7 => exact Kd.C_nil _ _); (case side8 => exact Nat.le_refl _); (case side9 => exact Kd.C_nil _ _); (case side10 => exact Nat.le_refl _); (case side11 => exact Kd.C_nil _ _); (case side12 => exact Nat.le_refl _); (case side13 => exact Kd.C_nil _ _); (case side14 => exact Nat.le_refl _); (case side15 => exact Kd.C_nil _ _); (case side16 => exact Nat.le_refl _); (case side17 => exact Kd.C_nil _ _); (case side18 => exact Nat.le_refl _); rintro e w125 ⟨rfl, hb⟩; have n0_ := Aside0.mk (blk_below (g := gb679) (o := .cells #[.int .i64 t675, .int .i64 t676, .int .i64 t677] 39 (0, 0)) (by (with_reducible repeat (first | refine blk_drewN ?_ _ | refine blk_drew ?_ | refine blk_alloc ?_ _)); exact BK679.out) hb); have n1_ := Aside0.mk (blk_below (g := gb684) (o := .cells #[.int .i64 t680, .int .i64 t681, .int .i64 t682] 39 (0, 0)) (by (with_reducible repeat (first | refine blk_drewN ?_ _ | refine blk_drew ?_ | refine blk_alloc ?_ _)); exact BK684.out) hb); have n2_ := Aside0.mk (below_step (by repeat (first | (with_reducible first | exact HB.out | apply below_alloc | apply pw_below_drewN | apply below_drew1 | refine below_set ?_ GE679.out | refine below_set ?_ GE684.out) | exact HB.out)) hb); clear BK679; clear BK684; clear HB; have BK679 := n0_; have BK684 := n1_; have HB := n2_; clear n0_ n1_ n2_; (try clear hb); (try clear hb2); (try clear hk); (try clear hi)) | (go_at_call 16; (with_reducible refine (solsticelaw22_wakes.calls kj15  t700 _ hr.out A124.out).mono ?_); rintro e w126 ⟨rfl, hb⟩; have n0_ := Aside0.mk (blk_below (g := gb679) (o := .cells #[.int .i64 t675, .int .i64 t676, .int .i64 t677] 39 (0, 0)) (by (with_reducible repeat (first | refine blk_drewN ?_ _ | refine blk_drew ?_ | refine blk_alloc ?_ _)); exact BK679.out) hb); have n1_ := Aside0.mk (blk_below (g := gb684) (o := .cells #[.int .i64 t680, .int .i64 t681, .int .i64 t682] 39 (0, 0)) (by (with_reducible repeat (first | refine blk_drewN ?_ _ | refine blk_drew ?_ | refine blk_alloc ?_ _)); exact BK684.out) hb); have n2_ := Aside0.mk (below_step (by repeat (first | (with_reducible first | exact HB.out | apply below_alloc | apply pw_below_drewN | apply below_drew1 | refine below_set ?_ GE679.out | refine below_set ?_ GE684.out) | exact HB.out)) hb); clear BK679; clear BK684; clear HB; have BK679 := n0_; have BK684 := n1_; have HB := n2_; clear n0_ n1_ n2_; (try clear hb); (try clear hb2); (try clear hk); (try clear hi)))
                              go_ret
                              exact ⟨by first | rfl | (simp [errW_none, errW_some] <;> rfl) | (simp [*, errW_none, errW_some] <;> rfl), by repeat (first | (with_reducible first | exact HB.out | apply below_alloc | apply pw_below_drewN | apply below_drew1 | refine below_set ?_ GE679.out | refine below_set ?_ GE684.out) | exact HB.out)⟩
                            · rw [if_neg c123] at H
                              have c123b0 : (t699 == false) = false := by simpa using c123
                              (try (have c123b1 : decide (t699 = false) = false := by simpa using c123))
                              (try (have c123b2 : (t699 == false) = false := by simpa using c123))
                              (try (have c123b3 : ¬ (t699 = false) := by simpa using c123))
                              clear c123
                              exact absurd ((Option.some.inj H).trans hr.out) (by decide)
                          · rw [if_neg c121] at H
                            have c121b0 : (t683 == 0) = false := beq_eq_false_iff_ne.mpr c121
                            have c121b1 : (t683 != 0) = true := bne_iff_ne.mpr c121
                            exact absurd ((Option.some.inj H).trans hr.out) (by decide)
                        · rw [if_neg c120] at H
                          have c120b0 : (t678 == 0) = false := beq_eq_false_iff_ne.mpr c120
                          have c120b1 : (t678 != 0) = true := bne_iff_ne.mpr c120
                          exact absurd ((Option.some.inj H).trans hr.out) (by decide)
                  · rw [if_neg c77] at H
                    have c77b0 : ((wrap64 (1 + (wrap64 (Int.tmod (IntKind.u64.wrap (a2)) 7)))) == 7) = false := beq_eq_false_iff_ne.mpr c77
                    have c77b1 : ((wrap64 (1 + (wrap64 (Int.tmod (IntKind.u64.wrap (a2)) 7)))) != 7) = true := bne_iff_ne.mpr c77
                    by_cases c128 : t678 = 0
                    · rw [if_pos c128] at H
                      have c128b0 : (t678 == 0) = true := beq_iff_eq.mpr c128
                      have c128b1 : (t678 != 0) = false := bne_eq_false_iff_eq.mpr c128
                      clear c128
                      by_cases c129 : t683 = 0
                      · rw [if_pos c129] at H
                        have c129b0 : (t683 == 0) = true := beq_iff_eq.mpr c129
                        have c129b1 : (t683 != 0) = false := bne_eq_false_iff_eq.mpr c129
                        clear c129
                        replace H := Option.bind_eq_some_iff.mp H
                        obtain ⟨t701, A1300, H⟩ := H
                        replace H : (if (t701 == x19_15) = true then ((solsticelaw22_wakes.f kj15).bind fun t702 => (some t702)) else (some false)) = some r := H
                        have A130 := Aside0.mk A1300
                        clear A1300
                        by_cases c131 : (t701 == x19_15) = true
                        · rw [if_pos c131] at H
                          have c131b0 : (t701 == x19_15) = true := c131
                          (try (have c131b1 : decide (t701 = x19_15) = true := by simpa using c131))
                          (try (have c131b2 : (t701 == x19_15) = true := by simpa using c131))
                          clear c131
                          replace H := Option.bind_eq_some_iff.mp H
                          obtain ⟨t702, A1320, H⟩ := H
                          replace H : (some t702) = some r := H
                          have A132 := Aside0.mk A1320
                          clear A1320
                          obtain rfl := Option.some.inj H
                          go_wp2_with (first | (go_at_call 12; (refine (filter_Lets.calls kj15 (wrap64 (1 + (wrap64 (Int.tmod (IntKind.u64.wrap (a2)) 7)))) 1 0 false 0 false _ _ ([] : List Int) _ _ ([] : List Int) _ _ ([] : List Int) _ _ ([] : List (S47)) _ _ ([] : List Int) _ _ ([] : List Int) _ _ ([] : List Int) _ _ ([] : List Int) _ _ ([] : List Int) 1 t665 x1_5 t701 _ ?side1 ?side2 ?side3 ?side4 ?side5 ?side6 ?side7 ?side8 ?side9 ?side10 ?side11 ?side12 ?side13 ?side14 ?side15 ?side16 ?side17 ?side18 A130.out).mono ?_); (case side1 => exact Kd.C_nil _ _); (case side2 => exact Nat.le_refl _); (case side3 => exact Kd.C_nil _ _); (case side4 => exact Nat.le_refl _); (case side5 => exact Kd.C_nil _ _); (case side6 => exact Nat.le_refl _); (case side7 => exact Kd.C_nil _ _); (case side8 => exact Nat.le_refl _); (case side9 => exact Kd.C_nil _ _); (case side10 => exact Nat.le_refl _); (case side11 => exact Kd.C_nil _ _); (case side12 => exact Nat.le_refl _); (case side13 => exact Kd.C_nil _ _); (case side14 => exact Nat.le_refl _); (case side15 => exact Kd.C_nil _ _); (case side16 => exact Nat.le_refl _); (case side17 => exact Kd.C_nil _ _); (case side18 => exact Nat.le_refl _); rintro e w133 ⟨rfl, hb⟩; have n0_ := Aside0.mk (blk_below (g := gb679) (o := .cells #[.int .i64 t675, .int .i64 t676, .int .i64 t677] 39 (0, 0)) (by (with_reducible repeat (first | refine blk_drewN ?_ _ | refine blk_drew ?_ | refine blk_alloc ?_ _)); exact BK679.out) hb); have n1_ := Aside0.mk (blk_below (g := gb684) (o := .cells #[.int .i64 t680, .int .i64 t681, .int .i64 t682] 39 (0, 0)) (by (with_reducible repeat (first | refine blk_drewN ?_ _ | refine blk_drew ?_ | refine blk_alloc ?_ _)); exact BK684.out) hb); have n2_ := Aside0.mk (below_step (by repeat (first | (with_reducible first | exact HB.out | apply below_alloc | apply pw_below_drewN | apply below_drew1 | refine below_set ?_ GE679.out | refine below_set ?_ GE684.out) | exact HB.out)) hb); clear BK679; clear BK684; clear HB; have BK679 := n0_; have BK684 := n1_; have HB := n2_; clear n0_ n1_ n2_; (try clear hb); (try clear hb2); (try clear hk); (try clear hi)) | (go_at_call 16; (with_reducible refine (solsticelaw22_wakes.calls kj15  t702 _ hr.out A132.out).mono ?_); rintro e w134 ⟨rfl, hb⟩; have n0_ := Aside0.mk (blk_below (g := gb679) (o := .cells #[.int .i64 t675, .int .i64 t676, .int .i64 t677] 39 (0, 0)) (by (with_reducible repeat (first | refine blk_drewN ?_ _ | refine blk_drew ?_ | refine blk_alloc ?_ _)); exact BK679.out) hb); have n1_ := Aside0.mk (blk_below (g := gb684) (o := .cells #[.int .i64 t680, .int .i64 t681, .int .i64 t682] 39 (0, 0)) (by (with_reducible repeat (first | refine blk_drewN ?_ _ | refine blk_drew ?_ | refine blk_alloc ?_ _)); exact BK684.out) hb); have n2_ := Aside0.mk (below_step (by repeat (first | (with_reducible first | exact HB.out | apply below_alloc | apply pw_below_drewN | apply below_drew1 | refine below_set ?_ GE679.out | refine below_set ?_ GE684.out) | exact HB.out)) hb); clear BK679; clear BK684; clear HB; have BK679 := n0_; have BK684 := n1_; have HB := n2_; clear n0_ n1_ n2_; (try clear hb); (try clear hb2); (try clear hk); (try clear hi)))
                          go_ret
                          exact ⟨by first | rfl | (simp [errW_none, errW_some] <;> rfl) | (simp [*, errW_none, errW_some] <;> rfl), by repeat (first | (with_reducible first | exact HB.out | apply below_alloc | apply pw_below_drewN | apply below_drew1 | refine below_set ?_ GE679.out | refine below_set ?_ GE684.out) | exact HB.out)⟩
                        · rw [if_neg c131] at H
                          have c131b0 : (t701 == x19_15) = false := by simpa using c131
                          (try (have c131b1 : decide (t701 = x19_15) = false := by simpa using c131))
                          (try (have c131b2 : (t701 == x19_15) = false := by simpa using c131))
                          (try (have c131b3 : ¬ (t701 = x19_15) := by simpa using c131))
                          clear c131
                          exact absurd ((Option.some.inj H).trans hr.out) (by decide)
                      · rw [if_neg c129] at H
                        have c129b0 : (t683 == 0) = false := beq_eq_false_iff_ne.mpr c129
                        have c129b1 : (t683 != 0) = true := bne_iff_ne.mpr c129
                        obtain rfl := Option.some.inj H
                        go_wp2
                        go_ret
                        exact ⟨by first | rfl | (simp [errW_none, errW_some] <;> rfl) | (simp [*, errW_none, errW_some] <;> rfl), by repeat (first | (with_reducible first | exact HB.out | apply below_alloc | apply pw_below_drewN | apply below_drew1 | refine below_set ?_ GE679.out | refine below_set ?_ GE684.out) | exact HB.out)⟩
                    · rw [if_neg c128] at H
                      have c128b0 : (t678 == 0) = false := beq_eq_false_iff_ne.mpr c128
                      have c128b1 : (t678 != 0) = true := bne_iff_ne.mpr c128
                      obtain rfl := Option.some.inj H
                      go_wp2
                      go_ret
                      exact ⟨by first | rfl | (simp [errW_none, errW_some] <;> rfl) | (simp [*, errW_none, errW_some] <;> rfl), by repeat (first | (with_reducible first | exact HB.out | apply below_alloc | apply pw_below_drewN | apply below_drew1 | refine below_set ?_ GE679.out | refine below_set ?_ GE684.out) | exact HB.out)⟩

/-- THE ONE PURE STATEMENT of solsticelaw22_FilterStarts: yours. -/
def solsticelaw22_FilterStarts.Pure : Prop := ∀ (a0 : Int) (a1 : Int) (a2 : Int), (Lit.int .i64 a0).wf = true → (Lit.int .i64 a1).wf = true → (Lit.int .i64 a2).wf = true → ∃ k, solsticelaw22_FilterStarts.f k a0 a1 a2 = some true
theorem solsticelaw22_FilterStarts.walk (P : solsticelaw22_FilterStarts.Pure) (a0 : Int) (a1 : Int) (a2 : Int) (w : World) (w0 : (Lit.int .i64 a0).wf = true) (w1 : (Lit.int .i64 a1).wf = true) (w2 : (Lit.int .i64 a2).wf = true) :
    Calls Try.prog 7 #[.int .i64 a0, .int .i64 a1, .int .i64 a2] w fun e w' => e = .returned (.bool true) ∧ Below w.heap.size w w' := by
  obtain ⟨k, h⟩ := P a0 a1 a2 w0 w1 w2
  refine (solsticelaw22_FilterStarts.calls k a0 a1 a2 true w rfl h).mono ?_
  rintro e w' ⟨rfl, hd⟩
  exact ⟨rfl, hd⟩

end Go.Proofs.Ytmhpmkbifhgnbaa.O
