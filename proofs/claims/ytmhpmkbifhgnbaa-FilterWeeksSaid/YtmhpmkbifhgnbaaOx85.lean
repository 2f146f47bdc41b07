-- What wakes of the statements of layer 22 computes, where it is true: a text of this claim's own.
import Derived.Test.YtmhpmkbifhgnbaaOx36
import Derived.Test.YtmhpmkbifhgnbaaOx48
import Derived.Test.YtmhpmkbifhgnbaaOx50
import Derived.Test.YtmhpmkbifhgnbaaOx0
import Derived.Test.YtmhpmkbifhgnbaaOx25
import Derived.Test.YtmhpmkbifhgnbaaOx30
import Derived.Test.YtmhpmkbifhgnbaaOx33
import Derived.Test.YtmhpmkbifhgnbaaOx8
import Derived.Test.YtmhpmkbifhgnbaaOx79
namespace Go.Proofs.Ytmhpmkbifhgnbaa.O
section
open Go.RowKit Go.Proofs.YtmhpmkbifhgnbaaW.PrintWords Go.Proofs.YtmhpmkbifhgnbaaW.PrintLast Go.Proofs.YtmhpmkbifhgnbaaW.PrintMore
set_option linter.unusedVariables false
set_option linter.unusedSimpArgs false
def solsticelaw22_wakes.f (k : Nat)  : Option (Bool) := (some (([(⟨0, 5⟩ : S47)] : List (S47)) : List (S47))).bind fun y383 => ((filter_Period.f k 5 1 0 false 0 false ([] : List Int) ([] : List Int) ([] : List Int) y383 ([] : List Int) ([] : List Int) ([] : List Int) ([] : List Int) ([] : List Int) 1 0).bind fun bt387 => ((filter_Span.f k 5 1 0 false 0 false ([] : List Int) ([] : List Int) ([] : List Int) y383 ([] : List Int) ([] : List Int) ([] : List Int) ([] : List Int) ([] : List Int) 1 bt387.1).bind fun bt389 => (if bt387.2 = 0 then (if bt389.2.2 = 0 then (if (wrap64 (bt389.2.1 - bt389.1)) = 604799 then ((filter_Lets.f k 5 1 0 false 0 false ([] : List Int) ([] : List Int) ([] : List Int) y383 ([] : List Int) ([] : List Int) ([] : List Int) ([] : List Int) ([] : List Int) 1 0 86400).bind fun t392 => (if t392 = true then ((filter_Lets.f k 5 1 0 false 0 false ([] : List Int) ([] : List Int) ([] : List Int) y383 ([] : List Int) ([] : List Int) ([] : List Int) ([] : List Int) ([] : List Int) 1 0 0).bind fun t393 => (if t393 = true then (some false) else ((filter_Lets.f k 5 1 0 false 0 false ([] : List Int) ([] : List Int) ([] : List Int) y383 ([] : List Int) ([] : List Int) ([] : List Int) ([] : List Int) ([] : List Int) 1 0 86401).bind fun t394 => (some (!t394))))) else (some false))) else (some false)) else (some false)) else (some false))))
theorem solsticelaw22_wakes.mono : ∀ k, LeO (solsticelaw22_wakes.f k ) (solsticelaw22_wakes.f (k + 1) ) := by
  intro  k
  unfold solsticelaw22_wakes.f
  repeat' first
      | (with_reducible exact filter_Lets.mono _ _ _ _ _ _ _ _ _ _ _ _ _ _ _ _ _ _ _)
      | (with_reducible exact filter_Period.mono _ _ _ _ _ _ _ _ _ _ _ _ _ _ _ _ _ _)
      | (with_reducible exact filter_Span.mono _ _ _ _ _ _ _ _ _ _ _ _ _ _ _ _ _ _)
      | (with_reducible exact LeO.refl _)
      | (with_reducible exact LeO.none _)
      | (with_reducible refine LeO.ite ?_ ?_)
      | (with_reducible refine LeO.bind ?_ (fun _ => ?_))
      | exact filter_Lets.mono _ _ _ _ _ _ _ _ _ _ _ _ _ _ _ _ _ _ _
      | exact filter_Period.mono _ _ _ _ _ _ _ _ _ _ _ _ _ _ _ _ _ _
      | exact filter_Span.mono _ _ _ _ _ _ _ _ _ _ _ _ _ _ _ _ _ _
      | exact LeO.none _
      | refine LeO.ite ?_ ?_
      | refine LeO.bind ?_ (fun _ => ?_)
theorem C_nil {α : Type} (d : Kd α) (w : World) (A : Option Addr) : Kd.C d w A 0 [] := ⟨rfl, by omega, fun h => absurd h (Nat.lt_irrefl 0)⟩
theorem C_one47 {w : World} {g : Nat} (x : S47) (h : w.heap[g]? = some (.cells #[.int .i64 x.f0, .int .i64 x.f1] 47 (0, 0))) : Kd.C k47 w (some ⟨g, 0, none⟩) 1 [x] := by
  refine ⟨rfl, by omega, fun _ => ⟨_, rfl, fun j p hp => ?_⟩⟩
  match j, hp with
  | 0, hp =>
    obtain rfl : x = p := by simpa using hp
    refine ⟨_, rfl, k47_mk _ _, fun i u hu => ?_⟩
    have e : (⟨g, 0, none⟩ : Addr).add (0 * k47.sz + i) = ⟨g, i, none⟩ := by simp [Addr.add]; try (intro h; exact h.symm)
    rw [e]
    exact (blk_cell h i).trans (by simpa using hu)
  | j + 1, hp => simp at hp
set_option maxHeartbeats 8000000 in
set_option maxRecDepth 100000 in
theorem solsticelaw22_wakes.calls (k : Nat) (r : Bool) (w : World) (hr0 : r = true) (h : solsticelaw22_wakes.f k = some r) :
    Calls Try.prog 16 #[] w fun e w' => e = .returned (.bool r) ∧ Below w.heap.size w w' := by
  subst hr0
  have H := h
  clear h
  unfold solsticelaw22_wakes.f at H
  rw [Option.bind_some] at H
  obtain ⟨⟨r1, r2⟩, h1, H⟩ := Option.bind_eq_some_iff.mp H
  obtain ⟨⟨s1, s2, s3⟩, h2, H⟩ := Option.bind_eq_some_iff.mp H
  dsimp only at H h2
  by_cases c1 : r2 = 0
  · by_cases c2 : s3 = 0
    · by_cases c3 : wrap64 (s2 - s1) = 604799
      · rw [if_pos c1, if_pos c2, if_pos c3] at H
        obtain ⟨t1, h3, H⟩ := Option.bind_eq_some_iff.mp H
        cases t1 with
        | false => simp at H
        | true =>
          rw [if_pos rfl] at H
          obtain ⟨t2, h4, H⟩ := Option.bind_eq_some_iff.mp H
          cases t2 with
          | true => simp at H
          | false =>
            rw [if_neg (by decide)] at H
            obtain ⟨t3, h5, H⟩ := Option.bind_eq_some_iff.mp H
            cases t3 with
            | true => simp at H
            | false =>
              clear H
              subst c1 c2
              have c3b : (wrap64 (s2 - s1) == 604799) = true := beq_iff_eq.mpr c3
              clear c3
              have H1 := Aside0.mk h1
              have H2 := Aside0.mk h2
              have H3 := Aside0.mk h3
              have H4 := Aside0.mk h4
              have H5 := Aside0.mk h5
              clear h1 h2 h3 h4 h5
              have hu47 := Try.underlying47
              have hu25 := Try.underlying25
              go_enter Try.func16, Try.ntmps16
              go_upto_region 2 with (fail)
              refine wp_abs (fun W => W.heap[w.heap.size + 1]? = some (.cells #[.int .i64 5, .int .i64 1, .int .i64 0, .bool false, .int .i64 0, .bool false, .slice none 0 0, .slice none 0 0, .slice none 0 0, .slice (some ⟨w.heap.size, 0, none⟩) 1 1, .slice none 0 0, .slice none 0 0, .slice none 0 0, .slice none 0 0, .slice none 0 0, .int .i64 1] 25 (0, 0)) ∧ Kd.C k47 W (some ⟨w.heap.size, 0, none⟩) 1 [⟨0, 5⟩] ∧ Below w.heap.size w W) ⟨?_, ?_, ?_⟩ ?_
              · exact (by simp : ((w.alloc (.cells #[.int .i64 0, .int .i64 5] 47)).heap.size = w.heap.size + 1)) ▸ blk_new (w.alloc (.cells #[.int .i64 0, .int .i64 5] 47)) _
              · exact Kd.C_below (C_one47 ⟨0, 5⟩ (blk_new w _)) (below_alloc (Below.refl _ _) _)
              · exact below_alloc (below_alloc (Below.refl _ _) _) _
              rintro W ⟨b1, b2, b3⟩
              have K1 := Aside0.mk b1
              have L1 := Aside0.mk b2
              have B1 := Aside0.mk b3
              have D1 := Aside0.mk (Below.refl W.heap.size W)
              clear b1 b2 b3
              go_wp2_with (first
                | ((with_reducible refine gate_dst (N := 11) rfl ?_); refine Kd.event_run (w1 := W) (v := .agg #[.int .i64 5, .int .i64 1, .int .i64 0, .bool false, .int .i64 0, .bool false, .slice none 0 0, .slice none 0 0, .slice none 0 0, .slice (some ⟨w.heap.size, 0, none⟩) 1 1, .slice none 0 0, .slice none 0 0, .slice none 0 0, .slice none 0 0, .slice none 0 0, .int .i64 1]) ?hg2 ?hr2 ?_; (case hg2 => rfl); (case hr2 => exact exec25 K1.out rfl rfl rfl))
                | (go_at_call 11; refine (filter_Period.calls k 5 1 0 false 0 false none 0 [] none 0 [] none 0 [] (some ⟨w.heap.size, 0, none⟩) 1 [⟨0, 5⟩] none 0 [] none 0 [] none 0 [] none 0 [] none 0 [] 1 0 r1 0 W (C_nil _ _ _) (by decide) (C_nil _ _ _) (by decide) (C_nil _ _ _) (by decide) (Kd.C_below L1.out D1.out) (by decide) (C_nil _ _ _) (by decide) (C_nil _ _ _) (by decide) (C_nil _ _ _) (by decide) (C_nil _ _ _) (by decide) (C_nil _ _ _) (by decide) H1.out).mono ?_; rintro e w2 ⟨rfl, hb⟩; have B2 := Aside0.mk (below_then B1.out B1.out.size hb); have D2 := Aside0.mk (below_then D1.out D1.out.size hb); have K2 := Aside0.mk ((hb.block _ (blk_lt K1.out)).trans K1.out); clear hb B1 D1 K1)
                | ((with_reducible refine gate_dst (N := 16) rfl ?_); refine Kd.event_run (w1 := w2) (v := .agg #[.int .i64 5, .int .i64 1, .int .i64 0, .bool false, .int .i64 0, .bool false, .slice none 0 0, .slice none 0 0, .slice none 0 0, .slice (some ⟨w.heap.size, 0, none⟩) 1 1, .slice none 0 0, .slice none 0 0, .slice none 0 0, .slice none 0 0, .slice none 0 0, .int .i64 1]) ?hg2 ?hr2 ?_; (case hg2 => rfl); (case hr2 => exact exec25 K2.out rfl rfl rfl))
                | (go_at_call 13; refine (filter_Span.calls k 5 1 0 false 0 false none 0 [] none 0 [] none 0 [] (some ⟨w.heap.size, 0, none⟩) 1 [⟨0, 5⟩] none 0 [] none 0 [] none 0 [] none 0 [] none 0 [] 1 r1 s1 s2 0 w2 (C_nil _ _ _) (by decide) (C_nil _ _ _) (by decide) (C_nil _ _ _) (by decide) (Kd.C_below L1.out D2.out) (by decide) (C_nil _ _ _) (by decide) (C_nil _ _ _) (by decide) (C_nil _ _ _) (by decide) (C_nil _ _ _) (by decide) (C_nil _ _ _) (by decide) H2.out).mono ?_; rintro e w3 ⟨rfl, hb⟩; have B3 := Aside0.mk (below_then B2.out B2.out.size hb); have D3 := Aside0.mk (below_then D2.out D2.out.size hb); have K3 := Aside0.mk ((hb.block _ (blk_lt K2.out)).trans K2.out); clear hb B2 D2 K2)
                | ((with_reducible refine gate_dst (N := 35) rfl ?_); (refine gate_guard (by rfl) ?_; dsimp only); refine Kd.event_run (w1 := w3) (v := .agg #[.int .i64 5, .int .i64 1, .int .i64 0, .bool false, .int .i64 0, .bool false, .slice none 0 0, .slice none 0 0, .slice none 0 0, .slice (some ⟨w.heap.size, 0, none⟩) 1 1, .slice none 0 0, .slice none 0 0, .slice none 0 0, .slice none 0 0, .slice none 0 0, .int .i64 1]) ?hg2 ?hr2 ?_; (case hg2 => rfl); (case hr2 => exact exec25 K3.out rfl rfl rfl))
                | (go_at_call 12; refine (filter_Lets.calls k 5 1 0 false 0 false none 0 [] none 0 [] none 0 [] (some ⟨w.heap.size, 0, none⟩) 1 [⟨0, 5⟩] none 0 [] none 0 [] none 0 [] none 0 [] none 0 [] 1 0 86400 true w3 (C_nil _ _ _) (by decide) (C_nil _ _ _) (by decide) (C_nil _ _ _) (by decide) (Kd.C_below L1.out D3.out) (by decide) (C_nil _ _ _) (by decide) (C_nil _ _ _) (by decide) (C_nil _ _ _) (by decide) (C_nil _ _ _) (by decide) (C_nil _ _ _) (by decide) H3.out).mono ?_; rintro e w4 ⟨rfl, hb⟩; have B4 := Aside0.mk (below_then B3.out B3.out.size hb); have D4 := Aside0.mk (below_then D3.out D3.out.size hb); have K4 := Aside0.mk ((hb.block _ (blk_lt K3.out)).trans K3.out); clear hb B3 D3 K3)
                | ((with_reducible refine gate_dst (N := 39) rfl ?_); (refine gate_guard (by rfl) ?_; dsimp only); refine Kd.event_run (w1 := w4) (v := .agg #[.int .i64 5, .int .i64 1, .int .i64 0, .bool false, .int .i64 0, .bool false, .slice none 0 0, .slice none 0 0, .slice none 0 0, .slice (some ⟨w.heap.size, 0, none⟩) 1 1, .slice none 0 0, .slice none 0 0, .slice none 0 0, .slice none 0 0, .slice none 0 0, .int .i64 1]) ?hg2 ?hr2 ?_; (case hg2 => rfl); (case hr2 => exact exec25 K4.out rfl rfl rfl))
                | (go_at_call 12; refine (filter_Lets.calls k 5 1 0 false 0 false none 0 [] none 0 [] none 0 [] (some ⟨w.heap.size, 0, none⟩) 1 [⟨0, 5⟩] none 0 [] none 0 [] none 0 [] none 0 [] none 0 [] 1 0 0 false w4 (C_nil _ _ _) (by decide) (C_nil _ _ _) (by decide) (C_nil _ _ _) (by decide) (Kd.C_below L1.out D4.out) (by decide) (C_nil _ _ _) (by decide) (C_nil _ _ _) (by decide) (C_nil _ _ _) (by decide) (C_nil _ _ _) (by decide) (C_nil _ _ _) (by decide) H4.out).mono ?_; rintro e w5 ⟨rfl, hb⟩; have B5 := Aside0.mk (below_then B4.out B4.out.size hb); have D5 := Aside0.mk (below_then D4.out D4.out.size hb); have K5 := Aside0.mk ((hb.block _ (blk_lt K4.out)).trans K4.out); clear hb B4 D4 K4)
                | ((with_reducible refine gate_dst (N := 44) rfl ?_); (refine gate_guard (by rfl) ?_; dsimp only); refine Kd.event_run (w1 := w5) (v := .agg #[.int .i64 5, .int .i64 1, .int .i64 0, .bool false, .int .i64 0, .bool false, .slice none 0 0, .slice none 0 0, .slice none 0 0, .slice (some ⟨w.heap.size, 0, none⟩) 1 1, .slice none 0 0, .slice none 0 0, .slice none 0 0, .slice none 0 0, .slice none 0 0, .int .i64 1]) ?hg2 ?hr2 ?_; (case hg2 => rfl); (case hr2 => exact exec25 K5.out rfl rfl rfl))
                | (go_at_call 12; refine (filter_Lets.calls k 5 1 0 false 0 false none 0 [] none 0 [] none 0 [] (some ⟨w.heap.size, 0, none⟩) 1 [⟨0, 5⟩] none 0 [] none 0 [] none 0 [] none 0 [] none 0 [] 1 0 86401 false w5 (C_nil _ _ _) (by decide) (C_nil _ _ _) (by decide) (C_nil _ _ _) (by decide) (Kd.C_below L1.out D5.out) (by decide) (C_nil _ _ _) (by decide) (C_nil _ _ _) (by decide) (C_nil _ _ _) (by decide) (C_nil _ _ _) (by decide) (C_nil _ _ _) (by decide) H5.out).mono ?_; rintro e w6 ⟨rfl, hb⟩; have B6 := Aside0.mk (below_then B5.out B5.out.size hb); have D6 := Aside0.mk (below_then D5.out D5.out.size hb); have K6 := Aside0.mk ((hb.block _ (blk_lt K5.out)).trans K5.out); clear hb B5 D5 K5))
              go_ret
              exact ⟨by first | rfl | simp, B6.out⟩
      · rw [if_pos c1, if_pos c2, if_neg c3] at H
        cases H
    · rw [if_pos c1, if_neg c2] at H
      cases H
  · rw [if_neg c1] at H
    cases H
end
section
open Go.RowKit Go.Proofs.YtmhpmkbifhgnbaaW.PrintWords Go.Proofs.YtmhpmkbifhgnbaaW.PrintLast Go.Proofs.YtmhpmkbifhgnbaaW.PrintMore
attribute [local go_sem] max2_int min2_int max_two min_two max_three min_three max_four min_four   -- for this text's walks alone
set_option linter.unusedVariables false
set_option linter.unusedSimpArgs false

/-! ### week_Weeks: function 31 -/
def week_Weeks.j0 : Nat → Int → Int → Bool → Option (Int × Int)
  | 0, _, _, _ => none
  | k + 1, x0, x1, x15 => if x15 = true then (some (0, 23)) else ((civil_Number.f k x0 12 28).bind fun bt704 => ((week_No.f k bt704.1 x1).bind fun bt706 => (some (bt706.2.1, 0))))
def week_Weeks.f (k : Nat) (a0 : Int) (a1 : Int) : Option (Int × Int) := (week_weekday.f a1).bind fun t703 => (if t703 = true then (if a0 < 1 then (week_Weeks.j0 k a0 a1 true) else (week_Weeks.j0 k a0 a1 (decide (a0 > 9999)))) else (some (0, 1)))
theorem week_Weeks.mono_l : ∀ k, (∀ y0 y1 y2, LeO (week_Weeks.j0 k y0 y1 y2) (week_Weeks.j0 (k + 1) y0 y1 y2))
  | 0 => fun _ _ _ r h => by simp [week_Weeks.j0] at h
  | k + 1 => by
    have ih0 := week_Weeks.mono_l k
    · intro y0 y1 y2
      unfold week_Weeks.j0
      repeat' first
      | (with_reducible exact ih0 _ _ _)
      | (with_reducible exact civil_Number.mono _ _ _ _)
      | (with_reducible exact week_No.mono _ _ _)
      | (with_reducible exact LeO.refl _)
      | (with_reducible exact LeO.none _)
      | (with_reducible refine LeO.ite ?_ ?_)
      | (with_reducible refine LeO.bind ?_ (fun _ => ?_))
      | exact ih0 _ _ _
      | exact civil_Number.mono _ _ _ _
      | exact week_No.mono _ _ _
      | exact LeO.none _
      | refine LeO.ite ?_ ?_
      | refine LeO.bind ?_ (fun _ => ?_)
theorem week_Weeks.mono : ∀ a0 a1 k, LeO (week_Weeks.f k a0 a1) (week_Weeks.f (k + 1) a0 a1) := by
  intro a0 a1 k
  have ih0 := week_Weeks.mono_l k
  unfold week_Weeks.f
  repeat' first
      | (with_reducible exact ih0 _ _ _)
      | (with_reducible exact civil_Number.mono _ _ _ _)
      | (with_reducible exact week_No.mono _ _ _)
      | (with_reducible exact LeO.refl _)
      | (with_reducible exact LeO.none _)
      | (with_reducible refine LeO.ite ?_ ?_)
      | (with_reducible refine LeO.bind ?_ (fun _ => ?_))
      | exact ih0 _ _ _
      | exact civil_Number.mono _ _ _ _
      | exact week_No.mono _ _ _
      | exact LeO.none _
      | refine LeO.ite ?_ ?_
      | refine LeO.bind ?_ (fun _ => ?_)
set_option maxHeartbeats 8000000 in
set_option maxRecDepth 100000 in
theorem week_Weeks.calls (k : Nat) (a0 : Int) (a1 : Int) (r1 : Int) (r2 : Int) (w : World) (h : week_Weeks.f k a0 a1 = some (r1, r2)) :
    Calls Try.prog 31 #[.int .i64 a0, .int .i64 a1] w fun e w' => e = .returned (.tuple #[.int .i64 r1, .int .i64 r2]) ∧ Below w.heap.size w w' := by
  have hu39 := Try.underlying39
  have HB := Aside0.mk (Below.refl w.heap.size w)
  have H : ((week_weekday.f a1).bind fun t703 => (if t703 = true then (if a0 < 1 then (week_Weeks.j0 k a0 a1 true) else (week_Weeks.j0 k a0 a1 (decide (a0 > 9999)))) else (some (0, 1)))) = some (r1, r2) := h
  clear h
  replace H := Option.bind_eq_some_iff.mp H
  obtain ⟨t703, A30, H⟩ := H
  replace H : (if t703 = true then (if a0 < 1 then (week_Weeks.j0 k a0 a1 true) else (week_Weeks.j0 k a0 a1 (decide (a0 > 9999)))) else (some (0, 1))) = some (r1, r2) := H
  have A3 := Aside0.mk A30
  clear A30
  by_cases c4 : t703 = true
  · subst c4
    have H1 : (if a0 < 1 then (week_Weeks.j0 k a0 a1 true) else (week_Weeks.j0 k a0 a1 (decide (a0 > 9999)))) = some (r1, r2) := by rw [if_pos rfl] at H; exact H
    clear H
    have H := H1
    clear H1
    have HC5 := Aside0.mk H
    clear H
    go_enter Try.func31, Try.ntmps31
    go_upto_region 3 with (first | ((with_reducible refine gate_callee (f := 56) rfl ?_); refine goesL_ (some 13) rfl rfl Try.func56 (by kernel_rfl) rfl #[.int .i64 a1] rfl (by (try simp only [List.map_toArray, List.map_cons, List.map_nil]); first | done | rfl | (simp only [List.length_drop, List.length_take]; rfl)) ?_; (with_reducible refine (week_weekday.calls a1 true _ A3.out).mono ?_); rintro e w' ⟨rfl, ⟨nd, rfl⟩⟩; refine ⟨_, rfl, ?_⟩))
    (try simp only [Act.put, List.setIfInBounds_toArray, List.set_cons_zero, List.set_cons_succ])
    go_cut [15] (fun v15 wc => ∃ (kq : Nat) (x15_4 : Bool), v15 = .bool x15_4 ∧ Aside0 (week_Weeks.j0 kq a0 a1 x15_4 = some (r1, r2)) ∧ Aside0 (kq ≤ k) ∧ Aside0 (Below w.heap.size w wc))
    case first =>
      have H := HC5.out
      clear HC5
      by_cases c6 : a0 < 1
      · rw [if_pos c6] at H
        have c6b0 : decide (a0 < 1) = true := decide_eq_true c6
        clear c6
        (first | rw [c6b0] | (simp only [i64_w, i32_w]; rw [c6b0]) | skip)
        have H' := Aside0.mk H
        clear H
        go_wp2
        go_meet
        case rel => exact ⟨_, (true), (by first | rfl | (simp; done) | (simp [*]; done)), H', ⟨by first | omega | exact Nat.le_refl _⟩, ⟨by repeat (first | (with_reducible first | exact HB.out | apply below_alloc | apply pw_below_drewN | apply below_drew1) | exact HB.out)⟩⟩
      · rw [if_neg c6] at H
        have c6b0 : decide (a0 < 1) = false := decide_eq_false c6
        clear c6
        (first | rw [c6b0] | (simp only [i64_w, i32_w]; rw [c6b0]) | skip)
        have H' := Aside0.mk H
        clear H
        go_wp2
        go_meet
        case rel => exact ⟨_, (decide (a0 > 9999)), (by first | rfl | (simp; done) | (simp [*]; done)), H', ⟨by first | omega | exact Nat.le_refl _⟩, ⟨by repeat (first | (with_reducible first | exact HB.out | apply below_alloc | apply pw_below_drewN | apply below_drew1) | exact HB.out)⟩⟩
    case rest =>
      clear HC5
      try clear p2
      try clear c3
      try clear c4
      try clear c5
      try clear c6
      try clear c6b0
      obtain ⟨kq, x15_4, rfl, HA, HJ4, HB⟩ := hcut
      cases kq with
      | zero => exact absurd HA.out (by simp [week_Weeks.j0])
      | succ kj4 =>
        have H := HA.out
        clear HA
        simp only [week_Weeks.j0] at H
        by_cases c7 : x15_4 = true
        · subst c7
          have H1 : (some (0, 23)) = some (r1, r2) := by rw [if_pos rfl] at H; exact H
          clear H
          have H := H1
          clear H1
          simp only [Option.some.injEq, Prod.mk.injEq] at H
          obtain ⟨rfl, rfl⟩ := H
          go_wp2
          go_ret2
          exact ⟨by first | rfl | (simp [errW_none, errW_some] <;> rfl) | (simp [*, errW_none, errW_some] <;> rfl), by repeat (first | (with_reducible first | exact HB.out | apply below_alloc | apply pw_below_drewN | apply below_drew1) | exact HB.out)⟩
        · replace c7 := Bool.eq_false_iff.mpr c7
          subst c7
          have H1 : ((civil_Number.f kj4 a0 12 28).bind fun bt704 => ((week_No.f kj4 bt704.1 a1).bind fun bt706 => (some (bt706.2.1, 0)))) = some (r1, r2) := by rw [if_neg (show ¬ (false = true) by decide)] at H; exact H
          clear H
          have H := H1
          clear H1
          replace H := Option.bind_eq_some_iff.mp H
          obtain ⟨⟨t704, t705⟩, A80, H⟩ := H
          replace H : ((week_No.f kj4 t704 a1).bind fun bt706 => (some (bt706.2.1, 0))) = some (r1, r2) := H
          have A8 := Aside0.mk A80
          clear A80
          replace H := Option.bind_eq_some_iff.mp H
          obtain ⟨⟨t706, t707, t708⟩, A90, H⟩ := H
          replace H : (some (t707, 0)) = some (r1, r2) := H
          have A9 := Aside0.mk A90
          clear A90
          simp only [Option.some.injEq, Prod.mk.injEq] at H
          obtain ⟨rfl, rfl⟩ := H
          go_wp2_with (first | ((with_reducible refine gate_callee (f := 59) rfl ?_); refine goesL_ (some 25) rfl rfl Try.func59 (by kernel_rfl) rfl #[.agg #[.int .i64 a0, .int .i64 12, .int .i64 28]] rfl (by (try simp only [List.map_toArray, List.map_cons, List.map_nil]); first | done | rfl | (simp only [List.length_drop, List.length_take]; rfl)) ?_; (with_reducible refine (civil_Number.calls kj4 a0 12 28 t704 t705 _ A8.out).mono ?_); rintro e w10 ⟨rfl, hb⟩; refine ⟨_, rfl, ?_⟩; have n0_ := Aside0.mk (below_step (by repeat (first | (with_reducible first | exact HB.out | apply below_alloc | apply pw_below_drewN | apply below_drew1) | exact HB.out)) hb); clear HB; have HB := n0_; clear n0_; (try clear hb); (try clear hb2); (try clear hk); (try clear hi)) | ((with_reducible refine gate_callee (f := 30) rfl ?_); refine goesL_ (some 31) rfl rfl Try.func30 (by kernel_rfl) rfl #[.int .i64 t704, .int .i64 a1] rfl (by (try simp only [List.map_toArray, List.map_cons, List.map_nil]); first | done | rfl | (simp only [List.length_drop, List.length_take]; rfl)) ?_; (with_reducible refine (week_No.calls kj4 t704 a1 t706 t707 t708 _ A9.out).mono ?_); rintro e w11 ⟨rfl, hb⟩; refine ⟨_, rfl, ?_⟩; have n0_ := Aside0.mk (below_step (by repeat (first | (with_reducible first | exact HB.out | apply below_alloc | apply pw_below_drewN | apply below_drew1) | exact HB.out)) hb); clear HB; have HB := n0_; clear n0_; (try clear hb); (try clear hb2); (try clear hk); (try clear hi)))
          go_ret2
          exact ⟨by first | rfl | (simp [errW_none, errW_some] <;> rfl) | (simp [*, errW_none, errW_some] <;> rfl), by repeat (first | (with_reducible first | exact HB.out | apply below_alloc | apply pw_below_drewN | apply below_drew1) | exact HB.out)⟩
  · replace c4 := Bool.eq_false_iff.mpr c4
    subst c4
    have H1 : (some (0, 1)) = some (r1, r2) := by rw [if_neg (show ¬ (false = true) by decide)] at H; exact H
    clear H
    have H := H1
    clear H1
    simp only [Option.some.injEq, Prod.mk.injEq] at H
    obtain ⟨rfl, rfl⟩ := H
    go_enter Try.func31, Try.ntmps31
    go_wp2_with (first | ((with_reducible refine gate_callee (f := 56) rfl ?_); refine goesL_ (some 13) rfl rfl Try.func56 (by kernel_rfl) rfl #[.int .i64 a1] rfl (by (try simp only [List.map_toArray, List.map_cons, List.map_nil]); first | done | rfl | (simp only [List.length_drop, List.length_take]; rfl)) ?_; (with_reducible refine (week_weekday.calls a1 false _ A3.out).mono ?_); rintro e w' ⟨rfl, ⟨nd, rfl⟩⟩; refine ⟨_, rfl, ?_⟩))
    go_ret2
    exact ⟨by first | rfl | (simp [errW_none, errW_some] <;> rfl) | (simp [*, errW_none, errW_some] <;> rfl), by repeat (first | (with_reducible first | exact HB.out | apply below_alloc | apply pw_below_drewN | apply below_drew1) | exact HB.out)⟩

end
section
open Go.RowKit Go.Proofs.YtmhpmkbifhgnbaaW.PrintWords Go.Proofs.YtmhpmkbifhgnbaaW.PrintLast Go.Proofs.YtmhpmkbifhgnbaaW.PrintMore
attribute [local go_sem] max2_int min2_int max_two min_two max_three min_three max_four min_four   -- for this text's walks alone
set_option linter.unusedVariables false
set_option linter.unusedSimpArgs false

/-! ### solsticelaw22_FilterWeeks: function 8 -/
def solsticelaw22_FilterWeeks.j0 : Nat → Int → Int → Int → Int → Int → Bool → Option (Bool)
  | 0, _, _, _, _, _, _ => none
  | k + 1, x0, x1, x2, x7, x10, x51 => if x51 = true then (if x10 = 0 then ((solsticelaw22_wakes.f k).bind fun t717 => (some t717)) else (some false)) else ((week_No.f k x7 x2).bind fun bt718 => ((week_Weeks.f k bt718.1 x2).bind fun bt721 => ((filter_Lets.f k 7 1 0 false 0 false ([] : List Int) ([] : List Int) ([] : List Int) ([] : List (S47)) ([] : List Int) ([] : List Int) (([x1] : List Int)) ([] : List Int) ([] : List Int) x2 x0 x0).bind fun t726 => ((filter_Lets.f k 7 1 0 false 0 false ([] : List Int) ([] : List Int) ([] : List Int) ([] : List (S47)) ([] : List Int) ([] : List Int) (([wrap64 (-x1)] : List Int)) ([] : List Int) ([] : List Int) x2 x0 x0).bind fun t730 => ((filter_Lets.f k 7 1 0 false 0 false ([] : List Int) ([] : List Int) ([] : List Int) ([] : List (S47)) ([] : List Int) ([] : List Int) (([bt718.2.1] : List Int)) ([] : List Int) ([] : List Int) x2 (wrap64 (x0 - 86400)) x0).bind fun t734 => (if bt718.2.2 = 0 then (if bt721.2 = 0 then (if (t726 == (bt718.2.1 == x1)) = true then (if (t730 == ((wrap64 ((wrap64 (bt721.1 - bt718.2.1)) + 1)) == x1)) = true then (if t734 = true then (some false) else ((solsticelaw22_wakes.f k).bind fun t735 => (some t735))) else (some false)) else (some false)) else (some false)) else (some false)))))))
def solsticelaw22_FilterWeeks.f (k : Nat) (a0 : Int) (a1 : Int) (a2 : Int) : Option (Bool) := (solsticelaw20_Some.f k a0).bind fun t709 => ((solsticeref01_Div.f t709 86400).bind fun bt710 => ((civil_Date.f k bt710.1).bind fun bt712 => (if bt712.2.2.2 = 0 then (if bt712.1 < 2 then (solsticelaw22_FilterWeeks.j0 k t709 (wrap64 (1 + (wrap64 (Int.tmod (IntKind.u64.wrap (a1)) 53)))) (wrap64 (Int.tmod (IntKind.u64.wrap (a2)) 7)) bt710.1 bt712.2.2.2 true) else (solsticelaw22_FilterWeeks.j0 k t709 (wrap64 (1 + (wrap64 (Int.tmod (IntKind.u64.wrap (a1)) 53)))) (wrap64 (Int.tmod (IntKind.u64.wrap (a2)) 7)) bt710.1 bt712.2.2.2 (decide (bt712.1 > 9997)))) else (solsticelaw22_FilterWeeks.j0 k t709 (wrap64 (1 + (wrap64 (Int.tmod (IntKind.u64.wrap (a1)) 53)))) (wrap64 (Int.tmod (IntKind.u64.wrap (a2)) 7)) bt710.1 bt712.2.2.2 true))))
theorem solsticelaw22_FilterWeeks.mono_l : ∀ k, (∀ y0 y1 y2 y3 y4 y5, LeO (solsticelaw22_FilterWeeks.j0 k y0 y1 y2 y3 y4 y5) (solsticelaw22_FilterWeeks.j0 (k + 1) y0 y1 y2 y3 y4 y5))
  | 0 => fun _ _ _ _ _ _ r h => by simp [solsticelaw22_FilterWeeks.j0] at h
  | k + 1 => by
    have ih0 := solsticelaw22_FilterWeeks.mono_l k
    · intro y0 y1 y2 y3 y4 y5
      unfold solsticelaw22_FilterWeeks.j0
      repeat' first
      | (with_reducible exact ih0 _ _ _ _ _ _)
      | (with_reducible exact civil_Date.mono _ _)
      | (with_reducible exact filter_Lets.mono _ _ _ _ _ _ _ _ _ _ _ _ _ _ _ _ _ _ _)
      | (with_reducible exact solsticelaw20_Some.mono _ _)
      | (with_reducible exact solsticelaw22_wakes.mono _)
      | (with_reducible exact week_No.mono _ _ _)
      | (with_reducible exact week_Weeks.mono _ _ _)
      | (with_reducible exact LeO.refl _)
      | (with_reducible exact LeO.none _)
      | (with_reducible refine LeO.ite ?_ ?_)
      | (with_reducible refine LeO.bind ?_ (fun _ => ?_))
      | exact ih0 _ _ _ _ _ _
      | exact civil_Date.mono _ _
      | exact filter_Lets.mono _ _ _ _ _ _ _ _ _ _ _ _ _ _ _ _ _ _ _
      | exact solsticelaw20_Some.mono _ _
      | exact solsticelaw22_wakes.mono _
      | exact week_No.mono _ _ _
      | exact week_Weeks.mono _ _ _
      | exact LeO.none _
      | refine LeO.ite ?_ ?_
      | refine LeO.bind ?_ (fun _ => ?_)
theorem solsticelaw22_FilterWeeks.mono : ∀ a0 a1 a2 k, LeO (solsticelaw22_FilterWeeks.f k a0 a1 a2) (solsticelaw22_FilterWeeks.f (k + 1) a0 a1 a2) := by
  intro a0 a1 a2 k
  have ih0 := solsticelaw22_FilterWeeks.mono_l k
  unfold solsticelaw22_FilterWeeks.f
  repeat' first
      | (with_reducible exact ih0 _ _ _ _ _ _)
      | (with_reducible exact civil_Date.mono _ _)
      | (with_reducible exact filter_Lets.mono _ _ _ _ _ _ _ _ _ _ _ _ _ _ _ _ _ _ _)
      | (with_reducible exact solsticelaw20_Some.mono _ _)
      | (with_reducible exact solsticelaw22_wakes.mono _)
      | (with_reducible exact week_No.mono _ _ _)
      | (with_reducible exact week_Weeks.mono _ _ _)
      | (with_reducible exact LeO.refl _)
      | (with_reducible exact LeO.none _)
      | (with_reducible refine LeO.ite ?_ ?_)
      | (with_reducible refine LeO.bind ?_ (fun _ => ?_))
      | exact ih0 _ _ _ _ _ _
      | exact civil_Date.mono _ _
      | exact filter_Lets.mono _ _ _ _ _ _ _ _ _ _ _ _ _ _ _ _ _ _ _
      | exact solsticelaw20_Some.mono _ _
      | exact solsticelaw22_wakes.mono _
      | exact week_No.mono _ _ _
      | exact week_Weeks.mono _ _ _
      | exact LeO.none _
      | refine LeO.ite ?_ ?_
      | refine LeO.bind ?_ (fun _ => ?_)
set_option maxHeartbeats 8000000 in
set_option maxRecDepth 100000 in
theorem solsticelaw22_FilterWeeks.calls (k : Nat) (a0 : Int) (a1 : Int) (a2 : Int) (r : Bool) (w : World) (hr0 : r = true) (h : solsticelaw22_FilterWeeks.f k a0 a1 a2 = some r) :
    Calls Try.prog 8 #[.int .i64 a0, .int .i64 a1, .int .i64 a2] w fun e w' => e = .returned (.bool r) ∧ Below w.heap.size w w' := by
  have hr := Aside0.mk hr0
  clear hr0
  have hu39 := Try.underlying39
  have hu25 := Try.underlying25
  have HB := Aside0.mk (Below.refl w.heap.size w)
  have H : ((solsticelaw20_Some.f k a0).bind fun t709 => ((solsticeref01_Div.f t709 86400).bind fun bt710 => ((civil_Date.f k bt710.1).bind fun bt712 => (if bt712.2.2.2 = 0 then (if bt712.1 < 2 then (solsticelaw22_FilterWeeks.j0 k t709 (wrap64 (1 + (wrap64 (Int.tmod (IntKind.u64.wrap (a1)) 53)))) (wrap64 (Int.tmod (IntKind.u64.wrap (a2)) 7)) bt710.1 bt712.2.2.2 true) else (solsticelaw22_FilterWeeks.j0 k t709 (wrap64 (1 + (wrap64 (Int.tmod (IntKind.u64.wrap (a1)) 53)))) (wrap64 (Int.tmod (IntKind.u64.wrap (a2)) 7)) bt710.1 bt712.2.2.2 (decide (bt712.1 > 9997)))) else (solsticelaw22_FilterWeeks.j0 k t709 (wrap64 (1 + (wrap64 (Int.tmod (IntKind.u64.wrap (a1)) 53)))) (wrap64 (Int.tmod (IntKind.u64.wrap (a2)) 7)) bt710.1 bt712.2.2.2 true))))) = some r := h
  clear h
  replace H := Option.bind_eq_some_iff.mp H
  obtain ⟨t709, A40, H⟩ := H
  replace H : ((solsticeref01_Div.f t709 86400).bind fun bt710 => ((civil_Date.f k bt710.1).bind fun bt712 => (if bt712.2.2.2 = 0 then (if bt712.1 < 2 then (solsticelaw22_FilterWeeks.j0 k t709 (wrap64 (1 + (wrap64 (Int.tmod (IntKind.u64.wrap (a1)) 53)))) (wrap64 (Int.tmod (IntKind.u64.wrap (a2)) 7)) bt710.1 bt712.2.2.2 true) else (solsticelaw22_FilterWeeks.j0 k t709 (wrap64 (1 + (wrap64 (Int.tmod (IntKind.u64.wrap (a1)) 53)))) (wrap64 (Int.tmod (IntKind.u64.wrap (a2)) 7)) bt710.1 bt712.2.2.2 (decide (bt712.1 > 9997)))) else (solsticelaw22_FilterWeeks.j0 k t709 (wrap64 (1 + (wrap64 (Int.tmod (IntKind.u64.wrap (a1)) 53)))) (wrap64 (Int.tmod (IntKind.u64.wrap (a2)) 7)) bt710.1 bt712.2.2.2 true)))) = some r := H
  have A4 := Aside0.mk A40
  clear A40
  replace H := Option.bind_eq_some_iff.mp H
  obtain ⟨⟨t710, t711⟩, A50, H⟩ := H
  replace H : ((civil_Date.f k t710).bind fun bt712 => (if bt712.2.2.2 = 0 then (if bt712.1 < 2 then (solsticelaw22_FilterWeeks.j0 k t709 (wrap64 (1 + (wrap64 (Int.tmod (IntKind.u64.wrap (a1)) 53)))) (wrap64 (Int.tmod (IntKind.u64.wrap (a2)) 7)) t710 bt712.2.2.2 true) else (solsticelaw22_FilterWeeks.j0 k t709 (wrap64 (1 + (wrap64 (Int.tmod (IntKind.u64.wrap (a1)) 53)))) (wrap64 (Int.tmod (IntKind.u64.wrap (a2)) 7)) t710 bt712.2.2.2 (decide (bt712.1 > 9997)))) else (solsticelaw22_FilterWeeks.j0 k t709 (wrap64 (1 + (wrap64 (Int.tmod (IntKind.u64.wrap (a1)) 53)))) (wrap64 (Int.tmod (IntKind.u64.wrap (a2)) 7)) t710 bt712.2.2.2 true))) = some r := H
  have A5 := Aside0.mk A50
  clear A50
  replace H := Option.bind_eq_some_iff.mp H
  obtain ⟨⟨t712, t713, t714, t715⟩, A60, H⟩ := H
  replace H : (if t715 = 0 then (if t712 < 2 then (solsticelaw22_FilterWeeks.j0 k t709 (wrap64 (1 + (wrap64 (Int.tmod (IntKind.u64.wrap (a1)) 53)))) (wrap64 (Int.tmod (IntKind.u64.wrap (a2)) 7)) t710 t715 true) else (solsticelaw22_FilterWeeks.j0 k t709 (wrap64 (1 + (wrap64 (Int.tmod (IntKind.u64.wrap (a1)) 53)))) (wrap64 (Int.tmod (IntKind.u64.wrap (a2)) 7)) t710 t715 (decide (t712 > 9997)))) else (solsticelaw22_FilterWeeks.j0 k t709 (wrap64 (1 + (wrap64 (Int.tmod (IntKind.u64.wrap (a1)) 53)))) (wrap64 (Int.tmod (IntKind.u64.wrap (a2)) 7)) t710 t715 true)) = some r := H
  have A6 := Aside0.mk A60
  clear A60
  have HC7 := Aside0.mk H
  clear H
  go_enter Try.func8, Try.ntmps8
  go_upto_region 4 with (first | ((with_reducible refine gate_callee (f := 21) rfl ?_); refine goesL_ (some 20) rfl rfl Try.func21 (by kernel_rfl) rfl #[.int .i64 a0] rfl (by (try simp only [List.map_toArray, List.map_cons, List.map_nil]); first | done | rfl | (simp only [List.length_drop, List.length_take]; rfl)) ?_; (with_reducible refine (solsticelaw20_Some.calls k a0 t709 _ A4.out).mono ?_); rintro e w8 ⟨rfl, hb⟩; refine ⟨_, rfl, ?_⟩; have n0_ := Aside0.mk (below_step (by repeat (first | (with_reducible first | exact HB.out | apply below_alloc | apply pw_below_drewN | apply below_drew1) | exact HB.out)) hb); clear HB; have HB := n0_; clear n0_; (try clear hb); (try clear hb2); (try clear hk); (try clear hi)) | ((with_reducible refine gate_callee (f := 22) rfl ?_); refine goesL_ (some 32) rfl rfl Try.func22 (by kernel_rfl) rfl #[.int .i64 t709, .int .i64 86400] rfl (by (try simp only [List.map_toArray, List.map_cons, List.map_nil]); first | done | rfl | (simp only [List.length_drop, List.length_take]; rfl)) ?_; (with_reducible refine (solsticeref01_Div.calls t709 86400 t710 t711 _ A5.out).mono ?_); rintro e w' ⟨rfl, ⟨nd, rfl⟩⟩; refine ⟨_, rfl, ?_⟩; (try (rw [drewN_self w8]; generalize hq_ : World.drewN w8 _ = w8; have n0_ : Aside0 (Below w.heap.size w w8) := ⟨by rw [← hq_]; exact (by repeat (first | (with_reducible first | exact HB.out | apply below_alloc | apply pw_below_drewN | apply below_drew1) | exact HB.out))⟩; clear HB hq_; have HB := n0_; clear n0_))) | ((with_reducible refine gate_callee (f := 28) rfl ?_); refine goesL_ (some 37) rfl rfl Try.func28 (by kernel_rfl) rfl #[.int .i64 t710] rfl (by (try simp only [List.map_toArray, List.map_cons, List.map_nil]); first | done | rfl | (simp only [List.length_drop, List.length_take]; rfl)) ?_; (with_reducible refine (civil_Date.calls k t710 t712 t713 t714 t715 _ A6.out).mono ?_); rintro e w9 ⟨rfl, hb⟩; refine ⟨_, rfl, ?_⟩; have n0_ := Aside0.mk (below_step (by repeat (first | (with_reducible first | exact HB.out | apply below_alloc | apply pw_below_drewN | apply below_drew1) | exact HB.out)) hb); clear HB; have HB := n0_; clear n0_; (try clear hb); (try clear hb2); (try clear hk); (try clear hi)) | ((with_reducible refine gate_dst (N := 9) rfl ?_); refine box_event ?hg (N := 9) ?hd (cs := #[.int .i64 0, .int .i64 0, .int .i64 0]) (t := 39) ?hr ?_; (case hd => rfl); (case hg => rfl); (case hr => first | (go_simp; done) | (go_simp; rfl)); intro gb716 hg w10 hbox hb; have n0_ := Aside0.mk (below_step (by repeat (first | (with_reducible first | exact HB.out | apply below_alloc | apply pw_below_drewN | apply below_drew1) | exact HB.out)) hb); have n1_ := Aside0.mk (hbox); have n2_ := Aside0.mk ((by rw [hg]; exact (below_size (by repeat (first | (with_reducible first | exact HB.out | apply below_alloc | apply pw_below_drewN | apply below_drew1) | exact HB.out))) : w.heap.size ≤ gb716)); have n3_ := Aside0.mk ((by rw [hg]; exact (below_size (by repeat (first | (with_reducible first | exact HB.out | apply below_alloc | apply pw_below_drewN | apply below_drew1) | exact HB.out))) : w.heap.size ≤ gb716)); clear HB; have HB := n0_; have BK716 := n1_; have GW716 := n2_; have GE716 := n3_; clear n0_ n1_ n2_ n3_; clear hb hbox hg; have hcz11_0 : w10.cell? ⟨gb716, 0, none⟩ = some (.int .i64 0) := (blk_cell BK716.out 0).trans rfl; have hcz11_1 : w10.cell? ⟨gb716, 1, none⟩ = some (.int .i64 0) := (blk_cell BK716.out 1).trans rfl; have hcz11_2 : w10.cell? ⟨gb716, 2, none⟩ = some (.int .i64 0) := (blk_cell BK716.out 2).trans rfl; have hfz11_0 := blk_frozen BK716.out 0; have hfz11_1 := blk_frozen BK716.out 1; have hfz11_2 := blk_frozen BK716.out 2))
  (try simp only [Act.put, List.setIfInBounds_toArray, List.set_cons_zero, List.set_cons_succ])
  go_cut [51] (fun v51 wc => ∃ (kq : Nat) (x51_6 : Bool), v51 = .bool x51_6 ∧ Aside0 (solsticelaw22_FilterWeeks.j0 kq t709 (wrap64 (1 + (wrap64 (Int.tmod (IntKind.u64.wrap (a1)) 53)))) (wrap64 (Int.tmod (IntKind.u64.wrap (a2)) 7)) t710 t715 x51_6 = some r) ∧ Aside0 (kq ≤ k) ∧ Aside0 (wc.heap[gb716]? = some (.cells #[.int .i64 t712, .int .i64 t713, .int .i64 t714] 39 (0, 0))) ∧ Aside0 (Below w.heap.size w wc))
  case first =>
    have H := HC7.out
    clear HC7
    by_cases c12 : t715 = 0
    · rw [if_pos c12] at H
      have c12b0 : (t715 == 0) = true := beq_iff_eq.mpr c12
      have c12b1 : (t715 != 0) = false := bne_eq_false_iff_eq.mpr c12
      clear c12
      (first | rw [c12b0] | (simp only [i64_w, i32_w]; rw [c12b0]) | skip)
      by_cases c13 : t712 < 2
      · rw [if_pos c13] at H
        have c13b0 : decide (t712 < 2) = true := decide_eq_true c13
        clear c13
        have H' := Aside0.mk H
        clear H
        have hcz14_0 : w10.cell? ⟨gb716, 0, none⟩ = some (.int .i64 0) := (blk_cell BK716.out 0).trans rfl
        have hcz14_1 : w10.cell? ⟨gb716, 1, none⟩ = some (.int .i64 0) := (blk_cell BK716.out 1).trans rfl
        have hcz14_2 : w10.cell? ⟨gb716, 2, none⟩ = some (.int .i64 0) := (blk_cell BK716.out 2).trans rfl
        have hfz14_0 := blk_frozen BK716.out 0
        have hfz14_1 := blk_frozen BK716.out 1
        have hfz14_2 := blk_frozen BK716.out 2
        go_wp2
        go_meet
        case rel => exact ⟨_, (true), (by first | rfl | (simp; done) | (simp [*]; done)), H', ⟨by first | omega | exact Nat.le_refl _⟩, ⟨by (with_reducible repeat (first | refine blk_drewN ?_ _ | refine blk_drew ?_ | refine blk_alloc ?_ _)); refine blk_put (cs := #[.int .i64 t712, .int .i64 t713, .int .i64 0]) ?_ 2 _ rfl; (with_reducible repeat (first | refine blk_drewN ?_ _ | refine blk_drew ?_ | refine blk_alloc ?_ _)); refine blk_put (cs := #[.int .i64 t712, .int .i64 0, .int .i64 0]) ?_ 1 _ rfl; (with_reducible repeat (first | refine blk_drewN ?_ _ | refine blk_drew ?_ | refine blk_alloc ?_ _)); refine blk_put (cs := #[.int .i64 0, .int .i64 0, .int .i64 0]) ?_ 0 _ rfl; (with_reducible repeat (first | refine blk_drewN ?_ _ | refine blk_drew ?_ | refine blk_alloc ?_ _)); exact BK716.out⟩, ⟨by repeat (first | (with_reducible first | exact HB.out | apply below_alloc | apply pw_below_drewN | apply below_drew1 | refine below_set ?_ GE716.out) | exact HB.out)⟩⟩
      · rw [if_neg c13] at H
        have c13b0 : decide (t712 < 2) = false := decide_eq_false c13
        clear c13
        have H' := Aside0.mk H
        clear H
        have hcz15_0 : w10.cell? ⟨gb716, 0, none⟩ = some (.int .i64 0) := (blk_cell BK716.out 0).trans rfl
        have hcz15_1 : w10.cell? ⟨gb716, 1, none⟩ = some (.int .i64 0) := (blk_cell BK716.out 1).trans rfl
        have hcz15_2 : w10.cell? ⟨gb716, 2, none⟩ = some (.int .i64 0) := (blk_cell BK716.out 2).trans rfl
        have hfz15_0 := blk_frozen BK716.out 0
        have hfz15_1 := blk_frozen BK716.out 1
        have hfz15_2 := blk_frozen BK716.out 2
        go_wp2
        go_meet
        case rel => exact ⟨_, (decide (t712 > 9997)), (by first | rfl | (simp; done) | (simp [*]; done)), H', ⟨by first | omega | exact Nat.le_refl _⟩, ⟨by (with_reducible repeat (first | refine blk_drewN ?_ _ | refine blk_drew ?_ | refine blk_alloc ?_ _)); refine blk_put (cs := #[.int .i64 t712, .int .i64 t713, .int .i64 0]) ?_ 2 _ rfl; (with_reducible repeat (first | refine blk_drewN ?_ _ | refine blk_drew ?_ | refine blk_alloc ?_ _)); refine blk_put (cs := #[.int .i64 t712, .int .i64 0, .int .i64 0]) ?_ 1 _ rfl; (with_reducible repeat (first | refine blk_drewN ?_ _ | refine blk_drew ?_ | refine blk_alloc ?_ _)); refine blk_put (cs := #[.int .i64 0, .int .i64 0, .int .i64 0]) ?_ 0 _ rfl; (with_reducible repeat (first | refine blk_drewN ?_ _ | refine blk_drew ?_ | refine blk_alloc ?_ _)); exact BK716.out⟩, ⟨by repeat (first | (with_reducible first | exact HB.out | apply below_alloc | apply pw_below_drewN | apply below_drew1 | refine below_set ?_ GE716.out) | exact HB.out)⟩⟩
    · rw [if_neg c12] at H
      have c12b0 : (t715 == 0) = false := beq_eq_false_iff_ne.mpr c12
      have c12b1 : (t715 != 0) = true := bne_iff_ne.mpr c12
      (first | rw [c12b0] | (simp only [i64_w, i32_w]; rw [c12b0]) | skip)
      have H' := Aside0.mk H
      clear H
      go_wp2
      go_meet
      case rel => exact ⟨_, (true), (by first | rfl | (simp; done) | (simp [*]; done)), H', ⟨by first | omega | exact Nat.le_refl _⟩, ⟨by (with_reducible repeat (first | refine blk_drewN ?_ _ | refine blk_drew ?_ | refine blk_alloc ?_ _)); refine blk_put (cs := #[.int .i64 t712, .int .i64 t713, .int .i64 0]) ?_ 2 _ rfl; (with_reducible repeat (first | refine blk_drewN ?_ _ | refine blk_drew ?_ | refine blk_alloc ?_ _)); refine blk_put (cs := #[.int .i64 t712, .int .i64 0, .int .i64 0]) ?_ 1 _ rfl; (with_reducible repeat (first | refine blk_drewN ?_ _ | refine blk_drew ?_ | refine blk_alloc ?_ _)); refine blk_put (cs := #[.int .i64 0, .int .i64 0, .int .i64 0]) ?_ 0 _ rfl; (with_reducible repeat (first | refine blk_drewN ?_ _ | refine blk_drew ?_ | refine blk_alloc ?_ _)); exact BK716.out⟩, ⟨by repeat (first | (with_reducible first | exact HB.out | apply below_alloc | apply pw_below_drewN | apply below_drew1 | refine below_set ?_ GE716.out) | exact HB.out)⟩⟩
  case rest => as_aux_lemma =>
    clear HC7
    try clear c1
    try clear c2
    try clear p2
    try clear p6
    try clear c8
    try clear c12
    try clear c12b0
    try clear c12b1
    try clear c13
    try clear c13b0
    try clear hcz11_0
    try clear hcz11_1
    try clear hcz11_2
    try clear hcz14_0
    try clear hcz14_1
    try clear hcz14_2
    try clear hcz15_0
    try clear hcz15_1
    try clear hcz15_2
    try clear hfz11_0
    try clear hfz11_1
    try clear hfz11_2
    try clear hfz14_0
    try clear hfz14_1
    try clear hfz14_2
    try clear hfz15_0
    try clear hfz15_1
    try clear hfz15_2
    obtain ⟨kq, x51_6, rfl, HA, HJ6, BK716, HB⟩ := hcut
    cases kq with
    | zero => exact absurd HA.out (by simp [solsticelaw22_FilterWeeks.j0])
    | succ kj6 =>
      have H := HA.out
      clear HA
      simp only [solsticelaw22_FilterWeeks.j0] at H
      by_cases c16 : x51_6 = true
      · subst c16
        have H1 : (if t715 = 0 then ((solsticelaw22_wakes.f kj6).bind fun t717 => (some t717)) else (some false)) = some r := by rw [if_pos rfl] at H; exact H
        clear H
        have H := H1
        clear H1
        by_cases c17 : t715 = 0
        · rw [if_pos c17] at H
          have c17b0 : (t715 == 0) = true := beq_iff_eq.mpr c17
          have c17b1 : (t715 != 0) = false := bne_eq_false_iff_eq.mpr c17
          clear c17
          replace H := Option.bind_eq_some_iff.mp H
          obtain ⟨t717, A180, H⟩ := H
          replace H : (some t717) = some r := H
          have A18 := Aside0.mk A180
          clear A180
          obtain rfl := Option.some.inj H
          go_wp2_with (first | (go_at_call 16; (with_reducible refine (solsticelaw22_wakes.calls kj6  t717 _ hr.out A18.out).mono ?_); rintro e w19 ⟨rfl, hb⟩; have n0_ := Aside0.mk (blk_below (g := gb716) (o := .cells #[.int .i64 t712, .int .i64 t713, .int .i64 t714] 39 (0, 0)) (by (with_reducible repeat (first | refine blk_drewN ?_ _ | refine blk_drew ?_ | refine blk_alloc ?_ _)); exact BK716.out) hb); have n1_ := Aside0.mk (below_step (by repeat (first | (with_reducible first | exact HB.out | apply below_alloc | apply pw_below_drewN | apply below_drew1 | refine below_set ?_ GE716.out) | exact HB.out)) hb); clear BK716; clear HB; have BK716 := n0_; have HB := n1_; clear n0_ n1_; (try clear hb); (try clear hb2); (try clear hk); (try clear hi)))
          go_ret
          exact ⟨by first | rfl | (simp [errW_none, errW_some] <;> rfl) | (simp [*, errW_none, errW_some] <;> rfl), by repeat (first | (with_reducible first | exact HB.out | apply below_alloc | apply pw_below_drewN | apply below_drew1 | refine below_set ?_ GE716.out) | exact HB.out)⟩
        · rw [if_neg c17] at H
          have c17b0 : (t715 == 0) = false := beq_eq_false_iff_ne.mpr c17
          have c17b1 : (t715 != 0) = true := bne_iff_ne.mpr c17
          exact absurd ((Option.some.inj H).trans hr.out) (by decide)
      · as_aux_lemma =>
          replace c16 := Bool.eq_false_iff.mpr c16
          subst c16
          have H1 : ((week_No.f kj6 t710 (wrap64 (Int.tmod (IntKind.u64.wrap (a2)) 7))).bind fun bt718 => ((week_Weeks.f kj6 bt718.1 (wrap64 (Int.tmod (IntKind.u64.wrap (a2)) 7))).bind fun bt721 => ((filter_Lets.f kj6 7 1 0 false 0 false ([] : List Int) ([] : List Int) ([] : List Int) ([] : List (S47)) ([] : List Int) ([] : List Int) (([(wrap64 (1 + (wrap64 (Int.tmod (IntKind.u64.wrap (a1)) 53))))] : List Int)) ([] : List Int) ([] : List Int) (wrap64 (Int.tmod (IntKind.u64.wrap (a2)) 7)) t709 t709).bind fun t726 => ((filter_Lets.f kj6 7 1 0 false 0 false ([] : List Int) ([] : List Int) ([] : List Int) ([] : List (S47)) ([] : List Int) ([] : List Int) (([wrap64 (-(wrap64 (1 + (wrap64 (Int.tmod (IntKind.u64.wrap (a1)) 53)))))] : List Int)) ([] : List Int) ([] : List Int) (wrap64 (Int.tmod (IntKind.u64.wrap (a2)) 7)) t709 t709).bind fun t730 => ((filter_Lets.f kj6 7 1 0 false 0 false ([] : List Int) ([] : List Int) ([] : List Int) ([] : List (S47)) ([] : List Int) ([] : List Int) (([bt718.2.1] : List Int)) ([] : List Int) ([] : List Int) (wrap64 (Int.tmod (IntKind.u64.wrap (a2)) 7)) (wrap64 (t709 - 86400)) t709).bind fun t734 => (if bt718.2.2 = 0 then (if bt721.2 = 0 then (if (t726 == (bt718.2.1 == (wrap64 (1 + (wrap64 (Int.tmod (IntKind.u64.wrap (a1)) 53)))))) = true then (if (t730 == ((wrap64 ((wrap64 (bt721.1 - bt718.2.1)) + 1)) == (wrap64 (1 + (wrap64 (Int.tmod (IntKind.u64.wrap (a1)) 53)))))) = true then (if t734 = true then (some false) else ((solsticelaw22_wakes.f kj6).bind fun t735 => (some t735))) else (some false)) else (some false)) else (some false)) else (some false))))))) = some r := by rw [if_neg (show ¬ (false = true) by decide)] at H; exact H
          clear H
          have H := H1
          clear H1
          replace H := Option.bind_eq_some_iff.mp H
          obtain ⟨⟨t718, t719, t720⟩, A200, H⟩ := H
          replace H : ((week_Weeks.f kj6 t718 (wrap64 (Int.tmod (IntKind.u64.wrap (a2)) 7))).bind fun bt721 => ((filter_Lets.f kj6 7 1 0 false 0 false ([] : List Int) ([] : List Int) ([] : List Int) ([] : List (S47)) ([] : List Int) ([] : List Int) (([(wrap64 (1 + (wrap64 (Int.tmod (IntKind.u64.wrap (a1)) 53))))] : List Int)) ([] : List Int) ([] : List Int) (wrap64 (Int.tmod (IntKind.u64.wrap (a2)) 7)) t709 t709).bind fun t726 => ((filter_Lets.f kj6 7 1 0 false 0 false ([] : List Int) ([] : List Int) ([] : List Int) ([] : List (S47)) ([] : List Int) ([] : List Int) (([wrap64 (-(wrap64 (1 + (wrap64 (Int.tmod (IntKind.u64.wrap (a1)) 53)))))] : List Int)) ([] : List Int) ([] : List Int) (wrap64 (Int.tmod (IntKind.u64.wrap (a2)) 7)) t709 t709).bind fun t730 => ((filter_Lets.f kj6 7 1 0 false 0 false ([] : List Int) ([] : List Int) ([] : List Int) ([] : List (S47)) ([] : List Int) ([] : List Int) (([t719] : List Int)) ([] : List Int) ([] : List Int) (wrap64 (Int.tmod (IntKind.u64.wrap (a2)) 7)) (wrap64 (t709 - 86400)) t709).bind fun t734 => (if t720 = 0 then (if bt721.2 = 0 then (if (t726 == (t719 == (wrap64 (1 + (wrap64 (Int.tmod (IntKind.u64.wrap (a1)) 53)))))) = true then (if (t730 == ((wrap64 ((wrap64 (bt721.1 - t719)) + 1)) == (wrap64 (1 + (wrap64 (Int.tmod (IntKind.u64.wrap (a1)) 53)))))) = true then (if t734 = true then (some false) else ((solsticelaw22_wakes.f kj6).bind fun t735 => (some t735))) else (some false)) else (some false)) else (some false)) else (some false)))))) = some r := H
          have A20 := Aside0.mk A200
          clear A200
          replace H := Option.bind_eq_some_iff.mp H
          obtain ⟨⟨t721, t722⟩, A210, H⟩ := H
          replace H : ((filter_Lets.f kj6 7 1 0 false 0 false ([] : List Int) ([] : List Int) ([] : List Int) ([] : List (S47)) ([] : List Int) ([] : List Int) (([(wrap64 (1 + (wrap64 (Int.tmod (IntKind.u64.wrap (a1)) 53))))] : List Int)) ([] : List Int) ([] : List Int) (wrap64 (Int.tmod (IntKind.u64.wrap (a2)) 7)) t709 t709).bind fun t726 => ((filter_Lets.f kj6 7 1 0 false 0 false ([] : List Int) ([] : List Int) ([] : List Int) ([] : List (S47)) ([] : List Int) ([] : List Int) (([wrap64 (-(wrap64 (1 + (wrap64 (Int.tmod (IntKind.u64.wrap (a1)) 53)))))] : List Int)) ([] : List Int) ([] : List Int) (wrap64 (Int.tmod (IntKind.u64.wrap (a2)) 7)) t709 t709).bind fun t730 => ((filter_Lets.f kj6 7 1 0 false 0 false ([] : List Int) ([] : List Int) ([] : List Int) ([] : List (S47)) ([] : List Int) ([] : List Int) (([t719] : List Int)) ([] : List Int) ([] : List Int) (wrap64 (Int.tmod (IntKind.u64.wrap (a2)) 7)) (wrap64 (t709 - 86400)) t709).bind fun t734 => (if t720 = 0 then (if t722 = 0 then (if (t726 == (t719 == (wrap64 (1 + (wrap64 (Int.tmod (IntKind.u64.wrap (a1)) 53)))))) = true then (if (t730 == ((wrap64 ((wrap64 (t721 - t719)) + 1)) == (wrap64 (1 + (wrap64 (Int.tmod (IntKind.u64.wrap (a1)) 53)))))) = true then (if t734 = true then (some false) else ((solsticelaw22_wakes.f kj6).bind fun t735 => (some t735))) else (some false)) else (some false)) else (some false)) else (some false))))) = some r := H
          have A21 := Aside0.mk A210
          clear A210
          obtain ⟨y723, hy723⟩ : ∃ y_ : List Int, y_ = (([(wrap64 (1 + (wrap64 (Int.tmod (IntKind.u64.wrap (a1)) 53))))] : List Int)) := ⟨_, rfl⟩
          replace H : ((filter_Lets.f kj6 7 1 0 false 0 false ([] : List Int) ([] : List Int) ([] : List Int) ([] : List (S47)) ([] : List Int) ([] : List Int) y723 ([] : List Int) ([] : List Int) (wrap64 (Int.tmod (IntKind.u64.wrap (a2)) 7)) t709 t709).bind fun t726 => ((filter_Lets.f kj6 7 1 0 false 0 false ([] : List Int) ([] : List Int) ([] : List Int) ([] : List (S47)) ([] : List Int) ([] : List Int) (([wrap64 (-(wrap64 (1 + (wrap64 (Int.tmod (IntKind.u64.wrap (a1)) 53)))))] : List Int)) ([] : List Int) ([] : List Int) (wrap64 (Int.tmod (IntKind.u64.wrap (a2)) 7)) t709 t709).bind fun t730 => ((filter_Lets.f kj6 7 1 0 false 0 false ([] : List Int) ([] : List Int) ([] : List Int) ([] : List (S47)) ([] : List Int) ([] : List Int) (([t719] : List Int)) ([] : List Int) ([] : List Int) (wrap64 (Int.tmod (IntKind.u64.wrap (a2)) 7)) (wrap64 (t709 - 86400)) t709).bind fun t734 => (if t720 = 0 then (if t722 = 0 then (if (t726 == (t719 == (wrap64 (1 + (wrap64 (Int.tmod (IntKind.u64.wrap (a1)) 53)))))) = true then (if (t730 == ((wrap64 ((wrap64 (t721 - t719)) + 1)) == (wrap64 (1 + (wrap64 (Int.tmod (IntKind.u64.wrap (a1)) 53)))))) = true then (if t734 = true then (some false) else ((solsticelaw22_wakes.f kj6).bind fun t735 => (some t735))) else (some false)) else (some false)) else (some false)) else (some false))))) = some r := by first | (rw [hy723]; with_reducible exact H) | (have H2_ := (Option.bind_some _ _).symm.trans H; rw [hy723]; with_reducible exact H2_) | (have H2_ := (Option.bind_some _ _).symm.trans H; with_reducible exact H2_) | with_reducible exact H | (rw [hy723]; exact H) | exact H
          have Ny723 := Aside0.mk hy723
          clear hy723
          replace H := Option.bind_eq_some_iff.mp H
          obtain ⟨t726, A220, H⟩ := H
          replace H : ((filter_Lets.f kj6 7 1 0 false 0 false ([] : List Int) ([] : List Int) ([] : List Int) ([] : List (S47)) ([] : List Int) ([] : List Int) (([wrap64 (-(wrap64 (1 + (wrap64 (Int.tmod (IntKind.u64.wrap (a1)) 53)))))] : List Int)) ([] : List Int) ([] : List Int) (wrap64 (Int.tmod (IntKind.u64.wrap (a2)) 7)) t709 t709).bind fun t730 => ((filter_Lets.f kj6 7 1 0 false 0 false ([] : List Int) ([] : List Int) ([] : List Int) ([] : List (S47)) ([] : List Int) ([] : List Int) (([t719] : List Int)) ([] : List Int) ([] : List Int) (wrap64 (Int.tmod (IntKind.u64.wrap (a2)) 7)) (wrap64 (t709 - 86400)) t709).bind fun t734 => (if t720 = 0 then (if t722 = 0 then (if (t726 == (t719 == (wrap64 (1 + (wrap64 (Int.tmod (IntKind.u64.wrap (a1)) 53)))))) = true then (if (t730 == ((wrap64 ((wrap64 (t721 - t719)) + 1)) == (wrap64 (1 + (wrap64 (Int.tmod (IntKind.u64.wrap (a1)) 53)))))) = true then (if t734 = true then (some false) else ((solsticelaw22_wakes.f kj6).bind fun t735 => (some t735))) else (some false)) else (some false)) else (some false)) else (some false)))) = some r := H
          have A22 := Aside0.mk A220
          clear A220
          obtain ⟨y727, hy727⟩ : ∃ y_ : List Int, y_ = (([wrap64 (-(wrap64 (1 + (wrap64 (Int.tmod (IntKind.u64.wrap (a1)) 53)))))] : List Int)) := ⟨_, rfl⟩
          replace H : ((filter_Lets.f kj6 7 1 0 false 0 false ([] : List Int) ([] : List Int) ([] : List Int) ([] : List (S47)) ([] : List Int) ([] : List Int) y727 ([] : List Int) ([] : List Int) (wrap64 (Int.tmod (IntKind.u64.wrap (a2)) 7)) t709 t709).bind fun t730 => ((filter_Lets.f kj6 7 1 0 false 0 false ([] : List Int) ([] : List Int) ([] : List Int) ([] : List (S47)) ([] : List Int) ([] : List Int) (([t719] : List Int)) ([] : List Int) ([] : List Int) (wrap64 (Int.tmod (IntKind.u64.wrap (a2)) 7)) (wrap64 (t709 - 86400)) t709).bind fun t734 => (if t720 = 0 then (if t722 = 0 then (if (t726 == (t719 == (wrap64 (1 + (wrap64 (Int.tmod (IntKind.u64.wrap (a1)) 53)))))) = true then (if (t730 == ((wrap64 ((wrap64 (t721 - t719)) + 1)) == (wrap64 (1 + (wrap64 (Int.tmod (IntKind.u64.wrap (a1)) 53)))))) = true then (if t734 = true then (some false) else ((solsticelaw22_wakes.f kj6).bind fun t735 => (some t735))) else (some false)) else (some false)) else (some false)) else (some false)))) = some r := by first | (rw [hy727]; with_reducible exact H) | (have H2_ := (Option.bind_some _ _).symm.trans H; rw [hy727]; with_reducible exact H2_) | (have H2_ := (Option.bind_some _ _).symm.trans H; with_reducible exact H2_) | with_reducible exact H | (rw [hy727]; exact H) | exact H
          have Ny727 := Aside0.mk hy727
          clear hy727
          replace H := Option.bind_eq_some_iff.mp H
          obtain ⟨t730, A230, H⟩ := H
          replace H : ((filter_Lets.f kj6 7 1 0 false 0 false ([] : List Int) ([] : List Int) ([] : List Int) ([] : List (S47)) ([] : List Int) ([] : List Int) (([t719] : List Int)) ([] : List Int) ([] : List Int) (wrap64 (Int.tmod (IntKind.u64.wrap (a2)) 7)) (wrap64 (t709 - 86400)) t709).bind fun t734 => (if t720 = 0 then (if t722 = 0 then (if (t726 == (t719 == (wrap64 (1 + (wrap64 (Int.tmod (IntKind.u64.wrap (a1)) 53)))))) = true then (if (t730 == ((wrap64 ((wrap64 (t721 - t719)) + 1)) == (wrap64 (1 + (wrap64 (Int.tmod (IntKind.u64.wrap (a1)) 53)))))) = true then (if t734 = true then (some false) else ((solsticelaw22_wakes.f kj6).bind fun t735 => (some t735))) else (some false)) else (some false)) else (some false)) else (some false))) = some r := H
          have A23 := Aside0.mk A230
          clear A230
          obtain ⟨y731, hy731⟩ : ∃ y_ : List Int, y_ = (([t719] : List Int)) := ⟨_, rfl⟩
          replace H : ((filter_Lets.f kj6 7 1 0 false 0 false ([] : List Int) ([] : List Int) ([] : List Int) ([] : List (S47)) ([] : List Int) ([] : List Int) y731 ([] : List Int) ([] : List Int) (wrap64 (Int.tmod (IntKind.u64.wrap (a2)) 7)) (wrap64 (t709 - 86400)) t709).bind fun t734 => (if t720 = 0 then (if t722 = 0 then (if (t726 == (t719 == (wrap64 (1 + (wrap64 (Int.tmod (IntKind.u64.wrap (a1)) 53)))))) = true then (if (t730 == ((wrap64 ((wrap64 (t721 - t719)) + 1)) == (wrap64 (1 + (wrap64 (Int.tmod (IntKind.u64.wrap (a1)) 53)))))) = true then (if t734 = true then (some false) else ((solsticelaw22_wakes.f kj6).bind fun t735 => (some t735))) else (some false)) else (some false)) else (some false)) else (some false))) = some r := by first | (rw [hy731]; with_reducible exact H) | (have H2_ := (Option.bind_some _ _).symm.trans H; rw [hy731]; with_reducible exact H2_) | (have H2_ := (Option.bind_some _ _).symm.trans H; with_reducible exact H2_) | with_reducible exact H | (rw [hy731]; exact H) | exact H
          have Ny731 := Aside0.mk hy731
          clear hy731
          replace H := Option.bind_eq_some_iff.mp H
          obtain ⟨t734, A240, H⟩ := H
          replace H : (if t720 = 0 then (if t722 = 0 then (if (t726 == (t719 == (wrap64 (1 + (wrap64 (Int.tmod (IntKind.u64.wrap (a1)) 53)))))) = true then (if (t730 == ((wrap64 ((wrap64 (t721 - t719)) + 1)) == (wrap64 (1 + (wrap64 (Int.tmod (IntKind.u64.wrap (a1)) 53)))))) = true then (if t734 = true then (some false) else ((solsticelaw22_wakes.f kj6).bind fun t735 => (some t735))) else (some false)) else (some false)) else (some false)) else (some false)) = some r := H
          have A24 := Aside0.mk A240
          clear A240
          by_cases c25 : t720 = 0
          · as_aux_lemma =>
              rw [if_pos c25] at H
              have c25b0 : (t720 == 0) = true := beq_iff_eq.mpr c25
              have c25b1 : (t720 != 0) = false := bne_eq_false_iff_eq.mpr c25
              clear c25
              by_cases c26 : t722 = 0
              · as_aux_lemma =>
                  rw [if_pos c26] at H
                  have c26b0 : (t722 == 0) = true := beq_iff_eq.mpr c26
                  have c26b1 : (t722 != 0) = false := bne_eq_false_iff_eq.mpr c26
                  clear c26
                  by_cases c27 : (t726 == (t719 == (wrap64 (1 + (wrap64 (Int.tmod (IntKind.u64.wrap (a1)) 53)))))) = true
                  · as_aux_lemma =>
                      rw [if_pos c27] at H
                      have c27b0 : (t726 == (t719 == (wrap64 (1 + (wrap64 (Int.tmod (IntKind.u64.wrap (a1)) 53)))))) = true := c27
                      (try (have c27b1 : decide (t726 = (t719 == (wrap64 (1 + (wrap64 (Int.tmod (IntKind.u64.wrap (a1)) 53)))))) = true := by simpa using c27))
                      (try (have c27b2 : (t726 == (t719 == (wrap64 (1 + (wrap64 (Int.tmod (IntKind.u64.wrap (a1)) 53)))))) = true := by simpa using c27))
                      clear c27
                      by_cases c28 : (t730 == ((wrap64 ((wrap64 (t721 - t719)) + 1)) == (wrap64 (1 + (wrap64 (Int.tmod (IntKind.u64.wrap (a1)) 53)))))) = true
                      · as_aux_lemma =>
                          rw [if_pos c28] at H
                          have c28b0 : (t730 == ((wrap64 ((wrap64 (t721 - t719)) + 1)) == (wrap64 (1 + (wrap64 (Int.tmod (IntKind.u64.wrap (a1)) 53)))))) = true := c28
                          (try (have c28b1 : decide (t730 = ((wrap64 ((wrap64 (t721 - t719)) + 1)) == (wrap64 (1 + (wrap64 (Int.tmod (IntKind.u64.wrap (a1)) 53)))))) = true := by simpa using c28))
                          (try (have c28b2 : (t730 == ((wrap64 ((wrap64 (t721 - t719)) + 1)) == (wrap64 (1 + (wrap64 (Int.tmod (IntKind.u64.wrap (a1)) 53)))))) = true := by simpa using c28))
                          clear c28
                          by_cases c29 : t734 = true
                          · subst c29
                            have H1 : (some false) = some r := by rw [if_pos rfl] at H; exact H
                            clear H
                            have H := H1
                            clear H1
                            exact absurd ((Option.some.inj H).trans hr.out) (by decide)
                          · as_aux_lemma =>
                              replace c29 := Bool.eq_false_iff.mpr c29
                              subst c29
                              have H1 : ((solsticelaw22_wakes.f kj6).bind fun t735 => (some t735)) = some r := by rw [if_neg (show ¬ (false = true) by decide)] at H; exact H
                              clear H
                              have H := H1
                              clear H1
                              replace H := Option.bind_eq_some_iff.mp H
                              obtain ⟨t735, A440, H⟩ := H
                              replace H : (some t735) = some r := H
                              have A44 := Aside0.mk A440
                              clear A440
                              obtain rfl := Option.some.inj H
                              go_wp2_with (first | ((with_reducible refine gate_callee (f := 30) rfl ?_); refine goesL_ (some 60) rfl rfl Try.func30 (by kernel_rfl) rfl #[.int .i64 t710, .int .i64 (wrap64 (Int.tmod (IntKind.u64.wrap (a2)) 7))] rfl (by (try simp only [List.map_toArray, List.map_cons, List.map_nil]); first | done | rfl | (simp only [List.length_drop, List.length_take]; rfl)) ?_; (with_reducible refine (week_No.calls kj6 t710 (wrap64 (Int.tmod (IntKind.u64.wrap (a2)) 7)) t718 t719 t720 _ A20.out).mono ?_); rintro e w45 ⟨rfl, hb⟩; refine ⟨_, rfl, ?_⟩; have n0_ := Aside0.mk (blk_below (g := gb716) (o := .cells #[.int .i64 t712, .int .i64 t713, .int .i64 t714] 39 (0, 0)) (by (with_reducible repeat (first | refine blk_drewN ?_ _ | refine blk_drew ?_ | refine blk_alloc ?_ _)); exact BK716.out) hb); have n1_ := Aside0.mk (below_step (by repeat (first | (with_reducible first | exact HB.out | apply below_alloc | apply pw_below_drewN | apply below_drew1 | refine below_set ?_ GE716.out) | exact HB.out)) hb); clear BK716; clear HB; have BK716 := n0_; have HB := n1_; clear n0_ n1_; (try clear hb); (try clear hb2); (try clear hk); (try clear hi)) | ((with_reducible refine gate_callee (f := 31) rfl ?_); refine goesL_ (some 67) rfl rfl Try.func31 (by kernel_rfl) rfl #[.int .i64 t718, .int .i64 (wrap64 (Int.tmod (IntKind.u64.wrap (a2)) 7))] rfl (by (try simp only [List.map_toArray, List.map_cons, List.map_nil]); first | done | rfl | (simp only [List.length_drop, List.length_take]; rfl)) ?_; (with_reducible refine (week_Weeks.calls kj6 t718 (wrap64 (Int.tmod (IntKind.u64.wrap (a2)) 7)) t721 t722 _ A21.out).mono ?_); rintro e w46 ⟨rfl, hb⟩; refine ⟨_, rfl, ?_⟩; have n0_ := Aside0.mk (blk_below (g := gb716) (o := .cells #[.int .i64 t712, .int .i64 t713, .int .i64 t714] 39 (0, 0)) (by (with_reducible repeat (first | refine blk_drewN ?_ _ | refine blk_drew ?_ | refine blk_alloc ?_ _)); exact BK716.out) hb); have n1_ := Aside0.mk (below_step (by repeat (first | (with_reducible first | exact HB.out | apply below_alloc | apply pw_below_drewN | apply below_drew1 | refine below_set ?_ GE716.out) | exact HB.out)) hb); clear BK716; clear HB; have BK716 := n0_; have HB := n1_; clear n0_ n1_; (try clear hb); (try clear hb2); (try clear hk); (try clear hi)) | ((with_reducible refine gate_dst (N := 72) rfl ?_); refine Kd.R_lit (Kd.int .i64) _ 3 ?hg (N := 72) ?hd (xs := ([(wrap64 (1 + (wrap64 (Int.tmod (IntKind.u64.wrap (a1)) 53))))] : List Int)) (inner := [.int .i64 (wrap64 (1 + (wrap64 (Int.tmod (IntKind.u64.wrap (a1)) 53))))]) (ok := fun _ => True) (okp := fun _ => True) ?hr ?hp (fun _ hk => hk) trivial (Below.refl _ _) (Nat.le_refl _) (by simp) ?_; (case hd => rfl); (case hg => rfl); (case hr => first | (go_simp; done) | (go_simp; rfl)); (case hp => exact (Reps.one (show Kd.M (Kd.int .i64) _ _ _ (wrap64 (1 + (wrap64 (Int.tmod (IntKind.u64.wrap (a1)) 53)))) [.int .i64 (wrap64 (1 + (wrap64 (Int.tmod (IntKind.u64.wrap (a1)) 53))))] from rfl) (Reps.none _ _))); intro v724 w47 ho48 hb hg_ hnew_; clear hg_ hnew_; (first | rw [← Ny723.out] at ho48 | (simp only [Int.reduceToNat] at ho48; rw [← Ny723.out] at ho48)); have n0_ := Aside0.mk (Kd.R_lower ho48 (below_size (by repeat (first | (with_reducible first | exact HB.out | apply below_alloc | apply pw_below_drewN | apply below_drew1 | refine below_set ?_ GE716.out) | exact HB.out)))); have n1_ := Aside0.mk (blk_below (g := gb716) (o := .cells #[.int .i64 t712, .int .i64 t713, .int .i64 t714] 39 (0, 0)) (by (with_reducible repeat (first | refine blk_drewN ?_ _ | refine blk_drew ?_ | refine blk_alloc ?_ _)); exact BK716.out) hb); have n2_ := Aside0.mk (below_step (by repeat (first | (with_reducible first | exact HB.out | apply below_alloc | apply pw_below_drewN | apply below_drew1 | refine below_set ?_ GE716.out) | exact HB.out)) hb); clear BK716; clear HB; have HO725 := n0_; have BK716 := n1_; have HB := n2_; clear n0_ n1_ n2_; clear hb ho48; obtain ⟨Ao49, co49, eo49⟩ := Kd.R_slice HO725.out; subst eo49) | ((with_reducible refine gate_callee (f := 12) rfl ?_); refine goesL_ (some 76) rfl rfl Try.func12 (by kernel_rfl) rfl #[.agg #[.int .i64 7, .int .i64 1, .int .i64 0, .bool false, .int .i64 0, .bool false, .slice none 0 0, .slice none 0 0, .slice none 0 0, .slice none 0 0, .slice none 0 0, .slice none 0 0, .slice Ao49 y723.length co49, .slice none 0 0, .slice none 0 0, .int .i64 (wrap64 (Int.tmod (IntKind.u64.wrap (a2)) 7))], .int .i64 t709, .int .i64 t709] rfl (by (try simp only [List.map_toArray, List.map_cons, List.map_nil]); first | done | rfl | (simp only [List.length_drop, List.length_take]; rfl)) ?_; (refine (filter_Lets.calls kj6 7 1 0 false 0 false _ _ ([] : List Int) _ _ ([] : List Int) _ _ ([] : List Int) _ _ ([] : List (S47)) _ _ ([] : List Int) _ _ ([] : List Int) _ _ y723 _ _ ([] : List Int) _ _ ([] : List Int) (wrap64 (Int.tmod (IntKind.u64.wrap (a2)) 7)) t709 t709 t726 _ ?side1 ?side2 ?side3 ?side4 ?side5 ?side6 ?side7 ?side8 ?side9 ?side10 ?side11 ?side12 ?side13 ?side14 ?side15 ?side16 ?side17 ?side18 A22.out).mono ?_); (case side1 => exact Kd.C_nil _ _); (case side2 => exact Nat.le_refl _); (case side3 => exact Kd.C_nil _ _); (case side4 => exact Nat.le_refl _); (case side5 => exact Kd.C_nil _ _); (case side6 => exact Nat.le_refl _); (case side7 => exact Kd.C_nil _ _); (case side8 => exact Nat.le_refl _); (case side9 => exact Kd.C_nil _ _); (case side10 => exact Nat.le_refl _); (case side11 => exact Kd.C_nil _ _); (case side12 => exact Nat.le_refl _); (case side13 => repeat (first | exact (Kd.R_reads' HO725.out).2.2 | (with_reducible refine Kd.C_alloc ?_ _) | (with_reducible refine Kd.C_drewN ?_ _) | (with_reducible refine Kd.C_drew ?_))); (case side14 => exact (Kd.R_reads' HO725.out).2.1); (case side15 => exact Kd.C_nil _ _); (case side16 => exact Nat.le_refl _); (case side17 => exact Kd.C_nil _ _); (case side18 => exact Nat.le_refl _); rintro e w50 ⟨rfl, hb⟩; refine ⟨_, rfl, ?_⟩; have n0_ := Aside0.mk (Kd.R_below (by (with_reducible repeat (first | apply Kd.R_alloc | apply Kd.R_drewN | apply Kd.R_drew)); exact HO725.out) hb); have n1_ := Aside0.mk (blk_below (g := gb716) (o := .cells #[.int .i64 t712, .int .i64 t713, .int .i64 t714] 39 (0, 0)) (by (with_reducible repeat (first | refine blk_drewN ?_ _ | refine blk_drew ?_ | refine blk_alloc ?_ _)); exact BK716.out) hb); have n2_ := Aside0.mk (below_step (by repeat (first | (with_reducible first | exact HB.out | apply below_alloc | apply pw_below_drewN | apply below_drew1 | refine below_set ?_ GE716.out) | exact HB.out)) hb); clear HO725; clear BK716; clear HB; have HO725 := n0_; have BK716 := n1_; have HB := n2_; clear n0_ n1_ n2_; (try clear hb); (try clear hb2); (try clear hk); (try clear hi)) | ((with_reducible refine gate_dst (N := 80) rfl ?_); refine Kd.R_lit (Kd.int .i64) _ 3 ?hg (N := 80) ?hd (xs := ([wrap64 (-(wrap64 (1 + (wrap64 (Int.tmod (IntKind.u64.wrap (a1)) 53)))))] : List Int)) (inner := [.int .i64 (wrap64 (-(wrap64 (1 + (wrap64 (Int.tmod (IntKind.u64.wrap (a1)) 53))))))]) (ok := fun _ => True) (okp := fun _ => True) ?hr ?hp (fun _ hk => hk) trivial (Below.refl _ _) (Nat.le_refl _) (by simp) ?_; (case hd => rfl); (case hg => rfl); (case hr => first | (go_simp; done) | (go_simp; rfl)); (case hp => exact (Reps.one (show Kd.M (Kd.int .i64) _ _ _ (wrap64 (-(wrap64 (1 + (wrap64 (Int.tmod (IntKind.u64.wrap (a1)) 53)))))) [.int .i64 (wrap64 (-(wrap64 (1 + (wrap64 (Int.tmod (IntKind.u64.wrap (a1)) 53))))))] from rfl) (Reps.none _ _))); intro v728 w51 ho52 hb hg_ hnew_; clear hg_ hnew_; (first | rw [← Ny727.out] at ho52 | (simp only [Int.reduceToNat] at ho52; rw [← Ny727.out] at ho52)); have n0_ := Aside0.mk (Kd.R_elder' (by (with_reducible repeat (first | apply Kd.R_alloc | apply Kd.R_drewN | apply Kd.R_drew)); exact HO725.out) (Kd.R_base ho52) hb); have n1_ := Aside0.mk (Kd.R_lower (Kd.R_new' ho52 (Kd.R_lt (by (with_reducible repeat (first | apply Kd.R_alloc | apply Kd.R_drewN | apply Kd.R_drew)); exact HO725.out))) (below_size (by repeat (first | (with_reducible first | exact HB.out | apply below_alloc | apply pw_below_drewN | apply below_drew1 | refine below_set ?_ GE716.out) | exact HB.out)))); have n2_ := Aside0.mk (blk_below (g := gb716) (o := .cells #[.int .i64 t712, .int .i64 t713, .int .i64 t714] 39 (0, 0)) (by (with_reducible repeat (first | refine blk_drewN ?_ _ | refine blk_drew ?_ | refine blk_alloc ?_ _)); exact BK716.out) hb); have n3_ := Aside0.mk (below_step (by repeat (first | (with_reducible first | exact HB.out | apply below_alloc | apply pw_below_drewN | apply below_drew1 | refine below_set ?_ GE716.out) | exact HB.out)) hb); clear HO725; clear BK716; clear HB; have HO725 := n0_; have HO729 := n1_; have BK716 := n2_; have HB := n3_; clear n0_ n1_ n2_ n3_; clear hb ho52; obtain ⟨Ao53, co53, eo53⟩ := Kd.R_slice HO729.out; subst eo53) | ((with_reducible refine gate_callee (f := 12) rfl ?_); refine goesL_ (some 84) rfl rfl Try.func12 (by kernel_rfl) rfl #[.agg #[.int .i64 7, .int .i64 1, .int .i64 0, .bool false, .int .i64 0, .bool false, .slice none 0 0, .slice none 0 0, .slice none 0 0, .slice none 0 0, .slice none 0 0, .slice none 0 0, .slice Ao53 y727.length co53, .slice none 0 0, .slice none 0 0, .int .i64 (wrap64 (Int.tmod (IntKind.u64.wrap (a2)) 7))], .int .i64 t709, .int .i64 t709] rfl (by (try simp only [List.map_toArray, List.map_cons, List.map_nil]); first | done | rfl | (simp only [List.length_drop, List.length_take]; rfl)) ?_; (refine (filter_Lets.calls kj6 7 1 0 false 0 false _ _ ([] : List Int) _ _ ([] : List Int) _ _ ([] : List Int) _ _ ([] : List (S47)) _ _ ([] : List Int) _ _ ([] : List Int) _ _ y727 _ _ ([] : List Int) _ _ ([] : List Int) (wrap64 (Int.tmod (IntKind.u64.wrap (a2)) 7)) t709 t709 t730 _ ?side1 ?side2 ?side3 ?side4 ?side5 ?side6 ?side7 ?side8 ?side9 ?side10 ?side11 ?side12 ?side13 ?side14 ?side15 ?side16 ?side17 ?side18 A23.out).mono ?_); (case side1 => exact Kd.C_nil _ _); (case side2 => exact Nat.le_refl _); (case side3 => exact Kd.C_nil _ _); (case side4 => exact Nat.le_refl _); (case side5 => exact Kd.C_nil _ _); (case side6 => exact Nat.le_refl _); (case side7 => exact Kd.C_nil _ _); (case side8 => exact Nat.le_refl _); (case side9 => exact Kd.C_nil _ _); (case side10 => exact Nat.le_refl _); (case side11 => exact Kd.C_nil _ _); (case side12 => exact Nat.le_refl _); (case side13 => repeat (first | exact (Kd.R_reads' HO729.out).2.2 | (with_reducible refine Kd.C_alloc ?_ _) | (with_reducible refine Kd.C_drewN ?_ _) | (with_reducible refine Kd.C_drew ?_))); (case side14 => exact (Kd.R_reads' HO729.out).2.1); (case side15 => exact Kd.C_nil _ _); (case side16 => exact Nat.le_refl _); (case side17 => exact Kd.C_nil _ _); (case side18 => exact Nat.le_refl _); rintro e w54 ⟨rfl, hb⟩; refine ⟨_, rfl, ?_⟩; have n0_ := Aside0.mk (Kd.R_below (by (with_reducible repeat (first | apply Kd.R_alloc | apply Kd.R_drewN | apply Kd.R_drew)); exact HO725.out) hb); have n1_ := Aside0.mk (Kd.R_below (by (with_reducible repeat (first | apply Kd.R_alloc | apply Kd.R_drewN | apply Kd.R_drew)); exact HO729.out) hb); have n2_ := Aside0.mk (blk_below (g := gb716) (o := .cells #[.int .i64 t712, .int .i64 t713, .int .i64 t714] 39 (0, 0)) (by (with_reducible repeat (first | refine blk_drewN ?_ _ | refine blk_drew ?_ | refine blk_alloc ?_ _)); exact BK716.out) hb); have n3_ := Aside0.mk (below_step (by repeat (first | (with_reducible first | exact HB.out | apply below_alloc | apply pw_below_drewN | apply below_drew1 | refine below_set ?_ GE716.out) | exact HB.out)) hb); clear HO725; clear HO729; clear BK716; clear HB; have HO725 := n0_; have HO729 := n1_; have BK716 := n2_; have HB := n3_; clear n0_ n1_ n2_ n3_; (try clear hb); (try clear hb2); (try clear hk); (try clear hi)) | ((with_reducible refine gate_dst (N := 87) rfl ?_); refine Kd.R_lit (Kd.int .i64) _ 3 ?hg (N := 87) ?hd (xs := ([t719] : List Int)) (inner := [.int .i64 t719]) (ok := fun _ => True) (okp := fun _ => True) ?hr ?hp (fun _ hk => hk) trivial (Below.refl _ _) (Nat.le_refl _) (by simp) ?_; (case hd => rfl); (case hg => rfl); (case hr => first | (go_simp; done) | (go_simp; rfl)); (case hp => exact (Reps.one (show Kd.M (Kd.int .i64) _ _ _ t719 [.int .i64 t719] from rfl) (Reps.none _ _))); intro v732 w55 ho56 hb hg_ hnew_; clear hg_ hnew_; (first | rw [← Ny731.out] at ho56 | (simp only [Int.reduceToNat] at ho56; rw [← Ny731.out] at ho56)); have n0_ := Aside0.mk (Kd.R_elder' (by (with_reducible repeat (first | apply Kd.R_alloc | apply Kd.R_drewN | apply Kd.R_drew)); exact HO725.out) (Kd.R_base ho56) hb); have n1_ := Aside0.mk (Kd.R_elder' (by (with_reducible repeat (first | apply Kd.R_alloc | apply Kd.R_drewN | apply Kd.R_drew)); exact HO729.out) (Kd.R_base ho56) hb); have n2_ := Aside0.mk (Kd.R_lower (Kd.R_new' (Kd.R_new' ho56 (Kd.R_lt (by (with_reducible repeat (first | apply Kd.R_alloc | apply Kd.R_drewN | apply Kd.R_drew)); exact HO725.out))) (Kd.R_lt (by (with_reducible repeat (first | apply Kd.R_alloc | apply Kd.R_drewN | apply Kd.R_drew)); exact HO729.out))) (below_size (by repeat (first | (with_reducible first | exact HB.out | apply below_alloc | apply pw_below_drewN | apply below_drew1 | refine below_set ?_ GE716.out) | exact HB.out)))); have n3_ := Aside0.mk (blk_below (g := gb716) (o := .cells #[.int .i64 t712, .int .i64 t713, .int .i64 t714] 39 (0, 0)) (by (with_reducible repeat (first | refine blk_drewN ?_ _ | refine blk_drew ?_ | refine blk_alloc ?_ _)); exact BK716.out) hb); have n4_ := Aside0.mk (below_step (by repeat (first | (with_reducible first | exact HB.out | apply below_alloc | apply pw_below_drewN | apply below_drew1 | refine below_set ?_ GE716.out) | exact HB.out)) hb); clear HO725; clear HO729; clear BK716; clear HB; have HO725 := n0_; have HO729 := n1_; have HO733 := n2_; have BK716 := n3_; have HB := n4_; clear n0_ n1_ n2_ n3_ n4_; clear hb ho56; obtain ⟨Ao57, co57, eo57⟩ := Kd.R_slice HO733.out; subst eo57) | ((with_reducible refine gate_callee (f := 12) rfl ?_); refine goesL_ (some 92) rfl rfl Try.func12 (by kernel_rfl) rfl #[.agg #[.int .i64 7, .int .i64 1, .int .i64 0, .bool false, .int .i64 0, .bool false, .slice none 0 0, .slice none 0 0, .slice none 0 0, .slice none 0 0, .slice none 0 0, .slice none 0 0, .slice Ao57 y731.length co57, .slice none 0 0, .slice none 0 0, .int .i64 (wrap64 (Int.tmod (IntKind.u64.wrap (a2)) 7))], .int .i64 (wrap64 (t709 - 86400)), .int .i64 t709] rfl (by (try simp only [List.map_toArray, List.map_cons, List.map_nil]); first | done | rfl | (simp only [List.length_drop, List.length_take]; rfl)) ?_; (refine (filter_Lets.calls kj6 7 1 0 false 0 false _ _ ([] : List Int) _ _ ([] : List Int) _ _ ([] : List Int) _ _ ([] : List (S47)) _ _ ([] : List Int) _ _ ([] : List Int) _ _ y731 _ _ ([] : List Int) _ _ ([] : List Int) (wrap64 (Int.tmod (IntKind.u64.wrap (a2)) 7)) (wrap64 (t709 - 86400)) t709 false _ ?side1 ?side2 ?side3 ?side4 ?side5 ?side6 ?side7 ?side8 ?side9 ?side10 ?side11 ?side12 ?side13 ?side14 ?side15 ?side16 ?side17 ?side18 A24.out).mono ?_); (case side1 => exact Kd.C_nil _ _); (case side2 => exact Nat.le_refl _); (case side3 => exact Kd.C_nil _ _); (case side4 => exact Nat.le_refl _); (case side5 => exact Kd.C_nil _ _); (case side6 => exact Nat.le_refl _); (case side7 => exact Kd.C_nil _ _); (case side8 => exact Nat.le_refl _); (case side9 => exact Kd.C_nil _ _); (case side10 => exact Nat.le_refl _); (case side11 => exact Kd.C_nil _ _); (case side12 => exact Nat.le_refl _); (case side13 => repeat (first | exact (Kd.R_reads' HO733.out).2.2 | (with_reducible refine Kd.C_alloc ?_ _) | (with_reducible refine Kd.C_drewN ?_ _) | (with_reducible refine Kd.C_drew ?_))); (case side14 => exact (Kd.R_reads' HO733.out).2.1); (case side15 => exact Kd.C_nil _ _); (case side16 => exact Nat.le_refl _); (case side17 => exact Kd.C_nil _ _); (case side18 => exact Nat.le_refl _); rintro e w58 ⟨rfl, hb⟩; refine ⟨_, rfl, ?_⟩; have n0_ := Aside0.mk (Kd.R_below (by (with_reducible repeat (first | apply Kd.R_alloc | apply Kd.R_drewN | apply Kd.R_drew)); exact HO725.out) hb); have n1_ := Aside0.mk (Kd.R_below (by (with_reducible repeat (first | apply Kd.R_alloc | apply Kd.R_drewN | apply Kd.R_drew)); exact HO729.out) hb); have n2_ := Aside0.mk (Kd.R_below (by (with_reducible repeat (first | apply Kd.R_alloc | apply Kd.R_drewN | apply Kd.R_drew)); exact HO733.out) hb); have n3_ := Aside0.mk (blk_below (g := gb716) (o := .cells #[.int .i64 t712, .int .i64 t713, .int .i64 t714] 39 (0, 0)) (by (with_reducible repeat (first | refine blk_drewN ?_ _ | refine blk_drew ?_ | refine blk_alloc ?_ _)); exact BK716.out) hb); have n4_ := Aside0.mk (below_step (by repeat (first | (with_reducible first | exact HB.out | apply below_alloc | apply pw_below_drewN | apply below_drew1 | refine below_set ?_ GE716.out) | exact HB.out)) hb); clear HO725; clear HO729; clear HO733; clear BK716; clear HB; have HO725 := n0_; have HO729 := n1_; have HO733 := n2_; have BK716 := n3_; have HB := n4_; clear n0_ n1_ n2_ n3_ n4_; (try clear hb); (try clear hb2); (try clear hk); (try clear hi)) | (go_at_call 16; (with_reducible refine (solsticelaw22_wakes.calls kj6  t735 _ hr.out A44.out).mono ?_); rintro e w59 ⟨rfl, hb⟩; have n0_ := Aside0.mk (Kd.R_below (by (with_reducible repeat (first | apply Kd.R_alloc | apply Kd.R_drewN | apply Kd.R_drew)); exact HO725.out) hb); have n1_ := Aside0.mk (Kd.R_below (by (with_reducible repeat (first | apply Kd.R_alloc | apply Kd.R_drewN | apply Kd.R_drew)); exact HO729.out) hb); have n2_ := Aside0.mk (Kd.R_below (by (with_reducible repeat (first | apply Kd.R_alloc | apply Kd.R_drewN | apply Kd.R_drew)); exact HO733.out) hb); have n3_ := Aside0.mk (blk_below (g := gb716) (o := .cells #[.int .i64 t712, .int .i64 t713, .int .i64 t714] 39 (0, 0)) (by (with_reducible repeat (first | refine blk_drewN ?_ _ | refine blk_drew ?_ | refine blk_alloc ?_ _)); exact BK716.out) hb); have n4_ := Aside0.mk (below_step (by repeat (first | (with_reducible first | exact HB.out | apply below_alloc | apply pw_below_drewN | apply below_drew1 | refine below_set ?_ GE716.out) | exact HB.out)) hb); clear HO725; clear HO729; clear HO733; clear BK716; clear HB; have HO725 := n0_; have HO729 := n1_; have HO733 := n2_; have BK716 := n3_; have HB := n4_; clear n0_ n1_ n2_ n3_ n4_; (try clear hb); (try clear hb2); (try clear hk); (try clear hi)))
                              go_ret
                              exact ⟨by first | rfl | (simp [errW_none, errW_some] <;> rfl) | (simp [*, errW_none, errW_some] <;> rfl), by repeat (first | (with_reducible first | exact HB.out | apply below_alloc | apply pw_below_drewN | apply below_drew1 | refine below_set ?_ GE716.out) | exact HB.out)⟩
                      · rw [if_neg c28] at H
                        have c28b0 : (t730 == ((wrap64 ((wrap64 (t721 - t719)) + 1)) == (wrap64 (1 + (wrap64 (Int.tmod (IntKind.u64.wrap (a1)) 53)))))) = false := by simpa using c28
                        (try (have c28b1 : decide (t730 = ((wrap64 ((wrap64 (t721 - t719)) + 1)) == (wrap64 (1 + (wrap64 (Int.tmod (IntKind.u64.wrap (a1)) 53)))))) = false := by simpa using c28))
                        (try (have c28b2 : (t730 == ((wrap64 ((wrap64 (t721 - t719)) + 1)) == (wrap64 (1 + (wrap64 (Int.tmod (IntKind.u64.wrap (a1)) 53)))))) = false := by simpa using c28))
                        (try (have c28b3 : ¬ (t730 = ((wrap64 ((wrap64 (t721 - t719)) + 1)) == (wrap64 (1 + (wrap64 (Int.tmod (IntKind.u64.wrap (a1)) 53)))))) := by simpa using c28))
                        clear c28
                        exact absurd ((Option.some.inj H).trans hr.out) (by decide)
                  · rw [if_neg c27] at H
                    have c27b0 : (t726 == (t719 == (wrap64 (1 + (wrap64 (Int.tmod (IntKind.u64.wrap (a1)) 53)))))) = false := by simpa using c27
                    (try (have c27b1 : decide (t726 = (t719 == (wrap64 (1 + (wrap64 (Int.tmod (IntKind.u64.wrap (a1)) 53)))))) = false := by simpa using c27))
                    (try (have c27b2 : (t726 == (t719 == (wrap64 (1 + (wrap64 (Int.tmod (IntKind.u64.wrap (a1)) 53)))))) = false := by simpa using c27))
                    (try (have c27b3 : ¬ (t726 = (t719 == (wrap64 (1 + (wrap64 (Int.tmod (IntKind.u64.wrap (a1)) 53)))))) := by simpa using c27))
                    clear c27
                    exact absurd ((Option.some.inj H).trans hr.out) (by decide)
              · rw [if_neg c26] at H
                have c26b0 : (t722 == 0) = false := beq_eq_false_iff_ne.mpr c26
                have c26b1 : (t722 != 0) = true := bne_iff_ne.mpr c26
                exact absurd ((Option.some.inj H).trans hr.out) (by decide)
          · rw [if_neg c25] at H
            have c25b0 : (t720 == 0) = false := beq_eq_false_iff_ne.mpr c25
            have c25b1 : (t720 != 0) = true := bne_iff_ne.mpr c25
            exact absurd ((Option.some.inj H).trans hr.out) (by decide)
/-- THE ONE PURE STATEMENT of solsticelaw22_FilterWeeks: yours. -/
def solsticelaw22_FilterWeeks.Pure : Prop := ∀ (a0 : Int) (a1 : Int) (a2 : Int), (Lit.int .i64 a0).wf = true → (Lit.int .i64 a1).wf = true → (Lit.int .i64 a2).wf = true → ∃ k, solsticelaw22_FilterWeeks.f k a0 a1 a2 = some true
theorem solsticelaw22_FilterWeeks.walk (P : solsticelaw22_FilterWeeks.Pure) (a0 : Int) (a1 : Int) (a2 : Int) (w : World) (w0 : (Lit.int .i64 a0).wf = true) (w1 : (Lit.int .i64 a1).wf = true) (w2 : (Lit.int .i64 a2).wf = true) :
    Calls Try.prog 8 #[.int .i64 a0, .int .i64 a1, .int .i64 a2] w fun e w' => e = .returned (.bool true) ∧ Below w.heap.size w w' := by
  obtain ⟨k, h⟩ := P a0 a1 a2 w0 w1 w2
  refine (solsticelaw22_FilterWeeks.calls k a0 a1 a2 true w rfl h).mono ?_
  rintro e w' ⟨rfl, hd⟩
  exact ⟨rfl, hd⟩

end
end Go.Proofs.Ytmhpmkbifhgnbaa.O
