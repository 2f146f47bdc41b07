-- What wakes of the statements of layer 22 computes, where it is true: a text of this claim's own.
-- What some functions of the program compute: a text of this claim's own (lines first written by the kit's tool, some proved anew).
import Derived.Test.YtmhpmkbifhgnbaaMOx42
import Derived.Test.YtmhpmkbifhgnbaaOx48
import Derived.Test.YtmhpmkbifhgnbaaOx50
import Derived.Test.YtmhpmkbifhgnbaaMOx0
import Derived.Test.YtmhpmkbifhgnbaaOx57
namespace Go.Proofs.Ytmhpmkbifhgnbaa.O
open Go.RowKit Go.Proofs.YtmhpmkbifhgnbaaW.PrintWords Go.Proofs.YtmhpmkbifhgnbaaW.PrintLast Go.Proofs.YtmhpmkbifhgnbaaW.PrintMore
set_option linter.unusedVariables false
set_option linter.unusedSimpArgs false
def solsticelaw22_wakes.f (k : Nat)  : Option (Bool) := (some (([(⟨0, 5⟩ : S47)] : List (S47)) : List (S47))).bind fun y383 => ((filter_Period.f k 5 1 0 false 0 false ([] : List Int) ([] : List Int) ([] : List Int) y383 ([] : List Int) ([] : List Int) ([] : List Int) ([] : List Int) ([] : List Int) 1 0).bind fun bt387 => ((filter_Span.f k 5 1 0 false 0 false ([] : List Int) ([] : List Int) ([] : List Int) y383 ([] : List Int) ([] : List Int) ([] : List Int) ([] : List Int) ([] : List Int) 1 bt387.1).bind fun bt389 => (if bt387.2 = 0 then (if bt389.2.2 = 0 then (if (wrap64 (bt389.2.1 - bt389.1)) = 604799 then ((filter_Lets.f k 5 1 0 false 0 false ([] : List Int) ([] : List Int) ([] : List Int) y383 ([] : List Int) ([] : List Int) ([] : List Int) ([] : List Int) ([] : List Int) 1 0 86400).bind fun t392 => (if t392 = true then ((filter_Lets.f k 5 1 0 false 0 false ([] : List Int) ([] : List Int) ([] : List Int) y383 ([] : List Int) ([] : List Int) ([] : List Int) ([] : List Int) ([] : List Int) 1 0 0).bind fun t393 => (if t393 = true then (some false) else ((filter_Lets.f k 5 1 0 false 0 false ([] : List Int) ([] : List Int) ([] : List Int) y383 ([] : List Int) ([] : List Int) ([] : List Int) ([] : List Int) ([] : List Int) 1 0 86401).bind fun t394 => (some (!t394))))) else (some false))) else (some false)) else (some false)) else (some false))))
theorem solsticelaw22_wakes.mono : ∀ k, LeO (solsticelaw22_wakes.f k ) (solsticelaw22_wakes.f (k + 1) ) := by
  intro  k
  unfold solsticelaw22_wakes.f
  repeat' first
      | (with_reducible exact filter_Lets.mono _ _ _ _ _ _ _ _ _ _ _ _ _ _ _ _ _ _ _)
      | (with_reducible exact filter_Period.mono _ _ _ _ _ _ _ _ _ _ _ _ _ _ _ _ _ _)
      | (with_reducible exact filter_Span.mono _ _ _ _ _ _ _ _ _ _ _ _ _ _ _ _ _ _)
      | (with_reducible exact LeO.refl _)
      | (with_reducible exact LeO.none _)
      | (with_reducible refine LeO.ite ?_ ?_)
      | (with_reducible refine LeO.bind ?_ (fun _ => ?_))
      | exact filter_Lets.mono _ _ _ _ _ _ _ _ _ _ _ _ _ _ _ _ _ _ _
      | exact filter_Period.mono _ _ _ _ _ _ _ _ _ _ _ _ _ _ _ _ _ _
      | exact filter_Span.mono _ _ _ _ _ _ _ _ _ _ _ _ _ _ _ _ _ _
      | exact LeO.none _
      | refine LeO.ite ?_ ?_
      | refine LeO.bind ?_ (fun _ => ?_)
theorem C_nil {α : Type} (d : Kd α) (w : World) (A : Option Addr) : Kd.C d w A 0 [] := ⟨rfl, by omega, fun h => absurd h (Nat.lt_irrefl 0)⟩
theorem C_one47 {w : World} {g : Nat} (x : S47) (h : w.heap[g]? = some (.cells #[.int .i64 x.f0, .int .i64 x.f1] 47 (0, 0))) : Kd.C k47 w (some ⟨g, 0, none⟩) 1 [x] := by
  refine ⟨rfl, by omega, fun _ => ⟨_, rfl, fun j p hp => ?_⟩⟩
  match j, hp with
  | 0, hp =>
    obtain rfl : x = p := by simpa using hp
    refine ⟨_, rfl, k47_mk _ _, fun i u hu => ?_⟩
    have e : (⟨g, 0, none⟩ : Addr).add (0 * k47.sz + i) = ⟨g, i, none⟩ := by simp [Addr.add]; try (intro h; exact h.symm)
    rw [e]
    exact (blk_cell h i).trans (by simpa using hu)
  | j + 1, hp => simp at hp
set_option maxHeartbeats 8000000 in
set_option maxRecDepth 100000 in
theorem solsticelaw22_wakes.calls (k : Nat) (r : Bool) (w : World) (hr0 : r = true) (h : solsticelaw22_wakes.f k = some r) :
    Calls Try.prog 16 #[] w fun e w' => e = .returned (.bool r) ∧ Below w.heap.size w w' := by
  subst hr0
  have H := h
  clear h
  unfold solsticelaw22_wakes.f at H
  rw [Option.bind_some] at H
  obtain ⟨⟨r1, r2⟩, h1, H⟩ := Option.bind_eq_some_iff.mp H
  obtain ⟨⟨s1, s2, s3⟩, h2, H⟩ := Option.bind_eq_some_iff.mp H
  dsimp only at H h2
  by_cases c1 : r2 = 0
  · by_cases c2 : s3 = 0
    · by_cases c3 : wrap64 (s2 - s1) = 604799
      · rw [if_pos c1, if_pos c2, if_pos c3] at H
        obtain ⟨t1, h3, H⟩ := Option.bind_eq_some_iff.mp H
        cases t1 with
        | false => simp at H
        | true =>
          rw [if_pos rfl] at H
          obtain ⟨t2, h4, H⟩ := Option.bind_eq_some_iff.mp H
          cases t2 with
          | true => simp at H
          | false =>
            rw [if_neg (by decide)] at H
            obtain ⟨t3, h5, H⟩ := Option.bind_eq_some_iff.mp H
            cases t3 with
            | true => simp at H
            | false =>
              clear H
              subst c1 c2
              have c3b : (wrap64 (s2 - s1) == 604799) = true := beq_iff_eq.mpr c3
              clear c3
              have H1 := Aside0.mk h1
              have H2 := Aside0.mk h2
              have H3 := Aside0.mk h3
              have H4 := Aside0.mk h4
              have H5 := Aside0.mk h5
              clear h1 h2 h3 h4 h5
              have hu47 := Try.underlying47
              have hu25 := Try.underlying25
              go_enter Try.func16, Try.ntmps16
              go_upto_region 2 with (fail)
              refine wp_abs (fun W => W.heap[w.heap.size + 1]? = some (.cells #[.int .i64 5, .int .i64 1, .int .i64 0, .bool false, .int .i64 0, .bool false, .slice none 0 0, .slice none 0 0, .slice none 0 0, .slice (some ⟨w.heap.size, 0, none⟩) 1 1, .slice none 0 0, .slice none 0 0, .slice none 0 0, .slice none 0 0, .slice none 0 0, .int .i64 1] 25 (0, 0)) ∧ Kd.C k47 W (some ⟨w.heap.size, 0, none⟩) 1 [⟨0, 5⟩] ∧ Below w.heap.size w W) ⟨?_, ?_, ?_⟩ ?_
              · exact (by simp : ((w.alloc (.cells #[.int .i64 0, .int .i64 5] 47)).heap.size = w.heap.size + 1)) ▸ blk_new (w.alloc (.cells #[.int .i64 0, .int .i64 5] 47)) _
              · exact Kd.C_below (C_one47 ⟨0, 5⟩ (blk_new w _)) (below_alloc (Below.refl _ _) _)
              · exact below_alloc (below_alloc (Below.refl _ _) _) _
              rintro W ⟨b1, b2, b3⟩
              have K1 := Aside0.mk b1
              have L1 := Aside0.mk b2
              have B1 := Aside0.mk b3
              have D1 := Aside0.mk (Below.refl W.heap.size W)
              clear b1 b2 b3
              go_wp2_with (first
                | ((with_reducible refine gate_dst (N := 11) rfl ?_); refine Kd.event_run (w1 := W) (v := .agg #[.int .i64 5, .int .i64 1, .int .i64 0, .bool false, .int .i64 0, .bool false, .slice none 0 0, .slice none 0 0, .slice none 0 0, .slice (some ⟨w.heap.size, 0, none⟩) 1 1, .slice none 0 0, .slice none 0 0, .slice none 0 0, .slice none 0 0, .slice none 0 0, .int .i64 1]) ?hg2 ?hr2 ?_; (case hg2 => rfl); (case hr2 => exact exec25 K1.out rfl rfl rfl))
                | (go_at_call 11; refine (filter_Period.calls k 5 1 0 false 0 false none 0 [] none 0 [] none 0 [] (some ⟨w.heap.size, 0, none⟩) 1 [⟨0, 5⟩] none 0 [] none 0 [] none 0 [] none 0 [] none 0 [] 1 0 r1 0 W (C_nil _ _ _) (by decide) (C_nil _ _ _) (by decide) (C_nil _ _ _) (by decide) (Kd.C_below L1.out D1.out) (by decide) (C_nil _ _ _) (by decide) (C_nil _ _ _) (by decide) (C_nil _ _ _) (by decide) (C_nil _ _ _) (by decide) (C_nil _ _ _) (by decide) H1.out).mono ?_; rintro e w2 ⟨rfl, hb⟩; have B2 := Aside0.mk (below_then B1.out B1.out.size hb); have D2 := Aside0.mk (below_then D1.out D1.out.size hb); have K2 := Aside0.mk ((hb.block _ (blk_lt K1.out)).trans K1.out); clear hb B1 D1 K1)
                | ((with_reducible refine gate_dst (N := 16) rfl ?_); refine Kd.event_run (w1 := w2) (v := .agg #[.int .i64 5, .int .i64 1, .int .i64 0, .bool false, .int .i64 0, .bool false, .slice none 0 0, .slice none 0 0, .slice none 0 0, .slice (some ⟨w.heap.size, 0, none⟩) 1 1, .slice none 0 0, .slice none 0 0, .slice none 0 0, .slice none 0 0, .slice none 0 0, .int .i64 1]) ?hg2 ?hr2 ?_; (case hg2 => rfl); (case hr2 => exact exec25 K2.out rfl rfl rfl))
                | (go_at_call 13; refine (filter_Span.calls k 5 1 0 false 0 false none 0 [] none 0 [] none 0 [] (some ⟨w.heap.size, 0, none⟩) 1 [⟨0, 5⟩] none 0 [] none 0 [] none 0 [] none 0 [] none 0 [] 1 r1 s1 s2 0 w2 (C_nil _ _ _) (by decide) (C_nil _ _ _) (by decide) (C_nil _ _ _) (by decide) (Kd.C_below L1.out D2.out) (by decide) (C_nil _ _ _) (by decide) (C_nil _ _ _) (by decide) (C_nil _ _ _) (by decide) (C_nil _ _ _) (by decide) (C_nil _ _ _) (by decide) H2.out).mono ?_; rintro e w3 ⟨rfl, hb⟩; have B3 := Aside0.mk (below_then B2.out B2.out.size hb); have D3 := Aside0.mk (below_then D2.out D2.out.size hb); have K3 := Aside0.mk ((hb.block _ (blk_lt K2.out)).trans K2.out); clear hb B2 D2 K2)
                | ((with_reducible refine gate_dst (N := 35) rfl ?_); (refine gate_guard (by rfl) ?_; dsimp only); refine Kd.event_run (w1 := w3) (v := .agg #[.int .i64 5, .int .i64 1, .int .i64 0, .bool false, .int .i64 0, .bool false, .slice none 0 0, .slice none 0 0, .slice none 0 0, .slice (some ⟨w.heap.size, 0, none⟩) 1 1, .slice none 0 0, .slice none 0 0, .slice none 0 0, .slice none 0 0, .slice none 0 0, .int .i64 1]) ?hg2 ?hr2 ?_; (case hg2 => rfl); (case hr2 => exact exec25 K3.out rfl rfl rfl))
                | (go_at_call 12; refine (filter_Lets.calls k 5 1 0 false 0 false none 0 [] none 0 [] none 0 [] (some ⟨w.heap.size, 0, none⟩) 1 [⟨0, 5⟩] none 0 [] none 0 [] none 0 [] none 0 [] none 0 [] 1 0 86400 true w3 (C_nil _ _ _) (by decide) (C_nil _ _ _) (by decide) (C_nil _ _ _) (by decide) (Kd.C_below L1.out D3.out) (by decide) (C_nil _ _ _) (by decide) (C_nil _ _ _) (by decide) (C_nil _ _ _) (by decide) (C_nil _ _ _) (by decide) (C_nil _ _ _) (by decide) H3.out).mono ?_; rintro e w4 ⟨rfl, hb⟩; have B4 := Aside0.mk (below_then B3.out B3.out.size hb); have D4 := Aside0.mk (below_then D3.out D3.out.size hb); have K4 := Aside0.mk ((hb.block _ (blk_lt K3.out)).trans K3.out); clear hb B3 D3 K3)
                | ((with_reducible refine gate_dst (N := 39) rfl ?_); (refine gate_guard (by rfl) ?_; dsimp only); refine Kd.event_run (w1 := w4) (v := .agg #[.int .i64 5, .int .i64 1, .int .i64 0, .bool false, .int .i64 0, .bool false, .slice none 0 0, .slice none 0 0, .slice none 0 0, .slice (some ⟨w.heap.size, 0, none⟩) 1 1, .slice none 0 0, .slice none 0 0, .slice none 0 0, .slice none 0 0, .slice none 0 0, .int .i64 1]) ?hg2 ?hr2 ?_; (case hg2 => rfl); (case hr2 => exact exec25 K4.out rfl rfl rfl))
                | (go_at_call 12; refine (filter_Lets.calls k 5 1 0 false 0 false none 0 [] none 0 [] none 0 [] (some ⟨w.heap.size, 0, none⟩) 1 [⟨0, 5⟩] none 0 [] none 0 [] none 0 [] none 0 [] none 0 [] 1 0 0 false w4 (C_nil _ _ _) (by decide) (C_nil _ _ _) (by decide) (C_nil _ _ _) (by decide) (Kd.C_below L1.out D4.out) (by decide) (C_nil _ _ _) (by decide) (C_nil _ _ _) (by decide) (C_nil _ _ _) (by decide) (C_nil _ _ _) (by decide) (C_nil _ _ _) (by decide) H4.out).mono ?_; rintro e w5 ⟨rfl, hb⟩; have B5 := Aside0.mk (below_then B4.out B4.out.size hb); have D5 := Aside0.mk (below_then D4.out D4.out.size hb); have K5 := Aside0.mk ((hb.block _ (blk_lt K4.out)).trans K4.out); clear hb B4 D4 K4)
                | ((with_reducible refine gate_dst (N := 44) rfl ?_); (refine gate_guard (by rfl) ?_; dsimp only); refine Kd.event_run (w1 := w5) (v := .agg #[.int .i64 5, .int .i64 1, .int .i64 0, .bool false, .int .i64 0, .bool false, .slice none 0 0, .slice none 0 0, .slice none 0 0, .slice (some ⟨w.heap.size, 0, none⟩) 1 1, .slice none 0 0, .slice none 0 0, .slice none 0 0, .slice none 0 0, .slice none 0 0, .int .i64 1]) ?hg2 ?hr2 ?_; (case hg2 => rfl); (case hr2 => exact exec25 K5.out rfl rfl rfl))
                | (go_at_call 12; refine (filter_Lets.calls k 5 1 0 false 0 false none 0 [] none 0 [] none 0 [] (some ⟨w.heap.size, 0, none⟩) 1 [⟨0, 5⟩] none 0 [] none 0 [] none 0 [] none 0 [] none 0 [] 1 0 86401 false w5 (C_nil _ _ _) (by decide) (C_nil _ _ _) (by decide) (C_nil _ _ _) (by decide) (Kd.C_below L1.out D5.out) (by decide) (C_nil _ _ _) (by decide) (C_nil _ _ _) (by decide) (C_nil _ _ _) (by decide) (C_nil _ _ _) (by decide) (C_nil _ _ _) (by decide) H5.out).mono ?_; rintro e w6 ⟨rfl, hb⟩; have B6 := Aside0.mk (below_then B5.out B5.out.size hb); have D6 := Aside0.mk (below_then D5.out D5.out.size hb); have K6 := Aside0.mk ((hb.block _ (blk_lt K5.out)).trans K5.out); clear hb B5 D5 K5))
              go_ret
              exact ⟨by first | rfl | simp, B6.out⟩
      · rw [if_pos c1, if_pos c2, if_neg c3] at H
        cases H
    · rw [if_pos c1, if_neg c2] at H
      cases H
  · rw [if_neg c1] at H
    cases H
end Go.Proofs.Ytmhpmkbifhgnbaa.O

namespace Go.Proofs.Ytmhpmkbifhgnbaa.O
open Go.RowKit Go.Proofs.YtmhpmkbifhgnbaaW.PrintWords Go.Proofs.YtmhpmkbifhgnbaaW.PrintLast Go.Proofs.YtmhpmkbifhgnbaaW.PrintMore
attribute [local go_sem] max2_int min2_int max_two min_two max_three min_three max_four min_four   -- for this text's walks alone
set_option linter.unusedVariables false
set_option linter.unusedSimpArgs false

/-! ### solsticelaw20_Some: function 21 -/
def solsticelaw20_Some.f (k : Nat) (a0 : Int) : Option (Int) := (solsticeref01_Number.f k 1 1 1).bind fun t552 => ((solsticeref01_Number.f k 10000 1 1).bind fun t553 => (if (IntKind.u64.wrap (wrap64 ((wrap64 (86400 * t553)) - (wrap64 (86400 * t552))))) = 0 then (none) else (some (wrap64 ((wrap64 (86400 * t552)) + (wrap64 (Int.tmod (IntKind.u64.wrap (a0)) (IntKind.u64.wrap (wrap64 ((wrap64 (86400 * t553)) - (wrap64 (86400 * t552))))))))))))
theorem solsticelaw20_Some.mono : ∀ a0 k, LeO (solsticelaw20_Some.f k a0) (solsticelaw20_Some.f (k + 1) a0) := by
  intro a0 k
  unfold solsticelaw20_Some.f
  repeat' first
      | (with_reducible exact solsticeref01_Number.mono _ _ _ _)
      | (with_reducible exact LeO.refl _)
      | (with_reducible exact LeO.none _)
      | (with_reducible refine LeO.ite ?_ ?_)
      | (with_reducible refine LeO.bind ?_ (fun _ => ?_))
      | exact solsticeref01_Number.mono _ _ _ _
      | exact LeO.none _
      | refine LeO.ite ?_ ?_
      | refine LeO.bind ?_ (fun _ => ?_)
set_option maxHeartbeats 8000000 in
set_option maxRecDepth 100000 in
theorem solsticelaw20_Some.calls (k : Nat) (a0 : Int) (r : Int) (w : World) (h : solsticelaw20_Some.f k a0 = some r) :
    Calls Try.prog 21 #[.int .i64 a0] w fun e w' => e = .returned (.int .i64 r) ∧ Below w.heap.size w w' := by
  have hu39 := Try.underlying39
  have HB := Aside0.mk (Below.refl w.heap.size w)
  have H : ((solsticeref01_Number.f k 1 1 1).bind fun t552 => ((solsticeref01_Number.f k 10000 1 1).bind fun t553 => (if (IntKind.u64.wrap (wrap64 ((wrap64 (86400 * t553)) - (wrap64 (86400 * t552))))) = 0 then (none) else (some (wrap64 ((wrap64 (86400 * t552)) + (wrap64 (Int.tmod (IntKind.u64.wrap (a0)) (IntKind.u64.wrap (wrap64 ((wrap64 (86400 * t553)) - (wrap64 (86400 * t552))))))))))))) = some r := h
  clear h
  replace H := Option.bind_eq_some_iff.mp H
  obtain ⟨t552, A20, H⟩ := H
  replace H : ((solsticeref01_Number.f k 10000 1 1).bind fun t553 => (if (IntKind.u64.wrap (wrap64 ((wrap64 (86400 * t553)) - (wrap64 (86400 * t552))))) = 0 then (none) else (some (wrap64 ((wrap64 (86400 * t552)) + (wrap64 (Int.tmod (IntKind.u64.wrap (a0)) (IntKind.u64.wrap (wrap64 ((wrap64 (86400 * t553)) - (wrap64 (86400 * t552)))))))))))) = some r := H
  have A2 := Aside0.mk A20
  clear A20
  replace H := Option.bind_eq_some_iff.mp H
  obtain ⟨t553, A30, H⟩ := H
  replace H : (if (IntKind.u64.wrap (wrap64 ((wrap64 (86400 * t553)) - (wrap64 (86400 * t552))))) = 0 then (none) else (some (wrap64 ((wrap64 (86400 * t552)) + (wrap64 (Int.tmod (IntKind.u64.wrap (a0)) (IntKind.u64.wrap (wrap64 ((wrap64 (86400 * t553)) - (wrap64 (86400 * t552))))))))))) = some r := H
  have A3 := Aside0.mk A30
  clear A30
  by_cases c4 : (IntKind.u64.wrap (wrap64 ((wrap64 (86400 * t553)) - (wrap64 (86400 * t552))))) = 0
  · rw [if_pos c4] at H
    exact absurd H (by simp)
  · rw [if_neg c4] at H
    have c4b0 : ((IntKind.u64.wrap (wrap64 ((wrap64 (86400 * t553)) - (wrap64 (86400 * t552))))) == 0) = false := beq_eq_false_iff_ne.mpr c4
    have c4b1 : ((IntKind.u64.wrap (wrap64 ((wrap64 (86400 * t553)) - (wrap64 (86400 * t552))))) != 0) = true := bne_iff_ne.mpr c4
    obtain rfl := Option.some.inj H
    go_enter Try.func21, Try.ntmps21
    go_wp2_with (first | ((with_reducible refine gate_callee (f := 45) rfl ?_); refine goesL_ (some 6) rfl rfl Try.func45 (by kernel_rfl) rfl #[.agg #[.int .i64 1, .int .i64 1, .int .i64 1]] rfl (by (try simp only [List.map_toArray, List.map_cons, List.map_nil]); first | done | rfl | (simp only [List.length_drop, List.length_take]; rfl)) ?_; (with_reducible refine (solsticeref01_Number.calls k 1 1 1 t552 _ A2.out).mono ?_); rintro e w5 ⟨rfl, hb⟩; refine ⟨_, rfl, ?_⟩; have n0_ := Aside0.mk (below_step (by repeat (first | (with_reducible first | exact HB.out | apply below_alloc | apply pw_below_drewN | apply below_drew1) | exact HB.out)) hb); clear HB; have HB := n0_; clear n0_; (try clear hb); (try clear hb2); (try clear hk); (try clear hi)) | ((with_reducible refine gate_callee (f := 45) rfl ?_); refine goesL_ (some 9) rfl rfl Try.func45 (by kernel_rfl) rfl #[.agg #[.int .i64 10000, .int .i64 1, .int .i64 1]] rfl (by (try simp only [List.map_toArray, List.map_cons, List.map_nil]); first | done | rfl | (simp only [List.length_drop, List.length_take]; rfl)) ?_; (with_reducible refine (solsticeref01_Number.calls k 10000 1 1 t553 _ A3.out).mono ?_); rintro e w6 ⟨rfl, hb⟩; refine ⟨_, rfl, ?_⟩; have n0_ := Aside0.mk (below_step (by repeat (first | (with_reducible first | exact HB.out | apply below_alloc | apply pw_below_drewN | apply below_drew1) | exact HB.out)) hb); clear HB; have HB := n0_; clear n0_; (try clear hb); (try clear hb2); (try clear hk); (try clear hi)))
    go_ret
    exact ⟨by first | rfl | (simp [errW_none, errW_some] <;> rfl) | (simp [*, errW_none, errW_some] <;> rfl), by repeat (first | (with_reducible first | exact HB.out | apply below_alloc | apply pw_below_drewN | apply below_drew1) | exact HB.out)⟩

end Go.Proofs.Ytmhpmkbifhgnbaa.O
