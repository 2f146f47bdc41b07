-- What FilterSpans computes: a text of this claim's own.
/- FilterSpans in plain numbers: what the law computes is true at all arguments. No condition but that each is an int. -/
import Derived.Test.YtmhpmkbifhgnbaaOx65
import Derived.Test.YtmhpmkbifhgnbaaOx2
import Derived.Test.YtmhpmkbifhgnbaaMOx42
import Derived.Test.YtmhpmkbifhgnbaaOx50
import Derived.Test.YtmhpmkbifhgnbaaMOx79
import Derived.Test.YtmhpmkbifhgnbaaGSP
import Derived.Test.YtmhpmkbifhgnbaaMOx0
namespace Go.Proofs.Ytmhpmkbifhgnbaa.O
open Go.RowKit Go.Proofs.YtmhpmkbifhgnbaaW.PrintWords Go.Proofs.YtmhpmkbifhgnbaaW.PrintLast Go.Proofs.YtmhpmkbifhgnbaaW.PrintMore
set_option linter.unusedVariables false
set_option linter.unusedSimpArgs false
/-- What FilterSpans computes, where all is well. -/
def solsticelaw22_FilterSpans.f (k : Nat) (a0_0 : Int) (a0_1 : Int) (a0_2 : Int) (a0_3 : Bool) (a0_4 : Int) (a0_5 : Bool) (l0_6 : List Int) (l0_7 : List Int) (l0_8 : List Int) (l0_9 : List (S47)) (l0_10 : List Int) (l0_11 : List Int) (l0_12 : List Int) (l0_13 : List Int) (l0_14 : List Int) (a0_15 : Int) (a1 a2 : Int) : Option Bool :=
  if heavyB l0_6 l0_7 l0_8 l0_9 l0_10 l0_11 l0_12 l0_13 l0_14 = true then some true else (solsticeref21_Recur.f k a0_0 a0_1 a0_2 a0_3 a0_4 a0_5 l0_6 l0_7 l0_8 l0_9 l0_10 l0_11 l0_12 l0_13 l0_14 a0_15).bind fun rc => if rc = false then some true else
  (solsticelaw20_Some.f k a1).bind fun t => (filter_Period.f k a0_0 a0_1 a0_2 a0_3 a0_4 a0_5 l0_6 l0_7 l0_8 l0_9 l0_10 l0_11 l0_12 l0_13 l0_14 a0_15 t).bind fun pe => (filter_Span.f k a0_0 a0_1 a0_2 a0_3 a0_4 a0_5 l0_6 l0_7 l0_8 l0_9 l0_10 l0_11 l0_12 l0_13 l0_14 a0_15 pe.1).bind fun sp =>
  if ¬ pe.2 = 0 then none else if sp.2.2 = 0 then
    if sp.1 ≤ t ∧ t ≤ sp.2.1 ∧ sp.1 ≤ sp.2.1 ∧ ¬ IntKind.u64.wrap (wrap64 (wrap64 (sp.2.1 - sp.1) + 1)) = 0 then
      (filter_Period.f k a0_0 a0_1 a0_2 a0_3 a0_4 a0_5 l0_6 l0_7 l0_8 l0_9 l0_10 l0_11 l0_12 l0_13 l0_14 a0_15 (wrap64 (sp.1 + wrap64 (Int.tmod (IntKind.u64.wrap a2) (IntKind.u64.wrap (wrap64 (wrap64 (sp.2.1 - sp.1) + 1))))))).bind fun qg => (filter_Span.f k a0_0 a0_1 a0_2 a0_3 a0_4 a0_5 l0_6 l0_7 l0_8 l0_9 l0_10 l0_11 l0_12 l0_13 l0_14 a0_15 (wrap64 (pe.1 + 1))).bind fun ch => (solsticelaw22_wakes.f k).bind fun wa =>
      if qg.2 = 0 ∧ qg.1 = pe.1 ∧ (¬ ch.2.2 = 0 ∨ ch.1 = wrap64 (sp.2.1 + 1)) ∧ wa = true then some true else none
    else none
  else (solsticeref16_Years.f k t).bind fun y => (solsticelaw22_wakes.f k).bind fun wa =>
    if sp.2.2 = 23 ∧ y.2.2.2 = true ∧ (y.1 < 3 ∨ 9997 < y.1) ∧ wa = true then some true else none
/-- The callees over one rule. -/
structure Says4 (k : Nat) (w : World) (cs : Array Value) (hv : Bool) (rc : Option Bool) (pf : Int → Option (Int × Int)) (sf : Int → Option (Int × Int × Int)) : Prop where
  hv : ∀ W, Below w.heap.size w W → Calls Try.prog 9 #[.agg cs] W fun e w' => e = .returned (.bool hv) ∧ Below W.heap.size W w'
  rc : ∀ W b, Below w.heap.size w W → rc = some b → Calls Try.prog 15 #[.agg cs] W fun e w' => e = .returned (.bool b) ∧ Below W.heap.size W w'
  pe : ∀ W t r1 r2, Below w.heap.size w W → pf t = some (r1, r2) → Calls Try.prog 11 #[.agg cs, .int .i64 t] W fun e w' => e = .returned (.tuple #[.int .i64 r1, .int .i64 r2]) ∧ Below W.heap.size W w'
  sp : ∀ W t r1 r2 r3, Below w.heap.size w W → sf t = some (r1, r2, r3) → Calls Try.prog 13 #[.agg cs, .int .i64 t] W fun e w' => e = .returned (.tuple #[.int .i64 r1, .int .i64 r2, .int .i64 r3]) ∧ Below W.heap.size W w'
theorem below_two {w W W2 : World} (h : Below w.heap.size w W) (k : Below W.heap.size W W2) : Below w.heap.size w W2 := below_then h h.size k
theorem blk_on {w w' : World} {g : Nat} {o : Obj} (h : w.heap[g]? = some o) (k : Below w.heap.size w w') : w'.heap[g]? = some o := (k.block g (blk_lt h)).trans h
theorem load25_run {ops : Array Oper} {rest : List Oper} {o : Oper} {a : Act} {Q : Exit → Act → World → Prop} {W : World} {g N : Nat} {cs : Array Value} (hgd : o.guard = none) (ho : o.op = .load 25 (.tmp N)) (hρ : a.eval (.tmp N) = .pointer (some ⟨g, 0, none⟩)) (h : W.heap[g]? = some (.cells cs 25 (0, 0))) (hs : cs.size = 16) (k : wpList Try.prog ops Q rest (a.put o.dst (.agg cs)) W) : wpList Try.prog ops Q (o :: rest) a W :=
  Kd.event_run hgd (exec25 h hs ho hρ) k
set_option maxHeartbeats 8000000 in
set_option maxRecDepth 100000 in
theorem solsticelaw22_FilterSpans.calls (k : Nat) (a0_0 : Int) (a0_1 : Int) (a0_2 : Int) (a0_3 : Bool) (a0_4 : Int) (a0_5 : Bool) (A0_6 : Option Addr) (c0_6 : Nat) (l0_6 : List Int) (A0_7 : Option Addr) (c0_7 : Nat) (l0_7 : List Int) (A0_8 : Option Addr) (c0_8 : Nat) (l0_8 : List Int) (A0_9 : Option Addr) (c0_9 : Nat) (l0_9 : List (S47)) (A0_10 : Option Addr) (c0_10 : Nat) (l0_10 : List Int) (A0_11 : Option Addr) (c0_11 : Nat) (l0_11 : List Int) (A0_12 : Option Addr) (c0_12 : Nat) (l0_12 : List Int) (A0_13 : Option Addr) (c0_13 : Nat) (l0_13 : List Int) (A0_14 : Option Addr) (c0_14 : Nat) (l0_14 : List Int) (a0_15 : Int) (a1 a2 : Int) (r : Bool) (w : World) (hr0_6 : Kd.C (Kd.int .i64) w A0_6 l0_6.length l0_6) (hc0_6 : l0_6.length ≤ c0_6) (hr0_7 : Kd.C (Kd.int .i64) w A0_7 l0_7.length l0_7) (hc0_7 : l0_7.length ≤ c0_7) (hr0_8 : Kd.C (Kd.int .i64) w A0_8 l0_8.length l0_8) (hc0_8 : l0_8.length ≤ c0_8) (hr0_9 : Kd.C k47 w A0_9 l0_9.length l0_9) (hc0_9 : l0_9.length ≤ c0_9) (hr0_10 : Kd.C (Kd.int .i64) w A0_10 l0_10.length l0_10) (hc0_10 : l0_10.length ≤ c0_10) (hr0_11 : Kd.C (Kd.int .i64) w A0_11 l0_11.length l0_11) (hc0_11 : l0_11.length ≤ c0_11) (hr0_12 : Kd.C (Kd.int .i64) w A0_12 l0_12.length l0_12) (hc0_12 : l0_12.length ≤ c0_12) (hr0_13 : Kd.C (Kd.int .i64) w A0_13 l0_13.length l0_13) (hc0_13 : l0_13.length ≤ c0_13) (hr0_14 : Kd.C (Kd.int .i64) w A0_14 l0_14.length l0_14) (hc0_14 : l0_14.length ≤ c0_14) (h : solsticelaw22_FilterSpans.f k a0_0 a0_1 a0_2 a0_3 a0_4 a0_5 l0_6 l0_7 l0_8 l0_9 l0_10 l0_11 l0_12 l0_13 l0_14 a0_15 a1 a2 = some r) :
    Calls Try.prog 4 #[.agg #[.int .i64 a0_0, .int .i64 a0_1, .int .i64 a0_2, .bool a0_3, .int .i64 a0_4, .bool a0_5, .slice A0_6 l0_6.length c0_6, .slice A0_7 l0_7.length c0_7, .slice A0_8 l0_8.length c0_8, .slice A0_9 l0_9.length c0_9, .slice A0_10 l0_10.length c0_10, .slice A0_11 l0_11.length c0_11, .slice A0_12 l0_12.length c0_12, .slice A0_13 l0_13.length c0_13, .slice A0_14 l0_14.length c0_14, .int .i64 a0_15], .int .i64 a1, .int .i64 a2] w fun e w' => e = .returned (.bool r) ∧ Below w.heap.size w w' := by
  have HS : Aside0 (Says4 k w #[.int .i64 a0_0, .int .i64 a0_1, .int .i64 a0_2, .bool a0_3, .int .i64 a0_4, .bool a0_5, .slice A0_6 l0_6.length c0_6, .slice A0_7 l0_7.length c0_7, .slice A0_8 l0_8.length c0_8, .slice A0_9 l0_9.length c0_9, .slice A0_10 l0_10.length c0_10, .slice A0_11 l0_11.length c0_11, .slice A0_12 l0_12.length c0_12, .slice A0_13 l0_13.length c0_13, .slice A0_14 l0_14.length c0_14, .int .i64 a0_15] (heavyB l0_6 l0_7 l0_8 l0_9 l0_10 l0_11 l0_12 l0_13 l0_14) (solsticeref21_Recur.f k a0_0 a0_1 a0_2 a0_3 a0_4 a0_5 l0_6 l0_7 l0_8 l0_9 l0_10 l0_11 l0_12 l0_13 l0_14 a0_15) (filter_Period.f k a0_0 a0_1 a0_2 a0_3 a0_4 a0_5 l0_6 l0_7 l0_8 l0_9 l0_10 l0_11 l0_12 l0_13 l0_14 a0_15) (filter_Span.f k a0_0 a0_1 a0_2 a0_3 a0_4 a0_5 l0_6 l0_7 l0_8 l0_9 l0_10 l0_11 l0_12 l0_13 l0_14 a0_15)) := ⟨{
    hv := fun W hb => solsticelaw21_Heavy.calls a0_0 a0_1 a0_2 a0_3 a0_4 a0_5 A0_6 c0_6 l0_6 A0_7 c0_7 l0_7 A0_8 c0_8 l0_8 A0_9 c0_9 l0_9 A0_10 c0_10 l0_10 A0_11 c0_11 l0_11 A0_12 c0_12 l0_12 A0_13 c0_13 l0_13 A0_14 c0_14 l0_14 a0_15 W
    rc := fun W b hb h => solsticeref21_Recur.calls k a0_0 a0_1 a0_2 a0_3 a0_4 a0_5 A0_6 c0_6 l0_6 A0_7 c0_7 l0_7 A0_8 c0_8 l0_8 A0_9 c0_9 l0_9 A0_10 c0_10 l0_10 A0_11 c0_11 l0_11 A0_12 c0_12 l0_12 A0_13 c0_13 l0_13 A0_14 c0_14 l0_14 a0_15 b W (Kd.C_below hr0_6 hb) hc0_6 (Kd.C_below hr0_7 hb) hc0_7 (Kd.C_below hr0_8 hb) hc0_8 (Kd.C_below hr0_9 hb) hc0_9 (Kd.C_below hr0_10 hb) hc0_10 (Kd.C_below hr0_11 hb) hc0_11 (Kd.C_below hr0_12 hb) hc0_12 (Kd.C_below hr0_13 hb) hc0_13 (Kd.C_below hr0_14 hb) hc0_14 h
    pe := fun W t r1 r2 hb h => filter_Period.calls k a0_0 a0_1 a0_2 a0_3 a0_4 a0_5 A0_6 c0_6 l0_6 A0_7 c0_7 l0_7 A0_8 c0_8 l0_8 A0_9 c0_9 l0_9 A0_10 c0_10 l0_10 A0_11 c0_11 l0_11 A0_12 c0_12 l0_12 A0_13 c0_13 l0_13 A0_14 c0_14 l0_14 a0_15 t r1 r2 W (Kd.C_below hr0_6 hb) hc0_6 (Kd.C_below hr0_7 hb) hc0_7 (Kd.C_below hr0_8 hb) hc0_8 (Kd.C_below hr0_9 hb) hc0_9 (Kd.C_below hr0_10 hb) hc0_10 (Kd.C_below hr0_11 hb) hc0_11 (Kd.C_below hr0_12 hb) hc0_12 (Kd.C_below hr0_13 hb) hc0_13 (Kd.C_below hr0_14 hb) hc0_14 h
    sp := fun W t r1 r2 r3 hb h => filter_Span.calls k a0_0 a0_1 a0_2 a0_3 a0_4 a0_5 A0_6 c0_6 l0_6 A0_7 c0_7 l0_7 A0_8 c0_8 l0_8 A0_9 c0_9 l0_9 A0_10 c0_10 l0_10 A0_11 c0_11 l0_11 A0_12 c0_12 l0_12 A0_13 c0_13 l0_13 A0_14 c0_14 l0_14 a0_15 t r1 r2 r3 W (Kd.C_below hr0_6 hb) hc0_6 (Kd.C_below hr0_7 hb) hc0_7 (Kd.C_below hr0_8 hb) hc0_8 (Kd.C_below hr0_9 hb) hc0_9 (Kd.C_below hr0_10 hb) hc0_10 (Kd.C_below hr0_11 hb) hc0_11 (Kd.C_below hr0_12 hb) hc0_12 (Kd.C_below hr0_13 hb) hc0_13 (Kd.C_below hr0_14 hb) hc0_14 h }⟩
  have H := h
  clear h
  unfold solsticelaw22_FilterSpans.f at H
  have hsz : (#[.int .i64 a0_0, .int .i64 a0_1, .int .i64 a0_2, .bool a0_3, .int .i64 a0_4, .bool a0_5, .slice A0_6 l0_6.length c0_6, .slice A0_7 l0_7.length c0_7, .slice A0_8 l0_8.length c0_8, .slice A0_9 l0_9.length c0_9, .slice A0_10 l0_10.length c0_10, .slice A0_11 l0_11.length c0_11, .slice A0_12 l0_12.length c0_12, .slice A0_13 l0_13.length c0_13, .slice A0_14 l0_14.length c0_14, .int .i64 a0_15] : Array Value).size = 16 := rfl
  generalize (#[.int .i64 a0_0, .int .i64 a0_1, .int .i64 a0_2, .bool a0_3, .int .i64 a0_4, .bool a0_5, .slice A0_6 l0_6.length c0_6, .slice A0_7 l0_7.length c0_7, .slice A0_8 l0_8.length c0_8, .slice A0_9 l0_9.length c0_9, .slice A0_10 l0_10.length c0_10, .slice A0_11 l0_11.length c0_11, .slice A0_12 l0_12.length c0_12, .slice A0_13 l0_13.length c0_13, .slice A0_14 l0_14.length c0_14, .int .i64 a0_15] : Array Value) = cs at *
  generalize heavyB l0_6 l0_7 l0_8 l0_9 l0_10 l0_11 l0_12 l0_13 l0_14 = hv at *
  generalize solsticeref21_Recur.f k a0_0 a0_1 a0_2 a0_3 a0_4 a0_5 l0_6 l0_7 l0_8 l0_9 l0_10 l0_11 l0_12 l0_13 l0_14 a0_15 = rc at *
  generalize filter_Period.f k a0_0 a0_1 a0_2 a0_3 a0_4 a0_5 l0_6 l0_7 l0_8 l0_9 l0_10 l0_11 l0_12 l0_13 l0_14 a0_15 = pf at *
  generalize filter_Span.f k a0_0 a0_1 a0_2 a0_3 a0_4 a0_5 l0_6 l0_7 l0_8 l0_9 l0_10 l0_11 l0_12 l0_13 l0_14 a0_15 = sf at *
  clear hr0_6 hc0_6 hr0_7 hc0_7 hr0_8 hc0_8 hr0_9 hc0_9 hr0_10 hc0_10 hr0_11 hc0_11 hr0_12 hc0_12 hr0_13 hc0_13 hr0_14 hc0_14
  have hu25 := Try.underlying25
  have hu39 := Try.underlying39
  have HH := Aside0.mk H
  have HZ := Aside0.mk hsz
  clear H hsz
  go_enter Try.func4, Try.ntmps4
  go_upto_region 1 with (fail)
  refine wp_abs (fun W => W.heap[w.heap.size]? = some (.cells cs 25 (0, 0)) ∧ Below w.heap.size w W) ⟨blk_new w _, below_alloc (Below.refl _ _) _⟩ ?_
  rintro W ⟨b1, b2⟩
  have H := HH.out
  clear HH

  have K1 := Aside0.mk b1
  have B1 := Aside0.mk b2
  clear b1 b2
  cases hv with
  | true =>
    obtain rfl : true = r := by simpa using H
    go_wp2_with (first
      | ((with_reducible refine gate_dst (N := 20) rfl ?_); refine load25_run rfl rfl rfl K1.out HZ.out ?_)
      | (go_at_call 9; refine (HS.out.hv _ B1.out).mono ?_; rintro e w2 ⟨rfl, hb2⟩))
    go_ret
    exact ⟨rfl, below_two B1.out hb2⟩
  | false =>
  rw [if_neg (by decide)] at H
  obtain ⟨b, h1, H⟩ := Option.bind_eq_some_iff.mp H
  have H1 := Aside0.mk h1
  clear h1
  cases b with
  | false =>
    obtain rfl : true = r := by simpa using H
    go_wp2_with (first
      | ((with_reducible refine gate_dst (N := 20) rfl ?_); refine load25_run rfl rfl rfl K1.out HZ.out ?_)
      | ((with_reducible refine gate_dst (N := 23) rfl ?_); (refine gate_guard (by rfl) ?_; dsimp only); refine load25_run rfl rfl rfl K2.out HZ.out ?_)
      | (go_at_call 15; refine (HS.out.rc _ false B2.out H1.out).mono ?_; rintro e w3 ⟨rfl, hb3⟩)
      | (go_at_call 9; refine (HS.out.hv _ B1.out).mono ?_; rintro e w2 ⟨rfl, hb2⟩; have K2 := Aside0.mk (blk_on K1.out hb2); have B2 := Aside0.mk (below_two B1.out hb2); clear hb2))
    go_ret
    exact ⟨rfl, below_two B2.out hb3⟩
  | true =>
  rw [if_neg (by decide)] at H
  obtain ⟨t, h2, H⟩ := Option.bind_eq_some_iff.mp H
  obtain ⟨⟨p, pe⟩, h3, H⟩ := Option.bind_eq_some_iff.mp H
  obtain ⟨⟨sa, sb, sf0⟩, h4, H⟩ := Option.bind_eq_some_iff.mp H
  dsimp only at H h3 h4
  by_cases hpe : pe = 0
  case neg => rw [if_pos hpe] at H; cases H
  subst hpe
  rw [if_neg (by simp)] at H
  have H2 := Aside0.mk h2
  have H3 := Aside0.mk h3
  have H4 := Aside0.mk h4
  have HH := Aside0.mk H
  clear h2 h3 h4 H
  go_upto_region 6 with (first
    | ((with_reducible refine gate_dst (N := 20) rfl ?_); refine load25_run rfl rfl rfl K1.out HZ.out ?_)
    | ((with_reducible refine gate_dst (N := 23) rfl ?_); (refine gate_guard (by rfl) ?_; dsimp only); refine load25_run rfl rfl rfl K2.out HZ.out ?_)
    | ((with_reducible refine gate_dst (N := 30) rfl ?_); refine load25_run rfl rfl rfl K4.out HZ.out ?_)
    | ((with_reducible refine gate_dst (N := 36) rfl ?_); refine load25_run rfl rfl rfl K5.out HZ.out ?_)
    | (go_at_call 15; refine (HS.out.rc _ true B2.out H1.out).mono ?_; rintro e w3 ⟨rfl, hb3⟩; have K3 := Aside0.mk (blk_on K2.out hb3); have B3 := Aside0.mk (below_two B2.out hb3); clear hb3)
    | (go_at_call 9; refine (HS.out.hv _ B1.out).mono ?_; rintro e w2 ⟨rfl, hb2⟩; have K2 := Aside0.mk (blk_on K1.out hb2); have B2 := Aside0.mk (below_two B1.out hb2); clear hb2)
    | (go_at_call 21; refine (solsticelaw20_Some.calls k a1 t _ H2.out).mono ?_; rintro e w4 ⟨rfl, hb4⟩; have K4 := Aside0.mk (blk_on K3.out hb4); have B4 := Aside0.mk (below_two B3.out hb4); clear hb4)
    | (go_at_call 11; refine (HS.out.pe _ t p 0 B4.out H3.out).mono ?_; rintro e w5 ⟨rfl, hb5⟩; have K5 := Aside0.mk (blk_on K4.out hb5); have B5 := Aside0.mk (below_two B4.out hb5); clear hb5)
    | (go_at_call 13; refine (HS.out.sp _ p sa sb sf0 B5.out H4.out).mono ?_; rintro e w6 ⟨rfl, hb6⟩; have K6 := Aside0.mk (blk_on K5.out hb6); have B6 := Aside0.mk (below_two B5.out hb6); clear hb6))
  have H := HH.out
  clear HH H1 H2 H3 H4 K1 K2 K3 K4 K5 B1 B2 B3 B4 B5
  by_cases hsf : sf0 = 0
  case pos =>
    subst hsf
    rw [if_pos rfl] at H
    by_cases hc : sa ≤ t ∧ t ≤ sb ∧ sa ≤ sb ∧ ¬ IntKind.u64.wrap (wrap64 (wrap64 (sb - sa) + 1)) = 0
    case neg => rw [if_neg hc] at H; cases H
    rw [if_pos hc] at H
    obtain ⟨c1, c2, c3, c4⟩ := hc
    replace c1 : ¬ t < sa := by omega
    replace c2 : ¬ sb < t := by omega
    replace c3 : ¬ sb < sa := by omega
    obtain ⟨⟨q, qe⟩, h5, H⟩ := Option.bind_eq_some_iff.mp H
    obtain ⟨⟨ca, cb, ce⟩, h6, H⟩ := Option.bind_eq_some_iff.mp H
    obtain ⟨wa, h7, H⟩ := Option.bind_eq_some_iff.mp H
    dsimp only at H h5 h6
    rw [Option.ite_none_right_eq_some] at H
    obtain ⟨⟨rfl, rfl, e3, rfl⟩, J⟩ := H
    obtain rfl : true = r := Option.some.inj J
    clear J
    have H5 := Aside0.mk h5
    have H6 := Aside0.mk h6
    have H7 := Aside0.mk h7
    clear h5 h6 h7 H
    have e4 : ce = 0 → ca = wrap64 (sb + 1) := fun h => by rcases e3 with e | e; exact absurd h e; exact e
    clear e3
    by_cases hce : ce = 0
    case' pos => have e5 := e4 hce; subst hce e5; clear e4
    all_goals
      go_wp2_with (first
        | ((with_reducible refine gate_dst (N := 94) rfl ?_); refine load25_run rfl rfl rfl K6.out HZ.out ?_)
        | ((with_reducible refine gate_dst (N := 100) rfl ?_); refine load25_run rfl rfl rfl K7.out HZ.out ?_)
        | (go_at_call 11; refine (HS.out.pe _ _ q 0 B6.out H5.out).mono ?_; rintro e w7 ⟨rfl, hb7⟩; have K7 := Aside0.mk (blk_on K6.out hb7); have B7 := Aside0.mk (below_two B6.out hb7); clear hb7)
        | (go_at_call 13; refine (HS.out.sp _ _ _ _ _ B7.out H6.out).mono ?_; rintro e w8 ⟨rfl, hb8⟩; have B8 := Aside0.mk (below_two B7.out hb8); clear hb8)
        | (go_at_call 16; refine (solsticelaw22_wakes.calls k true _ rfl H7.out).mono ?_; rintro e w9 ⟨rfl, hb9⟩))
      go_ret
      exact ⟨rfl, below_two B8.out hb9⟩
  case neg =>
    rw [if_neg hsf] at H
    obtain ⟨⟨y1, y2, y3, y4⟩, h5, H⟩ := Option.bind_eq_some_iff.mp H
    obtain ⟨wa, h6, H⟩ := Option.bind_eq_some_iff.mp H
    dsimp only at H h5
    rw [Option.ite_none_right_eq_some] at H
    obtain ⟨⟨rfl, rfl, e3, rfl⟩, J⟩ := H
    obtain rfl : true = r := Option.some.inj J
    clear J
    have H5 := Aside0.mk h5
    have H6 := Aside0.mk h6
    clear h5 h6 H hsf
    go_upto_region 10 with (go_at_call 18; refine (solsticeref16_Years.calls k t y1 y2 y3 true _ H5.out).mono ?_; rintro e w7 ⟨rfl, hb7⟩; have B7 := Aside0.mk (below_two B6.out hb7); clear hb7)
    rcases e3 with e | e
    case' inr => have e6 : ¬ y1 < 3 := by omega
    all_goals
      go_wp2_with (go_at_call 16; refine (solsticelaw22_wakes.calls k true _ rfl H6.out).mono ?_; rintro e w9 ⟨rfl, hb9⟩)
      go_ret
      exact ⟨rfl, below_two (below_alloc B7.out _) hb9⟩
end Go.Proofs.Ytmhpmkbifhgnbaa.O

namespace Go.Proofs.Ytmhpmkbifhgnbaa.Pure
open Go.RowKit Go.Proofs.Ytmhpmkbifhgnbaa.O Go.Proofs.YtmhpmkbifhgnbaaW.PrintWords Go.Proofs.YtmhpmkbifhgnbaaW.PrintLast
open Go.Proofs.Ytmhpmkbifhgnbaa.Civ
set_option linter.unusedVariables false
set_option linter.unusedSimpArgs false
theorem umod (a : Int) {n : Int} (hn : 0 < n) (hn' : n ≤ 1000000000000) : ∃ r, 0 ≤ r ∧ r < n ∧ wrap64 (Int.tmod (IntKind.u64.wrap a) (IntKind.u64.wrap n)) = r := by
  have h1 := Int.emod_nonneg (IntKind.u64.wrap a) (show n ≠ 0 by omega)
  have h2 := Int.emod_lt_of_pos (IntKind.u64.wrap a) hn
  refine ⟨IntKind.u64.wrap a % n, h1, h2, ?_⟩
  rw [show IntKind.u64.wrap n = n by rw [u64w]; omega, tmod_nn n (by rw [u64w]; omega), w64 (by omega) (by omega)]
theorem per_bd {r : RR} (h : Lens r) {p : Int} (hp : InP r p) : -100000000000 ≤ p ∧ p ≤ 1000000000000 := by
  have b := inP_bd h hp
  have f0 := h.f0
  have f1 := h.f1
  have : r.fr = 1 ∨ r.fr = 2 ∨ r.fr = 3 ∨ r.fr = 4 ∨ r.fr = 5 ∨ r.fr = 6 ∨ r.fr = 7 := by omega
  by_cases e : r.wn = []
  · rcases this with q | q | q | q | q | q | q
    · have := b.1 q; omega
    · have := b.2.1 q; omega
    · have := b.2.2.1 q; omega
    · have := b.2.2.2.1 q; omega
    · have := b.2.2.2.2.1 q; omega
    · have := b.2.2.2.2.2.1 q; omega
    · have := b.2.2.2.2.2.2.1 q e; omega
  · rcases this with q | q | q | q | q | q | q
    · have := b.1 q; omega
    · have := b.2.1 q; omega
    · have := b.2.2.1 q; omega
    · have := b.2.2.2.1 q; omega
    · have := b.2.2.2.2.1 q; omega
    · have := b.2.2.2.2.2.1 q; omega
    · have := b.2.2.2.2.2.2.2 q e; omega
theorem FilterSpans_rule (r : RR) (hua : -9223372036854775808 ≤ r.ua) (hua' : r.ua < 9223372036854775808) (a1 a2 : Int) :
    Ev (fun k => solsticelaw22_FilterSpans.f k r.fr r.iv r.ct r.un r.ua r.utc r.sec r.mi r.ho r.dy r.md r.yd r.wn r.mo r.sp r.wk a1 a2) true := by
  unfold solsticelaw22_FilterSpans.f
  by_cases hv : heavyB r.sec r.mi r.ho r.dy r.md r.yd r.wn r.mo r.sp = true
  · exact evp hv (evs rfl)
  refine evn hv ?_
  obtain ⟨b, hb, hR⟩ := rrecur r hua hua'
  refine evb hb ?_
  cases b with
  | false => exact evp rfl (evs rfl)
  | true =>
  have R := hR rfl
  have hl := R.lens
  refine evn (by decide) ?_
  obtain ⟨t, ht, et⟩ := some20 a1
  refine evb et (evb (fPeriod R ht) (evb (fSpan R (inP_per hl ht).1) ?_))
  refine evn (fun q => q rfl) ?_
  have ip := inP_per hl ht
  have pb := per_bd hl ip
  have si := span_in hl ht
  have b6 := (inP_bd hl ip).2.2.2.2.2.1
  by_cases ho : InT (spanW r (perV r t)).1 ∧ InT (spanW r (perV r t)).2
  · have e1 : spanV r (perV r t) = ((spanW r (perV r t)).1, (spanW r (perV r t)).2, 0) := by unfold spanV; rw [if_pos ⟨ip, ho⟩]
    have e2 := span_next r (perV r t)
    have e3 : ∀ x, InT x → (spanW r (perV r t)).1 ≤ x → x ≤ (spanW r (perV r t)).2 → perV r x = perV r t := fun x hx l u => span_eq hl hx (fun q => by have := b6 q; omega) l u
    have e4 : InP r (perV r t + 1) → (spanV r (perV r t + 1)).2.2 = 0 → (spanV r (perV r t + 1)).1 = (spanW r (perV r t)).2 + 1 := fun _ q => by
      unfold spanV at q ⊢
      split at q
      · rename_i c
        rw [if_pos c]
        exact e2
      · cases q
    have e5 : (spanV r (perV r t + 1)).2.2 = 0 → InP r (perV r t + 1) := fun q => by
      unfold spanV at q
      split at q
      · rename_i c
        exact c.1
      · cases q
    rw [e1]
    dsimp only
    generalize perV r t = p at *
    generalize (spanW r p).1 = sa at *
    generalize (spanW r p).2 = sb at *
    have h1 := ho.1
    have h2 := ho.2
    unfold InT at h1 h2
    rw [w64 (x := sb - sa) (by omega) (by omega), w64 (x := sb - sa + 1) (by omega) (by omega), w64 (x := sb + 1) (by omega) (by omega), w64 (x := p + 1) (by omega) (by omega)]
    obtain ⟨m, m0, m1, em⟩ := umod a2 (n := sb - sa + 1) (by omega) (by omega)
    rw [em, w64 (x := sa + m) (by omega) (by omega)]
    refine evp rfl (evp ⟨si.1, si.2, by omega, by rw [u64w]; omega⟩ ?_)
    have hx : InT (sa + m) := by unfold InT; omega
    refine evb (fPeriod R hx) (evb (fSpan R (by have := ip.1; omega)) (evb wakes_ev ?_))
    refine evp ⟨rfl, e3 _ hx (by omega) (by omega), ?_, rfl⟩ (evs rfl)
    by_cases q : (spanV r (p + 1)).2.2 = 0
    · exact Or.inr (e4 (e5 q) q)
    · exact Or.inl q
  · have e1 : spanV r (perV r t) = (0, 0, 23) := by unfold spanV; rw [if_neg (fun q => ho q.2)]
    rw [e1]
    dsimp only
    refine evn (by decide) ?_
    have ht' := ht
    unfold InT at ht'
    refine evb (ryears (by omega) (by omega)) (evb wakes_ev ?_)
    rw [years_in ht]
    exact evp ⟨rfl, rfl, span_out hl ht ho, rfl⟩ (evs rfl)
theorem FilterSpans (fr iv ct : Int) (un : Bool) (ua : Int) (utc : Bool) (sec mi ho : List Int) (dy : List S47) (md yd wn mo sp : List Int) (wk : Int) (hua : (Lit.int .i64 ua).wf = true) (a1 a2 : Int) : ∃ k, solsticelaw22_FilterSpans.f k fr iv ct un ua utc sec mi ho dy md yd wn mo sp wk a1 a2 = some true := by
  have hw : -9223372036854775808 ≤ ua ∧ ua < 9223372036854775808 := by
    simp [Lit.wf, IntKind.min, IntKind.max, IntKind.signed, IntKind.bits] at hua
    omega
  exact (FilterSpans_rule ⟨fr, iv, ct, un, ua, utc, sec, mi, ho, dy, md, yd, wn, mo, sp, wk⟩ hw.1 hw.2 a1 a2).rounds
end Go.Proofs.Ytmhpmkbifhgnbaa.Pure
