-- What FilterDays computes: a text of this claim's own.
import Derived.Test.YtmhpmkbifhgnbaaOx79
import Derived.Test.YtmhpmkbifhgnbaaOx48
import Derived.Test.YtmhpmkbifhgnbaaOx66
namespace Go.Proofs.Ytmhpmkbifhgnbaa.O
open Go.RowKit Go.Proofs.YtmhpmkbifhgnbaaW.PrintWords Go.Proofs.YtmhpmkbifhgnbaaW.PrintLast Go.Proofs.YtmhpmkbifhgnbaaW.PrintMore
set_option linter.unusedVariables false
set_option linter.unusedSimpArgs false
/-- What FilterDays computes, in its own order. -/
def solsticelaw22_FilterDays.f (k : Nat) (a0 a1 a2 : Int) (a3 : Bool) : Option Bool :=
  (solsticelaw20_Some.f k a0).bind fun t => (solsticeref01_Div.f t 86400).bind fun dv => (solsticeref01_Date.f k dv.1).bind fun d => (solsticeref01_Len.f k d.1 d.2.1).bind fun ln =>
  (solsticeref01_YearDay.f k dv.1).bind fun yd => (solsticeref01_Long.f d.1).bind fun lo => (solsticeref01_Weekday.f dv.1).bind fun wk =>
  (filter_Lets.f k (if a3 = true then 7 else 6) 1 0 false 0 false [] [] [] [⟨(wrap64 (1 + wrap64 (Int.tmod (IntKind.u64.wrap a1) 53))), (wrap64 (Int.tmod (IntKind.u64.wrap a2) 7))⟩] [] [] [] [] [] 0 t t).bind fun l1 =>
  (filter_Lets.f k (if a3 = true then 7 else 6) 1 0 false 0 false [] [] [] [⟨wrap64 (-(wrap64 (1 + wrap64 (Int.tmod (IntKind.u64.wrap a1) 53)))), (wrap64 (Int.tmod (IntKind.u64.wrap a2) 7))⟩] [] [] [] [] [] 0 t t).bind fun l2 =>
  (solsticelaw22_wakes.f k).bind fun wa =>
  if l1 = (decide (wk = (wrap64 (Int.tmod (IntKind.u64.wrap a2) 7))) && decide (wrap64 (wrap64 (Int.tdiv (wrap64 ((if a3 = true then yd else d.2.2) - 1)) 7) + 1) = (wrap64 (1 + wrap64 (Int.tmod (IntKind.u64.wrap a1) 53))))) ∧
     l2 = (decide (wk = (wrap64 (Int.tmod (IntKind.u64.wrap a2) 7))) && decide (wrap64 (wrap64 (Int.tdiv (if a3 = true then (if lo = true then wrap64 (wrap64 (wrap64 (364 - yd) + 1) + 1) else wrap64 (wrap64 (364 - yd) + 1)) else wrap64 (ln - d.2.2)) 7) + 1) = (wrap64 (1 + wrap64 (Int.tmod (IntKind.u64.wrap a1) 53))))) ∧ wa = true then some true else none
theorem load25_run {ops : Array Oper} {rest : List Oper} {o : Oper} {a : Act} {Q : Exit → Act → World → Prop} {W : World} {g N : Nat} {cs : Array Value} (hgd : o.guard = none) (ho : o.op = .load 25 (.tmp N)) (hρ : a.eval (.tmp N) = .pointer (some ⟨g, 0, none⟩)) (h : W.heap[g]? = some (.cells cs 25 (0, 0))) (hs : cs.size = 16) (k : wpList Try.prog ops Q rest (a.put o.dst (.agg cs)) W) : wpList Try.prog ops Q (o :: rest) a W :=
  Kd.event_run hgd (exec25 h hs ho hρ) k
theorem new1 {w : World} {cs : Array Value} {t : TypeId} {n : Nat} (h : w.heap.size = n) : (w.alloc (.cells cs t (0, 0))).heap[n]? = some (.cells cs t (0, 0)) := by subst h; exact blk_new w _
set_option maxHeartbeats 8000000 in
set_option maxRecDepth 100000 in
theorem solsticelaw22_FilterDays.calls (k : Nat) (a0 a1 a2 : Int) (a3 : Bool) (r : Bool) (w : World) (h : solsticelaw22_FilterDays.f k a0 a1 a2 a3 = some r) :
    Calls Try.prog 6 #[.int .i64 a0, .int .i64 a1, .int .i64 a2, .bool a3] w fun e w' => e = .returned (.bool r) ∧ Below w.heap.size w w' := by
  have H := h
  clear h
  unfold solsticelaw22_FilterDays.f at H
  generalize hnu : (wrap64 (1 + wrap64 (Int.tmod (IntKind.u64.wrap a1) 53))) = nu at H
  generalize hwd : (wrap64 (Int.tmod (IntKind.u64.wrap a2) 7)) = wn at H
  obtain ⟨t, h1, H⟩ := Option.bind_eq_some_iff.mp H
  obtain ⟨⟨dv, sc⟩, h2, H⟩ := Option.bind_eq_some_iff.mp H
  obtain ⟨⟨y, m, d⟩, h3, H⟩ := Option.bind_eq_some_iff.mp H
  obtain ⟨ln, h4, H⟩ := Option.bind_eq_some_iff.mp H
  obtain ⟨yd, h5, H⟩ := Option.bind_eq_some_iff.mp H
  obtain ⟨lo, h6, H⟩ := Option.bind_eq_some_iff.mp H
  obtain ⟨wk, h7, H⟩ := Option.bind_eq_some_iff.mp H
  obtain ⟨l1, h8, H⟩ := Option.bind_eq_some_iff.mp H
  obtain ⟨l2, h9, H⟩ := Option.bind_eq_some_iff.mp H
  obtain ⟨wa, h10, H⟩ := Option.bind_eq_some_iff.mp H
  dsimp only at H h3 h4 h5 h6 h7 h8 h9
  rw [Option.ite_none_right_eq_some] at H
  · obtain ⟨⟨e1, e2, rfl⟩, H⟩ := H
    obtain rfl : true = r := by simpa using H
    have H1 := Aside0.mk h1
    have H2 := Aside0.mk h2
    have H3 := Aside0.mk h3
    have H4 := Aside0.mk h4
    have H5 := Aside0.mk h5
    have H6 := Aside0.mk h6
    have H7 := Aside0.mk h7
    have H8 := Aside0.mk h8
    have H9 := Aside0.mk h9
    have H10 := Aside0.mk h10
    have E1 := Aside0.mk e1
    have E2 := Aside0.mk e2
    clear h1 h2 h3 h4 h5 h6 h7 h8 h9 h10 e1 e2 H
    have hu47 := Try.underlying47
    have hu25 := Try.underlying25
    have hu39 := Try.underlying39
    go_enter Try.func6, Try.ntmps6
    go_upto_region 3 with (go_at_call 21; refine (solsticelaw20_Some.calls k a0 t _ H1.out).mono ?_; rintro e w1 ⟨rfl, hb1⟩)
    refine wp_abs (fun W => Below w.heap.size w W) hb1 ?_
    rintro W hbW
    simp only [hnu, hwd]
    clear hnu hwd
    have BW := Aside0.mk hbW
    clear hb1 hbW
    go_upto_region 5 with (fail)
    have hne : W.heap.size + 1 ≠ W.heap.size + 1 + 1 + 1 := by omega
    have hn1 : W.heap.size ≠ W.heap.size + 1 ∧ W.heap.size ≠ W.heap.size + 1 + 1 + 1 ∧ W.heap.size + 1 + 1 ≠ W.heap.size + 1 ∧ W.heap.size + 1 + 1 ≠ W.heap.size + 1 + 1 + 1 := by omega
    have hge : w.heap.size ≤ W.heap.size + 1 ∧ w.heap.size ≤ W.heap.size + 1 + 1 + 1 := by have := BW.out.size; omega
    refine wp_abs (fun W2 => W2.heap[W.heap.size + 1]? = some (.cells #[.int .i64 6, .int .i64 1, .int .i64 0, .bool false, .int .i64 0, .bool false, .slice none 0 0, .slice none 0 0, .slice none 0 0, .slice (some ⟨W.heap.size, 0, none⟩) 1 1, .slice none 0 0, .slice none 0 0, .slice none 0 0, .slice none 0 0, .slice none 0 0, .int .i64 0] 25 (0, 0)) ∧ W2.heap[W.heap.size + 1 + 1 + 1]? = some (.cells #[.int .i64 6, .int .i64 1, .int .i64 0, .bool false, .int .i64 0, .bool false, .slice none 0 0, .slice none 0 0, .slice none 0 0, .slice (some ⟨W.heap.size + 1 + 1, 0, none⟩) 1 1, .slice none 0 0, .slice none 0 0, .slice none 0 0, .slice none 0 0, .slice none 0 0, .int .i64 0] 25 (0, 0)) ∧ W2.heap[W.heap.size]? = some (.cells #[.int .i64 nu, .int .i64 wn] 47 (0, 0)) ∧ W2.heap[W.heap.size + 1 + 1]? = some (.cells #[.int .i64 (wrap64 (-nu)), .int .i64 wn] 47 (0, 0)) ∧ Below w.heap.size w W2) ⟨?_, ?_, ?_, ?_, ?_⟩ ?_
    · exact blk_alloc (blk_alloc (new1 (by simp)) _) _
    · exact new1 (by simp)
    · exact blk_alloc (blk_alloc (blk_alloc (blk_new W _) _) _) _
    · exact blk_alloc (new1 (by simp)) _
    · exact below_alloc (below_alloc (below_alloc (below_alloc BW.out _) _) _) _
    rintro W2 ⟨b1, b2, b3, b4, b5⟩
    generalize W.heap.size + 1 + 1 + 1 = g4 at *
    generalize W.heap.size + 1 + 1 = g3 at *
    generalize W.heap.size + 1 = g2 at *
    generalize W.heap.size = g1 at *
    have HN := Aside0.mk hne
    have HN1 := Aside0.mk hn1
    have GE := Aside0.mk hge
    have K1 := Aside0.mk b1
    have K2 := Aside0.mk b2
    have M1 := Aside0.mk b3
    have M2 := Aside0.mk b4
    have B2 := Aside0.mk b5
    clear hne hn1 hge b1 b2 b3 b4 b5 BW
    go_upto_region 7 with (first
      | (go_at_call 22; refine (solsticeref01_Div.calls t 86400 dv sc _ H2.out).mono ?_; rintro e w' ⟨rfl, ⟨nd, rfl⟩⟩)
      | (go_at_call 23; refine (solsticeref01_Date.calls k dv y m d _ H3.out).mono ?_; rintro e w3 ⟨rfl, hb3⟩; have K3 := Aside0.mk ((hb3.block _ (blk_lt (blk_drewN K1.out _))).trans (blk_drewN K1.out _)); have K4 := Aside0.mk ((hb3.block _ (blk_lt (blk_drewN K2.out _))).trans (blk_drewN K2.out _)); have M3 := Aside0.mk ((hb3.block _ (blk_lt (blk_drewN M1.out _))).trans (blk_drewN M1.out _)); have M4 := Aside0.mk ((hb3.block _ (blk_lt (blk_drewN M2.out _))).trans (blk_drewN M2.out _)); have B3 := Aside0.mk (below_then (pw_below_drewN B2.out _) (pw_below_drewN B2.out _).size hb3); clear hb3))
    refine wp_abs (fun W4 => W4.heap[w3.heap.size]? = some (.cells #[.int .i64 y, .int .i64 m, .int .i64 d] 39 (0, 0)) ∧ W4.heap[g2]? = some (.cells #[.int .i64 6, .int .i64 1, .int .i64 0, .bool false, .int .i64 0, .bool false, .slice none 0 0, .slice none 0 0, .slice none 0 0, .slice (some ⟨g1, 0, none⟩) 1 1, .slice none 0 0, .slice none 0 0, .slice none 0 0, .slice none 0 0, .slice none 0 0, .int .i64 0] 25 (0, 0)) ∧ W4.heap[g4]? = some (.cells #[.int .i64 6, .int .i64 1, .int .i64 0, .bool false, .int .i64 0, .bool false, .slice none 0 0, .slice none 0 0, .slice none 0 0, .slice (some ⟨g3, 0, none⟩) 1 1, .slice none 0 0, .slice none 0 0, .slice none 0 0, .slice none 0 0, .slice none 0 0, .int .i64 0] 25 (0, 0)) ∧ W4.heap[g1]? = some (.cells #[.int .i64 nu, .int .i64 wn] 47 (0, 0)) ∧ W4.heap[g3]? = some (.cells #[.int .i64 (wrap64 (-nu)), .int .i64 wn] 47 (0, 0)) ∧ Below w.heap.size w W4) ⟨blk_new _ _, blk_alloc K3.out _, blk_alloc K4.out _, blk_alloc M3.out _, blk_alloc M4.out _, below_alloc B3.out _⟩ ?_
    rintro W4 ⟨b0, b1, b2, b3, b4, b5⟩
    have hn5 : w3.heap.size ≠ g2 ∧ w3.heap.size ≠ g4 := ⟨Nat.ne_of_gt (blk_lt K3.out), Nat.ne_of_gt (blk_lt K4.out)⟩
    generalize w3.heap.size = g5 at *
    have HN5 := Aside0.mk hn5
    clear hn5
    have D5 := Aside0.mk b0
    have K5 := Aside0.mk b1
    have K6 := Aside0.mk b2
    have M5 := Aside0.mk b3
    have M6 := Aside0.mk b4
    have B5 := Aside0.mk b5
    have c0 : W4.cell? ⟨g5, 0, none⟩ = some (.int .i64 y) := (blk_cell b0 0).trans rfl
    have c1 : W4.cell? ⟨g5, 1, none⟩ = some (.int .i64 m) := (blk_cell b0 1).trans rfl
    have c2 : W4.cell? ⟨g5, 2, none⟩ = some (.int .i64 d) := (blk_cell b0 2).trans rfl
    clear b0 b1 b2 b3 b4 b5 K3 K4 M3 M4 B3 K1 K2 M1 M2 B2
    go_upto_if 56 with (go_at_call 24; refine (solsticeref01_Len.calls k y m ln _ H4.out).mono ?_; rintro e w' ⟨rfl, ⟨nd, rfl⟩⟩; (try first | exact ⟨rfl, _, World.drewN_drewN _ _ _⟩ | exact ⟨rfl, _, Eq.trans (World.drewN_drewN _ _ _) (congrArg (World.drewN _) (Nat.add_assoc _ _ _))⟩))
    repeat (go_quiet (first | (go_at_call 24; refine (solsticeref01_Len.calls k y m ln _ H4.out).mono ?_; rintro e w' ⟨rfl, ⟨nd, rfl⟩⟩; (try first | exact ⟨rfl, _, World.drewN_drewN _ _ _⟩ | exact ⟨rfl, _, Eq.trans (World.drewN_drewN _ _ _) (congrArg (World.drewN _) (Nat.add_assoc _ _ _))⟩))); go_upto_if 56 with (fail))
    refine wp_abs (fun W5 => W5.heap[g5]? = some (.cells #[.int .i64 y, .int .i64 m, .int .i64 d] 39 (0, 0)) ∧ W5.heap[g2]? = some (.cells #[.int .i64 6, .int .i64 1, .int .i64 0, .bool false, .int .i64 0, .bool false, .slice none 0 0, .slice none 0 0, .slice none 0 0, .slice (some ⟨g1, 0, none⟩) 1 1, .slice none 0 0, .slice none 0 0, .slice none 0 0, .slice none 0 0, .slice none 0 0, .int .i64 0] 25 (0, 0)) ∧ W5.heap[g4]? = some (.cells #[.int .i64 6, .int .i64 1, .int .i64 0, .bool false, .int .i64 0, .bool false, .slice none 0 0, .slice none 0 0, .slice none 0 0, .slice (some ⟨g3, 0, none⟩) 1 1, .slice none 0 0, .slice none 0 0, .slice none 0 0, .slice none 0 0, .slice none 0 0, .int .i64 0] 25 (0, 0)) ∧ W5.heap[g1]? = some (.cells #[.int .i64 nu, .int .i64 wn] 47 (0, 0)) ∧ W5.heap[g3]? = some (.cells #[.int .i64 (wrap64 (-nu)), .int .i64 wn] 47 (0, 0)) ∧ Below w.heap.size w W5) ⟨blk_drewN D5.out _, blk_drewN K5.out _, blk_drewN K6.out _, blk_drewN M5.out _, blk_drewN M6.out _, pw_below_drewN B5.out _⟩ ?_
    rintro W5 ⟨b0, b1, b2, b3, b4, b5⟩
    have D6 := Aside0.mk b0
    have K7 := Aside0.mk b1
    have K8 := Aside0.mk b2
    have M7 := Aside0.mk b3
    have M8 := Aside0.mk b4
    have B6 := Aside0.mk b5
    clear b0 b1 b2 b3 b4 b5 c0 c1 c2 D5 K5 K6 M5 M6 B5
    go_cut [14, 15] (fun v14 v15 wc => ∃ u : Unit, v14 = .int .i64 (if a3 = true then yd else d) ∧ v15 = .int .i64 (if a3 = true then (if lo = true then wrap64 (wrap64 (wrap64 (364 - yd) + 1) + 1) else wrap64 (wrap64 (364 - yd) + 1)) else wrap64 (ln - d)) ∧ Aside0 (wc.heap[g2]? = some (.cells #[.int .i64 (if a3 = true then 7 else 6), .int .i64 1, .int .i64 0, .bool false, .int .i64 0, .bool false, .slice none 0 0, .slice none 0 0, .slice none 0 0, .slice (some ⟨g1, 0, none⟩) 1 1, .slice none 0 0, .slice none 0 0, .slice none 0 0, .slice none 0 0, .slice none 0 0, .int .i64 0] 25 (0, 0))) ∧ Aside0 (wc.heap[g4]? = some (.cells #[.int .i64 (if a3 = true then 7 else 6), .int .i64 1, .int .i64 0, .bool false, .int .i64 0, .bool false, .slice none 0 0, .slice none 0 0, .slice none 0 0, .slice (some ⟨g3, 0, none⟩) 1 1, .slice none 0 0, .slice none 0 0, .slice none 0 0, .slice none 0 0, .slice none 0 0, .int .i64 0] 25 (0, 0))) ∧ Aside0 (wc.heap[g1]? = some (.cells #[.int .i64 nu, .int .i64 wn] 47 (0, 0))) ∧ Aside0 (wc.heap[g3]? = some (.cells #[.int .i64 (wrap64 (-nu)), .int .i64 wn] 47 (0, 0))) ∧ Aside0 (Below w.heap.size w wc))
    case first =>
      clear H8 H9 E1 E2
      cases a3 with
      | false =>
        go_wp2
        go_meet
        case rel => exact ⟨(), rfl, rfl, ⟨K7.out⟩, ⟨K8.out⟩, ⟨M7.out⟩, ⟨M8.out⟩, ⟨B6.out⟩⟩
      | true =>
        have cz2 : W5.cell? ⟨g2, 0, none⟩ = some (.int .i64 6) := (blk_cell K7.out 0).trans rfl
        have cz4 : W5.cell? ⟨g4, 0, none⟩ = some (.int .i64 6) := (blk_cell K8.out 0).trans rfl
        have cf2 := blk_frozen K7.out 0
        have cf4 := blk_frozen K8.out 0
        have hnb := HN.out
        have hnc := HN.out.symm
        go_upto_region 10 with (fail)
        refine wp_abs (fun W6 => W6.heap[g5]? = some (.cells #[.int .i64 y, .int .i64 m, .int .i64 d] 39 (0, 0)) ∧ W6.heap[g2]? = some (.cells #[.int .i64 7, .int .i64 1, .int .i64 0, .bool false, .int .i64 0, .bool false, .slice none 0 0, .slice none 0 0, .slice none 0 0, .slice (some ⟨g1, 0, none⟩) 1 1, .slice none 0 0, .slice none 0 0, .slice none 0 0, .slice none 0 0, .slice none 0 0, .int .i64 0] 25 (0, 0)) ∧ W6.heap[g4]? = some (.cells #[.int .i64 7, .int .i64 1, .int .i64 0, .bool false, .int .i64 0, .bool false, .slice none 0 0, .slice none 0 0, .slice none 0 0, .slice (some ⟨g3, 0, none⟩) 1 1, .slice none 0 0, .slice none 0 0, .slice none 0 0, .slice none 0 0, .slice none 0 0, .int .i64 0] 25 (0, 0)) ∧ W6.heap[g1]? = some (.cells #[.int .i64 nu, .int .i64 wn] 47 (0, 0)) ∧ W6.heap[g3]? = some (.cells #[.int .i64 (wrap64 (-nu)), .int .i64 wn] 47 (0, 0)) ∧ Below w.heap.size w W6)
          ⟨blk_far (blk_far D6.out HN5.out.1 _) HN5.out.2 _, blk_far (blk_put K7.out 0 _ rfl) HN.out _, blk_put (blk_far K8.out HN.out.symm _) 0 _ rfl, blk_far (blk_far M7.out HN1.out.1 _) HN1.out.2.1 _, blk_far (blk_far M8.out HN1.out.2.2.1 _) HN1.out.2.2.2 _, below_set (below_set B6.out GE.out.1) GE.out.2⟩ ?_
        rintro W6 ⟨b0, b1, b2, b3, b4, b5⟩
        have c6 : W6.cell? ⟨g5, 0, none⟩ = some (.int .i64 y) := (blk_cell b0 0).trans rfl
        have K9 := Aside0.mk b1
        have K10 := Aside0.mk b2
        have M9 := Aside0.mk b3
        have M10 := Aside0.mk b4
        have B7 := Aside0.mk b5
        clear b0 b1 b2 b3 b4 b5 cz2 cz4 cf2 cf4 hnb hnc
        cases lo
        all_goals
          go_wp2_with (first
            | (go_at_call 25; refine (solsticeref01_YearDay.calls k dv yd _ H5.out).mono ?_; rintro e w7 ⟨rfl, hb7⟩; have c7 : w7.cell? ⟨g5, 0, none⟩ = some (.int .i64 y) := (hb7.cell (World.block_lt_of_cell? _ _ c6)).trans c6; clear c6; have K11 := Aside0.mk ((hb7.block _ (blk_lt K9.out)).trans K9.out); have K12 := Aside0.mk ((hb7.block _ (blk_lt K10.out)).trans K10.out); have M11 := Aside0.mk ((hb7.block _ (blk_lt M9.out)).trans M9.out); have M12 := Aside0.mk ((hb7.block _ (blk_lt M10.out)).trans M10.out); have B8 := Aside0.mk (below_then B7.out B7.out.size hb7); clear hb7)
            | (go_at_call 26; refine (solsticeref01_Long.calls y _ _ H6.out).mono ?_; rintro e w' ⟨rfl, ⟨nd, rfl⟩⟩))
          go_meet
          case rel => exact ⟨(), rfl, rfl, ⟨blk_drewN K11.out _⟩, ⟨blk_drewN K12.out _⟩, ⟨blk_drewN M11.out _⟩, ⟨blk_drewN M12.out _⟩, ⟨pw_below_drewN B8.out _⟩⟩
    case rest =>
      obtain ⟨_, rfl, rfl, K13, K14, M13, M14, B9⟩ := hcut
      have e1 := E1.out
      have e2 := E2.out
      have h8 := H8.out
      have h9 := H9.out
      clear E1 E2 H8 H9
      generalize (if a3 = true then yd else d) = p14 at *
      generalize (if a3 = true then (if lo = true then wrap64 (wrap64 (wrap64 (364 - yd) + 1) + 1) else wrap64 (wrap64 (364 - yd) + 1)) else wrap64 (ln - d)) = p15 at *
      generalize (if a3 = true then (7 : Int) else 6) = fr at *
      have q1b : (wk == wn) = decide (wk = wn) := by rw [Bool.eq_iff_iff]; simp
      have q2b : (wrap64 (wrap64 (Int.tdiv (wrap64 (p14 - 1)) 7) + 1) == nu) = decide (wrap64 (wrap64 (Int.tdiv (wrap64 (p14 - 1)) 7) + 1) = nu) := by rw [Bool.eq_iff_iff]; simp
      have q3b : (wrap64 (wrap64 (Int.tdiv p15 7) + 1) == nu) = decide (wrap64 (wrap64 (Int.tdiv p15 7) + 1) = nu) := by rw [Bool.eq_iff_iff]; simp
      have hs8 := Aside0.mk h8
      have hs9 := Aside0.mk h9
      clear h8 h9
      repeat clear H
      generalize decide (wk = wn) = b1 at *
      generalize decide (wrap64 (wrap64 (Int.tdiv (wrap64 (p14 - 1)) 7) + 1) = nu) = b2 at *
      generalize decide (wrap64 (wrap64 (Int.tdiv p15 7) + 1) = nu) = b3 at *
      cases b1 <;> cases b2 <;> cases b3
      all_goals
        simp only [Bool.and_self, Bool.and_true, Bool.and_false, Bool.true_and, Bool.false_and] at e1 e2
        subst e1 e2
        go_wp2_with (first
          | ((with_reducible refine gate_dst (N := 73) rfl ?_); refine load25_run rfl rfl rfl (by (with_reducible repeat (first | refine blk_drewN ?_ _ | refine blk_drew ?_ | refine blk_alloc ?_ _)); exact K13.out) rfl ?_)
          | ((with_reducible refine gate_dst (N := 88) rfl ?_); (refine gate_guard (by rfl) ?_; dsimp only); refine load25_run rfl rfl rfl K15.out rfl ?_)
          | (go_at_call 27; refine (solsticeref01_Weekday.calls dv wk _ H7.out).mono ?_; rintro e w' ⟨rfl, ⟨nd, rfl⟩⟩)
          | (go_at_call 16; refine (solsticelaw22_wakes.calls k true _ rfl H10.out).mono ?_; rintro e w10 ⟨rfl, hb10⟩)
          | (go_at_call 12; refine (filter_Lets.calls k fr 1 0 false 0 false none 0 [] none 0 [] none 0 [] (some ⟨g3, 0, none⟩) 1 [⟨wrap64 (-nu), wn⟩] none 0 [] none 0 [] none 0 [] none 0 [] none 0 [] 0 t t _ _ (C_nil _ _ _) (by decide) (C_nil _ _ _) (by decide) (C_nil _ _ _) (by decide) (C_one47 _ M15.out) (Nat.le_refl _) (C_nil _ _ _) (by decide) (C_nil _ _ _) (by decide) (C_nil _ _ _) (by decide) (C_nil _ _ _) (by decide) (C_nil _ _ _) (by decide) hs9.out).mono ?_; rintro e w9 ⟨rfl, hb9⟩; have B11 := Aside0.mk (below_then B10.out B10.out.size hb9); clear hb9)
          | (go_at_call 12; refine (filter_Lets.calls k fr 1 0 false 0 false none 0 [] none 0 [] none 0 [] (some ⟨g1, 0, none⟩) 1 [⟨nu, wn⟩] none 0 [] none 0 [] none 0 [] none 0 [] none 0 [] 0 t t _ _ (C_nil _ _ _) (by decide) (C_nil _ _ _) (by decide) (C_nil _ _ _) (by decide) (C_one47 _ (blk_drewN M13.out _)) (Nat.le_refl _) (C_nil _ _ _) (by decide) (C_nil _ _ _) (by decide) (C_nil _ _ _) (by decide) (C_nil _ _ _) (by decide) (C_nil _ _ _) (by decide) hs8.out).mono ?_; rintro e w8 ⟨rfl, hb8⟩; have K15 := Aside0.mk ((hb8.block _ (blk_lt (blk_drewN K14.out _))).trans (blk_drewN K14.out _)); have M15 := Aside0.mk ((hb8.block _ (blk_lt (blk_drewN M14.out _))).trans (blk_drewN M14.out _)); have B10 := Aside0.mk (below_then (pw_below_drewN B9.out _) (pw_below_drewN B9.out _).size hb8); clear hb8))
        go_ret
        exact ⟨rfl, below_then B11.out B11.out.size hb10⟩
/-- THE ONE PURE STATEMENT of solsticelaw22_FilterDays. -/
def solsticelaw22_FilterDays.Pure : Prop := ∀ (a0 : Int) (a1 : Int) (a2 : Int) (a3 : Bool), (Lit.int .i64 a0).wf = true → (Lit.int .i64 a1).wf = true → (Lit.int .i64 a2).wf = true → ∃ k, solsticelaw22_FilterDays.f k a0 a1 a2 a3 = some true
theorem solsticelaw22_FilterDays.walk (P : solsticelaw22_FilterDays.Pure) (a0 : Int) (a1 : Int) (a2 : Int) (a3 : Bool) (w : World) (w0 : (Lit.int .i64 a0).wf = true) (w1 : (Lit.int .i64 a1).wf = true) (w2 : (Lit.int .i64 a2).wf = true) :
    Calls Try.prog 6 #[.int .i64 a0, .int .i64 a1, .int .i64 a2, .bool a3] w fun e w' => e = .returned (.bool true) ∧ Below w.heap.size w w' := by
  obtain ⟨k, h⟩ := P a0 a1 a2 a3 w0 w1 w2
  exact solsticelaw22_FilterDays.calls k a0 a1 a2 a3 true w h
end Go.Proofs.Ytmhpmkbifhgnbaa.O
