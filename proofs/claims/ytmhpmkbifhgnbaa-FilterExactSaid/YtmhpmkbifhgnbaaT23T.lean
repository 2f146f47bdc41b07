/- The reference's Period and Span, as contracts. No condition beyond those each lemma names. -/
import Derived.Test.YtmhpmkbifhgnbaaT23Q
namespace Go.Proofs.Ytmhpmkbifhgnbaa.Pure
open Go.RowKit Go.Proofs.Ytmhpmkbifhgnbaa.O Go.Proofs.YtmhpmkbifhgnbaaW.PrintWords Go.Proofs.YtmhpmkbifhgnbaaW.PrintLast
open Go.Proofs.Ytmhpmkbifhgnbaa.Civ
set_option linter.unusedVariables false
set_option linter.unusedSimpArgs false
set_option maxHeartbeats 4000000
set_option maxRecDepth 100000
theorem on_nil {L : List (Nat × Obj)} {w0 W : World} (M : On L w0 W) : On [] w0 W := ⟨M.bl, fun k g o h => by simp at h, List.nodup_nil⟩
theorem per_of {r : RR} (t : Int) : (r.fr = 1 → perV r t = t) ∧ (r.fr = 2 → perV r t = t / 60) ∧ (r.fr = 3 → perV r t = t / 3600) ∧ (r.fr = 4 → perV r t = t / 86400) ∧ (r.fr = 5 → perV r t = (t / 86400 + 4 - r.wk) / 7) ∧ (r.fr = 6 → perV r t = 12 * (dt (t / 86400)).1 + (dt (t / 86400)).2.1 - 1) ∧
    (r.fr = 7 → r.wn = [] → perV r t = (dt (t / 86400)).1) ∧ (r.fr = 7 → r.wn ≠ [] → perV r t = (noV (t / 86400) r.wk).1) := by
  refine ⟨fun e => ?_, fun e => ?_, fun e => ?_, fun e => ?_, fun e => ?_, fun e => ?_, fun e q => ?_, fun e q => ?_⟩ <;> unfold perV <;> simp only [e] <;> simp [*, wy]
theorem Period2_on {w : World} {cs : Array Value} {r : RR} (R : Rul w cs r) (h : Lens r) {t : Int} (ht : InT t) : Calls Try.prog 20 #[.agg cs, .int .i64 t] w (Rets w (.int .i64 (perV r t))) := by
  obtain ⟨A12, k12, e12, h12, C12⟩ := R.c12
  have y := dt_year ht
  have s := dt_spec (n := t / 86400) (by omega) (by omega)
  have k0 := h.w0
  have k1 := h.w1
  have f0 := h.f0
  have f1 := h.f1
  have tb : -62135596800 ≤ t ∧ t ≤ 253402300799 := ht
  have e5 : wrap64 (wrap64 (t / 86400 + 4) - r.wk) = t / 86400 + 4 - r.wk := by rw [w64 (x := t / 86400 + 4) (by omega) (by omega), w64 (by omega) (by omega)]
  have D5 : ∀ W, Calls Try.prog 22 #[.int .i64 (wrap64 (wrap64 (t / 86400 + 4) - r.wk)), .int .i64 7] W (Rets W (.tuple #[.int .i64 ((t / 86400 + 4 - r.wk) / 7), .int .i64 ((t / 86400 + 4 - r.wk) % 7)])) := fun W => by rw [e5]; exact rdiv_on (by decide) (by decide) (by omega) (by omega)
  have e6 : wrap64 (wrap64 (wrap64 (12 * (dt (t / 86400)).1) + (dt (t / 86400)).2.1) - 1) = 12 * (dt (t / 86400)).1 + (dt (t / 86400)).2.1 - 1 := by
    have m1 := s.1.2.2.1
    have m2 := s.1.2.2.2.1
    rw [w64 (x := 12 * (dt (t / 86400)).1) (by omega) (by omega), w64 (x := 12 * (dt (t / 86400)).1 + (dt (t / 86400)).2.1) (by omega) (by omega), w64 (by omega) (by omega)]
  obtain ⟨v1, v2, v3, v4, v5, v6, v7, v8⟩ := per_of (r := r) t
  have M := On.nil w
  refine en_ Try.func20 rfl rfl rfl fun a K => sr_ (bx_ K M rfl rfl rfl rfl rfl rfl fun a g2 W2 M K => run_ 1 K rfl fun a K => nil_ ?_)
  refine sr_ (run_ 1 K rfl fun a K => cl_ K Try.func22 (by kernel_rfl) rfl rfl rfl rfl rfl rfl ((rdiv_on (a := t) (by decide) (by decide) (by omega) (by omega)).mono ?_))
  rintro _ w1 ⟨rfl, b1⟩
  replace M := M.call b1
  refine ⟨_, rfl, fun a K => run_ 5 K rfl fun a K => nil_ ?_⟩
  refine sr_ (run_ 1 K rfl fun a K => cl_ K Try.func23 (by kernel_rfl) rfl rfl rfl rfl rfl rfl ((rdate_on (n := t / 86400) (by omega) (by omega)).mono ?_))
  rintro _ w1 ⟨rfl, b1⟩
  replace M := M.call b1
  refine ⟨_, rfl, fun a K => nw_ K M rfl rfl rfl rfl rfl rfl rfl (fun _ => rfl) rfl rfl rfl fun a g7 W7 M K => nil_ ?_⟩
  refine sr_ (run_ 2 K rfl fun a K => nil_ ?_)
  refine sj_ (fun a' w' => Kn 72 [(8, .int .i64 (perV r t))] a' ∧ On [] w w') (sr_ (run_ 1 K rfl fun a K => ld_ K M 1 rfl rfl rfl rfl rfl rfl R.c0 rfl fun a K => nil_ ?_)) ?_
  · refine wp_block (sr_ (run_ 2 K rfl fun a K => nil_ ?_))
    by_cases c2 : r.fr = 2
    · refine ct_ K rfl (decide_eq_true c2) (rg_ (run_ 1 K rfl fun a K => cl_ K Try.func22 (by kernel_rfl) rfl rfl rfl rfl rfl rfl ((rdiv_on (a := t) (by decide) (by decide) (by omega) (by omega)).mono ?_)))
      rintro _ w1 ⟨rfl, b1⟩
      replace M := M.call b1
      refine ⟨_, rfl, fun a K => run_ 4 K rfl fun a K => ?_⟩
      exact nl_ ⟨fg_ (ks_ (i := 8) K rfl (congrArg (Value.int .i64) (v2 c2).symm)) ⟨rfl, trivial⟩, on_nil M⟩
    refine cf_ K rfl (decide_eq_false c2) (sr_ (run_ 2 K rfl fun a K => nil_ ?_))
    by_cases c3 : r.fr = 3
    · refine ct_ K rfl (decide_eq_true c3) (rg_ (run_ 1 K rfl fun a K => cl_ K Try.func22 (by kernel_rfl) rfl rfl rfl rfl rfl rfl ((rdiv_on (a := t) (by decide) (by decide) (by omega) (by omega)).mono ?_)))
      rintro _ w1 ⟨rfl, b1⟩
      replace M := M.call b1
      refine ⟨_, rfl, fun a K => run_ 4 K rfl fun a K => ?_⟩
      exact nl_ ⟨fg_ (ks_ (i := 8) K rfl (congrArg (Value.int .i64) (v3 c3).symm)) ⟨rfl, trivial⟩, on_nil M⟩
    refine cf_ K rfl (decide_eq_false c3) (sr_ (run_ 2 K rfl fun a K => nil_ ?_))
    by_cases c4 : r.fr = 4
    · exact ct_ K rfl (decide_eq_true c4) (rg_ (run_ 2 K rfl fun a K => nl_ ⟨fg_ (ks_ (i := 8) K rfl (congrArg (Value.int .i64) (v4 c4).symm)) ⟨rfl, trivial⟩, on_nil M⟩))
    refine cf_ K rfl (decide_eq_false c4) (sr_ (run_ 2 K rfl fun a K => nil_ ?_))
    by_cases c5 : r.fr = 5
    · refine ct_ K rfl (decide_eq_true c5) (rg_ (run_ 3 K rfl fun a K => ld_ K M 1 rfl rfl rfl rfl rfl rfl R.c15 rfl fun a K => run_ 1 K rfl fun a K => cl_ K Try.func22 (by kernel_rfl) rfl rfl rfl rfl rfl rfl ((D5 _).mono ?_)))
      rintro _ w5 ⟨rfl, b5⟩
      replace M := M.call b5
      refine ⟨_, rfl, fun a K => run_ 4 K rfl fun a K => ?_⟩
      exact nl_ ⟨fg_ (ks_ (i := 8) K rfl (congrArg (Value.int .i64) (v5 c5).symm)) ⟨rfl, trivial⟩, on_nil M⟩
    refine cf_ K rfl (decide_eq_false c5) (sr_ (run_ 2 K rfl fun a K => nil_ ?_))
    by_cases c6 : r.fr = 6
    · refine ct_ K rfl (decide_eq_true c6) (rg_ (run_ 1 K rfl fun a K => ld_ K M 0 rfl rfl rfl rfl rfl rfl rfl rfl fun a K => run_ 2 K rfl fun a K => ld_ K M 0 rfl rfl rfl rfl rfl rfl rfl rfl fun a K => run_ 3 K rfl fun a K => ?_))
      exact nl_ ⟨fg_ (ks_ (i := 8) K rfl (congrArg (Value.int .i64) (e6.trans (v6 c6).symm))) ⟨rfl, trivial⟩, on_nil M⟩
    refine cf_ K rfl (decide_eq_false c6) (sr_ (run_ 2 K rfl fun a K => nil_ ?_))
    by_cases c7 : r.fr = 7
    · refine ct_ K rfl (decide_eq_true c7) (sr_ (run_ 1 K rfl fun a K => ld_ K M 0 rfl rfl rfl rfl rfl rfl rfl rfl fun a K => run_ 1 K rfl fun a K => nil_ ?_))
      refine sr_ (run_ 1 K rfl fun a K => ld_ K M 1 rfl rfl rfl rfl rfl rfl e12 rfl fun a K => run_ 2 K rfl fun a K => nil_ ?_)
      by_cases q : r.wn = []
      · exact cf_ K rfl (nil_pos q) (wp_skip ⟨fg_ (ks_ (i := 8) K rfl (congrArg (Value.int .i64) (v7 c7 q).symm)) ⟨rfl, trivial⟩, on_nil M⟩)
      refine ct_ K rfl (pos_l q) (rg_ (run_ 2 K rfl fun a K => ld_ K M 1 rfl rfl rfl rfl rfl rfl R.c15 rfl fun a K => cl_ K Try.func52 (by kernel_rfl) rfl rfl rfl rfl rfl rfl ((no_on (n := t / 86400) (by omega) (by omega) k0 k1).mono ?_)))
      rintro _ w3 ⟨rfl, b3⟩
      replace M := M.call b3
      refine ⟨_, rfl, fun a K => run_ 4 K rfl fun a K => ?_⟩
      exact nl_ ⟨fg_ (ks_ (i := 8) K rfl (congrArg (Value.int .i64) (v8 c7 q).symm)) ⟨rfl, trivial⟩, on_nil M⟩
    exact cf_ K rfl (decide_eq_false c7) (wp_skip ⟨fg_ (ks_ (i := 8) K rfl (congrArg (Value.int .i64) (v1 (by omega)).symm)) ⟨rfl, trivial⟩, on_nil M⟩)
  clear K M
  rintro a W ⟨K, M⟩
  exact sr_ (run_ 2 K rfl fun a K => nil_ (ret_ rfl K rfl ⟨rfl, M.bl⟩))
theorem Span2_on {w : World} {cs : Array Value} {r : RR} (R : Rul w cs r) (h : Lens r) (p : Int) : Calls Try.prog 17 #[.agg cs, .int .i64 p] w (Rets w (.tuple #[.int .i64 (spanV r p).1, .int .i64 (spanV r p).2.1, .bool (decide ((spanV r p).2.2 = 0))])) := by
  obtain ⟨A12, k12, e12, h12, C12⟩ := R.c12
  have SR := span_ref h p
  have f0 := h.f0
  have f1 := h.f1
  have k0 := h.w0
  have k1 := h.w1
  have no : ¬ (inR r p ∧ InT (spanW r p).1 ∧ InT (spanW r p).2) → Ending.returned (Value.tuple #[.int .i64 0, .int .i64 0, .bool false]) = Ending.returned (.tuple #[.int .i64 (spanV r p).1, .int .i64 (spanV r p).2.1, .bool (decide ((spanV r p).2.2 = 0))]) := fun q => by
    have e : spanV r p = (0, 0, 23) := by unfold spanV; rw [if_neg (fun z => q (SR.1 z))]
    rw [e]; rfl
  have yes : (inR r p ∧ InT (spanW r p).1 ∧ InT (spanW r p).2) → Ending.returned (Value.tuple #[.int .i64 (spanW r p).1, .int .i64 (spanW r p).2, .bool true]) = Ending.returned (.tuple #[.int .i64 (spanV r p).1, .int .i64 (spanV r p).2.1, .bool (decide ((spanV r p).2.2 = 0))]) := fun q => by
    have e : spanV r p = ((spanW r p).1, (spanW r p).2, 0) := by unfold spanV; rw [if_pos (SR.2 q)]
    rw [e]; rfl
  have M := On.nil w
  refine en_ Try.func17 rfl rfl rfl fun a K => sr_ (bx_ K M rfl rfl rfl rfl rfl rfl fun a g2 W2 M K => run_ 3 K rfl fun a K => nil_ ?_)
  refine sr_ (run_ 3 K rfl fun a K => nil_ ?_)
  refine wp_seq (sr_ (run_ 1 K rfl fun a K => cl_ K Try.func43 (by kernel_rfl) rfl rfl rfl rfl rfl rfl ((rin_on p (-1099511627776) 1099511627776).mono ?_)))
  rintro _ w1 ⟨rfl, b1⟩
  replace M := M.call b1
  refine ⟨_, rfl, fun a K => run_ 1 K rfl fun a K => nil_ ?_⟩
  by_cases c : -1099511627776 ≤ p ∧ p ≤ 1099511627776
  case neg => exact ct_ K rfl (by rw [decide_eq_false c]; rfl) (sr_ (run_ 3 K rfl fun a K => nil_ (ret3_ rfl K rfl rfl rfl ⟨no (fun q => c ⟨q.1.1, q.1.2.1⟩), M.bl⟩)))
  refine cs_ K rfl (by rw [decide_eq_true c]; rfl) ?_
  have hp0 : ¬ r.fr = 6 → ¬ r.fr = 7 → inR r p := fun q6 q7 => ⟨c.1, c.2, fun e => absurd e q6, fun e => absurd e q7⟩
  refine sj_ (fun a' w' => inR r p ∧ Kn 115 [(7, .int .i64 (spanW r p).1), (8, .int .i64 ((spanW r p).2 - (spanW r p).1 + 1))] a' ∧ On [] w w') (sr_ (run_ 1 K rfl fun a K => ld_ K M 0 rfl rfl rfl rfl rfl rfl R.c0 rfl fun a K => nil_ ?_)) ?_
  · refine wp_block (sr_ (run_ 2 K rfl fun a K => nil_ ?_))
    by_cases c2 : r.fr = 2
    · have hp := hp0 (by omega) (by omega)
      have e := sp_2 c2 hp
      exact ct_ K rfl (decide_eq_true c2) (rg_ (run_ 4 K rfl fun a K => nl_ ⟨hp, fg_ (ks_ (i := 8) (ks_ (i := 7) K rfl (congrArg (Value.int .i64) e.1)) rfl (congrArg (Value.int .i64) e.2)) ⟨rfl, rfl, trivial⟩, on_nil M⟩))
    refine cf_ K rfl (decide_eq_false c2) (sr_ (run_ 2 K rfl fun a K => nil_ ?_))
    by_cases c3 : r.fr = 3
    · have hp := hp0 (by omega) (by omega)
      have e := sp_3 c3 hp
      exact ct_ K rfl (decide_eq_true c3) (rg_ (run_ 4 K rfl fun a K => nl_ ⟨hp, fg_ (ks_ (i := 8) (ks_ (i := 7) K rfl (congrArg (Value.int .i64) e.1)) rfl (congrArg (Value.int .i64) e.2)) ⟨rfl, rfl, trivial⟩, on_nil M⟩))
    refine cf_ K rfl (decide_eq_false c3) (sr_ (run_ 2 K rfl fun a K => nil_ ?_))
    by_cases c4 : r.fr = 4
    · have hp := hp0 (by omega) (by omega)
      have e := sp_4 c4 hp
      exact ct_ K rfl (decide_eq_true c4) (rg_ (run_ 4 K rfl fun a K => nl_ ⟨hp, fg_ (ks_ (i := 8) (ks_ (i := 7) K rfl (congrArg (Value.int .i64) e.1)) rfl (congrArg (Value.int .i64) e.2)) ⟨rfl, rfl, trivial⟩, on_nil M⟩))
    refine cf_ K rfl (decide_eq_false c4) (sr_ (run_ 2 K rfl fun a K => nil_ ?_))
    by_cases c5 : r.fr = 5
    · have hp := hp0 (by omega) (by omega)
      have e := sp_5 h c5 hp
      exact ct_ K rfl (decide_eq_true c5) (rg_ (run_ 4 K rfl fun a K => ld_ K M 0 rfl rfl rfl rfl rfl rfl R.c15 rfl fun a K => run_ 4 K rfl fun a K => nl_ ⟨hp, fg_ (ks_ (i := 8) (ks_ (i := 7) K rfl (congrArg (Value.int .i64) e.1)) rfl (congrArg (Value.int .i64) e.2)) ⟨rfl, rfl, trivial⟩, on_nil M⟩))
    refine cf_ K rfl (decide_eq_false c5) (sr_ (run_ 2 K rfl fun a K => nil_ ?_))
    by_cases c6 : r.fr = 6
    · refine ct_ K rfl (decide_eq_true c6) (wp_seq (sr_ (run_ 1 K rfl fun a K => cl_ K Try.func43 (by kernel_rfl) rfl rfl rfl rfl rfl rfl ((rin_on p 12 119999).mono ?_))))
      rintro _ w1 ⟨rfl, b1⟩
      replace M := M.call b1
      refine ⟨_, rfl, fun a K => run_ 1 K rfl fun a K => nil_ ?_⟩
      by_cases q : 12 ≤ p ∧ p ≤ 119999
      case neg => exact ct_ K rfl (by rw [decide_eq_false q]; rfl) (sr_ (run_ 3 K rfl fun a K => nil_ (ret3_ rfl K rfl rfl rfl ⟨no (fun z => q (z.1.2.2.1 c6)), M.bl⟩)))
      have hp : inR r p := ⟨c.1, c.2, fun _ => q, fun e => by omega⟩
      have e := sp_6 c6 hp
      have N6 : ∀ W, Calls Try.prog 45 #[.agg #[.int .i64 (wrap64 (Int.tdiv p 12)), .int .i64 (wrap64 (Int.tmod p 12 + 1)), .int .i64 1]] W (Rets W (.int .i64 (num (p / 12) (p % 12 + 1) 1))) := fun W => by
        rw [e.2.2.1, e.2.2.2]; exact rnumb_on (by omega) (by omega) (by omega) (by omega) (by decide) (by decide)
      have L6 : ∀ W, Calls Try.prog 24 #[.int .i64 (wrap64 (Int.tdiv p 12)), .int .i64 (wrap64 (Int.tmod p 12 + 1))] W (Rets W (.int .i64 (ln (p / 12) (p % 12 + 1)))) := fun W => by
        rw [e.2.2.1, e.2.2.2]; exact rlenm_on (by omega) (by omega)
      refine cs_ K rfl (by rw [decide_eq_true q]; rfl) (sr_ (run_ 5 K rfl fun a K => val_ K rfl rfl rfl (run_bq30 rfl (K.of (x := .tmp 46) rfl) (K.of (x := .tmp 49) rfl) (K.of (x := .const (.int .i64 1)) rfl)) fun a K => cl_ K Try.func45 (by kernel_rfl) rfl rfl rfl rfl rfl rfl ((N6 _).mono ?_)))
      rintro _ w6 ⟨rfl, b6⟩
      replace M := M.call b6
      refine ⟨_, rfl, fun a K => run_ 2 K rfl fun a K => nil_ ?_⟩
      refine rg_ (run_ 5 K rfl fun a K => cl_ K Try.func24 (by kernel_rfl) rfl rfl rfl rfl rfl rfl ((L6 _).mono ?_))
      rintro _ w5 ⟨rfl, b5⟩
      replace M := M.call b5
      refine ⟨_, rfl, fun a K => run_ 2 K rfl fun a K => ?_⟩
      exact nl_ ⟨hp, fg_ (ks_ (i := 8) (ks_ (i := 7) K rfl (congrArg (Value.int .i64) e.1)) rfl (congrArg (Value.int .i64) e.2.1)) ⟨rfl, rfl, trivial⟩, on_nil M⟩
    refine cf_ K rfl (decide_eq_false c6) (sr_ (run_ 2 K rfl fun a K => nil_ ?_))
    by_cases c7 : r.fr = 7
    · refine ct_ K rfl (decide_eq_true c7) (wp_seq (sr_ (run_ 1 K rfl fun a K => cl_ K Try.func43 (by kernel_rfl) rfl rfl rfl rfl rfl rfl ((rin_on p 1 9999).mono ?_))))
      rintro _ w1 ⟨rfl, b1⟩
      replace M := M.call b1
      refine ⟨_, rfl, fun a K => run_ 1 K rfl fun a K => nil_ ?_⟩
      by_cases q : 1 ≤ p ∧ p ≤ 9999
      case neg => exact ct_ K rfl (by rw [decide_eq_false q]; rfl) (sr_ (run_ 3 K rfl fun a K => nil_ (ret3_ rfl K rfl rfl rfl ⟨no (fun z => q (z.1.2.2.2 c7)), M.bl⟩)))
      have hp : inR r p := ⟨c.1, c.2, fun e => by omega, fun _ => q⟩
      obtain ⟨e0, _, _, e1, e2⟩ := sp_7 c7 hp
      have N7 : ∀ W, Calls Try.prog 45 #[.agg #[.int .i64 (wrap64 (p + 1)), .int .i64 1, .int .i64 1]] W (Rets W (.int .i64 (num (p + 1) 1 1))) := fun W => by
        rw [e0]; exact rnumb_on (by omega) (by omega) (by decide) (by decide) (by decide) (by decide)
      have F7 : ∀ W, Calls Try.prog 46 #[.int .i64 (wrap64 (p + 1)), .int .i64 r.wk] W (Rets W (.int .i64 (fw (p + 1) r.wk))) := fun W => by
        rw [e0]; exact fweek_on (by omega) (by omega) k0 k1
      refine cs_ K rfl (by rw [decide_eq_true q]; rfl) (sr_ (run_ 1 K rfl fun a K => val_ K rfl rfl rfl (run_bq30 rfl (K.of (x := .tmp 65) rfl) (K.of (x := .const (.int .i64 1)) rfl) (K.of (x := .const (.int .i64 1)) rfl)) fun a K => cl_ K Try.func45 (by kernel_rfl) rfl rfl rfl rfl rfl rfl ((rnumb_on (y := p) (m := 1) (d := 1) (by omega) (by omega) (by decide) (by decide) (by decide) (by decide)).mono ?_)))
      rintro _ w2 ⟨rfl, b2⟩
      replace M := M.call b2
      refine ⟨_, rfl, fun a K => run_ 2 K rfl fun a K => nil_ ?_⟩
      refine sr_ (run_ 2 K rfl fun a K => val_ K rfl rfl rfl (run_bq30 rfl (K.of (x := .tmp 70) rfl) (K.of (x := .const (.int .i64 1)) rfl) (K.of (x := .const (.int .i64 1)) rfl)) fun a K => cl_ K Try.func45 (by kernel_rfl) rfl rfl rfl rfl rfl rfl ((N7 _).mono ?_))
      rintro _ w3 ⟨rfl, b3⟩
      replace M := M.call b3
      refine ⟨_, rfl, fun a K => run_ 4 K rfl fun a K => nil_ ?_⟩
      refine sr_ (run_ 1 K rfl fun a K => ld_ K M 0 rfl rfl rfl rfl rfl rfl e12 rfl fun a K => run_ 2 K rfl fun a K => nil_ ?_)
      by_cases z : r.wn = []
      · have e := e1 z
        exact cf_ K rfl (nil_pos z) (wp_skip ⟨hp, fg_ (ks_ (i := 8) (ks_ (i := 7) K rfl (congrArg (Value.int .i64) e.1)) rfl (congrArg (Value.int .i64) e.2)) ⟨rfl, rfl, trivial⟩, on_nil M⟩)
      have e := e2 z
      refine ct_ K rfl (pos_l z) (sr_ (run_ 2 K rfl fun a K => ld_ K M 0 rfl rfl rfl rfl rfl rfl R.c15 rfl fun a K => cl_ K Try.func46 (by kernel_rfl) rfl rfl rfl rfl rfl rfl ((fweek_on (y := p) (by omega) (by omega) k0 k1).mono ?_)))
      rintro _ w3 ⟨rfl, b3⟩
      replace M := M.call b3
      refine ⟨_, rfl, fun a K => run_ 2 K rfl fun a K => nil_ ?_⟩
      refine rg_ (run_ 3 K rfl fun a K => ld_ K M 0 rfl rfl rfl rfl rfl rfl R.c15 rfl fun a K => cl_ K Try.func46 (by kernel_rfl) rfl rfl rfl rfl rfl rfl ((F7 _).mono ?_))
      rintro _ w4 ⟨rfl, b4⟩
      replace M := M.call b4
      refine ⟨_, rfl, fun a K => run_ 4 K rfl fun a K => ?_⟩
      exact nl_ ⟨hp, fg_ (ks_ (i := 8) (ks_ (i := 7) K rfl (congrArg (Value.int .i64) e.1)) rfl (congrArg (Value.int .i64) e.2)) ⟨rfl, rfl, trivial⟩, on_nil M⟩
    have hp := hp0 c6 c7
    have e := sp_1 (r := r) (by omega) p
    exact cf_ K rfl (decide_eq_false c7) (wp_skip ⟨hp, fg_ (ks_ (i := 8) (ks_ (i := 7) K rfl (congrArg (Value.int .i64) e.1)) rfl (congrArg (Value.int .i64) e.2)) ⟨rfl, rfl, trivial⟩, on_nil M⟩)
  clear K M
  rintro a W ⟨hp, K, M⟩
  have b := span_bd2 h hp
  have ee := sp_end h hp
  have YB : ∀ W, Calls Try.prog 18 #[.int .i64 (wrap64 (wrap64 ((spanW r p).1 + ((spanW r p).2 - (spanW r p).1 + 1)) - 1))] W (Rets W (.tuple #[.agg #[.int .i64 (yearsV (spanW r p).2).1, .int .i64 (yearsV (spanW r p).2).2.1, .int .i64 (yearsV (spanW r p).2).2.2.1], .bool (decide (InT (spanW r p).2))])) := fun W => by
    rw [ee]; exact ryears_on (by omega) (by omega)
  refine wp_seq (sr_ (run_ 1 K rfl fun a K => cl_ K Try.func18 (by kernel_rfl) rfl rfl rfl rfl rfl rfl ((ryears_on (t := (spanW r p).1) (by omega) (by omega)).mono ?_)))
  rintro _ w1 ⟨rfl, b1⟩
  replace M := M.call b1
  refine ⟨_, rfl, fun a K => run_ 3 K rfl fun a K => nw_ K M rfl rfl rfl rfl rfl rfl rfl (fun _ => rfl) rfl rfl rfl fun a g9 W9 M K => run_ 1 K rfl fun a K => nil_ ?_⟩
  refine sr_ (run_ 2 K rfl fun a K => nil_ ?_)
  by_cases ia : InT (spanW r p).1
  case neg => exact ct_ K rfl (by rw [decide_eq_false ia]; rfl) (sr_ (run_ 3 K rfl fun a K => nil_ (ret3_ rfl K rfl rfl rfl ⟨no (fun z => ia z.2.1), M.bl⟩)))
  refine cs_ K rfl (by rw [decide_eq_true ia]; rfl) (wp_seq (sr_ (run_ 4 K rfl fun a K => cl_ K Try.func18 (by kernel_rfl) rfl rfl rfl rfl rfl rfl ((YB _).mono ?_))))
  rintro _ w4 ⟨rfl, b4⟩
  replace M := M.call b4
  refine ⟨_, rfl, fun a K => run_ 3 K rfl fun a K => nw_ K M rfl rfl rfl rfl rfl rfl rfl (fun _ => rfl) rfl rfl rfl fun a g11 W11 M K => run_ 1 K rfl fun a K => nil_ ?_⟩
  refine sr_ (run_ 2 K rfl fun a K => nil_ ?_)
  by_cases ib : InT (spanW r p).2
  case neg => exact ct_ K rfl (by rw [decide_eq_false ib]; rfl) (sr_ (run_ 3 K rfl fun a K => nil_ (ret3_ rfl K rfl rfl rfl ⟨no (fun z => ib z.2.2), M.bl⟩)))
  refine cs_ K rfl (by rw [decide_eq_true ib]; rfl) (sr_ (run_ 8 K rfl fun a K => nil_ (ret3_ rfl K rfl rfl rfl ⟨by rw [ee]; exact yes ⟨hp, ia, ib⟩, M.bl⟩)))
end Go.Proofs.Ytmhpmkbifhgnbaa.Pure
