/- A period's span: the functions of layer 22 as contracts. No condition beyond those each lemma names. -/
-- Walks over an environment: stores, appends: a text of this claim's own.
import Derived.Test.YtfinhaghgmnegaaGreatMHS3
import Derived.Test.YtfinhaghgmnegaaGreatMHa
namespace Go.Proofs.YtfinhaghgmnegaaGreat.Pure
open Go.RowKit Go.Proofs.YtfinhaghgmnegaaGreat.O Go.Proofs.YtfinhaghgmnegaaGreatW.PrintWords Go.Proofs.YtfinhaghgmnegaaGreatW.PrintLast
open Go.Proofs.YtfinhaghgmnegaaGreat.Civ
set_option linter.unusedVariables false
set_option linter.unusedSimpArgs false
set_option maxRecDepth 100000
set_option maxHeartbeats 4000000
theorem whole_on {w : World} {cs : Array Value} {r : RR} (R : Rul w cs r) (h : Lens r) {p : Int} (hp : InP r p) (h1 : ¬ r.fr = 1) (h2 : ¬ r.fr = 2) (h3 : ¬ r.fr = 3) : Calls Tryz.prog 63 #[.agg cs, .int .i64 p] w (Rets w (.tuple #[.int .i64 (wholeV r p).1, .int .i64 (wholeV r p).2])) := by
  obtain ⟨A12, k12, e12, q12, h12⟩ := R.c12
  have b := inP_bd h hp
  have f0 := h.f0
  have f1 := h.f1
  have w0 := h.w0
  have w1 := h.w1
  have c5 : r.fr = 5 → wrap64 (wrap64 (wrap64 (7 * p) - 4) + r.wk) = 7 * p - 4 + r.wk ∧ wrap64 (wrap64 (wrap64 (wrap64 (wrap64 (7 * p) - 4) + r.wk) + 7) - 1) = 7 * p - 4 + r.wk + 6 := fun c => by
    have d := b.2.2.2.2.1 c
    rw [w64 (x := 7 * p) (by omega) (by omega), w64 (x := 7 * p - 4) (by omega) (by omega), w64 (x := 7 * p - 4 + r.wk) (by omega) (by omega), w64 (x := 7 * p - 4 + r.wk + 7) (by omega) (by omega), w64 (by omega) (by omega)]
    omega
  have c6 : r.fr = 6 → Rt (p / 12) (p % 12 + 1) 1 ∧ wrap64 (Int.tdiv p 12) = p / 12 ∧ wrap64 (Int.tmod p 12 + 1) = p % 12 + 1 ∧ wrap64 (wrap64 (num (p / 12) (p % 12 + 1) 1 + ln (p / 12) (p % 12 + 1)) - 1) = num (p / 12) (p % 12 + 1) 1 + ln (p / 12) (p % 12 + 1) - 1 := fun c => by
    have d := b.2.2.2.2.2.1 c
    have l := ln_bd (p / 12) (p % 12 + 1) (by omega) (by omega)
    have hr : Rt (p / 12) (p % 12 + 1) 1 := ⟨by omega, by omega, by omega, by omega, by omega, by omega⟩
    have a := num_bd hr
    rw [tdiv_nn 12 (by omega), tmod_nn 12 (by omega), w64 (x := p / 12) (by omega) (by omega), w64 (x := p % 12 + 1) (by omega) (by omega), w64 (x := num (p / 12) (p % 12 + 1) 1 + ln (p / 12) (p % 12 + 1)) (by omega) (by omega), w64 (by omega) (by omega)]
    exact ⟨hr, rfl, rfl, rfl⟩
  have c7 : ¬ r.fr = 4 → ¬ r.fr = 5 → ¬ r.fr = 6 → r.wn = [] → 1 ≤ p ∧ p ≤ 9999 := fun _ _ _ e => b.2.2.2.2.2.2.1 (by omega) e
  have c8 : ¬ r.fr = 4 → ¬ r.fr = 5 → ¬ r.fr = 6 → r.wn ≠ [] → 0 ≤ p ∧ p ≤ 10000 := fun _ _ _ e => b.2.2.2.2.2.2.2 (by omega) e
  clear b f0 f1
  unfold wholeV
  refine en_ Tryz.func63 rfl rfl rfl fun a K => sr_ (bx_ K (On.nil w) rfl rfl rfl rfl rfl rfl fun a g0 W M K => run_ 2 K rfl fun a K => nil_ (wp_seq (sr_ (run_ 1 K rfl fun a K => ld_ K M 0 rfl rfl rfl rfl rfl rfl R.c0 rfl fun a K => nil_ (wp_block (sr_ (run_ 2 K rfl fun a K => nil_ ?_)))))))
  by_cases d4 : r.fr = 4
  · rw [if_pos d4]
    exact ct_ K rfl (decide_eq_true d4) (sr_ (run_ 4 K rfl fun a K => nil_ (ret2_ rfl K rfl rfl ⟨rfl, M.bl⟩)))
  rw [if_neg d4]
  refine cf_ K rfl (decide_eq_false d4) (sr_ (run_ 2 K rfl fun a K => nil_ ?_))
  by_cases d5 : r.fr = 5
  · rw [if_pos d5]
    obtain ⟨x1, x2⟩ := c5 d5
    exact ct_ K rfl (decide_eq_true d5) (sr_ (run_ 4 K rfl fun a K => ld_ K M 0 rfl rfl rfl rfl rfl rfl R.c15 rfl fun a K => run_ 2 K rfl fun a K => nil_ (sr_ (run_ 6 K rfl fun a K => nil_ (ret2_ rfl K rfl rfl ⟨by rw [x2, x1], M.bl⟩)))))
  rw [if_neg d5]
  refine cf_ K rfl (decide_eq_false d5) (sr_ (run_ 2 K rfl fun a K => nil_ ?_))
  by_cases d6 : r.fr = 6
  · rw [if_pos d6]
    obtain ⟨x0, x1, x2, x3⟩ := c6 d6
    have y1 : ∀ w, Calls Tryz.prog 70 #[.int .i64 (wrap64 (Int.tdiv p 12)), .int .i64 (wrap64 (Int.tmod p 12 + 1)), .int .i64 1] w (Rets w (.int .i64 (num (p / 12) (p % 12 + 1) 1))) := fun _ => by rw [x1, x2]; exact num_on x0
    have y2 : ∀ w, Calls Tryz.prog 13 #[.int .i64 (wrap64 (Int.tdiv p 12)), .int .i64 (wrap64 (Int.tmod p 12 + 1))] w (Rets w (.int .i64 (ln (p / 12) (p % 12 + 1)))) := fun _ => by rw [x1, x2]; exact len_on _ _
    refine ct_ K rfl (decide_eq_true d6) (sr_ (run_ 5 K rfl fun a K => cl_ K Tryz.func70 (by kernel_rfl) rfl rfl rfl rfl rfl rfl ((y1 _).mono ?_)))
    rintro _ w3 ⟨rfl, b3⟩
    refine ⟨_, rfl, fun a K => run_ 1 K rfl fun a K => nil_ (sr_ (run_ 7 K rfl fun a K => cl_ K Tryz.func13 (by kernel_rfl) rfl rfl rfl rfl rfl rfl ((y2 _).mono ?_)))⟩
    rintro _ w4 ⟨rfl, b4⟩
    exact ⟨_, rfl, fun a K => run_ 4 K rfl fun a K => nil_ (ret2_ rfl K rfl rfl ⟨by rw [x3], ((M.call b3).call b4).bl⟩)⟩
  rw [if_neg d6]
  refine cf_ K rfl (decide_eq_false d6) (sb_ (wp_seq (sr_ (run_ 1 K rfl fun a K => ld_ K M 0 rfl rfl rfl rfl rfl rfl e12 rfl fun a K => run_ 2 K rfl fun a K => nil_ ?_))))
  by_cases d7 : r.wn = []
  · rw [if_pos d7]
    have x := c7 d4 d5 d6 d7
    refine cs_ K rfl ((pos_ _).trans (decide_eq_false (by rw [d7]; decide))) (sr_ (run_ 1 K rfl fun a K => cl_ K Tryz.func70 (by kernel_rfl) rfl rfl rfl rfl rfl rfl ((num_on (rt_first (by omega) (by omega))).mono ?_)))
    rintro _ w3 ⟨rfl, b3⟩
    refine ⟨_, rfl, fun a K => run_ 1 K rfl fun a K => cl_ K Tryz.func70 (by kernel_rfl) rfl rfl rfl rfl rfl rfl ((num_on (rt_31 (by omega) (by omega))).mono ?_)⟩
    rintro _ w4 ⟨rfl, b4⟩
    exact ⟨_, rfl, fun a K => run_ 2 K rfl fun a K => nil_ (ret2_ rfl K rfl rfl ⟨rfl, ((M.call b3).call b4).bl⟩)⟩
  rw [if_neg d7]
  have x := c8 d4 d5 d6 d7
  refine ct_ K rfl ((pos_ _).trans (decide_eq_true (Nat.pos_of_ne_zero fun q => d7 ((nil_iff _).1 q)))) (sr_ (run_ 2 K rfl fun a K => ld_ K M 0 rfl rfl rfl rfl rfl rfl R.c15 rfl fun a K => cl_ K Tryz.func71 (by kernel_rfl) rfl rfl rfl rfl rfl rfl ((weeks_on x.1 x.2 w0 w1).mono ?_)))
  rintro _ w3 ⟨rfl, b3⟩
  exact ⟨_, rfl, fun a K => run_ 4 K rfl fun a K => nil_ (ret2_ rfl K rfl rfl ⟨rfl, (M.call b3).bl⟩)⟩
theorem Span_on {w : World} {cs : Array Value} {r : RR} (R : Rul w cs r) (h : Right r) (p : Int) : Calls Tryz.prog 50 #[.agg cs, .int .i64 p] w (Rets w (.tuple #[.int .i64 (spanV r p).1, .int .i64 (spanV r p).2.1, .int .i64 (spanV r p).2.2])) := by
  have hl := h.lens
  refine en_ Tryz.func50 rfl rfl rfl fun a K => sr_ (bx_ K (On.nil w) rfl rfl rfl rfl rfl rfl fun a g0 W M K => run_ 3 K rfl fun a K => nil_ (sr_ (lda_ K M 0 rfl rfl rfl rfl rfl rfl rfl R.sz fun a K => cl_ K Tryz.func9 (by kernel_rfl) rfl rfl rfl rfl rfl rfl ((check_on (R.below M.bl) h).mono ?_))))
  rintro _ w1 ⟨rfl, b1⟩
  replace M := M.call b1
  refine ⟨_, rfl, fun a K => run_ 1 K rfl fun a K => nil_ (wp_seq (sr_ (run_ 2 K rfl fun a K => nil_ (cs_ K rfl rfl (wp_seq (dseq_ (by kernel_rfl) rfl rfl M.drew (dp_ 1 11 [0] K rfl rfl (by kernel_rfl) fun a K => dlda_ 3 1 K M.drew 0 rfl rfl rfl rfl rfl rfl rfl rfl R.sz (by kernel_rfl) fun a K => dc_ 7 2 K Tryz.func61 (by kernel_rfl) rfl rfl rfl rfl rfl rfl rfl (by kernel_rfl) (least_on.mono ?_))))))))⟩
  rintro _ w2 ⟨rfl, b2⟩
  replace M := M.drew.call b2
  refine ⟨_, rfl, M, fun a K => dc_ 15 3 K Tryz.func60 (by kernel_rfl) rfl rfl rfl rfl rfl rfl rfl (by kernel_rfl) ((period_on (R.below M.bl) hl in_least).mono ?_)⟩
  rintro _ w3 ⟨rfl, b3⟩
  replace M := M.call b3
  refine ⟨_, rfl, M, fun a K => dp_ 31 7 [4] K rfl rfl (by kernel_rfl) fun a K => ?_⟩
  by_cases c1 : p < perV r (-62135596800)
  · rw [show spanV r p = (0, 0, 23) by unfold spanV; rw [if_neg (fun e => by have := e.1.1; omega)]]
    exact dp_ 4095 0 [5, 6, 7, 8, 9, 10, 11] (fx_ K (decide_eq_true c1)) rfl rfl (by kernel_rfl) fun a K => dend_ (by kernel_rfl) (ct_ K rfl rfl (sr_ (run_ 3 K rfl fun a K => nil_ (ret3_ rfl K rfl rfl rfl ⟨rfl, M.bl⟩))))
  refine dp_ 127 5 [5, 6] (fx_ K (decide_eq_false c1)) rfl rfl (by kernel_rfl) fun a K => dlda_ 255 7 K M 0 rfl rfl rfl rfl rfl rfl rfl rfl R.sz (by kernel_rfl) fun a K => dc_ 511 8 K Tryz.func62 (by kernel_rfl) rfl rfl rfl rfl rfl rfl rfl (by kernel_rfl) (most_on.mono ?_)
  rintro _ w4 ⟨rfl, b4⟩
  replace M := M.call b4
  refine ⟨_, rfl, M, fun a K => dc_ 1023 9 K Tryz.func60 (by kernel_rfl) rfl rfl rfl rfl rfl rfl rfl (by kernel_rfl) ((period_on (R.below M.bl) hl in_most).mono ?_)⟩
  rintro _ w5 ⟨rfl, b5⟩
  replace M := M.call b5
  refine ⟨_, rfl, M, fun a K => dp_ 4095 0 [10, 11] K rfl rfl (by kernel_rfl) fun a K => dend_ (by kernel_rfl) ?_⟩
  by_cases c2 : perV r 253402300799 < p
  · rw [show spanV r p = (0, 0, 23) by unfold spanV; rw [if_neg (fun e => by have := e.1.2; omega)]]
    exact ct_ K rfl (decide_eq_true c2) (sr_ (run_ 3 K rfl fun a K => nil_ (ret3_ rfl K rfl rfl rfl ⟨rfl, M.bl⟩)))
  have hp : InP r p := ⟨by omega, by omega⟩
  have b := inP_bd hl hp
  have g2 : r.fr = 2 → wrap64 (p * 60) = 60 * p ∧ wrap64 (wrap64 (wrap64 (p * 60) + 60) - 1) = 60 * p + 59 := fun c => by
    have d := b.2.1 c
    rw [w64 (x := p * 60) (by omega) (by omega), w64 (x := p * 60 + 60) (by omega) (by omega), w64 (by omega) (by omega)]
    omega
  have g3 : r.fr = 3 → wrap64 (p * 3600) = 3600 * p ∧ wrap64 (wrap64 (wrap64 (p * 3600) + 3600) - 1) = 3600 * p + 3599 := fun c => by
    have d := b.2.2.1 c
    rw [w64 (x := p * 3600) (by omega) (by omega), w64 (x := p * 3600 + 3600) (by omega) (by omega), w64 (by omega) (by omega)]
    omega
  have g4 : ¬ r.fr = 1 → ¬ r.fr = 2 → ¬ r.fr = 3 → wrap64 ((wholeV r p).1 * 86400) = 86400 * (wholeV r p).1 ∧ wrap64 (wrap64 (wrap64 ((wholeV r p).2 * 86400) + 86400) - 1) = 86400 * (wholeV r p).2 + 86399 := fun c1 c2 c3 => by
    have wb := whole_bd hl hp c1 c2 c3
    rw [w64 (x := (wholeV r p).1 * 86400) (by omega) (by omega), w64 (x := (wholeV r p).2 * 86400) (by omega) (by omega), w64 (x := (wholeV r p).2 * 86400 + 86400) (by omega) (by omega), w64 (by omega) (by omega)]
    omega
  clear b
  refine cs_ K rfl (decide_eq_false c2) (wp_seq (sr_ (run_ 1 K rfl fun a K => ld_ K M 0 rfl rfl rfl rfl rfl rfl R.c0 rfl fun a K => nil_ (wp_block (sr_ (run_ 2 K rfl fun a K => nil_ ?_))))))
  by_cases d1 : r.fr = 1
  case' pos =>
    refine ct_ K rfl (decide_eq_true d1) (rg_ (run_ 4 K rfl fun a K => nb_ ?_))
    replace K := ks_ (i := 4) (u := .int .i64 (spanW r p).1) (ks_ (i := 5) (u := .int .i64 (spanW r p).2) K rfl (by unfold spanW; rw [if_pos d1])) rfl (by unfold spanW; rw [if_pos d1])
  case' neg =>
    refine cf_ K rfl (decide_eq_false d1) (sr_ (run_ 2 K rfl fun a K => nil_ ?_))
    by_cases d2 : r.fr = 2
    case' pos =>
      refine ct_ K rfl (decide_eq_true d2) (rg_ (run_ 8 K rfl fun a K => nb_ ?_))
      replace K := ks_ (i := 4) (u := .int .i64 (spanW r p).1) (ks_ (i := 5) (u := .int .i64 (spanW r p).2) K rfl (by unfold spanW; rw [if_neg d1, if_pos d2, (g2 d2).2])) rfl (by unfold spanW; rw [if_neg d1, if_pos d2, (g2 d2).1])
    case' neg =>
      refine cf_ K rfl (decide_eq_false d2) (sr_ (run_ 2 K rfl fun a K => nil_ ?_))
      by_cases d3 : r.fr = 3
      case' pos =>
        refine ct_ K rfl (decide_eq_true d3) (rg_ (run_ 8 K rfl fun a K => nb_ ?_))
        replace K := ks_ (i := 4) (u := .int .i64 (spanW r p).1) (ks_ (i := 5) (u := .int .i64 (spanW r p).2) K rfl (by unfold spanW; rw [if_neg d1, if_neg d2, if_pos d3, (g3 d3).2])) rfl (by unfold spanW; rw [if_neg d1, if_neg d2, if_pos d3, (g3 d3).1])
      case' neg =>
        refine cf_ K rfl (decide_eq_false d3) (sr_ (lda_ K M 0 rfl rfl rfl rfl rfl rfl rfl R.sz fun a K => run_ 1 K rfl fun a K => cl_ K Tryz.func63 (by kernel_rfl) rfl rfl rfl rfl rfl rfl ((whole_on (R.below M.bl) hl hp d1 d2 d3).mono ?_)))
        rintro _ w6 ⟨rfl, b6⟩
        replace M := M.call b6
        refine ⟨_, rfl, fun a K => run_ 5 K rfl fun a K => nil_ (rg_ (run_ 8 K rfl fun a K => nb_ ?_))⟩
        replace K := ks_ (i := 4) (u := .int .i64 (spanW r p).1) (ks_ (i := 5) (u := .int .i64 (spanW r p).2) K rfl (by unfold spanW; rw [if_neg d1, if_neg d2, if_neg d3, (g4 d1 d2 d3).2])) rfl (by unfold spanW; rw [if_neg d1, if_neg d2, if_neg d3, (g4 d1 d2 d3).1])
  all_goals
    clear g2 g3 g4
    refine wp_seq (sr_ (run_ 1 K rfl fun a K => cl_ K Tryz.func64 (by kernel_rfl) rfl rfl rfl rfl rfl rfl ((inT_on _).mono ?_)))
    rintro _ w7 ⟨rfl, b7⟩
    replace M := M.call b7
    refine ⟨_, rfl, fun a K => ?_⟩
    by_cases t1 : InT (spanW r p).1
    case neg =>
      rw [show spanV r p = (0, 0, 23) by unfold spanV; rw [if_neg (fun e => t1 e.2.1)]]
      exact run_ 6 (fx_ K (decide_eq_false t1)) rfl fun a K => nil_ (ct_ K rfl rfl (sr_ (run_ 3 K rfl fun a K => nil_ (ret3_ rfl K rfl rfl rfl ⟨rfl, M.bl⟩))))
    refine run_ 3 (fx_ K (decide_eq_true t1)) rfl fun a K => cl_ K Tryz.func64 (by kernel_rfl) rfl rfl rfl rfl rfl rfl ((inT_on _).mono ?_)
    rintro _ w8 ⟨rfl, b8⟩
    replace M := M.call b8
    refine ⟨_, rfl, fun a K => ?_⟩
    by_cases t2 : InT (spanW r p).2
    case neg =>
      rw [show spanV r p = (0, 0, 23) by unfold spanV; rw [if_neg (fun e => t2 e.2.2)]]
      exact run_ 2 (fx_ K (decide_eq_false t2)) rfl fun a K => nil_ (ct_ K rfl rfl (sr_ (run_ 3 K rfl fun a K => nil_ (ret3_ rfl K rfl rfl rfl ⟨rfl, M.bl⟩))))
    rw [show spanV r p = ((spanW r p).1, (spanW r p).2, 0) by unfold spanV; rw [if_pos ⟨hp, t1, t2⟩]]
    exact run_ 2 (fx_ K (decide_eq_true t2)) rfl fun a K => nil_ (cs_ K rfl rfl (sr_ (run_ 5 K rfl fun a K => nil_ (ret3_ rfl K rfl rfl rfl ⟨rfl, M.bl⟩))))
end Go.Proofs.YtfinhaghgmnegaaGreat.Pure

namespace Go.Proofs.YtfinhaghgmnegaaGreat.O
open Go.RowKit Go.Deep Go.Proofs.YtfinhaghgmnegaaGreatW.PrintWords Go.Proofs.YtfinhaghgmnegaaGreatW.PrintLast Go.Proofs.YtfinhaghgmnegaaGreatW.PrintMore
set_option maxRecDepth 100000
set_option linter.unusedVariables false
set_option linter.unusedSimpArgs false
section
variable {L : List (Nat × Obj)} {w0 W W2 : World}
theorem On.lt (h : On L w0 W) {p : Nat × Obj} (hp : p ∈ L) : p.1 < W.heap.size := by
  obtain ⟨k, hk, e⟩ := List.mem_iff_getElem.1 hp
  exact blk_lt (h.me k p.1 p.2 (by rw [List.getElem?_eq_getElem hk, e]))
theorem On.alloc (h : On L w0 W) (o : Obj) : On L w0 (W.alloc o) := ⟨below_alloc h.bl o, fun k g o' e => blk_alloc (h.me k g o' e) o, h.nd⟩
theorem On.other (h : On L w0 W) {k g : Nat} {o' : Obj} (hL : L[k]? = some (g, o')) {k' g' : Nat} {o : Obj} (q : ¬ k = k') (e : L[k']? = some (g', o)) : g' ≠ g := fun ee => by
  subst ee
  have h1 : (L.map (·.1))[k]? = some g' := by rw [List.getElem?_map, hL]; rfl
  have h2 : (L.map (·.1))[k']? = some g' := by rw [List.getElem?_map, e]; rfl
  have hk2 : k < (L.map (·.1)).length := by simpa using (List.getElem?_eq_some_iff.1 hL).1
  have hk3 : k' < (L.map (·.1)).length := by simpa using (List.getElem?_eq_some_iff.1 e).1
  rw [List.getElem?_eq_getElem hk2] at h1
  rw [List.getElem?_eq_getElem hk3] at h2
  exact q ((List.getElem_inj h.nd).1 ((Option.some.inj h1).trans (Option.some.inj h2).symm))
theorem set_fst {k g : Nat} {o o' : Obj} (hL : L[k]? = some (g, o)) : (L.set k (g, o')).map (·.1) = L.map (·.1) := by
  rw [List.map_set]
  have : (L.map (·.1))[k]? = some g := by rw [List.getElem?_map, hL]; rfl
  obtain ⟨hh, e2⟩ := List.getElem?_eq_some_iff.1 this
  rw [← e2]
  exact List.set_getElem_self hh
theorem On.setRow (h : On L w0 W) (k : Nat) {g : Nat} {cs cs' : Array Value} {t : TypeId} (hL : L[k]? = some (g, .cells cs t (0, 0))) (hg : w0.heap.size ≤ g) : On (L.set k (g, .cells cs' t (0, 0))) w0 (W.setRow g cs') := by
  have hk := (List.getElem?_eq_some_iff.1 hL).1
  refine ⟨⟨h.bl.os, h.bl.tape, h.bl.output, by rw [setRow_size]; exact h.bl.size, fun i hi => (setRow_other W g i cs' (by omega)).trans (h.bl.block i hi)⟩, fun k' g' o e => ?_, by rw [set_fst hL]; exact h.nd⟩
  by_cases q : k = k'
  · subst q
    rw [List.getElem?_set_self hk] at e
    obtain ⟨rfl, rfl⟩ := Prod.mk.inj (Option.some.inj e)
    exact setRow_heap W g cs cs' t (0, 0) (h.me k _ _ hL)
  · rw [List.getElem?_set_ne q] at e
    exact (setRow_other W g g' cs' (h.other hL q e)).trans (h.me k' g' o e)
theorem On.setCell (h : On L w0 W) (k : Nat) {g : Nat} {cs : Array Value} {t : TypeId} (hL : L[k]? = some (g, .cells cs t (0, 0))) (hg : w0.heap.size ≤ g) (i : Nat) (v : Value) : On (L.set k (g, .cells (cs.setIfInBounds i v) t (0, 0))) w0 (W.setCell ⟨g, i, none⟩ v) := by
  have hk := (List.getElem?_eq_some_iff.1 hL).1
  refine ⟨below_set h.bl hg, fun k' g' o e => ?_, ?_⟩
  · by_cases q : k = k'
    · subst q
      rw [List.getElem?_set_self hk] at e
      obtain ⟨rfl, rfl⟩ := Prod.mk.inj (Option.some.inj e)
      exact blk_set (h.me k _ _ hL) i v
    · rw [List.getElem?_set_ne q] at e
      have hne : g' ≠ g := h.other hL q e
      exact (Below.heap_setCell W ⟨g, i, none⟩ v g' hne).trans (h.me k' g' o e)
  · rw [set_fst hL]
    exact h.nd
end
/-- Own rows of numbers. -/
def Tw (Ls : List (Value × List Int)) (b : Nat) (W : World) : Prop := ∀ p ∈ Ls, Kd.R (Kd.int .i64) 3 W b (fun _ => True) p.1 p.2
theorem ty3 {t : Nat} (ht : t ≠ 3) : ∀ q, q ∈ 3 :: (Kd.int .i64).E → q ≠ t := fun q hq => by
  obtain rfl : q = 3 := by simpa [Kd.int, Kd.scalar] using hq
  exact fun e => ht e.symm
section
variable {Ls : List (Value × List Int)} {b : Nat} {W W2 : World}
theorem Tw.below (h : Tw Ls b W) (hb : Below W.heap.size W W2) : Tw Ls b W2 := fun p hp => Kd.R_below (h p hp) hb
theorem Tw.drew (h : Tw Ls b W) : Tw Ls b W.drew := fun p hp => Kd.R_drew (h p hp)
theorem Tw.set (h : Tw Ls b W) {g t : Nat} {cs : Array Value} (hb : W.heap[g]? = some (.cells cs t (0, 0))) (ht : t ≠ 3) (j : Nat) (u : Value) : Tw Ls b (W.setCell ⟨g, j, none⟩ u) := fun p hp => Kd.R_set (h p hp) hb (ty3 ht) j u
theorem Tw.row (h : Tw Ls b W) {g t : Nat} {cs : Array Value} (hb : W.heap[g]? = some (.cells cs t (0, 0))) (ht : t ≠ 3) (cs' : Array Value) : Tw Ls b (W.setRow g cs') := fun p hp => Kd.R_mono (Kd.R_move (Kd.R_types (h p hp) hb (ty3 ht)) (fun k hk => setRow_other W g k cs' hk.2)) (fun _ hk => hk.1)
theorem Tw.cons (h : Tw Ls b W) {b' : Nat} {v : Value} {l : List Int} (hv : Kd.R (Kd.int .i64) 3 W b' (fun _ => True) v l) (hb : b ≤ b') : Tw ((v, l) :: Ls) b W := fun p hp => by
  rcases List.mem_cons.1 hp with e | e
  · subst e; exact Kd.R_lower hv hb
  · exact h p e
end
section
variable {ρ : Operand → Value} {o : Oper} {w : World}
theorem run_st {t g i : Nat} {x y : Operand} {cs : Array Value} {tt : TypeId} {v : Value} (hv : okV t v = true) (ho : o.op = .store t x y) (hx : ρ x = .pointer (some ⟨g, i, none⟩)) (hy : ρ y = v) (hb : w.heap[g]? = some (.cells cs tt (0, 0))) (hi : i < cs.size) : (execOp ρ o).run Tryz.prog w = .ok .skip (w.setCell ⟨g, i, none⟩ v) := by
  have hc : w.cell? ⟨g, i, none⟩ = some cs[i] := (blk_cell hb i).trans (by rw [Array.getElem?_eq_getElem hi])
  have hf := blk_frozen hb i
  generalize cs[i] = old at hc
  unfold execOp; rw [ho]
  unfold okV at hv
  split at hv
  · unfold isI at hv
    rcases Bool.or_eq_true_iff.1 hv with e | e
    · obtain rfl := Nat.eq_of_beq_eq_true e; go_simp
    rcases Bool.or_eq_true_iff.1 e with e | e <;> (obtain rfl := Nat.eq_of_beq_eq_true e; go_simp)
  · obtain rfl := Nat.eq_of_beq_eq_true hv
    go_simp
  · unfold isL at hv
    rcases Bool.or_eq_true_iff.1 hv with e | e <;> (obtain rfl := Nat.eq_of_beq_eq_true e; go_simp)
  · obtain rfl := Nat.eq_of_beq_eq_true hv; go_simp
  · cases hv
theorem results_cell {fn : Func} {t g n : Nat} {T : TypeId} {tmps cs : Array Value} (h : fn.results = #[.cell t T]) (hp : tmps.getD t undef = .pointer (some ⟨g, 0, none⟩)) (hb : w.heap[g]? = some (.cells cs T (0, 0))) (ht : szE T = some n) (hs : cs.size = n) : (results fn tmps).run Tryz.prog w = .ok (.agg cs) w := by
  obtain ⟨hi, fs, hu⟩ := szE_info ht
  have hl := run_loadVar_row (P := Tryz.prog) w g T T cs (0, 0) _ hb hu rfl (by rw [hs]; exact hi)
  rw [Array.getD_eq_getD_getElem?] at hp
  simp [results, h, hp, asAddr, hl]
end
section
variable {N : Nat} {E : Env} {a : Act} {ops : Array Oper} {rest : List Oper} {Q : Exit → Act → World → Prop} {w w0 : World} {o : Oper} {d : Nat} {L : List (Nat × Obj)}
/-- A store into a cell of an own block. -/
theorem stc_ (K : Kn N E a) (M : On L w0 w) (k : Nat) {g i : Nat} {cs : Array Value} {tt t : Nat} {x y : Operand} {v : Value} (hL : L[k]? = some (g, .cells cs tt (0, 0))) (hg : w0.heap.size ≤ g) (hd : o.dst = none) (hw : wantE ops E o = some true) (hop : o.op = .store t x y) (hx : evo E x = some (.pointer (some ⟨g, i, none⟩))) (hy : evo E y = some v) (hv : okV t v = true) (hi : i < cs.size)
    (h : ∀ W, W = w.setCell ⟨g, i, none⟩ v → On (L.set k (g, .cells (cs.setIfInBounds i v) tt (0, 0))) w0 W → wpList Tryz.prog ops Q rest a W) : wpList Tryz.prog ops Q (o :: rest) a w :=
  skp_ hd (want_of K hw) (run_st hv hop (K.of hx) (K.of hy) (M.me k _ _ hL) hi) (h _ rfl (M.setCell k hL hg i v))
/-- A store of a whole struct into an own block. -/
theorem stw_ (K : Kn N E a) (M : On L w0 w) (k : Nat) {g n t : Nat} {cs cs' : Array Value} {x y : Operand} (hL : L[k]? = some (g, .cells cs t (0, 0))) (hg : w0.heap.size ≤ g) (hd : o.dst = none) (hw : wantE ops E o = some true) (hop : o.op = .store t x y) (hx : evo E x = some (.pointer (some ⟨g, 0, none⟩))) (hy : evo E y = some (.agg cs')) (ht : szE t = some n) (hs : cs.size = n) (hs' : cs'.size = n) (h1 : cs'.toList.all (·.oneCell') = true)
    (h : ∀ W, W = w.setRow g cs' → On (L.set k (g, .cells cs' t (0, 0))) w0 W → wpList Tryz.prog ops Q rest a W) : wpList Tryz.prog ops Q (o :: rest) a w := by
  have hr := run_storeVar_row (P := Tryz.prog) w g t t cs cs' (M.me k _ _ hL) (by rw [hs']; exact (szE_info ht).1) (by rw [hs, hs']) (by rw [← Array.all_toList]; exact h1)
  refine skp_ hd (want_of K hw) (w1 := w.setRow g cs') ?_ (h _ rfl (M.setRow k hL hg))
  have hq : (Instr.storeAt t (.pointer (some ⟨g, 0, none⟩)) (.agg cs')).run Tryz.prog w = .ok () (w.setRow g cs') := by
    unfold Instr.storeAt
    rw [Sem.run_bind, sure_]
    exact hr
  unfold execOp
  rw [hop]
  show ((do Instr.storeAt t (a.eval x) (a.eval y); pure Next.skip : Sem Next)).run Tryz.prog _ = _
  rw [K.of hx, K.of hy, Sem.run_bind, hq]
  rfl
/-- A new block, and a struct stored to it; the block is above. -/
theorem nwG_ {o2 : Oper} (K : Kn N E a) (M : On L w0 w) {n t : Nat} {cs : Array Value} {y : Operand} (hd : o.dst = some d) (hb : Nat.blt d N = true) (hw : wantE ops E o = some true) (hop : o.op = .alloc t) (hd2 : o2.dst = none) (hg2 : o2.guard = none) (hop2 : o2.op = .store t (.tmp d) y)
    (hy : ∀ v, evo ((d, v) :: E) y = some (.agg cs)) (ht : szE t = some n) (hs : cs.size = n) (h1 : cs.toList.all (·.oneCell') = true)
    (h : ∀ a' g W, w0.heap.size ≤ g → On ((g, .cells cs t (0, 0)) :: L) w0 W → Kn N ((d, .pointer (some ⟨g, 0, none⟩)) :: E) a' → wpList Tryz.prog ops Q rest a' W) : wpList Tryz.prog ops Q (o :: o2 :: rest) a w := by
  obtain ⟨z, hz, hzs⟩ := szE_zero ht
  exact val_ K hd hb hw (run_al hz hop) (fun a' K' => skp_ hd2 (want_of K' (by unfold wantE; rw [hg2])) (run_sta ht hs h1 hop2 (K'.of (x := .tmp d) (by unfold evo look; simp)) (K'.of (hy _)) hzs) (h a' _ _ M.bl.size (M.new _) K'))
/-- A new block of zeros. -/
theorem al_ (K : Kn N E a) (M : On L w0 w) {n t : Nat} (ht : szE t = some n) (hd : o.dst = some d) (hb : Nat.blt d N = true) (hw : wantE ops E o = some true) (hop : o.op = .alloc t)
    (h : ∀ a' g W z, z.size = n → w0.heap.size ≤ g → On ((g, .cells z t (0, 0)) :: L) w0 W → Kn N ((d, .pointer (some ⟨g, 0, none⟩)) :: E) a' → wpList Tryz.prog ops Q rest a' W) : wpList Tryz.prog ops Q (o :: rest) a w := by
  obtain ⟨z, hz, hzs⟩ := szE_zero ht
  exact val_ K hd hb hw (run_al hz hop) (fun a' K' => h a' _ _ z hzs M.bl.size (M.new _) K')
/-- An append of what is read to an own row. -/
theorem ap_ {α : Type} {k : Kd α} {Rr : α → List Value → Prop} {t e : TypeId} {z : Value} {bytes : Nat} {s x : Operand} {v : Value} {xs ys : List α} {A : Option Addr} {m c : Nat} (K : Kn N E a) (M : On L w0 w) (hd : o.dst = some d) (hb : Nat.blt d N = true) (hgd : o.guard = none)
    (ho : o.op = .call { callee := .builtin .append, args := #[s, x], argTypes := #[t, t] }) (ht : Tryz.prog.underlying t = some (.slice e)) (hinfo : (Tryz.prog.info? e).map (fun i => (i.zero, i.size, i.bytes)) = some (some z, k.sz, bytes)) (hz : z.cells.size = k.sz) (hs0 : 0 < k.sz) (hb0 : 0 < bytes)
    (hs : evo E s = some v) (hx : evo E x = some (.slice A m c)) (HO : k.R e w w0.heap.size (fun _ => True) v xs) (HR : ReadsRow Rr k.sz w A m ys) (hKM : ∀ x cs, Rr x cs → k.M w w0.heap.size (fun _ => False) x cs) (hfar : ∀ p ∈ L, some p.1 ≠ v.ownBlock) (hl : (xs.length + m) * bytes ≤ 140737488355328)
    (h : ∀ a' v1 w1, w.grownBy w1 v.ownBlock → k.R e w1 w0.heap.size (fun _ => True) v1 (xs ++ ys) → On L w0 w1 → (∀ p ∈ L, some p.1 ≠ v1.ownBlock) → Kn N ((d, v1) :: E) a' → wpList Tryz.prog ops Q rest a' w1) : wpList Tryz.prog ops Q (o :: rest) a w := by
  refine Kd.R_append_rows k w0.heap.size hgd s x t e z bytes ho ht hinfo hz hs0 hb0 v xs ys A m c (fun _ => True) (fun _ => False) (K.of hs) (K.of hx) HO HR hKM (fun _ q => q.elim) (fun _ _ => trivial) M.bl M.bl.size hl ?_
  intro v1 w1 h1 h2 h3 h4
  rw [hd]
  refine h _ v1 w1 h3 h1 ⟨h2, fun k g o e => ?_, M.nd⟩ (fun p hp => ?_) (K.put v1 hb)
  · exact blk_grown (M.me k g o e) h3 (hfar (g, o) (List.mem_of_getElem? e))
  · rcases h4 with h4 | ⟨b, h4, h5⟩
    · rw [h4]; exact hfar p hp
    · rw [h4]
      intro q
      have := M.lt hp
      have := Option.some.inj q
      omega
theorem retc_ {fn : Func} {R : Ending → World → Prop} [hQ : RetTo Q fn R] {r k g n : Nat} {T : TypeId} {cs : Array Value} (hr : fn.results = #[.cell r T]) (K : Kn N E a) (M : On L w0 w) (hL : L[k]? = some (g, .cells cs T (0, 0))) (h : look E r = some (.pointer (some ⟨g, 0, none⟩))) (ht : szE T = some n) (hs : cs.size = n) (q : R (.returned (.agg cs)) w) : Code.ret.wp Tryz.prog Q a w :=
  wp_ret (hQ.go _ _ (bodyPost_ret (results_cell hr (val_eq K h) (M.me k _ _ hL) ht hs) K.df q))
end
section
variable {N : Nat} {E : Env} {a : Act} {ops : Array Oper} {Q : Exit → Act → World → Prop} {w w0 w1 : World} {oi : Oper} {S : World → Prop} {fuel : Nat}
end
end Go.Proofs.YtfinhaghgmnegaaGreat.O
