/- FilterLists answers true. No condition beyond that the rule's end is an int. -/
import Derived.Test.YtmhpmkbifhgnbaaHL1
import Derived.Test.YtmhpmkbifhgnbaaMOx0
import Derived.Test.YtmhpmkbifhgnbaaMHS6
namespace Go.Proofs.Ytmhpmkbifhgnbaa.Pure
open Go.RowKit Go.Proofs.Ytmhpmkbifhgnbaa.O Go.Proofs.YtmhpmkbifhgnbaaW.PrintWords Go.Proofs.YtmhpmkbifhgnbaaW.PrintLast
open Go.Proofs.Ytmhpmkbifhgnbaa.Civ
set_option linter.unusedVariables false
set_option linter.unusedSimpArgs false
set_option maxRecDepth 100000
set_option maxHeartbeats 4000000
def left13 (n : Int) (a : Act) : Nat := match a.eval (.tmp n.toNat) with | .int _ x => (100 - x).toNat | _ => 0
theorem meas_ {lo : Int} {i n : Nat} (hc : i < n) (hn : n ≤ 50) (hl : lo ≤ 1) : (100 - (lo + ((i + 1 : Nat) : Int))).toNat < (100 - (lo + (i : Int))).toNat := by omega
theorem left13_ {n : Int} {N : Nat} {E : Env} {a : Act} {x : Int} (K : Kn N E a) (h : O.look E n.toNat = some (.int .i64 x)) : left13 n a = (100 - x).toNat := by unfold left13; rw [K.ev _ _ h]
theorem FilterLists_on {w : World} {cs : Array Value} {r : RR} (R : Rul w cs r) (hua : -9223372036854775808 ≤ r.ua) (hua' : r.ua < 9223372036854775808) (a1 a2 a3 : Int) : Calls Try.prog 5 #[.agg cs, .int .i64 a1, .int .i64 a2, .int .i64 a3] w (Rets w (.bool true)) := by
  obtain ⟨b, hb, hrec⟩ := recur_on R hua hua'
  obtain ⟨s, hs, hsome1⟩ := some_on a1
  obtain ⟨t, ht, hsome2⟩ := some_on a2
  have bd : -9223372036854775808 ≤ s ∧ s < 9223372036854775808 ∧ -9223372036854775808 ≤ t ∧ t < 9223372036854775808 := by unfold InT at hs ht; omega
  refine en_ Try.func5 rfl rfl rfl fun a K => sr_ (bx_ K (On.nil w) rfl rfl rfl rfl rfl rfl fun a g0 W M K => run_ 1 K rfl fun a K => nil_ (wp_seq (sr_ (lda_ K M 0 rfl rfl rfl rfl rfl rfl rfl R.sz fun a K => cl_ K Try.func9 (by kernel_rfl) rfl rfl rfl rfl rfl rfl ((heavy_on (R.below M.bl)).mono ?_)))))
  rintro _ w1 ⟨rfl, b1⟩
  replace M := M.call b1
  refine ⟨_, rfl, fun a K => ?_⟩
  cases hv : heavyB r.sec r.mi r.ho r.dy r.md r.yd r.wn r.mo r.sp with
  | true => exact run_ 5 (fx_ K hv) rfl fun a K => nil_ (ct_ K rfl rfl (sr_ (run_ 1 K rfl fun a K => nil_ (ret_ rfl K rfl ⟨rfl, M.bl⟩))))
  | false =>
  refine run_ 1 (fx_ K hv) rfl fun a K => lda_ K M 0 rfl rfl rfl rfl rfl rfl rfl R.sz fun a K => cl_ K Try.func15 (by kernel_rfl) rfl rfl rfl rfl rfl rfl ((hrec _ M.bl).mono ?_)
  rintro _ w2 ⟨rfl, b2⟩
  replace M := M.call b2
  refine ⟨_, rfl, fun a K => ?_⟩
  cases b with
  | false => exact run_ 2 K rfl fun a K => nil_ (ct_ K rfl rfl (sr_ (run_ 1 K rfl fun a K => nil_ (ret_ rfl K rfl ⟨rfl, M.bl⟩))))
  | true =>
  have hr := hb rfl
  have hl := hr.lens
  refine run_ 2 K rfl fun a K => nil_ (cs_ K rfl rfl (sr_ (run_ 1 K rfl fun a K => cl_ K Try.func21 (by kernel_rfl) rfl rfl rfl rfl rfl rfl ((hsome1 _).mono ?_))))
  rintro _ w3 ⟨rfl, b3⟩
  replace M := M.call b3
  refine ⟨_, rfl, fun a K => run_ 1 K rfl fun a K => cl_ K Try.func21 (by kernel_rfl) rfl rfl rfl rfl rfl rfl ((hsome2 _).mono ?_)⟩
  rintro _ w4 ⟨rfl, b4⟩
  replace M := M.call b4
  refine ⟨_, rfl, fun a K => run_ 2 K rfl fun a K => nil_ (sr_ (lda_ K M 0 rfl rfl rfl rfl rfl rfl rfl R.sz fun a K => run_ 2 K rfl fun a K => cl_ K Try.func12 (by kernel_rfl) rfl rfl rfl rfl rfl rfl ((lets_on (R.below M.bl) hr bd.1 bd.2.1 bd.2.2.1 bd.2.2.2).mono ?_)))⟩
  rintro _ w5 ⟨rfl, b5⟩
  replace M := M.call b5
  refine ⟨_, rfl, fun a K => run_ 1 K rfl fun a K => nil_ (sr_ (lda_ K M 0 rfl rfl rfl rfl rfl rfl rfl R.sz fun a K => cl_ K Try.func10 (by kernel_rfl) rfl rfl rfl rfl rfl rfl ((twin_on (R.below M.bl) ⟨hl.sec, hl.mi, hl.ho, hl.dy, hl.md, hl.yd, hl.wn, hl.mo, hl.sp⟩).mono ?_)))⟩
  rintro _ w6 ⟨cs', rfl, R', b6⟩
  replace M := M.call b6
  have B := M.bl
  replace M := M.here
  obtain ⟨A8, k8, e8, _, _⟩ := R'.c8
  obtain ⟨A9, k9, e9, _, _⟩ := R'.c9
  obtain ⟨A10, k10, e10, _, _⟩ := R'.c10
  obtain ⟨A13, k13, e13, _, _⟩ := R'.c13
  refine ⟨_, rfl, fun a K => nwG_ K M rfl rfl rfl rfl rfl rfl rfl (fun _ => rfl) rfl R'.sz (rul_one R') fun a g1 W G M K => nil_ (sr_ (run_ 1 K rfl fun a K => nil_ (wp_seq (sr_ (run_ 3 K rfl fun a K => nil_ (wp_block (sr_ (run_ 2 K rfl fun a K => nil_ ?_))))))))⟩
  by_cases d0 : Int.tmod (IntKind.u64.wrap a3) 3 = 0
  · refine ct_ K rfl (decide_eq_true d0) (wp_seq (sr_ (run_ 1 K rfl fun a K => ld_ K M 0 rfl rfl rfl rfl rfl rfl e13 rfl fun a K => run_ 2 K rfl fun a K => ?_)))
    by_cases f1 : 0 < r.mo.length
    case pos =>
      refine run_ 11 (fx_ K ((pos_ _).trans (decide_eq_true f1))) rfl fun a K => nil_ (ct_ K rfl rfl ?_)
      refine sr_ (cl_ K Try.func16 (by kernel_rfl) rfl rfl rfl rfl rfl rfl (wakes_on.mono ?_))
      rintro _ w7 ⟨rfl, b7⟩
      exact ⟨_, rfl, fun a K => run_ 1 K rfl fun a K => nil_ (ret_ rfl K rfl ⟨rfl, below_step B (M.call b7).bl⟩)⟩
    refine run_ 2 (fx_ K ((pos_ _).trans (decide_eq_false f1))) rfl fun a K => ld_ K M 0 rfl rfl rfl rfl rfl rfl e9 rfl fun a K => run_ 2 K rfl fun a K => ?_
    by_cases f2 : 0 < r.dy.length
    case pos =>
      refine run_ 6 (fx_ K ((pos_ _).trans (decide_eq_true f2))) rfl fun a K => nil_ (ct_ K rfl rfl ?_)
      refine sr_ (cl_ K Try.func16 (by kernel_rfl) rfl rfl rfl rfl rfl rfl (wakes_on.mono ?_))
      rintro _ w7 ⟨rfl, b7⟩
      exact ⟨_, rfl, fun a K => run_ 1 K rfl fun a K => nil_ (ret_ rfl K rfl ⟨rfl, below_step B (M.call b7).bl⟩)⟩
    refine run_ 3 (fx_ K ((pos_ _).trans (decide_eq_false f2))) rfl fun a K => ld_ K M 1 rfl rfl rfl rfl rfl rfl R.c0 rfl fun a K => run_ 2 K rfl fun a K => nil_ ?_
    by_cases f3 : 4 < r.fr
    case pos =>
      refine ct_ K rfl (decide_eq_true f3) ?_
      refine sr_ (cl_ K Try.func16 (by kernel_rfl) rfl rfl rfl rfl rfl rfl (wakes_on.mono ?_))
      rintro _ w7 ⟨rfl, b7⟩
      exact ⟨_, rfl, fun a K => run_ 1 K rfl fun a K => nil_ (ret_ rfl K rfl ⟨rfl, below_step B (M.call b7).bl⟩)⟩
    refine cs_ K rfl (decide_eq_false f3) ?_
    have hmo : r.mo = [] := List.length_eq_zero_iff.1 (by omega)
    have hdy : r.dy = [] := List.length_eq_zero_iff.1 (by omega)
    refine wp_seq (sr_ (run_ 1 K rfl fun a K => nil_ (wp_block (wp_loop (fun a W => ∃ (i : Nat) (v : Value), i ≤ 12 ∧ Kn 131 [(12, .int .i64 (1 + (i : Int))), (11, v), (10, .pointer (some ⟨g1, 0, none⟩)), (9, .bool (letsV r s t)), (4, .pointer (some ⟨g0, 0, none⟩)), (2, .int .i64 t), (1, .int .i64 s)] a ∧ On [(g1, .cells cs' 25 (0, 0)), (g0, .cells cs 25 (0, 0))] w6 W ∧ Kd.R (Kd.int .i64) 3 W w6.heap.size (fun _ => True) v (upTo 1 i) ∧ ∀ p ∈ [(g1, Obj.cells cs' 25 (0, 0)), (g0, .cells cs 25 (0, 0))], some p.1 ≠ v.ownBlock) (fun a _ => left13 12 a) ⟨0, .slice none 0 0, Nat.zero_le _, fg_ K ⟨rfl, rfl, rfl, rfl, rfl, rfl, rfl, trivial⟩, M, Kd.R_nil _ _ _ _ _, fun p _ q => nomatch (show some p.1 = none from q)⟩ ?_))))
    rintro a W ⟨i, v, hi, K, M, Rv, F⟩
    refine wp_seq (sr_ (run_ 2 K rfl fun a2 K2 => nil_ ?_))
    by_cases hc : i < 12
    · refine ck_ K2 rfl (decide_eq_true (by omega)) (wp_seq (wp_block (rg_ (run_ 2 K2 rfl fun a3 K3 => val_ K3 rfl rfl rfl (run_bs22 rfl (K3.of (x := .tmp 95) rfl)) fun a3 K3 => ?_))))
      have hn := c_one (blk_new W (.cells #[.int .i64 (1 + (i : Int))] 3 (0, 0)))
      refine ap_ (k := Kd.int .i64) (t := 22) (e := 3) K3 (M.alloc _) rfl rfl rfl rfl Try.underlying22 info3 rfl (by decide) (by decide) rfl rfl (Kd.R_alloc Rv _) hn (fun x cs h => h) F (by rw [upTo_len]; omega) fun a4 v1 W4 g4 R4 M4 F4 K4 => run_ 1 K4 rfl fun a4 K4 => nb_ (rg_ (run_ 3 K4 rfl fun a5 K5 => nil_ ?_))
      have e : wrap64 (1 + (i : Int) + 1) = 1 + ((i + 1 : Nat) : Int) := by rw [w64 (by omega) (by omega)]; omega
      refine ⟨⟨i + 1, v1, hc, fg_ (ks_ (i := 12) K5 rfl (congrArg (Value.int .i64) e)) ⟨rfl, rfl, rfl, rfl, rfl, rfl, rfl, trivial⟩, M4, by rw [upTo_succ]; exact R4, F4⟩, ?_⟩
      rw [left13_ (n := 12) K5 rfl, left13_ (n := 12) K rfl, e]
      exact meas_ hc (by decide) (by decide)
    · obtain rfl : i = 12 := by omega
      refine cf_ K2 rfl (decide_eq_false (by omega)) (ex_ (thn_ (rg_ (run_ 2 K2 rfl fun a3 K3 => stc_ K3 M 0 rfl G rfl rfl rfl rfl rfl ?_ (by rw [R'.sz]; decide) fun W5 hW M5 => nb_ ?_))))
      · obtain ⟨A, c, e, _⟩ := Kd.R_reads Rv
        rw [e]; rfl
      subst hW
      have Rv5 := Kd.R_set Rv (M.me 0 _ _ rfl) (ty3 (by decide)) 13 v
      have I5 : InL (W.setCell ⟨g1, 13, none⟩ v) (some v) (upTo 1 12) := by
        obtain ⟨A, c, e, h1, h2⟩ := Kd.R_reads Rv5
        exact ⟨A, c, congrArg some e, h1, h2⟩
      have R5 := rul_set13 (R'.below M5.bl) I5
      refine sr_ (lda_ K3 M5 0 rfl rfl rfl rfl rfl rfl rfl R5.sz fun a K => run_ 2 K rfl fun a K => cl_ K Try.func12 (by kernel_rfl) rfl rfl rfl rfl rfl rfl ((lets_on (R5.below (Below.refl _ _)) (right_mo hr) bd.1 bd.2.1 bd.2.2.1 bd.2.2.2).mono ?_))
      rw [lets_mo hr hmo hdy (by omega) ht]
      rintro _ w7 ⟨rfl, b7⟩
      refine ⟨_, rfl, fun a K => run_ 2 K rfl fun a K => run_ 1 (fx_ (c := true) K (by simp)) rfl fun a K => cl_ K Try.func16 (by kernel_rfl) rfl rfl rfl rfl rfl rfl (wakes_on.mono ?_)⟩
      rintro _ w8 ⟨rfl, b8⟩
      exact ⟨_, rfl, fun a K => run_ 2 K rfl fun a K => nil_ (ret_ rfl K rfl ⟨rfl, below_step B ((M5.call b7).call b8).bl⟩)⟩
  refine cf_ K rfl (decide_eq_false d0) (sr_ (run_ 2 K rfl fun a K => nil_ ?_))
  by_cases d1 : Int.tmod (IntKind.u64.wrap a3) 3 = 1
  · refine ct_ K rfl (decide_eq_true d1) (wp_seq (sr_ (run_ 1 K rfl fun a K => ld_ K M 0 rfl rfl rfl rfl rfl rfl e8 rfl fun a K => run_ 2 K rfl fun a K => ?_)))
    by_cases f1 : 0 < r.ho.length
    case pos =>
      refine run_ 5 (fx_ K ((pos_ _).trans (decide_eq_true f1))) rfl fun a K => nil_ (ct_ K rfl rfl ?_)
      refine sr_ (cl_ K Try.func16 (by kernel_rfl) rfl rfl rfl rfl rfl rfl (wakes_on.mono ?_))
      rintro _ w7 ⟨rfl, b7⟩
      exact ⟨_, rfl, fun a K => run_ 1 K rfl fun a K => nil_ (ret_ rfl K rfl ⟨rfl, below_step B (M.call b7).bl⟩)⟩
    refine run_ 2 (fx_ K ((pos_ _).trans (decide_eq_false f1))) rfl fun a K => ld_ K M 1 rfl rfl rfl rfl rfl rfl R.c0 rfl fun a K => run_ 2 K rfl fun a K => nil_ ?_
    by_cases f3 : 3 < r.fr
    case pos =>
      refine ct_ K rfl (decide_eq_true f3) ?_
      refine sr_ (cl_ K Try.func16 (by kernel_rfl) rfl rfl rfl rfl rfl rfl (wakes_on.mono ?_))
      rintro _ w7 ⟨rfl, b7⟩
      exact ⟨_, rfl, fun a K => run_ 1 K rfl fun a K => nil_ (ret_ rfl K rfl ⟨rfl, below_step B (M.call b7).bl⟩)⟩
    refine cs_ K rfl (decide_eq_false f3) ?_
    have hho : r.ho = [] := List.length_eq_zero_iff.1 (by omega)
    refine wp_seq (sr_ (run_ 1 K rfl fun a K => nil_ (wp_block (wp_loop (fun a W => ∃ (i : Nat) (v : Value), i ≤ 24 ∧ Kn 131 [(13, .int .i64 (0 + (i : Int))), (11, v), (10, .pointer (some ⟨g1, 0, none⟩)), (9, .bool (letsV r s t)), (4, .pointer (some ⟨g0, 0, none⟩)), (2, .int .i64 t), (1, .int .i64 s)] a ∧ On [(g1, .cells cs' 25 (0, 0)), (g0, .cells cs 25 (0, 0))] w6 W ∧ Kd.R (Kd.int .i64) 3 W w6.heap.size (fun _ => True) v (upTo 0 i) ∧ ∀ p ∈ [(g1, Obj.cells cs' 25 (0, 0)), (g0, .cells cs 25 (0, 0))], some p.1 ≠ v.ownBlock) (fun a _ => left13 13 a) ⟨0, .slice none 0 0, Nat.zero_le _, fg_ K ⟨rfl, rfl, rfl, rfl, rfl, rfl, rfl, trivial⟩, M, Kd.R_nil _ _ _ _ _, fun p _ q => nomatch (show some p.1 = none from q)⟩ ?_))))
    rintro a W ⟨i, v, hi, K, M, Rv, F⟩
    refine wp_seq (sr_ (run_ 2 K rfl fun a2 K2 => nil_ ?_))
    by_cases hc : i < 24
    · refine ck_ K2 rfl (decide_eq_true (by omega)) (wp_seq (wp_block (rg_ (run_ 2 K2 rfl fun a3 K3 => val_ K3 rfl rfl rfl (run_bs22 rfl (K3.of (x := .tmp 117) rfl)) fun a3 K3 => ?_))))
      have hn := c_one (blk_new W (.cells #[.int .i64 (0 + (i : Int))] 3 (0, 0)))
      refine ap_ (k := Kd.int .i64) (t := 22) (e := 3) K3 (M.alloc _) rfl rfl rfl rfl Try.underlying22 info3 rfl (by decide) (by decide) rfl rfl (Kd.R_alloc Rv _) hn (fun x cs h => h) F (by rw [upTo_len]; omega) fun a4 v1 W4 g4 R4 M4 F4 K4 => run_ 1 K4 rfl fun a4 K4 => nb_ (rg_ (run_ 3 K4 rfl fun a5 K5 => nil_ ?_))
      have e : wrap64 (0 + (i : Int) + 1) = 0 + ((i + 1 : Nat) : Int) := by rw [w64 (by omega) (by omega)]; omega
      refine ⟨⟨i + 1, v1, hc, fg_ (ks_ (i := 13) K5 rfl (congrArg (Value.int .i64) e)) ⟨rfl, rfl, rfl, rfl, rfl, rfl, rfl, trivial⟩, M4, by rw [upTo_succ]; exact R4, F4⟩, ?_⟩
      rw [left13_ (n := 13) K5 rfl, left13_ (n := 13) K rfl, e]
      exact meas_ hc (by decide) (by decide)
    · obtain rfl : i = 24 := by omega
      refine cf_ K2 rfl (decide_eq_false (by omega)) (ex_ (thn_ (rg_ (run_ 2 K2 rfl fun a3 K3 => stc_ K3 M 0 rfl G rfl rfl rfl rfl rfl ?_ (by rw [R'.sz]; decide) fun W5 hW M5 => nb_ ?_))))
      · obtain ⟨A, c, e, _⟩ := Kd.R_reads Rv
        rw [e]; rfl
      subst hW
      have Rv5 := Kd.R_set Rv (M.me 0 _ _ rfl) (ty3 (by decide)) 8 v
      have I5 : InL (W.setCell ⟨g1, 8, none⟩ v) (some v) (upTo 0 24) := by
        obtain ⟨A, c, e, h1, h2⟩ := Kd.R_reads Rv5
        exact ⟨A, c, congrArg some e, h1, h2⟩
      have R5 := rul_set8 (R'.below M5.bl) I5
      refine sr_ (lda_ K3 M5 0 rfl rfl rfl rfl rfl rfl rfl R5.sz fun a K => run_ 2 K rfl fun a K => cl_ K Try.func12 (by kernel_rfl) rfl rfl rfl rfl rfl rfl ((lets_on (R5.below (Below.refl _ _)) (right_ho hr) bd.1 bd.2.1 bd.2.2.1 bd.2.2.2).mono ?_))
      rw [lets_ho hr hho (by omega)]
      rintro _ w7 ⟨rfl, b7⟩
      refine ⟨_, rfl, fun a K => run_ 2 K rfl fun a K => run_ 1 (fx_ (c := true) K (by simp)) rfl fun a K => cl_ K Try.func16 (by kernel_rfl) rfl rfl rfl rfl rfl rfl (wakes_on.mono ?_)⟩
      rintro _ w8 ⟨rfl, b8⟩
      exact ⟨_, rfl, fun a K => run_ 2 K rfl fun a K => nil_ (ret_ rfl K rfl ⟨rfl, below_step B ((M5.call b7).call b8).bl⟩)⟩
  refine cf_ K rfl (decide_eq_false d1) (wp_seq (sr_ (run_ 1 K rfl fun a K => ld_ K M 0 rfl rfl rfl rfl rfl rfl e10 rfl fun a K => run_ 2 K rfl fun a K => ?_)))
  by_cases f1 : 0 < r.md.length
  case pos =>
    refine run_ 10 (fx_ K ((pos_ _).trans (decide_eq_true f1))) rfl fun a K => nil_ (ct_ K rfl rfl ?_)
    refine sr_ (cl_ K Try.func16 (by kernel_rfl) rfl rfl rfl rfl rfl rfl (wakes_on.mono ?_))
    rintro _ w7 ⟨rfl, b7⟩
    exact ⟨_, rfl, fun a K => run_ 1 K rfl fun a K => nil_ (ret_ rfl K rfl ⟨rfl, below_step B (M.call b7).bl⟩)⟩
  refine run_ 2 (fx_ K ((pos_ _).trans (decide_eq_false f1))) rfl fun a K => ld_ K M 1 rfl rfl rfl rfl rfl rfl R.c0 rfl fun a K => run_ 1 K rfl fun a K => ?_
  by_cases f2 : r.fr = 5
  case pos =>
    refine run_ 6 (fx_ K (decide_eq_true f2)) rfl fun a K => nil_ (ct_ K rfl rfl ?_)
    refine sr_ (cl_ K Try.func16 (by kernel_rfl) rfl rfl rfl rfl rfl rfl (wakes_on.mono ?_))
    rintro _ w7 ⟨rfl, b7⟩
    exact ⟨_, rfl, fun a K => run_ 1 K rfl fun a K => nil_ (ret_ rfl K rfl ⟨rfl, below_step B (M.call b7).bl⟩)⟩
  refine run_ 3 (fx_ K (decide_eq_false f2)) rfl fun a K => ld_ K M 1 rfl rfl rfl rfl rfl rfl R.c0 rfl fun a K => run_ 2 K rfl fun a K => nil_ ?_
  by_cases f3 : 4 < r.fr
  case pos =>
    refine ct_ K rfl (decide_eq_true f3) ?_
    refine sr_ (cl_ K Try.func16 (by kernel_rfl) rfl rfl rfl rfl rfl rfl (wakes_on.mono ?_))
    rintro _ w7 ⟨rfl, b7⟩
    exact ⟨_, rfl, fun a K => run_ 1 K rfl fun a K => nil_ (ret_ rfl K rfl ⟨rfl, below_step B (M.call b7).bl⟩)⟩
  have hmd : r.md = [] := List.length_eq_zero_iff.1 (by omega)
  have h4 : r.fr ≤ 4 := by omega
  have rt := right_md hr f2
  have elets := lets_md hr hmd f2 h4 (s := s) ht
  refine cs_ K rfl (decide_eq_false f3) (sr_ (val_ K rfl rfl rfl (run_bs22 (x := .const (.int .i64 1)) rfl rfl) fun a K => run_ 1 K rfl fun a K => stc_ K (M.alloc _) 0 rfl G rfl rfl rfl rfl rfl rfl (by rw [R'.sz]; decide) fun W5 hW M5 => nil_ ?_))
  have hn := c_one (blk_new W (.cells #[.int .i64 1] 3 (0, 0)))
  have R5 : Rul W5 (cs'.setIfInBounds 10 (.slice (some ⟨W.heap.size, 0, none⟩) 1 1)) { r with md := [1] } := rul_set10 (R'.below M5.bl) ⟨_, _, rfl, Nat.le_refl _, by
    have l1 := blk_lt (M.me 0 _ _ rfl)
    have hb := blk_new W (.cells #[.int .i64 1] 3 (0, 0))
    subst hW
    exact c_one ((Below.heap_setCell _ ⟨g1, 10, none⟩ _ W.heap.size (by dsimp only; omega)).trans hb)⟩
  have M5' := M5.here
  refine sr_ (run_ 1 K rfl fun a K => cl_ K Try.func18 (by kernel_rfl) rfl rfl rfl rfl rfl rfl ((years_on bd.2.2.1 bd.2.2.2 _).mono ?_))
  rw [years_in ht]
  rintro _ w7 ⟨rfl, b7⟩
  refine ⟨_, rfl, fun a K => run_ 3 K rfl fun a K => nw_ K (M5'.call b7) rfl rfl rfl rfl rfl rfl rfl (fun _ => rfl) rfl rfl rfl fun a g2 W6 M6 K => run_ 1 K rfl fun a K => nil_ (sr_ (lda_ K M6 1 rfl rfl rfl rfl rfl rfl rfl R5.sz fun a K => run_ 2 K rfl fun a K => cl_ K Try.func12 (by kernel_rfl) rfl rfl rfl rfl rfl rfl ((lets_on (r := { r with md := [1] }) (cs := cs'.setIfInBounds 10 (.slice (some ⟨W.heap.size, 0, none⟩) 1 1)) ?_ rt bd.1 bd.2.1 bd.2.2.1 bd.2.2.2).mono ?_)))⟩
  · exact R5.below M6.bl
  rw [elets]
  rintro _ w8 ⟨rfl, b8⟩
  replace M6 := M6.call b8
  refine ⟨_, rfl, fun a K => run_ 2 K rfl fun a K => ?_⟩
  have fin : ∀ {u v : Bool}, u = v → (u == v) = true := fun h => by rw [h]; exact beq_self_eq_true _
  cases hl5 : letsV r s t
  case' true => refine run_ 1 (fx_ K hl5) rfl fun a K => ld_ K M6 0 rfl rfl rfl rfl rfl rfl rfl rfl fun a K => run_ 3 K rfl fun a K => run_ 1 (fx_ (c := true) K (fin (by rw [hl5]; rfl))) rfl fun a K => ?_
  case' false => refine run_ 5 (fx_ K hl5) rfl fun a K => run_ 1 (fx_ (c := true) K (fin (by rw [hl5]; rfl))) rfl fun a K => ?_
  all_goals
    refine cl_ K Try.func16 (by kernel_rfl) rfl rfl rfl rfl rfl rfl (wakes_on.mono ?_)
    rintro _ w9 ⟨rfl, b9⟩
    exact ⟨_, rfl, fun a K => run_ 2 K rfl fun a K => nil_ (ret_ rfl K rfl ⟨rfl, below_step (below_step B M5.bl) (M6.call b9).bl⟩)⟩
end Go.Proofs.Ytmhpmkbifhgnbaa.Pure
