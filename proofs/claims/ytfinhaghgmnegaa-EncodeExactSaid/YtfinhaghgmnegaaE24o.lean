/- The encoder and its reference as contracts. No condition beyond those each lemma names. -/
import Derived.Test.YtfinhaghgmnegaaE24c
import Derived.Test.YtfinhaghgmnegaaOx0
namespace Go.Proofs.Ytfinhaghgmnegaa.Pure
open Go.RowKit Go.Proofs.Ytfinhaghgmnegaa.O Go.Proofs.YtfinhaghgmnegaaW.PrintWords Go.Proofs.YtfinhaghgmnegaaW.PrintLast
open Go.Proofs.Ytfinhaghgmnegaa.Civ
set_option linter.unusedVariables false
set_option linter.unusedSimpArgs false
set_option maxRecDepth 100000
set_option maxHeartbeats 4000000
/-- The encoder's answer of the reference. -/
theorem ron_on {w : World} {m kd wk d mv : Int} (ho : OnR kd wk d) (hm : 1 ≤ m) (hm' : m ≤ 12) (hv : -9223372036854775808 ≤ mv) (hv' : mv < 9223372036854775808) :
    Calls Try.prog 10 #[.int .i64 m, .agg #[.int .i64 kd, .int .i64 wk, .int .i64 d], .int .i64 mv] w fun e w' => ∃ cs r b, e = .returned (.tuple #[.agg cs, .bool b]) ∧ RulS w' cs r ∧ Below w.heap.size w w' ∧ (encP m kd d mv → r = onR m kd wk d mv ∧ b = true) ∧ (¬ encP m kd d mv → b = false) := by
  have hl := len01 m hm hm'
  have fl : Try.prog.follows .mixedOrders = true := by kernel_rfl
  refine en_ Try.func10 rfl rfl rfl fun a K => sr_ (bx_ K (On.nil w) rfl rfl rfl rfl rfl rfl fun a g0 W M K => al_ K M rfl rfl rfl rfl rfl fun a g1 W z hz G1 M K => run_ 1 K rfl fun a K => nil_ (sr_ ?_))
  refine run_ 1 K rfl fun a K => bsi_ K M rfl rfl rfl rfl rfl fun a g2 W G2 M K => val_ K rfl rfl rfl (run_b29 m rfl (fun _ => rfl) (K.of (x := .tmp 15) rfl)) fun a K => nwG_ K M rfl rfl rfl rfl rfl rfl rfl (fun _ => rfl) rfl rfl rfl fun a g3 W G3 M K => nil_ (wp_seq (sr_ ?_))
  refine run_ 1 K rfl fun a K => ld_ K M 3 rfl rfl rfl rfl rfl rfl rfl rfl fun a K => run_ 1 K rfl fun a K => nil_ ?_
  by_cases h2 : kd = 2
  · refine ct_ K rfl (decide_eq_true h2) (sr_ (run_ 1 K rfl fun a K => ld_ K M 3 rfl rfl rfl rfl rfl rfl rfl rfl fun a K => val_ K rfl rfl rfl (run_b54 rfl rfl (K.of (x := .tmp 21) rfl)) fun a K => bsd_ K M rfl rfl rfl rfl rfl fun a g4 W G4 M K => run_ 1 K rfl fun a K => stc_ K M 1 rfl G3 rfl rfl rfl rfl rfl rfl (show 9 < 16 by decide) fun W hW M => nil_ (sr_ ?_)))
    refine lda_ K M 1 rfl rfl rfl rfl rfl rfl rfl rfl fun a K => run_ 2 K rfl fun a K => stw_ K M 3 rfl G1 rfl rfl rfl rfl rfl rfl hz rfl rfl fun W hW M => run_ 1 K rfl fun a K => nil_ (retc2_ (k := 3) rfl K M rfl rfl rfl rfl rfl ?_)
    refine ⟨_, { monR m with dy := [⟨-1, wk⟩] }, decide (mv = 0), rfl, rulS_cs ⟨rfl, rfl, rfl, rfl, rfl, rfl⟩ (indS_one (x := ⟨-1, wk⟩) (M.me 0 _ _ rfl)) (inlS_nil _) (inlS_one (M.me 2 _ _ rfl)) rfl, M.bl, fun he => ⟨?_, ?_⟩, fun he => ?_⟩
    · unfold onR; rw [if_pos h2]
    · unfold encP at he; exact decide_eq_true (by omega)
    · unfold encP at he; exact decide_eq_false (by omega)
  refine cs_ K rfl (decide_eq_false h2) (wp_seq (sr_ (run_ 1 K rfl fun a K => cl_ K Try.func23 (by kernel_rfl) rfl rfl rfl rfl rfl rfl ((in_on _ _ _).mono ?_))))
  rintro _ w1 ⟨rfl, b1⟩
  replace M := M.call b1
  refine ⟨_, rfl, fun a K => ?_⟩
  by_cases hmv : -40 ≤ mv ∧ mv ≤ 40
  case neg =>
    refine run_ 1 (fx_ K (decide_eq_false hmv)) rfl fun a K => nil_ (ct_ K rfl rfl (sr_ (val_ K rfl rfl rfl (run_b29z rfl) fun a K => stw_ K M 2 rfl G1 rfl rfl rfl rfl rfl rfl hz rfl rfl fun W hW M => run_ 1 K rfl fun a K => nil_ (retc2_ (k := 2) rfl K M rfl rfl rfl rfl rfl ?_))))
    exact ⟨_, zR, false, rfl, rulS_cs ⟨rfl, rfl, rfl, rfl, rfl, rfl⟩ (indS_nil _) (inlS_nil _) (inlS_nil _) rfl, M.bl, fun he => absurd ⟨he.1, he.2.1⟩ hmv, fun _ => rfl⟩
  refine run_ 1 (fx_ K (decide_eq_true hmv)) rfl fun a K => nil_ (cs_ K rfl rfl (sr_ (run_ 1 K rfl fun a K => cl_ K Try.func27 (by kernel_rfl) rfl rfl rfl rfl rfl rfl ((rlen_on (by omega) (by omega)).mono ?_))))
  rintro _ w2 ⟨rfl, b2⟩
  replace M := M.call b2
  refine ⟨_, rfl, fun a K => run_ 1 K rfl fun a K => nil_ (wp_seq (sr_ (run_ 1 K rfl fun a K => ld_ K M 3 rfl rfl rfl rfl rfl rfl rfl rfl fun a K => run_ 2 K rfl fun a K => nil_ ?_)))⟩
  have hd : 1 ≤ d ∧ d ≤ 31 := by unfold OnR at ho; omega
  by_cases hdl : ln 2001 m < d
  · refine ct_ K rfl (decide_eq_true hdl) (sr_ (val_ K rfl rfl rfl (run_b29z rfl) fun a K => stw_ K M 2 rfl G1 rfl rfl rfl rfl rfl rfl hz rfl rfl fun W hW M => run_ 1 K rfl fun a K => nil_ (retc2_ (k := 2) rfl K M rfl rfl rfl rfl rfl ?_)))
    exact ⟨_, zR, false, rfl, rulS_cs ⟨rfl, rfl, rfl, rfl, rfl, rfl⟩ (indS_nil _) (inlS_nil _) (inlS_nil _) rfl, M.bl, fun he => by unfold encP at he; omega, fun _ => rfl⟩
  refine cs_ K rfl (decide_eq_false hdl) (wp_seq (sr_ (run_ 1 K rfl fun a K => ld_ K M 3 rfl rfl rfl rfl rfl rfl rfl rfl fun a K => run_ 1 K rfl fun a K => nil_ ?_)))
  have e0 : wrap64 (d + mv) = d + mv := w64 (by omega) (by omega)
  by_cases h1 : kd = 1
  · refine ct_ K rfl (decide_eq_true h1) (sr_ (run_ 1 K rfl fun a K => ld_ K M 3 rfl rfl rfl rfl rfl rfl rfl rfl fun a K => run_ 2 K rfl fun a K => bsi_ K M rfl rfl rfl rfl rfl fun a g4 W G4 M K => run_ 1 K rfl fun a K => stc_ K M 1 rfl G3 rfl rfl rfl rfl rfl rfl (show 10 < 16 by decide) fun W hW M => nil_ ?_))
    refine dseq_ fl rfl rfl (on_era M 3).drew (dp_ 42 6 [1, 3, 5] K rfl rfl (by kernel_rfl) fun a K => dlda_ 43 0 K (on_era M 3).drew 1 rfl rfl rfl rfl rfl rfl rfl rfl rfl (by kernel_rfl) fun a K => dld_ 47 2 K (on_era M 3).drew 3 rfl rfl rfl rfl rfl rfl rfl rfl rfl (by kernel_rfl) fun a K => dp_ 63 3 [4] K rfl rfl (by kernel_rfl) fun a K => dc_ 127 6 K Try.func23 (by kernel_rfl) rfl rfl rfl rfl rfl rfl rfl (by kernel_rfl) ((in_on _ _ _).mono ?_))
    rintro _ w3 ⟨rfl, b3⟩
    replace M := M.drew.call b3
    refine ⟨_, rfl, on_era M 3, fun a K => dstw_ 255 7 K M 3 rfl rfl G1 rfl rfl rfl rfl rfl rfl hz rfl rfl (by kernel_rfl) (fun W hW => on_era hW 3) fun W hW M => dp_ 511 0 [8] K rfl rfl (by kernel_rfl) fun a K => dend_ (by kernel_rfl) (retc2_ (k := 3) rfl K M rfl rfl rfl rfl rfl ?_)⟩
    refine ⟨_, { monR m with md := [wrap64 (d + mv)] }, _, rfl, rulS_cs ⟨rfl, rfl, rfl, rfl, rfl, rfl⟩ (indS_nil _) (inlS_one (M.me 0 _ _ rfl)) (inlS_one (M.me 2 _ _ rfl)) rfl, M.bl, fun he => ⟨?_, ?_⟩, fun he => ?_⟩
    · unfold onR fst24; rw [if_neg h2, if_pos h1, if_neg (by omega), e0]
    · unfold encP fst24 many24 at he; rw [if_pos h1, if_neg (by omega)] at he; exact decide_eq_true (by omega)
    · unfold encP fst24 many24 at he; rw [if_pos h1, if_neg (by omega)] at he; exact decide_eq_false (by omega)
  have hw : 0 ≤ wk ∧ wk ≤ 6 := by unfold OnR at ho; omega
  have f4 : kd = 4 → wrap64 (wrap64 (d + mv) - 6) = fst24 kd d mv := fun h => by unfold fst24; rw [if_pos h, e0, w64 (by omega) (by omega)]
  have fn4 : kd ≠ 4 → wrap64 (d + mv) = fst24 kd d mv := fun h => by unfold fst24; rw [if_neg h, e0]
  have hf : -80 ≤ fst24 kd d mv ∧ fst24 kd d mv ≤ 80 := by unfold fst24; split <;> omega
  have hmany : many24 kd = 7 := by unfold many24; rw [if_neg h1]
  have c1 : ∀ w, Calls Try.prog 24 #[.int .i64 (wrap64 (wk + mv)), .int .i64 7] w (Rets w (.tuple #[.int .i64 ((wk + mv) / 7), .int .i64 ((wk + mv) % 7)])) := fun _ => by
    rw [w64 (x := wk + mv) (by omega) (by omega)]
    exact div_on (by omega) (by omega) (by omega) (by omega)
  have hE : encP m kd d mv ↔ 1 ≤ fst24 kd d mv ∧ fst24 kd d mv + 6 ≤ ln 2001 m := by unfold encP; rw [hmany]; omega
  have hR : onR m kd wk d mv = sevR m (fst24 kd d mv) ((wk + mv) % 7) := by unfold onR; rw [if_neg h2, if_neg h1]
  have e6 : wrap64 (fst24 kd d mv + 6) = fst24 kd d mv + 6 := w64 (by omega) (by omega)
  rw [hR]
  generalize fst24 kd d mv = f at *
  have n1 : f < 1 → ¬ encP m kd d mv := fun h q => by have := hE.1 q; omega
  have n2 : ln 2001 m < f + 6 → ¬ encP m kd d mv := fun h q => by have := hE.1 q; omega
  have y1 : ¬ f < 1 → ¬ ln 2001 m < f + 6 → encP m kd d mv ∧ Int.tmod f 7 = f % 7 ∧ (f % 7 = 1 → f ≤ 22) := fun h h' => ⟨hE.2 (by omega), tmod_nn 7 (by omega), fun _ => by omega⟩
  clear hE hR hmany e0 hl hd hdl hmv hw hm hm' hv hv' ho
  refine cs_ K rfl (decide_eq_false h1) (sr_ (run_ 1 K rfl fun a K => ld_ K M 3 rfl rfl rfl rfl rfl rfl rfl rfl fun a K => run_ 3 K rfl fun a K => nil_ (wp_seq (sr_ (run_ 1 K rfl fun a K => ld_ K M 3 rfl rfl rfl rfl rfl rfl rfl rfl fun a K => run_ 1 K rfl fun a K => nil_ ?_)))))
  refine join_ (E' := [(10, .int .i64 f), (9, .int .i64 (ln 2001 m)), (8, .pointer (some ⟨g3, 0, none⟩)), (6, .pointer (some ⟨g1, 0, none⟩)), (4, .pointer (some ⟨g0, 0, none⟩)), (2, .int .i64 mv)]) K rfl (fun h4 => rg_ (run_ 3 K rfl fun a K => nil_ ⟨rfl, fg_ (ks_ (i := 10) K rfl (congrArg (Value.int .i64) (f4 (of_decide_eq_true h4)))) ⟨rfl, rfl, rfl, rfl, rfl, rfl, trivial⟩⟩)) (fun h4 => fg_ (ks_ (i := 10) K rfl (congrArg (Value.int .i64) (fn4 (of_decide_eq_false h4)))) ⟨rfl, rfl, rfl, rfl, rfl, rfl, trivial⟩) ?_
  clear K f4 fn4
  intro a K
  refine sr_ (run_ 1 K rfl fun a K => ld_ K M 3 rfl rfl rfl rfl rfl rfl rfl rfl fun a K => run_ 2 K rfl fun a K => cl_ K Try.func24 (by kernel_rfl) rfl rfl rfl rfl rfl rfl ((c1 _).mono ?_))
  rintro _ w3 ⟨rfl, b3⟩
  replace M := M.call b3
  refine ⟨_, rfl, fun a K => run_ 5 K rfl fun a K => nil_ (wp_seq (sr_ (run_ 2 K rfl fun a K => ?_)))⟩
  by_cases h5 : f < 1
  · exact run_ 6 (fx_ K (decide_eq_true h5)) rfl fun a K => nil_ (ct_ K rfl rfl (sr_ (val_ K rfl rfl rfl (run_b29z rfl) fun a K => stw_ K M 2 rfl G1 rfl rfl rfl rfl rfl rfl hz rfl rfl fun W hW M => run_ 1 K rfl fun a K => nil_ (retc2_ (k := 2) rfl K M rfl rfl rfl rfl rfl ⟨_, zR, false, rfl, rulS_cs ⟨rfl, rfl, rfl, rfl, rfl, rfl⟩ (indS_nil _) (inlS_nil _) (inlS_nil _) rfl, M.bl, fun he => absurd he (n1 h5), fun _ => rfl⟩))))
  refine run_ 6 (fx_ K (decide_eq_false h5)) rfl fun a K => nil_ ?_
  by_cases h6 : ln 2001 m < f + 6
  · exact ct_ K rfl (by rw [e6]; exact decide_eq_true h6) (sr_ (val_ K rfl rfl rfl (run_b29z rfl) fun a K => stw_ K M 2 rfl G1 rfl rfl rfl rfl rfl rfl hz rfl rfl fun W hW M => run_ 1 K rfl fun a K => nil_ (retc2_ (k := 2) rfl K M rfl rfl rfl rfl rfl ⟨_, zR, false, rfl, rulS_cs ⟨rfl, rfl, rfl, rfl, rfl, rfl⟩ (indS_nil _) (inlS_nil _) (inlS_nil _) rfl, M.bl, fun he => absurd he (n2 h6), fun _ => rfl⟩)))
  obtain ⟨he, e7, e9⟩ := y1 h5 h6
  have e8 := sev_div h5 hf.2
  refine cs_ K rfl (by rw [e6]; exact decide_eq_false h6) (wp_seq (sr_ (run_ 3 K rfl fun a K => ?_)))
  by_cases h7 : f % 7 = 1
  · refine run_ 4 (fx_ (c := true) K (by rw [e7]; exact decide_eq_true h7)) rfl fun a K => nil_ (ct_ K rfl (decide_eq_true (e9 h7)) (sr_ (run_ 4 K rfl fun a K => val_ K rfl rfl rfl (run_b54 rfl (K.of (x := .tmp 90) rfl) (K.of (x := .tmp 91) rfl)) fun a K => bsd_ K M rfl rfl rfl rfl rfl fun a g4 W G4 M K => run_ 1 K rfl fun a K => stc_ K M 1 rfl G3 rfl rfl rfl rfl rfl rfl (show 9 < 16 by decide) fun W hW M => nil_ (sr_ ?_))))
    refine lda_ K M 1 rfl rfl rfl rfl rfl rfl rfl rfl fun a K => stw_ K M 3 rfl G1 rfl rfl rfl rfl rfl rfl hz rfl rfl fun W hW M => run_ 1 K rfl fun a K => nil_ (retc2_ (k := 3) rfl K M rfl rfl rfl rfl rfl ?_)
    have I := indS_one (x := ⟨wrap64 (wrap64 (Int.tdiv f 7) + 1), (wk + mv) % 7⟩) (M.me 0 _ _ rfl)
    refine ⟨_, { monR m with dy := [⟨wrap64 (wrap64 (Int.tdiv f 7) + 1), (wk + mv) % 7⟩] }, true, rfl, rulS_cs ⟨rfl, rfl, rfl, rfl, rfl, rfl⟩ I (inlS_nil _) (inlS_one (M.me 2 _ _ rfl)) rfl, M.bl, fun _ => ⟨by unfold sevR; rw [if_pos h7, e8], rfl⟩, fun h => absurd he h⟩
  refine run_ 4 (fx_ (c := false) K (by rw [e7]; exact decide_eq_false h7)) rfl fun a K => nil_ (cs_ K rfl rfl ?_)
  have B := M.bl
  refine wp_seq (sr_ (run_ 1 K rfl fun a K => nil_ (wp_block (wp_loop (fun a W => ∃ (i : Nat) (v : Value), i ≤ 7 ∧ Kn 113 [(13, .int .i64 (0 + (i : Int))), (12, .int .i64 ((wk + mv) % 7)), (10, .int .i64 f), (8, .pointer (some ⟨g3, 0, none⟩)), (6, .pointer (some ⟨g1, 0, none⟩))] a ∧ On [(g3, .cells (c3 (monR m) (.slice none 0 0) v (.slice (some ⟨g2, 0, none⟩) 1 1)) 29 (0, 0)), (g2, .cells #[.int .i64 m] 3 (0, 0)), (g1, .cells z 29 (0, 0)), (g0, .cells #[.int .i64 kd, .int .i64 wk, .int .i64 d] 23 (0, 0))] w W ∧ Kd.R (Kd.int .i64) 3 W w.heap.size (fun _ => True) v (upTo f i) ∧ (some g3 ≠ v.ownBlock ∧ some g2 ≠ v.ownBlock ∧ some g1 ≠ v.ownBlock ∧ some g0 ≠ v.ownBlock)) (fun a _ => left13 13 a) ⟨0, .slice none 0 0, Nat.zero_le _, fg_ K ⟨rfl, rfl, rfl, rfl, rfl, trivial⟩, M, Kd.R_nil _ _ _ _ _, fun q => (nomatch (show some g3 = none from q)), fun q => (nomatch (show some g2 = none from q)), fun q => (nomatch (show some g1 = none from q)), fun q => (nomatch (show some g0 = none from q))⟩ ?_))))
  clear K M B
  rintro a W ⟨i, v, hi, K, M, Rv, F⟩
  refine wp_seq (sr_ (run_ 2 K rfl fun a2 K2 => nil_ ?_))
  by_cases hc : i < 7
  · have e5 := lp_add hf.1 hf.2 hc
    have e := lp_inc hc
    obtain ⟨A, c, ev, _⟩ := Kd.R_reads Rv
    subst ev
    refine ck_ K2 rfl (lp_lt hc) (wp_seq (wp_block (rg_ (run_ 1 K2 rfl fun a3 K3 => ld_ K3 M 0 rfl rfl rfl rfl rfl rfl rfl rfl fun a3 K3 => run_ 3 K3 rfl fun a3 K3 => val_ K3 rfl rfl rfl (run_bs26 rfl (K3.of (x := .tmp 104) rfl)) fun a3 K3 => ?_))))
    have hn := c_one (blk_new W (.cells #[.int .i64 (wrap64 (f + (0 + (i : Int))))] 3 (0, 0)))
    refine ap_ (k := Kd.int .i64) (t := 26) (e := 3) K3 (M.alloc _) rfl rfl rfl rfl Try.underlying26 info3 rfl (by decide) (by decide) rfl rfl (Kd.R_alloc Rv _) hn (fun x cs h => h) (fun p hp => by
      simp only [List.mem_cons, List.not_mem_nil, or_false] at hp
      rcases hp with rfl | rfl | rfl | rfl
      all_goals first | exact F.1 | exact F.2.1 | exact F.2.2.1 | exact F.2.2.2) (up_fit hc) fun a4 v1 W4 g4 R4 M4 F4 K4 => ?_
    rw [e5, ← upTo_succ] at R4
    obtain ⟨A1, c1', ev, _⟩ := Kd.R_reads R4
    subst ev
    refine run_ 1 K4 rfl fun a4 K4 => stc_ K4 M4 0 rfl G3 rfl rfl rfl rfl rfl rfl (show 10 < 16 by decide) fun W5 hW M5 => nb_ (rg_ (run_ 3 K4 rfl fun a5 K5 => nil_ ?_))
    subst hW
    refine ⟨⟨i + 1, _, hc, fg_ (ks_ (i := 13) K5 rfl (congrArg (Value.int .i64) e)) ⟨rfl, rfl, rfl, rfl, rfl, trivial⟩, M5, Kd.R_set R4 (M4.me 0 _ _ rfl) (ty3 (by decide)) 10 _, F4 _ (.head _), F4 _ (.tail _ (.head _)), F4 _ (.tail _ (.tail _ (.head _))), F4 _ (.tail _ (.tail _ (.tail _ (.head _))))⟩, ?_⟩
    rw [left13_ (n := 13) K5 rfl, left13_ (n := 13) K rfl, e]
    exact meas_ hc (by decide) (by decide)
  · obtain rfl : i = 7 := by omega
    refine cf_ K2 rfl (by decide) (ex_ (thn_ (sr_ (run_ 1 K2 rfl fun a K => val_ K rfl rfl rfl (run_b54' rfl (K.of (x := .tmp 108) rfl)) fun a K => val_ K rfl rfl rfl (run_bs27 rfl (K.of (x := .tmp 109) rfl)) fun a K => ?_))))
    have T : Tw [(v, upTo f 7)] w.heap.size W := fun p hp => by
      obtain rfl : p = (v, upTo f 7) := by simpa using hp
      exact Rv
    have T2 : Tw [(v, upTo f 7)] w.heap.size (W.alloc (.cells #[.int .i64 0, .int .i64 ((wk + mv) % 7)] 54 (0, 0))) := fun p hp => Kd.R_alloc (T p hp) _
    replace M := M.new (.cells #[.int .i64 0, .int .i64 ((wk + mv) % 7)] 54 (0, 0))
    obtain ⟨A, c, ev, _⟩ := Kd.R_reads Rv
    subst ev
    refine run_ 1 K rfl fun a K => stc_ K M 1 rfl G3 rfl rfl rfl rfl rfl rfl (show 9 < 16 by decide) fun W2 hW M2 => nil_ (sr_ ?_)
    subst hW
    have T3 := T2.set (M.me 1 _ _ rfl) (show 29 ≠ 3 by decide) 9 (.slice (some ⟨W.heap.size, 0, none⟩) 1 1)
    refine lda_ K M2 1 rfl rfl rfl rfl rfl rfl rfl rfl fun a K => stw_ K M2 3 rfl G1 rfl rfl rfl rfl rfl rfl hz rfl rfl fun W3 hW M3 => run_ 1 K rfl fun a K => nil_ (retc2_ (k := 3) rfl K M3 rfl rfl rfl rfl rfl ?_)
    subst hW
    have T4 := T3.row (M2.me 3 _ _ rfl) (show 29 ≠ 3 by decide) (c3 (monR m) (.slice (some ⟨W.heap.size, 0, none⟩) 1 1) (.slice A (upTo f 7).length c) (.slice (some ⟨g2, 0, none⟩) 1 1))
    refine ⟨_, { monR m with dy := [⟨0, (wk + mv) % 7⟩], md := upTo f 7 }, true, rfl, rulS_cs ⟨rfl, rfl, rfl, rfl, rfl, rfl⟩ (indS_one (x := ⟨0, (wk + mv) % 7⟩) (M3.me 0 _ _ rfl)) (twS_inl T4 0 rfl) (inlS_one (M3.me 2 _ _ rfl)) rfl, M3.bl, fun _ => ⟨by unfold sevR; rw [if_neg h7], rfl⟩, fun h => absurd he h⟩
end Go.Proofs.Ytfinhaghgmnegaa.Pure
