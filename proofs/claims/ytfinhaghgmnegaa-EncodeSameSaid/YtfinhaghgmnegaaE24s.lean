/- The encoder's seven days as a contract. No condition beyond those it names. -/
import Derived.Test.YtfinhaghgmnegaaE24c
import Derived.Test.YtfinhaghgmnegaaOx0
namespace Go.Proofs.Ytfinhaghgmnegaa.Pure
open Go.RowKit Go.Proofs.Ytfinhaghgmnegaa.O Go.Proofs.YtfinhaghgmnegaaW.PrintWords Go.Proofs.YtfinhaghgmnegaaW.PrintLast
open Go.Proofs.Ytfinhaghgmnegaa.Civ
set_option linter.unusedVariables false
set_option linter.unusedSimpArgs false
set_option maxRecDepth 100000
set_option maxHeartbeats 4000000
theorem seven_on {w : World} {m f wk : Int} (hf : 1 ≤ f) (hf' : f ≤ 31) {A : Option Addr} {c : Nat} (R13 : InLS w (some (.slice A 1 c)) [m]) :
    Calls Try.prog 19 #[.agg (c3 (monR m) (.slice none 0 0) (.slice none 0 0) (.slice A 1 c)), .int .i64 f, .int .i64 wk] w fun e w' => ∃ cs, e = .returned (.agg cs) ∧ RulS w' cs (sevR m f wk) ∧ cs.toList.all (·.oneCell') = true ∧ Below w.heap.size w w' := by
  have e7 : Int.tmod f 7 = f % 7 := tmod_nn 7 (by omega)
  have e8 := sev_div (f := f) (by omega) (by omega)
  have hf2 : -80 ≤ f ∧ f ≤ 80 := by omega
  clear hf hf'
  refine en_ Try.func19 rfl rfl rfl fun a K => sr_ (bxG_ K (On.nil w) rfl rfl rfl rfl rfl rfl fun a g0 W G0 M K => al_ K M rfl rfl rfl rfl rfl fun a g1 W z hz G1 M K => nil_ (wp_seq (sr_ (run_ 3 K rfl fun a K => nil_ ?_))))
  by_cases h7 : f % 7 = 1
  · refine ct_ K rfl (by rw [e7]; exact decide_eq_true h7) (sr_ (run_ 4 K rfl fun a K => val_ K rfl rfl rfl (run_b54 rfl (K.of (x := .tmp 13) rfl) (K.of (x := .tmp 14) rfl)) fun a K => bsd_ K M rfl rfl rfl rfl rfl fun a g4 W G4 M K => run_ 1 K rfl fun a K => stc_ K M 2 rfl G0 rfl rfl rfl rfl rfl rfl (show 9 < 16 by decide) fun W hW M => nil_ (sr_ ?_)))
    refine lda_ K M 2 rfl rfl rfl rfl rfl rfl rfl rfl fun a K => stw_ K M 1 rfl G1 rfl rfl rfl rfl rfl rfl hz rfl rfl fun W hW M => nil_ (retc_ (k := 1) rfl K M rfl rfl rfl rfl ?_)
    have I := indS_one (x := ⟨wrap64 (wrap64 (Int.tdiv f 7) + 1), wk⟩) (M.me 0 _ _ rfl)
    rw [e8] at I
    refine ⟨_, rfl, ?_, rfl, M.bl⟩
    unfold sevR
    rw [if_pos h7]
    exact rulS_cs ⟨rfl, rfl, rfl, rfl, rfl, rfl⟩ I (inlS_nil _) (inlS_mono R13 (keep_below M.bl)) rfl
  refine cs_ K rfl (by rw [e7]; exact decide_eq_false h7) (sr_ (run_ 1 K rfl fun a K => val_ K rfl rfl rfl (run_b54' rfl (K.of (x := .tmp 19) rfl)) fun a K => bsd_ K M rfl rfl rfl rfl rfl fun a g2 W G2 M K => run_ 1 K rfl fun a K => stc_ K M 2 rfl G0 rfl rfl rfl rfl rfl rfl (show 9 < 16 by decide) fun W hW M => nil_ ?_))
  clear hW
  refine wp_seq (sr_ (run_ 1 K rfl fun a K => nil_ (wp_block (wp_loop (fun a W => ∃ (i : Nat) (v : Value), i ≤ 7 ∧ Kn 36 [(23, .int .i64 (0 + (i : Int))), (6, .pointer (some ⟨g1, 0, none⟩)), (3, .pointer (some ⟨g0, 0, none⟩)), (1, .int .i64 f)] a ∧ On [(g2, .cells #[.int .i64 0, .int .i64 wk] 54 (0, 0)), (g1, .cells z 29 (0, 0)), (g0, .cells (c3 (monR m) (.slice (some ⟨g2, 0, none⟩) 1 1) v (.slice A 1 c)) 29 (0, 0))] w W ∧ Kd.R (Kd.int .i64) 3 W w.heap.size (fun _ => True) v (upTo f i) ∧ (some g2 ≠ v.ownBlock ∧ some g1 ≠ v.ownBlock ∧ some g0 ≠ v.ownBlock)) (fun a _ => left13 23 a) ⟨0, .slice none 0 0, Nat.zero_le _, fg_ K ⟨rfl, rfl, rfl, rfl, trivial⟩, M, Kd.R_nil _ _ _ _ _, fun q => (nomatch (show some g2 = none from q)), fun q => (nomatch (show some g1 = none from q)), fun q => (nomatch (show some g0 = none from q))⟩ ?_))))
  clear K M
  rintro a W ⟨i, v, hi, K, M, Rv, F⟩
  refine sr_ (run_ 1 K rfl fun a2 K2 => nil_ (wp_seq ?_))
  by_cases hc : i < 7
  · have e5 := lp_add hf2.1 hf2.2 hc
    have e := lp_inc hc
    obtain ⟨A0, c0, ev, _⟩ := Kd.R_reads Rv
    subst ev
    refine ck_ K2 rfl (lp_lt hc) (wp_seq (wp_block (sr_ (run_ 2 K2 rfl fun a3 K3 => nil_ (rg_ (run_ 1 K3 rfl fun a3 K3 => ld_ K3 M 2 rfl rfl rfl rfl rfl rfl rfl rfl fun a3 K3 => run_ 3 K3 rfl fun a3 K3 => val_ K3 rfl rfl rfl (run_bs26 rfl (K3.of (x := .tmp 30) rfl)) fun a3 K3 => ?_))))))
    have hn := c_one (blk_new W (.cells #[.int .i64 (wrap64 (f + (0 + (i : Int))))] 3 (0, 0)))
    refine ap_ (k := Kd.int .i64) (t := 26) (e := 3) K3 (M.alloc _) rfl rfl rfl rfl Try.underlying26 info3 rfl (by decide) (by decide) rfl rfl (Kd.R_alloc Rv _) hn (fun x cs h => h) (fun p hp => by
      simp only [List.mem_cons, List.not_mem_nil, or_false] at hp
      rcases hp with rfl | rfl | rfl
      all_goals first | exact F.1 | exact F.2.1 | exact F.2.2) (up_fit hc) fun a4 v1 W4 g4 R4 M4 F4 K4 => ?_
    rw [e5, ← upTo_succ] at R4
    obtain ⟨A1, c1', ev, _⟩ := Kd.R_reads R4
    subst ev
    refine run_ 1 K4 rfl fun a4 K4 => stc_ K4 M4 2 rfl G0 rfl rfl rfl rfl rfl rfl (show 10 < 16 by decide) fun W5 hW M5 => nb_ (rg_ (run_ 2 K4 rfl fun a5 K5 => nil_ ?_))
    subst hW
    refine ⟨⟨i + 1, _, hc, fg_ (ks_ (i := 23) K5 rfl (congrArg (Value.int .i64) e)) ⟨rfl, rfl, rfl, rfl, trivial⟩, M5, Kd.R_set R4 (M4.me 2 _ _ rfl) (ty3 (by decide)) 10 _, F4 _ (.head _), F4 _ (.tail _ (.head _)), F4 _ (.tail _ (.tail _ (.head _)))⟩, ?_⟩
    rw [left13_ (n := 23) K5 rfl, left13_ (n := 23) K rfl, e]
    exact meas_ hc (by decide) (by decide)
  · obtain rfl : i = 7 := by omega
    have T : Tw [(v, upTo f 7)] w.heap.size W := fun p hp => by
      obtain rfl : p = (v, upTo f 7) := by simpa using hp
      exact Rv
    obtain ⟨A0, c0, ev, _⟩ := Kd.R_reads Rv
    subst ev
    refine cf_ K2 rfl (by decide) (ex_ (thn_ (sr_ (lda_ K2 M 2 rfl rfl rfl rfl rfl rfl rfl rfl fun a K => stw_ K M 1 rfl G1 rfl rfl rfl rfl rfl rfl hz rfl rfl fun W3 hW M3 => nil_ (retc_ (k := 1) rfl K M3 rfl rfl rfl rfl ?_)))))
    subst hW
    have T4 := T.row (M.me 1 _ _ rfl) (show 29 ≠ 3 by decide) (c3 (monR m) (.slice (some ⟨g2, 0, none⟩) 1 1) (.slice A0 (upTo f 7).length c0) (.slice A 1 c))
    refine ⟨_, rfl, ?_, rfl, M3.bl⟩
    unfold sevR
    rw [if_neg h7]
    exact rulS_cs ⟨rfl, rfl, rfl, rfl, rfl, rfl⟩ (indS_one (x := ⟨0, wk⟩) (M3.me 0 _ _ rfl)) (twS_inl T4 0 rfl) (inlS_mono R13 (keep_below M3.bl)) rfl
end Go.Proofs.Ytfinhaghgmnegaa.Pure
