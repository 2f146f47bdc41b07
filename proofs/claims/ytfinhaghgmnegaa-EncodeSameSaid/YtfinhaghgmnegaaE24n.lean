/- The encoder's answer as a contract. No condition beyond that the move is an int. -/
import Derived.Test.YtfinhaghgmnegaaE24s
namespace Go.Proofs.Ytfinhaghgmnegaa.Pure
open Go.RowKit Go.Proofs.Ytfinhaghgmnegaa.O Go.Proofs.YtfinhaghgmnegaaW.PrintWords Go.Proofs.YtfinhaghgmnegaaW.PrintLast
open Go.Proofs.Ytfinhaghgmnegaa.Civ
set_option linter.unusedVariables false
set_option linter.unusedSimpArgs false
set_option maxRecDepth 100000
set_option maxHeartbeats 4000000
theorem em24 {wk mv : Int} (h : 0 ≤ wk ∧ wk ≤ 6) (h' : -40 ≤ mv ∧ mv ≤ 40) : Int.tmod (wrap64 (Int.tmod (wrap64 (wk + mv)) 7 + 7)) 7 = (wk + mv) % 7 := by
  rw [w64 (x := wk + mv) (by omega) (by omega), tmod_if (wk + mv)]
  split
  · rw [w64 (by omega) (by omega), tmod_nn 7 (by omega)]; omega
  · rw [w64 (by omega) (by omega), tmod_nn 7 (by omega)]; omega
theorem fm24 {f n : Int} (h : -80 ≤ f ∧ f ≤ 80) (h' : n = 1 ∨ n = 7) : wrap64 (wrap64 (f + n) - 1) = f + n - 1 := by
  rw [w64 (x := f + n) (by omega) (by omega), w64 (by omega) (by omega)]
theorem many_one (kd : Int) : kd = 1 ↔ many24 kd = 1 := by
  unfold many24
  split
  · rename_i h; exact ⟨fun _ => rfl, fun _ => h⟩
  · rename_i h; exact ⟨fun q => absurd q h, fun q => absurd q (by decide)⟩
theorem nbj_ {ops : Array Oper} {id : Nat} {R : Act → World → Prop} {Q : Exit → Act → World → Prop} {a : Act} {w : World} (h : R a w) : wpList Try.prog ops (Exit.inBlock id (Exit.then R Q)) [] a w := h
theorem sbj_ {id : Nat} {R : Act → World → Prop} {Q : Exit → Act → World → Prop} {a : Act} {w : World} (h : R a w) : Code.skip.wp Try.prog (Exit.inBlock id (Exit.then R Q)) a w := wp_skip h
/-- The encoder's answer. -/
theorem on_on {w : World} (m kd wk d : Int) {mv : Int} (hv : -9223372036854775808 ≤ mv) (hv' : mv < 9223372036854775808) :
    Calls Try.prog 6 #[.int .i64 m, .agg #[.int .i64 kd, .int .i64 wk, .int .i64 d], .int .i64 mv] w fun e w' => ∃ cs, e = .returned (.tuple #[.agg cs, .int .i64 (onE m kd wk d mv)]) ∧ RulS w' cs (if onE m kd wk d mv = 0 then onR m kd wk d mv else zR) ∧ cs.toList.all (·.oneCell') = true ∧ Below w.heap.size w w' := by
  have fl : Try.prog.follows .mixedOrders = true := by kernel_rfl
  refine en_ Try.func6 rfl rfl rfl fun a K => sr_ (bx_ K (On.nil w) rfl rfl rfl rfl rfl rfl fun a g0 W M K => al_ K M rfl rfl rfl rfl rfl fun a g1 W z hz G1 M K => run_ 1 K rfl fun a K => nil_ (sr_ (lda_ K M 1 rfl rfl rfl rfl rfl rfl rfl rfl fun a K => cl_ K Try.func17 (by kernel_rfl) rfl rfl rfl rfl rfl rfl ((check_on kd wk d).mono ?_))))
  rintro _ w1 ⟨rfl, b1⟩
  replace M := M.call b1
  refine ⟨_, rfl, fun a K => run_ 1 K rfl fun a K => nil_ (bk_ (sr_ ?_))⟩
  by_cases ho : OnR kd wk d
  case neg =>
    have hE : onE m kd wk d mv = 8 := by unfold onE; rw [if_neg ho]
    rw [hE]
    refine run_ 3 (fg_ (ks_ (i := 8) K rfl (congrArg (Value.int .i64) (if_neg ho))) (E' := [(8, .int .i64 8), (6, .pointer (some ⟨g1, 0, none⟩))]) ⟨rfl, rfl, trivial⟩) rfl fun a K => nil_ (ct_ K rfl rfl (sr_ (val_ K rfl rfl rfl (run_b29z rfl) fun a K => run_ 1 K rfl fun a K => stw_ K M 0 rfl G1 rfl rfl rfl rfl rfl rfl hz rfl rfl fun W hW M => run_ 1 K rfl fun a K => nil_ (retc2_ (k := 0) rfl K M rfl rfl rfl rfl rfl ⟨_, rfl, rulS_cs ⟨rfl, rfl, rfl, rfl, rfl, rfl⟩ (indS_nil _) (inlS_nil _) (inlS_nil _) rfl, rfl, M.bl⟩))))
  refine run_ 3 (fg_ (ks_ (i := 8) K rfl (congrArg (Value.int .i64) (if_pos ho))) (E' := [(8, .int .i64 0), (6, .pointer (some ⟨g1, 0, none⟩)), (4, .pointer (some ⟨g0, 0, none⟩)), (2, .int .i64 mv), (0, .int .i64 m)]) ⟨rfl, rfl, rfl, rfl, rfl, trivial⟩) rfl fun a K => nil_ (cf_ K rfl rfl (sr_ (run_ 2 K rfl fun a K => ?_)))
  by_cases h1 : m < 1
  · have hE : onE m kd wk d mv = 4 := by unfold onE; rw [if_pos ho, if_pos (Or.inl h1)]
    rw [hE]
    exact run_ 5 (fx_ K (decide_eq_true h1)) rfl fun a K => nil_ (ct_ K rfl rfl (sr_ (val_ K rfl rfl rfl (run_b29z rfl) fun a K => stw_ K M 0 rfl G1 rfl rfl rfl rfl rfl rfl hz rfl rfl fun W hW M => run_ 1 K rfl fun a K => nil_ (retc2_ (k := 0) rfl K M rfl rfl rfl rfl rfl ⟨_, rfl, rulS_cs ⟨rfl, rfl, rfl, rfl, rfl, rfl⟩ (indS_nil _) (inlS_nil _) (inlS_nil _) rfl, rfl, M.bl⟩))))
  refine run_ 5 (fx_ K (decide_eq_false h1)) rfl fun a K => nil_ ?_
  by_cases h12 : 12 < m
  · have hE : onE m kd wk d mv = 4 := by unfold onE; rw [if_pos ho, if_pos (Or.inr h12)]
    rw [hE]
    exact ct_ K rfl (decide_eq_true h12) (sr_ (val_ K rfl rfl rfl (run_b29z rfl) fun a K => stw_ K M 0 rfl G1 rfl rfl rfl rfl rfl rfl hz rfl rfl fun W hW M => run_ 1 K rfl fun a K => nil_ (retc2_ (k := 0) rfl K M rfl rfl rfl rfl rfl ⟨_, rfl, rulS_cs ⟨rfl, rfl, rfl, rfl, rfl, rfl⟩ (indS_nil _) (inlS_nil _) (inlS_nil _) rfl, rfl, M.bl⟩)))
  have hm : ¬ (m < 1 ∨ 12 < m) := not_or.2 ⟨h1, h12⟩
  have no : ¬ encP m kd d mv → onE m kd wk d mv = 17 := fun h => by unfold onE; rw [if_pos ho, if_neg hm, if_neg h]
  have yes : encP m kd d mv → onE m kd wk d mv = 0 := fun h => by unfold onE; rw [if_pos ho, if_neg hm, if_pos h]
  have hl := len01 m (by omega) (by omega)
  refine cf_ K rfl (decide_eq_false h12) (sr_ (run_ 2 K rfl fun a K => ?_))
  by_cases q1 : mv < -40
  · rw [no (fun h => by have := h.1; omega)]
    exact run_ 5 (fx_ K (decide_eq_true q1)) rfl fun a K => nil_ (ct_ K rfl rfl (sr_ (val_ K rfl rfl rfl (run_b29z rfl) fun a K => stw_ K M 0 rfl G1 rfl rfl rfl rfl rfl rfl hz rfl rfl fun W hW M => run_ 1 K rfl fun a K => nil_ (retc2_ (k := 0) rfl K M rfl rfl rfl rfl rfl ⟨_, rfl, rulS_cs ⟨rfl, rfl, rfl, rfl, rfl, rfl⟩ (indS_nil _) (inlS_nil _) (inlS_nil _) rfl, rfl, M.bl⟩))))
  refine run_ 5 (fx_ K (decide_eq_false q1)) rfl fun a K => nil_ ?_
  by_cases q2 : 40 < mv
  · rw [no (fun h => by have := h.2.1; omega)]
    exact ct_ K rfl (decide_eq_true q2) (sr_ (val_ K rfl rfl rfl (run_b29z rfl) fun a K => stw_ K M 0 rfl G1 rfl rfl rfl rfl rfl rfl hz rfl rfl fun W hW M => run_ 1 K rfl fun a K => nil_ (retc2_ (k := 0) rfl K M rfl rfl rfl rfl rfl ⟨_, rfl, rulS_cs ⟨rfl, rfl, rfl, rfl, rfl, rfl⟩ (indS_nil _) (inlS_nil _) (inlS_nil _) rfl, rfl, M.bl⟩)))
  refine cf_ K rfl (decide_eq_false q2) (sb_ (sr_ (run_ 1 K rfl fun a K => bsi_ K M rfl rfl rfl rfl rfl fun a g2 W G2 M K => val_ K rfl rfl rfl (run_b29 m rfl (fun _ => rfl) (K.of (x := .tmp 36) rfl)) fun a K => nwG_ K M rfl rfl rfl rfl rfl rfl rfl (fun _ => rfl) rfl rfl rfl fun a g3 W G3 M K => nil_ (sr_ (run_ 1 K rfl fun a K => ld_ K M 3 rfl rfl rfl rfl rfl rfl rfl rfl fun a K => run_ 4 K rfl fun a K => nil_ (wp_seq (sr_ (run_ 1 K rfl fun a K => ld_ K M 3 rfl rfl rfl rfl rfl rfl rfl rfl fun a K => nil_ ?_))))))))
  have mvb : -40 ≤ mv ∧ mv ≤ 40 := ⟨by omega, by omega⟩
  by_cases h2 : kd = 2
  · refine wp_block (sr_ (run_ 2 K rfl fun a K => nil_ (ct_ K rfl (decide_eq_true h2) (wp_seq (sr_ (run_ 2 K rfl fun a K => nil_ ?_))))))
    by_cases hz0 : mv = 0
    case neg =>
      rw [no (fun h => by have := h.2.2; omega)]
      exact ct_ K rfl (by rw [decide_eq_false hz0]; rfl) (sr_ (val_ K rfl rfl rfl (run_b29z rfl) fun a K => stw_ K M 2 rfl G1 rfl rfl rfl rfl rfl rfl hz rfl rfl fun W hW M => run_ 1 K rfl fun a K => nil_ (retc2_ (k := 2) rfl K M rfl rfl rfl rfl rfl ⟨_, rfl, rulS_cs ⟨rfl, rfl, rfl, rfl, rfl, rfl⟩ (indS_nil _) (inlS_nil _) (inlS_nil _) rfl, rfl, M.bl⟩)))
    rw [yes ⟨mvb.1, mvb.2, Or.inl ⟨h2, hz0⟩⟩]
    refine cs_ K rfl (by rw [decide_eq_true hz0]; rfl) (sr_ (run_ 1 K rfl fun a K => ld_ K M 3 rfl rfl rfl rfl rfl rfl rfl rfl fun a K => val_ K rfl rfl rfl (run_b54 rfl rfl (K.of (x := .tmp 50) rfl)) fun a K => bsd_ K M rfl rfl rfl rfl rfl fun a g4 W G4 M K => run_ 1 K rfl fun a K => stc_ K M 1 rfl G3 rfl rfl rfl rfl rfl rfl (show 9 < 16 by decide) fun W hW M => nil_ (sr_ ?_)))
    refine lda_ K M 1 rfl rfl rfl rfl rfl rfl rfl rfl fun a K => stw_ K M 3 rfl G1 rfl rfl rfl rfl rfl rfl hz rfl rfl fun W hW M => run_ 1 K rfl fun a K => nil_ (retc2_ (k := 3) rfl K M rfl rfl rfl rfl rfl ⟨_, rfl, ?_, rfl, M.bl⟩)
    rw [if_pos rfl]
    unfold onR
    rw [if_pos h2]
    exact rulS_cs ⟨rfl, rfl, rfl, rfl, rfl, rfl⟩ (indS_one (x := ⟨-1, wk⟩) (M.me 0 _ _ rfl)) (inlS_nil _) (inlS_one (M.me 2 _ _ rfl)) rfl
  have hd : 1 ≤ d ∧ d ≤ 31 := by unfold OnR at ho; omega
  have f3 : kd ≠ 4 → wrap64 (d + mv) = fst24 kd d mv := fun h => by unfold fst24; rw [if_neg h, w64 (by omega) (by omega)]
  have f4 : kd = 4 → wrap64 (wrap64 (wrap64 (d + mv) - 7) + 1) = fst24 kd d mv := fun h => by unfold fst24; rw [if_pos h, w64 (x := d + mv) (by omega) (by omega), w64 (x := d + mv - 7) (by omega) (by omega), w64 (by omega) (by omega)]; omega
  have n7 : kd ≠ 1 → (7 : Int) = many24 kd := fun h => by unfold many24; rw [if_neg h]
  have n1 : kd = 1 → (1 : Int) = many24 kd := fun h => by unfold many24; rw [if_pos h]
  have k1 : kd ≠ 3 → kd ≠ 4 → kd = 1 := fun h h' => by unfold OnR at ho; omega
  have kw : kd ≠ 1 → 0 ≤ wk ∧ wk ≤ 6 := fun h => by unfold OnR at ho; omega
  have hf : -80 ≤ fst24 kd d mv ∧ fst24 kd d mv ≤ 80 := by unfold fst24; split <;> omega
  have hn : many24 kd = 1 ∨ many24 kd = 7 := by unfold many24; split <;> simp
  have hE : encP m kd d mv ↔ d ≤ ln 2001 m ∧ 1 ≤ fst24 kd d mv ∧ fst24 kd d mv + many24 kd - 1 ≤ ln 2001 m := by unfold encP; omega
  have hR : onR m kd wk d mv = if kd = 1 then { monR m with md := [fst24 kd d mv] } else sevR m (fst24 kd d mv) ((wk + mv) % 7) := by unfold onR; rw [if_neg h2]
  have hq1 : kd = 1 ↔ many24 kd = 1 := many_one kd
  rw [hR]
  generalize fst24 kd d mv = f at *
  generalize many24 kd = n at *
  have efn := fm24 hf hn
  have ua : ln 2001 m < d → onE m kd wk d mv = 17 := fun h => no fun q => by have := hE.1 q; omega
  have ub : f < 1 → onE m kd wk d mv = 17 := fun h => no fun q => by have := hE.1 q; omega
  have uc : ln 2001 m < f + n - 1 → onE m kd wk d mv = 17 := fun h => no fun q => by have := hE.1 q; omega
  have uy : ¬ ln 2001 m < d → ¬ f < 1 → ¬ ln 2001 m < f + n - 1 → onE m kd wk d mv = 0 ∧ 1 ≤ f ∧ f ≤ 31 := fun h h' h3 => ⟨yes (hE.2 (by omega)), by omega, by omega⟩
  clear hE hR no yes hl ho hm h1 h12 q1 q2 hd hf hv hv'
  refine bjoin_ (N := 97) (E' := [(11, .int .i64 n), (10, .int .i64 f), (9, .pointer (some ⟨g3, 0, none⟩)), (6, .pointer (some ⟨g1, 0, none⟩)), (4, .pointer (some ⟨g0, 0, none⟩)), (2, .int .i64 mv), (0, .int .i64 m)]) (sr_ (run_ 2 K rfl fun a K => nil_ (cf_ K rfl (decide_eq_false h2) (sr_ (run_ 2 K rfl fun a K => nil_ ?_))))) ?_
  · by_cases h3 : kd = 3
    · exact ct_ K rfl (decide_eq_true h3) (rg_ (run_ 1 K rfl fun a K => nbj_ ⟨rfl, fg_ (ks_ (i := 10) (ks_ (i := 11) K rfl (congrArg (Value.int .i64) (n7 (by omega)))) rfl (congrArg (Value.int .i64) (f3 (by omega)))) ⟨rfl, rfl, rfl, rfl, rfl, rfl, rfl, trivial⟩⟩))
    refine cf_ K rfl (decide_eq_false h3) (sr_ (run_ 2 K rfl fun a K => nil_ ?_))
    by_cases h4 : kd = 4
    · exact ct_ K rfl (decide_eq_true h4) (rg_ (run_ 5 K rfl fun a K => nbj_ ⟨rfl, fg_ (ks_ (i := 10) (ks_ (i := 11) K rfl (congrArg (Value.int .i64) (n7 (by omega)))) rfl (congrArg (Value.int .i64) (f4 h4))) ⟨rfl, rfl, rfl, rfl, rfl, rfl, rfl, trivial⟩⟩))
    exact cf_ K rfl (decide_eq_false h4) (sbj_ ⟨rfl, fg_ (ks_ (i := 10) (ks_ (i := 11) K rfl (congrArg (Value.int .i64) (n1 (k1 h3 h4)))) rfl (congrArg (Value.int .i64) (f3 h4))) ⟨rfl, rfl, rfl, rfl, rfl, rfl, rfl, trivial⟩⟩)
  clear K f3 f4 n7 n1 k1
  intro a K
  refine wp_seq (dseq_ fl rfl rfl M.drew (dp_ 5 16 [0, 2] K rfl rfl (by kernel_rfl) fun a K => dld_ 7 1 K M.drew 3 rfl rfl rfl rfl rfl rfl rfl rfl rfl (by kernel_rfl) fun a K => dc_ 15 3 K Try.func18 (by kernel_rfl) rfl rfl rfl rfl rfl rfl rfl (by kernel_rfl) ((len_on _ _).mono ?_)))
  rintro _ w2 ⟨rfl, b2⟩
  replace M := M.drew.call b2
  refine ⟨_, rfl, M, fun a K => dp_ 31 13 [4] K rfl rfl (by kernel_rfl) fun a K => ?_⟩
  by_cases A : ln 2001 m < d
  · rw [ua A]
    exact dp_ 262143 0 [5, 6, 7, 8, 9, 10, 11, 12, 13, 14, 15, 16, 17] (fx_ K (decide_eq_true A)) rfl rfl (by kernel_rfl) fun a K => dend_ (by kernel_rfl) (ct_ K rfl rfl (sr_ (val_ K rfl rfl rfl (run_b29z rfl) fun a K => stw_ K M 2 rfl G1 rfl rfl rfl rfl rfl rfl hz rfl rfl fun W hW M => run_ 1 K rfl fun a K => nil_ (retc2_ (k := 2) rfl K M rfl rfl rfl rfl rfl ⟨_, rfl, rulS_cs ⟨rfl, rfl, rfl, rfl, rfl, rfl⟩ (indS_nil _) (inlS_nil _) (inlS_nil _) rfl, rfl, M.bl⟩))))
  refine dp_ 255 10 [5, 6, 7] (fx_ K (decide_eq_false A)) rfl rfl (by kernel_rfl) fun a K => ?_
  by_cases B : f < 1
  · rw [ub B]
    exact dp_ 262143 0 [8, 9, 10, 11, 12, 13, 14, 15, 16, 17] (fx_ K (decide_eq_true B)) rfl rfl (by kernel_rfl) fun a K => dend_ (by kernel_rfl) (ct_ K rfl rfl (sr_ (val_ K rfl rfl rfl (run_b29z rfl) fun a K => stw_ K M 2 rfl G1 rfl rfl rfl rfl rfl rfl hz rfl rfl fun W hW M => run_ 1 K rfl fun a K => nil_ (retc2_ (k := 2) rfl K M rfl rfl rfl rfl rfl ⟨_, rfl, rulS_cs ⟨rfl, rfl, rfl, rfl, rfl, rfl⟩ (indS_nil _) (inlS_nil _) (inlS_nil _) rfl, rfl, M.bl⟩))))
  refine dp_ 32767 3 [8, 9, 10, 11, 12, 13, 14] (fx_ K (decide_eq_false B)) rfl rfl (by kernel_rfl) fun a K => dc_ 65535 15 K Try.func18 (by kernel_rfl) rfl rfl rfl rfl rfl rfl rfl (by kernel_rfl) ((len_on _ _).mono ?_)
  rintro _ w3 ⟨rfl, b3⟩
  replace M := M.call b3
  refine ⟨_, rfl, M, fun a K => dp_ 262143 0 [16, 17] K rfl rfl (by kernel_rfl) fun a K => dend_ (by kernel_rfl) ?_⟩
  by_cases C : ln 2001 m < f + n - 1
  · rw [uc C]
    exact ct_ K rfl (by rw [efn]; exact decide_eq_true C) (sr_ (val_ K rfl rfl rfl (run_b29z rfl) fun a K => stw_ K M 2 rfl G1 rfl rfl rfl rfl rfl rfl hz rfl rfl fun W hW M => run_ 1 K rfl fun a K => nil_ (retc2_ (k := 2) rfl K M rfl rfl rfl rfl rfl ⟨_, rfl, rulS_cs ⟨rfl, rfl, rfl, rfl, rfl, rfl⟩ (indS_nil _) (inlS_nil _) (inlS_nil _) rfl, rfl, M.bl⟩)))
  obtain ⟨y0, y1, y2⟩ := uy A B C
  rw [y0, if_pos rfl]
  refine cs_ K rfl (by rw [efn]; exact decide_eq_false C) (wp_seq (sr_ (run_ 2 K rfl fun a K => nil_ ?_)))
  by_cases hk : kd = 1
  · rw [if_pos hk]
    refine ct_ K rfl (decide_eq_true (hq1.1 hk)) (sr_ (run_ 1 K rfl fun a K => bsi_ K M rfl rfl rfl rfl rfl fun a g4 W G4 M K => run_ 1 K rfl fun a K => stc_ K M 1 rfl G3 rfl rfl rfl rfl rfl rfl (show 10 < 16 by decide) fun W hW M => nil_ (sr_ (lda_ K M 1 rfl rfl rfl rfl rfl rfl rfl rfl fun a K => stw_ K M 3 rfl G1 rfl rfl rfl rfl rfl rfl hz rfl rfl fun W hW M => run_ 1 K rfl fun a K => nil_ (retc2_ (k := 3) rfl K M rfl rfl rfl rfl rfl ⟨_, rfl, ?_, rfl, M.bl⟩)))))
    exact rulS_cs ⟨rfl, rfl, rfl, rfl, rfl, rfl⟩ (indS_nil _) (inlS_one (M.me 0 _ _ rfl)) (inlS_one (M.me 2 _ _ rfl)) rfl
  rw [if_neg hk]
  have c2 := fun (w : World) (R : InLS w (some (.slice (some ⟨g2, 0, none⟩) 1 1)) [m]) => (em24 (kw hk) mvb).symm ▸ seven_on (wk := (wk + mv) % 7) y1 y2 R
  refine cs_ K rfl (decide_eq_false (mt hq1.2 hk)) (sr_ (lda_ K M 0 rfl rfl rfl rfl rfl rfl rfl rfl fun a K => run_ 2 K rfl fun a K => ld_ K M 3 rfl rfl rfl rfl rfl rfl rfl rfl fun a K => run_ 5 K rfl fun a K => cl_ K Try.func19 (by kernel_rfl) rfl rfl rfl rfl rfl rfl ((c2 _ (inlS_one (M.me 1 _ _ rfl))).mono ?_)))
  rintro _ w4 ⟨cs, rfl, R4, o4, b4⟩
  replace M := M.call b4
  refine ⟨_, rfl, fun a K => stw_ K M 2 rfl G1 rfl rfl rfl rfl rfl rfl hz (R4 _ (Keep.refl _)).sz o4 fun W hW M2 => run_ 1 K rfl fun a K => nil_ (retc2_ (k := 2) rfl K M2 rfl rfl rfl rfl (R4 _ (Keep.refl _)).sz ⟨_, rfl, ?_, o4, M2.bl⟩)⟩
  subst hW
  exact rulS_mono ((em24 (kw hk) mvb) ▸ R4) (keep_row (M.me 2 _ _ rfl) _)
end Go.Proofs.Ytfinhaghgmnegaa.Pure
