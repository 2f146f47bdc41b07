/- A twin of a rule, as a contract. No condition beyond those each lemma names. -/
-- What some functions of the program compute: a text of this claim's own (lines first written by the kit's tool, some proved anew).
import Derived.Test.YtmhpmkbifhgnbaaMG22W2
import Derived.Test.YtmhpmkbifhgnbaaMOx3
import Derived.Test.YtmhpmkbifhgnbaaMMOx0
import Derived.Test.YtmhpmkbifhgnbaaMOx84
namespace Go.Proofs.Ytmhpmkbifhgnbaa.Pure
open Go.RowKit Go.Proofs.Ytmhpmkbifhgnbaa.O Go.Proofs.YtmhpmkbifhgnbaaW.PrintWords Go.Proofs.YtmhpmkbifhgnbaaW.PrintLast
open Go.Proofs.Ytmhpmkbifhgnbaa.Civ
set_option linter.unusedVariables false
set_option linter.unusedSimpArgs false
set_option maxRecDepth 100000
set_option maxHeartbeats 4000000
/-- A twin of a list: an own row. -/
theorem twin1_on {w : World} {A : Option Addr} {c : Nat} {l : List Int} (hk : Kd.C (Kd.int .i64) w A l.length l) (hc : l.length ≤ c) (hl : l.length ≤ 1000000000) :
    Calls Try.prog 32 #[.slice A l.length c] w fun e w' => ∃ A' c', e = .returned (.slice A' l.length c') ∧ Kd.R (Kd.int .i64) 3 w' w.heap.size (fun _ => True) (.slice A' l.length c') l ∧ Below w.heap.size w w' := by
  refine (solsticekeep_TwinInts.calls A c l l w hk hc (by unfold solsticekeep_TwinInts.f; rw [if_pos (by simp; omega)]; rfl)).mono ?_
  rintro e w' ⟨v, rfl, h, hb⟩
  obtain ⟨A', c', rfl, _⟩ := Kd.R_reads h
  exact ⟨A', c', rfl, h, hb⟩
theorem tw_inl {Ls : List (Value × List Int)} {b : Nat} {W : World} (h : Tw Ls b W) {v : Value} {l : List Int} {cs : Array Value} {i : Nat} (j : Nat) (hp : Ls[j]? = some (v, l)) (hc : cs[i]? = some v) : InL W cs[i]? l := by
  obtain ⟨A, c, e, h1, h2⟩ := Kd.R_reads (h _ (List.mem_of_getElem? hp))
  exact ⟨A, c, by rw [hc]; exact congrArg some e, h1, h2⟩
theorem twin_on {w : World} {cs : Array Value} {r : RR} (R : Rul w cs r) (hl : r.sec.length ≤ 1000000000 ∧ r.mi.length ≤ 1000000000 ∧ r.ho.length ≤ 1000000000 ∧ r.dy.length ≤ 1000000000 ∧ r.md.length ≤ 1000000000 ∧ r.yd.length ≤ 1000000000 ∧ r.wn.length ≤ 1000000000 ∧ r.mo.length ≤ 1000000000 ∧ r.sp.length ≤ 1000000000) :
    Calls Try.prog 10 #[.agg cs] w fun e w' => ∃ cs', e = .returned (.agg cs') ∧ Rul w' cs' r ∧ Below w.heap.size w w' := by
  obtain ⟨A6, k6, A7, k7, A8, k8, A9, k9, A10, k10, A11, k11, A12, k12, A13, k13, A14, k14, rfl, h6, h7, h8, h9, h10, h11, h12, h13, h14⟩ := rul_opens R
  obtain ⟨l6, l7, l8, l9, l10, l11, l12, l13, l14⟩ := hl
  have fl : Try.prog.follows .mixedOrders = true := by kernel_rfl
  refine en_ Try.func10 rfl rfl rfl fun a K => sr_ (bx_ K (On.nil w) rfl rfl rfl rfl rfl rfl fun a g1 W M K => al_ K M rfl rfl rfl rfl rfl fun a g2 W z hz G2 M K => nil_ (sr_ ?_))
  refine lda_ K M 1 rfl rfl rfl rfl rfl rfl rfl rfl fun a K => nwG_ K M rfl rfl rfl rfl rfl rfl rfl (fun _ => rfl) rfl rfl rfl fun a g3 W G3 M K => nil_ ?_
  -- what the loads read stays: the block of the argument
  obtain ⟨C1, hC⟩ : ∃ C, C = c16 r (.slice A6 r.sec.length k6) (.slice A7 r.mi.length k7) (.slice A8 r.ho.length k8) (.slice A9 r.dy.length k9) (.slice A10 r.md.length k10) (.slice A11 r.yd.length k11) (.slice A12 r.wn.length k12) (.slice A13 r.mo.length k13) (.slice A14 r.sp.length k14) := ⟨_, rfl⟩
  replace M : On [(g3, .cells (c16 r (.slice A6 r.sec.length k6) (.slice A7 r.mi.length k7) (.slice A8 r.ho.length k8) (.slice A9 r.dy.length k9) (.slice A10 r.md.length k10) (.slice A11 r.yd.length k11) (.slice A12 r.wn.length k12) (.slice A13 r.mo.length k13) (.slice A14 r.sp.length k14)) 25 (0, 0)), (g2, .cells z 25 (0, 0)), (g1, .cells C1 25 (0, 0))] w W := by rw [hC]; exact M
  have e6 : C1[6]? = some (.slice A6 r.sec.length k6) := by rw [hC]; rfl
  have e7 : C1[7]? = some (.slice A7 r.mi.length k7) := by rw [hC]; rfl
  have e8 : C1[8]? = some (.slice A8 r.ho.length k8) := by rw [hC]; rfl
  have e9 : C1[9]? = some (.slice A9 r.dy.length k9) := by rw [hC]; rfl
  have e10 : C1[10]? = some (.slice A10 r.md.length k10) := by rw [hC]; rfl
  have e11 : C1[11]? = some (.slice A11 r.yd.length k11) := by rw [hC]; rfl
  have e12 : C1[12]? = some (.slice A12 r.wn.length k12) := by rw [hC]; rfl
  have e13 : C1[13]? = some (.slice A13 r.mo.length k13) := by rw [hC]; rfl
  have e14 : C1[14]? = some (.slice A14 r.sp.length k14) := by rw [hC]; rfl
  have hS : ∀ {L : List (Nat × Obj)} {W : World} (k : Nat), L[k]? = some (g1, .cells C1 25 (0, 0)) → On L w W → W.heap[g1]? = some (.cells C1 25 (0, 0)) := fun k e M => M.me k _ _ e
  have ld : ∀ {W : World} {ρ : Operand → Value} {o : Oper} {x : Operand} {i : Nat} {v : Value}, C1[i]? = some v → okV 22 v = true → o.op = .load 22 x → ρ x = .pointer (some ⟨g1, i, none⟩) → W.heap[g1]? = some (.cells C1 25 (0, 0)) → (execOp ρ o).run Try.prog W = .ok (.value v) W := fun hc hv ho hx hb => run_ld hv ho hx ((blk_cell hb _).trans hc)
  refine dseq_ (S := fun W => W.heap[g1]? = some (.cells C1 25 (0, 0))) fl rfl rfl (hS 2 rfl M.drew) (dp_ 73 12 [0, 3, 6] K rfl rfl (by kernel_rfl) fun a K => dt_ 75 1 K (hS 2 rfl M.drew) rfl rfl rfl rfl (by kernel_rfl) (fun W hW => ld e6 rfl rfl (K.of (x := .tmp 5) rfl) hW) fun a K => dt_ 91 4 K (hS 2 rfl M.drew) rfl rfl rfl rfl (by kernel_rfl) (fun W hW => ld e7 rfl rfl (K.of (x := .tmp 8) rfl) hW) fun a K => dt_ 219 7 K (hS 2 rfl M.drew) rfl rfl rfl rfl (by kernel_rfl) (fun W hW => ld e8 rfl rfl (K.of (x := .tmp 11) rfl) hW) fun a K => dc_ 223 2 K Try.func32 (by kernel_rfl) rfl rfl rfl rfl rfl rfl rfl (by kernel_rfl) ((twin1_on (Kd.C_below h6.2 M.drew.bl) h6.1 l6).mono ?_))
  rintro _ w1 ⟨B6, q6, rfl, t6, b1⟩
  have u1 : w.heap.size ≤ W.drew.heap.size := M.drew.bl.size
  replace M := M.drew.call b1
  have T := Tw.cons (Ls := []) (b := w.heap.size) (fun p hp => absurd hp List.not_mem_nil) t6 u1
  refine ⟨_, rfl, hS 2 rfl M, fun a K => dp_ 735 7 [9] K rfl rfl (by kernel_rfl) fun a K => dc_ 767 5 K Try.func32 (by kernel_rfl) rfl rfl rfl rfl rfl rfl rfl (by kernel_rfl) ((twin1_on (Kd.C_below h7.2 M.bl) h7.1 l7).mono ?_)⟩
  rintro _ w2 ⟨B7, q7, rfl, t7, b2⟩
  replace T := (T.below b2).cons t7 M.bl.size
  replace M := M.call b2
  refine ⟨_, rfl, hS 2 rfl M, fun a K => dc_ 1023 8 K Try.func32 (by kernel_rfl) rfl rfl rfl rfl rfl rfl rfl (by kernel_rfl) ((twin1_on (Kd.C_below h8.2 M.bl) h8.1 l8).mono ?_)⟩
  rintro _ w3 ⟨B8, q8, rfl, t8, b3⟩
  replace T := (T.below b3).cons t8 M.bl.size
  replace M := M.call b3
  refine ⟨_, rfl, hS 2 rfl M, fun a K => dst_ 2047 10 K M 0 rfl rfl G3 rfl rfl rfl rfl rfl rfl (Nat.le_of_ble_eq_true rfl) (by kernel_rfl) (fun W M => hS 2 rfl M) fun W hW M2 => dp_ 4095 3 [11] K rfl rfl (by kernel_rfl) fun a K => ?_⟩
  subst hW
  replace T := T.set (M.me 0 _ _ rfl) (by decide) 6 (.slice B6 r.sec.length q6)
  replace M := M2
  refine dst_ 8191 12 K M 0 rfl rfl G3 rfl rfl rfl rfl rfl rfl (Nat.le_of_ble_eq_true rfl) (by kernel_rfl) (fun W M => hS 2 rfl M) fun W hW M2 => dp_ 16383 1 [13] K rfl rfl (by kernel_rfl) fun a K => ?_
  subst hW
  replace T := T.set (M.me 0 _ _ rfl) (by decide) 7 (.slice B7 r.mi.length q7)
  replace M := M2
  refine dst_ 32767 14 K M 0 rfl rfl G3 rfl rfl rfl rfl rfl rfl (Nat.le_of_ble_eq_true rfl) (by kernel_rfl) (fun W M => hS 2 rfl M) fun W hW M2 => dend_ (by kernel_rfl) ?_
  subst hW
  replace T := T.set (M.me 0 _ _ rfl) (by decide) 8 (.slice B8 r.ho.length q8)
  replace M : On [(g3, .cells (c16 r (.slice B6 r.sec.length q6) (.slice B7 r.mi.length q7) (.slice B8 r.ho.length q8) (.slice A9 r.dy.length k9) (.slice A10 r.md.length k10) (.slice A11 r.yd.length k11) (.slice A12 r.wn.length k12) (.slice A13 r.mo.length k13) (.slice A14 r.sp.length k14)) 25 (0, 0)), (g2, .cells z 25 (0, 0)), (g1, .cells C1 25 (0, 0))] w _ := M2
  refine dseq_ (S := fun W => W.heap[g1]? = some (.cells C1 25 (0, 0))) fl rfl rfl (hS 2 rfl M.drew) (dp_ 73 12 [0, 3, 6] K rfl rfl (by kernel_rfl) fun a K => dt_ 75 1 K (hS 2 rfl M.drew) rfl rfl rfl rfl (by kernel_rfl) (fun W hW => ld e10 rfl rfl (K.of (x := .tmp 17) rfl) hW) fun a K => dt_ 91 4 K (hS 2 rfl M.drew) rfl rfl rfl rfl (by kernel_rfl) (fun W hW => ld e11 rfl rfl (K.of (x := .tmp 20) rfl) hW) fun a K => dt_ 219 7 K (hS 2 rfl M.drew) rfl rfl rfl rfl (by kernel_rfl) (fun W hW => ld e12 rfl rfl (K.of (x := .tmp 23) rfl) hW) fun a K => dc_ 223 2 K Try.func32 (by kernel_rfl) rfl rfl rfl rfl rfl rfl rfl (by kernel_rfl) ((twin1_on (Kd.C_below h10.2 M.drew.bl) h10.1 l10).mono ?_))
  rintro _ w4 ⟨B10, q10, rfl, t10, b4⟩
  replace T := (T.drew.below b4).cons t10 M.drew.bl.size
  replace M := M.drew.call b4
  refine ⟨_, rfl, hS 2 rfl M, fun a K => dp_ 735 7 [9] K rfl rfl (by kernel_rfl) fun a K => dc_ 767 5 K Try.func32 (by kernel_rfl) rfl rfl rfl rfl rfl rfl rfl (by kernel_rfl) ((twin1_on (Kd.C_below h11.2 M.bl) h11.1 l11).mono ?_)⟩
  rintro _ w5 ⟨B11, q11, rfl, t11, b5⟩
  replace T := (T.below b5).cons t11 M.bl.size
  replace M := M.call b5
  refine ⟨_, rfl, hS 2 rfl M, fun a K => dc_ 1023 8 K Try.func32 (by kernel_rfl) rfl rfl rfl rfl rfl rfl rfl (by kernel_rfl) ((twin1_on (Kd.C_below h12.2 M.bl) h12.1 l12).mono ?_)⟩
  rintro _ w6 ⟨B12, q12, rfl, t12, b6⟩
  replace T := (T.below b6).cons t12 M.bl.size
  replace M := M.call b6
  refine ⟨_, rfl, hS 2 rfl M, fun a K => dst_ 2047 10 K M 0 rfl rfl G3 rfl rfl rfl rfl rfl rfl (Nat.le_of_ble_eq_true rfl) (by kernel_rfl) (fun W M => hS 2 rfl M) fun W hW M2 => dp_ 4095 3 [11] K rfl rfl (by kernel_rfl) fun a K => ?_⟩
  subst hW
  replace T := T.set (M.me 0 _ _ rfl) (by decide) 10 (.slice B10 r.md.length q10)
  replace M := M2
  refine dst_ 8191 12 K M 0 rfl rfl G3 rfl rfl rfl rfl rfl rfl (Nat.le_of_ble_eq_true rfl) (by kernel_rfl) (fun W M => hS 2 rfl M) fun W hW M2 => dp_ 16383 1 [13] K rfl rfl (by kernel_rfl) fun a K => ?_
  subst hW
  replace T := T.set (M.me 0 _ _ rfl) (by decide) 11 (.slice B11 r.yd.length q11)
  replace M := M2
  refine dst_ 32767 14 K M 0 rfl rfl G3 rfl rfl rfl rfl rfl rfl (Nat.le_of_ble_eq_true rfl) (by kernel_rfl) (fun W M => hS 2 rfl M) fun W hW M2 => dend_ (by kernel_rfl) ?_
  subst hW
  replace T := T.set (M.me 0 _ _ rfl) (by decide) 12 (.slice B12 r.wn.length q12)
  replace M : On [(g3, .cells (c16 r (.slice B6 r.sec.length q6) (.slice B7 r.mi.length q7) (.slice B8 r.ho.length q8) (.slice A9 r.dy.length k9) (.slice B10 r.md.length q10) (.slice B11 r.yd.length q11) (.slice B12 r.wn.length q12) (.slice A13 r.mo.length k13) (.slice A14 r.sp.length k14)) 25 (0, 0)), (g2, .cells z 25 (0, 0)), (g1, .cells C1 25 (0, 0))] w _ := M2
  refine dseq_ (S := fun W => W.heap[g1]? = some (.cells C1 25 (0, 0))) fl rfl rfl (hS 2 rfl M.drew) (dp_ 9 10 [0, 3] K rfl rfl (by kernel_rfl) fun a K => dt_ 11 1 K (hS 2 rfl M.drew) rfl rfl rfl rfl (by kernel_rfl) (fun W hW => ld e13 rfl rfl (K.of (x := .tmp 29) rfl) hW) fun a K => dt_ 27 4 K (hS 2 rfl M.drew) rfl rfl rfl rfl (by kernel_rfl) (fun W hW => ld e14 rfl rfl (K.of (x := .tmp 32) rfl) hW) fun a K => dc_ 31 2 K Try.func32 (by kernel_rfl) rfl rfl rfl rfl rfl rfl rfl (by kernel_rfl) ((twin1_on (Kd.C_below h13.2 M.drew.bl) h13.1 l13).mono ?_))
  rintro _ w7 ⟨B13, q13, rfl, t13, b7⟩
  replace T := (T.drew.below b7).cons t13 M.drew.bl.size
  replace M := M.drew.call b7
  refine ⟨_, rfl, hS 2 rfl M, fun a K => dp_ 95 6 [6] K rfl rfl (by kernel_rfl) fun a K => dc_ 127 5 K Try.func32 (by kernel_rfl) rfl rfl rfl rfl rfl rfl rfl (by kernel_rfl) ((twin1_on (Kd.C_below h14.2 M.bl) h14.1 l14).mono ?_)⟩
  rintro _ w8 ⟨B14, q14, rfl, t14, b8⟩
  replace T := (T.below b8).cons t14 M.bl.size
  replace M := M.call b8
  refine ⟨_, rfl, hS 2 rfl M, fun a K => dst_ 255 7 K M 0 rfl rfl G3 rfl rfl rfl rfl rfl rfl (Nat.le_of_ble_eq_true rfl) (by kernel_rfl) (fun W M => hS 2 rfl M) fun W hW M2 => dp_ 511 3 [8] K rfl rfl (by kernel_rfl) fun a K => ?_⟩
  subst hW
  replace T := T.set (M.me 0 _ _ rfl) (by decide) 13 (.slice B13 r.mo.length q13)
  replace M := M2
  refine dst_ 1023 9 K M 0 rfl rfl G3 rfl rfl rfl rfl rfl rfl (Nat.le_of_ble_eq_true rfl) (by kernel_rfl) (fun W M => hS 2 rfl M) fun W hW M2 => dp_ 2047 1 [10] K rfl rfl (by kernel_rfl) fun a K => ?_
  subst hW
  replace T := T.set (M.me 0 _ _ rfl) (by decide) 14 (.slice B14 r.sp.length q14)
  replace M := M2
  refine dst_ 4095 11 K M 0 rfl rfl G3 rfl rfl rfl rfl rfl rfl (Nat.le_of_ble_eq_true rfl) (by kernel_rfl) (fun W M => hS 2 rfl M) fun W hW M2 => dend_ (by kernel_rfl) ?_
  subst hW
  replace T := T.set (M.me 0 _ _ rfl) (by decide) 9 (.slice none 0 0)
  replace M : On [(g3, .cells (c16 r (.slice B6 r.sec.length q6) (.slice B7 r.mi.length q7) (.slice B8 r.ho.length q8) (.slice none 0 0) (.slice B10 r.md.length q10) (.slice B11 r.yd.length q11) (.slice B12 r.wn.length q12) (.slice B13 r.mo.length q13) (.slice B14 r.sp.length q14)) 25 (0, 0)), (g2, .cells z 25 (0, 0)), (g1, .cells C1 25 (0, 0))] w _ := M2
  refine sr_ (run_ 1 K rfl fun a K => ld_ K M 0 rfl rfl rfl rfl rfl rfl rfl rfl fun a K => run_ 1 K rfl fun a K => ld_ K M 2 rfl rfl rfl rfl rfl rfl e9 rfl fun a K => ?_)
  refine ap_ (k := k47) (t := 23) (e := 47) K M rfl rfl rfl rfl Try.underlying23 info47 rfl (by decide) (by decide) rfl rfl (Kd.R_nil _ _ _ _ _) (Kd.C_below h9.2 M.bl) (fun x cs h => by rw [k47_open h]; exact k47_mkM _ _ _ x) (fun p _ q => nomatch (show some p.1 = none from q)) (by simp; omega) fun a v9 w9 g9 R9 M9 F9 K => ?_
  replace T := T.grown g9
  replace M := M9
  obtain ⟨B9, q9, rfl, s9, t9⟩ := Kd.R_reads R9
  refine run_ 1 K rfl fun a K => stc_ K M 0 rfl G3 rfl rfl rfl rfl rfl rfl (Nat.le_of_ble_eq_true rfl) fun W hW M2 => nil_ ?_
  subst hW
  replace T := T.set (M.me 0 _ _ rfl) (by decide) 9 (.slice B9 ([] ++ r.dy).length q9)
  replace R9 := Kd.R_set R9 (M.me 0 _ _ rfl) (fun q hq => by simp [k47, Kd.iso, Kd.pair, Kd.int, Kd.scalar] at hq; omega) 9 (.slice B9 ([] ++ r.dy).length q9)
  replace M : On [(g3, .cells (c16 r (.slice B6 r.sec.length q6) (.slice B7 r.mi.length q7) (.slice B8 r.ho.length q8) (.slice B9 ([] ++ r.dy).length q9) (.slice B10 r.md.length q10) (.slice B11 r.yd.length q11) (.slice B12 r.wn.length q12) (.slice B13 r.mo.length q13) (.slice B14 r.sp.length q14)) 25 (0, 0)), (g2, .cells z 25 (0, 0)), (g1, .cells C1 25 (0, 0))] w _ := M2
  refine sr_ (lda_ K M 0 rfl rfl rfl rfl rfl rfl rfl rfl fun a K => stw_ K M 1 rfl G2 rfl rfl rfl rfl rfl rfl hz rfl rfl fun W hW M2 => nil_ ?_)
  subst hW
  have T2 := T.row (M.me 1 _ _ rfl) (by decide) (c16 r (.slice B6 r.sec.length q6) (.slice B7 r.mi.length q7) (.slice B8 r.ho.length q8) (.slice B9 ([] ++ r.dy).length q9) (.slice B10 r.md.length q10) (.slice B11 r.yd.length q11) (.slice B12 r.wn.length q12) (.slice B13 r.mo.length q13) (.slice B14 r.sp.length q14))
  have R2 := Kd.R_mono (Kd.R_move (Kd.R_types R9 (M.me 1 _ _ rfl) (fun q hq => by simp [k47, Kd.iso, Kd.pair, Kd.int, Kd.scalar] at hq; omega)) (fun k hk => setRow_other _ g2 k (c16 r (.slice B6 r.sec.length q6) (.slice B7 r.mi.length q7) (.slice B8 r.ho.length q8) (.slice B9 ([] ++ r.dy).length q9) (.slice B10 r.md.length q10) (.slice B11 r.yd.length q11) (.slice B12 r.wn.length q12) (.slice B13 r.mo.length q13) (.slice B14 r.sp.length q14)) hk.2)) (fun _ hk => hk.1)
  obtain ⟨B, q, e, s, t⟩ := Kd.R_reads R2
  refine retc_ (k := 1) rfl K M2 rfl rfl rfl rfl ⟨_, rfl, ⟨rfl, rfl, rfl, rfl, rfl, rfl, rfl, tw_inl T2 7 rfl rfl, tw_inl T2 6 rfl rfl, tw_inl T2 5 rfl rfl, ⟨B, q, congrArg some e, s, t⟩, tw_inl T2 4 rfl rfl, tw_inl T2 3 rfl rfl, tw_inl T2 2 rfl rfl, tw_inl T2 1 rfl rfl, tw_inl T2 0 rfl rfl, rfl⟩, M2.bl⟩
end Go.Proofs.Ytmhpmkbifhgnbaa.Pure

namespace Go.Proofs.Ytmhpmkbifhgnbaa.O
open Go.RowKit Go.Proofs.YtmhpmkbifhgnbaaW.PrintWords Go.Proofs.YtmhpmkbifhgnbaaW.PrintLast Go.Proofs.YtmhpmkbifhgnbaaW.PrintMore
attribute [local go_sem] max2_int min2_int max_two min_two max_three min_three max_four min_four   -- for this text's walks alone
set_option linter.unusedVariables false
set_option linter.unusedSimpArgs false

/-! ### solsticeref01_Number: function 45 -/
def solsticeref01_Number.l0 : Nat → Int → Int → Int → Int → Int → Int → Option (Int)
  | 0, _, _, _, _, _, _ => none
  | k + 1, x3, x4, x5, x331000, x331001, x331002 => if x5 < x331001 then ((solsticeref01_Len.f k x3 x5).bind fun t331 => (solsticeref01_Number.l0 k x3 (wrap64 (x4 + t331)) (wrap64 (x5 + 1)) x331000 x331001 x331002)) else (some (wrap64 ((wrap64 ((wrap64 (x4 + x331002)) - 1)) - 719528)))
def solsticeref01_Number.f (k : Nat) (a0_0 : Int) (a0_1 : Int) (a0_2 : Int) : Option (Int) := solsticeref01_Number.l0 k a0_0 (wrap64 ((wrap64 ((wrap64 ((wrap64 (365 * a0_0)) + (wrap64 (Int.tdiv (wrap64 (a0_0 + 3)) 4)))) - (wrap64 (Int.tdiv (wrap64 (a0_0 + 99)) 100)))) + (wrap64 (Int.tdiv (wrap64 (a0_0 + 399)) 400)))) 1 a0_0 a0_1 a0_2
theorem solsticeref01_Number.mono_l : ∀ k, (∀ y0 y1 y2 y3 y4 y5, LeO (solsticeref01_Number.l0 k y0 y1 y2 y3 y4 y5) (solsticeref01_Number.l0 (k + 1) y0 y1 y2 y3 y4 y5))
  | 0 => fun _ _ _ _ _ _ r h => by simp [solsticeref01_Number.l0] at h
  | k + 1 => by
    have ih0 := solsticeref01_Number.mono_l k
    · intro y0 y1 y2 y3 y4 y5
      unfold solsticeref01_Number.l0
      repeat' first
      | (with_reducible exact ih0 _ _ _ _ _ _)
      | (with_reducible exact solsticeref01_Len.mono _ _ _)
      | (with_reducible exact LeO.refl _)
      | (with_reducible exact LeO.none _)
      | (with_reducible refine LeO.ite ?_ ?_)
      | (with_reducible refine LeO.bind ?_ (fun _ => ?_))
      | exact ih0 _ _ _ _ _ _
      | exact solsticeref01_Len.mono _ _ _
      | exact LeO.none _
      | refine LeO.ite ?_ ?_
      | refine LeO.bind ?_ (fun _ => ?_)
theorem solsticeref01_Number.mono : ∀ a0 a1 a2 k, LeO (solsticeref01_Number.f k a0 a1 a2) (solsticeref01_Number.f (k + 1) a0 a1 a2) := by
  intro a0 a1 a2 k
  have ih0 := solsticeref01_Number.mono_l k
  unfold solsticeref01_Number.f
  repeat' first
      | (with_reducible exact ih0 _ _ _ _ _ _)
      | (with_reducible exact solsticeref01_Len.mono _ _ _)
      | (with_reducible exact LeO.refl _)
      | (with_reducible exact LeO.none _)
      | (with_reducible refine LeO.ite ?_ ?_)
      | (with_reducible refine LeO.bind ?_ (fun _ => ?_))
      | exact ih0 _ _ _ _ _ _
      | exact solsticeref01_Len.mono _ _ _
      | exact LeO.none _
      | refine LeO.ite ?_ ?_
      | refine LeO.bind ?_ (fun _ => ?_)
set_option maxHeartbeats 8000000 in
set_option maxRecDepth 100000 in
theorem solsticeref01_Number.calls (k : Nat) (a0_0 : Int) (a0_1 : Int) (a0_2 : Int) (r : Int) (w : World) (h : solsticeref01_Number.f k a0_0 a0_1 a0_2 = some r) :
    Calls Try.prog 45 #[.agg #[.int .i64 a0_0, .int .i64 a0_1, .int .i64 a0_2]] w fun e w' => e = .returned (.int .i64 r) ∧ Below w.heap.size w w' := by
  have hu39 := Try.underlying39
  have HB := Aside0.mk (Below.refl w.heap.size w)
  have H : (solsticeref01_Number.l0 k a0_0 (wrap64 ((wrap64 ((wrap64 ((wrap64 (365 * a0_0)) + (wrap64 (Int.tdiv (wrap64 (a0_0 + 3)) 4)))) - (wrap64 (Int.tdiv (wrap64 (a0_0 + 99)) 100)))) + (wrap64 (Int.tdiv (wrap64 (a0_0 + 399)) 400)))) 1 a0_0 a0_1 a0_2) = some r := h
  clear h
  have H' := Aside0.mk H
  clear H
  go_enter Try.func45, Try.ntmps45
  go_wp2_with (first | ((with_reducible refine gate_dst (N := 1) rfl ?_); refine box_event ?hg (N := 1) ?hd (cs := #[.int .i64 a0_0, .int .i64 a0_1, .int .i64 a0_2]) (t := 39) ?hr ?_; (case hd => rfl); (case hg => rfl); (case hr => first | (go_simp; done) | (go_simp; rfl)); intro gb330 hg w2 hbox hb; have n0_ := Aside0.mk (below_step (by repeat (first | (with_reducible first | exact HB.out | apply below_alloc | apply pw_below_drewN | apply below_drew1) | exact HB.out)) hb); have n1_ := Aside0.mk (hbox); have n2_ := Aside0.mk ((by rw [hg]; exact (below_size (by repeat (first | (with_reducible first | exact HB.out | apply below_alloc | apply pw_below_drewN | apply below_drew1) | exact HB.out))) : w.heap.size ≤ gb330)); have n3_ := Aside0.mk ((by rw [hg]; exact (below_size (by repeat (first | (with_reducible first | exact HB.out | apply below_alloc | apply pw_below_drewN | apply below_drew1) | exact HB.out))) : w.heap.size ≤ gb330)); clear HB; have HB := n0_; have BK330 := n1_; have GW330 := n2_; have GE330 := n3_; clear n0_ n1_ n2_ n3_; clear hb hbox hg; have hcz3_0 : w2.cell? ⟨gb330, 0, none⟩ = some (.int .i64 a0_0) := (blk_cell BK330.out 0).trans rfl; have hcz3_1 : w2.cell? ⟨gb330, 1, none⟩ = some (.int .i64 a0_1) := (blk_cell BK330.out 1).trans rfl; have hcz3_2 : w2.cell? ⟨gb330, 2, none⟩ = some (.int .i64 a0_2) := (blk_cell BK330.out 2).trans rfl; have hfz3_0 := blk_frozen BK330.out 0; have hfz3_1 := blk_frozen BK330.out 1; have hfz3_2 := blk_frozen BK330.out 2))
  go_loopg [4, 5] k (fun kq v4 v5 w' => ∃ (x4_1 : Int) (x5_1 : Int), v4 = .int .i64 x4_1 ∧ v5 = .int .i64 x5_1 ∧ Aside0 (solsticeref01_Number.l0 kq a0_0 x4_1 x5_1 a0_0 a0_1 a0_2 = some r) ∧ Aside0 (kq ≤ k) ∧ Aside0 (w'.heap[gb330]? = some (.cells #[.int .i64 a0_0, .int .i64 a0_1, .int .i64 a0_2] 39 (0, 0))) ∧ Aside0 (Below w.heap.size w w'))
  case atStart => exact ⟨(wrap64 ((wrap64 ((wrap64 ((wrap64 (365 * a0_0)) + (wrap64 (Int.tdiv (wrap64 (a0_0 + 3)) 4)))) - (wrap64 (Int.tdiv (wrap64 (a0_0 + 99)) 100)))) + (wrap64 (Int.tdiv (wrap64 (a0_0 + 399)) 400)))), (1), (by first | rfl | (simp; done) | (simp [*]; done)), (by first | rfl | (simp; done) | (simp [*]; done)), H', ⟨Nat.le_refl _⟩, ⟨by (with_reducible repeat (first | refine blk_drewN ?_ _ | refine blk_drew ?_ | refine blk_alloc ?_ _)); exact BK330.out⟩, ⟨by repeat (first | (with_reducible first | exact HB.out | apply below_alloc | apply pw_below_drewN | apply below_drew1 | refine below_set ?_ GE330.out) | exact HB.out)⟩⟩
  case round =>
    clear H'
    try clear p2
    try clear hcz3_0
    try clear hcz3_1
    try clear hcz3_2
    try clear hfz3_0
    try clear hfz3_1
    try clear hfz3_2
    obtain ⟨x4_1, x5_1, rfl, rfl, HA, HK1, BK330, HB⟩ := hrel
    cases gk with
    | zero => exact absurd HA.out (by simp [solsticeref01_Number.l0])
    | succ k1 =>
      have H := HA.out
      clear HA
      simp only [solsticeref01_Number.l0] at H
      by_cases c4 : x5_1 < a0_1
      · rw [if_pos c4] at H
        have c4b0 : decide (x5_1 < a0_1) = true := decide_eq_true c4
        clear c4
        replace H := Option.bind_eq_some_iff.mp H
        obtain ⟨t331, A50, H⟩ := H
        replace H : (solsticeref01_Number.l0 k1 a0_0 (wrap64 (x4_1 + t331)) (wrap64 (x5_1 + 1)) a0_0 a0_1 a0_2) = some r := H
        have A5 := Aside0.mk A50
        clear A50
        have H' := Aside0.mk H
        clear H
        have hcz6_0 : wr.cell? ⟨gb330, 0, none⟩ = some (.int .i64 a0_0) := (blk_cell BK330.out 0).trans rfl
        have hcz6_1 : wr.cell? ⟨gb330, 1, none⟩ = some (.int .i64 a0_1) := (blk_cell BK330.out 1).trans rfl
        have hcz6_2 : wr.cell? ⟨gb330, 2, none⟩ = some (.int .i64 a0_2) := (blk_cell BK330.out 2).trans rfl
        have hfz6_0 := blk_frozen BK330.out 0
        have hfz6_1 := blk_frozen BK330.out 1
        have hfz6_2 := blk_frozen BK330.out 2
        go_wp2_with (first | ((with_reducible refine gate_callee (f := 24) rfl ?_); refine goesL_ (some 31) rfl rfl Try.func24 (by kernel_rfl) rfl #[.int .i64 a0_0, .int .i64 x5_1] rfl (by (try simp only [List.map_toArray, List.map_cons, List.map_nil]); first | done | rfl | (simp only [List.length_drop, List.length_take]; rfl)) ?_; (with_reducible refine (solsticeref01_Len.calls k1 a0_0 x5_1 t331 _ A5.out).mono ?_); rintro e w' ⟨rfl, ⟨nd, rfl⟩⟩; refine ⟨_, rfl, ?_⟩))
        go_roundg k1
        case measure => have := HK1.out; omega
        case rel => exact ⟨(wrap64 (x4_1 + t331)), (wrap64 (x5_1 + 1)), (by first | rfl | (simp; done) | (simp [*]; done)), (by first | rfl | (simp; done) | (simp [*]; done)), H', ⟨by have := HK1.out; omega⟩, ⟨by (with_reducible repeat (first | refine blk_drewN ?_ _ | refine blk_drew ?_ | refine blk_alloc ?_ _)); exact BK330.out⟩, ⟨by repeat (first | (with_reducible first | exact HB.out | apply below_alloc | apply pw_below_drewN | apply below_drew1 | refine below_set ?_ GE330.out) | exact HB.out)⟩⟩
      · rw [if_neg c4] at H
        have c4b0 : decide (x5_1 < a0_1) = false := decide_eq_false c4
        clear c4
        obtain rfl := Option.some.inj H
        have hcz7_0 : wr.cell? ⟨gb330, 0, none⟩ = some (.int .i64 a0_0) := (blk_cell BK330.out 0).trans rfl
        have hcz7_1 : wr.cell? ⟨gb330, 1, none⟩ = some (.int .i64 a0_1) := (blk_cell BK330.out 1).trans rfl
        have hcz7_2 : wr.cell? ⟨gb330, 2, none⟩ = some (.int .i64 a0_2) := (blk_cell BK330.out 2).trans rfl
        have hfz7_0 := blk_frozen BK330.out 0
        have hfz7_1 := blk_frozen BK330.out 1
        have hfz7_2 := blk_frozen BK330.out 2
        go_wp2
        go_ret
        exact ⟨by first | rfl | (simp [errW_none, errW_some] <;> rfl) | (simp [*, errW_none, errW_some] <;> rfl), by repeat (first | (with_reducible first | exact HB.out | apply below_alloc | apply pw_below_drewN | apply below_drew1 | refine below_set ?_ GE330.out) | exact HB.out)⟩

end Go.Proofs.Ytmhpmkbifhgnbaa.O
