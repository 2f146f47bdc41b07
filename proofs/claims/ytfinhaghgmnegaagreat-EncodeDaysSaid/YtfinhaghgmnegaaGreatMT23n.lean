/- A worker that goes through all periods, as a contract. No condition beyond those each lemma names. -/
/- A rule's times, and the last one, as contracts. No condition beyond those each lemma names. -/
import Derived.Test.YtfinhaghgmnegaaGreatT23k
namespace Go.Proofs.YtfinhaghgmnegaaGreat.Pure
open Go.RowKit Go.Proofs.YtfinhaghgmnegaaGreat.O Go.Proofs.YtfinhaghgmnegaaGreatW.PrintWords Go.Proofs.YtfinhaghgmnegaaGreatW.PrintLast
open Go.Proofs.YtfinhaghgmnegaaGreat.Civ
set_option linter.unusedVariables false
set_option linter.unusedSimpArgs false
set_option maxRecDepth 100000
set_option maxHeartbeats 4000000
instance (Q Q2 : Exit → Act → World → Prop) [h : ExTo Q 0 Q2] : ExTo (Exit.inBlock 1 Q) 0 Q2 := ⟨fun a w k => by unfold Exit.inBlock; simpa using h.go a w k⟩
/-- How a worker ends. -/
def WPost (L : List (Nat × Obj)) (w0 : World) (gw gm : Nat) (r : RR) (s : Sl) (st from_ to_ F : Int) (T : Option St) (e : Ending) (W' : World) : Prop := match T with
  | none => e = .returned (.bool false) ∧ Below w0.heap.size w0 W'
  | some S' => e = .returned (.bool true) ∧ WS L w0 gw gm r s st from_ to_ F S' W'
/-- The fuel that is left. -/
def fuelW (gm : Nat) (F : Int) (W : World) : Nat := match W.cell? ⟨gm, 0, none⟩ with | some (.int _ x) => (F + 1 - x).toNat | _ => 0
theorem fuelW_ {L : List (Nat × Obj)} {w0 W : World} {gw gm : Nat} {r : RR} {s : Sl} {st from_ to_ F : Int} {S : St} (H : WS L w0 gw gm r s st from_ to_ F S W) : fuelW gm F W = (F + 1 - S.sp).toNat := by
  obtain ⟨v, M, _, _⟩ := H
  have := M.cell (k := 1) rfl 0
  unfold fuelW
  rw [this]
  rfl
theorem works_on {L : List (Nat × Obj)} {w0 W : World} {gw gm : Nat} {r : RR} {s : Sl} {st from_ to_ F : Int} {S : St} (H : WS L w0 gw gm r s st from_ to_ F S W) (R : Rul w0 (rc r s) r) (h : Right r) (hw : Few r) (G : w0.heap.size ≤ gw) (Gm : w0.heap.size ≤ gm) (hst : InT st) (hF : 0 ≤ F) (hF' : F ≤ 200000) (hS : Tame F S) :
    Calls Tryz.prog 30 #[.pointer (some ⟨gw, 0, none⟩)] W (WPost L w0 gw gm r s st from_ to_ F (if (beginV r st from_).2 = true then worksV r st from_ to_ F (F.toNat + 2) (beginV r st from_).1 S else some S)) := by
  obtain ⟨v, M, Rv, Fv⟩ := H
  have iv := h.iv
  refine en_ Tryz.func30 rfl rfl rfl fun a K => sr_ (run_ 1 K rfl fun a K => nil_ (sr_ (run_ 1 K rfl fun a K => cl_ K Tryz.func49 (by kernel_rfl) rfl rfl rfl rfl rfl rfl ((begins_on M rfl (R.below M.bl) h hst).mono ?_))))
  rintro _ W1 ⟨rfl, b1⟩
  replace M := M.call b1
  replace Rv := Kd.R_below Rv b1
  refine ⟨_, rfl, fun a K => run_ 5 K rfl fun a K => nil_ ?_⟩
  have H : WS L w0 gw gm r s st from_ to_ F S W1 := ⟨v, M, Rv, Fv⟩
  clear M Rv Fv b1
  generalize (beginV r st from_).1 = p0 at K ⊢
  generalize (beginV r st from_).2 = b0 at K ⊢
  obtain ⟨T, hT⟩ : ∃ T, T = if b0 = true then worksV r st from_ to_ F (F.toNat + 2) p0 S else some S := ⟨_, rfl⟩
  rw [← hT]
  refine wp_seq (wp_block (wp_loop (fun a W => ∃ (k : Nat) (p : Int) (S' : St), Tame F S' ∧ (F - S'.sp).toNat < k ∧ T = (if b0 = true then worksV r st from_ to_ F k p S' else some S') ∧ Kn 43 [(3, .int .i64 p), (4, .bool b0), (0, .pointer (some ⟨gw, 0, none⟩))] a ∧ WS L w0 gw gm r s st from_ to_ F S' W) (fun _ W => fuelW gm F W) ⟨F.toNat + 2, p0, S, hS, by obtain ⟨q1, q2, _⟩ := hS; omega, hT, fg_ K ⟨rfl, rfl, rfl, trivial⟩, H⟩ ?_))
  clear K H hT hS
  rintro a W ⟨k, p, S', hS, hk, hT, K, H⟩
  refine wp_seq (sr_ (run_ 1 K rfl fun a2 K2 => nil_ ?_))
  cases b0 with
  | false =>
    rw [if_neg (by decide)] at hT
    exact cf_ K2 rfl rfl (ex_ (thn_ (sr_ (run_ 1 K2 rfl fun a K => nil_ (ret_ rfl K rfl (by rw [hT]; exact ⟨rfl, H⟩))))))
  | true =>
  rw [if_pos rfl] at hT
  obtain ⟨k, rfl⟩ : ∃ k', k = k' + 1 := ⟨k - 1, by omega⟩
  unfold worksV at hT
  have fu := fuelW_ H
  obtain ⟨v, M, Rv, Fv⟩ := H
  refine ck_ K2 rfl rfl (wp_seq (bjn_ (fun a' W' => ∃ S2, stepV r st from_ to_ F S' (spanV r p).1 (spanV r p).2.1 = some S2 ∧ (spanV r p).2.2 = 0 ∧ T = worksV r st from_ to_ F k (p + r.iv) S2 ∧ Kn 43 [(3, .int .i64 p), (4, .bool true), (0, .pointer (some ⟨gw, 0, none⟩))] a' ∧ WS L w0 gw gm r s st from_ to_ F S2 W') (sr_ (run_ 3 K2 rfl fun a K => ldr_ K M 0 rfl rfl rfl rfl rfl rfl fun a K => run_ 1 K rfl fun a K => cl_ K Tryz.func50 (by kernel_rfl) rfl rfl rfl rfl rfl rfl ((Span_on (R.below M.bl) h p).mono ?_))) ?_))
  case refine_2 =>
    rintro a' W' ⟨S2, e1, e2, e3, K', H'⟩
    have tm := step_tame hS e1
    have hp : wrap64 (p + r.iv) = p + r.iv := by
      have : InP r p := by
        unfold spanV at e2
        split at e2
        · rename_i q; exact q.1
        · cases e2
      have := inP_small h.lens this
      rw [w64 (by omega) (by omega)]
    have fu' := fuelW_ H'
    have H2 := H'
    obtain ⟨v', M', _, _⟩ := H2
    refine rg_ (run_ 5 K' rfl fun a5 K5 => ld_ K5 M' 0 rfl rfl rfl rfl rfl rfl rfl rfl fun a5 K5 => run_ 2 K5 rfl fun a5 K5 => nl_ ⟨⟨k, p + r.iv, S2, tm.1, ?_, by rw [if_pos rfl]; exact e3, fg_ (ks_ (i := 3) K5 rfl (congrArg (Value.int .i64) hp)) ⟨rfl, rfl, rfl, trivial⟩, H'⟩, ?_⟩)
    · obtain ⟨q1, q2, _⟩ := hS
      obtain ⟨q3, q4, _⟩ := tm.1
      have q5 := tm.2
      clear K5 K' K2 K
      omega
    · show fuelW gm F W' < fuelW gm F W
      rw [fu', fu]
      obtain ⟨q1, q2, _⟩ := hS
      obtain ⟨q3, q4, _⟩ := tm.1
      have q5 := tm.2
      clear K5 K' K2 K
      omega
  rintro _ W2 ⟨rfl, b2⟩
  replace M := M.call b2
  replace Rv := Kd.R_below Rv b2
  refine ⟨_, rfl, fun a K => run_ 7 K rfl fun a K => nil_ (wp_seq (sr_ (run_ 3 K rfl fun a K => ?_)))⟩
  by_cases c1 : (spanV r p).2.2 = 0
  case neg =>
    rw [if_pos (Or.inl c1)] at hT
    exact run_ 4 (fx_ K (ne0_ c1)) rfl fun a K => nil_ (ct_ K rfl rfl (ex_ (thn_ (sr_ (run_ 1 K rfl fun a K => nil_ (ret_ rfl K rfl (by rw [hT]; exact ⟨rfl, v, M, Rv, Fv⟩)))))))
  refine run_ 2 (fx_ K (ne0f_ c1)) rfl fun a K => cl_ K Tryz.func51 (by kernel_rfl) rfl rfl rfl rfl rfl rfl ((ends_on M rfl).mono ?_)
  rintro _ W3 ⟨rfl, b3⟩
  replace M := M.call b3
  replace Rv := Kd.R_below Rv b3
  refine ⟨_, rfl, fun a K => run_ 1 K rfl fun a K => nil_ ?_⟩
  cases c2 : endsV r to_ S'.ct (spanV r p).1 with
  | true =>
    rw [if_pos (Or.inr c2)] at hT
    exact ct_ K rfl c2 (ex_ (thn_ (sr_ (run_ 1 K rfl fun a K => nil_ (ret_ rfl K rfl (by rw [hT]; exact ⟨rfl, v, M, Rv, Fv⟩))))))
  | false =>
  rw [if_neg (by rw [c2]; simp [c1])] at hT
  obtain ⟨i1, i2⟩ := spanOk_in c1
  refine cs_ K rfl c2 (sr_ (run_ 3 K rfl fun a K => cl_ K Tryz.func52 (by kernel_rfl) rfl rfl rfl rfl rfl rfl ((wperiod_on ⟨v, M, Rv, Fv⟩ R h hw G Gm hst i1 i2 hF hF' hS).mono ?_)))
  intro e W4 he
  cases hs : stepV r st from_ to_ F S' (spanV r p).1 (spanV r p).2.1 with
  | none =>
    rw [hs] at he hT
    obtain ⟨rfl, hb⟩ := he
    exact ⟨_, rfl, fun a K => run_ 1 K rfl fun a K => nil_ (ct_ K rfl rfl (sr_ (run_ 1 K rfl fun a K => nil_ (ret_ rfl K rfl (by rw [hT]; exact ⟨rfl, hb⟩)))))⟩
  | some S2 =>
    rw [hs] at he hT
    obtain ⟨rfl, hb⟩ := he
    exact ⟨_, rfl, fun a K => run_ 1 K rfl fun a K => nil_ (cf_ K rfl rfl (wp_skip ⟨S2, rfl, c1, hT, fg_ K ⟨rfl, rfl, rfl, trivial⟩, hb⟩))⟩
end Go.Proofs.YtfinhaghgmnegaaGreat.Pure

namespace Go.Proofs.YtfinhaghgmnegaaGreat.Pure
open Go.RowKit Go.Proofs.YtfinhaghgmnegaaGreat.O Go.Proofs.YtfinhaghgmnegaaGreatW.PrintWords Go.Proofs.YtfinhaghgmnegaaGreatW.PrintLast
open Go.Proofs.YtfinhaghgmnegaaGreat.Civ
set_option linter.unusedVariables false
set_option linter.unusedSimpArgs false
set_option maxRecDepth 100000
set_option maxHeartbeats 4000000
section
variable {ρ : Operand → Value} {o : Oper} {w : World}
theorem run_b84 {x : Operand} {F : Int} (ho : o.op = .build 73 #[(1, x)]) (hx : ρ x = .int .i64 F) : (execOp ρ o).run Tryz.prog w = .ok (.value (.agg (mc 0 F))) w := by
  have hu84 := Tryz.underlying73
  unfold execOp; rw [ho]
  simp only [hx, List.map_toArray, List.map_cons, List.map_nil]
  first | (go_simp; done) | (go_simp; rfl)
theorem b86_run (r : RR) (s : Sl) (st from_ to_ : Int) (gm : Nat) (w : World) : (Instr.build 75 #[(0, .agg (rc r s)), (1, .int .i64 st), (2, .int .i64 from_), (3, .int .i64 to_), (4, .pointer (some ⟨gm, 0, none⟩))]).run Tryz.prog w = .ok (.agg (wc r s st from_ to_ gm 0 (.slice none 0 0))) w := by kernel_rfl
theorem run_b86 {x0 x1 x2 x3 x4 : Operand} {r : RR} {s : Sl} {st from_ to_ : Int} {gm : Nat} (ho : o.op = .build 75 #[(0, x0), (1, x1), (2, x2), (3, x3), (4, x4)]) (h0 : ρ x0 = .agg (rc r s)) (h1 : ρ x1 = .int .i64 st) (h2 : ρ x2 = .int .i64 from_) (h3 : ρ x3 = .int .i64 to_) (h4 : ρ x4 = .pointer (some ⟨gm, 0, none⟩)) : (execOp ρ o).run Tryz.prog w = .ok (.value (.agg (wc r s st from_ to_ gm 0 (.slice none 0 0)))) w := by
  unfold execOp; rw [ho]
  simp only [h0, h1, h2, h3, h4, List.map_toArray, List.map_cons, List.map_nil]
  rw [Sem.run_bind, b86_run]
  rfl
end
theorem in_on {w : World} (n : Int) : Calls Tryz.prog 28 #[.int .i64 n] w (Rets w (.bool (decide (-4611686018427387904 ≤ n ∧ n ≤ 4611686018427387904)))) := by
  refine en_ Tryz.func28 rfl rfl rfl fun a K => sr_ (run_ 1 K rfl fun a K => nil_ (sr_ (run_ 3 K rfl fun a K => ?_)))
  by_cases c : -4611686018427387904 ≤ n
  · exact run_ 4 (fx_ K (decide_eq_true c)) rfl fun a K => nil_ (ret_ rfl K rfl ⟨congrArg (fun b => Ending.returned (.bool b)) (decide_eq_decide.2 ⟨fun q => ⟨c, q⟩, fun q => q.2⟩), Below.refl _ _⟩)
  · exact run_ 4 (fx_ K (decide_eq_false c)) rfl fun a K => nil_ (ret_ rfl K rfl ⟨congrArg (fun b => Ending.returned (.bool b)) (decide_eq_false (fun q => c q.1)).symm, Below.refl _ _⟩)
theorem notin_ {P : Prop} [Decidable P] (h : ¬ P) : (!decide P) = true := by rw [decide_eq_false h]; rfl
theorem isin_ {P : Prop} [Decidable P] (h : P) : (!decide P) = false := by rw [decide_eq_true h]; rfl
theorem tame_0 {from_ to_ F st : Int} (hF : 0 ≤ F) : Tame F (tellV from_ to_ ⟨0, 0, []⟩ st) := by
  unfold Tame tellV
  dsimp only
  split
  · simp; omega
  · simp; omega
theorem Times_on {w : World} {cs : Array Value} {r : RR} {st from_ to_ F : Int} (R : Rul w cs r) (h : Right r) (hw : Few r) (hst : InT st) :
    Calls Tryz.prog 10 #[.agg cs, .int .i64 st, .int .i64 from_, .int .i64 to_, .int .i64 F] w fun e W' => ∃ v', e = .returned (.tuple #[v', .int .i64 (timesV r st from_ to_ F).2.1, .int .i64 (timesV r st from_ to_ F).2.2]) ∧ Kd.R (Kd.int .i64) 3 W' w.heap.size (fun _ => True) v' (timesV r st from_ to_ F).1 ∧ Below w.heap.size w W' := by
  have fl : Tryz.prog.follows .mixedOrders = true := by kernel_rfl
  obtain ⟨s, rfl⟩ := rul_rc R
  refine en_ Tryz.func10 rfl rfl rfl fun a K => sr_ (bxG_ K (On.nil w) rfl rfl rfl rfl rfl rfl fun a g0 W G0 M K => run_ 3 K rfl fun a K => nil_ (sr_ (lda_ K M 0 rfl rfl rfl rfl rfl rfl rfl R.sz fun a K => run_ 1 K rfl fun a K => cl_ K Tryz.func27 (by kernel_rfl) rfl rfl rfl rfl rfl rfl ((check46_on (R.below M.bl) h hst).mono ?_))))
  rintro _ w2 ⟨rfl, b2⟩
  replace M := M.call b2
  refine ⟨_, rfl, fun a K => run_ 1 K rfl fun a K => nil_ (wp_seq (sr_ (run_ 2 K rfl fun a K => nil_ (cs_ K rfl rfl ?_))))⟩
  obtain ⟨T, hT⟩ : ∃ T, T = timesV r st from_ to_ F := ⟨_, rfl⟩
  rw [← hT]
  have bad : ¬ mayT from_ to_ F → ∀ (V : World), Below w.heap.size w V → ∃ v', Ending.returned (.tuple #[.slice none 0 0, .int .i64 0, .int .i64 1]) = .returned (.tuple #[v', .int .i64 T.2.1, .int .i64 T.2.2]) ∧ Kd.R (Kd.int .i64) 3 V w.heap.size (fun _ => True) v' T.1 ∧ Below w.heap.size w V := fun hn V hV => by
    unfold timesV at hT
    rw [if_neg hn] at hT
    rw [hT]
    exact ⟨_, rfl, Kd.R_nil _ _ _ _ _, hV⟩
  refine wp_seq (sr_ (run_ 4 K rfl fun a K => ?_))
  by_cases c1 : to_ < from_
  case pos => exact run_ 17 (fx_ K (decide_eq_true c1)) rfl fun a K => nil_ (ct_ K rfl rfl (sr_ (run_ 3 K rfl fun a K => nil_ (ret3_ rfl K rfl rfl rfl (bad (fun q => by unfold mayT at q; omega) _ M.bl)))))
  refine run_ 1 (fx_ K (decide_eq_false c1)) rfl fun a K => cl_ K Tryz.func28 (by kernel_rfl) rfl rfl rfl rfl rfl rfl ((in_on from_).mono ?_)
  rintro _ w3 ⟨rfl, b3⟩
  replace M := M.call b3
  refine ⟨_, rfl, fun a K => run_ 3 K rfl fun a K => ?_⟩
  by_cases c2 : -4611686018427387904 ≤ from_ ∧ from_ ≤ 4611686018427387904
  case neg => exact run_ 12 (fx_ K (notin_ c2)) rfl fun a K => nil_ (ct_ K rfl rfl (sr_ (run_ 3 K rfl fun a K => nil_ (ret3_ rfl K rfl rfl rfl (bad (fun q => c2 ⟨q.2.1, q.2.2.1⟩) _ M.bl)))))
  refine run_ 1 (fx_ K (isin_ c2)) rfl fun a K => cl_ K Tryz.func28 (by kernel_rfl) rfl rfl rfl rfl rfl rfl ((in_on to_).mono ?_)
  rintro _ w4 ⟨rfl, b4⟩
  replace M := M.call b4
  refine ⟨_, rfl, fun a K => run_ 3 K rfl fun a K => ?_⟩
  by_cases c3 : -4611686018427387904 ≤ to_ ∧ to_ ≤ 4611686018427387904
  case neg => exact run_ 7 (fx_ K (notin_ c3)) rfl fun a K => nil_ (ct_ K rfl rfl (sr_ (run_ 3 K rfl fun a K => nil_ (ret3_ rfl K rfl rfl rfl (bad (fun q => c3 ⟨q.2.2.2.1, q.2.2.2.2.1⟩) _ M.bl)))))
  refine run_ 4 (fx_ K (isin_ c3)) rfl fun a K => ?_
  by_cases c4 : F < 0
  case pos => exact run_ 3 (fx_ K (decide_eq_true c4)) rfl fun a K => nil_ (ct_ K rfl rfl (sr_ (run_ 3 K rfl fun a K => nil_ (ret3_ rfl K rfl rfl rfl (bad (fun q => by unfold mayT at q; omega) _ M.bl)))))
  refine run_ 3 (fx_ K (decide_eq_false c4)) rfl fun a K => nil_ ?_
  by_cases c5 : 200000 < F
  case pos => exact ct_ K rfl (decide_eq_true c5) (sr_ (run_ 3 K rfl fun a K => nil_ (ret3_ rfl K rfl rfl rfl (bad (fun q => by unfold mayT at q; omega) _ M.bl))))
  have hmay : mayT from_ to_ F := ⟨Int.not_lt.1 c1, c2.1, c2.2, c3.1, c3.2, Int.not_lt.1 c4, Int.not_lt.1 c5⟩
  have hF : 0 ≤ F := Int.not_lt.1 c4
  have hF' : F ≤ 200000 := Int.not_lt.1 c5
  clear bad
  unfold timesV at hT
  rw [if_pos hmay] at hT
  clear hmay c1 c2 c3
  refine cs_ K rfl (decide_eq_false c5) (sr_ (lda_ K M 0 rfl rfl rfl rfl rfl rfl rfl R.sz fun a K => run_ 4 K rfl fun a K => val_ K rfl rfl rfl (run_b84 rfl (K.of (x := .tmp 45) rfl)) fun a K => bxG_ K M rfl rfl rfl rfl rfl rfl fun a gm W1 Gm M K => val_ K rfl rfl rfl (run_b86 (gm := gm) rfl (K.of (x := .tmp 41) rfl) (K.of (x := .tmp 42) rfl) (K.of (x := .tmp 43) rfl) (K.of (x := .tmp 44) rfl) (K.of (x := .tmp 47) rfl)) fun a K => bxG_ K M rfl rfl rfl rfl rfl rfl fun a gw W2 Gw M K => run_ 1 K rfl fun a K => nil_ ?_))
  have H : WS [(g0, .cells (rc r s) 29 (0, 0))] w gw gm r s st from_ to_ F ⟨0, 0, []⟩ W2 := ⟨.slice none 0 0, M, Kd.R_nil _ _ _ _ _, fun g _ q => (nomatch (show some g = none from q))⟩
  clear M c4 c5
  refine sr_ (run_ 2 K rfl fun a K => cl_ K Tryz.func29 (by kernel_rfl) rfl rfl rfl rfl rfl rfl ((tells_on (t := st) H Gw (by decide) (by decide) (by decide)).mono ?_))
  rintro _ w5 ⟨rfl, H5⟩
  clear H
  refine ⟨_, rfl, fun a K => nil_ (wp_seq (sr_ (run_ 1 K rfl fun a K => cl_ K Tryz.func30 (by kernel_rfl) rfl rfl rfl rfl rfl rfl ((works_on H5 R h hw Gw Gm hst hF hF' (tame_0 hF)).mono ?_))))⟩
  intro e w6 he
  unfold goneV at hT
  revert hT he
  generalize (if (beginV r st from_).2 = true then worksV r st from_ to_ F (F.toNat + 2) (beginV r st from_).1 (tellV from_ to_ ⟨0, 0, []⟩ st) else some (tellV from_ to_ ⟨0, 0, []⟩ st)) = Z
  intro hT he
  cases Z with
  | none =>
    obtain ⟨rfl, hb⟩ := he
    exact ⟨_, rfl, fun a K => run_ 1 K rfl fun a K => nil_ (ct_ K rfl rfl (sr_ (run_ 3 K rfl fun a K => nil_ (ret3_ rfl K rfl rfl rfl (by rw [hT]; exact ⟨_, rfl, Kd.R_nil _ _ _ _ _, hb⟩)))))⟩
  | some S' =>
    obtain ⟨rfl, v, M, Rv, Fv⟩ := he
    obtain ⟨A0, c0, ev, _⟩ := Kd.R_reads Rv
    subst ev
    refine ⟨_, rfl, fun a K => run_ 1 K rfl fun a K => nil_ (cs_ K rfl rfl ?_)⟩
    refine dseq_ fl rfl rfl M.drew (dp_ 119 8 [0, 1, 2, 4, 5, 6] K rfl rfl (by kernel_rfl) fun a K => dld_ 127 3 K M.drew 0 rfl rfl rfl rfl rfl rfl rfl rfl rfl (by kernel_rfl) fun a K => dld_ 255 7 K M.drew 0 rfl rfl rfl rfl rfl rfl rfl rfl rfl (by kernel_rfl) fun a K => dp_ 1023 4 [8, 9] K rfl rfl (by kernel_rfl) fun a K => dc_ 2047 10 K Tryz.func31 (by kernel_rfl) rfl rfl rfl rfl rfl rfl rfl (by kernel_rfl) ((read_on M.drew 1 rfl).mono ?_))
    rintro _ w7 ⟨rfl, b7⟩
    replace M := M.drew.call b7
    exact ⟨_, rfl, M, fun a K => dp_ 16383 0 [11, 12, 13] K rfl rfl (by kernel_rfl) fun a K => dend_ (by kernel_rfl) (ret3_ rfl K rfl rfl rfl (by rw [hT]; exact ⟨_, rfl, Kd.R_below (Kd.R_drew Rv) b7, M.bl⟩))⟩
end Go.Proofs.YtfinhaghgmnegaaGreat.Pure
