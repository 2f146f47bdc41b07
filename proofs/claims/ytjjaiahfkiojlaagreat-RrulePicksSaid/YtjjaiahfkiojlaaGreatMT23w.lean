/- A worker that goes through all periods, as a contract. No condition beyond those each lemma names. -/
/- A rule's times, and the last one, as contracts. No condition beyond those each lemma names. -/
/- The last of a rule's times, as a contract. No condition beyond those each lemma names. -/
/- What rules without lists tell, in plain numbers. No condition beyond those each lemma names. -/
import Derived.Test.YtjjaiahfkiojlaaGreatT23k
import Derived.Test.YtjjaiahfkiojlaaGreatMT23j
import Derived.Test.YtjjaiahfkiojlaaGreatMT23g
import Derived.Test.YtjjaiahfkiojlaaGreatMOx150
namespace Go.Proofs.YtjjaiahfkiojlaaGreat.Pure
open Go.RowKit Go.Proofs.YtjjaiahfkiojlaaGreat.O Go.Proofs.YtjjaiahfkiojlaaGreatW.PrintWords Go.Proofs.YtjjaiahfkiojlaaGreatW.PrintLast
open Go.Proofs.YtjjaiahfkiojlaaGreat.Civ
set_option linter.unusedVariables false
set_option linter.unusedSimpArgs false
set_option maxRecDepth 100000
set_option maxHeartbeats 4000000
instance (Q Q2 : Exit → Act → World → Prop) [h : ExTo Q 0 Q2] : ExTo (Exit.inBlock 1 Q) 0 Q2 := ⟨fun a w k => by unfold Exit.inBlock; simpa using h.go a w k⟩
/-- How a worker ends. -/
def WPost (L : List (Nat × Obj)) (w0 : World) (gw gm : Nat) (r : RR) (s : Sl) (st from_ to_ F : Int) (T : Option St) (e : Ending) (W' : World) : Prop := match T with
  | none => e = .returned (.bool false) ∧ Below w0.heap.size w0 W'
  | some S' => e = .returned (.bool true) ∧ WS L w0 gw gm r s st from_ to_ F S' W'
/-- The fuel that is left. -/
def fuelW (gm : Nat) (F : Int) (W : World) : Nat := match W.cell? ⟨gm, 0, none⟩ with | some (.int _ x) => (F + 1 - x).toNat | _ => 0
theorem fuelW_ {L : List (Nat × Obj)} {w0 W : World} {gw gm : Nat} {r : RR} {s : Sl} {st from_ to_ F : Int} {S : St} (H : WS L w0 gw gm r s st from_ to_ F S W) : fuelW gm F W = (F + 1 - S.sp).toNat := by
  obtain ⟨v, M, _, _⟩ := H
  have := M.cell (k := 1) rfl 0
  unfold fuelW
  rw [this]
  rfl
theorem works_on {L : List (Nat × Obj)} {w0 W : World} {gw gm : Nat} {r : RR} {s : Sl} {st from_ to_ F : Int} {S : St} (H : WS L w0 gw gm r s st from_ to_ F S W) (R : Rul w0 (rc r s) r) (h : Right r) (hw : Few r) (G : w0.heap.size ≤ gw) (Gm : w0.heap.size ≤ gm) (hst : InT st) (hF : 0 ≤ F) (hF' : F ≤ 200000) (hS : Tame F S) :
    Calls Tryz.prog 49 #[.pointer (some ⟨gw, 0, none⟩)] W (WPost L w0 gw gm r s st from_ to_ F (if (beginV r st from_).2 = true then worksV r st from_ to_ F (F.toNat + 2) (beginV r st from_).1 S else some S)) := by
  obtain ⟨v, M, Rv, Fv⟩ := H
  have iv := h.iv
  refine en_ Tryz.func49 rfl rfl rfl fun a K => sr_ (run_ 1 K rfl fun a K => nil_ (sr_ (run_ 1 K rfl fun a K => cl_ K Tryz.func80 (by kernel_rfl) rfl rfl rfl rfl rfl rfl ((begins_on M rfl (R.below M.bl) h hst).mono ?_))))
  rintro _ W1 ⟨rfl, b1⟩
  replace M := M.call b1
  replace Rv := Kd.R_below Rv b1
  refine ⟨_, rfl, fun a K => run_ 5 K rfl fun a K => nil_ ?_⟩
  have H : WS L w0 gw gm r s st from_ to_ F S W1 := ⟨v, M, Rv, Fv⟩
  clear M Rv Fv b1
  generalize (beginV r st from_).1 = p0 at K ⊢
  generalize (beginV r st from_).2 = b0 at K ⊢
  obtain ⟨T, hT⟩ : ∃ T, T = if b0 = true then worksV r st from_ to_ F (F.toNat + 2) p0 S else some S := ⟨_, rfl⟩
  rw [← hT]
  refine wp_seq (wp_block (wp_loop (fun a W => ∃ (k : Nat) (p : Int) (S' : St), Tame F S' ∧ (F - S'.sp).toNat < k ∧ T = (if b0 = true then worksV r st from_ to_ F k p S' else some S') ∧ Kn 43 [(3, .int .i64 p), (4, .bool b0), (0, .pointer (some ⟨gw, 0, none⟩))] a ∧ WS L w0 gw gm r s st from_ to_ F S' W) (fun _ W => fuelW gm F W) ⟨F.toNat + 2, p0, S, hS, by obtain ⟨q1, q2, _⟩ := hS; omega, hT, fg_ K ⟨rfl, rfl, rfl, trivial⟩, H⟩ ?_))
  clear K H hT hS
  rintro a W ⟨k, p, S', hS, hk, hT, K, H⟩
  refine wp_seq (sr_ (run_ 1 K rfl fun a2 K2 => nil_ ?_))
  cases b0 with
  | false =>
    rw [if_neg (by decide)] at hT
    exact cf_ K2 rfl rfl (ex_ (thn_ (sr_ (run_ 1 K2 rfl fun a K => nil_ (ret_ rfl K rfl (by rw [hT]; exact ⟨rfl, H⟩))))))
  | true =>
  rw [if_pos rfl] at hT
  obtain ⟨k, rfl⟩ : ∃ k', k = k' + 1 := ⟨k - 1, by omega⟩
  unfold worksV at hT
  have fu := fuelW_ H
  obtain ⟨v, M, Rv, Fv⟩ := H
  refine ck_ K2 rfl rfl (wp_seq (bjn_ (fun a' W' => ∃ S2, stepV r st from_ to_ F S' (spanV r p).1 (spanV r p).2.1 = some S2 ∧ (spanV r p).2.2 = 0 ∧ T = worksV r st from_ to_ F k (p + r.iv) S2 ∧ Kn 43 [(3, .int .i64 p), (4, .bool true), (0, .pointer (some ⟨gw, 0, none⟩))] a' ∧ WS L w0 gw gm r s st from_ to_ F S2 W') (sr_ (run_ 3 K2 rfl fun a K => ldr_ K M 0 rfl rfl rfl rfl rfl rfl fun a K => run_ 1 K rfl fun a K => cl_ K Tryz.func17 (by kernel_rfl) rfl rfl rfl rfl rfl rfl ((Span_on (R.below M.bl) h p).mono ?_))) ?_))
  case refine_2 =>
    rintro a' W' ⟨S2, e1, e2, e3, K', H'⟩
    have tm := step_tame hS e1
    have hp : wrap64 (p + r.iv) = p + r.iv := by
      have : InP r p := by
        unfold spanV at e2
        split at e2
        · rename_i q; exact q.1
        · cases e2
      have := inP_small h.lens this
      rw [w64 (by omega) (by omega)]
    have fu' := fuelW_ H'
    have H2 := H'
    obtain ⟨v', M', _, _⟩ := H2
    refine rg_ (run_ 5 K' rfl fun a5 K5 => ld_ K5 M' 0 rfl rfl rfl rfl rfl rfl rfl rfl fun a5 K5 => run_ 2 K5 rfl fun a5 K5 => nl_ ⟨⟨k, p + r.iv, S2, tm.1, ?_, by rw [if_pos rfl]; exact e3, fg_ (ks_ (i := 3) K5 rfl (congrArg (Value.int .i64) hp)) ⟨rfl, rfl, rfl, trivial⟩, H'⟩, ?_⟩)
    · obtain ⟨q1, q2, _⟩ := hS
      obtain ⟨q3, q4, _⟩ := tm.1
      have q5 := tm.2
      clear K5 K' K2 K
      omega
    · show fuelW gm F W' < fuelW gm F W
      rw [fu', fu]
      obtain ⟨q1, q2, _⟩ := hS
      obtain ⟨q3, q4, _⟩ := tm.1
      have q5 := tm.2
      clear K5 K' K2 K
      omega
  rintro _ W2 ⟨rfl, b2⟩
  replace M := M.call b2
  replace Rv := Kd.R_below Rv b2
  refine ⟨_, rfl, fun a K => run_ 7 K rfl fun a K => nil_ (wp_seq (sr_ (run_ 3 K rfl fun a K => ?_)))⟩
  by_cases c1 : (spanV r p).2.2 = 0
  case neg =>
    rw [if_pos (Or.inl c1)] at hT
    exact run_ 4 (fx_ K (ne0_ c1)) rfl fun a K => nil_ (ct_ K rfl rfl (ex_ (thn_ (sr_ (run_ 1 K rfl fun a K => nil_ (ret_ rfl K rfl (by rw [hT]; exact ⟨rfl, v, M, Rv, Fv⟩)))))))
  refine run_ 2 (fx_ K (ne0f_ c1)) rfl fun a K => cl_ K Tryz.func81 (by kernel_rfl) rfl rfl rfl rfl rfl rfl ((ends_on M rfl).mono ?_)
  rintro _ W3 ⟨rfl, b3⟩
  replace M := M.call b3
  replace Rv := Kd.R_below Rv b3
  refine ⟨_, rfl, fun a K => run_ 1 K rfl fun a K => nil_ ?_⟩
  cases c2 : endsV r to_ S'.ct (spanV r p).1 with
  | true =>
    rw [if_pos (Or.inr c2)] at hT
    exact ct_ K rfl c2 (ex_ (thn_ (sr_ (run_ 1 K rfl fun a K => nil_ (ret_ rfl K rfl (by rw [hT]; exact ⟨rfl, v, M, Rv, Fv⟩))))))
  | false =>
  rw [if_neg (by rw [c2]; simp [c1])] at hT
  obtain ⟨i1, i2⟩ := spanOk_in c1
  refine cs_ K rfl c2 (sr_ (run_ 3 K rfl fun a K => cl_ K Tryz.func82 (by kernel_rfl) rfl rfl rfl rfl rfl rfl ((wperiod_on ⟨v, M, Rv, Fv⟩ R h hw G Gm hst i1 i2 hF hF' hS).mono ?_)))
  intro e W4 he
  cases hs : stepV r st from_ to_ F S' (spanV r p).1 (spanV r p).2.1 with
  | none =>
    rw [hs] at he hT
    obtain ⟨rfl, hb⟩ := he
    exact ⟨_, rfl, fun a K => run_ 1 K rfl fun a K => nil_ (ct_ K rfl rfl (sr_ (run_ 1 K rfl fun a K => nil_ (ret_ rfl K rfl (by rw [hT]; exact ⟨rfl, hb⟩)))))⟩
  | some S2 =>
    rw [hs] at he hT
    obtain ⟨rfl, hb⟩ := he
    exact ⟨_, rfl, fun a K => run_ 1 K rfl fun a K => nil_ (cf_ K rfl rfl (wp_skip ⟨S2, rfl, c1, hT, fg_ K ⟨rfl, rfl, rfl, trivial⟩, hb⟩))⟩
end Go.Proofs.YtjjaiahfkiojlaaGreat.Pure

namespace Go.Proofs.YtjjaiahfkiojlaaGreat.Pure
open Go.RowKit Go.Proofs.YtjjaiahfkiojlaaGreat.O Go.Proofs.YtjjaiahfkiojlaaGreatW.PrintWords Go.Proofs.YtjjaiahfkiojlaaGreatW.PrintLast
open Go.Proofs.YtjjaiahfkiojlaaGreat.Civ
set_option linter.unusedVariables false
set_option linter.unusedSimpArgs false
set_option maxRecDepth 100000
set_option maxHeartbeats 4000000
section
variable {ρ : Operand → Value} {o : Oper} {w : World}
theorem run_b84 {x : Operand} {F : Int} (ho : o.op = .build 84 #[(1, x)]) (hx : ρ x = .int .i64 F) : (execOp ρ o).run Tryz.prog w = .ok (.value (.agg (mc 0 F))) w := by
  have hu84 := Tryz.underlying84
  unfold execOp; rw [ho]
  simp only [hx, List.map_toArray, List.map_cons, List.map_nil]
  first | (go_simp; done) | (go_simp; rfl)
theorem b86_run (r : RR) (s : Sl) (st from_ to_ : Int) (gm : Nat) (w : World) : (Instr.build 86 #[(0, .agg (rc r s)), (1, .int .i64 st), (2, .int .i64 from_), (3, .int .i64 to_), (4, .pointer (some ⟨gm, 0, none⟩))]).run Tryz.prog w = .ok (.agg (wc r s st from_ to_ gm 0 (.slice none 0 0))) w := by kernel_rfl
theorem run_b86 {x0 x1 x2 x3 x4 : Operand} {r : RR} {s : Sl} {st from_ to_ : Int} {gm : Nat} (ho : o.op = .build 86 #[(0, x0), (1, x1), (2, x2), (3, x3), (4, x4)]) (h0 : ρ x0 = .agg (rc r s)) (h1 : ρ x1 = .int .i64 st) (h2 : ρ x2 = .int .i64 from_) (h3 : ρ x3 = .int .i64 to_) (h4 : ρ x4 = .pointer (some ⟨gm, 0, none⟩)) : (execOp ρ o).run Tryz.prog w = .ok (.value (.agg (wc r s st from_ to_ gm 0 (.slice none 0 0)))) w := by
  unfold execOp; rw [ho]
  simp only [h0, h1, h2, h3, h4, List.map_toArray, List.map_cons, List.map_nil]
  rw [Sem.run_bind, b86_run]
  rfl
end
theorem in_on {w : World} (n : Int) : Calls Tryz.prog 47 #[.int .i64 n] w (Rets w (.bool (decide (-4611686018427387904 ≤ n ∧ n ≤ 4611686018427387904)))) := by
  refine en_ Tryz.func47 rfl rfl rfl fun a K => sr_ (run_ 1 K rfl fun a K => nil_ (sr_ (run_ 3 K rfl fun a K => ?_)))
  by_cases c : -4611686018427387904 ≤ n
  · exact run_ 4 (fx_ K (decide_eq_true c)) rfl fun a K => nil_ (ret_ rfl K rfl ⟨congrArg (fun b => Ending.returned (.bool b)) (decide_eq_decide.2 ⟨fun q => ⟨c, q⟩, fun q => q.2⟩), Below.refl _ _⟩)
  · exact run_ 4 (fx_ K (decide_eq_false c)) rfl fun a K => nil_ (ret_ rfl K rfl ⟨congrArg (fun b => Ending.returned (.bool b)) (decide_eq_false (fun q => c q.1)).symm, Below.refl _ _⟩)
theorem notin_ {P : Prop} [Decidable P] (h : ¬ P) : (!decide P) = true := by rw [decide_eq_false h]; rfl
theorem isin_ {P : Prop} [Decidable P] (h : P) : (!decide P) = false := by rw [decide_eq_true h]; rfl
theorem tame_0 {from_ to_ F st : Int} (hF : 0 ≤ F) : Tame F (tellV from_ to_ ⟨0, 0, []⟩ st) := by
  unfold Tame tellV
  dsimp only
  split
  · simp; omega
  · simp; omega
theorem Times_on {w : World} {cs : Array Value} {r : RR} {st from_ to_ F : Int} (R : Rul w cs r) (h : Right r) (hw : Few r) (hst : InT st) :
    Calls Tryz.prog 18 #[.agg cs, .int .i64 st, .int .i64 from_, .int .i64 to_, .int .i64 F] w fun e W' => ∃ v', e = .returned (.tuple #[v', .int .i64 (timesV r st from_ to_ F).2.1, .int .i64 (timesV r st from_ to_ F).2.2]) ∧ Kd.R (Kd.int .i64) 3 W' w.heap.size (fun _ => True) v' (timesV r st from_ to_ F).1 ∧ Below w.heap.size w W' := by
  have fl : Tryz.prog.follows .mixedOrders = true := by kernel_rfl
  obtain ⟨s, rfl⟩ := rul_rc R
  refine en_ Tryz.func18 rfl rfl rfl fun a K => sr_ (bxG_ K (On.nil w) rfl rfl rfl rfl rfl rfl fun a g0 W G0 M K => run_ 3 K rfl fun a K => nil_ (sr_ (lda_ K M 0 rfl rfl rfl rfl rfl rfl rfl R.sz fun a K => run_ 1 K rfl fun a K => cl_ K Tryz.func46 (by kernel_rfl) rfl rfl rfl rfl rfl rfl ((check46_on (R.below M.bl) h hst).mono ?_))))
  rintro _ w2 ⟨rfl, b2⟩
  replace M := M.call b2
  refine ⟨_, rfl, fun a K => run_ 1 K rfl fun a K => nil_ (wp_seq (sr_ (run_ 2 K rfl fun a K => nil_ (cs_ K rfl rfl ?_))))⟩
  obtain ⟨T, hT⟩ : ∃ T, T = timesV r st from_ to_ F := ⟨_, rfl⟩
  rw [← hT]
  have bad : ¬ mayT from_ to_ F → ∀ (V : World), Below w.heap.size w V → ∃ v', Ending.returned (.tuple #[.slice none 0 0, .int .i64 0, .int .i64 1]) = .returned (.tuple #[v', .int .i64 T.2.1, .int .i64 T.2.2]) ∧ Kd.R (Kd.int .i64) 3 V w.heap.size (fun _ => True) v' T.1 ∧ Below w.heap.size w V := fun hn V hV => by
    unfold timesV at hT
    rw [if_neg hn] at hT
    rw [hT]
    exact ⟨_, rfl, Kd.R_nil _ _ _ _ _, hV⟩
  refine wp_seq (sr_ (run_ 4 K rfl fun a K => ?_))
  by_cases c1 : to_ < from_
  case pos => exact run_ 17 (fx_ K (decide_eq_true c1)) rfl fun a K => nil_ (ct_ K rfl rfl (sr_ (run_ 3 K rfl fun a K => nil_ (ret3_ rfl K rfl rfl rfl (bad (fun q => by unfold mayT at q; omega) _ M.bl)))))
  refine run_ 1 (fx_ K (decide_eq_false c1)) rfl fun a K => cl_ K Tryz.func47 (by kernel_rfl) rfl rfl rfl rfl rfl rfl ((in_on from_).mono ?_)
  rintro _ w3 ⟨rfl, b3⟩
  replace M := M.call b3
  refine ⟨_, rfl, fun a K => run_ 3 K rfl fun a K => ?_⟩
  by_cases c2 : -4611686018427387904 ≤ from_ ∧ from_ ≤ 4611686018427387904
  case neg => exact run_ 12 (fx_ K (notin_ c2)) rfl fun a K => nil_ (ct_ K rfl rfl (sr_ (run_ 3 K rfl fun a K => nil_ (ret3_ rfl K rfl rfl rfl (bad (fun q => c2 ⟨q.2.1, q.2.2.1⟩) _ M.bl)))))
  refine run_ 1 (fx_ K (isin_ c2)) rfl fun a K => cl_ K Tryz.func47 (by kernel_rfl) rfl rfl rfl rfl rfl rfl ((in_on to_).mono ?_)
  rintro _ w4 ⟨rfl, b4⟩
  replace M := M.call b4
  refine ⟨_, rfl, fun a K => run_ 3 K rfl fun a K => ?_⟩
  by_cases c3 : -4611686018427387904 ≤ to_ ∧ to_ ≤ 4611686018427387904
  case neg => exact run_ 7 (fx_ K (notin_ c3)) rfl fun a K => nil_ (ct_ K rfl rfl (sr_ (run_ 3 K rfl fun a K => nil_ (ret3_ rfl K rfl rfl rfl (bad (fun q => c3 ⟨q.2.2.2.1, q.2.2.2.2.1⟩) _ M.bl)))))
  refine run_ 4 (fx_ K (isin_ c3)) rfl fun a K => ?_
  by_cases c4 : F < 0
  case pos => exact run_ 3 (fx_ K (decide_eq_true c4)) rfl fun a K => nil_ (ct_ K rfl rfl (sr_ (run_ 3 K rfl fun a K => nil_ (ret3_ rfl K rfl rfl rfl (bad (fun q => by unfold mayT at q; omega) _ M.bl)))))
  refine run_ 3 (fx_ K (decide_eq_false c4)) rfl fun a K => nil_ ?_
  by_cases c5 : 200000 < F
  case pos => exact ct_ K rfl (decide_eq_true c5) (sr_ (run_ 3 K rfl fun a K => nil_ (ret3_ rfl K rfl rfl rfl (bad (fun q => by unfold mayT at q; omega) _ M.bl))))
  have hmay : mayT from_ to_ F := ⟨Int.not_lt.1 c1, c2.1, c2.2, c3.1, c3.2, Int.not_lt.1 c4, Int.not_lt.1 c5⟩
  have hF : 0 ≤ F := Int.not_lt.1 c4
  have hF' : F ≤ 200000 := Int.not_lt.1 c5
  clear bad
  unfold timesV at hT
  rw [if_pos hmay] at hT
  clear hmay c1 c2 c3
  refine cs_ K rfl (decide_eq_false c5) (sr_ (lda_ K M 0 rfl rfl rfl rfl rfl rfl rfl R.sz fun a K => run_ 4 K rfl fun a K => val_ K rfl rfl rfl (run_b84 rfl (K.of (x := .tmp 45) rfl)) fun a K => bxG_ K M rfl rfl rfl rfl rfl rfl fun a gm W1 Gm M K => val_ K rfl rfl rfl (run_b86 (gm := gm) rfl (K.of (x := .tmp 41) rfl) (K.of (x := .tmp 42) rfl) (K.of (x := .tmp 43) rfl) (K.of (x := .tmp 44) rfl) (K.of (x := .tmp 47) rfl)) fun a K => bxG_ K M rfl rfl rfl rfl rfl rfl fun a gw W2 Gw M K => run_ 1 K rfl fun a K => nil_ ?_))
  have H : WS [(g0, .cells (rc r s) 25 (0, 0))] w gw gm r s st from_ to_ F ⟨0, 0, []⟩ W2 := ⟨.slice none 0 0, M, Kd.R_nil _ _ _ _ _, fun g _ q => (nomatch (show some g = none from q))⟩
  clear M c4 c5
  refine sr_ (run_ 2 K rfl fun a K => cl_ K Tryz.func48 (by kernel_rfl) rfl rfl rfl rfl rfl rfl ((tells_on (t := st) H Gw (by decide) (by decide) (by decide)).mono ?_))
  rintro _ w5 ⟨rfl, H5⟩
  clear H
  refine ⟨_, rfl, fun a K => nil_ (wp_seq (sr_ (run_ 1 K rfl fun a K => cl_ K Tryz.func49 (by kernel_rfl) rfl rfl rfl rfl rfl rfl ((works_on H5 R h hw Gw Gm hst hF hF' (tame_0 hF)).mono ?_))))⟩
  intro e w6 he
  unfold goneV at hT
  revert hT he
  generalize (if (beginV r st from_).2 = true then worksV r st from_ to_ F (F.toNat + 2) (beginV r st from_).1 (tellV from_ to_ ⟨0, 0, []⟩ st) else some (tellV from_ to_ ⟨0, 0, []⟩ st)) = Z
  intro hT he
  cases Z with
  | none =>
    obtain ⟨rfl, hb⟩ := he
    exact ⟨_, rfl, fun a K => run_ 1 K rfl fun a K => nil_ (ct_ K rfl rfl (sr_ (run_ 3 K rfl fun a K => nil_ (ret3_ rfl K rfl rfl rfl (by rw [hT]; exact ⟨_, rfl, Kd.R_nil _ _ _ _ _, hb⟩)))))⟩
  | some S' =>
    obtain ⟨rfl, v, M, Rv, Fv⟩ := he
    obtain ⟨A0, c0, ev, _⟩ := Kd.R_reads Rv
    subst ev
    refine ⟨_, rfl, fun a K => run_ 1 K rfl fun a K => nil_ (cs_ K rfl rfl ?_)⟩
    refine dseq_ fl rfl rfl M.drew (dp_ 119 8 [0, 1, 2, 4, 5, 6] K rfl rfl (by kernel_rfl) fun a K => dld_ 127 3 K M.drew 0 rfl rfl rfl rfl rfl rfl rfl rfl rfl (by kernel_rfl) fun a K => dld_ 255 7 K M.drew 0 rfl rfl rfl rfl rfl rfl rfl rfl rfl (by kernel_rfl) fun a K => dp_ 1023 4 [8, 9] K rfl rfl (by kernel_rfl) fun a K => dc_ 2047 10 K Tryz.func50 (by kernel_rfl) rfl rfl rfl rfl rfl rfl rfl (by kernel_rfl) ((read_on M.drew 1 rfl).mono ?_))
    rintro _ w7 ⟨rfl, b7⟩
    replace M := M.drew.call b7
    exact ⟨_, rfl, M, fun a K => dp_ 16383 0 [11, 12, 13] K rfl rfl (by kernel_rfl) fun a K => dend_ (by kernel_rfl) (ret3_ rfl K rfl rfl rfl (by rw [hT]; exact ⟨_, rfl, Kd.R_below (Kd.R_drew Rv) b7, M.bl⟩))⟩
end Go.Proofs.YtjjaiahfkiojlaaGreat.Pure

namespace Go.Proofs.YtjjaiahfkiojlaaGreat.Pure
open Go.RowKit Go.Proofs.YtjjaiahfkiojlaaGreat.O Go.Proofs.YtjjaiahfkiojlaaGreatW.PrintWords Go.Proofs.YtjjaiahfkiojlaaGreatW.PrintLast
open Go.Proofs.YtjjaiahfkiojlaaGreat.Civ
set_option linter.unusedVariables false
set_option linter.unusedSimpArgs false
set_option maxRecDepth 100000
set_option maxHeartbeats 4000000
theorem results_tmp4 {fn : Func} {t u x y : Tmp} (h : fn.results = #[.tmp t, .tmp u, .tmp x, .tmp y]) (tmps : Array Value) (P : Program) (w : World) :
    (results fn tmps).run P w = .ok (.tuple #[tmps.getD t undef, tmps.getD u undef, tmps.getD x undef, tmps.getD y undef]) w := by
  simp [results, h]
theorem ret4_ {N : Nat} {E : Env} {a : Act} {Q : Exit → Act → World → Prop} {w : World} {fn : Func} {R : Ending → World → Prop} [hQ : RetTo Q fn R] {r s t q : Nat} {v u x y : Value} (hr : fn.results = #[.tmp r, .tmp s, .tmp t, .tmp q]) (K : Kn N E a) (h : O.look E r = some v) (h2 : O.look E s = some u) (h3 : O.look E t = some x) (h4 : O.look E q = some y) (k : R (.returned (.tuple #[v, u, x, y])) w) : Code.ret.wp Tryz.prog Q a w :=
  wp_ret (hQ.go _ _ (bodyPost_ret (results_tmp4 hr _ _ _) K.df (by rw [val_eq K h, val_eq K h2, val_eq K h3, val_eq K h4]; exact k)))
theorem last_ix {n : Nat} (h : 0 < n) (hn : n ≤ 17000000000000) : wrap64 ((n : Int) - 1) = ((n - 1 : Nat) : Int) := by rw [w64 (by omega) (by omega)]; omega
theorem len0_ {n : Nat} : decide ((n : Int) = 0) = decide (n = 0) := decide_eq_decide.2 (by omega)
theorem times_len {r : RR} {st from_ to_ F : Int} : (timesV r st from_ to_ F).1.length ≤ 200001 := by
  unfold timesV
  split
  · rename_i hm
    have key : ∀ (k : Nat) (p : Int) (S S' : St), Tame F S → worksV r st from_ to_ F k p S = some S' → Tame F S' := fun k => by
      induction k with
      | zero => intro p S S' _ e; cases e
      | succ k ih =>
        intro p S S' hS e
        unfold worksV at e
        split at e
        · obtain rfl := Option.some.inj e; exact hS
        · split at e
          · cases e
          · rename_i S2 hs
            exact ih _ _ _ (step_tame hS hs).1 e
    unfold mayT at hm
    have t0 := tame_0 (from_ := from_) (to_ := to_) (st := st) hm.2.2.2.2.2.1
    cases hg : goneV r st from_ to_ F with
    | none => exact Nat.zero_le _
    | some S =>
      have : Tame F S := by
        unfold goneV at hg
        split at hg
        · exact key _ _ _ _ t0 hg
        · obtain rfl := Option.some.inj hg; exact t0
      obtain ⟨q1, q2, q3, q4, q5⟩ := this
      dsimp only
      omega
  · exact Nat.zero_le _
theorem Last_on {w : World} {cs : Array Value} {r : RR} {st to_ back F : Int} (R : Rul w cs r) (h : Right r) (hw : Few r) (hst : InT st) :
    Calls Tryz.prog 22 #[.agg cs, .int .i64 st, .int .i64 to_, .int .i64 back, .int .i64 F] w (Rets w (.tuple #[.int .i64 (lastV r st to_ back F).1, .bool (lastV r st to_ back F).2.1, .int .i64 (lastV r st to_ back F).2.2.1, .int .i64 (lastV r st to_ back F).2.2.2])) := by
  refine en_ Tryz.func22 rfl rfl rfl fun a K => sr_ (bxG_ K (On.nil w) rfl rfl rfl rfl rfl rfl fun a g0 W G0 M K => run_ 4 K rfl fun a K => nil_ (wp_seq (sr_ (run_ 1 K rfl fun a K => cl_ K Tryz.func47 (by kernel_rfl) rfl rfl rfl rfl rfl rfl ((in_on to_).mono ?_)))))
  rintro _ w2 ⟨rfl, b2⟩
  replace M := M.call b2
  refine ⟨_, rfl, fun a K => run_ 2 K rfl fun a K => ?_⟩
  have bd := ask_bd to_ back
  unfold lastV
  have ebad : ¬ ((-4611686018427387904 ≤ to_ ∧ to_ ≤ 4611686018427387904) ∧ 0 ≤ back ∧ back ≤ 4611686018427387904) → (askV to_ back).1 = 0 ∧ (askV to_ back).2 = -1 := fun q => by unfold askV; rw [if_neg q]; exact ⟨rfl, rfl⟩
  have eok : ((-4611686018427387904 ≤ to_ ∧ to_ ≤ 4611686018427387904) ∧ 0 ≤ back ∧ back ≤ 4611686018427387904) → (askV to_ back).1 = to_ ∧ (askV to_ back).2 = back := fun q => by unfold askV; rw [if_pos q]; exact ⟨rfl, rfl⟩
  generalize (askV to_ back).1 = t1 at bd ebad eok ⊢
  generalize (askV to_ back).2 = t2 at bd ebad eok ⊢
  have ew := w64 bd.1 bd.2
  clear bd
  by_cases c1 : -4611686018427387904 ≤ to_ ∧ to_ ≤ 4611686018427387904
  case' neg =>
    refine run_ 7 (fx_ K (notin_ c1)) rfl fun a K => nil_ (ct_ K rfl rfl (rg_ (run_ 2 K rfl fun a K => nl_ ?_)))
    obtain ⟨e1, e2⟩ := ebad (fun q => c1 q.1)
  case' pos =>
    refine run_ 4 (fx_ K (isin_ c1)) rfl fun a K => ?_
    by_cases c2 : back < 0
    case' pos =>
      refine run_ 3 (fx_ K (decide_eq_true c2)) rfl fun a K => nil_ (ct_ K rfl rfl (rg_ (run_ 2 K rfl fun a K => nl_ ?_)))
      obtain ⟨e1, e2⟩ := ebad (fun q => absurd q.2.1 (Int.not_le.2 c2))
    case' neg =>
      refine run_ 3 (fx_ K (decide_eq_false c2)) rfl fun a K => nil_ ?_
      by_cases c3 : 4611686018427387904 < back
      case' pos =>
        refine ct_ K rfl (decide_eq_true c3) (rg_ (run_ 2 K rfl fun a K => nl_ ?_))
        obtain ⟨e1, e2⟩ := ebad (fun q => absurd q.2.2 (Int.not_le.2 c3))
      case' neg =>
        refine cf_ K rfl (decide_eq_false c3) (wp_skip ?_)
        obtain ⟨e1, e2⟩ := eok ⟨c1, Int.not_lt.1 c2, Int.not_lt.1 c3⟩
  all_goals
    replace K := fg_ (E' := [(2, .int .i64 t1), (3, .int .i64 t2), (1, .int .i64 st), (4, .int .i64 F), (5, .pointer (some ⟨g0, 0, none⟩))]) (ks_ (i := 2) (u := .int .i64 t1) (ks_ (i := 3) (u := .int .i64 t2) K rfl (congrArg (Value.int .i64) e2.symm)) rfl (congrArg (Value.int .i64) e1.symm)) ⟨rfl, rfl, rfl, rfl, rfl, trivial⟩
    clear ebad eok e1 e2
    have Tm : ∀ V, Rul V cs r → Calls Tryz.prog 18 #[.agg cs, .int .i64 st, .int .i64 (wrap64 (t1 - t2)), .int .i64 t1, .int .i64 F] V fun e W' => ∃ v', e = .returned (.tuple #[v', .int .i64 (timesV r st (t1 - t2) t1 F).2.1, .int .i64 (timesV r st (t1 - t2) t1 F).2.2]) ∧ Kd.R (Kd.int .i64) 3 W' V.heap.size (fun _ => True) v' (timesV r st (t1 - t2) t1 F).1 ∧ Below V.heap.size V W' := fun V hV => by rw [ew]; exact Times_on hV h hw hst
    refine sr_ (lda_ K M 0 rfl rfl rfl rfl rfl rfl rfl R.sz fun a K => run_ 6 K rfl fun a K => cl_ K Tryz.func18 (by kernel_rfl) rfl rfl rfl rfl rfl rfl ((Tm _ (R.below M.bl)).mono ?_))
    rintro _ w3 ⟨v', rfl, Rv, b3⟩
    replace M := M.call b3
    have hl := times_len (r := r) (st := st) (from_ := t1 - t2) (to_ := t1) (F := F)
    generalize (timesV r st (t1 - t2) t1 F).1 = X at Rv hl ⊢
    generalize (timesV r st (t1 - t2) t1 F).2.1 = C
    generalize (timesV r st (t1 - t2) t1 F).2.2 = Z
    clear Tm ew
    obtain ⟨A0, c0, ev, _, C0⟩ := Kd.R_reads Rv
    subst ev
    refine ⟨_, rfl, fun a K => run_ 7 K rfl fun a K => nil_ (wp_seq (sr_ (run_ 3 K rfl fun a K => ?_)))⟩
    by_cases d1 : Z = 0
    case neg =>
      rw [if_pos (Or.inl d1)]
      exact run_ 4 (fx_ K (ne0_ d1)) rfl fun a K => nil_ (ct_ K rfl rfl (sr_ (run_ 6 K rfl fun a K => nil_ (ret4_ rfl K rfl rfl rfl rfl ⟨rfl, M.bl⟩))))
    refine run_ 4 (fx_ K (ne0f_ d1)) rfl fun a K => nil_ ?_
    by_cases d2 : X = []
    case pos =>
      rw [if_pos (Or.inr d2)]
      exact ct_ K rfl ((nil_len _).trans (decide_eq_true ((nil_iff _).2 d2))) (sr_ (run_ 6 K rfl fun a K => nil_ (ret4_ rfl K rfl rfl rfl rfl ⟨rfl, M.bl⟩)))
    rw [if_neg (fun q => q.elim (fun q => q d1) d2)]
    have hp : 0 < X.length := List.length_pos_iff.2 d2
    obtain ⟨ad, eA, hat⟩ := C_at C0 hp
    subst eA
    have ei := last_ix hp (Nat.le_trans hl (by decide))
    have hi : X.length - 1 < X.length := Nat.sub_lt hp (by decide)
    have hx := hat (X.length - 1) _ (List.getElem?_eq_getElem hi)
    have eg : X.getD (X.length - 1) 0 = X[X.length - 1] := by simp [List.getD, List.getElem?_eq_getElem hi]
    rw [eg]
    refine cs_ K rfl ((nil_len _).trans (decide_eq_false fun q => d2 ((nil_iff _).1 q))) (sr_ (run_ 4 K rfl fun a K => ?_))
    replace K := ks_ (i := 50) K rfl (congrArg (Value.int .i64) ei)
    exact ix_ K hi (Nat.le_trans hl (by decide)) rfl rfl rfl rfl rfl rfl fun a K => el_ K hx rfl rfl rfl rfl rfl fun a K => run_ 5 K rfl fun a K => nil_ (ret4_ rfl K rfl rfl rfl rfl ⟨rfl, M.bl⟩)
end Go.Proofs.YtjjaiahfkiojlaaGreat.Pure

namespace Go.Proofs.YtjjaiahfkiojlaaGreat.Pure
open Go.RowKit Go.Proofs.YtjjaiahfkiojlaaGreat.O Go.Proofs.YtjjaiahfkiojlaaGreatW.PrintWords Go.Proofs.YtjjaiahfkiojlaaGreatW.PrintLast
open Go.Proofs.YtjjaiahfkiojlaaGreat.Civ
set_option linter.unusedVariables false
set_option linter.unusedSimpArgs false
/-! Rules without lists -/
def pl (fr iv ct : Int) (un : Bool) (ua : Int) : RR := ⟨fr, iv, ct, un, ua, false, [], [], [], [], [], [], [], [], [], 1⟩
theorem pl_right {fr iv ct ua : Int} {un : Bool} (h1 : 1 ≤ fr) (h2 : fr ≤ 7) (h3 : 1 ≤ iv) (h4 : iv ≤ 1000) (h5 : 0 ≤ ct) (h6 : ct ≤ 100000) (h7 : (un = false ∧ ua = 0) ∨ (un = true ∧ ct = 0 ∧ InT ua)) : Right (pl fr iv ct un ua) := by
  refine ⟨?_, h5, h6, ?_⟩
  · have e : okRecur (pl fr iv ct un ua).fr (pl fr iv ct un ua).iv (pl fr iv ct un ua).ct (pl fr iv ct un ua).un (pl fr iv ct un ua).ua (pl fr iv ct un ua).utc (pl fr iv ct un ua).sec (pl fr iv ct un ua).mi (pl fr iv ct un ua).ho (pl fr iv ct un ua).dy (pl fr iv ct un ua).md (pl fr iv ct un ua).yd (pl fr iv ct un ua).wn (pl fr iv ct un ua).mo (pl fr iv ct un ua).sp (pl fr iv ct un ua).wk = ((decide (1 ≤ fr) && decide (fr ≤ 7)) && (decide (1 ≤ iv) && decide (iv ≤ 1000)) && true && true && true && okBeside fr 0 0 0 0 0 0 0 0 0) := rfl
    rw [e]
    simp [h1, h2, h3, h4, okBeside]
  · rcases h7 with ⟨a, b⟩ | ⟨a, b, c⟩
    · exact Or.inl ⟨a, b, rfl⟩
    · exact Or.inr ⟨a, b, c⟩
theorem pl_few {fr iv ct ua : Int} {un : Bool} : Few (pl fr iv ct un ua) := ⟨Nat.zero_le 100, Nat.zero_le 100, Nat.zero_le 100⟩
theorem pl_day (fr iv ct ua : Int) (un : Bool) (first n : Int) : dayV (pl fr iv ct un ua) first n = if fr = 5 then wd n == wd first else if fr < 5 then true else if fr = 7 ∧ (dt n).2.1 ≠ (dt first).2.1 then false else (dt n).2.2 == (dt first).2.2 := by
  unfold dayV likeV weekNoV
  simp [pl, oneV, eitherV]
theorem pl_clock (fr iv ct ua : Int) (un : Bool) (s f : Int) : clocksV (pl fr iv ct un ua) s f = [(if 3 < fr then s / 3600 else f / 3600) * 3600 + (if 2 < fr then s % 3600 / 60 else f % 3600 / 60) * 60 + (if 1 < fr then s % 60 else f % 60)] := by
  unfold clocksV hoursV minsV secsV choiceV
  rw [if_pos (show (pl fr iv ct un ua).ho = [] from rfl), if_pos (show (pl fr iv ct un ua).mi = [] from rfl), if_pos (show (pl fr iv ct un ua).sec = [] from rfl)]
  rfl
theorem flat_none {f : Nat → List Int} {n : Nat} (h : ∀ i, i < n → f i = []) : (List.range n).flatMap f = [] := by
  induction n with
  | zero => rfl
  | succ n ih =>
    rw [List.range_succ, List.flatMap_append, ih (fun i hi => h i (by omega))]
    simp [h n (by omega)]
theorem flat_one {f : Nat → List Int} {n j : Nat} (hj : j < n) (h : ∀ i, i < n → i ≠ j → f i = []) : (List.range n).flatMap f = f j := by
  induction n with
  | zero => omega
  | succ n ih =>
    rw [List.range_succ, List.flatMap_append]
    by_cases q : j = n
    · subst q
      rw [flat_none (fun i hi => h i (by omega) (by omega))]
      simp
    · rw [ih (by omega) (fun i hi => h i (by omega))]
      simp [h n (by omega) (fun e => q e.symm)]
def stp (fr : Int) : Int := if fr = 1 then 1 else if fr = 2 then 60 else if fr = 3 then 3600 else if fr = 4 then 86400 else 604800
theorem inL_one {a b d x : Int} (h : a ≤ d * 86400 + x) (h' : d * 86400 + x ≤ b) : inL a b d [x] = [d * 86400 + x] := by
  unfold inL
  simp only [List.map_cons, List.map_nil, List.filter_cons, List.filter_nil]
  rw [decide_eq_false (by omega), decide_eq_false (by omega)]
  rfl
theorem pl_spanW {fr iv ct ua : Int} {un : Bool} (h1 : 1 ≤ fr) (h2 : fr ≤ 5) (s k : Int) : spanW (pl fr iv ct un ua) (perV (pl fr iv ct un ua) s + k) = if fr = 1 then (s + k, s + k) else if fr = 2 then (60 * (s / 60 + k), 60 * (s / 60 + k) + 59) else if fr = 3 then (3600 * (s / 3600 + k), 3600 * (s / 3600 + k) + 3599) else if fr = 4 then (86400 * (s / 86400 + k), 86400 * (s / 86400 + k) + 86399) else (86400 * (7 * ((s / 86400 + 3) / 7 + k) - 3), 86400 * (7 * ((s / 86400 + 3) / 7 + k) - 3 + 6) + 86399) := by
  have : fr = 1 ∨ fr = 2 ∨ fr = 3 ∨ fr = 4 ∨ fr = 5 := by omega
  rcases this with rfl | rfl | rfl | rfl | rfl
  · simp [spanW, perV, pl]
  · simp [spanW, perV, pl]
  · simp [spanW, perV, pl]
  · simp [spanW, perV, pl, wholeV]
  · have e : s / 86400 + 4 - 1 = s / 86400 + 3 := by omega
    have e2 : 7 * ((s / 86400 + 3) / 7 + k) - 4 + 1 = 7 * ((s / 86400 + 3) / 7 + k) - 3 := by omega
    simp [spanW, perV, pl, wholeV, e, e2]
theorem pl_lets {fr iv ct ua : Int} {un : Bool} (h1 : 1 ≤ fr) (h2 : fr ≤ 5) (s k : Int) : letsL (pl fr iv ct un ua) s (spanW (pl fr iv ct un ua) (perV (pl fr iv ct un ua) s + k)).1 (spanW (pl fr iv ct un ua) (perV (pl fr iv ct un ua) s + k)).2 = [s + k * stp fr] := by
  rw [pl_spanW h1 h2]
  unfold letsL
  have one : ∀ (a b t : Int), 1 ≤ fr → fr < 5 → a / 86400 = b / 86400 → (∀ x, x ∈ clocksV (pl fr iv ct un ua) (s % 86400) (a % 86400) → a / 86400 * 86400 + x = t) → a ≤ t → t ≤ b → daysL (pl fr iv ct un ua) (s / 86400) a b (clocksV (pl fr iv ct un ua) (s % 86400) (a % 86400)) (a / 86400) (b / 86400 + 1 - a / 86400).toNat = [t] := by
    intro a b t _ h5 hab ht ha hb
    rw [show (b / 86400 + 1 - a / 86400).toNat = 1 by omega]
    have e : daysL (pl fr iv ct un ua) (s / 86400) a b (clocksV (pl fr iv ct un ua) (s % 86400) (a % 86400)) (a / 86400) 1 = dayL (pl fr iv ct un ua) (s / 86400) a b (clocksV (pl fr iv ct un ua) (s % 86400) (a % 86400)) (a / 86400) := by
      simp [daysL, List.range_succ]
    rw [e]
    have hd : dayV (pl fr iv ct un ua) (s / 86400) (a / 86400) = true := by rw [pl_day, if_neg (show ¬ fr = 5 by omega), if_pos h5]
    unfold dayL
    rw [hd, if_pos rfl]
    rw [pl_clock] at ht ⊢
    have := ht _ (.head _)
    rw [inL_one (by omega) (by omega), this]
  have : fr = 1 ∨ fr = 2 ∨ fr = 3 ∨ fr = 4 ∨ fr = 5 := by omega
  rcases this with rfl | rfl | rfl | rfl | rfl
  · simp only [if_true]
    refine one _ _ _ (by omega) (by omega) rfl (fun x hx => ?_) (by simp [stp]) (by simp [stp])
    rw [pl_clock] at hx
    simp at hx
    simp [stp]
    omega
  · simp only [show ¬ ((2 : Int) = 1) by decide, if_false, if_true]
    refine one _ _ _ (by omega) (by omega) (by omega) (fun x hx => ?_) (by simp [stp]; omega) (by simp [stp]; omega)
    rw [pl_clock] at hx
    simp at hx
    simp [stp]
    omega
  · simp only [show ¬ ((3 : Int) = 1) by decide, show ¬ ((3 : Int) = 2) by decide, if_false, if_true]
    refine one _ _ _ (by omega) (by omega) (by omega) (fun x hx => ?_) (by simp [stp]; omega) (by simp [stp]; omega)
    rw [pl_clock] at hx
    simp at hx
    simp [stp]
    omega
  · simp only [show ¬ ((4 : Int) = 1) by decide, show ¬ ((4 : Int) = 2) by decide, show ¬ ((4 : Int) = 3) by decide, if_false, if_true]
    refine one _ _ _ (by omega) (by omega) (by omega) (fun x hx => ?_) (by simp [stp]; omega) (by simp [stp]; omega)
    rw [pl_clock] at hx
    simp at hx
    simp [stp]
    omega
  · simp only [show ¬ ((5 : Int) = 1) by decide, show ¬ ((5 : Int) = 2) by decide, show ¬ ((5 : Int) = 3) by decide, show ¬ ((5 : Int) = 4) by decide, if_false]
    generalize hp : (s / 86400 + 3) / 7 + k = p
    have ea : 86400 * (7 * p - 3) / 86400 = 7 * p - 3 := by omega
    have eb : (86400 * (7 * p - 3 + 6) + 86399) / 86400 = 7 * p - 3 + 6 := by omega
    have em : 86400 * (7 * p - 3) % 86400 = 0 := by omega
    rw [ea, eb, em, show (7 * p - 3 + 6 + 1 - (7 * p - 3)).toNat = 7 by omega, pl_clock]
    simp only [show (3 : Int) < 5 by decide, show (2 : Int) < 5 by decide, show (1 : Int) < 5 by decide, if_true]
    unfold daysL
    rw [flat_one (j := ((s / 86400 + 3) % 7).toNat) (by omega) (fun i hi hne => ?_)]
    · unfold dayL
      rw [if_pos (show dayV (pl 5 iv ct un ua) (s / 86400) (7 * p - 3 + ((((s / 86400 + 3) % 7).toNat : Nat) : Int)) = true by rw [pl_day, if_pos rfl]; unfold wd; simp only [beq_iff_eq]; omega), inL_one (by omega) (by omega)]
      simp [stp]
      omega
    · unfold dayL
      rw [if_neg (show ¬ dayV (pl 5 iv ct un ua) (s / 86400) (7 * p - 3 + ((i : Nat) : Int)) = true by rw [pl_day, if_pos rfl]; unfold wd; simp only [beq_iff_eq]; omega)]
theorem pl_span {fr iv ct ua : Int} {un : Bool} (h1 : 1 ≤ fr) (h2 : fr ≤ 5) (s k : Int) : s + k * stp fr - 604800 < (spanW (pl fr iv ct un ua) (perV (pl fr iv ct un ua) s + k)).1 ∧ (spanW (pl fr iv ct un ua) (perV (pl fr iv ct un ua) s + k)).1 ≤ s + k * stp fr ∧ s + k * stp fr ≤ (spanW (pl fr iv ct un ua) (perV (pl fr iv ct un ua) s + k)).2 ∧ (spanW (pl fr iv ct un ua) (perV (pl fr iv ct un ua) s + k)).2 < s + k * stp fr + 604800 ∧ (-62135596800 ≤ s → 0 ≤ k → -62135596800 ≤ (spanW (pl fr iv ct un ua) (perV (pl fr iv ct un ua) s + k)).1) := by
  rw [pl_spanW h1 h2]
  have : fr = 1 ∨ fr = 2 ∨ fr = 3 ∨ fr = 4 ∨ fr = 5 := by omega
  rcases this with rfl | rfl | rfl | rfl | rfl
  all_goals (simp [stp]; try omega)
theorem spanV_ok {r : RR} (h : Lens r) {p : Int} (b6 : r.fr = 6 → 0 ≤ p ∧ p ≤ 120011) (i1 : InT (spanW r p).1) (i2 : InT (spanW r p).2) : spanV r p = ((spanW r p).1, (spanW r p).2, 0) := by
  have e := span_eq h i1 b6 (Int.le_refl _) (spanW_le r p)
  have := inP_per h i1
  rw [e] at this
  unfold spanV
  rw [if_pos ⟨this, i1, i2⟩]
end Go.Proofs.YtjjaiahfkiojlaaGreat.Pure
