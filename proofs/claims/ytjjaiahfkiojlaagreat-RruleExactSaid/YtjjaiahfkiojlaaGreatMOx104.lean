/- A worker that goes through all periods, as a contract. No condition beyond those each lemma names. -/
/- A rule's times, and the last one, as contracts. No condition beyond those each lemma names. -/
/- The last of a rule's times, as a contract. No condition beyond those each lemma names. -/
/- What the rules of wakes tell, in plain numbers. No condition. -/
-- What some functions of the program compute: a text of this claim's own (lines first written by the kit's tool, some proved anew).
import Derived.Test.YtjjaiahfkiojlaaGreatMT23W
import Derived.Test.YtjjaiahfkiojlaaGreatMT23h
import Derived.Test.YtjjaiahfkiojlaaGreatMOx0
namespace Go.Proofs.YtjjaiahfkiojlaaGreat.Pure
open Go.RowKit Go.Proofs.YtjjaiahfkiojlaaGreat.O Go.Proofs.YtjjaiahfkiojlaaGreatW.PrintWords Go.Proofs.YtjjaiahfkiojlaaGreatW.PrintLast
open Go.Proofs.YtjjaiahfkiojlaaGreat.Civ
set_option linter.unusedVariables false
set_option linter.unusedSimpArgs false
set_option maxRecDepth 100000
set_option maxHeartbeats 4000000
instance (Q Q2 : Exit → Act → World → Prop) [h : ExTo Q 0 Q2] : ExTo (Exit.inBlock 1 Q) 0 Q2 := ⟨fun a w k => by unfold Exit.inBlock; simpa using h.go a w k⟩
/-- How a worker ends. -/
def WPost (L : List (Nat × Obj)) (w0 : World) (gw gm : Nat) (r : RR) (s : Sl) (st from_ to_ F : Int) (T : Option St) (e : Ending) (W' : World) : Prop := match T with
  | none => e = .returned (.bool false) ∧ Below w0.heap.size w0 W'
  | some S' => e = .returned (.bool true) ∧ WS L w0 gw gm r s st from_ to_ F S' W'
/-- The fuel that is left. -/
def fuelW (gm : Nat) (F : Int) (W : World) : Nat := match W.cell? ⟨gm, 0, none⟩ with | some (.int _ x) => (F + 1 - x).toNat | _ => 0
theorem fuelW_ {L : List (Nat × Obj)} {w0 W : World} {gw gm : Nat} {r : RR} {s : Sl} {st from_ to_ F : Int} {S : St} (H : WS L w0 gw gm r s st from_ to_ F S W) : fuelW gm F W = (F + 1 - S.sp).toNat := by
  obtain ⟨v, M, _, _⟩ := H
  have := M.cell (k := 1) rfl 0
  unfold fuelW
  rw [this]
  rfl
theorem works_on {L : List (Nat × Obj)} {w0 W : World} {gw gm : Nat} {r : RR} {s : Sl} {st from_ to_ F : Int} {S : St} (H : WS L w0 gw gm r s st from_ to_ F S W) (R : Rul w0 (rc r s) r) (h : Right r) (hw : Few r) (G : w0.heap.size ≤ gw) (Gm : w0.heap.size ≤ gm) (hst : InT st) (hF : 0 ≤ F) (hF' : F ≤ 200000) (hS : Tame F S) :
    Calls Tryz.prog 49 #[.pointer (some ⟨gw, 0, none⟩)] W (WPost L w0 gw gm r s st from_ to_ F (if (beginV r st from_).2 = true then worksV r st from_ to_ F (F.toNat + 2) (beginV r st from_).1 S else some S)) := by
  obtain ⟨v, M, Rv, Fv⟩ := H
  have iv := h.iv
  refine en_ Tryz.func49 rfl rfl rfl fun a K => sr_ (run_ 1 K rfl fun a K => nil_ (sr_ (run_ 1 K rfl fun a K => cl_ K Tryz.func80 (by kernel_rfl) rfl rfl rfl rfl rfl rfl ((begins_on M rfl (R.below M.bl) h hst).mono ?_))))
  rintro _ W1 ⟨rfl, b1⟩
  replace M := M.call b1
  replace Rv := Kd.R_below Rv b1
  refine ⟨_, rfl, fun a K => run_ 5 K rfl fun a K => nil_ ?_⟩
  have H : WS L w0 gw gm r s st from_ to_ F S W1 := ⟨v, M, Rv, Fv⟩
  clear M Rv Fv b1
  generalize (beginV r st from_).1 = p0 at K ⊢
  generalize (beginV r st from_).2 = b0 at K ⊢
  obtain ⟨T, hT⟩ : ∃ T, T = if b0 = true then worksV r st from_ to_ F (F.toNat + 2) p0 S else some S := ⟨_, rfl⟩
  rw [← hT]
  refine wp_seq (wp_block (wp_loop (fun a W => ∃ (k : Nat) (p : Int) (S' : St), Tame F S' ∧ (F - S'.sp).toNat < k ∧ T = (if b0 = true then worksV r st from_ to_ F k p S' else some S') ∧ Kn 43 [(3, .int .i64 p), (4, .bool b0), (0, .pointer (some ⟨gw, 0, none⟩))] a ∧ WS L w0 gw gm r s st from_ to_ F S' W) (fun _ W => fuelW gm F W) ⟨F.toNat + 2, p0, S, hS, by obtain ⟨q1, q2, _⟩ := hS; omega, hT, fg_ K ⟨rfl, rfl, rfl, trivial⟩, H⟩ ?_))
  clear K H hT hS
  rintro a W ⟨k, p, S', hS, hk, hT, K, H⟩
  refine wp_seq (sr_ (run_ 1 K rfl fun a2 K2 => nil_ ?_))
  cases b0 with
  | false =>
    rw [if_neg (by decide)] at hT
    exact cf_ K2 rfl rfl (ex_ (thn_ (sr_ (run_ 1 K2 rfl fun a K => nil_ (ret_ rfl K rfl (by rw [hT]; exact ⟨rfl, H⟩))))))
  | true =>
  rw [if_pos rfl] at hT
  obtain ⟨k, rfl⟩ : ∃ k', k = k' + 1 := ⟨k - 1, by omega⟩
  unfold worksV at hT
  have fu := fuelW_ H
  obtain ⟨v, M, Rv, Fv⟩ := H
  refine ck_ K2 rfl rfl (wp_seq (bjn_ (fun a' W' => ∃ S2, stepV r st from_ to_ F S' (spanV r p).1 (spanV r p).2.1 = some S2 ∧ (spanV r p).2.2 = 0 ∧ T = worksV r st from_ to_ F k (p + r.iv) S2 ∧ Kn 43 [(3, .int .i64 p), (4, .bool true), (0, .pointer (some ⟨gw, 0, none⟩))] a' ∧ WS L w0 gw gm r s st from_ to_ F S2 W') (sr_ (run_ 3 K2 rfl fun a K => ldr_ K M 0 rfl rfl rfl rfl rfl rfl fun a K => run_ 1 K rfl fun a K => cl_ K Tryz.func17 (by kernel_rfl) rfl rfl rfl rfl rfl rfl ((Span_on (R.below M.bl) h p).mono ?_))) ?_))
  case refine_2 =>
    rintro a' W' ⟨S2, e1, e2, e3, K', H'⟩
    have tm := step_tame hS e1
    have hp : wrap64 (p + r.iv) = p + r.iv := by
      have : InP r p := by
        unfold spanV at e2
        split at e2
        · rename_i q; exact q.1
        · cases e2
      have := inP_small h.lens this
      rw [w64 (by omega) (by omega)]
    have fu' := fuelW_ H'
    have H2 := H'
    obtain ⟨v', M', _, _⟩ := H2
    refine rg_ (run_ 5 K' rfl fun a5 K5 => ld_ K5 M' 0 rfl rfl rfl rfl rfl rfl rfl rfl fun a5 K5 => run_ 2 K5 rfl fun a5 K5 => nl_ ⟨⟨k, p + r.iv, S2, tm.1, ?_, by rw [if_pos rfl]; exact e3, fg_ (ks_ (i := 3) K5 rfl (congrArg (Value.int .i64) hp)) ⟨rfl, rfl, rfl, trivial⟩, H'⟩, ?_⟩)
    · obtain ⟨q1, q2, _⟩ := hS
      obtain ⟨q3, q4, _⟩ := tm.1
      have q5 := tm.2
      clear K5 K' K2 K
      omega
    · show fuelW gm F W' < fuelW gm F W
      rw [fu', fu]
      obtain ⟨q1, q2, _⟩ := hS
      obtain ⟨q3, q4, _⟩ := tm.1
      have q5 := tm.2
      clear K5 K' K2 K
      omega
  rintro _ W2 ⟨rfl, b2⟩
  replace M := M.call b2
  replace Rv := Kd.R_below Rv b2
  refine ⟨_, rfl, fun a K => run_ 7 K rfl fun a K => nil_ (wp_seq (sr_ (run_ 3 K rfl fun a K => ?_)))⟩
  by_cases c1 : (spanV r p).2.2 = 0
  case neg =>
    rw [if_pos (Or.inl c1)] at hT
    exact run_ 4 (fx_ K (ne0_ c1)) rfl fun a K => nil_ (ct_ K rfl rfl (ex_ (thn_ (sr_ (run_ 1 K rfl fun a K => nil_ (ret_ rfl K rfl (by rw [hT]; exact ⟨rfl, v, M, Rv, Fv⟩)))))))
  refine run_ 2 (fx_ K (ne0f_ c1)) rfl fun a K => cl_ K Tryz.func81 (by kernel_rfl) rfl rfl rfl rfl rfl rfl ((ends_on M rfl).mono ?_)
  rintro _ W3 ⟨rfl, b3⟩
  replace M := M.call b3
  replace Rv := Kd.R_below Rv b3
  refine ⟨_, rfl, fun a K => run_ 1 K rfl fun a K => nil_ ?_⟩
  cases c2 : endsV r to_ S'.ct (spanV r p).1 with
  | true =>
    rw [if_pos (Or.inr c2)] at hT
    exact ct_ K rfl c2 (ex_ (thn_ (sr_ (run_ 1 K rfl fun a K => nil_ (ret_ rfl K rfl (by rw [hT]; exact ⟨rfl, v, M, Rv, Fv⟩))))))
  | false =>
  rw [if_neg (by rw [c2]; simp [c1])] at hT
  obtain ⟨i1, i2⟩ := spanOk_in c1
  refine cs_ K rfl c2 (sr_ (run_ 3 K rfl fun a K => cl_ K Tryz.func82 (by kernel_rfl) rfl rfl rfl rfl rfl rfl ((wperiod_on ⟨v, M, Rv, Fv⟩ R h hw G Gm hst i1 i2 hF hF' hS).mono ?_)))
  intro e W4 he
  cases hs : stepV r st from_ to_ F S' (spanV r p).1 (spanV r p).2.1 with
  | none =>
    rw [hs] at he hT
    obtain ⟨rfl, hb⟩ := he
    exact ⟨_, rfl, fun a K => run_ 1 K rfl fun a K => nil_ (ct_ K rfl rfl (sr_ (run_ 1 K rfl fun a K => nil_ (ret_ rfl K rfl (by rw [hT]; exact ⟨rfl, hb⟩)))))⟩
  | some S2 =>
    rw [hs] at he hT
    obtain ⟨rfl, hb⟩ := he
    exact ⟨_, rfl, fun a K => run_ 1 K rfl fun a K => nil_ (cf_ K rfl rfl (wp_skip ⟨S2, rfl, c1, hT, fg_ K ⟨rfl, rfl, rfl, trivial⟩, hb⟩))⟩
end Go.Proofs.YtjjaiahfkiojlaaGreat.Pure

namespace Go.Proofs.YtjjaiahfkiojlaaGreat.Pure
open Go.RowKit Go.Proofs.YtjjaiahfkiojlaaGreat.O Go.Proofs.YtjjaiahfkiojlaaGreatW.PrintWords Go.Proofs.YtjjaiahfkiojlaaGreatW.PrintLast
open Go.Proofs.YtjjaiahfkiojlaaGreat.Civ
set_option linter.unusedVariables false
set_option linter.unusedSimpArgs false
set_option maxRecDepth 100000
set_option maxHeartbeats 4000000
section
variable {ρ : Operand → Value} {o : Oper} {w : World}
theorem run_b84 {x : Operand} {F : Int} (ho : o.op = .build 84 #[(1, x)]) (hx : ρ x = .int .i64 F) : (execOp ρ o).run Tryz.prog w = .ok (.value (.agg (mc 0 F))) w := by
  have hu84 := Tryz.underlying84
  unfold execOp; rw [ho]
  simp only [hx, List.map_toArray, List.map_cons, List.map_nil]
  first | (go_simp; done) | (go_simp; rfl)
theorem b86_run (r : RR) (s : Sl) (st from_ to_ : Int) (gm : Nat) (w : World) : (Instr.build 86 #[(0, .agg (rc r s)), (1, .int .i64 st), (2, .int .i64 from_), (3, .int .i64 to_), (4, .pointer (some ⟨gm, 0, none⟩))]).run Tryz.prog w = .ok (.agg (wc r s st from_ to_ gm 0 (.slice none 0 0))) w := by kernel_rfl
theorem run_b86 {x0 x1 x2 x3 x4 : Operand} {r : RR} {s : Sl} {st from_ to_ : Int} {gm : Nat} (ho : o.op = .build 86 #[(0, x0), (1, x1), (2, x2), (3, x3), (4, x4)]) (h0 : ρ x0 = .agg (rc r s)) (h1 : ρ x1 = .int .i64 st) (h2 : ρ x2 = .int .i64 from_) (h3 : ρ x3 = .int .i64 to_) (h4 : ρ x4 = .pointer (some ⟨gm, 0, none⟩)) : (execOp ρ o).run Tryz.prog w = .ok (.value (.agg (wc r s st from_ to_ gm 0 (.slice none 0 0)))) w := by
  unfold execOp; rw [ho]
  simp only [h0, h1, h2, h3, h4, List.map_toArray, List.map_cons, List.map_nil]
  rw [Sem.run_bind, b86_run]
  rfl
end
theorem in_on {w : World} (n : Int) : Calls Tryz.prog 47 #[.int .i64 n] w (Rets w (.bool (decide (-4611686018427387904 ≤ n ∧ n ≤ 4611686018427387904)))) := by
  refine en_ Tryz.func47 rfl rfl rfl fun a K => sr_ (run_ 1 K rfl fun a K => nil_ (sr_ (run_ 3 K rfl fun a K => ?_)))
  by_cases c : -4611686018427387904 ≤ n
  · exact run_ 4 (fx_ K (decide_eq_true c)) rfl fun a K => nil_ (ret_ rfl K rfl ⟨congrArg (fun b => Ending.returned (.bool b)) (decide_eq_decide.2 ⟨fun q => ⟨c, q⟩, fun q => q.2⟩), Below.refl _ _⟩)
  · exact run_ 4 (fx_ K (decide_eq_false c)) rfl fun a K => nil_ (ret_ rfl K rfl ⟨congrArg (fun b => Ending.returned (.bool b)) (decide_eq_false (fun q => c q.1)).symm, Below.refl _ _⟩)
theorem notin_ {P : Prop} [Decidable P] (h : ¬ P) : (!decide P) = true := by rw [decide_eq_false h]; rfl
theorem isin_ {P : Prop} [Decidable P] (h : P) : (!decide P) = false := by rw [decide_eq_true h]; rfl
theorem tame_0 {from_ to_ F st : Int} (hF : 0 ≤ F) : Tame F (tellV from_ to_ ⟨0, 0, []⟩ st) := by
  unfold Tame tellV
  dsimp only
  split
  · simp; omega
  · simp; omega
theorem Times_on {w : World} {cs : Array Value} {r : RR} {st from_ to_ F : Int} (R : Rul w cs r) (h : Right r) (hw : Few r) (hst : InT st) :
    Calls Tryz.prog 18 #[.agg cs, .int .i64 st, .int .i64 from_, .int .i64 to_, .int .i64 F] w fun e W' => ∃ v', e = .returned (.tuple #[v', .int .i64 (timesV r st from_ to_ F).2.1, .int .i64 (timesV r st from_ to_ F).2.2]) ∧ Kd.R (Kd.int .i64) 3 W' w.heap.size (fun _ => True) v' (timesV r st from_ to_ F).1 ∧ Below w.heap.size w W' := by
  have fl : Tryz.prog.follows .mixedOrders = true := by kernel_rfl
  obtain ⟨s, rfl⟩ := rul_rc R
  refine en_ Tryz.func18 rfl rfl rfl fun a K => sr_ (bxG_ K (On.nil w) rfl rfl rfl rfl rfl rfl fun a g0 W G0 M K => run_ 3 K rfl fun a K => nil_ (sr_ (lda_ K M 0 rfl rfl rfl rfl rfl rfl rfl R.sz fun a K => run_ 1 K rfl fun a K => cl_ K Tryz.func46 (by kernel_rfl) rfl rfl rfl rfl rfl rfl ((check46_on (R.below M.bl) h hst).mono ?_))))
  rintro _ w2 ⟨rfl, b2⟩
  replace M := M.call b2
  refine ⟨_, rfl, fun a K => run_ 1 K rfl fun a K => nil_ (wp_seq (sr_ (run_ 2 K rfl fun a K => nil_ (cs_ K rfl rfl ?_))))⟩
  obtain ⟨T, hT⟩ : ∃ T, T = timesV r st from_ to_ F := ⟨_, rfl⟩
  rw [← hT]
  have bad : ¬ mayT from_ to_ F → ∀ (V : World), Below w.heap.size w V → ∃ v', Ending.returned (.tuple #[.slice none 0 0, .int .i64 0, .int .i64 1]) = .returned (.tuple #[v', .int .i64 T.2.1, .int .i64 T.2.2]) ∧ Kd.R (Kd.int .i64) 3 V w.heap.size (fun _ => True) v' T.1 ∧ Below w.heap.size w V := fun hn V hV => by
    unfold timesV at hT
    rw [if_neg hn] at hT
    rw [hT]
    exact ⟨_, rfl, Kd.R_nil _ _ _ _ _, hV⟩
  refine wp_seq (sr_ (run_ 4 K rfl fun a K => ?_))
  by_cases c1 : to_ < from_
  case pos => exact run_ 17 (fx_ K (decide_eq_true c1)) rfl fun a K => nil_ (ct_ K rfl rfl (sr_ (run_ 3 K rfl fun a K => nil_ (ret3_ rfl K rfl rfl rfl (bad (fun q => by unfold mayT at q; omega) _ M.bl)))))
  refine run_ 1 (fx_ K (decide_eq_false c1)) rfl fun a K => cl_ K Tryz.func47 (by kernel_rfl) rfl rfl rfl rfl rfl rfl ((in_on from_).mono ?_)
  rintro _ w3 ⟨rfl, b3⟩
  replace M := M.call b3
  refine ⟨_, rfl, fun a K => run_ 3 K rfl fun a K => ?_⟩
  by_cases c2 : -4611686018427387904 ≤ from_ ∧ from_ ≤ 4611686018427387904
  case neg => exact run_ 12 (fx_ K (notin_ c2)) rfl fun a K => nil_ (ct_ K rfl rfl (sr_ (run_ 3 K rfl fun a K => nil_ (ret3_ rfl K rfl rfl rfl (bad (fun q => c2 ⟨q.2.1, q.2.2.1⟩) _ M.bl)))))
  refine run_ 1 (fx_ K (isin_ c2)) rfl fun a K => cl_ K Tryz.func47 (by kernel_rfl) rfl rfl rfl rfl rfl rfl ((in_on to_).mono ?_)
  rintro _ w4 ⟨rfl, b4⟩
  replace M := M.call b4
  refine ⟨_, rfl, fun a K => run_ 3 K rfl fun a K => ?_⟩
  by_cases c3 : -4611686018427387904 ≤ to_ ∧ to_ ≤ 4611686018427387904
  case neg => exact run_ 7 (fx_ K (notin_ c3)) rfl fun a K => nil_ (ct_ K rfl rfl (sr_ (run_ 3 K rfl fun a K => nil_ (ret3_ rfl K rfl rfl rfl (bad (fun q => c3 ⟨q.2.2.2.1, q.2.2.2.2.1⟩) _ M.bl)))))
  refine run_ 4 (fx_ K (isin_ c3)) rfl fun a K => ?_
  by_cases c4 : F < 0
  case pos => exact run_ 3 (fx_ K (decide_eq_true c4)) rfl fun a K => nil_ (ct_ K rfl rfl (sr_ (run_ 3 K rfl fun a K => nil_ (ret3_ rfl K rfl rfl rfl (bad (fun q => by unfold mayT at q; omega) _ M.bl)))))
  refine run_ 3 (fx_ K (decide_eq_false c4)) rfl fun a K => nil_ ?_
  by_cases c5 : 200000 < F
  case pos => exact ct_ K rfl (decide_eq_true c5) (sr_ (run_ 3 K rfl fun a K => nil_ (ret3_ rfl K rfl rfl rfl (bad (fun q => by unfold mayT at q; omega) _ M.bl))))
  have hmay : mayT from_ to_ F := ⟨Int.not_lt.1 c1, c2.1, c2.2, c3.1, c3.2, Int.not_lt.1 c4, Int.not_lt.1 c5⟩
  have hF : 0 ≤ F := Int.not_lt.1 c4
  have hF' : F ≤ 200000 := Int.not_lt.1 c5
  clear bad
  unfold timesV at hT
  rw [if_pos hmay] at hT
  clear hmay c1 c2 c3
  refine cs_ K rfl (decide_eq_false c5) (sr_ (lda_ K M 0 rfl rfl rfl rfl rfl rfl rfl R.sz fun a K => run_ 4 K rfl fun a K => val_ K rfl rfl rfl (run_b84 rfl (K.of (x := .tmp 45) rfl)) fun a K => bxG_ K M rfl rfl rfl rfl rfl rfl fun a gm W1 Gm M K => val_ K rfl rfl rfl (run_b86 (gm := gm) rfl (K.of (x := .tmp 41) rfl) (K.of (x := .tmp 42) rfl) (K.of (x := .tmp 43) rfl) (K.of (x := .tmp 44) rfl) (K.of (x := .tmp 47) rfl)) fun a K => bxG_ K M rfl rfl rfl rfl rfl rfl fun a gw W2 Gw M K => run_ 1 K rfl fun a K => nil_ ?_))
  have H : WS [(g0, .cells (rc r s) 25 (0, 0))] w gw gm r s st from_ to_ F ⟨0, 0, []⟩ W2 := ⟨.slice none 0 0, M, Kd.R_nil _ _ _ _ _, fun g _ q => (nomatch (show some g = none from q))⟩
  clear M c4 c5
  refine sr_ (run_ 2 K rfl fun a K => cl_ K Tryz.func48 (by kernel_rfl) rfl rfl rfl rfl rfl rfl ((tells_on (t := st) H Gw (by decide) (by decide) (by decide)).mono ?_))
  rintro _ w5 ⟨rfl, H5⟩
  clear H
  refine ⟨_, rfl, fun a K => nil_ (wp_seq (sr_ (run_ 1 K rfl fun a K => cl_ K Tryz.func49 (by kernel_rfl) rfl rfl rfl rfl rfl rfl ((works_on H5 R h hw Gw Gm hst hF hF' (tame_0 hF)).mono ?_))))⟩
  intro e w6 he
  unfold goneV at hT
  revert hT he
  generalize (if (beginV r st from_).2 = true then worksV r st from_ to_ F (F.toNat + 2) (beginV r st from_).1 (tellV from_ to_ ⟨0, 0, []⟩ st) else some (tellV from_ to_ ⟨0, 0, []⟩ st)) = Z
  intro hT he
  cases Z with
  | none =>
    obtain ⟨rfl, hb⟩ := he
    exact ⟨_, rfl, fun a K => run_ 1 K rfl fun a K => nil_ (ct_ K rfl rfl (sr_ (run_ 3 K rfl fun a K => nil_ (ret3_ rfl K rfl rfl rfl (by rw [hT]; exact ⟨_, rfl, Kd.R_nil _ _ _ _ _, hb⟩)))))⟩
  | some S' =>
    obtain ⟨rfl, v, M, Rv, Fv⟩ := he
    obtain ⟨A0, c0, ev, _⟩ := Kd.R_reads Rv
    subst ev
    refine ⟨_, rfl, fun a K => run_ 1 K rfl fun a K => nil_ (cs_ K rfl rfl ?_)⟩
    refine dseq_ fl rfl rfl M.drew (dp_ 119 8 [0, 1, 2, 4, 5, 6] K rfl rfl (by kernel_rfl) fun a K => dld_ 127 3 K M.drew 0 rfl rfl rfl rfl rfl rfl rfl rfl rfl (by kernel_rfl) fun a K => dld_ 255 7 K M.drew 0 rfl rfl rfl rfl rfl rfl rfl rfl rfl (by kernel_rfl) fun a K => dp_ 1023 4 [8, 9] K rfl rfl (by kernel_rfl) fun a K => dc_ 2047 10 K Tryz.func50 (by kernel_rfl) rfl rfl rfl rfl rfl rfl rfl (by kernel_rfl) ((read_on M.drew 1 rfl).mono ?_))
    rintro _ w7 ⟨rfl, b7⟩
    replace M := M.drew.call b7
    exact ⟨_, rfl, M, fun a K => dp_ 16383 0 [11, 12, 13] K rfl rfl (by kernel_rfl) fun a K => dend_ (by kernel_rfl) (ret3_ rfl K rfl rfl rfl (by rw [hT]; exact ⟨_, rfl, Kd.R_below (Kd.R_drew Rv) b7, M.bl⟩))⟩
end Go.Proofs.YtjjaiahfkiojlaaGreat.Pure

namespace Go.Proofs.YtjjaiahfkiojlaaGreat.Pure
open Go.RowKit Go.Proofs.YtjjaiahfkiojlaaGreat.O Go.Proofs.YtjjaiahfkiojlaaGreatW.PrintWords Go.Proofs.YtjjaiahfkiojlaaGreatW.PrintLast
open Go.Proofs.YtjjaiahfkiojlaaGreat.Civ
set_option linter.unusedVariables false
set_option linter.unusedSimpArgs false
set_option maxRecDepth 100000
set_option maxHeartbeats 4000000
theorem results_tmp4 {fn : Func} {t u x y : Tmp} (h : fn.results = #[.tmp t, .tmp u, .tmp x, .tmp y]) (tmps : Array Value) (P : Program) (w : World) :
    (results fn tmps).run P w = .ok (.tuple #[tmps.getD t undef, tmps.getD u undef, tmps.getD x undef, tmps.getD y undef]) w := by
  simp [results, h]
theorem ret4_ {N : Nat} {E : Env} {a : Act} {Q : Exit → Act → World → Prop} {w : World} {fn : Func} {R : Ending → World → Prop} [hQ : RetTo Q fn R] {r s t q : Nat} {v u x y : Value} (hr : fn.results = #[.tmp r, .tmp s, .tmp t, .tmp q]) (K : Kn N E a) (h : O.look E r = some v) (h2 : O.look E s = some u) (h3 : O.look E t = some x) (h4 : O.look E q = some y) (k : R (.returned (.tuple #[v, u, x, y])) w) : Code.ret.wp Tryz.prog Q a w :=
  wp_ret (hQ.go _ _ (bodyPost_ret (results_tmp4 hr _ _ _) K.df (by rw [val_eq K h, val_eq K h2, val_eq K h3, val_eq K h4]; exact k)))
theorem last_ix {n : Nat} (h : 0 < n) (hn : n ≤ 17000000000000) : wrap64 ((n : Int) - 1) = ((n - 1 : Nat) : Int) := by rw [w64 (by omega) (by omega)]; omega
theorem len0_ {n : Nat} : decide ((n : Int) = 0) = decide (n = 0) := decide_eq_decide.2 (by omega)
theorem times_len {r : RR} {st from_ to_ F : Int} : (timesV r st from_ to_ F).1.length ≤ 200001 := by
  unfold timesV
  split
  · rename_i hm
    have key : ∀ (k : Nat) (p : Int) (S S' : St), Tame F S → worksV r st from_ to_ F k p S = some S' → Tame F S' := fun k => by
      induction k with
      | zero => intro p S S' _ e; cases e
      | succ k ih =>
        intro p S S' hS e
        unfold worksV at e
        split at e
        · obtain rfl := Option.some.inj e; exact hS
        · split at e
          · cases e
          · rename_i S2 hs
            exact ih _ _ _ (step_tame hS hs).1 e
    unfold mayT at hm
    have t0 := tame_0 (from_ := from_) (to_ := to_) (st := st) hm.2.2.2.2.2.1
    cases hg : goneV r st from_ to_ F with
    | none => exact Nat.zero_le _
    | some S =>
      have : Tame F S := by
        unfold goneV at hg
        split at hg
        · exact key _ _ _ _ t0 hg
        · obtain rfl := Option.some.inj hg; exact t0
      obtain ⟨q1, q2, q3, q4, q5⟩ := this
      dsimp only
      omega
  · exact Nat.zero_le _
theorem Last_on {w : World} {cs : Array Value} {r : RR} {st to_ back F : Int} (R : Rul w cs r) (h : Right r) (hw : Few r) (hst : InT st) :
    Calls Tryz.prog 22 #[.agg cs, .int .i64 st, .int .i64 to_, .int .i64 back, .int .i64 F] w (Rets w (.tuple #[.int .i64 (lastV r st to_ back F).1, .bool (lastV r st to_ back F).2.1, .int .i64 (lastV r st to_ back F).2.2.1, .int .i64 (lastV r st to_ back F).2.2.2])) := by
  refine en_ Tryz.func22 rfl rfl rfl fun a K => sr_ (bxG_ K (On.nil w) rfl rfl rfl rfl rfl rfl fun a g0 W G0 M K => run_ 4 K rfl fun a K => nil_ (wp_seq (sr_ (run_ 1 K rfl fun a K => cl_ K Tryz.func47 (by kernel_rfl) rfl rfl rfl rfl rfl rfl ((in_on to_).mono ?_)))))
  rintro _ w2 ⟨rfl, b2⟩
  replace M := M.call b2
  refine ⟨_, rfl, fun a K => run_ 2 K rfl fun a K => ?_⟩
  have bd := ask_bd to_ back
  unfold lastV
  have ebad : ¬ ((-4611686018427387904 ≤ to_ ∧ to_ ≤ 4611686018427387904) ∧ 0 ≤ back ∧ back ≤ 4611686018427387904) → (askV to_ back).1 = 0 ∧ (askV to_ back).2 = -1 := fun q => by unfold askV; rw [if_neg q]; exact ⟨rfl, rfl⟩
  have eok : ((-4611686018427387904 ≤ to_ ∧ to_ ≤ 4611686018427387904) ∧ 0 ≤ back ∧ back ≤ 4611686018427387904) → (askV to_ back).1 = to_ ∧ (askV to_ back).2 = back := fun q => by unfold askV; rw [if_pos q]; exact ⟨rfl, rfl⟩
  generalize (askV to_ back).1 = t1 at bd ebad eok ⊢
  generalize (askV to_ back).2 = t2 at bd ebad eok ⊢
  have ew := w64 bd.1 bd.2
  clear bd
  by_cases c1 : -4611686018427387904 ≤ to_ ∧ to_ ≤ 4611686018427387904
  case' neg =>
    refine run_ 7 (fx_ K (notin_ c1)) rfl fun a K => nil_ (ct_ K rfl rfl (rg_ (run_ 2 K rfl fun a K => nl_ ?_)))
    obtain ⟨e1, e2⟩ := ebad (fun q => c1 q.1)
  case' pos =>
    refine run_ 4 (fx_ K (isin_ c1)) rfl fun a K => ?_
    by_cases c2 : back < 0
    case' pos =>
      refine run_ 3 (fx_ K (decide_eq_true c2)) rfl fun a K => nil_ (ct_ K rfl rfl (rg_ (run_ 2 K rfl fun a K => nl_ ?_)))
      obtain ⟨e1, e2⟩ := ebad (fun q => absurd q.2.1 (Int.not_le.2 c2))
    case' neg =>
      refine run_ 3 (fx_ K (decide_eq_false c2)) rfl fun a K => nil_ ?_
      by_cases c3 : 4611686018427387904 < back
      case' pos =>
        refine ct_ K rfl (decide_eq_true c3) (rg_ (run_ 2 K rfl fun a K => nl_ ?_))
        obtain ⟨e1, e2⟩ := ebad (fun q => absurd q.2.2 (Int.not_le.2 c3))
      case' neg =>
        refine cf_ K rfl (decide_eq_false c3) (wp_skip ?_)
        obtain ⟨e1, e2⟩ := eok ⟨c1, Int.not_lt.1 c2, Int.not_lt.1 c3⟩
  all_goals
    replace K := fg_ (E' := [(2, .int .i64 t1), (3, .int .i64 t2), (1, .int .i64 st), (4, .int .i64 F), (5, .pointer (some ⟨g0, 0, none⟩))]) (ks_ (i := 2) (u := .int .i64 t1) (ks_ (i := 3) (u := .int .i64 t2) K rfl (congrArg (Value.int .i64) e2.symm)) rfl (congrArg (Value.int .i64) e1.symm)) ⟨rfl, rfl, rfl, rfl, rfl, trivial⟩
    clear ebad eok e1 e2
    have Tm : ∀ V, Rul V cs r → Calls Tryz.prog 18 #[.agg cs, .int .i64 st, .int .i64 (wrap64 (t1 - t2)), .int .i64 t1, .int .i64 F] V fun e W' => ∃ v', e = .returned (.tuple #[v', .int .i64 (timesV r st (t1 - t2) t1 F).2.1, .int .i64 (timesV r st (t1 - t2) t1 F).2.2]) ∧ Kd.R (Kd.int .i64) 3 W' V.heap.size (fun _ => True) v' (timesV r st (t1 - t2) t1 F).1 ∧ Below V.heap.size V W' := fun V hV => by rw [ew]; exact Times_on hV h hw hst
    refine sr_ (lda_ K M 0 rfl rfl rfl rfl rfl rfl rfl R.sz fun a K => run_ 6 K rfl fun a K => cl_ K Tryz.func18 (by kernel_rfl) rfl rfl rfl rfl rfl rfl ((Tm _ (R.below M.bl)).mono ?_))
    rintro _ w3 ⟨v', rfl, Rv, b3⟩
    replace M := M.call b3
    have hl := times_len (r := r) (st := st) (from_ := t1 - t2) (to_ := t1) (F := F)
    generalize (timesV r st (t1 - t2) t1 F).1 = X at Rv hl ⊢
    generalize (timesV r st (t1 - t2) t1 F).2.1 = C
    generalize (timesV r st (t1 - t2) t1 F).2.2 = Z
    clear Tm ew
    obtain ⟨A0, c0, ev, _, C0⟩ := Kd.R_reads Rv
    subst ev
    refine ⟨_, rfl, fun a K => run_ 7 K rfl fun a K => nil_ (wp_seq (sr_ (run_ 3 K rfl fun a K => ?_)))⟩
    by_cases d1 : Z = 0
    case neg =>
      rw [if_pos (Or.inl d1)]
      exact run_ 4 (fx_ K (ne0_ d1)) rfl fun a K => nil_ (ct_ K rfl rfl (sr_ (run_ 6 K rfl fun a K => nil_ (ret4_ rfl K rfl rfl rfl rfl ⟨rfl, M.bl⟩))))
    refine run_ 4 (fx_ K (ne0f_ d1)) rfl fun a K => nil_ ?_
    by_cases d2 : X = []
    case pos =>
      rw [if_pos (Or.inr d2)]
      exact ct_ K rfl ((nil_len _).trans (decide_eq_true ((nil_iff _).2 d2))) (sr_ (run_ 6 K rfl fun a K => nil_ (ret4_ rfl K rfl rfl rfl rfl ⟨rfl, M.bl⟩)))
    rw [if_neg (fun q => q.elim (fun q => q d1) d2)]
    have hp : 0 < X.length := List.length_pos_iff.2 d2
    obtain ⟨ad, eA, hat⟩ := C_at C0 hp
    subst eA
    have ei := last_ix hp (Nat.le_trans hl (by decide))
    have hi : X.length - 1 < X.length := Nat.sub_lt hp (by decide)
    have hx := hat (X.length - 1) _ (List.getElem?_eq_getElem hi)
    have eg : X.getD (X.length - 1) 0 = X[X.length - 1] := by simp [List.getD, List.getElem?_eq_getElem hi]
    rw [eg]
    refine cs_ K rfl ((nil_len _).trans (decide_eq_false fun q => d2 ((nil_iff _).1 q))) (sr_ (run_ 4 K rfl fun a K => ?_))
    replace K := ks_ (i := 50) K rfl (congrArg (Value.int .i64) ei)
    exact ix_ K hi (Nat.le_trans hl (by decide)) rfl rfl rfl rfl rfl rfl fun a K => el_ K hx rfl rfl rfl rfl rfl fun a K => run_ 5 K rfl fun a K => nil_ (ret4_ rfl K rfl rfl rfl rfl ⟨rfl, M.bl⟩)
end Go.Proofs.YtjjaiahfkiojlaaGreat.Pure

namespace Go.Proofs.YtjjaiahfkiojlaaGreat.Pure
open Go.RowKit Go.Proofs.YtjjaiahfkiojlaaGreat.O Go.Proofs.YtjjaiahfkiojlaaGreatW.PrintWords Go.Proofs.YtjjaiahfkiojlaaGreatW.PrintLast
open Go.Proofs.YtjjaiahfkiojlaaGreat.Civ
set_option linter.unusedVariables false
set_option linter.unusedSimpArgs false
/-! The last Friday of a month -/
def rB : RR := ⟨6, 1, 0, false, 0, false, [], [], [], [⟨0, 5⟩], [], [], [], [], [-1], 1⟩
theorem rB_right : Right rB := by
  refine ⟨?_, by decide, by decide, Or.inl ⟨rfl, rfl, rfl⟩⟩
  decide
theorem rB_few : Few rB := ⟨Nat.zero_le 100, Nat.zero_le 100, Nat.zero_le 100⟩
theorem rB_day (first n : Int) : dayV rB first n = decide (wd n = 5) := by
  unfold dayV likeV weekNoV numberedV
  simp [rB, oneV, eitherV]
  by_cases c : wd n = 5
  · simp [c]
  · simp [c]; exact fun q => c q.symm
theorem rB_clock : clocksV rB 0 0 = [0] := by decide
theorem rB_days (a b d : Int) (n : Nat) : daysL rB 0 a b [0] d n = (List.range n).flatMap fun (i : Nat) => if wd (d + (i : Int)) = 5 then inL a b (d + (i : Int)) [0] else [] := by
  unfold daysL dayL
  congr 1
  funext i
  rw [rB_day]
  by_cases c : wd (d + (i : Int)) = 5
  · rw [decide_eq_true c, if_pos rfl, if_pos c]
  · rw [decide_eq_false c, if_neg (by decide), if_neg c]
theorem rB_span {p a b : Int} (h0 : 0 ≤ p ∧ p ≤ 120011) (e : spanW rB p = (a, b)) (i1 : InT a) (i2 : InT b) : spanV rB p = (a, b, 0) := by
  have := spanV_ok (p := p) rB_right.lens (fun _ => h0) (by rw [e]; exact i1) (by rw [e]; exact i2)
  rw [e] at this
  exact this
theorem rB_s1 : spanV rB 23640 = (0, 2678399, 0) := rB_span (by decide) (by decide) (by decide) (by decide)
theorem rB_s2 : spanV rB 23641 = (2678400, 5097599, 0) := rB_span (by decide) (by decide) (by decide) (by decide)
theorem rB_s3 : spanV rB 23642 = (5097600, 7775999, 0) := rB_span (by decide) (by decide) (by decide) (by decide)
theorem rB_l1 : letsL rB 0 0 2678399 = [86400, 691200, 1296000, 1900800, 2505600] := by
  unfold letsL
  rw [show (0 : Int) / 86400 = 0 by decide, show (0 : Int) % 86400 = 0 by decide, rB_clock, rB_days]
  decide
theorem rB_l2 : letsL rB 0 2678400 5097599 = [3110400, 3715200, 4320000, 4924800] := by
  unfold letsL
  rw [show (0 : Int) / 86400 = 0 by decide, show (0 : Int) % 86400 = 0 by decide, show (2678400 : Int) % 86400 = 0 by decide, rB_clock, rB_days]
  decide
theorem dt_a : dt 0 = (1970, 1, 1) := by
  rw [show (0 : Int) = num 1970 1 1 by decide]
  exact dt_num (rt_first (by omega) (by omega))
theorem dt_b : dt 10 = (1970, 1, 11) := by
  rw [show (10 : Int) = num 1970 1 11 by decide]
  exact dt_num ⟨by decide, by decide, by decide, by decide, by decide, by decide⟩
theorem rB_p1 : perV rB 0 = 23640 := by
  unfold perV
  rw [show (0 : Int) / 86400 = 0 by decide, dt_a]
  decide
theorem rB_p2 : perV rB 864000 = 23640 := by
  unfold perV
  rw [show (864000 : Int) / 86400 = 10 by decide, dt_b]
  decide
theorem wake_a : timesV (pl 4 1 3 false 0) 0 0 4611686018427387904 100 = ([0, 86400, 172800], 6, 0) := by
  have := times_count (fr := 4) (iv := 1) (n := 3) (st := 0) (F := 100) (by decide) (by decide) (by decide) (by decide) (by decide) (by decide) (by decide) (by decide) (by decide) (by decide)
  simpa [stp, List.range_succ] using this
theorem wake_b : ofV rB 0 23640 = ([2505600], 0) := by
  unfold ofV
  rw [rB_s1, if_pos rfl]
  dsimp only
  rw [rB_l1]
  decide
theorem rB_b1 : beginV rB 0 0 = (23640, true) := by
  unfold beginV
  rw [rB_p1, rB_s1, if_pos (by decide)]
  rfl
theorem rB_b2 : beginV rB 0 864000 = (23640, true) := by
  unfold beginV
  rw [rB_p1, rB_p2, rB_s1, if_neg (by decide), if_pos (by decide)]
  decide
theorem wake_d : timesV rB 0 0 4611686018427387904 3 = ([], 0, 22) := by
  have st : stepV rB 0 0 4611686018427387904 3 (tellV 0 4611686018427387904 ⟨0, 0, []⟩ 0) 0 2678399 = none := by
    unfold stepV
    rw [rB_l1]
    rfl
  have e : worksV rB 0 0 4611686018427387904 3 ((3 : Int).toNat + 2) 23640 (tellV 0 4611686018427387904 ⟨0, 0, []⟩ 0) = none := by
    rw [show (3 : Int).toNat + 2 = 4 + 1 from rfl, worksV, rB_s1, if_neg (by decide)]
    dsimp only
    rw [st]
  unfold timesV goneV
  rw [if_pos (by decide), rB_b1, if_pos rfl, e]
theorem wake_c0 : timesV rB 0 864000 3456000 100 = ([2505600], 11, 0) := by
  have t1 : stepV rB 0 864000 3456000 100 (tellV 864000 3456000 ⟨0, 0, []⟩ 0) 0 2678399 = some ⟨6, 2, [2505600]⟩ := by
    unfold stepV
    rw [rB_l1]
    rfl
  have t2 : stepV rB 0 864000 3456000 100 ⟨6, 2, [2505600]⟩ 2678400 5097599 = some ⟨11, 3, [2505600]⟩ := by
    unfold stepV
    rw [rB_l2]
    rfl
  have e2 : (23640 + rB.iv : Int) = 23641 := by decide
  have e3 : (23641 + rB.iv : Int) = 23642 := by decide
  have e : worksV rB 0 864000 3456000 100 ((100 : Int).toNat + 2) 23640 (tellV 864000 3456000 ⟨0, 0, []⟩ 0) = some ⟨11, 3, [2505600]⟩ := by
    rw [show (100 : Int).toNat + 2 = 99 + 1 + 1 + 1 from rfl, worksV, rB_s1, if_neg (by decide)]
    dsimp only
    rw [t1]
    dsimp only
    rw [e2, worksV, rB_s2, if_neg (by decide)]
    dsimp only
    rw [t2]
    dsimp only
    rw [e3, worksV, rB_s3, if_pos (by decide)]
  unfold timesV goneV
  rw [if_pos (by decide), rB_b2, if_pos rfl, e]
theorem wake_c : lastV rB 0 3456000 2592000 100 = (2505600, true, 11, 0) := by
  unfold lastV
  rw [show askV 3456000 2592000 = (3456000, 2592000) by decide]
  dsimp only
  rw [show (3456000 - 2592000 : Int) = 864000 by decide, wake_c0, if_neg (by decide)]
  rfl
end Go.Proofs.YtjjaiahfkiojlaaGreat.Pure

namespace Go.Proofs.YtjjaiahfkiojlaaGreat.O
open Go.RowKit Go.Proofs.YtjjaiahfkiojlaaGreatW.PrintWords Go.Proofs.YtjjaiahfkiojlaaGreatW.PrintLast Go.Proofs.YtjjaiahfkiojlaaGreatW.PrintMore
attribute [local go_sem] max2_int min2_int max_two min_two max_three min_three max_four min_four   -- for this text's walks alone
set_option linter.unusedVariables false
set_option linter.unusedSimpArgs false

/-! ### solsticekeep_Ints: function 26 -/
def solsticekeep_Ints.l0 : Nat → List Int → List Int → Int → Option (Bool)
  | 0, _, _, _ => none
  | k + 1, x0, x1, x5 => if x5 < (x0.length : Int) then (if 0 ≤ x5 then (if x5 < (x1.length : Int) then (if (rd x0 x5) = (rd x1 x5) then (solsticekeep_Ints.l0 k x0 x1 (wrap64 (x5 + 1))) else (some false)) else (none)) else (none)) else (some true)
def solsticekeep_Ints.f (k : Nat) (l0 : List Int) (l1 : List Int) : Option (Bool) := if (l0.length : Int) = (l1.length : Int) then (solsticekeep_Ints.l0 k l0 l1 0) else (some false)
set_option maxHeartbeats 8000000 in
set_option maxRecDepth 100000 in
theorem solsticekeep_Ints.calls (k : Nat) (A0 : Option Addr) (c0 : Nat) (l0 : List Int) (A1 : Option Addr) (c1 : Nat) (l1 : List Int) (r : Bool) (w : World) (hr0 : Kd.C (Kd.int .i64) w A0 l0.length l0) (hc0 : l0.length ≤ c0) (hr1 : Kd.C (Kd.int .i64) w A1 l1.length l1) (hc1 : l1.length ≤ c1) (h : solsticekeep_Ints.f k l0 l1 = some r) :
    Calls Tryz.prog 26 #[.slice A0 l0.length c0, .slice A1 l1.length c1] w fun e w' => e = .returned (.bool r) ∧ Drawn0 w w' := by
  have HR0 := Aside0.mk hr0
  have HC0 := Aside0.mk hc0
  clear hr0 hc0
  have HR1 := Aside0.mk hr1
  have HC1 := Aside0.mk hc1
  clear hr1 hc1
  have H : (if (l0.length : Int) = (l1.length : Int) then (solsticekeep_Ints.l0 k l0 l1 0) else (some false)) = some r := h
  clear h
  by_cases c3 : (l0.length : Int) = (l1.length : Int)
  · rw [if_pos c3] at H
    have c3b0 : ((l0.length : Int) == (l1.length : Int)) = true := beq_iff_eq.mpr c3
    have c3b1 : ((l0.length : Int) != (l1.length : Int)) = false := bne_eq_false_iff_eq.mpr c3
    have c3b2 : (l0.length == l1.length) = true := by first | simpa using c3 | (simp at c3 ⊢; omega)
    clear c3
    have H' := Aside0.mk H
    clear H
    go_enter Tryz.func26, Tryz.ntmps26
    go_wp2
    repeat (go_quiet (fail); try go_wp2)
    go_loopg [5] k (fun kq v5 w' => ∃ (x5_1 : Int), v5 = .int .i64 x5_1 ∧ Aside0 (solsticekeep_Ints.l0 kq l0 l1 x5_1 = some r) ∧ Aside0 (kq ≤ k) ∧ Drawn0 w w')
    case atStart => exact ⟨(0), (by first | rfl | (simp; done) | (simp [*]; done)), H', ⟨Nat.le_refl _⟩, by repeat (first | exact Drawn0.refl _ | apply Drawn0.step)⟩
    case round =>
      clear H'
      try clear c1
      try clear c2
      try clear p2
      try clear c3
      try clear c3b0
      try clear c3b1
      try clear c3b2
      obtain ⟨x5_1, rfl, HA, HK1, ⟨m1, rfl⟩⟩ := hrel
      cases gk with
      | zero => exact absurd HA.out (by simp [solsticekeep_Ints.l0])
      | succ k1 =>
        have H := HA.out
        clear HA
        simp only [solsticekeep_Ints.l0] at H
        by_cases c4 : x5_1 < (l0.length : Int)
        · rw [if_pos c4] at H
          have c4b0 : decide (x5_1 < (l0.length : Int)) = true := decide_eq_true c4
          clear c4
          by_cases c5 : 0 ≤ x5_1
          · rw [if_pos c5] at H
            have c5b0 : decide (0 ≤ x5_1) = true := decide_eq_true c5
            clear c5
            by_cases c6 : x5_1 < (l1.length : Int)
            · rw [if_pos c6] at H
              have c6b0 : decide (x5_1 < (l1.length : Int)) = true := decide_eq_true c6
              clear c6
              by_cases c7 : (rd l0 x5_1) = (rd l1 x5_1)
              · rw [if_pos c7] at H
                have c7b0 : ((rd l0 x5_1) == (rd l1 x5_1)) = true := beq_iff_eq.mpr c7
                have c7b1 : ((rd l0 x5_1) != (rd l1 x5_1)) = false := bne_eq_false_iff_eq.mpr c7
                clear c7
                have H' := Aside0.mk H
                clear H
                have p441 : 0 ≤ (x5_1 : Int) := of_decide_eq_true (by first | (with_reducible assumption) | assumption)
                have q441 : x5_1 < (l0.length : Int) := of_decide_eq_true (by first | (with_reducible assumption) | assumption)
                obtain ⟨ad441, e441, hx441_0⟩ := Kd.at_int HR0.out x5_1 p441 q441
                cases e441
                replace p441 := eq_true p441
                replace q441 := eq_true q441
                have p442 : 0 ≤ (x5_1 : Int) := of_decide_eq_true (by first | (with_reducible assumption) | assumption)
                have q442 : x5_1 < (l1.length : Int) := of_decide_eq_true (by first | (with_reducible assumption) | assumption)
                obtain ⟨ad442, e442, hx442_0⟩ := Kd.at_int HR1.out x5_1 p442 q442
                cases e442
                replace p442 := eq_true p442
                replace q442 := eq_true q442
                go_wp2
                repeat (go_quiet (fail); try go_wp2)
                go_roundg k1
                case measure => have := HK1.out; omega
                case rel => exact ⟨(wrap64 (x5_1 + 1)), (by first | rfl | (simp; done) | (simp [*]; done)), H', ⟨by have := HK1.out; omega⟩, by repeat (first | exact Drawn0.refl _ | apply Drawn0.step)⟩
              · rw [if_neg c7] at H
                have c7b0 : ((rd l0 x5_1) == (rd l1 x5_1)) = false := beq_eq_false_iff_ne.mpr c7
                have c7b1 : ((rd l0 x5_1) != (rd l1 x5_1)) = true := bne_iff_ne.mpr c7
                obtain rfl := Option.some.inj H
                have p441 : 0 ≤ (x5_1 : Int) := of_decide_eq_true (by first | (with_reducible assumption) | assumption)
                have q441 : x5_1 < (l0.length : Int) := of_decide_eq_true (by first | (with_reducible assumption) | assumption)
                obtain ⟨ad441, e441, hx441_0⟩ := Kd.at_int HR0.out x5_1 p441 q441
                cases e441
                replace p441 := eq_true p441
                replace q441 := eq_true q441
                have p442 : 0 ≤ (x5_1 : Int) := of_decide_eq_true (by first | (with_reducible assumption) | assumption)
                have q442 : x5_1 < (l1.length : Int) := of_decide_eq_true (by first | (with_reducible assumption) | assumption)
                obtain ⟨ad442, e442, hx442_0⟩ := Kd.at_int HR1.out x5_1 p442 q442
                cases e442
                replace p442 := eq_true p442
                replace q442 := eq_true q442
                go_wp2
                repeat (go_quiet (fail); try go_wp2)
                go_ret
                exact ⟨by first | rfl | (simp; done) | (simp [*]; done), by repeat (first | exact Drawn0.refl _ | apply Drawn0.step)⟩
            · rw [if_neg c6] at H
              exact absurd H (by simp)
          · rw [if_neg c5] at H
            exact absurd H (by simp)
        · rw [if_neg c4] at H
          have c4b0 : decide (x5_1 < (l0.length : Int)) = false := decide_eq_false c4
          clear c4
          obtain rfl := Option.some.inj H
          go_wp2
          repeat (go_quiet (fail); try go_wp2)
          go_ret
          exact ⟨by first | rfl | (simp; done) | (simp [*]; done), by repeat (first | exact Drawn0.refl _ | apply Drawn0.step)⟩
  · rw [if_neg c3] at H
    have c3b0 : ((l0.length : Int) == (l1.length : Int)) = false := beq_eq_false_iff_ne.mpr c3
    have c3b1 : ((l0.length : Int) != (l1.length : Int)) = true := bne_iff_ne.mpr c3
    have c3b2 : (l0.length == l1.length) = false := by first | simpa using c3 | (simp at c3 ⊢; omega)
    obtain rfl := Option.some.inj H
    go_enter Tryz.func26, Tryz.ntmps26
    go_wp2
    repeat (go_quiet (fail); try go_wp2)
    go_ret
    exact ⟨by first | rfl | (simp; done) | (simp [*]; done), by repeat (first | exact Drawn0.refl _ | apply Drawn0.step)⟩

end Go.Proofs.YtjjaiahfkiojlaaGreat.O
