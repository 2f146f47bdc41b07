/- The reference's Times, as a contract. No condition beyond those each lemma names. -/
import Derived.Test.YtjjaiahfkiojlaaGreatMT23P4
import Derived.Test.YtjjaiahfkiojlaaGreatT23J
namespace Go.Proofs.YtjjaiahfkiojlaaGreat.Pure
open Go.RowKit Go.Proofs.YtjjaiahfkiojlaaGreat.O Go.Proofs.YtjjaiahfkiojlaaGreatW.PrintWords Go.Proofs.YtjjaiahfkiojlaaGreatW.PrintLast
open Go.Proofs.YtjjaiahfkiojlaaGreat.Civ
set_option linter.unusedVariables false
set_option linter.unusedSimpArgs false
set_option maxHeartbeats 4000000
set_option maxRecDepth 100000
theorem on_head {p : Nat × Obj} {L : List (Nat × Obj)} {w0 W : World} (M : On (p :: L) w0 W) : On [p] w0 W := on_of M.bl (fun q hq => by obtain rfl := List.mem_singleton.1 hq; exact on_mem M (.head _)) (List.nodup_cons.2 ⟨List.not_mem_nil, List.nodup_nil⟩)
/-- How the reference's Times ends. -/
def TPost (w : World) (T : Option St) (e : Ending) (W' : World) : Prop := match T with
  | none => e = .returned (.tuple #[.slice none 0 0, .int .i64 0, .bool false]) ∧ Below w.heap.size w W'
  | some S => ∃ v, e = .returned (.tuple #[v, .int .i64 S.sp, .bool true]) ∧ Kd.R (Kd.int .i64) 3 W' w.heap.size (fun _ => True) v S.out ∧ Below w.heap.size w W'
theorem Times2_on {w : World} {cs : Array Value} {r : RR} {st from_ to_ F : Int} (R : Rul w cs r) (h : Right r) (hst : InT st) (hF : 0 ≤ F) (hF' : F ≤ 200000) : Calls Tryz.prog 30 #[.agg cs, .int .i64 st, .int .i64 from_, .int .i64 to_, .int .i64 F] w (TPost w (goneV r st from_ to_ F)) := by
  have fl : Tryz.prog.follows .mixedOrders = true := by kernel_rfl
  have hl := h.lens
  have R3 := R.c3
  obtain ⟨T, hT⟩ : ∃ T, T = goneV r st from_ to_ F := ⟨_, rfl⟩
  have hp0 := inP_small hl (inP_per hl hst)
  have GJ : r.ct = 0 → ∀ k : Nat, First r from_ (perV r st) k → T = worksV r st from_ to_ F (F.toNat + 2) (perV r st + (k : Int) * r.iv) (tellV from_ to_ ⟨0, 0, []⟩ st) := fun hc k hk => by rw [hT]; exact (gone_jump h hst hc hk).symm
  have GC : 0 < r.ct → T = worksV r st from_ to_ F (F.toNat + 2) (perV r st) (tellV from_ to_ ⟨0, 0, []⟩ st) := fun hc => by rw [hT]; exact (gone_count h hst hc).symm
  have ctn : ¬ r.ct = 0 → 0 < r.ct := fun q => by have := h.ct0; omega
  have ctz : ¬ 0 < r.ct → r.ct = 0 := fun q => by have := h.ct0; omega
  have T0 := tame_st (st := st) (from_ := from_) (to_ := to_) hF
  have PER : ∀ V, Rul V cs r → Calls Tryz.prog 62 #[.agg cs, .int .i64 st] V (Rets V (.int .i64 (perV r st))) := fun V hV => Period2_on hV hl hst
  have OF : ∀ (p : Int) (S : St), Tame F S → (spanV r p).2.2 = 0 → ∀ V, Rul V cs r → Calls Tryz.prog 28 #[.agg cs, .int .i64 st, .int .i64 (spanV r p).1, .int .i64 (spanV r p).2.1, .int .i64 (wrap64 (F - S.sp))] V fun e W' => ∃ v', e = .returned v' ∧ Kd.R (Kd.int .i64) 3 W' V.heap.size (fun _ => True) v' ((letsL r st (spanV r p).1 (spanV r p).2.1).take ((F - S.sp).toNat + 1)) ∧ Below V.heap.size V W' := fun p S hS hok V hV => by
    obtain ⟨t1, t2, _⟩ := hS
    have m := most_w t1 t2 hF'
    have o := ok_span hok
    rw [m.1, o.2.1]
    exact Of2_on hV h hst o.2.2.1 o.2.2.2 m.2
  have SR := fun {A B : Int} {S : St} (q : Tame F S) => step_ref (r := r) (st := st) (from_ := from_) (to_ := to_) (A := A) (B := B) q hF'
  have CW := fun {S : St} {n : Nat} (q : Tame F S) (hn : n ≤ 1000001) => cost_w (s := S.sp) (n := n) q.1 (Int.le_trans q.2.1 hF') hn
  have TMO := fun (S : St) (q : Tame F S) (A B : Int) => take_most (l := letsL r st A B) (n := (F - S.sp).toNat) (most_w q.1 q.2.1 hF').2
  rw [← hT]
  clear hT hst
  refine en_ Tryz.func30 rfl rfl rfl fun a K => sr_ (bxG_ K (On.nil w) rfl rfl rfl rfl rfl rfl fun a g0 W G0 M K => run_ 3 K rfl fun a K => nil_ (sr_ (run_ 1 K rfl fun a K => nil_ (sr_ (run_ 2 K rfl fun a K => nil_ ?_)))))
  refine sj_ (fun a' w' => ∃ v, Kn 152 [(13, v), (14, .int .i64 (tellV from_ to_ ⟨0, 0, []⟩ st).ct), (15, .int .i64 (tellV from_ to_ ⟨0, 0, []⟩ st).sp), (1, .int .i64 st), (2, .int .i64 from_), (3, .int .i64 to_), (4, .int .i64 F), (5, .pointer (some ⟨g0, 0, none⟩))] a' ∧ On [(g0, .cells cs 25 (0, 0))] w w' ∧ Kd.R (Kd.int .i64) 3 w' w.heap.size (fun _ => True) v (tellV from_ to_ ⟨0, 0, []⟩ st).out ∧ some g0 ≠ v.ownBlock) (sr_ (run_ 3 K rfl fun a K => cl_ K Tryz.func33 (by kernel_rfl) rfl rfl rfl rfl rfl rfl ((rin_on st from_ to_).mono ?_))) ?_
  rintro _ w3 ⟨rfl, b3⟩
  replace M := M.call b3
  refine ⟨_, rfl, fun a K => nil_ ?_⟩
  · by_cases c : from_ ≤ st ∧ st ≤ to_
    · refine ct_ K rfl (decide_eq_true c) (rg_ (run_ 2 K rfl fun a K => ap1_ K M rfl rfl rfl rfl rfl rfl rfl rfl rfl (fun _ => rfl) (Kd.R_nil _ _ _ _ _) (fun p hp q => (nomatch (show some p.1 = none from q))) (Nat.zero_le _) fun a v1 W4 u R4 M F4 K => run_ 1 K rfl fun a K => ?_))
      exact nil_ ⟨v1, fg_ K ⟨rfl, rfl, rfl, rfl, rfl, rfl, rfl, rfl, trivial⟩, M, by rw [tell_in c]; exact R4, F4 _ (.head _)⟩
    · exact cf_ K rfl (decide_eq_false c) (wp_skip (thn_ ⟨_, fg_ K ⟨rfl, rfl, rfl, rfl, rfl, rfl, rfl, rfl, trivial⟩, M, by rw [tell_out c]; exact Kd.R_nil _ _ _ _ _, fun q => (nomatch (show some g0 = none from q))⟩))
  clear K M
  rintro a W ⟨v, K, M, Rv, Fv⟩
  refine sr_ (lda_ K M 0 rfl rfl rfl rfl rfl rfl rfl R.sz fun a K => run_ 1 K rfl fun a K => cl_ K Tryz.func62 (by kernel_rfl) rfl rfl rfl rfl rfl rfl ((PER _ (R.below M.bl)).mono ?_))
  rintro _ w2 ⟨rfl, b2⟩
  replace M := M.call b2
  refine ⟨_, rfl, fun a K => run_ 1 K rfl fun a K => nil_ ?_⟩
  replace Rv := Kd.R_below Rv b2
  generalize htl : tellV from_ to_ ⟨0, 0, []⟩ st = S0 at K Rv T0 GJ GC
  clear htl
  refine sj_ (fun a' w' => ∃ p, T = worksV r st from_ to_ F (F.toNat + 2) p S0 ∧ Kn 152 [(16, .int .i64 p), (13, v), (14, .int .i64 S0.ct), (15, .int .i64 S0.sp), (1, .int .i64 st), (2, .int .i64 from_), (3, .int .i64 to_), (4, .int .i64 F), (5, .pointer (some ⟨g0, 0, none⟩))] a' ∧ On [(g0, .cells cs 25 (0, 0))] w w' ∧ Kd.R (Kd.int .i64) 3 w' w.heap.size (fun _ => True) v S0.out) (sr_ (run_ 1 K rfl fun a K => ld_ K M 0 rfl rfl rfl rfl rfl rfl R.c2 rfl fun a K => run_ 1 K rfl fun a K => nil_ ?_)) ?_
  · by_cases c : r.ct = 0
    · refine ct_ K rfl (decide_eq_true c) (rg_ (lda_ K M 0 rfl rfl rfl rfl rfl rfl rfl R.sz fun a K => run_ 2 K rfl fun a K => cl_ K Tryz.func63 (by kernel_rfl) rfl rfl rfl rfl rfl rfl ((jump_on (R.below M.bl) h hp0 from_).mono ?_)))
      rintro _ w3 ⟨k, hk, rfl, b3⟩
      exact ⟨_, rfl, fun a K => run_ 1 K rfl fun a K => nil_ ⟨_, GJ c k hk, fg_ K ⟨rfl, rfl, rfl, rfl, rfl, rfl, rfl, rfl, rfl, trivial⟩, M.call b3, Kd.R_below Rv b3⟩⟩
    · exact cf_ K rfl (decide_eq_false c) (wp_skip (thn_ ⟨_, GC (ctn c), fg_ K ⟨rfl, rfl, rfl, rfl, rfl, rfl, rfl, rfl, rfl, trivial⟩, M, Rv⟩))
  clear K M Rv GJ GC
  rintro a W ⟨p0, hT, K, M, Rv⟩
  refine wp_seq (wp_block (wp_loop (fun a W => ∃ (k : Nat) (p : Int) (S : St) (v : Value), Tame F S ∧ (F - S.sp).toNat < k ∧ T = worksV r st from_ to_ F k p S ∧ Kn 152 [(16, .int .i64 p), (13, v), (14, .int .i64 S.ct), (15, .int .i64 S.sp), (1, .int .i64 st), (2, .int .i64 from_), (3, .int .i64 to_), (4, .int .i64 F), (5, .pointer (some ⟨g0, 0, none⟩))] a ∧ On [(g0, .cells cs 25 (0, 0))] w W ∧ Kd.R (Kd.int .i64) 3 W w.heap.size (fun _ => True) v S.out ∧ some g0 ≠ v.ownBlock) (fun a _ => leftZ 15 (F + 1) a) ⟨F.toNat + 2, p0, S0, v, T0, fuel_0 T0, hT, fg_ K ⟨rfl, rfl, rfl, rfl, rfl, rfl, rfl, rfl, rfl, trivial⟩, M, Rv, Fv⟩ ?_))
  clear K M Rv Fv hT T0
  rintro a W ⟨k, p, S, v, hS, hk, hT, K, M, Rv, Fv⟩
  have KL := leftZ_ (z := F + 1) (d := 15) K rfl
  obtain ⟨k, rfl⟩ : ∃ k', k = k' + 1 := ⟨k - 1, by omega⟩
  unfold worksV at hT
  refine wp_seq (bjn_ (fun a' W' => ∃ (S2 : St) (v' : Value), Tame F S2 ∧ S.sp < S2.sp ∧ (spanV r p).2.2 = 0 ∧ T = worksV r st from_ to_ F k (p + r.iv) S2 ∧ Kn 152 [(16, .int .i64 p), (13, v'), (14, .int .i64 S2.ct), (15, .int .i64 S2.sp), (1, .int .i64 st), (2, .int .i64 from_), (3, .int .i64 to_), (4, .int .i64 F), (5, .pointer (some ⟨g0, 0, none⟩))] a' ∧ On [(g0, .cells cs 25 (0, 0))] w W' ∧ Kd.R (Kd.int .i64) 3 W' w.heap.size (fun _ => True) v' S2.out ∧ some g0 ≠ v'.ownBlock) (sr_ (lda_ K M 0 rfl rfl rfl rfl rfl rfl rfl R.sz fun a K => run_ 1 K rfl fun a K => cl_ K Tryz.func25 (by kernel_rfl) rfl rfl rfl rfl rfl rfl ((Span2_on (R.below M.bl) hl p).mono ?_))) ?_)
  rintro _ w2 ⟨rfl, b2⟩
  replace M := M.call b2
  refine ⟨_, rfl, fun a K => run_ 7 K rfl fun a K => nil_ ?_⟩
  case refine_2 =>
    rintro a' W' ⟨S2, v', hS2, lt, ok, hT2, K', M', R', F'⟩
    have nw := next_w h ok
    have fu := fuel_2 hS hS2 lt hk
    refine rg_ (run_ 2 K' rfl fun a5 K5 => ld_ K5 M' 0 rfl rfl rfl rfl rfl rfl R.c1 rfl fun a5 K5 => run_ 2 K5 rfl fun a5 K5 => nl_ ⟨⟨k, p + r.iv, S2, v', hS2, fu.1, hT2, fg_ (ks_ (i := 16) K5 rfl (congrArg (Value.int .i64) nw)) ⟨rfl, rfl, rfl, rfl, rfl, rfl, rfl, rfl, rfl, trivial⟩, M', R', F'⟩, ?_⟩)
    rw [leftZ_ (d := 15) K5 rfl, KL]
    exact fu.2
  replace Rv := Kd.R_below Rv b2
  refine wp_seq (sj_ (fun a' w' => Kn 152 [(78, .bool (decide ((spanV r p).2.2 ≠ 0) || endsV r to_ S.ct (spanV r p).1)), (17, .int .i64 (spanV r p).1), (18, .int .i64 (spanV r p).2.1), (16, .int .i64 p), (13, v), (14, .int .i64 S.ct), (15, .int .i64 S.sp), (1, .int .i64 st), (2, .int .i64 from_), (3, .int .i64 to_), (4, .int .i64 F), (5, .pointer (some ⟨g0, 0, none⟩))] a' ∧ On [(g0, .cells cs 25 (0, 0))] w w' ∧ Kd.R (Kd.int .i64) 3 w' w.heap.size (fun _ => True) v S.out) (rg_ ?_) ?_)
  · by_cases c1 : (spanV r p).2.2 = 0
    case neg =>
      have u1 : (!decide ((spanV r p).2.2 = 0)) = true := by rw [decide_eq_false c1]; rfl
      refine run_ 2 K rfl fun a K => run_ 26 (fx_ K u1) rfl fun a K => nil_ ?_
      exact ⟨fg_ (ks_ (i := 78) K rfl (congrArg Value.bool (show true = _ by rw [decide_eq_true c1]; rfl))) ⟨rfl, rfl, rfl, rfl, rfl, rfl, rfl, rfl, rfl, rfl, rfl, rfl, trivial⟩, M, Rv⟩
    have u1 : (!decide ((spanV r p).2.2 = 0)) = false := by rw [decide_eq_true c1]; rfl
    have ez : decide ((spanV r p).2.2 ≠ 0) = false := decide_eq_false fun q => q c1
    by_cases c2 : to_ < (spanV r p).1
    case pos =>
      have u5 := decide_eq_true c2
      refine run_ 2 K rfl fun a K => run_ 4 (fx_ K u1) rfl fun a K => run_ 22 (fx_ K u5) rfl fun a K => nil_ ?_
      exact ⟨fg_ (ks_ (i := 78) K rfl (congrArg Value.bool (show true = _ by rw [ez, ends_A c2]; rfl))) ⟨rfl, rfl, rfl, rfl, rfl, rfl, rfl, rfl, rfl, rfl, rfl, rfl, trivial⟩, M, Rv⟩
    have u5 := decide_eq_false c2
    cases hu : r.un with
    | true =>
      rw [hu] at R3
      by_cases c3 : r.ua < (spanV r p).1
      case pos =>
        have u14 := decide_eq_true c3
        refine run_ 2 K rfl fun a K => run_ 4 (fx_ K u1) rfl fun a K => run_ 3 (fx_ K u5) rfl fun a K => ld_ K M 0 rfl rfl rfl rfl rfl rfl R3 rfl fun a K => run_ 3 K rfl fun a K => ld_ K M 0 rfl rfl rfl rfl rfl rfl R.c4 rfl fun a K => run_ 1 K rfl fun a K => run_ 13 (fx_ K u14) rfl fun a K => nil_ ?_
        exact ⟨fg_ (ks_ (i := 78) K rfl (congrArg Value.bool (show true = _ by rw [ez, ends_B hu c3]; rfl))) ⟨rfl, rfl, rfl, rfl, rfl, rfl, rfl, rfl, rfl, rfl, rfl, rfl, trivial⟩, M, Rv⟩
      have u14 := decide_eq_false c3
      by_cases c4 : 0 < r.ct
      · have u20 := decide_eq_true c4
        refine run_ 2 K rfl fun a K => run_ 4 (fx_ K u1) rfl fun a K => run_ 3 (fx_ K u5) rfl fun a K => ld_ K M 0 rfl rfl rfl rfl rfl rfl R3 rfl fun a K => run_ 3 K rfl fun a K => ld_ K M 0 rfl rfl rfl rfl rfl rfl R.c4 rfl fun a K => run_ 1 K rfl fun a K => run_ 4 (fx_ K u14) rfl fun a K => ld_ K M 0 rfl rfl rfl rfl rfl rfl R.c2 rfl fun a K => run_ 1 K rfl fun a K => run_ 3 (fx_ K u20) rfl fun a K => ld_ K M 0 rfl rfl rfl rfl rfl rfl R.c2 rfl fun a K => run_ 3 K rfl fun a K => nil_ ?_
        exact ⟨fg_ (ks_ (i := 78) K rfl (congrArg Value.bool (by rw [ez, ← ends_C c2 (Or.inr ⟨hu, c3⟩) c4]; rfl))) ⟨rfl, rfl, rfl, rfl, rfl, rfl, rfl, rfl, rfl, rfl, rfl, rfl, trivial⟩, M, Rv⟩
      · have u20 := decide_eq_false c4
        refine run_ 2 K rfl fun a K => run_ 4 (fx_ K u1) rfl fun a K => run_ 3 (fx_ K u5) rfl fun a K => ld_ K M 0 rfl rfl rfl rfl rfl rfl R3 rfl fun a K => run_ 3 K rfl fun a K => ld_ K M 0 rfl rfl rfl rfl rfl rfl R.c4 rfl fun a K => run_ 1 K rfl fun a K => run_ 4 (fx_ K u14) rfl fun a K => ld_ K M 0 rfl rfl rfl rfl rfl rfl R.c2 rfl fun a K => run_ 1 K rfl fun a K => run_ 7 (fx_ K u20) rfl fun a K => nil_ ?_
        exact ⟨fg_ (ks_ (i := 78) K rfl (congrArg Value.bool (show false = _ by rw [ez, ← ends_D c2 (Or.inr ⟨hu, c3⟩) c4]; rfl))) ⟨rfl, rfl, rfl, rfl, rfl, rfl, rfl, rfl, rfl, rfl, rfl, rfl, trivial⟩, M, Rv⟩
    | false =>
      rw [hu] at R3
      by_cases c4 : 0 < r.ct
      · have u20 := decide_eq_true c4
        refine run_ 2 K rfl fun a K => run_ 4 (fx_ K u1) rfl fun a K => run_ 3 (fx_ K u5) rfl fun a K => ld_ K M 0 rfl rfl rfl rfl rfl rfl R3 rfl fun a K => run_ 9 K rfl fun a K => ld_ K M 0 rfl rfl rfl rfl rfl rfl R.c2 rfl fun a K => run_ 1 K rfl fun a K => run_ 3 (fx_ K u20) rfl fun a K => ld_ K M 0 rfl rfl rfl rfl rfl rfl R.c2 rfl fun a K => run_ 3 K rfl fun a K => nil_ ?_
        exact ⟨fg_ (ks_ (i := 78) K rfl (congrArg Value.bool (by rw [ez, ← ends_C c2 (Or.inl hu) c4]; rfl))) ⟨rfl, rfl, rfl, rfl, rfl, rfl, rfl, rfl, rfl, rfl, rfl, rfl, trivial⟩, M, Rv⟩
      · have u20 := decide_eq_false c4
        refine run_ 2 K rfl fun a K => run_ 4 (fx_ K u1) rfl fun a K => run_ 3 (fx_ K u5) rfl fun a K => ld_ K M 0 rfl rfl rfl rfl rfl rfl R3 rfl fun a K => run_ 9 K rfl fun a K => ld_ K M 0 rfl rfl rfl rfl rfl rfl R.c2 rfl fun a K => run_ 1 K rfl fun a K => run_ 7 (fx_ K u20) rfl fun a K => nil_ ?_
        exact ⟨fg_ (ks_ (i := 78) K rfl (congrArg Value.bool (show false = _ by rw [ez, ← ends_D c2 (Or.inl hu) c4]; rfl))) ⟨rfl, rfl, rfl, rfl, rfl, rfl, rfl, rfl, rfl, rfl, rfl, rfl, trivial⟩, M, Rv⟩
  clear K M Rv
  rintro a W ⟨K, M, Rv⟩
  by_cases cend : (spanV r p).2.2 ≠ 0 ∨ endsV r to_ S.ct (spanV r p).1 = true
  case pos =>
    rw [if_pos cend] at hT
    refine ct_ K rfl (by rcases cend with q | q; rw [decide_eq_true q]; rfl; rw [q, Bool.or_true]) (ex_ (thn_ (sr_ (run_ 5 K rfl fun a K => nil_ (ret3_ rfl K rfl rfl rfl ?_)))))
    rw [hT]
    exact ⟨v, rfl, Rv, M.bl⟩
  rw [if_neg cend] at hT
  have ok : (spanV r p).2.2 = 0 := Decidable.not_not.1 fun q => cend (Or.inl q)
  have e78 : (decide ((spanV r p).2.2 ≠ 0) || endsV r to_ S.ct (spanV r p).1) = false := by
    rw [decide_eq_false fun q => q ok, Bool.false_or]
    exact Bool.eq_false_iff.2 fun q => cend (Or.inr q)
  refine cs_ K rfl e78 (sr_ (lda_ K M 0 rfl rfl rfl rfl rfl rfl rfl R.sz fun a K => run_ 6 K rfl fun a K => cl_ K Tryz.func28 (by kernel_rfl) rfl rfl rfl rfl rfl rfl ((OF p S hS ok _ (R.below M.bl)).mono ?_)))
  clear e78 cend
  rintro _ W5 ⟨v5, rfl, R5, b5⟩
  have far5 : ∀ k, v.ownBlock = some k → k < W.heap.size := Kd.R_lt Rv
  have lt5 : g0 < W.heap.size := M.lt (.head _)
  replace M := M.call b5
  replace Rv := Kd.R_below Rv b5
  have hlen := TMO S hS (spanV r p).1 (spanV r p).2.1
  have sr := SR (A := (spanV r p).1) (B := (spanV r p).2.1) hS
  generalize hll : (letsL r st (spanV r p).1 (spanV r p).2.1).take ((F - S.sp).toNat + 1) = l at R5 hlen sr
  have cw := CW hS hlen
  obtain ⟨A5, c5, e5, hc5, C5⟩ := Kd.R_reads R5
  subst e5
  refine ⟨_, rfl, fun a K => run_ 1 K rfl fun a K => nil_ (sr_ (run_ 6 K rfl fun a K => nil_ (wp_seq (sr_ (run_ 3 K rfl fun a K => nil_ ?_)))))⟩
  by_cases cF : F < S.sp + 1 + (l.length : Int)
  case pos =>
    rw [sr.1 cF] at hT
    refine ct_ K rfl (by rw [cw]; exact decide_eq_true cF) (sr_ (run_ 3 K rfl fun a K => nil_ (ret3_ rfl K rfl rfl rfl ?_)))
    rw [hT]
    exact ⟨rfl, M.bl⟩
  have sr2 := sr.2 cF
  rw [sr2] at hT
  have tm := step_tame hS sr2
  clear sr
  refine cs_ K rfl (by rw [cw]; exact decide_eq_false cF) (sr_ ?_)
  have Pl : Calls Tryz.prog 27 #[.agg cs, .slice A5 l.length c5] W5 fun e W' => ∃ v6 b, e = .returned v6 ∧ Kd.R (Kd.int .i64) 3 W' b (fun _ => True) v6 (placesV r l) ∧ (∀ k, v.ownBlock = some k → k < b) ∧ g0 < b ∧ Below W5.heap.size W5 W' := by
    unfold placesV
    by_cases d : r.sp = []
    · rw [if_pos d]
      refine (picked_nil (R.below M.bl) d).mono ?_
      rintro _ W4 ⟨rfl, b4⟩
      exact ⟨_, _, rfl, Kd.R_below R5 b4, far5, lt5, b4⟩
    · rw [if_neg d]
      refine (picked_own (R.below M.bl) d hl.sp C5 (Nat.le_trans hlen (by decide))).mono ?_
      rintro _ W4 ⟨v6, rfl, R6, b4⟩
      exact ⟨_, _, rfl, R6, Kd.R_lt Rv, M.lt (.head _), b4⟩
  have plen := places_len r l
  refine lda_ K M 0 rfl rfl rfl rfl rfl rfl rfl R.sz fun a K => run_ 1 K rfl fun a K => cl_ K Tryz.func27 (by kernel_rfl) rfl rfl rfl rfl rfl rfl (Pl.mono ?_)
  rintro _ W4 ⟨v6, b, rfl, R6, far6, lt6, b4⟩
  replace M := M.call b4
  replace Rv := Kd.R_below Rv b4
  clear Pl C5 R5 far5 lt5 b4 b5 sr2
  generalize hpl : placesV r l = pl at R6 plen tm hT
  have tame := tame_now (r := r) (st := st) (from_ := from_) (to_ := to_) hS (S.sp + 1 + (l.length : Int)) pl
  obtain ⟨L2, A6, c6, e6, hand, M6, FF6⟩ : ∃ L2 A6 c6, v6 = .slice A6 pl.length c6 ∧ (0 < pl.length → ∃ ad, A6 = some ad ∧ ∀ W, On ((g0, .cells cs 25 (0, 0)) :: L2) w W → ∀ (j : Nat) (x : Int), pl[j]? = some x → W.cell? (ad.add (j * 1)) = some (.int .i64 x)) ∧ On ((g0, .cells cs 25 (0, 0)) :: L2) w W4 ∧ (∀ q ∈ L2, some q.1 ≠ v.ownBlock) := by
    by_cases d : 0 < pl.length
    · obtain ⟨g6, cap, cur, rfl, hg, hh, hcur⟩ := row_block R6 d
      refine ⟨[(g6, .cells cur 3 (0, 0))], _, cap, rfl, fun _ => ⟨_, rfl, fun V MV j x hx => ?_⟩, ?_, fun q hq => ?_⟩
      · have := (MV.cell (k := 1) rfl j).trans (hcur j x hx)
        by_cases q : j = 0
        · subst q; simpa [Addr.add] using this
        · simpa [Addr.add, q] using this
      · refine on_of M.bl (fun q hq => ?_) ?_
        · rcases List.mem_cons.1 hq with rfl | hq
          · exact on_mem M (.head _)
          · obtain rfl := List.mem_singleton.1 hq
            exact hh
        · refine List.nodup_cons.2 ⟨fun q => ?_, List.nodup_cons.2 ⟨List.not_mem_nil, List.nodup_nil⟩⟩
          have q2 : g0 = g6 := List.mem_singleton.1 q
          exact absurd (q2 ▸ lt6) (Nat.not_lt.2 hg)
      · obtain rfl := List.mem_singleton.1 hq
        intro e
        exact absurd (far6 _ e.symm) (Nat.not_lt.2 hg)
    · obtain ⟨A6, c6, e6, _, _⟩ := Kd.R_reads R6
      exact ⟨[], A6, c6, e6, fun q => absurd q d, M, fun q hq => absurd hq List.not_mem_nil⟩
  subst e6
  clear R6 far6 lt6 M
  have hpl2 : pl.length ≤ 1000001 := Nat.le_trans plen hlen
  have hpl3 : pl.length ≤ 4611686018427387904 := Nat.le_trans hpl2 (by decide)
  have hpl4 : pl.length ≤ 200001 := by have := hS.1; omega
  have tmi := fun i => tame i hF' hpl4
  clear tame hpl2 hpl4 plen hpl cF hll hlen
  have FA : ∀ q ∈ ((g0, .cells cs 25 (0, 0)) :: L2), some q.1 ≠ v.ownBlock := fun q hq => by
    rcases List.mem_cons.1 hq with rfl | hq
    · exact Fv
    · exact FF6 q hq
  clear FF6 Fv
  obtain ⟨S1, hS1⟩ : ∃ S1 : St, S1 = ⟨S.sp + 1 + (l.length : Int), S.ct, S.out⟩ := ⟨_, rfl⟩
  rw [← hS1] at tmi tm hT
  have Rv1 : Kd.R (Kd.int .i64) 3 W4 w.heap.size (fun _ => True) v S1.out := by rw [hS1]; exact Rv
  have k15 : wrap64 (wrap64 (S.sp + 1) + (l.length : Int)) = S1.sp := by rw [cw, hS1]
  have k14 : S.ct = S1.ct := by rw [hS1]
  clear Rv cw hS1
  refine ⟨_, rfl, fun a K => run_ 1 K rfl fun a K => nil_ (sr_ (run_ 1 K rfl fun a K => nil_ (wp_block (wp_loop (fun a W => ∃ (i : Nat) (v : Value), i ≤ pl.length ∧ Kn 152 [(21, .int .i64 (i : Int)), (20, .slice A6 pl.length c6), (16, .int .i64 p), (13, v), (14, .int .i64 (passV r st from_ to_ S1 (pl.take i)).ct), (15, .int .i64 S1.sp), (1, .int .i64 st), (2, .int .i64 from_), (3, .int .i64 to_), (4, .int .i64 F), (5, .pointer (some ⟨g0, 0, none⟩))] a ∧ On ((g0, .cells cs 25 (0, 0)) :: L2) w W ∧ Kd.R (Kd.int .i64) 3 W w.heap.size (fun _ => True) v (passV r st from_ to_ S1 (pl.take i)).out ∧ (∀ q ∈ ((g0, .cells cs 25 (0, 0)) :: L2), some q.1 ≠ v.ownBlock)) (fun a _ => leftN 21 pl.length a) ⟨0, v, Nat.zero_le _, fg_ (ks_ (i := 15) (ks_ (i := 14) K rfl (congrArg (Value.int .i64) k14)) rfl (congrArg (Value.int .i64) k15)) ⟨rfl, rfl, rfl, rfl, rfl, rfl, rfl, rfl, rfl, rfl, rfl, trivial⟩, M6, Rv1, FA⟩ ?_))))⟩
  clear K M6 Rv1 FA k14 k15
  rintro a W ⟨i, v, hi, K, M, Rv, Fv⟩
  have KL2 := leftN_ (n := pl.length) (d := 21) K rfl
  refine wp_seq (sr_ (run_ 4 K rfl fun a2 K2 => nil_ ?_))
  by_cases hc : i < pl.length
  case neg =>
    obtain rfl := nat_eq hi hc
    have sp1 := (pass_len r st from_ to_ S1 pl).1
    rw [List.take_length] at K2 Rv
    exact cf_ K2 rfl (kp_ge hc) (ex_ ⟨passV r st from_ to_ S1 pl, v, tm.1, tm.2, ok, hT, fg_ (ks_ (i := 15) K2 rfl (congrArg (Value.int .i64) sp1.symm)) ⟨rfl, rfl, rfl, rfl, rfl, rfl, rfl, rfl, rfl, trivial⟩, on_head M, Rv, Fv _ (.head _)⟩)
  have ei := kp_inc hc hpl3
  have ek := pass_take r st from_ to_ S1 hc
  obtain ⟨ad, eA, hat⟩ := hand (Nat.lt_of_le_of_lt (Nat.zero_le _) hc)
  subst eA
  have hx := List.getElem?_eq_getElem hc
  have hcell := fun V MV => hat V MV i _ hx
  obtain ⟨n1, n2, n3⟩ := tmi i
  generalize pl[i] = x at hx ek hcell
  refine ck_ K2 rfl (kp_lt hc) (wp_seq (bjn_ (fun a' W' => ∃ v', Kn 152 [(21, .int .i64 (i : Int)), (20, .slice (some ad) pl.length c6), (16, .int .i64 p), (13, v'), (14, .int .i64 (passV r st from_ to_ S1 (pl.take (i + 1))).ct), (15, .int .i64 S1.sp), (1, .int .i64 st), (2, .int .i64 from_), (3, .int .i64 to_), (4, .int .i64 F), (5, .pointer (some ⟨g0, 0, none⟩))] a' ∧ On ((g0, .cells cs 25 (0, 0)) :: L2) w W' ∧ Kd.R (Kd.int .i64) 3 W' w.heap.size (fun _ => True) v' (passV r st from_ to_ S1 (pl.take (i + 1))).out ∧ (∀ q ∈ ((g0, .cells cs 25 (0, 0)) :: L2), some q.1 ≠ v'.ownBlock)) (wp_seq (sj_ (fun a' w' => Kn 152 [(133, .bool (!goesV r st (passV r st from_ to_ S1 (pl.take i)).ct x)), (21, .int .i64 (i : Int)), (20, .slice (some ad) pl.length c6), (16, .int .i64 p), (13, v), (14, .int .i64 (passV r st from_ to_ S1 (pl.take i)).ct), (15, .int .i64 S1.sp), (1, .int .i64 st), (2, .int .i64 from_), (3, .int .i64 to_), (4, .int .i64 F), (5, .pointer (some ⟨g0, 0, none⟩))] a' ∧ On ((g0, .cells cs 25 (0, 0)) :: L2) w w' ∧ Kd.R (Kd.int .i64) 3 w' w.heap.size (fun _ => True) v (passV r st from_ to_ S1 (pl.take i)).out) ?_ ?_)) ?_))
  case refine_3 =>
    rintro a' W' ⟨v', K', M', R', F'⟩
    refine rg_ (run_ 3 K' rfl fun a5 K5 => nl_ ⟨⟨i + 1, v', hc, fg_ (ks_ (i := 21) K5 rfl (congrArg (Value.int .i64) ei)) ⟨rfl, rfl, rfl, rfl, rfl, rfl, rfl, rfl, rfl, rfl, rfl, trivial⟩, M', R', F'⟩, ?_⟩)
    rw [leftN_ (d := 21) K5 rfl, KL2, ei]
    exact leftN_lt hc
  · replace K := K2
    by_cases c1 : x ≤ st
    case pos =>
      have u5 := decide_eq_true c1
      refine draw_ fl rfl rfl M.drew ( dp_ 19 27 [0, 1, 4] K rfl rfl (by kernel_rfl) fun a K => dt_ 23 2 K M.drew rfl rfl rfl rfl (by kernel_rfl) (fun W hW => run_ix22 (kk := i) hc hpl3 rfl (K.of (x := .tmp 104) rfl) (K.of (x := .tmp 105) rfl)) fun a K => dt_ 31 3 K M.drew rfl rfl rfl rfl (by kernel_rfl) (fun W hW => run_ld rfl rfl (K.of (x := .tmp 106) rfl) (hcell W hW)) fun a K => dp_ 63 24 [5] K rfl rfl (by kernel_rfl) fun a K => dp_ 1073741823 0 [6, 7, 8, 9, 10, 11, 12, 13, 14, 15, 16, 17, 18, 19, 20, 21, 22, 23, 24, 25, 26, 27, 28, 29] (fx_ K u5) rfl rfl (by kernel_rfl) fun a K => dend_ (by kernel_rfl) ?_)
      exact ⟨fg_ (ks_ (i := 133) K rfl (congrArg Value.bool (goes_A c1))) ⟨rfl, rfl, rfl, rfl, rfl, rfl, rfl, rfl, rfl, rfl, rfl, rfl, trivial⟩, M.drew, Kd.R_drew Rv⟩
    have u5 := decide_eq_false c1
    cases hu : r.un with
    | true =>
      rw [hu] at R3
      by_cases c3 : r.ua < x
      case pos =>
        have u16 := decide_eq_true c3
        refine draw_ fl rfl rfl M.drew ( dp_ 19 27 [0, 1, 4] K rfl rfl (by kernel_rfl) fun a K => dt_ 23 2 K M.drew rfl rfl rfl rfl (by kernel_rfl) (fun W hW => run_ix22 (kk := i) hc hpl3 rfl (K.of (x := .tmp 104) rfl) (K.of (x := .tmp 105) rfl)) fun a K => dt_ 31 3 K M.drew rfl rfl rfl rfl (by kernel_rfl) (fun W hW => run_ld rfl rfl (K.of (x := .tmp 106) rfl) (hcell W hW)) fun a K => dp_ 63 24 [5] K rfl rfl (by kernel_rfl) fun a K => dp_ 255 22 [6, 7] (fx_ K u5) rfl rfl (by kernel_rfl) fun a K => dld_ 511 8 K M.drew 0 rfl rfl rfl rfl rfl rfl rfl R3 rfl (by kernel_rfl) fun a K => dp_ 20479 17 [9, 10, 11, 14] K rfl rfl (by kernel_rfl) fun a K => dld_ 53247 15 K M.drew 0 rfl rfl rfl rfl rfl rfl rfl R.c4 rfl (by kernel_rfl) fun a K => dt_ 57343 12 K M.drew rfl rfl rfl rfl (by kernel_rfl) (fun W hW => run_ix22 (kk := i) hc hpl3 rfl (K.of (x := .tmp 114) rfl) (K.of (x := .tmp 115) rfl)) fun a K => dt_ 65535 13 K M.drew rfl rfl rfl rfl (by kernel_rfl) (fun W hW => run_ld rfl rfl (K.of (x := .tmp 116) rfl) (hcell W hW)) fun a K => dp_ 131071 13 [16] K rfl rfl (by kernel_rfl) fun a K => dp_ 1073741823 0 [17, 18, 19, 20, 21, 22, 23, 24, 25, 26, 27, 28, 29] (fx_ K u16) rfl rfl (by kernel_rfl) fun a K => dend_ (by kernel_rfl) ?_)
        exact ⟨fg_ (ks_ (i := 133) K rfl (congrArg Value.bool (goes_B hu c3))) ⟨rfl, rfl, rfl, rfl, rfl, rfl, rfl, rfl, rfl, rfl, rfl, rfl, trivial⟩, M.drew, Kd.R_drew Rv⟩
      have u16 := decide_eq_false c3
      by_cases c4 : 0 < r.ct
      · have u22 := decide_eq_true c4
        refine draw_ fl rfl rfl M.drew ( dp_ 19 27 [0, 1, 4] K rfl rfl (by kernel_rfl) fun a K => dt_ 23 2 K M.drew rfl rfl rfl rfl (by kernel_rfl) (fun W hW => run_ix22 (kk := i) hc hpl3 rfl (K.of (x := .tmp 104) rfl) (K.of (x := .tmp 105) rfl)) fun a K => dt_ 31 3 K M.drew rfl rfl rfl rfl (by kernel_rfl) (fun W hW => run_ld rfl rfl (K.of (x := .tmp 106) rfl) (hcell W hW)) fun a K => dp_ 63 24 [5] K rfl rfl (by kernel_rfl) fun a K => dp_ 255 22 [6, 7] (fx_ K u5) rfl rfl (by kernel_rfl) fun a K => dld_ 511 8 K M.drew 0 rfl rfl rfl rfl rfl rfl rfl R3 rfl (by kernel_rfl) fun a K => dp_ 20479 17 [9, 10, 11, 14] K rfl rfl (by kernel_rfl) fun a K => dld_ 53247 15 K M.drew 0 rfl rfl rfl rfl rfl rfl rfl R.c4 rfl (by kernel_rfl) fun a K => dt_ 57343 12 K M.drew rfl rfl rfl rfl (by kernel_rfl) (fun W hW => run_ix22 (kk := i) hc hpl3 rfl (K.of (x := .tmp 114) rfl) (K.of (x := .tmp 115) rfl)) fun a K => dt_ 65535 13 K M.drew rfl rfl rfl rfl (by kernel_rfl) (fun W hW => run_ld rfl rfl (K.of (x := .tmp 116) rfl) (hcell W hW)) fun a K => dp_ 131071 13 [16] K rfl rfl (by kernel_rfl) fun a K => dp_ 2097151 9 [17, 18, 19, 20] (fx_ K u16) rfl rfl (by kernel_rfl) fun a K => dld_ 4194303 21 K M.drew 0 rfl rfl rfl rfl rfl rfl rfl R.c2 rfl (by kernel_rfl) fun a K => dp_ 8388607 7 [22] K rfl rfl (by kernel_rfl) fun a K => dp_ 67108863 4 [23, 24, 25] (fx_ K u22) rfl rfl (by kernel_rfl) fun a K => dld_ 134217727 26 K M.drew 0 rfl rfl rfl rfl rfl rfl rfl R.c2 rfl (by kernel_rfl) fun a K => dp_ 1073741823 0 [27, 28, 29] K rfl rfl (by kernel_rfl) fun a K => dend_ (by kernel_rfl) ?_)
        exact ⟨fg_ (ks_ (i := 133) K rfl (congrArg Value.bool (goes_C c1 (Or.inr ⟨hu, c3⟩) c4))) ⟨rfl, rfl, rfl, rfl, rfl, rfl, rfl, rfl, rfl, rfl, rfl, rfl, trivial⟩, M.drew, Kd.R_drew Rv⟩
      · have u22 := decide_eq_false c4
        refine draw_ fl rfl rfl M.drew ( dp_ 19 27 [0, 1, 4] K rfl rfl (by kernel_rfl) fun a K => dt_ 23 2 K M.drew rfl rfl rfl rfl (by kernel_rfl) (fun W hW => run_ix22 (kk := i) hc hpl3 rfl (K.of (x := .tmp 104) rfl) (K.of (x := .tmp 105) rfl)) fun a K => dt_ 31 3 K M.drew rfl rfl rfl rfl (by kernel_rfl) (fun W hW => run_ld rfl rfl (K.of (x := .tmp 106) rfl) (hcell W hW)) fun a K => dp_ 63 24 [5] K rfl rfl (by kernel_rfl) fun a K => dp_ 255 22 [6, 7] (fx_ K u5) rfl rfl (by kernel_rfl) fun a K => dld_ 511 8 K M.drew 0 rfl rfl rfl rfl rfl rfl rfl R3 rfl (by kernel_rfl) fun a K => dp_ 20479 17 [9, 10, 11, 14] K rfl rfl (by kernel_rfl) fun a K => dld_ 53247 15 K M.drew 0 rfl rfl rfl rfl rfl rfl rfl R.c4 rfl (by kernel_rfl) fun a K => dt_ 57343 12 K M.drew rfl rfl rfl rfl (by kernel_rfl) (fun W hW => run_ix22 (kk := i) hc hpl3 rfl (K.of (x := .tmp 114) rfl) (K.of (x := .tmp 115) rfl)) fun a K => dt_ 65535 13 K M.drew rfl rfl rfl rfl (by kernel_rfl) (fun W hW => run_ld rfl rfl (K.of (x := .tmp 116) rfl) (hcell W hW)) fun a K => dp_ 131071 13 [16] K rfl rfl (by kernel_rfl) fun a K => dp_ 2097151 9 [17, 18, 19, 20] (fx_ K u16) rfl rfl (by kernel_rfl) fun a K => dld_ 4194303 21 K M.drew 0 rfl rfl rfl rfl rfl rfl rfl R.c2 rfl (by kernel_rfl) fun a K => dp_ 8388607 7 [22] K rfl rfl (by kernel_rfl) fun a K => dp_ 1073741823 0 [23, 24, 25, 26, 27, 28, 29] (fx_ K u22) rfl rfl (by kernel_rfl) fun a K => dend_ (by kernel_rfl) ?_)
        exact ⟨fg_ (ks_ (i := 133) K rfl (congrArg Value.bool (goes_D c1 (Or.inr ⟨hu, c3⟩) (ctz c4)))) ⟨rfl, rfl, rfl, rfl, rfl, rfl, rfl, rfl, rfl, rfl, rfl, rfl, trivial⟩, M.drew, Kd.R_drew Rv⟩
    | false =>
      rw [hu] at R3
      by_cases c4 : 0 < r.ct
      · have u22 := decide_eq_true c4
        refine draw_ fl rfl rfl M.drew ( dp_ 19 27 [0, 1, 4] K rfl rfl (by kernel_rfl) fun a K => dt_ 23 2 K M.drew rfl rfl rfl rfl (by kernel_rfl) (fun W hW => run_ix22 (kk := i) hc hpl3 rfl (K.of (x := .tmp 104) rfl) (K.of (x := .tmp 105) rfl)) fun a K => dt_ 31 3 K M.drew rfl rfl rfl rfl (by kernel_rfl) (fun W hW => run_ld rfl rfl (K.of (x := .tmp 106) rfl) (hcell W hW)) fun a K => dp_ 63 24 [5] K rfl rfl (by kernel_rfl) fun a K => dp_ 255 22 [6, 7] (fx_ K u5) rfl rfl (by kernel_rfl) fun a K => dld_ 511 8 K M.drew 0 rfl rfl rfl rfl rfl rfl rfl R3 rfl (by kernel_rfl) fun a K => dp_ 2097151 9 [9, 10, 11, 12, 13, 14, 15, 16, 17, 18, 19, 20] K rfl rfl (by kernel_rfl) fun a K => dld_ 4194303 21 K M.drew 0 rfl rfl rfl rfl rfl rfl rfl R.c2 rfl (by kernel_rfl) fun a K => dp_ 8388607 7 [22] K rfl rfl (by kernel_rfl) fun a K => dp_ 67108863 4 [23, 24, 25] (fx_ K u22) rfl rfl (by kernel_rfl) fun a K => dld_ 134217727 26 K M.drew 0 rfl rfl rfl rfl rfl rfl rfl R.c2 rfl (by kernel_rfl) fun a K => dp_ 1073741823 0 [27, 28, 29] K rfl rfl (by kernel_rfl) fun a K => dend_ (by kernel_rfl) ?_)
        exact ⟨fg_ (ks_ (i := 133) K rfl (congrArg Value.bool (goes_C c1 (Or.inl hu) c4))) ⟨rfl, rfl, rfl, rfl, rfl, rfl, rfl, rfl, rfl, rfl, rfl, rfl, trivial⟩, M.drew, Kd.R_drew Rv⟩
      · have u22 := decide_eq_false c4
        refine draw_ fl rfl rfl M.drew ( dp_ 19 27 [0, 1, 4] K rfl rfl (by kernel_rfl) fun a K => dt_ 23 2 K M.drew rfl rfl rfl rfl (by kernel_rfl) (fun W hW => run_ix22 (kk := i) hc hpl3 rfl (K.of (x := .tmp 104) rfl) (K.of (x := .tmp 105) rfl)) fun a K => dt_ 31 3 K M.drew rfl rfl rfl rfl (by kernel_rfl) (fun W hW => run_ld rfl rfl (K.of (x := .tmp 106) rfl) (hcell W hW)) fun a K => dp_ 63 24 [5] K rfl rfl (by kernel_rfl) fun a K => dp_ 255 22 [6, 7] (fx_ K u5) rfl rfl (by kernel_rfl) fun a K => dld_ 511 8 K M.drew 0 rfl rfl rfl rfl rfl rfl rfl R3 rfl (by kernel_rfl) fun a K => dp_ 2097151 9 [9, 10, 11, 12, 13, 14, 15, 16, 17, 18, 19, 20] K rfl rfl (by kernel_rfl) fun a K => dld_ 4194303 21 K M.drew 0 rfl rfl rfl rfl rfl rfl rfl R.c2 rfl (by kernel_rfl) fun a K => dp_ 8388607 7 [22] K rfl rfl (by kernel_rfl) fun a K => dp_ 1073741823 0 [23, 24, 25, 26, 27, 28, 29] (fx_ K u22) rfl rfl (by kernel_rfl) fun a K => dend_ (by kernel_rfl) ?_)
        exact ⟨fg_ (ks_ (i := 133) K rfl (congrArg Value.bool (goes_D c1 (Or.inl hu) (ctz c4)))) ⟨rfl, rfl, rfl, rfl, rfl, rfl, rfl, rfl, rfl, rfl, rfl, rfl, trivial⟩, M.drew, Kd.R_drew Rv⟩
  clear K2 K M Rv KL2
  rintro a W ⟨K, M, Rv⟩
  cases hg : goesV r st (passV r st from_ to_ S1 (pl.take i)).ct x with
  | false =>
    rw [hg, if_neg (by decide)] at ek
    exact ct_ K rfl (by rw [hg]; rfl) (ex_ (thn_ ⟨v, by rw [ek]; exact fg_ K ⟨rfl, rfl, rfl, rfl, rfl, rfl, rfl, rfl, rfl, rfl, rfl, trivial⟩, M, by rw [ek]; exact Rv, Fv⟩))
  | true =>
  rw [hg, if_pos rfl] at ek
  have tw := told_st n1 n2
  refine cs_ K rfl (by rw [hg]; rfl) (sr_ (run_ 3 K rfl fun a K => nil_ (sr_ (run_ 2 K rfl fun a K => val_ K rfl rfl rfl (run_ix22 (kk := i) hc hpl3 rfl (K.of (x := .tmp 136) rfl) (K.of (x := .tmp 137) rfl)) fun a K => val_ K rfl rfl rfl (run_ld rfl rfl (K.of (x := .tmp 138) rfl) (hcell _ M)) fun a K => run_ 2 K rfl fun a K => cl_ K Tryz.func33 (by kernel_rfl) rfl rfl rfl rfl rfl rfl ((rin_on x from_ to_).mono ?_)))))
  rintro _ w6 ⟨rfl, b6⟩
  replace M := M.call b6
  refine ⟨_, rfl, fun a K => nil_ ?_⟩
  replace Rv := Kd.R_below Rv b6
  by_cases cin : from_ ≤ x ∧ x ≤ to_
  case neg =>
    have eo := tell_out (S := (passV r st from_ to_ S1 (pl.take i))) cin
    refine cf_ K rfl (decide_eq_false cin) (wp_skip ⟨v, ?_, M, by rw [ek, eo]; exact Rv, Fv⟩)
    rw [ek]
    exact fg_ (ks_ (i := 14) K rfl (congrArg (Value.int .i64) tw)) ⟨rfl, rfl, rfl, rfl, rfl, rfl, rfl, rfl, rfl, rfl, rfl, trivial⟩
  have eo := tell_in (S := (passV r st from_ to_ S1 (pl.take i))) cin
  obtain ⟨A0, c0, ev, _⟩ := Kd.R_reads Rv
  subst ev
  refine ct_ K rfl (decide_eq_true cin) (rg_ (run_ 3 K rfl fun a K => val_ K rfl rfl rfl (run_ix22 (kk := i) hc hpl3 rfl (K.of (x := .tmp 144) rfl) (K.of (x := .tmp 145) rfl)) fun a K => val_ K rfl rfl rfl (run_ld rfl rfl (K.of (x := .tmp 146) rfl) (hcell _ M)) fun a K => ap1_ K M rfl rfl rfl rfl rfl rfl rfl rfl rfl (fun _ => rfl) Rv Fv n3 fun a v1 W4 u R4 M F4 K => run_ 1 K rfl fun a K => ?_))
  refine nl_ ⟨v1, ?_, M, by rw [ek, eo]; exact R4, F4⟩
  rw [ek]
  exact fg_ (ks_ (i := 14) K rfl (congrArg (Value.int .i64) tw)) ⟨rfl, rfl, rfl, rfl, rfl, rfl, rfl, rfl, rfl, rfl, rfl, trivial⟩
end Go.Proofs.YtjjaiahfkiojlaaGreat.Pure
