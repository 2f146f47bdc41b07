/- Where a worker begins, as a contract. No condition beyond those each lemma names. -/
import Derived.Test.YtfinhaghgmnegaaGreatMOx13
import Derived.Test.YtfinhaghgmnegaaGreatMHS0
namespace Go.Proofs.YtfinhaghgmnegaaGreat.Pure
open Go.RowKit Go.Proofs.YtfinhaghgmnegaaGreat.O Go.Proofs.YtfinhaghgmnegaaGreatW.PrintWords Go.Proofs.YtfinhaghgmnegaaGreatW.PrintLast
open Go.Proofs.YtfinhaghgmnegaaGreat.Civ
set_option linter.unusedVariables false
set_option linter.unusedSimpArgs false
set_option maxRecDepth 100000
set_option maxHeartbeats 4000000
/-- What is behind a part, joined. -/
theorem sj_ (J : Act → World → Prop) {a : Act} {w : World} {x y : Code} {Q : Exit → Act → World → Prop} (h : x.wp Tryz.prog (Exit.then J Q) a w) (k : ∀ a' w', J a' w' → y.wp Tryz.prog Q a' w') : (Code.seq x y).wp Tryz.prog Q a w := by
  refine wp_seq (wp_mono h (fun e a' w' hq => ?_))
  cases e with
  | normal => exact k _ _ hq
  | _ => exact hq
theorem on_mem {L : List (Nat × Obj)} {w0 W : World} (M : On L w0 W) {p : Nat × Obj} (hp : p ∈ L) : W.heap[p.1]? = some p.2 := by
  obtain ⟨k, hk, e⟩ := List.mem_iff_getElem.1 hp
  exact M.me k p.1 p.2 (by rw [List.getElem?_eq_getElem hk, e])
theorem on_of {L : List (Nat × Obj)} {w0 W : World} (bl : Below w0.heap.size w0 W) (me : ∀ p ∈ L, W.heap[p.1]? = some p.2) (nd : (L.map (·.1)).Nodup) : On L w0 W := ⟨bl, fun k g o e => me (g, o) (List.mem_of_getElem? e), nd⟩
/-- A block more, behind the first two. -/
theorem on_third {L : List (Nat × Obj)} {w0 W : World} {p q : Nat × Obj} {g : Nat} {o : Obj} (M : On (p :: q :: L) w0 W) (hg : W.heap[g]? = some o) (hne : ∀ x ∈ p :: q :: L, x.1 ≠ g) : On (p :: q :: (g, o) :: L) w0 W := by
  refine on_of M.bl (fun x hx => ?_) ?_
  · rcases List.mem_cons.1 hx with rfl | hx
    · exact on_mem M (.head _)
    rcases List.mem_cons.1 hx with rfl | hx
    · exact on_mem M (.tail _ (.head _))
    rcases List.mem_cons.1 hx with rfl | hx
    · exact hg
    · exact on_mem M (.tail _ (.tail _ hx))
  · have nd := M.nd
    simp only [List.map_cons, List.nodup_cons, List.mem_cons, List.mem_map, not_or, not_exists, not_and] at nd ⊢
    have h1 := hne p (.head _)
    have h2 := hne q (.tail _ (.head _))
    exact ⟨⟨nd.1.1, h1, nd.1.2⟩, ⟨h2, nd.2.1⟩, fun x hx => hne x (.tail _ (.tail _ hx)), nd.2.2⟩
theorem on_less {L : List (Nat × Obj)} {w0 W : World} {p q x : Nat × Obj} (M : On (p :: q :: x :: L) w0 W) : On (p :: q :: L) w0 W := by
  refine on_of M.bl (fun y hy => ?_) ?_
  · rcases List.mem_cons.1 hy with rfl | hy
    · exact on_mem M (.head _)
    rcases List.mem_cons.1 hy with rfl | hy
    · exact on_mem M (.tail _ (.head _))
    · exact on_mem M (.tail _ (.tail _ (.tail _ hy)))
  · have nd := M.nd
    simp only [List.map_cons, List.nodup_cons, List.mem_cons, not_or] at nd ⊢
    exact ⟨⟨nd.1.1, nd.1.2.2⟩, nd.2.1.2, nd.2.2.2⟩
theorem ne0n_ {n : Int} (h : ¬ ¬ n = 0) : (!decide (n = 0)) = false := ne0f_ (Decidable.not_not.1 h)
theorem quo_ {m n : Int} (h : n ≠ 0) : binE .quo m n = some (.int .i64 (wrap64 (Int.tdiv m n))) := by
  simp only [binE, decide_eq_false h]
theorem begins_on {L : List (Nat × Obj)} {w0 W : World} (M : On L w0 W) {gw gm : Nat} {r : RR} {s : Sl} {st from_ to_ ct : Int} {v : Value} (hL : L[0]? = some (gw, .cells (wc r s st from_ to_ gm ct v) 75 (0, 0))) (R : Rul W (rc r s) r) (h : Right r) (hs : InT st) :
    Calls Tryz.prog 49 #[.pointer (some ⟨gw, 0, none⟩)] W (Rets W (.tuple #[.int .i64 (beginV r st from_).1, .bool (beginV r st from_).2])) := by
  have fl : Tryz.prog.follows .mixedOrders = true := by kernel_rfl
  replace M := M.here
  obtain ⟨g, hg⟩ : ∃ g, g = decide ((spanV r (perV r st)).2.2 ≠ 0 ∨ 0 < r.ct ∨ from_ ≤ st) := ⟨_, rfl⟩
  have P1 : ∀ V, Rul V (rc r s) r → Calls Tryz.prog 59 #[.agg (rc r s), .int .i64 st] V (Rets V (.tuple #[.int .i64 (perV r st), .int .i64 0])) := fun V hV => by
    have := Period_on hV h st
    rw [if_pos hs] at this
    exact this
  refine en_ Tryz.func49 rfl rfl rfl fun a K => sr_ (run_ 2 K rfl fun a K => nil_ ?_)
  refine dseq_ fl rfl rfl M.drew (dp_ 119 8 [0, 1, 2, 4, 5, 6] K rfl rfl (by kernel_rfl) fun a K => dldr_ 127 3 K M.drew 0 rfl hL rfl rfl rfl rfl rfl (by kernel_rfl) fun a K => dld_ 255 7 K M.drew 0 rfl hL rfl rfl rfl rfl rfl rfl rfl (by kernel_rfl) fun a K => dc_ 511 8 K Tryz.func59 (by kernel_rfl) rfl rfl rfl rfl rfl rfl rfl (by kernel_rfl) ((P1 _ (R.below M.drew.bl)).mono ?_))
  rintro _ W1 ⟨rfl, b8⟩
  replace M := M.drew.call b8
  refine ⟨_, rfl, M, fun a K => dp_ 16383 0 [9, 10, 12, 11, 13] K rfl rfl (by kernel_rfl) fun a K => dend_ (by kernel_rfl) ?_⟩
  refine sr_ (run_ 3 K rfl fun a K => ldr_ K M 0 hL rfl rfl rfl rfl rfl fun a K => run_ 1 K rfl fun a K => cl_ K Tryz.func50 (by kernel_rfl) rfl rfl rfl rfl rfl rfl ((Span_on (R.below M.bl) h (perV r st)).mono ?_))
  rintro _ W2 ⟨rfl, b5⟩
  replace M := M.call b5
  refine ⟨_, rfl, fun a K => run_ 7 K rfl fun a K => nil_ (wp_seq ?_)⟩
  refine sj_ (fun a' w' => w' = W2.drew ∧ Kn 96 [(53, .bool g), (8, .int .i64 (spanV r (perV r st)).2.2), (4, .int .i64 (perV r st)), (0, .pointer (some ⟨gw, 0, none⟩))] a') (draw_ fl rfl rfl M.drew (dp_ 7 18 [0, 1, 2] K rfl rfl (by kernel_rfl) fun a K => ?_)) ?_
  replace M := M.drew
  by_cases c1 : ¬ (spanV r (perV r st)).2.2 = 0
  case pos =>
    refine dp_ 2097151 0 [3, 4, 5, 6, 7, 8, 9, 10, 11, 12, 13, 14, 15, 16, 17, 18, 19, 20] (fx_ K (ne0_ c1)) rfl rfl (by kernel_rfl) fun a K => dend_ (by kernel_rfl) ?_
    exact ⟨rfl, fg_ (ks_ (i := 53) (u := .bool g) K rfl (congrArg Value.bool (by rw [hg]; simp [c1]))) ⟨rfl, rfl, rfl, rfl, trivial⟩⟩
  case neg =>
    refine dp_ 127 14 [3, 4, 5, 6] (fx_ K (ne0n_ c1)) rfl rfl (by kernel_rfl) fun a K => dld_ 255 7 K M 0 rfl hL rfl rfl rfl rfl rfl rfl rfl (by kernel_rfl) fun a K => dp_ 2047 10 [8, 9, 10] K rfl rfl (by kernel_rfl) fun a K => ?_
    by_cases c2 : 0 < r.ct
    case pos =>
      refine dp_ 2097151 0 [11, 12, 13, 14, 15, 16, 17, 18, 19, 20] (fx_ K (decide_eq_true c2)) rfl rfl (by kernel_rfl) fun a K => dend_ (by kernel_rfl) ?_
      exact ⟨rfl, fg_ (ks_ (i := 53) (u := .bool g) K rfl (congrArg Value.bool (by rw [hg]; simp [c2]))) ⟨rfl, rfl, rfl, rfl, trivial⟩⟩
    case neg =>
      refine dp_ 245759 4 [11, 12, 13, 15, 16, 17] (fx_ K (decide_eq_false c2)) rfl rfl (by kernel_rfl) fun a K => dld_ 262143 14 K M 0 rfl hL rfl rfl rfl rfl rfl rfl rfl (by kernel_rfl) fun a K => dld_ 524287 18 K M 0 rfl hL rfl rfl rfl rfl rfl rfl rfl (by kernel_rfl) fun a K => dp_ 2097151 0 [19, 20] K rfl rfl (by kernel_rfl) fun a K => dend_ (by kernel_rfl) ?_
      exact ⟨rfl, fg_ (ks_ (i := 53) (u := .bool g) K rfl (congrArg Value.bool (by rw [hg]; simp [c1, c2]))) ⟨rfl, rfl, rfl, rfl, trivial⟩⟩
  rintro a _ ⟨rfl, K⟩
  replace M := M.drew
  unfold beginV
  cases g with
  | true =>
    rw [if_pos (of_decide_eq_true hg.symm)]
    exact ct_ K rfl rfl (sr_ (run_ 5 K rfl fun a K => nil_ (ret2_ rfl K rfl rfl ⟨rfl, M.bl⟩)))
  | false =>
  have hn := of_decide_eq_false hg.symm
  rw [if_neg hn]
  have hlt : st ≤ from_ := by
    refine Int.not_lt.1 fun q => hn (Or.inr (Or.inr (Int.le_of_lt q)))
  refine cs_ K rfl rfl ?_
  refine dseq_ fl rfl rfl M.drew (dp_ 119 8 [0, 1, 2, 4, 5, 6] K rfl rfl (by kernel_rfl) fun a K => dldr_ 127 3 K M.drew 0 rfl hL rfl rfl rfl rfl rfl (by kernel_rfl) fun a K => dld_ 255 7 K M.drew 0 rfl hL rfl rfl rfl rfl rfl rfl rfl (by kernel_rfl) fun a K => dc_ 511 8 K Tryz.func59 (by kernel_rfl) rfl rfl rfl rfl rfl rfl rfl (by kernel_rfl) ((Period_on (R.below M.drew.bl) h from_).mono ?_))
  rintro _ W3 ⟨rfl, b9⟩
  replace M := M.drew.call b9
  refine ⟨_, rfl, M, fun a K => ?_⟩
  by_cases hf : InT from_
  case neg =>
    rw [if_neg hf] at K ⊢
    exact dp_ 16383 0 [9, 10, 12, 11, 13] K rfl rfl (by kernel_rfl) fun a K => dend_ (by kernel_rfl) (wp_seq (sr_ (run_ 2 K rfl fun a K => nil_ (ct_ K rfl rfl (sr_ (run_ 2 K rfl fun a K => nil_ (ret2_ rfl K rfl rfl ⟨rfl, M.bl⟩)))))))
  rw [if_pos hf] at K ⊢
  obtain ⟨o1, o2, o3⟩ := over_w h hs hf hlt
  refine dp_ 16383 0 [9, 10, 12, 11, 13] K rfl rfl (by kernel_rfl) fun a K => dend_ (by kernel_rfl) (wp_seq (sr_ (run_ 2 K rfl fun a K => nil_ (cs_ K rfl rfl ?_))))
  have dz : decide (r.iv = 0) = false := decide_eq_false o3
  refine dseq_ fl rfl rfl M.drew (dp_ 15487 6 [0, 1, 2, 3, 4, 5, 6, 10, 11, 12, 13] K rfl rfl (by kernel_rfl) fun a K => dld_ 15615 7 K M.drew 0 rfl hL rfl rfl rfl rfl rfl rfl rfl (by kernel_rfl) fun a K => dp_ 16383 3 [8, 9] K rfl rfl (by kernel_rfl) fun a K => dld_ 32767 14 K M.drew 0 rfl hL rfl rfl rfl rfl rfl rfl rfl (by kernel_rfl) fun a K => dt_ 65535 15 K M.drew rfl rfl rfl rfl (by kernel_rfl) (fun W hW => run_bin rfl Tryz.underlying3 Tryz.underlying3 (K.of (x := .tmp 80) rfl) (K.of (x := .tmp 85) rfl) (quo_ o3)) fun a K => dp_ 131071 0 [16] K rfl rfl (by kernel_rfl) fun a K => dend_ (by kernel_rfl) ?_)
  replace M := M.drew
  replace K := ks_ (i := 10) K rfl (congrArg (Value.int .i64) o1)
  refine sr_ (run_ 6 K rfl fun a K => ld_ K M 0 hL rfl rfl rfl rfl rfl rfl rfl fun a K => run_ 4 K rfl fun a K => nil_ (ret2_ rfl K rfl rfl ⟨by rw [← o2], M.bl⟩))
end Go.Proofs.YtfinhaghgmnegaaGreat.Pure
