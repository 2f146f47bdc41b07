/- rrule's functions of a wrong rule, or of a start of no year, as contracts. No condition beyond those each lemma names. -/
/- What the law RruleExact looks at, in plain numbers. No condition beyond those each lemma names. -/
import Derived.Test.YtjjaiahfkiojlaaGreatT23B
import Derived.Test.YtjjaiahfkiojlaaGreatOx21
import Derived.Test.YtjjaiahfkiojlaaGreatMT23P4
import Derived.Test.YtjjaiahfkiojlaaGreatMOx104
namespace Go.Proofs.YtjjaiahfkiojlaaGreat.Pure
open Go.RowKit Go.Proofs.YtjjaiahfkiojlaaGreat.O Go.Proofs.YtjjaiahfkiojlaaGreatW.PrintWords Go.Proofs.YtjjaiahfkiojlaaGreatW.PrintLast
open Go.Proofs.YtjjaiahfkiojlaaGreat.Civ
set_option linter.unusedVariables false
set_option linter.unusedSimpArgs false
set_option maxHeartbeats 4000000
set_option maxRecDepth 100000
section
variable {w : World}
theorem date2_on (n : Int) : ∃ y m d e : Int, ((-719528 ≤ n ∧ n ≤ 2933262) ∧ y = (dt n).1 ∧ e = 0 ∨ ¬ (-719528 ≤ n ∧ n ≤ 2933262) ∧ e = 23) ∧ ∀ V, Calls Tryz.prog 73 #[.int .i64 n] V (Rets V (.tuple #[.agg #[.int .i64 y, .int .i64 m, .int .i64 d], .int .i64 e])) := by
  by_cases c : -719528 ≤ n ∧ n ≤ 2933262
  · exact ⟨_, _, _, 0, Or.inl ⟨c, rfl, rfl⟩, fun V => date_on c.1 c.2⟩
  · obtain ⟨k, hk⟩ := (cdate_no (n := n) (by omega)).rounds
    exact ⟨_, _, _, 23, Or.inr ⟨c, rfl⟩, fun V => civil_Date.calls k n _ _ _ _ V hk⟩
theorem year2_on {t : Int} (h1 : -9223372036854775808 ≤ t) (h2 : t < 9223372036854775808) : Calls Tryz.prog 79 #[.int .i64 t] w (Rets w (.bool (decide (InT t)))) := by
  have M := On.nil w
  obtain ⟨y, m, d, e, hd, D⟩ := date2_on (t / 86400)
  have key : (e = 0 → 1 ≤ y → decide (y ≤ 9999) = decide (InT t)) ∧ (e = 0 → ¬ 1 ≤ y → ¬ InT t) ∧ (e ≠ 0 → ¬ InT t) := by
    rcases hd with ⟨c, rfl, rfl⟩ | ⟨c, rfl⟩
    · have r := yr_range c.1 c.2
      unfold yr at r
      refine ⟨fun _ q => decide_eq_decide.2 ⟨fun z => ?_, fun z => ?_⟩, fun _ q z => ?_, fun q => absurd rfl q⟩
      · have := r.1 ⟨q, z⟩; unfold InT; omega
      · have := dt_year z; exact this.2.1
      · have := dt_year z; exact q this.1
    · refine ⟨fun q => absurd q (by decide), fun q => absurd q (by decide), fun _ z => c ?_⟩
      have := dt_year z
      omega
  obtain ⟨key1, key2, key3⟩ := key
  refine en_ Tryz.func79 rfl rfl rfl fun a K => sr_ (run_ 1 K rfl fun a K => nil_ (sr_ (run_ 1 K rfl fun a K => cl_ K Tryz.func51 (by kernel_rfl) rfl rfl rfl rfl rfl rfl ((split_on h1 h2).mono ?_))))
  rintro _ w1 ⟨rfl, b1⟩
  replace M := M.call b1
  refine ⟨_, rfl, fun a K => run_ 5 K rfl fun a K => nil_ ?_⟩
  refine sr_ (run_ 1 K rfl fun a K => cl_ K Tryz.func73 (by kernel_rfl) rfl rfl rfl rfl rfl rfl ((D _).mono ?_))
  rintro _ w1 ⟨rfl, b1⟩
  replace M := M.call b1
  refine ⟨_, rfl, fun a K => run_ 3 K rfl fun a K => nw_ K M rfl rfl rfl rfl rfl rfl rfl (fun _ => rfl) rfl rfl rfl fun a g5 W5 M K => run_ 1 K rfl fun a K => nil_ ?_⟩
  refine sr_ ?_
  by_cases c1 : e = 0
  case neg =>
    have u1 := decide_eq_false c1
    refine run_ 2 K rfl fun a K => run_ 11 (fx_ K u1) rfl fun a K => nil_ ?_
    exact ret_ rfl K rfl ⟨bool_ret (decide_eq_false (key3 c1)).symm, M.bl⟩
  have u1 := decide_eq_true c1
  by_cases c2 : 1 ≤ y
  case neg =>
    have u5 := decide_eq_false c2
    refine run_ 2 K rfl fun a K => run_ 2 (fx_ K u1) rfl fun a K => ld_ K M 0 rfl rfl rfl rfl rfl rfl rfl rfl fun a K => run_ 1 K rfl fun a K => run_ 7 (fx_ K u5) rfl fun a K => nil_ ?_
    exact ret_ rfl K rfl ⟨bool_ret (decide_eq_false (key2 c1 c2)).symm, M.bl⟩
  have u5 := decide_eq_true c2
  refine run_ 2 K rfl fun a K => run_ 2 (fx_ K u1) rfl fun a K => ld_ K M 0 rfl rfl rfl rfl rfl rfl rfl rfl fun a K => run_ 1 K rfl fun a K => run_ 3 (fx_ K u5) rfl fun a K => ld_ K M 0 rfl rfl rfl rfl rfl rfl rfl rfl fun a K => run_ 3 K rfl fun a K => nil_ ?_
  exact ret_ rfl K rfl ⟨bool_ret (key1 c1 c2), M.bl⟩
end
/-- Why a rule's times can't be told. -/
noncomputable def whyV (r : RR) (st : Int) : Int := by classical exact if Right r then (if InT st then 0 else 23) else 21
theorem why_no {r : RR} {st : Int} (h : ¬ Right r) : whyV r st = 21 := by unfold whyV; exact if_neg h
theorem why_yr {r : RR} {st : Int} (h : Right r) (h' : ¬ InT st) : whyV r st = 23 := by unfold whyV; rw [if_pos h, if_neg h']
theorem why_ne {r : RR} {st : Int} (h : ¬ (Right r ∧ InT st)) : ¬ whyV r st = 0 := by
  by_cases c : Right r
  · rw [why_yr c fun q => h ⟨c, q⟩]; decide
  · rw [why_no c]; decide
section
variable {w : World} {cs : Array Value} {r : RR}
theorem check46_not (R : Rul w cs r) (h : Lens9 r) (u1 : -9223372036854775808 ≤ r.ua) (u2 : r.ua < 9223372036854775808) {st : Int} (s1 : -9223372036854775808 ≤ st) (s2 : st < 9223372036854775808) (hw : ¬ (Right r ∧ InT st)) : Calls Tryz.prog 46 #[.agg cs, .int .i64 st] w (Rets w (.int .i64 (whyV r st))) := by
  have M := On.nil w
  by_cases c : Right r
  case neg =>
    rw [why_no c]
    have v1 : decide ((21 : Int) = 0) = false := rfl
    refine en_ Tryz.func46 rfl rfl rfl fun a K => sr_ (bx_ K M rfl rfl rfl rfl rfl rfl fun a g2 W2 M K => run_ 1 K rfl fun a K => nil_ ?_)
    refine sr_ (lda_ K M 0 rfl rfl rfl rfl rfl rfl rfl R.sz fun a K => cl_ K Tryz.func40 (by kernel_rfl) rfl rfl rfl rfl rfl rfl ((check_not (R.below M.bl) h u1 u2 c).mono ?_))
    rintro _ w1 ⟨rfl, b1⟩
    replace M := M.call b1
    refine ⟨_, rfl, fun a K => run_ 1 K rfl fun a K => nil_ ?_⟩
    refine wp_seq (sr_ (run_ 2 K rfl fun a K => run_ 5 (fx_ K v1) rfl fun a K => nil_ ?_))
    exact cs_ K rfl rfl (sr_ (run_ 2 K rfl fun a K => nil_ (ret_ rfl K rfl ⟨rfl, M.bl⟩)))
  have hs : ¬ InT st := fun q => hw ⟨c, q⟩
  rw [why_yr c hs]
  have v1 : decide ((0 : Int) = 0) = true := rfl
  refine en_ Tryz.func46 rfl rfl rfl fun a K => sr_ (bx_ K M rfl rfl rfl rfl rfl rfl fun a g2 W2 M K => run_ 1 K rfl fun a K => nil_ ?_)
  refine sr_ (lda_ K M 0 rfl rfl rfl rfl rfl rfl rfl R.sz fun a K => cl_ K Tryz.func40 (by kernel_rfl) rfl rfl rfl rfl rfl rfl ((check_yes (R.below M.bl) h u1 u2 c).mono ?_))
  rintro _ w1 ⟨rfl, b1⟩
  replace M := M.call b1
  refine ⟨_, rfl, fun a K => run_ 1 K rfl fun a K => nil_ ?_⟩
  refine wp_seq (sr_ (run_ 2 K rfl fun a K => run_ 2 (fx_ K v1) rfl fun a K => cl_ K Tryz.func79 (by kernel_rfl) rfl rfl rfl rfl rfl rfl ((year2_on s1 s2).mono ?_)))
  rintro _ w4 ⟨rfl, b4⟩
  replace M := M.call b4
  refine ⟨_, rfl, fun a K => run_ 2 K rfl fun a K => nil_ ?_⟩
  exact ct_ K rfl (by rw [decide_eq_false hs]; rfl) (rg_ (run_ 1 K rfl fun a K => nil_ (sr_ (run_ 2 K rfl fun a K => nil_ (ret_ rfl K rfl ⟨rfl, M.bl⟩)))))
theorem times_not (R : Rul w cs r) {st e : Int} (he : ¬ e = 0) (C : ∀ V, Rul V cs r → Calls Tryz.prog 46 #[.agg cs, .int .i64 st] V (Rets V (.int .i64 e))) (f t F : Int) : Calls Tryz.prog 18 #[.agg cs, .int .i64 st, .int .i64 f, .int .i64 t, .int .i64 F] w (Rets w (.tuple #[.slice none 0 0, .int .i64 0, .int .i64 e])) := by
  have M := On.nil w
  refine en_ Tryz.func18 rfl rfl rfl fun a K => sr_ (bx_ K M rfl rfl rfl rfl rfl rfl fun a g5 W5 M K => run_ 3 K rfl fun a K => nil_ ?_)
  refine sr_ (lda_ K M 0 rfl rfl rfl rfl rfl rfl rfl R.sz fun a K => run_ 1 K rfl fun a K => cl_ K Tryz.func46 (by kernel_rfl) rfl rfl rfl rfl rfl rfl ((C _ (R.below M.bl)).mono ?_))
  rintro _ w2 ⟨rfl, b2⟩
  replace M := M.call b2
  refine ⟨_, rfl, fun a K => run_ 1 K rfl fun a K => nil_ ?_⟩
  exact wp_seq (sr_ (run_ 2 K rfl fun a K => nil_ (ct_ K rfl (ne0_ he) (sr_ (run_ 4 K rfl fun a K => nil_ (ret3_ rfl K rfl rfl rfl ⟨rfl, M.bl⟩))))))
theorem of_not (R : Rul w cs r) {st e : Int} (he : ¬ e = 0) (C : ∀ V, Rul V cs r → Calls Tryz.prog 46 #[.agg cs, .int .i64 st] V (Rets V (.int .i64 e))) (p : Int) : Calls Tryz.prog 24 #[.agg cs, .int .i64 st, .int .i64 p] w (Rets w (.tuple #[.slice none 0 0, .int .i64 e])) := by
  have M := On.nil w
  refine en_ Tryz.func24 rfl rfl rfl fun a K => sr_ (bx_ K M rfl rfl rfl rfl rfl rfl fun a g3 W3 M K => run_ 2 K rfl fun a K => nil_ ?_)
  refine sr_ (lda_ K M 0 rfl rfl rfl rfl rfl rfl rfl R.sz fun a K => run_ 1 K rfl fun a K => cl_ K Tryz.func46 (by kernel_rfl) rfl rfl rfl rfl rfl rfl ((C _ (R.below M.bl)).mono ?_))
  rintro _ w2 ⟨rfl, b2⟩
  replace M := M.call b2
  refine ⟨_, rfl, fun a K => run_ 1 K rfl fun a K => nil_ ?_⟩
  exact wp_seq (sr_ (run_ 2 K rfl fun a K => nil_ (ct_ K rfl (ne0_ he) (sr_ (run_ 3 K rfl fun a K => nil_ (ret2_ rfl K rfl rfl ⟨rfl, M.bl⟩))))))
theorem last_not (R : Rul w cs r) {st e : Int} (he : ¬ e = 0) (C : ∀ V, Rul V cs r → Calls Tryz.prog 46 #[.agg cs, .int .i64 st] V (Rets V (.int .i64 e))) (t b F : Int) : Calls Tryz.prog 22 #[.agg cs, .int .i64 st, .int .i64 t, .int .i64 b, .int .i64 F] w (Rets w (.tuple #[.int .i64 0, .bool false, .int .i64 0, .int .i64 e])) := by
  have M := On.nil w
  have L1 : ∀ (x y : Int) (V : World), Rul V cs r → Calls Tryz.prog 18 #[.agg cs, .int .i64 st, .int .i64 (wrap64 (x - y)), .int .i64 x, .int .i64 F] V (Rets V (.tuple #[.slice none 0 0, .int .i64 0, .int .i64 e])) := fun x y V hV => times_not hV he C _ _ _
  refine en_ Tryz.func22 rfl rfl rfl fun a K => sr_ (bx_ K M rfl rfl rfl rfl rfl rfl fun a g5 W5 M K => run_ 4 K rfl fun a K => nil_ ?_)
  refine sj_ (fun a' w' => ∃ x y : Int, Kn 54 [(2, .int .i64 x), (3, .int .i64 y), (1, .int .i64 st), (4, .int .i64 F), (5, .pointer (some ⟨g5, 0, none⟩))] a' ∧ On [(g5, .cells cs 25 (0, 0))] w w') (sr_ ?_) ?_
  · by_cases c1 : -4611686018427387904 ≤ t ∧ t ≤ 4611686018427387904
    case neg =>
      have v2 : (!decide (-4611686018427387904 ≤ t ∧ t ≤ 4611686018427387904)) = true := by rw [decide_eq_false c1]; rfl
      refine run_ 1 K rfl fun a K => cl_ K Tryz.func47 (by kernel_rfl) rfl rfl rfl rfl rfl rfl ((in_on t).mono ?_)
      rintro _ w1 ⟨rfl, b1⟩
      replace M := M.call b1
      refine ⟨_, rfl, fun a K => run_ 1 K rfl fun a K => run_ 8 (fx_ K v2) rfl fun a K => nil_ ?_⟩
      exact ct_ K rfl rfl (rg_ (run_ 2 K rfl fun a K => nil_ ⟨0, -1, fg_ K ⟨rfl, rfl, rfl, rfl, rfl, trivial⟩, M⟩))
    have v2 : (!decide (-4611686018427387904 ≤ t ∧ t ≤ 4611686018427387904)) = false := by rw [decide_eq_true c1]; rfl
    by_cases c2 : b < 0
    case pos =>
      have v5 := decide_eq_true c2
      refine run_ 1 K rfl fun a K => cl_ K Tryz.func47 (by kernel_rfl) rfl rfl rfl rfl rfl rfl ((in_on t).mono ?_)
      rintro _ w1 ⟨rfl, b1⟩
      replace M := M.call b1
      refine ⟨_, rfl, fun a K => run_ 1 K rfl fun a K => run_ 3 (fx_ K v2) rfl fun a K => run_ 5 (fx_ K v5) rfl fun a K => nil_ ?_⟩
      exact ct_ K rfl rfl (rg_ (run_ 2 K rfl fun a K => nil_ ⟨0, -1, fg_ K ⟨rfl, rfl, rfl, rfl, rfl, trivial⟩, M⟩))
    have v5 := decide_eq_false c2
    refine run_ 1 K rfl fun a K => cl_ K Tryz.func47 (by kernel_rfl) rfl rfl rfl rfl rfl rfl ((in_on t).mono ?_)
    rintro _ w1 ⟨rfl, b1⟩
    replace M := M.call b1
    refine ⟨_, rfl, fun a K => run_ 1 K rfl fun a K => run_ 3 (fx_ K v2) rfl fun a K => run_ 5 (fx_ K v5) rfl fun a K => nil_ ?_⟩
    by_cases c3 : 4611686018427387904 < b
    · exact ct_ K rfl (decide_eq_true c3) (rg_ (run_ 2 K rfl fun a K => nil_ ⟨0, -1, fg_ K ⟨rfl, rfl, rfl, rfl, rfl, trivial⟩, M⟩))
    · exact cf_ K rfl (decide_eq_false c3) (wp_skip (thn_ ⟨t, b, fg_ K ⟨rfl, rfl, rfl, rfl, rfl, trivial⟩, M⟩))
  clear K M
  rintro a W ⟨x, y, K, M⟩
  refine sr_ (lda_ K M 0 rfl rfl rfl rfl rfl rfl rfl R.sz fun a K => run_ 6 K rfl fun a K => cl_ K Tryz.func18 (by kernel_rfl) rfl rfl rfl rfl rfl rfl ((L1 x y _ (R.below M.bl)).mono ?_))
  rintro _ w7 ⟨rfl, b7⟩
  replace M := M.call b7
  refine ⟨_, rfl, fun a K => run_ 7 K rfl fun a K => nil_ ?_⟩
  have v1 := ne0_ he
  refine wp_seq (sr_ (run_ 2 K rfl fun a K => run_ 5 (fx_ K v1) rfl fun a K => nil_ ?_))
  exact ct_ K rfl rfl (sr_ (run_ 6 K rfl fun a K => nil_ (ret4_ rfl K rfl rfl rfl rfl ⟨rfl, M.bl⟩)))
end
end Go.Proofs.YtjjaiahfkiojlaaGreat.Pure

namespace Go.Proofs.YtjjaiahfkiojlaaGreat.Pure
open Go.RowKit Go.Proofs.YtjjaiahfkiojlaaGreat.O Go.Proofs.YtjjaiahfkiojlaaGreatW.PrintWords Go.Proofs.YtjjaiahfkiojlaaGreatW.PrintLast
open Go.Proofs.YtjjaiahfkiojlaaGreat.Civ
set_option linter.unusedVariables false
set_option linter.unusedSimpArgs false
/-! What the law looks at -/
theorem times_may {r : RR} {st f t F : Int} (h : ¬ mayT f t F) : timesV r st f t F = ([], 0, 1) := by unfold timesV; rw [if_neg h]
theorem times_none {r : RR} {st f t F : Int} (h : mayT f t F) (g : goneV r st f t F = none) : timesV r st f t F = ([], 0, 22) := by unfold timesV; rw [if_pos h, g]
theorem times_some {r : RR} {st f t F : Int} {S : St} (h : mayT f t F) (g : goneV r st f t F = some S) : timesV r st f t F = (S.out, S.sp, 0) := by unfold timesV; rw [if_pos h, g]
/-- The law's bounds of Last. -/
def okL (t b F : Int) : Prop := 0 ≤ b ∧ b ≤ 4611686018427387904 ∧ (-4611686018427387904 ≤ t ∧ t ≤ 4611686018427387904) ∧ 0 ≤ F ∧ F ≤ 200000 ∧ b - 4611686018427387904 ≤ t
instance (t b F : Int) : Decidable (okL t b F) := by unfold okL; infer_instance
theorem okL_ask {t b F : Int} (h : okL t b F) : askV t b = (t, b) := by
  obtain ⟨h1, h2, h3, _⟩ := h
  unfold askV
  rw [if_pos ⟨h3, h1, h2⟩]
theorem okL_may {t b F : Int} (h : okL t b F) : mayT (t - b) t F ∧ wrap64 (t - b) = t - b := by
  obtain ⟨h1, h2, h3, h4, h5, h6⟩ := h
  refine ⟨⟨by omega, by omega, by omega, by omega, by omega, h4, h5⟩, w64 (by omega) (by omega)⟩
theorem last_bad {r : RR} {st t b F : Int} (h : ¬ okL t b F) : lastV r st t b F = (0, false, 0, 1) := by
  have m : ¬ mayT ((askV t b).1 - (askV t b).2) (askV t b).1 F := by
    unfold askV
    split
    · rename_i c
      intro q
      obtain ⟨q1, q2, q3, q4, q5, q6, q7⟩ := q
      exact h ⟨c.2.1, c.2.2, c.1, q6, q7, by dsimp only at q2; omega⟩
    · intro q
      have := q.1
      simp at this
  unfold lastV
  rw [times_may m, if_pos (Or.inl (by decide))]
theorem last_none {r : RR} {st t b F : Int} (h : okL t b F) (g : goneV r st (t - b) t F = none) : lastV r st t b F = (0, false, 0, 22) := by
  unfold lastV
  rw [okL_ask h]
  dsimp only
  rw [times_none (okL_may h).1 g, if_pos (Or.inl (by decide))]
theorem last_nil {r : RR} {st t b F : Int} {S : St} (h : okL t b F) (g : goneV r st (t - b) t F = some S) (e : S.out = []) : lastV r st t b F = (0, false, S.sp, 0) := by
  unfold lastV
  rw [okL_ask h]
  dsimp only
  rw [times_some (okL_may h).1 g, if_pos (Or.inr e)]
theorem last_some {r : RR} {st t b F : Int} {S : St} (h : okL t b F) (g : goneV r st (t - b) t F = some S) (e : S.out ≠ []) : lastV r st t b F = (S.out.getD (S.out.length - 1) 0, true, S.sp, 0) := by
  unfold lastV
  rw [okL_ask h]
  dsimp only
  rw [times_some (okL_may h).1 g, if_neg (fun q => q.elim (fun q => q rfl) e)]
theorem gone_len {r : RR} {st f t F : Int} {S : St} (h : mayT f t F) (g : goneV r st f t F = some S) : S.out.length ≤ 200001 := by
  have := times_len (r := r) (st := st) (from_ := f) (to_ := t) (F := F)
  rwa [times_some h g] at this
theorem back_w {b : Int} (h : ¬ b < 0) (h' : ¬ 4611686018427387904 < b) : wrap64 (b - 4611686018427387904) = b - 4611686018427387904 := w64 (by omega) (by omega)
/-- A short period's times are few. -/
theorem few_times {r : RR} (hw : Few r) {st p : Int} (h1 : 3 ≤ r.fr) (h2 : r.fr ≤ 4) (hs : r.sec.length < 5) (hp : (spanV r p).2.2 = 0) : (letsL r st (spanV r p).1 (spanV r p).2.1).length ≤ 100000 := by
  have o := (ok_span hp).2.1
  have e : ((spanV r p).2.1 / 86400 + 1 - (spanV r p).1 / 86400).toNat = 1 := by
    rw [o]
    dsimp only
    unfold spanW wholeV
    by_cases c : r.fr = 3
    · rw [if_neg (by omega), if_neg (by omega), if_pos c]
      dsimp only
      omega
    · rw [if_neg (by omega), if_neg (by omega), if_neg c, if_pos (show r.fr = 4 by omega)]
      dsimp only
      omega
  unfold letsL
  rw [e]
  have a := daysL_len r (st / 86400) (spanV r p).1 (spanV r p).2.1 (clocksV r (st % 86400) ((spanV r p).1 % 86400)) ((spanV r p).1 / 86400) 1
  have b := clk3_len (hoursV r (st % 86400) ((spanV r p).1 % 86400)) (minsV r (st % 86400) ((spanV r p).1 % 86400)) (secsV r (st % 86400) ((spanV r p).1 % 86400))
  have x := choice_len r.ho (if 3 < r.fr then st % 86400 / 3600 else (spanV r p).1 % 86400 / 3600)
  have y := choice_len r.mi (if 2 < r.fr then st % 86400 % 3600 / 60 else (spanV r p).1 % 86400 % 3600 / 60)
  have z := choice_len r.sec (if 1 < r.fr then st % 86400 % 60 else (spanV r p).1 % 86400 % 60)
  have f1 := hw.ho
  have f2 := hw.mi
  have m1 : (minsV r (st % 86400) ((spanV r p).1 % 86400)).length * (secsV r (st % 86400) ((spanV r p).1 % 86400)).length ≤ 101 * 5 := Nat.mul_le_mul (by unfold minsV; omega) (by unfold secsV; omega)
  have m2 : (hoursV r (st % 86400) ((spanV r p).1 % 86400)).length * ((minsV r (st % 86400) ((spanV r p).1 % 86400)).length * (secsV r (st % 86400) ((spanV r p).1 % 86400)).length) ≤ 101 * (101 * 5) := Nat.mul_le_mul (by unfold hoursV; omega) m1
  unfold clocksV at a ⊢
  rw [b] at a
  omega
theorem wrap_00 : wrap64 (((0 : Nat) : Int) + 0) = 0 := by rw [w64 (by decide) (by decide)]; rfl
theorem wrap_0 : wrap64 ((0 : Int) + 0) = 0 := by rw [w64 (by decide) (by decide)]; rfl
theorem wrap_000 : wrap64 (((0 : Nat) : Int) + ((0 : Nat) : Int)) = 0 := by rw [w64 (by decide) (by decide)]; rfl
theorem z_26 : (!decide (wrap64 (((0 : Nat) : Int) + 0) = 0)) = false := by rw [wrap_00]; rfl
theorem z_32 : decide (wrap64 ((0 : Int) + 0) = 0) = true := by rw [wrap_0]; rfl
theorem z_16 : decide (wrap64 (wrap64 (wrap64 (wrap64 (((0 : Nat) : Int) + ((0 : Nat) : Int)) + 0) + 0) + 0) = 0) = true := by rw [wrap_000, wrap_0, wrap_0, wrap_0]; rfl
theorem getD_at {l : List Int} (h : l ≠ []) : ∃ x, l.getD (l.length - 1) 0 = x ∧ l[l.length - 1]? = some x ∧ l.length - 1 < l.length := by
  have p := List.length_pos_iff.2 h
  have q : l.length - 1 < l.length := by omega
  exact ⟨l[l.length - 1], by simp [List.getD, List.getElem?_eq_getElem q], List.getElem?_eq_getElem q, q⟩
theorem len_w1 {l : List Int} (h : l ≠ []) (h' : l.length ≤ 200001) : wrap64 ((l.length : Int) - 1) = ((l.length - 1 : Nat) : Int) := by
  have p := List.length_pos_iff.2 h
  rw [w64 (by omega) (by omega)]; omega
end Go.Proofs.YtjjaiahfkiojlaaGreat.Pure
