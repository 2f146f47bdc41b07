/- A period's times, as a contract. No condition beyond those each lemma names. -/
/- A period's times are those that the rule lets, and they rise, in plain numbers. No condition beyond those each lemma names. -/
/- All that a rule's times tell, in plain numbers. No condition beyond those each lemma names. -/
/- What a rule tells without bounds, in plain numbers. No condition beyond those each lemma names. -/
import Derived.Test.YtjjaiahfkiojlaaGreatMT23h
import Derived.Test.YtjjaiahfkiojlaaGreatMHS0
import Derived.Test.YtjjaiahfkiojlaaGreatOx150
namespace Go.Proofs.YtjjaiahfkiojlaaGreat.Pure
open Go.RowKit Go.Proofs.YtjjaiahfkiojlaaGreat.O Go.Proofs.YtjjaiahfkiojlaaGreatW.PrintWords Go.Proofs.YtjjaiahfkiojlaaGreatW.PrintLast
open Go.Proofs.YtjjaiahfkiojlaaGreat.Civ
set_option linter.unusedVariables false
set_option linter.unusedSimpArgs false
set_option maxRecDepth 100000
set_option maxHeartbeats 4000000
theorem year_on {w : World} {t : Int} (h : InT t) : Calls Tryz.prog 79 #[.int .i64 t] w (Rets w (.bool true)) := by
  have s := day_split h
  have y := dt_year h
  refine en_ Tryz.func79 rfl rfl rfl fun a K => sr_ (run_ 1 K rfl fun a K => nil_ (sr_ (run_ 1 K rfl fun a K => cl_ K Tryz.func51 (by kernel_rfl) rfl rfl rfl rfl rfl rfl ((split_on s.1 s.2.1).mono ?_))))
  rintro _ w1 ⟨rfl, b1⟩
  refine ⟨_, rfl, fun a K => run_ 5 K rfl fun a K => nil_ (sr_ (run_ 1 K rfl fun a K => cl_ K Tryz.func73 (by kernel_rfl) rfl rfl rfl rfl rfl rfl ((date_on (Int.le_trans (by decide) y.2.2.1) (Int.le_trans y.2.2.2 (by decide))).mono ?_)))⟩
  rintro _ w2 ⟨rfl, b2⟩
  have M : On [] w w2 := ((On.nil w).call b1).call b2
  refine ⟨_, rfl, fun a K => run_ 3 K rfl fun a K => nw_ K M rfl rfl rfl rfl rfl rfl rfl (fun _ => rfl) rfl rfl rfl fun a g W M K => run_ 1 K rfl fun a K => nil_ (sr_ (run_ 3 K rfl fun a K => ?_))⟩
  refine run_ 1 (fx_ (c := true) K rfl) rfl fun a K => ld_ K M 0 rfl rfl rfl rfl rfl rfl rfl rfl fun a K => run_ 3 K rfl fun a K => ?_
  exact run_ 1 (fx_ (c := true) K (decide_eq_true y.1)) rfl fun a K => ld_ K M 0 rfl rfl rfl rfl rfl rfl rfl rfl fun a K => run_ 3 K rfl fun a K => nil_ (ret_ rfl K rfl ⟨by rw [← decide_eq_true y.2.1], M.bl⟩)
theorem check46_on {w : World} {cs : Array Value} {r : RR} {s : Int} (R : Rul w cs r) (h : Right r) (hs : InT s) : Calls Tryz.prog 46 #[.agg cs, .int .i64 s] w (Rets w (.int .i64 0)) := by
  refine en_ Tryz.func46 rfl rfl rfl fun a K => sr_ (bx_ K (On.nil w) rfl rfl rfl rfl rfl rfl fun a g0 W M K => run_ 1 K rfl fun a K => nil_ (sr_ (lda_ K M 0 rfl rfl rfl rfl rfl rfl rfl R.sz fun a K => cl_ K Tryz.func40 (by kernel_rfl) rfl rfl rfl rfl rfl rfl ((check_on (R.below M.bl) h).mono ?_))))
  rintro _ w1 ⟨rfl, b1⟩
  replace M := M.call b1
  refine ⟨_, rfl, fun a K => run_ 1 K rfl fun a K => nil_ (wp_seq (sr_ (run_ 3 K rfl fun a K => run_ 1 (fx_ (c := true) K rfl) rfl fun a K => cl_ K Tryz.func79 (by kernel_rfl) rfl rfl rfl rfl rfl rfl ((year_on hs).mono ?_))))⟩
  rintro _ w4 ⟨rfl, b4⟩
  replace M := M.call b4
  exact ⟨_, rfl, fun a K => run_ 2 K rfl fun a K => nil_ (cs_ K rfl rfl (sr_ (run_ 2 K rfl fun a K => nil_ (ret_ rfl K rfl ⟨rfl, M.bl⟩))))⟩
theorem lets_len {r : RR} (hw : Few r) {s p q : Int} (hp : InT p) (hq : InT q) : (letsL r s p q).length ≤ 4000000000000 := by
  have h1 := daysL_len r (s / 86400) p q (clocksV r (s % 86400) (p % 86400)) (p / 86400) (q / 86400 + 1 - p / 86400).toNat
  have h2 := let_n hp hq
  have h3 := clk_len hw (s % 86400) (p % 86400)
  have h4 := Nat.mul_le_mul h2 h3
  unfold letsL
  omega
theorem spanOk_in {r : RR} {p : Int} (h : (spanV r p).2.2 = 0) : InT (spanV r p).1 ∧ InT (spanV r p).2.1 := by
  unfold spanV at h ⊢
  split at h
  · rename_i e
    rw [if_pos e]
    exact e.2
  · cases h
theorem span_errno {r : RR} {p : Int} (h : (spanV r p).2.2 ≠ 0) : (spanV r p).2.2 = 23 := by
  unfold spanV at h ⊢
  split at h
  · exact absurd rfl h
  · rename_i e
    rw [if_neg e]
theorem ne0_ {n : Int} (h : ¬ n = 0) : (!decide (n = 0)) = true := by rw [decide_eq_false h]; rfl
theorem ne0f_ {n : Int} (h : n = 0) : (!decide (n = 0)) = false := by rw [decide_eq_true h]; rfl
theorem of_on {w : World} {cs : Array Value} {r : RR} (R : Rul w cs r) (h : Right r) (hw : Few r) {s p : Int} (hs : InT s) :
    Calls Tryz.prog 24 #[.agg cs, .int .i64 s, .int .i64 p] w fun e W' => ∃ v', e = .returned (.tuple #[v', .int .i64 (ofV r s p).2]) ∧ Kd.R (Kd.int .i64) 3 W' w.heap.size (fun _ => True) v' (ofV r s p).1 ∧ Below w.heap.size w W' := by
  have fl : Tryz.prog.follows .mixedOrders = true := by kernel_rfl
  refine en_ Tryz.func24 rfl rfl rfl fun a K => sr_ (bx_ K (On.nil w) rfl rfl rfl rfl rfl rfl fun a g0 W M K => run_ 2 K rfl fun a K => nil_ (sr_ (lda_ K M 0 rfl rfl rfl rfl rfl rfl rfl R.sz fun a K => run_ 1 K rfl fun a K => cl_ K Tryz.func46 (by kernel_rfl) rfl rfl rfl rfl rfl rfl ((check46_on (R.below M.bl) h hs).mono ?_))))
  rintro _ w2 ⟨rfl, b2⟩
  replace M := M.call b2
  refine ⟨_, rfl, fun a K => run_ 1 K rfl fun a K => nil_ (wp_seq (sr_ (run_ 2 K rfl fun a K => nil_ (cs_ K rfl rfl (sr_ (lda_ K M 0 rfl rfl rfl rfl rfl rfl rfl R.sz fun a K => run_ 1 K rfl fun a K => cl_ K Tryz.func17 (by kernel_rfl) rfl rfl rfl rfl rfl rfl ((Span_on (R.below M.bl) h p).mono ?_)))))))⟩
  rintro _ w3 ⟨rfl, b3⟩
  replace M := M.call b3
  refine ⟨_, rfl, fun a K => run_ 7 K rfl fun a K => nil_ (wp_seq (sr_ (run_ 2 K rfl fun a K => nil_ ?_)))⟩
  unfold ofV
  by_cases c : (spanV r p).2.2 = 0
  case neg =>
    rw [if_neg c]
    exact ct_ K rfl (ne0_ c) (sr_ (run_ 3 K rfl fun a K => nil_ (ret2_ rfl K rfl rfl ⟨_, rfl, Kd.R_nil _ _ _ _ _, M.bl⟩)))
  rw [if_pos c]
  obtain ⟨i1, i2⟩ := spanOk_in c
  have len := lets_len (s := s) hw i1 i2
  refine cs_ K rfl (ne0f_ c) ?_
  generalize (spanV r p).1 = A at i1 len K ⊢
  generalize (spanV r p).2.1 = B at i2 len K ⊢
  refine dseq_ fl rfl rfl M.drew (dp_ 28 6 [2, 3, 4] K rfl rfl (by kernel_rfl) fun a K => dlda_ 29 0 K M.drew 0 rfl rfl rfl rfl rfl rfl rfl rfl R.sz (by kernel_rfl) fun a K => dlda_ 31 1 K M.drew 0 rfl rfl rfl rfl rfl rfl rfl rfl R.sz (by kernel_rfl) fun a K => dc_ 63 5 K Tryz.func56 (by kernel_rfl) rfl rfl rfl rfl rfl rfl rfl (by kernel_rfl) ((letss_on (R.below M.drew.bl) h hw hs i1 i2 (show (0 : Int) ≤ 4611686018427387904 by decide)).mono ?_))
  rintro _ w5 ⟨v5, rfl, R5, b5⟩
  rw [all_take (Int.le_trans (Int.ofNat_le.2 len) (by decide))] at R5
  replace R5 := Kd.R_lower R5 M.drew.bl.size
  replace M := M.drew.call b5
  refine ⟨_, rfl, M, fun a K => ?_⟩
  unfold placesV
  by_cases d : r.sp = []
  · rw [if_pos d]
    refine dc_ 127 6 K Tryz.func55 (by kernel_rfl) rfl rfl rfl rfl rfl rfl rfl (by kernel_rfl) ((places_nil (R.below M.bl) d).mono ?_)
    rintro _ w6 ⟨rfl, b6⟩
    replace M := M.call b6
    exact ⟨_, rfl, M, fun a K => dp_ 511 0 [7, 8] K rfl rfl (by kernel_rfl) fun a K => dend_ (by kernel_rfl) (ret2_ rfl K rfl rfl ⟨_, rfl, Kd.R_below R5 b6, M.bl⟩)⟩
  · rw [if_neg d]
    obtain ⟨A5, c5, e5, _, C5⟩ := Kd.R_reads R5
    subst e5
    refine dc_ 127 6 K Tryz.func55 (by kernel_rfl) rfl rfl rfl rfl rfl rfl rfl (by kernel_rfl) ((places_own (R.below M.bl) d h.lens.sp C5 (Nat.le_trans len (by decide))).mono ?_)
    rintro _ w6 ⟨v6, rfl, R6, b6⟩
    have sz := M.bl.size
    replace M := M.call b6
    exact ⟨_, rfl, M, fun a K => dp_ 511 0 [7, 8] K rfl rfl (by kernel_rfl) fun a K => dend_ (by kernel_rfl) (ret2_ rfl K rfl rfl ⟨_, rfl, Kd.R_lower R6 sz, M.bl⟩)⟩
end Go.Proofs.YtjjaiahfkiojlaaGreat.Pure

namespace Go.Proofs.YtjjaiahfkiojlaaGreat.Pure
open Go.RowKit Go.Proofs.YtjjaiahfkiojlaaGreat.O Go.Proofs.YtjjaiahfkiojlaaGreatW.PrintWords Go.Proofs.YtjjaiahfkiojlaaGreatW.PrintLast
open Go.Proofs.YtjjaiahfkiojlaaGreat.Civ
set_option linter.unusedVariables false
set_option linter.unusedSimpArgs false
/-! What is told, told by what a rule lets -/
theorem choice_mem (l : List Int) (n x : Int) : x ∈ choiceV l n ↔ (l = [] ∧ x = n) ∨ (l ≠ [] ∧ x ∈ l) := by
  unfold choiceV
  split
  · rename_i h
    simp [h]
  · rename_i h
    rw [srt_mem]
    simp [h]
theorem clk_mem (hs ms ss : List Int) (x : Int) : x ∈ clk3 hs ms ss ↔ ∃ h ∈ hs, ∃ m ∈ ms, ∃ s ∈ ss, h * 3600 + m * 60 + s = x := by
  unfold clk3 clk2 clk1
  simp only [List.mem_flatMap, List.mem_map]
theorem clocks_mem {r : RR} (h : Right r) {s f x : Int} (hs : 0 ≤ s) (hs' : s < 86400) (hf : 0 ≤ f) (hf' : f < 86400) (hx : 0 ≤ x) (hx' : x < 86400) : x ∈ clocksV r s f ↔ x / 3600 ∈ hoursV r s f ∧ x % 3600 / 60 ∈ minsV r s f ∧ x % 60 ∈ secsV r s f := by
  obtain ⟨b1, b2, b3⟩ := clk_in h hs hs' hf hf'
  unfold clocksV
  rw [clk_mem]
  constructor
  · rintro ⟨a, ha, b, hb, c, hc, rfl⟩
    have q1 := b1 a ha
    have q2 := b2 b hb
    have q3 := b3 c hc
    have e1 : (a * 3600 + b * 60 + c) / 3600 = a := by omega
    have e2 : (a * 3600 + b * 60 + c) % 3600 / 60 = b := by omega
    have e3 : (a * 3600 + b * 60 + c) % 60 = c := by omega
    rw [e1, e2, e3]
    exact ⟨ha, hb, hc⟩
  · rintro ⟨q1, q2, q3⟩
    exact ⟨_, q1, _, q2, _, q3, by omega⟩
theorem one_choice (l : List Int) (n s own : Int) (asked : Bool) (h : asked = false → n = own) : n ∈ choiceV l (if asked = true then s else own) ↔ oneV l n s asked = true := by
  rw [choice_mem]
  unfold oneV
  by_cases c : l = []
  · cases asked with
    | true => simp [c]
    | false => simp [c, h rfl]
  · simp [c]
theorem clock_eq {r : RR} (h : Right r) {s f x : Int} (hs : 0 ≤ s) (hs' : s < 86400) (hf : 0 ≤ f) (hf' : f < 86400) (hx : 0 ≤ x) (hx' : x < 86400) (h3 : ¬ 3 < r.fr → x / 3600 = f / 3600) (h2 : ¬ 2 < r.fr → x % 3600 / 60 = f % 3600 / 60) (h1 : ¬ 1 < r.fr → x % 60 = f % 60) : x ∈ clocksV r s f ↔ clockV r s x = true := by
  rw [clocks_mem h hs hs' hf hf' hx hx']
  have a3 := one_choice r.ho (x / 3600) (s / 3600) (f / 3600) (decide (3 < r.fr)) (fun q => h3 (of_decide_eq_false q))
  have a2 := one_choice r.mi (x % 3600 / 60) (s % 3600 / 60) (f % 3600 / 60) (decide (2 < r.fr)) (fun q => h2 (of_decide_eq_false q))
  have a1 := one_choice r.sec (x % 60) (s % 60) (f % 60) (decide (1 < r.fr)) (fun q => h1 (of_decide_eq_false q))
  simp only [decide_eq_true_eq] at a1 a2 a3
  unfold clockV hoursV minsV secsV
  simp only [Bool.and_eq_true]
  rw [a3, a2, a1]
  constructor
  · rintro ⟨q1, q2, q3⟩; exact ⟨⟨q3, q2⟩, q1⟩
  · rintro ⟨⟨q3, q2⟩, q1⟩; exact ⟨q1, q2, q3⟩
theorem lets_mem {r : RR} (h : Right r) {st a b t : Int} : t ∈ letsL r st a b ↔ a ≤ t ∧ t ≤ b ∧ dayV r (st / 86400) (t / 86400) = true ∧ t % 86400 ∈ clocksV r (st % 86400) (a % 86400) := by
  have cd := clk_day h (s := st % 86400) (f := a % 86400) (by omega) (by omega) (by omega) (by omega)
  unfold letsL daysL
  generalize clocksV r (st % 86400) (a % 86400) = ts at cd
  simp only [List.mem_flatMap, List.mem_range]
  constructor
  · rintro ⟨i, hi, ht⟩
    unfold dayL at ht
    split at ht
    · rename_i hd
      unfold inL at ht
      simp only [List.mem_filter, List.mem_map] at ht
      obtain ⟨⟨x, hx, rfl⟩, hb⟩ := ht
      have c := cd x hx
      have e1 : ((a / 86400 + (i : Int)) * 86400 + x) / 86400 = a / 86400 + (i : Int) := by omega
      have e2 : ((a / 86400 + (i : Int)) * 86400 + x) % 86400 = x := by omega
      rw [e1, e2]
      simp at hb
      exact ⟨hb.1, hb.2, hd, hx⟩
    · cases ht
  · rintro ⟨h1, h2, h3, h4⟩
    refine ⟨(t / 86400 - a / 86400).toNat, by omega, ?_⟩
    have e : a / 86400 + (((t / 86400 - a / 86400).toNat : Nat) : Int) = t / 86400 := by omega
    rw [e]
    unfold dayL
    rw [if_pos h3]
    unfold inL
    simp only [List.mem_filter, List.mem_map]
    refine ⟨⟨_, h4, by omega⟩, ?_⟩
    rw [decide_eq_false (by omega), decide_eq_false (by omega)]
    rfl
/-- The times of a period: those within it that the rule lets. -/
theorem lets_spec {r : RR} (h : Right r) {st p t : Int} : t ∈ letsL r st (spanW r p).1 (spanW r p).2 ↔ (spanW r p).1 ≤ t ∧ t ≤ (spanW r p).2 ∧ dayV r (st / 86400) (t / 86400) = true ∧ clockV r (st % 86400) (t % 86400) = true := by
  rw [lets_mem h]
  constructor
  · rintro ⟨h1, h2, h3, h4⟩
    refine ⟨h1, h2, h3, ?_⟩
    have key := (clock_eq h (s := st % 86400) (f := (spanW r p).1 % 86400) (x := t % 86400) (by omega) (by omega) (by omega) (by omega) (by omega) (by omega) ?_ ?_ ?_).1 h4
    · exact key
    all_goals
      intro q
      unfold spanW at h1 h2 ⊢
      have f0 := h.lens.f0
      by_cases c1 : r.fr = 1
      · simp only [if_pos c1] at h1 h2 ⊢; omega
      by_cases c2 : r.fr = 2
      · simp only [if_neg c1, if_pos c2] at h1 h2 ⊢; omega
      by_cases c3 : r.fr = 3
      · simp only [if_neg c1, if_neg c2, if_pos c3] at h1 h2 ⊢; omega
      omega
  · rintro ⟨h1, h2, h3, h4⟩
    refine ⟨h1, h2, h3, ?_⟩
    refine (clock_eq h (s := st % 86400) (f := (spanW r p).1 % 86400) (x := t % 86400) (by omega) (by omega) (by omega) (by omega) (by omega) (by omega) ?_ ?_ ?_).2 h4
    all_goals
      intro q
      unfold spanW at h1 h2 ⊢
      have f0 := h.lens.f0
      by_cases c1 : r.fr = 1
      · simp only [if_pos c1] at h1 h2 ⊢; omega
      by_cases c2 : r.fr = 2
      · simp only [if_neg c1, if_pos c2] at h1 h2 ⊢; omega
      by_cases c3 : r.fr = 3
      · simp only [if_neg c1, if_neg c2, if_pos c3] at h1 h2 ⊢; omega
      omega
/-! They rise -/
theorem nodup_list {l : List Int} {b m : Int} {neg : Bool} (h : okList l b m neg = true) : l.Nodup := by
  simp only [okList, Bool.and_eq_true, decide_eq_true_eq] at h
  have h1 := h.1
  simp only [rightB, Bool.and_eq_true, Bool.not_eq_true'] at h1
  have := h1.2
  unfold dupI at this
  exact Classical.not_not.1 (of_decide_eq_false this)
theorem choice_rise {l : List Int} (n : Int) (h : l.Nodup) : (choiceV l n).Pairwise (· < ·) := by
  unfold choiceV
  split
  · simp
  · have p : (srt l).Perm l := List.mergeSort_perm _ _
    have s : (srt l).Pairwise (· ≤ ·) := by
      have := List.pairwise_mergeSort (le := fun x y : Int => decide (x ≤ y)) (fun a b c q1 q2 => by simp at q1 q2 ⊢; omega) (fun a b => by simp; omega) l
      unfold srt
      exact this.imp (fun q => by simpa using q)
    have nd : (srt l).Pairwise (· ≠ ·) := p.nodup_iff.2 h
    exact (s.and nd).imp (fun q => by omega)
theorem Right.nodups {r : RR} (h : Right r) : r.sec.Nodup ∧ r.mi.Nodup ∧ r.ho.Nodup := by
  have hh := h.ok
  simp only [okRecur, Bool.and_eq_true, decide_eq_true_eq] at hh
  obtain ⟨⟨⟨⟨⟨⟨q1, q2⟩, q3, q4⟩, q5, q6⟩, ⟨⟨⟨⟨⟨⟨⟨p6, p7⟩, p8⟩, p10⟩, p11⟩, p12⟩, p13⟩, p14⟩⟩, ⟨p91, p92⟩, p93⟩, pb⟩ := hh
  exact ⟨nodup_list p6, nodup_list p7, nodup_list p8⟩
theorem clocks_rise {r : RR} (h : Right r) {s f : Int} (hs : 0 ≤ s) (hs' : s < 86400) (hf : 0 ≤ f) (hf' : f < 86400) : (clocksV r s f).Pairwise (· < ·) := by
  obtain ⟨n1, n2, n3⟩ := h.nodups
  obtain ⟨b1, b2, b3⟩ := clk_in h hs hs' hf hf'
  have r1 : (hoursV r s f).Pairwise (· < ·) := choice_rise _ n3
  have r2 : (minsV r s f).Pairwise (· < ·) := choice_rise _ n2
  have r3 : (secsV r s f).Pairwise (· < ·) := choice_rise _ n1
  unfold clocksV
  generalize hoursV r s f = hs1 at b1 r1 ⊢
  generalize minsV r s f = ms at b2 r2 ⊢
  generalize secsV r s f = ss at b3 r3 ⊢
  have c1 : ∀ a m, (clk1 a m ss).Pairwise (· < ·) := fun a m => by
    unfold clk1
    rw [List.pairwise_map]
    exact r3.imp (fun q => by omega)
  have m1 : ∀ a m x, x ∈ clk1 a m ss → a * 3600 + m * 60 ≤ x ∧ x ≤ a * 3600 + m * 60 + 59 := fun a m x hx => by
    unfold clk1 at hx
    simp only [List.mem_map] at hx
    obtain ⟨c, hc, rfl⟩ := hx
    have := b3 c hc
    omega
  have c2 : ∀ a, (clk2 a ms ss).Pairwise (· < ·) := fun a => by
    unfold clk2
    rw [List.pairwise_flatMap]
    refine ⟨fun m _ => c1 a m, r2.imp (fun {m m'} q x hx y hy => ?_)⟩
    have := m1 _ _ _ hx
    have := m1 _ _ _ hy
    omega
  have m2 : ∀ a x, x ∈ clk2 a ms ss → a * 3600 ≤ x ∧ x ≤ a * 3600 + 3599 := fun a x hx => by
    unfold clk2 at hx
    simp only [List.mem_flatMap] at hx
    obtain ⟨m, hm, hx⟩ := hx
    have := b2 m hm
    have := m1 _ _ _ hx
    omega
  unfold clk3
  rw [List.pairwise_flatMap]
  refine ⟨fun a _ => c2 a, r1.imp (fun {a a'} q x hx y hy => ?_)⟩
  have := m2 _ _ hx
  have := m2 _ _ hy
  omega
theorem lets_rise {r : RR} (h : Right r) {st a b : Int} : (letsL r st a b).Pairwise (· < ·) := by
  have cr := clocks_rise h (s := st % 86400) (f := a % 86400) (by omega) (by omega) (by omega) (by omega)
  have cd := clk_day h (s := st % 86400) (f := a % 86400) (by omega) (by omega) (by omega) (by omega)
  unfold letsL daysL
  generalize clocksV r (st % 86400) (a % 86400) = ts at cr cd
  have one : ∀ d, (dayL r (st / 86400) a b ts d).Pairwise (· < ·) := fun d => by
    unfold dayL
    split
    · unfold inL
      exact List.Pairwise.filter _ (by rw [List.pairwise_map]; exact cr.imp (fun q => by omega))
    · exact List.Pairwise.nil
  have mem : ∀ d x, x ∈ dayL r (st / 86400) a b ts d → d * 86400 ≤ x ∧ x < d * 86400 + 86400 := fun d x hx => by
    unfold dayL at hx
    split at hx
    · unfold inL at hx
      simp only [List.mem_filter, List.mem_map] at hx
      obtain ⟨⟨y, hy, rfl⟩, _⟩ := hx
      have := cd y hy
      omega
    · cases hx
  rw [List.pairwise_flatMap]
  refine ⟨fun i _ => one _, List.pairwise_lt_range.imp (fun {i j} q x hx y hy => ?_)⟩
  have := mem _ _ hx
  have := mem _ _ hy
  omega
end Go.Proofs.YtjjaiahfkiojlaaGreat.Pure

namespace Go.Proofs.YtjjaiahfkiojlaaGreat.Pure
open Go.RowKit Go.Proofs.YtjjaiahfkiojlaaGreat.O Go.Proofs.YtjjaiahfkiojlaaGreatW.PrintWords Go.Proofs.YtjjaiahfkiojlaaGreatW.PrintLast
open Go.Proofs.YtjjaiahfkiojlaaGreat.Civ
set_option linter.unusedVariables false
set_option linter.unusedSimpArgs false
theorem Right.ivp {r : RR} (h : Right r) : 0 < r.iv := by have := h.iv; omega
theorem ok_span {r : RR} {p : Int} (h : (spanV r p).2.2 = 0) : InP r p ∧ spanV r p = ((spanW r p).1, (spanW r p).2, 0) ∧ InT (spanW r p).1 ∧ InT (spanW r p).2 := by
  unfold spanV at h ⊢
  split at h
  · rename_i e
    rw [if_pos e]
    exact ⟨e.1, rfl, e.2.1, e.2.2⟩
  · cases h
end Go.Proofs.YtjjaiahfkiojlaaGreat.Pure

namespace Go.Proofs.YtjjaiahfkiojlaaGreat.Pure
open Go.RowKit Go.Proofs.YtjjaiahfkiojlaaGreat.O Go.Proofs.YtjjaiahfkiojlaaGreatW.PrintWords Go.Proofs.YtjjaiahfkiojlaaGreatW.PrintLast
open Go.Proofs.YtjjaiahfkiojlaaGreat.Civ
set_option linter.unusedVariables false
set_option linter.unusedSimpArgs false
/-! What a rule tells, without bounds -/
def goU (r : RR) (st : Int) (s : Int × List Int) (t : Int) : Int × List Int := if goesV r st s.1 t then (s.1 + 1, s.2 ++ [t]) else s
def passU (r : RR) (st : Int) (s : Int × List Int) (l : List Int) : Int × List Int := l.foldl (goU r st) s
noncomputable def genU (r : RR) (st : Int) : Nat → Int → (Int × List Int) → (Int × List Int)
  | 0, _, s => s
  | k + 1, p, s => if (spanV r p).2.2 = 0 then genU r st k (p + r.iv) (passU r st s (placesV r (letsL r st (spanW r p).1 (spanW r p).2))) else s
noncomputable def G (r : RR) (st : Int) (K : Nat) : List Int := (genU r st K (perV r st) (1, [st])).2
theorem span_mono {r : RR} {p q : Int} (h : p ≤ q) : (spanW r p).1 ≤ (spanW r q).1 ∧ (spanW r p).2 ≤ (spanW r q).2 := by
  have := span_rise r p (q - p).toNat
  rw [show p + ((q - p).toNat : Int) = q by omega] at this
  omega
theorem inP_mid {r : RR} {p i q : Int} (hp : InP r p) (hq : InP r q) (l : p ≤ i) (u : i ≤ q) : InP r i := by
  unfold InP at *
  omega
theorem span_mid {r : RR} {p i q : Int} (hp : (spanV r p).2.2 = 0) (hq : (spanV r q).2.2 = 0) (l : p ≤ i) (u : i ≤ q) : (spanV r i).2.2 = 0 := by
  obtain ⟨a1, _, a3, a4⟩ := ok_span hp
  obtain ⟨b1, _, b3, b4⟩ := ok_span hq
  have m1 := span_mono (r := r) l
  have m2 := span_mono (r := r) u
  have le := spanW_le r i
  unfold spanV
  rw [if_pos ⟨inP_mid a1 b1 l u, by unfold InT at *; omega, by unfold InT at *; omega⟩]
end Go.Proofs.YtjjaiahfkiojlaaGreat.Pure
