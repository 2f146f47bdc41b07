/- A period's times are those that the rule lets, and they rise, in plain numbers. No condition beyond those each lemma names. -/
/- All that a rule's times tell, in plain numbers. No condition beyond those each lemma names. -/
import Derived.Test.YtjjaiahfkiojlaaGreatMT23j
import Derived.Test.YtjjaiahfkiojlaaGreatMOx8
import Derived.Test.YtjjaiahfkiojlaaGreatMOx150
namespace Go.Proofs.YtjjaiahfkiojlaaGreat.Pure
open Go.RowKit Go.Proofs.YtjjaiahfkiojlaaGreat.O Go.Proofs.YtjjaiahfkiojlaaGreatW.PrintWords Go.Proofs.YtjjaiahfkiojlaaGreatW.PrintLast
open Go.Proofs.YtjjaiahfkiojlaaGreat.Civ
set_option linter.unusedVariables false
set_option linter.unusedSimpArgs false
/-! What is told, told by what a rule lets -/
theorem choice_mem (l : List Int) (n x : Int) : x ∈ choiceV l n ↔ (l = [] ∧ x = n) ∨ (l ≠ [] ∧ x ∈ l) := by
  unfold choiceV
  split
  · rename_i h
    simp [h]
  · rename_i h
    rw [srt_mem]
    simp [h]
theorem clk_mem (hs ms ss : List Int) (x : Int) : x ∈ clk3 hs ms ss ↔ ∃ h ∈ hs, ∃ m ∈ ms, ∃ s ∈ ss, h * 3600 + m * 60 + s = x := by
  unfold clk3 clk2 clk1
  simp only [List.mem_flatMap, List.mem_map]
theorem clocks_mem {r : RR} (h : Right r) {s f x : Int} (hs : 0 ≤ s) (hs' : s < 86400) (hf : 0 ≤ f) (hf' : f < 86400) (hx : 0 ≤ x) (hx' : x < 86400) : x ∈ clocksV r s f ↔ x / 3600 ∈ hoursV r s f ∧ x % 3600 / 60 ∈ minsV r s f ∧ x % 60 ∈ secsV r s f := by
  obtain ⟨b1, b2, b3⟩ := clk_in h hs hs' hf hf'
  unfold clocksV
  rw [clk_mem]
  constructor
  · rintro ⟨a, ha, b, hb, c, hc, rfl⟩
    have q1 := b1 a ha
    have q2 := b2 b hb
    have q3 := b3 c hc
    have e1 : (a * 3600 + b * 60 + c) / 3600 = a := by omega
    have e2 : (a * 3600 + b * 60 + c) % 3600 / 60 = b := by omega
    have e3 : (a * 3600 + b * 60 + c) % 60 = c := by omega
    rw [e1, e2, e3]
    exact ⟨ha, hb, hc⟩
  · rintro ⟨q1, q2, q3⟩
    exact ⟨_, q1, _, q2, _, q3, by omega⟩
theorem one_choice (l : List Int) (n s own : Int) (asked : Bool) (h : asked = false → n = own) : n ∈ choiceV l (if asked = true then s else own) ↔ oneV l n s asked = true := by
  rw [choice_mem]
  unfold oneV
  by_cases c : l = []
  · cases asked with
    | true => simp [c]
    | false => simp [c, h rfl]
  · simp [c]
theorem clock_eq {r : RR} (h : Right r) {s f x : Int} (hs : 0 ≤ s) (hs' : s < 86400) (hf : 0 ≤ f) (hf' : f < 86400) (hx : 0 ≤ x) (hx' : x < 86400) (h3 : ¬ 3 < r.fr → x / 3600 = f / 3600) (h2 : ¬ 2 < r.fr → x % 3600 / 60 = f % 3600 / 60) (h1 : ¬ 1 < r.fr → x % 60 = f % 60) : x ∈ clocksV r s f ↔ clockV r s x = true := by
  rw [clocks_mem h hs hs' hf hf' hx hx']
  have a3 := one_choice r.ho (x / 3600) (s / 3600) (f / 3600) (decide (3 < r.fr)) (fun q => h3 (of_decide_eq_false q))
  have a2 := one_choice r.mi (x % 3600 / 60) (s % 3600 / 60) (f % 3600 / 60) (decide (2 < r.fr)) (fun q => h2 (of_decide_eq_false q))
  have a1 := one_choice r.sec (x % 60) (s % 60) (f % 60) (decide (1 < r.fr)) (fun q => h1 (of_decide_eq_false q))
  simp only [decide_eq_true_eq] at a1 a2 a3
  unfold clockV hoursV minsV secsV
  simp only [Bool.and_eq_true]
  rw [a3, a2, a1]
  constructor
  · rintro ⟨q1, q2, q3⟩; exact ⟨⟨q3, q2⟩, q1⟩
  · rintro ⟨⟨q3, q2⟩, q1⟩; exact ⟨q1, q2, q3⟩
theorem lets_mem {r : RR} (h : Right r) {st a b t : Int} : t ∈ letsL r st a b ↔ a ≤ t ∧ t ≤ b ∧ dayV r (st / 86400) (t / 86400) = true ∧ t % 86400 ∈ clocksV r (st % 86400) (a % 86400) := by
  have cd := clk_day h (s := st % 86400) (f := a % 86400) (by omega) (by omega) (by omega) (by omega)
  unfold letsL daysL
  generalize clocksV r (st % 86400) (a % 86400) = ts at cd
  simp only [List.mem_flatMap, List.mem_range]
  constructor
  · rintro ⟨i, hi, ht⟩
    unfold dayL at ht
    split at ht
    · rename_i hd
      unfold inL at ht
      simp only [List.mem_filter, List.mem_map] at ht
      obtain ⟨⟨x, hx, rfl⟩, hb⟩ := ht
      have c := cd x hx
      have e1 : ((a / 86400 + (i : Int)) * 86400 + x) / 86400 = a / 86400 + (i : Int) := by omega
      have e2 : ((a / 86400 + (i : Int)) * 86400 + x) % 86400 = x := by omega
      rw [e1, e2]
      simp at hb
      exact ⟨hb.1, hb.2, hd, hx⟩
    · cases ht
  · rintro ⟨h1, h2, h3, h4⟩
    refine ⟨(t / 86400 - a / 86400).toNat, by omega, ?_⟩
    have e : a / 86400 + (((t / 86400 - a / 86400).toNat : Nat) : Int) = t / 86400 := by omega
    rw [e]
    unfold dayL
    rw [if_pos h3]
    unfold inL
    simp only [List.mem_filter, List.mem_map]
    refine ⟨⟨_, h4, by omega⟩, ?_⟩
    rw [decide_eq_false (by omega), decide_eq_false (by omega)]
    rfl
/-- The times of a period: those within it that the rule lets. -/
theorem lets_spec {r : RR} (h : Right r) {st p t : Int} : t ∈ letsL r st (spanW r p).1 (spanW r p).2 ↔ (spanW r p).1 ≤ t ∧ t ≤ (spanW r p).2 ∧ dayV r (st / 86400) (t / 86400) = true ∧ clockV r (st % 86400) (t % 86400) = true := by
  rw [lets_mem h]
  constructor
  · rintro ⟨h1, h2, h3, h4⟩
    refine ⟨h1, h2, h3, ?_⟩
    have key := (clock_eq h (s := st % 86400) (f := (spanW r p).1 % 86400) (x := t % 86400) (by omega) (by omega) (by omega) (by omega) (by omega) (by omega) ?_ ?_ ?_).1 h4
    · exact key
    all_goals
      intro q
      unfold spanW at h1 h2 ⊢
      have f0 := h.lens.f0
      by_cases c1 : r.fr = 1
      · simp only [if_pos c1] at h1 h2 ⊢; omega
      by_cases c2 : r.fr = 2
      · simp only [if_neg c1, if_pos c2] at h1 h2 ⊢; omega
      by_cases c3 : r.fr = 3
      · simp only [if_neg c1, if_neg c2, if_pos c3] at h1 h2 ⊢; omega
      omega
  · rintro ⟨h1, h2, h3, h4⟩
    refine ⟨h1, h2, h3, ?_⟩
    refine (clock_eq h (s := st % 86400) (f := (spanW r p).1 % 86400) (x := t % 86400) (by omega) (by omega) (by omega) (by omega) (by omega) (by omega) ?_ ?_ ?_).2 h4
    all_goals
      intro q
      unfold spanW at h1 h2 ⊢
      have f0 := h.lens.f0
      by_cases c1 : r.fr = 1
      · simp only [if_pos c1] at h1 h2 ⊢; omega
      by_cases c2 : r.fr = 2
      · simp only [if_neg c1, if_pos c2] at h1 h2 ⊢; omega
      by_cases c3 : r.fr = 3
      · simp only [if_neg c1, if_neg c2, if_pos c3] at h1 h2 ⊢; omega
      omega
/-! They rise -/
theorem nodup_list {l : List Int} {b m : Int} {neg : Bool} (h : okList l b m neg = true) : l.Nodup := by
  simp only [okList, Bool.and_eq_true, decide_eq_true_eq] at h
  have h1 := h.1
  simp only [rightB, Bool.and_eq_true, Bool.not_eq_true'] at h1
  have := h1.2
  unfold dupI at this
  exact Classical.not_not.1 (of_decide_eq_false this)
theorem choice_rise {l : List Int} (n : Int) (h : l.Nodup) : (choiceV l n).Pairwise (· < ·) := by
  unfold choiceV
  split
  · simp
  · have p : (srt l).Perm l := List.mergeSort_perm _ _
    have s : (srt l).Pairwise (· ≤ ·) := by
      have := List.pairwise_mergeSort (le := fun x y : Int => decide (x ≤ y)) (fun a b c q1 q2 => by simp at q1 q2 ⊢; omega) (fun a b => by simp; omega) l
      unfold srt
      exact this.imp (fun q => by simpa using q)
    have nd : (srt l).Pairwise (· ≠ ·) := p.nodup_iff.2 h
    exact (s.and nd).imp (fun q => by omega)
theorem Right.nodups {r : RR} (h : Right r) : r.sec.Nodup ∧ r.mi.Nodup ∧ r.ho.Nodup := by
  have hh := h.ok
  simp only [okRecur, Bool.and_eq_true, decide_eq_true_eq] at hh
  obtain ⟨⟨⟨⟨⟨⟨q1, q2⟩, q3, q4⟩, q5, q6⟩, ⟨⟨⟨⟨⟨⟨⟨p6, p7⟩, p8⟩, p10⟩, p11⟩, p12⟩, p13⟩, p14⟩⟩, ⟨p91, p92⟩, p93⟩, pb⟩ := hh
  exact ⟨nodup_list p6, nodup_list p7, nodup_list p8⟩
theorem clocks_rise {r : RR} (h : Right r) {s f : Int} (hs : 0 ≤ s) (hs' : s < 86400) (hf : 0 ≤ f) (hf' : f < 86400) : (clocksV r s f).Pairwise (· < ·) := by
  obtain ⟨n1, n2, n3⟩ := h.nodups
  obtain ⟨b1, b2, b3⟩ := clk_in h hs hs' hf hf'
  have r1 : (hoursV r s f).Pairwise (· < ·) := choice_rise _ n3
  have r2 : (minsV r s f).Pairwise (· < ·) := choice_rise _ n2
  have r3 : (secsV r s f).Pairwise (· < ·) := choice_rise _ n1
  unfold clocksV
  generalize hoursV r s f = hs1 at b1 r1 ⊢
  generalize minsV r s f = ms at b2 r2 ⊢
  generalize secsV r s f = ss at b3 r3 ⊢
  have c1 : ∀ a m, (clk1 a m ss).Pairwise (· < ·) := fun a m => by
    unfold clk1
    rw [List.pairwise_map]
    exact r3.imp (fun q => by omega)
  have m1 : ∀ a m x, x ∈ clk1 a m ss → a * 3600 + m * 60 ≤ x ∧ x ≤ a * 3600 + m * 60 + 59 := fun a m x hx => by
    unfold clk1 at hx
    simp only [List.mem_map] at hx
    obtain ⟨c, hc, rfl⟩ := hx
    have := b3 c hc
    omega
  have c2 : ∀ a, (clk2 a ms ss).Pairwise (· < ·) := fun a => by
    unfold clk2
    rw [List.pairwise_flatMap]
    refine ⟨fun m _ => c1 a m, r2.imp (fun {m m'} q x hx y hy => ?_)⟩
    have := m1 _ _ _ hx
    have := m1 _ _ _ hy
    omega
  have m2 : ∀ a x, x ∈ clk2 a ms ss → a * 3600 ≤ x ∧ x ≤ a * 3600 + 3599 := fun a x hx => by
    unfold clk2 at hx
    simp only [List.mem_flatMap] at hx
    obtain ⟨m, hm, hx⟩ := hx
    have := b2 m hm
    have := m1 _ _ _ hx
    omega
  unfold clk3
  rw [List.pairwise_flatMap]
  refine ⟨fun a _ => c2 a, r1.imp (fun {a a'} q x hx y hy => ?_)⟩
  have := m2 _ _ hx
  have := m2 _ _ hy
  omega
theorem lets_rise {r : RR} (h : Right r) {st a b : Int} : (letsL r st a b).Pairwise (· < ·) := by
  have cr := clocks_rise h (s := st % 86400) (f := a % 86400) (by omega) (by omega) (by omega) (by omega)
  have cd := clk_day h (s := st % 86400) (f := a % 86400) (by omega) (by omega) (by omega) (by omega)
  unfold letsL daysL
  generalize clocksV r (st % 86400) (a % 86400) = ts at cr cd
  have one : ∀ d, (dayL r (st / 86400) a b ts d).Pairwise (· < ·) := fun d => by
    unfold dayL
    split
    · unfold inL
      exact List.Pairwise.filter _ (by rw [List.pairwise_map]; exact cr.imp (fun q => by omega))
    · exact List.Pairwise.nil
  have mem : ∀ d x, x ∈ dayL r (st / 86400) a b ts d → d * 86400 ≤ x ∧ x < d * 86400 + 86400 := fun d x hx => by
    unfold dayL at hx
    split at hx
    · unfold inL at hx
      simp only [List.mem_filter, List.mem_map] at hx
      obtain ⟨⟨y, hy, rfl⟩, _⟩ := hx
      have := cd y hy
      omega
    · cases hx
  rw [List.pairwise_flatMap]
  refine ⟨fun i _ => one _, List.pairwise_lt_range.imp (fun {i j} q x hx y hy => ?_)⟩
  have := mem _ _ hx
  have := mem _ _ hy
  omega
end Go.Proofs.YtjjaiahfkiojlaaGreat.Pure

namespace Go.Proofs.YtjjaiahfkiojlaaGreat.Pure
open Go.RowKit Go.Proofs.YtjjaiahfkiojlaaGreat.O Go.Proofs.YtjjaiahfkiojlaaGreatW.PrintWords Go.Proofs.YtjjaiahfkiojlaaGreatW.PrintLast
open Go.Proofs.YtjjaiahfkiojlaaGreat.Civ
set_option linter.unusedVariables false
set_option linter.unusedSimpArgs false
/-! All that is told -/
/-- A time that may be told. -/
def PT (r : RR) (st from_ to_ t : Int) : Prop := from_ ≤ t ∧ t ≤ to_ ∧ (t = st ∨ (st < t ∧ (r.un = true → t ≤ r.ua) ∧ InT t ∧ (∃ m : Int, perV r t = perV r st + m * r.iv) ∧ letsV r st t = true))
theorem pass_told {r : RR} {st from_ to_ : Int} (P : Int → Prop) : ∀ (l : List Int) (S : St), l.Pairwise (· < ·) → S.out.Pairwise (· < ·) → (∀ t ∈ S.out, P t) → (∀ x ∈ l, st < x → (r.un = true → x ≤ r.ua) → from_ ≤ x → x ≤ to_ → P x) → (∀ t ∈ S.out, ∀ x ∈ l, st < x → t < x) →
    (passV r st from_ to_ S l).out.Pairwise (· < ·) ∧ (∀ t ∈ (passV r st from_ to_ S l).out, P t) ∧ (∀ t ∈ (passV r st from_ to_ S l).out, t ∈ S.out ∨ t ∈ l) := by
  intro l
  induction l with
  | nil =>
    intro S _ h2 h3 _ _
    exact ⟨h2, h3, fun t ht => Or.inl ht⟩
  | cons x l ih =>
    intro S h1 h2 h3 h4 h5
    have h1' := List.pairwise_cons.1 h1
    have e : passV r st from_ to_ S (x :: l) = passV r st from_ to_ (if goesV r st S.ct x then tellV from_ to_ S x else S) l := rfl
    rw [e]
    by_cases g : goesV r st S.ct x = true
    · rw [if_pos g]
      have gg := g
      unfold goesV at gg
      simp only [Bool.and_eq_true, Bool.or_eq_true, Bool.not_eq_true', decide_eq_true_eq] at gg
      obtain ⟨⟨g1, g2⟩, _⟩ := gg
      by_cases c : from_ ≤ x ∧ x ≤ to_
      · have eo : (tellV from_ to_ S x).out = S.out ++ [x] := by unfold tellV; rw [if_pos c]
        have px : P x := h4 x (.head _) g1 (fun q => g2.resolve_left (by rw [q]; decide)) c.1 c.2
        have := ih (tellV from_ to_ S x) h1'.2 (by
          rw [eo, List.pairwise_append]
          refine ⟨h2, by simp, fun t ht y hy => ?_⟩
          obtain rfl : y = x := by simpa using hy
          exact h5 t ht y (.head _) g1) (by
          rw [eo]
          intro t ht
          rcases List.mem_append.1 ht with q | q
          · exact h3 t q
          · obtain rfl : t = x := by simpa using q
            exact px) (fun y hy => h4 y (.tail _ hy)) (by
          rw [eo]
          intro t ht y hy q
          rcases List.mem_append.1 ht with p | p
          · exact h5 t p y (.tail _ hy) q
          · obtain rfl : t = x := by simpa using p
            exact h1'.1 y hy)
        refine ⟨this.1, this.2.1, fun t ht => ?_⟩
        rcases this.2.2 t ht with q | q
        · rw [eo] at q
          rcases List.mem_append.1 q with p | p
          · exact Or.inl p
          · exact Or.inr (by simp at p; rw [p]; exact .head _)
        · exact Or.inr (.tail _ q)
      · have eo : (tellV from_ to_ S x).out = S.out := by unfold tellV; rw [if_neg c]
        have := ih (tellV from_ to_ S x) h1'.2 (by rw [eo]; exact h2) (by rw [eo]; exact h3) (fun y hy => h4 y (.tail _ hy)) (by rw [eo]; exact fun t ht y hy => h5 t ht y (.tail _ hy))
        rw [eo] at this
        exact ⟨this.1, this.2.1, fun t ht => (this.2.2 t ht).imp id (fun q => .tail _ q)⟩
    · rw [if_neg g]
      have := ih S h1'.2 h2 h3 (fun y hy => h4 y (.tail _ hy)) (fun t ht y hy => h5 t ht y (.tail _ hy))
      exact ⟨this.1, this.2.1, fun t ht => (this.2.2 t ht).imp id (fun q => .tail _ q)⟩
theorem Right.ivp {r : RR} (h : Right r) : 0 < r.iv := by have := h.iv; omega
theorem ok_span {r : RR} {p : Int} (h : (spanV r p).2.2 = 0) : InP r p ∧ spanV r p = ((spanW r p).1, (spanW r p).2, 0) ∧ InT (spanW r p).1 ∧ InT (spanW r p).2 := by
  unfold spanV at h ⊢
  split at h
  · rename_i e
    rw [if_pos e]
    exact ⟨e.1, rfl, e.2.1, e.2.2⟩
  · cases h
theorem in_per {r : RR} (h : Right r) {p t : Int} (hp : InP r p) (i1 : InT (spanW r p).1) (i2 : InT (spanW r p).2) (l : (spanW r p).1 ≤ t) (u : t ≤ (spanW r p).2) : InT t ∧ perV r t = p := by
  have it : InT t := by unfold InT at *; omega
  exact ⟨it, span_eq h.lens it (fun e => by have := (inP_bd h.lens hp).2.2.2.2.2.1 e; omega) l u⟩
theorem works_told {r : RR} {st from_ to_ F : Int} (h : Right r) (hst : InT st) (hsp : r.sp = []) : ∀ (k : Nat) (p : Int) (S S' : St), (∃ m : Int, p = perV r st + m * r.iv) → S.out.Pairwise (· < ·) → (∀ t ∈ S.out, PT r st from_ to_ t) → (∀ t ∈ S.out, t = st ∨ t < (spanW r p).1) → worksV r st from_ to_ F k p S = some S' → S'.out.Pairwise (· < ·) ∧ ∀ t ∈ S'.out, PT r st from_ to_ t := by
  intro k
  induction k with
  | zero => intro p S S' _ _ _ _ e; cases e
  | succ k ih =>
    intro p S S' hm h1 h2 h3 e
    rw [worksV] at e
    split at e
    · obtain rfl := Option.some.inj e
      exact ⟨h1, h2⟩
    rename_i c
    have c0 : (spanV r p).2.2 = 0 := Classical.not_not.1 (fun q => c (Or.inl q))
    obtain ⟨ip, es, i1, i2⟩ := ok_span c0
    split at e
    · cases e
    rename_i S1 hs
    rw [es] at hs
    dsimp only at hs
    unfold stepV at hs
    split at hs
    · cases hs
    split at hs
    · cases hs
    have hs1 := Option.some.inj hs
    rw [places_id hsp] at hs1
    have lr := lets_rise h (st := st) (a := (spanW r p).1) (b := (spanW r p).2)
    have lm : ∀ x ∈ (letsL r st (spanW r p).1 (spanW r p).2).take (F.toNat + 1), (spanW r p).1 ≤ x ∧ x ≤ (spanW r p).2 ∧ dayV r (st / 86400) (x / 86400) = true ∧ clockV r (st % 86400) (x % 86400) = true := fun x hx => (lets_spec h).1 (List.mem_of_mem_take hx)
    have lt := lr.sublist (List.take_sublist (F.toNat + 1) _)
    generalize hl : (letsL r st (spanW r p).1 (spanW r p).2).take (F.toNat + 1) = l at hs1 lm lt
    have t := pass_told (r := r) (st := st) (from_ := from_) (to_ := to_) (PT r st from_ to_) l ⟨S.sp + 1 + (l.length : Nat), S.ct, S.out⟩ lt h1 h2 (fun x hx q1 q2 q3 q4 => by
      obtain ⟨b1, b2, b3, b4⟩ := lm x hx
      obtain ⟨it, ep⟩ := in_per h ip i1 i2 b1 b2
      refine ⟨q3, q4, Or.inr ⟨q1, q2, it, ?_, ?_⟩⟩
      · rw [ep]; exact hm
      · unfold letsV
        rw [decide_eq_true hst, decide_eq_true it, b3, b4]
        rfl) (fun t ht x hx q => by
      rcases h3 t ht with e | e
      · rw [e]; exact q
      · have := (lm x hx).1
        omega)
    rw [hs1] at t
    have nx : (spanW r p).2 < (spanW r (p + r.iv)).1 := span_lt r (by have := h.ivp; omega)
    have le : (spanW r p).1 ≤ (spanW r p).2 := spanW_le r p
    refine ih (p + r.iv) S1 S' ?_ t.1 t.2.1 (fun x hx => ?_) e
    · obtain ⟨m, rfl⟩ := hm
      exact ⟨m + 1, by rw [Int.add_mul, Int.one_mul]; omega⟩
    · rcases t.2.2 x hx with q | q
      · rcases h3 x q with e2 | e2
        · exact Or.inl e2
        · exact Or.inr (by omega)
      · have := (lm x q).2.1
        exact Or.inr (by omega)
/-- What a rule's times are. -/
theorem times_told {r : RR} {st from_ to_ F : Int} (h : Right r) (hst : InT st) (hsp : r.sp = []) : (timesV r st from_ to_ F).1.Pairwise (· < ·) ∧ ∀ t ∈ (timesV r st from_ to_ F).1, PT r st from_ to_ t := by
  unfold timesV
  split
  · have base : (tellV from_ to_ ⟨0, 0, []⟩ st).out.Pairwise (· < ·) ∧ (∀ t ∈ (tellV from_ to_ ⟨0, 0, []⟩ st).out, PT r st from_ to_ t) ∧ (∀ t ∈ (tellV from_ to_ ⟨0, 0, []⟩ st).out, t = st) := by
      unfold tellV
      dsimp only
      split
      · rename_i c
        refine ⟨by simp, fun t ht => ?_, fun t ht => by simpa using ht⟩
        obtain rfl : t = st := by simpa using ht
        exact ⟨c.1, c.2, Or.inl rfl⟩
      · exact ⟨by simp, fun t ht => by simp at ht, fun t ht => by simp at ht⟩
    cases hg : goneV r st from_ to_ F with
    | none => exact ⟨by simp, fun t ht => by simp at ht⟩
    | some S =>
      dsimp only
      unfold goneV at hg
      by_cases hb : (beginV r st from_).2 = true
      · rw [if_pos hb] at hg
        refine works_told h hst hsp _ _ _ _ ?_ base.1 base.2.1 (fun t ht => Or.inl (base.2.2 t ht)) hg
        unfold beginV at hb ⊢
        split
        · exact ⟨0, by simp⟩
        · rename_i c1
          rw [if_neg c1] at hb
          split
          · exact ⟨_, rfl⟩
          · rename_i c2
            rw [if_neg c2] at hb
            exact absurd hb (by simp)
      · rw [if_neg hb] at hg
        obtain rfl := Option.some.inj hg
        exact ⟨base.1, base.2.1⟩
  · exact ⟨by simp, fun t ht => by simp at ht⟩
end Go.Proofs.YtjjaiahfkiojlaaGreat.Pure
