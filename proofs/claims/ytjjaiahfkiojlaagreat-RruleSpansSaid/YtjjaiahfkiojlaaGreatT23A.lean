/- What a rule tells without bounds, in plain numbers. No condition beyond those each lemma names. -/
import Derived.Test.YtjjaiahfkiojlaaGreatMT23R
namespace Go.Proofs.YtjjaiahfkiojlaaGreat.Pure
open Go.RowKit Go.Proofs.YtjjaiahfkiojlaaGreat.O Go.Proofs.YtjjaiahfkiojlaaGreatW.PrintWords Go.Proofs.YtjjaiahfkiojlaaGreatW.PrintLast
open Go.Proofs.YtjjaiahfkiojlaaGreat.Civ
set_option linter.unusedVariables false
set_option linter.unusedSimpArgs false
/-! What a rule tells, without bounds -/
def goU (r : RR) (st : Int) (s : Int × List Int) (t : Int) : Int × List Int := if goesV r st s.1 t then (s.1 + 1, s.2 ++ [t]) else s
def passU (r : RR) (st : Int) (s : Int × List Int) (l : List Int) : Int × List Int := l.foldl (goU r st) s
noncomputable def genU (r : RR) (st : Int) : Nat → Int → (Int × List Int) → (Int × List Int)
  | 0, _, s => s
  | k + 1, p, s => if (spanV r p).2.2 = 0 then genU r st k (p + r.iv) (passU r st s (placesV r (letsL r st (spanW r p).1 (spanW r p).2))) else s
noncomputable def G (r : RR) (st : Int) (K : Nat) : List Int := (genU r st K (perV r st) (1, [st])).2
def inB (a b t : Int) : Bool := decide (a ≤ t ∧ t ≤ b)
def Rel (r : RR) (a b : Int) (S : St) (T : Int × List Int) : Prop := (r.ct = 0 ∨ S.ct = T.1) ∧ S.out = T.2.filter (inB a b)
theorem goes_rel {r : RR} {st c d x : Int} (h : r.ct = 0 ∨ c = d) : goesV r st c x = goesV r st d x := by
  rcases h with h | h
  · unfold goesV; rw [decide_eq_true h]; simp
  · rw [h]
theorem pass_rel {r : RR} {st a b : Int} : ∀ (l : List Int) {S : St} {T : Int × List Int}, Rel r a b S T → Rel r a b (passV r st a b S l) (passU r st T l) ∧ (passV r st a b S l).sp = S.sp := by
  intro l
  induction l with
  | nil => exact fun h => ⟨h, rfl⟩
  | cons x l ih =>
    intro S T h
    have e1 : passV r st a b S (x :: l) = passV r st a b (if goesV r st S.ct x then tellV a b S x else S) l := rfl
    have e2 : passU r st T (x :: l) = passU r st (if goesV r st T.1 x then (T.1 + 1, T.2 ++ [x]) else T) l := rfl
    rw [e1, e2, goes_rel h.1]
    by_cases g : goesV r st T.1 x = true
    · rw [if_pos g, if_pos g]
      have := ih (S := tellV a b S x) (T := (T.1 + 1, T.2 ++ [x])) ⟨h.1.imp id (fun q => by show S.ct + 1 = T.1 + 1; rw [q]), by
        unfold tellV
        dsimp only
        rw [List.filter_append, ← h.2]
        by_cases c : a ≤ x ∧ x ≤ b
        · rw [if_pos c]; simp [inB, c]
        · rw [if_neg c]
          have : inB a b x = false := decide_eq_false c
          simp [this]⟩
      exact ⟨this.1, this.2⟩
    · rw [if_neg g, if_neg g]
      exact ih h
theorem picks_sub (sp l : List Int) (k : Nat) : (∀ x ∈ picksV sp l k, x ∈ l) ∧ (l.Pairwise (· < ·) → (picksV sp l k).Pairwise (· < ·)) := by
  unfold picksV
  refine ⟨fun x hx => ?_, fun h => ?_⟩
  · obtain ⟨i, _, e⟩ := List.mem_filterMap.1 hx
    exact List.mem_of_getElem? e
  · refine List.Pairwise.filterMap (R := (· < ·)) (S := (· < ·)) _ (fun i j hij x hx y hy => ?_) (List.Pairwise.filter _ List.pairwise_lt_range)
    have hx' : l[i]? = some x := hx
    have hy' : l[j]? = some y := hy
    obtain ⟨q1, rfl⟩ := List.getElem?_eq_some_iff.1 hx'
    obtain ⟨q2, rfl⟩ := List.getElem?_eq_some_iff.1 hy'
    exact List.pairwise_iff_getElem.1 h i j q1 q2 hij
theorem places_sub (r : RR) (l : List Int) : (∀ x ∈ placesV r l, x ∈ l) ∧ (l.Pairwise (· < ·) → (placesV r l).Pairwise (· < ·)) := by
  unfold placesV
  split
  · exact ⟨fun x hx => hx, fun h => h⟩
  · exact picks_sub _ _ _
theorem passU_new {r : RR} {st : Int} : ∀ (l : List Int) (T : Int × List Int), ∃ L, (passU r st T l).2 = T.2 ++ L ∧ (passU r st T l).1 = T.1 + (L.length : Nat) ∧ List.Sublist L l ∧ ∀ x ∈ L, st < x ∧ (r.un = true → x ≤ r.ua) := by
  intro l
  induction l with
  | nil => exact fun T => ⟨[], by simp [passU], by simp [passU], List.Sublist.slnil, by simp⟩
  | cons x l ih =>
    intro T
    have e2 : passU r st T (x :: l) = passU r st (if goesV r st T.1 x then (T.1 + 1, T.2 ++ [x]) else T) l := rfl
    rw [e2]
    by_cases g : goesV r st T.1 x = true
    · rw [if_pos g]
      obtain ⟨L, h1, h2, h3, h4⟩ := ih (T.1 + 1, T.2 ++ [x])
      refine ⟨x :: L, by rw [h1]; simp, by rw [h2]; simp only [List.length_cons]; omega, h3.cons_cons x, fun y hy => ?_⟩
      rcases List.mem_cons.1 hy with rfl | hy
      · unfold goesV at g
        simp only [Bool.and_eq_true, Bool.or_eq_true, Bool.not_eq_true', decide_eq_true_eq] at g
        exact ⟨g.1.1, fun q => g.1.2.resolve_left (by rw [q]; decide)⟩
      · exact h4 y hy
    · rw [if_neg g]
      obtain ⟨L, h1, h2, h3, h4⟩ := ih T
      exact ⟨L, h1, h2, h3.cons x, h4⟩
/-- What is told anew: of the period and later ones. -/
theorem genU_new {r : RR} {st : Int} (h : Right r) : ∀ (k : Nat) (p : Int) (T : Int × List Int), ∃ L, (genU r st k p T).2 = T.2 ++ L ∧ L.Pairwise (· < ·) ∧ ∀ x ∈ L, (spanW r p).1 ≤ x ∧ st < x ∧ (r.un = true → x ≤ r.ua) ∧ (0 < k → x ≤ (spanW r (p + ((k - 1 : Nat) : Int) * r.iv)).2) ∧ InT x := by
  intro k
  induction k with
  | zero => exact fun p T => ⟨[], by simp [genU], .nil, by simp⟩
  | succ k ih =>
    intro p T
    rw [genU]
    split
    · rename_i c0
      obtain ⟨_, _, i1, i2⟩ := ok_span c0
      have lr := lets_rise h (st := st) (a := (spanW r p).1) (b := (spanW r p).2)
      have pl := places_sub r (letsL r st (spanW r p).1 (spanW r p).2)
      obtain ⟨L1, a1, _, a3, a4⟩ := passU_new (r := r) (st := st) (placesV r (letsL r st (spanW r p).1 (spanW r p).2)) T
      obtain ⟨L2, b1, b2, b3⟩ := ih (p + r.iv) (passU r st T (placesV r (letsL r st (spanW r p).1 (spanW r p).2)))
      have nx : (spanW r p).2 < (spanW r (p + r.iv)).1 := span_lt r (by have := h.ivp; omega)
      have le := spanW_le r p
      have m1 : ∀ x ∈ L1, (spanW r p).1 ≤ x ∧ x ≤ (spanW r p).2 := fun x hx => by
        have := (lets_spec h).1 (pl.1 x (a3.subset hx))
        exact ⟨this.1, this.2.1⟩
      have up : (spanW r p).2 ≤ (spanW r (p + (k : Int) * r.iv)).2 := by
        by_cases q : k = 0
        · subst q; simp
        · have := span_lt r (p := p) (q := p + (k : Int) * r.iv) (by have := Int.mul_pos (a := (k : Int)) (b := r.iv) (by omega) h.ivp; omega)
          have := spanW_le r (p + (k : Int) * r.iv)
          omega
      refine ⟨L1 ++ L2, by rw [b1, a1, List.append_assoc], List.pairwise_append.2 ⟨(pl.2 lr).sublist a3, b2, fun x hx y hy => by have := m1 x hx; have := (b3 y hy).1; omega⟩, fun x hx => ?_⟩
      rw [Nat.add_sub_cancel]
      rcases List.mem_append.1 hx with hx | hx
      · have := m1 x hx
        exact ⟨this.1, (a4 x hx).1, (a4 x hx).2, fun _ => by omega, by unfold InT at *; omega⟩
      · obtain ⟨q1, q2, q3, q4, q5⟩ := b3 x hx
        refine ⟨by omega, q2, q3, fun _ => ?_, q5⟩
        by_cases k0 : 0 < k
        · have := q4 k0
          rw [show p + r.iv + ((k - 1 : Nat) : Int) * r.iv = p + (k : Int) * r.iv by
            rw [show ((k - 1 : Nat) : Int) = (k : Int) - 1 by omega, Int.sub_mul]; omega] at this
          exact this
        · have : k = 0 := by omega
          subst this
          rw [genU] at b1
          have : L2 = [] := by simpa using b1
          rw [this] at hx
          cases hx
    · exact ⟨[], by simp, .nil, by simp⟩
theorem genU_full {r : RR} {st : Int} (h0 : 0 < r.ct) : ∀ (k : Nat) (p : Int) (T : Int × List Int), r.ct ≤ T.1 → genU r st k p T = T := by
  have pf : ∀ (l : List Int) (T : Int × List Int), r.ct ≤ T.1 → passU r st T l = T := by
    intro l
    induction l with
    | nil => exact fun _ _ => rfl
    | cons x l ih =>
      intro T hT
      have e2 : passU r st T (x :: l) = passU r st (if goesV r st T.1 x then (T.1 + 1, T.2 ++ [x]) else T) l := rfl
      have g : ¬ goesV r st T.1 x = true := by
        unfold goesV
        simp only [Bool.and_eq_true, Bool.or_eq_true, Bool.not_eq_true', decide_eq_true_eq]
        omega
      rw [e2, if_neg g]
      exact ih T hT
  intro k
  induction k with
  | zero => exact fun _ _ _ => rfl
  | succ k ih =>
    intro p T hT
    rw [genU]
    split
    · rw [pf _ T hT]; exact ih _ T hT
    · rfl
theorem inB_filter_none {a b : Int} {L : List Int} (h : ∀ x ∈ L, ¬ (a ≤ x ∧ x ≤ b)) : L.filter (inB a b) = [] := by
  rw [List.filter_eq_nil_iff]
  intro x hx
  simp [inB, decide_eq_false (h x hx)]
/-- A worker tells what the rule tells, within its bounds. -/
theorem works_gen {r : RR} {st a b F : Int} (h : Right r) : ∀ (k : Nat) (p : Int) (S S' : St) (T : Int × List Int), Rel r a b S T → 0 ≤ S.sp → worksV r st a b F k p S = some S' → ∃ K0 : Nat, ∀ K, K0 ≤ K → S'.out = (genU r st K p T).2.filter (inB a b) := by
  intro k
  induction k with
  | zero => intro p S S' T _ _ e; cases e
  | succ k ih =>
    intro p S S' T hr hs e
    rw [worksV] at e
    split at e
    · rename_i c
      obtain rfl := Option.some.inj e
      refine ⟨0, fun K _ => ?_⟩
      by_cases c0 : (spanV r p).2.2 = 0
      · obtain ⟨ip, es, i1, i2⟩ := ok_span c0
        have c1 := c.resolve_left (fun q => q c0)
        rw [es] at c1
        unfold endsV at c1
        simp only [Bool.or_eq_true, Bool.and_eq_true, decide_eq_true_eq] at c1
        obtain ⟨L, l1, l2, l3⟩ := genU_new (st := st) h K p T
        rcases c1 with (c1 | c1) | c1
        · rw [l1, List.filter_append, ← hr.2, inB_filter_none (fun x hx q => by have := (l3 x hx).1; omega), List.append_nil]
        · rw [l1, List.filter_append, ← hr.2, inB_filter_none (fun x hx q => by have := (l3 x hx).1; have := (l3 x hx).2.2.1 c1.1; omega), List.append_nil]
        · rw [genU_full c1.1 K p T (by rcases hr.1 with q | q <;> omega)]
          exact hr.2
      · have : genU r st K p T = T := by
          cases K with
          | zero => rfl
          | succ K => rw [genU, if_neg c0]
        rw [this]
        exact hr.2
    rename_i c
    have c0 : (spanV r p).2.2 = 0 := Classical.not_not.1 (fun q => c (Or.inl q))
    obtain ⟨ip, es, i1, i2⟩ := ok_span c0
    split at e
    · cases e
    rename_i S1 hs1
    rw [es] at hs1
    dsimp only at hs1
    unfold stepV at hs1
    split at hs1
    · cases hs1
    split at hs1
    · cases hs1
    rename_i d1 d2
    have tk : (letsL r st (spanW r p).1 (spanW r p).2).take (F.toNat + 1) = letsL r st (spanW r p).1 (spanW r p).2 := by
      rw [List.length_take] at d2
      exact List.take_of_length_le (by omega)
    rw [tk] at hs1
    have hs1 := Option.some.inj hs1
    have pr := pass_rel (r := r) (st := st) (a := a) (b := b) (placesV r (letsL r st (spanW r p).1 (spanW r p).2)) (S := ⟨S.sp + 1 + ((letsL r st (spanW r p).1 (spanW r p).2).length : Nat), S.ct, S.out⟩) (T := T) hr
    rw [hs1] at pr
    obtain ⟨K0, hK⟩ := ih (p + r.iv) S1 S' _ pr.1 (by rw [pr.2]; show 0 ≤ S.sp + 1 + _; omega) e
    refine ⟨K0 + 1, fun K hK1 => ?_⟩
    obtain ⟨K, rfl⟩ : ∃ K', K = K' + 1 := ⟨K - 1, by omega⟩
    rw [genU, if_pos c0]
    exact hK K (by omega)
theorem genU_add {r : RR} {st : Int} : ∀ (j K : Nat) (p : Int) (T : Int × List Int), (genU r st (j + K) p T = genU r st K (p + (j : Int) * r.iv) (genU r st j p T)) ∨ ((∃ i : Nat, i < j ∧ (spanV r (p + (i : Int) * r.iv)).2.2 ≠ 0) ∧ genU r st (j + K) p T = genU r st j p T) := by
  intro j
  induction j with
  | zero => exact fun K p T => Or.inl (by simp [genU])
  | succ j ih =>
    intro K p T
    rw [show j + 1 + K = (j + K) + 1 by omega, genU, genU]
    split
    · have e : ∀ i : Nat, p + r.iv + (i : Int) * r.iv = p + ((i + 1 : Nat) : Int) * r.iv := fun i => by
        rw [show ((i + 1 : Nat) : Int) = (i : Int) + 1 by omega, Int.add_mul, Int.one_mul]; omega
      rcases ih K (p + r.iv) (passU r st T (placesV r (letsL r st (spanW r p).1 (spanW r p).2))) with q | ⟨⟨i, q1, q2⟩, q3⟩
      · left; rw [q, e]
      · right; exact ⟨⟨i + 1, by omega, by rw [← e]; exact q2⟩, q3⟩
    · rename_i c
      right
      exact ⟨⟨0, by omega, by simpa using c⟩, rfl⟩
theorem span_mono {r : RR} {p q : Int} (h : p ≤ q) : (spanW r p).1 ≤ (spanW r q).1 ∧ (spanW r p).2 ≤ (spanW r q).2 := by
  have := span_rise r p (q - p).toNat
  rw [show p + ((q - p).toNat : Int) = q by omega] at this
  omega
theorem inP_mid {r : RR} {p i q : Int} (hp : InP r p) (hq : InP r q) (l : p ≤ i) (u : i ≤ q) : InP r i := by
  unfold InP at *
  omega
theorem span_mid {r : RR} {p i q : Int} (hp : (spanV r p).2.2 = 0) (hq : (spanV r q).2.2 = 0) (l : p ≤ i) (u : i ≤ q) : (spanV r i).2.2 = 0 := by
  obtain ⟨a1, _, a3, a4⟩ := ok_span hp
  obtain ⟨b1, _, b3, b4⟩ := ok_span hq
  have m1 := span_mono (r := r) l
  have m2 := span_mono (r := r) u
  have le := spanW_le r i
  unfold spanV
  rw [if_pos ⟨inP_mid a1 b1 l u, by unfold InT at *; omega, by unfold InT at *; omega⟩]
theorem genU_stop {r : RR} {st p : Int} (h : (spanV r p).2.2 ≠ 0) (K : Nat) (T : Int × List Int) : genU r st K p T = T := by
  cases K with
  | zero => rfl
  | succ K => rw [genU, if_neg h]
theorem tell_rel {r : RR} {st a b : Int} : Rel r a b (tellV a b ⟨0, 0, []⟩ st) (1, [st]) := by
  refine ⟨Or.inr rfl, ?_⟩
  unfold tellV
  dsimp only
  by_cases c : a ≤ st ∧ st ≤ b
  · rw [if_pos c]; simp [inB, c]
  · rw [if_neg c]
    have : inB a b st = false := decide_eq_false c
    simp [this]
/-- A rule's times are what it tells, within the bounds. -/
theorem times_gen {r : RR} {st a b F : Int} (h : Right r) (hst : InT st) (hm : mayT a b F) (hz : (timesV r st a b F).2.2 = 0) : ∃ K0 : Nat, ∀ K, K0 ≤ K → (timesV r st a b F).1 = (G r st K).filter (inB a b) := by
  unfold timesV at hz ⊢
  rw [if_pos hm] at hz ⊢
  cases hg : goneV r st a b F with
  | none => rw [hg] at hz; cases hz
  | some S =>
    dsimp only
    clear hz
    have t0 : (tellV a b ⟨0, 0, []⟩ st).sp = 0 := rfl
    unfold goneV at hg
    unfold G
    by_cases c0 : (spanV r (perV r st)).2.2 = 0
    case neg =>
      have hb : ¬ (beginV r st a).2 = true := by
        unfold beginV
        rw [if_pos (Or.inl c0)]
        simp [c0]
      rw [if_neg hb] at hg
      obtain rfl := Option.some.inj hg
      exact ⟨0, fun K _ => by rw [genU_stop c0]; exact (tell_rel (r := r)).2⟩
    by_cases c1 : 0 < r.ct ∨ a ≤ st
    case pos =>
      have hb : beginV r st a = (perV r st, true) := by
        unfold beginV
        rw [if_pos (Or.inr c1)]
        simp [c0]
      rw [hb] at hg
      exact works_gen h _ _ _ _ _ tell_rel (by omega) hg
    have cn : ¬ ((spanV r (perV r st)).2.2 ≠ 0 ∨ 0 < r.ct ∨ a ≤ st) := fun q => q.elim (fun q => q c0) c1
    have hlt : st < a := by omega
    by_cases c2 : InT a
    case neg =>
      have hb : beginV r st a = (0, false) := by unfold beginV; rw [if_neg cn, if_neg c2]
      rw [hb] at hg
      obtain rfl := Option.some.inj hg
      refine ⟨1, fun K hK => ?_⟩
      rw [(tell_rel (r := r)).2]
      obtain ⟨L, l1, l2, l3⟩ := genU_new (st := st) h K (perV r st) (1, [st])
      rw [l1, List.filter_append, inB_filter_none (L := L), List.append_nil]
      intro x hx q
      have := (l3 x hx).2.2.2.2
      unfold InT at c2 hst this
      omega
    have hb : beginV r st a = (perV r st + (perV r a - perV r st + r.iv - 1) / r.iv * r.iv, true) := by unfold beginV; rw [if_neg cn, if_pos c2]
    rw [hb] at hg
    have ivp := h.ivp
    have pm := per_mono h.lens hst c2 (Int.le_of_lt hlt)
    have d0 : 0 ≤ (perV r a - perV r st + r.iv - 1) / r.iv := Int.ediv_nonneg (by omega) (by omega)
    have d1 : (perV r a - perV r st + r.iv - 1) / r.iv * r.iv ≤ perV r a - perV r st + r.iv - 1 := Int.ediv_mul_le _ (by omega)
    dsimp only at hg
    rw [if_pos rfl] at hg
    generalize (perV r a - perV r st + r.iv - 1) / r.iv = D at *
    obtain ⟨j, rfl⟩ : ∃ j : Nat, D = (j : Int) := ⟨D.toNat, by omega⟩
    obtain ⟨L, l1, l2, l3⟩ := genU_new (st := st) h j (perV r st) (1, [st])
    have far : ∀ x ∈ L, ¬ (a ≤ x ∧ x ≤ b) := fun x hx q => by
      by_cases j0 : 0 < j
      · have q1 := (l3 x hx).2.2.2.1 j0
        have q2 : perV r st + ((j - 1 : Nat) : Int) * r.iv < perV r a := by
          rw [show ((j - 1 : Nat) : Int) = (j : Int) - 1 by omega, Int.sub_mul, Int.one_mul]
          omega
        have q3 := span_lt r q2
        have q4 := span_in h.lens c2
        omega
      · obtain rfl : j = 0 := by omega
        rw [genU] at l1
        have : L = [] := by simpa using l1
        rw [this] at hx
        cases hx
    have rel : Rel r a b (tellV a b ⟨0, 0, []⟩ st) (genU r st j (perV r st) (1, [st])) := by
      refine ⟨Or.inl (by have := h.ct0; omega), ?_⟩
      rw [(tell_rel (r := r)).2, l1, List.filter_append, inB_filter_none far, List.append_nil]
    obtain ⟨K0, hK⟩ := works_gen h _ _ _ _ _ rel (by omega) hg
    refine ⟨K0 + j, fun K hK1 => ?_⟩
    obtain ⟨K, rfl⟩ : ∃ K', K = j + K' := ⟨K - j, by omega⟩
    rcases genU_add (r := r) (st := st) j K (perV r st) (1, [st]) with q | ⟨⟨i, q1, q2⟩, q3⟩
    · rw [q]
      exact hK K (by omega)
    · rw [q3]
      have bad : (spanV r (perV r st + (j : Int) * r.iv)).2.2 ≠ 0 := fun e => q2 (span_mid c0 e (by have := Int.mul_nonneg (a := (i : Int)) (b := r.iv) (by omega) (by omega); omega) (by have := Int.mul_le_mul_of_nonneg_right (a := (i : Int)) (b := (j : Int)) (c := r.iv) (by omega) (by omega); omega))
      have := hK K (by omega)
      rw [genU_stop bad] at this
      exact this
theorem G_new {r : RR} {st : Int} (h : Right r) (K : Nat) : ∃ L, G r st K = st :: L ∧ (G r st K).Pairwise (· < ·) ∧ ∀ x ∈ L, st < x := by
  obtain ⟨L, l1, l2, l3⟩ := genU_new (st := st) h K (perV r st) (1, [st])
  refine ⟨L, l1, ?_, fun x hx => (l3 x hx).2.1⟩
  unfold G
  rw [l1]
  exact List.pairwise_cons.2 ⟨fun x hx => (l3 x hx).2.1, l2⟩
theorem passU_has {r : RR} {st t : Int} (hc : r.ct = 0) (hu : r.un = false) (hs : st < t) : ∀ (l : List Int) (T : Int × List Int), t ∈ l → t ∈ (passU r st T l).2 := by
  intro l
  induction l with
  | nil => intro T ht; cases ht
  | cons x l ih =>
    intro T ht
    have e2 : passU r st T (x :: l) = passU r st (if goesV r st T.1 x then (T.1 + 1, T.2 ++ [x]) else T) l := rfl
    rw [e2]
    rcases List.mem_cons.1 ht with rfl | ht
    · have g : goesV r st T.1 t = true := by
        unfold goesV
        rw [decide_eq_true hs, hu, decide_eq_true hc]
        rfl
      rw [if_pos g]
      obtain ⟨L, l1, _⟩ := passU_new (r := r) (st := st) l (T.1 + 1, T.2 ++ [t])
      rw [l1]
      simp
    · exact ih _ ht
theorem one_of {l : List Int} {t : Int} (h : l.Pairwise (· < ·)) (ht : t ∈ l) (h2 : ∀ x ∈ l, x = t) : l = [t] := by
  cases l with
  | nil => cases ht
  | cons x l =>
    obtain rfl := h2 x (.head _)
    cases l with
    | nil => rfl
    | cons y l =>
      have := h2 y (.tail _ (.head _))
      have := (List.pairwise_cons.1 h).1 y (.head _)
      omega
theorem all_iff {r : RR} {st t : Int} (h : Right r) (hst : InT st) (hsp : r.sp = []) (hc : r.ct = 0) (hu : r.un = false) (l : st ≤ t) (u : t ≤ 253370159999) (hz : (timesV r st t t 3000).2.2 = 0) :
    ((timesV r st t t 3000).1 = [t] ∧ (t = st ∨ ((spanV r (perV r st)).2.2 = 0 ∧ Int.tmod (perV r t - perV r st) r.iv = 0 ∧ letsV r st t = true))) ∨ ((timesV r st t t 3000).1 = [] ∧ ¬ (t = st ∨ ((spanV r (perV r st)).2.2 = 0 ∧ Int.tmod (perV r t - perV r st) r.iv = 0 ∧ letsV r st t = true))) := by
  have hm : mayT t t 3000 := by unfold InT at hst; unfold mayT; omega
  have it : InT t := by unfold InT at *; omega
  obtain ⟨K0, hK⟩ := times_gen h hst hm hz
  obtain ⟨s1, s2⟩ := times_told (from_ := t) (to_ := t) (F := 3000) h hst hsp
  have all : ∀ x ∈ (timesV r st t t 3000).1, x = t := fun x hx => by have := s2 x hx; unfold PT at this; omega
  have ivp := h.ivp
  by_cases W : t = st ∨ ((spanV r (perV r st)).2.2 = 0 ∧ Int.tmod (perV r t - perV r st) r.iv = 0 ∧ letsV r st t = true)
  · left
    refine ⟨one_of s1 ?_ all, W⟩
    by_cases e : t = st
    · rw [hK K0 (Nat.le_refl _)]
      obtain ⟨L, l1, _⟩ := G_new (st := st) h K0
      rw [l1, e]
      simp [inB]
    · obtain ⟨w1, w2, w3⟩ := W.resolve_left e
      have hlt : st < t := by omega
      have pm := per_mono h.lens hst it l
      obtain ⟨a1, a2, a3, a4⟩ := ok_span w1
      have m1 := span_mono (r := r) pm
      have si := span_in h.lens it
      have ok : (spanV r (perV r t)).2.2 = 0 := by
        unfold spanV
        rw [if_pos]
        refine ⟨inP_per h.lens it, ?_, ?_⟩
        · unfold InT at *; omega
        · have : (spanW r (perV r t)).2 ≤ (spanW r (perV r t)).1 + 86400 * 372 := by
            unfold spanW
            repeat' split
            all_goals (first | omega | (have := whole_len r (perV r t); simp only []; omega))
          unfold InT at *
          omega
      obtain ⟨j, hj⟩ : ∃ j : Nat, perV r t = perV r st + (j : Int) * r.iv := by
        have d := Int.dvd_of_tmod_eq_zero w2
        obtain ⟨m, hm⟩ := d
        have m0 : 0 ≤ m := by
          refine Int.not_lt.1 fun q => ?_
          have := Int.mul_lt_mul_of_pos_left q ivp
          omega
        exact ⟨m.toNat, by rw [show (m.toNat : Int) = m by omega, Int.mul_comm]; omega⟩
      rw [hK (j + (K0 + 1)) (by omega)]
      refine List.mem_filter.2 ⟨?_, by simp [inB]⟩
      unfold G
      rcases genU_add (r := r) (st := st) j (K0 + 1) (perV r st) (1, [st]) with q | ⟨⟨i, q1, q2⟩, q3⟩
      · rw [q, ← hj, genU, if_pos ok]
        obtain ⟨L, l1, _⟩ := genU_new (st := st) h K0 (perV r t + r.iv) (passU r st (genU r st j (perV r st) (1, [st])) (placesV r (letsL r st (spanW r (perV r t)).1 (spanW r (perV r t)).2)))
        rw [l1]
        refine List.mem_append_left _ (passU_has hc hu hlt _ _ ?_)
        rw [places_id hsp]
        unfold letsV at w3
        simp only [Bool.and_eq_true, decide_eq_true_eq] at w3
        exact (lets_spec h).2 ⟨si.1, si.2, w3.2.2, w3.2.1⟩
      · exact absurd (span_mid w1 ok (by have := Int.mul_nonneg (a := (i : Int)) (b := r.iv) (by omega) (by omega); omega) (by rw [hj]; have := Int.mul_le_mul_of_nonneg_right (a := (i : Int)) (b := (j : Int)) (c := r.iv) (by omega) (by omega); omega)) q2
  · right
    refine ⟨?_, W⟩
    refine List.eq_nil_iff_forall_not_mem.2 fun x hx => W ?_
    obtain rfl := all x hx
    by_cases e : x = st
    · exact Or.inl e
    right
    obtain ⟨_, _, p3⟩ := s2 x hx
    obtain ⟨_, _, _, ⟨m, q4⟩, q5⟩ := p3.resolve_left e
    refine ⟨?_, ?_, q5⟩
    · refine Classical.byContradiction fun bad => ?_
      rw [hK K0 (Nat.le_refl _)] at hx
      unfold G at hx
      rw [genU_stop bad] at hx
      exact e (by simpa using (List.mem_filter.1 hx).1)
    · rw [show perV r x - perV r st = m * r.iv by omega]
      exact Int.mul_tmod_left m r.iv
/-! Two spans, a count -/
theorem filter_split {a m b : Int} (am : a ≤ m + 1) (mb : m ≤ b) : ∀ (l : List Int), l.Pairwise (· < ·) → l.filter (inB a b) = l.filter (inB a m) ++ l.filter (inB (m + 1) b) := by
  intro l
  induction l with
  | nil => exact fun _ => rfl
  | cons x l ih =>
    intro h
    have h' := List.pairwise_cons.1 h
    by_cases c : x ≤ m
    · have e1 : inB a b x = inB a m x := decide_eq_decide.2 (by omega)
      have e2 : inB (m + 1) b x = false := decide_eq_false (by omega)
      rw [List.filter_cons, List.filter_cons, List.filter_cons, e1, e2, ih h'.2]
      cases inB a m x <;> simp
    · have n1 : (x :: l).filter (inB a m) = [] := inB_filter_none (fun y hy q => by
        rcases List.mem_cons.1 hy with rfl | hy
        · exact c q.2
        · have := h'.1 y hy; omega)
      rw [n1, List.nil_append]
      refine List.filter_congr fun y hy => decide_eq_decide.2 ?_
      rcases List.mem_cons.1 hy with rfl | hy
      · omega
      · have := h'.1 y hy; omega
theorem filter_take {a b : Int} : ∀ (l : List Int) (n : Nat), l.Pairwise (· < ·) → (∀ x ∈ l, a ≤ x) → (l.take n).filter (inB a b) = (l.filter (inB a b)).take n := by
  intro l
  induction l with
  | nil => exact fun n _ _ => by simp
  | cons x l ih =>
    intro n h ha
    have h' := List.pairwise_cons.1 h
    cases n with
    | zero => simp
    | succ n =>
      by_cases c : x ≤ b
      · have e : inB a b x = true := decide_eq_true ⟨ha x (.head _), c⟩
        rw [List.take_succ_cons, List.filter_cons, List.filter_cons, e, if_pos rfl, if_pos rfl, List.take_succ_cons, ih n h'.2 (fun y hy => ha y (.tail _ hy))]
      · have n1 : ∀ k : List Int, (∀ y ∈ k, y ∈ (x :: l)) → k.filter (inB a b) = [] := fun k hk => inB_filter_none (fun y hy q => by
          rcases List.mem_cons.1 (hk y hy) with rfl | hy
          · exact c q.2
          · have := h'.1 y hy; omega)
        rw [n1 _ (fun y hy => List.mem_of_mem_take hy), n1 _ (fun y hy => hy)]
        simp
/-- With a count. -/
def cntR (r : RR) (n : Int) : RR := { r with ct := n }
theorem passU_cnt {r : RR} {st : Int} (n : Nat) (hc : r.ct = 0) (hn : 0 < n) : ∀ (l : List Int) (T T' : Int × List Int), T.1 = (T.2.length : Nat) → T'.1 = (T'.2.length : Nat) → T'.2 = T.2.take n → (passU r st T l).1 = ((passU r st T l).2.length : Nat) ∧ (passU (cntR r n) st T' l).1 = ((passU (cntR r n) st T' l).2.length : Nat) ∧ (passU (cntR r n) st T' l).2 = (passU r st T l).2.take n := by
  intro l
  induction l with
  | nil => exact fun T T' h1 h2 h3 => ⟨h1, h2, h3⟩
  | cons x l ih =>
    intro T T' h1 h2 h3
    have e1 : passU r st T (x :: l) = passU r st (if goesV r st T.1 x then (T.1 + 1, T.2 ++ [x]) else T) l := rfl
    have e2 : passU (cntR r n) st T' (x :: l) = passU (cntR r n) st (if goesV (cntR r n) st T'.1 x then (T'.1 + 1, T'.2 ++ [x]) else T') l := rfl
    rw [e1, e2]
    have g2 : goesV (cntR r n) st T'.1 x = (goesV r st T.1 x && decide (T'.1 < n)) := by
      unfold goesV cntR
      dsimp only
      rw [decide_eq_true hc, decide_eq_false (show ¬ (n : Int) = 0 by omega)]
      simp
    rw [g2]
    by_cases g : goesV r st T.1 x = true
    · rw [if_pos g, g, Bool.true_and]
      have lt : T'.2.length = min n T.2.length := by rw [h3, List.length_take]
      by_cases c : T'.1 < (n : Int)
      · rw [decide_eq_true c, if_pos rfl]
        refine ih _ _ (by simp; omega) (by simp; omega) ?_
        dsimp only
        have : T.2.length < n := by omega
        rw [List.take_append, h3, List.take_of_length_le (l := T.2) (by omega), List.take_of_length_le (l := [x]) (by simp; omega)]
      · rw [decide_eq_false c, if_neg (by decide)]
        refine ih _ _ (by simp; omega) h2 ?_
        dsimp only
        have : n ≤ T.2.length := by omega
        rw [List.take_append, show n - T.2.length = 0 by omega, List.take_zero, List.append_nil, h3]
    · have g' : goesV r st T.1 x = false := by simpa using g
      rw [g', Bool.false_and, if_neg (by decide), if_neg (by decide)]
      exact ih _ _ h1 h2 h3
theorem genU_cnt {r : RR} {st : Int} (n : Nat) (hc : r.ct = 0) (hn : 0 < n) : ∀ (k : Nat) (p : Int) (T T' : Int × List Int), T.1 = (T.2.length : Nat) → T'.1 = (T'.2.length : Nat) → T'.2 = T.2.take n → (genU (cntR r n) st k p T').2 = (genU r st k p T).2.take n := by
  intro k
  induction k with
  | zero => exact fun _ _ _ _ _ h => h
  | succ k ih =>
    intro p T T' h1 h2 h3
    rw [genU, genU]
    have e1 : spanV (cntR r n) p = spanV r p := rfl
    have e2 : placesV (cntR r n) (letsL (cntR r n) st (spanW (cntR r n) p).1 (spanW (cntR r n) p).2) = placesV r (letsL r st (spanW r p).1 (spanW r p).2) := rfl
    rw [e1, e2]
    split
    · obtain ⟨q1, q2, q3⟩ := passU_cnt n hc hn (placesV r (letsL r st (spanW r p).1 (spanW r p).2)) T T' h1 h2 h3
      exact ih _ _ _ q1 q2 q3
    · exact h3
theorem times_cnt {r : RR} {st b : Int} {n : Nat} (h : Right r) (h' : Right (cntR r n)) (hst : InT st) (hc : r.ct = 0) (hn : 0 < n) (hm : mayT st b 3000) (z : (timesV r st st b 3000).2.2 = 0) (z' : (timesV (cntR r n) st st b 3000).2.2 = 0) : (timesV (cntR r n) st st b 3000).1 = (timesV r st st b 3000).1.take n := by
  obtain ⟨K, hK⟩ := times_gen h hst hm z
  obtain ⟨K', hK'⟩ := times_gen h' hst hm z'
  rw [hK (K + K') (by omega), hK' (K + K') (by omega)]
  obtain ⟨L, l1, l2, l3⟩ := G_new (st := st) h (K + K')
  rw [← filter_take _ _ l2 (by rw [l1]; intro x hx; rcases List.mem_cons.1 hx with rfl | hx; exact Int.le_refl _; exact Int.le_of_lt (l3 x hx))]
  refine congrArg _ ?_
  exact genU_cnt n hc hn _ _ _ _ rfl rfl (by rw [List.take_of_length_le (by simp; omega)])
theorem times_side {r : RR} {st a m b : Int} (h : Right r) (hst : InT st) (am : a ≤ m) (mb : m < b) (ha : -4611686018427387904 ≤ a) (hb : b ≤ 4611686018427387904) (z1 : (timesV r st a m 3000).2.2 = 0) (z2 : (timesV r st (m + 1) b 3000).2.2 = 0) (z3 : (timesV r st a b 3000).2.2 = 0) : (timesV r st a b 3000).1 = (timesV r st a m 3000).1 ++ (timesV r st (m + 1) b 3000).1 := by
  obtain ⟨K1, h1⟩ := times_gen h hst (by unfold mayT; omega) z1
  obtain ⟨K2, h2⟩ := times_gen h hst (by unfold mayT; omega) z2
  obtain ⟨K3, h3⟩ := times_gen h hst (by unfold mayT; omega) z3
  rw [h1 (K1 + K2 + K3) (by omega), h2 (K1 + K2 + K3) (by omega), h3 (K1 + K2 + K3) (by omega)]
  obtain ⟨L, l1, l2, l3⟩ := G_new (st := st) h (K1 + K2 + K3)
  exact filter_split (by omega) (by omega) _ l2
end Go.Proofs.YtjjaiahfkiojlaaGreat.Pure
