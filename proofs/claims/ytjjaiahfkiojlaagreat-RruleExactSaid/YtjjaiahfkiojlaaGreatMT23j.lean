/- Periods that end ahead of a time; a list out of a test, in plain numbers. No condition beyond those each lemma names. -/
/- Where a worker begins, as a contract. No condition beyond those each lemma names. -/
import Derived.Test.YtjjaiahfkiojlaaGreatMT23A
import Derived.Test.YtjjaiahfkiojlaaGreatMHS0
namespace Go.Proofs.YtjjaiahfkiojlaaGreat.Pure
open Go.RowKit Go.Proofs.YtjjaiahfkiojlaaGreat.O Go.Proofs.YtjjaiahfkiojlaaGreatW.PrintWords Go.Proofs.YtjjaiahfkiojlaaGreatW.PrintLast
open Go.Proofs.YtjjaiahfkiojlaaGreat.Civ
set_option linter.unusedVariables false
set_option linter.unusedSimpArgs false
/-! Periods that end ahead of a time -/
/-- A period ends ahead of a time. -/
noncomputable def endB (r : RR) (from_ p : Int) : Bool := decide ((spanV r p).2.2 = 0) && decide ((spanV r p).2.1 < from_)
theorem endB_iff {r : RR} {f p : Int} : endB r f p = true ↔ (spanV r p).2.2 = 0 ∧ (spanV r p).2.1 < f := by unfold endB; simp
theorem endB_no {r : RR} {f p : Int} (h : ¬ ((spanV r p).2.2 = 0 ∧ (spanV r p).2.1 < f)) : endB r f p = false := by
  cases q : endB r f p with
  | false => rfl
  | true => exact absurd (endB_iff.1 q) h
theorem end_mid {r : RR} {f p i q : Int} (hp : endB r f p = true) (hq : endB r f q = true) (l : p ≤ i) (u : i ≤ q) : endB r f i = true := by
  obtain ⟨p1, p2⟩ := endB_iff.1 hp
  obtain ⟨q1, q2⟩ := endB_iff.1 hq
  have m := span_mid p1 q1 l u
  refine endB_iff.2 ⟨m, ?_⟩
  have a := ok_span m
  have b := ok_span q1
  have c := (span_mono (r := r) u).2
  rw [a.2.1]
  rw [b.2.1] at q2
  dsimp only at q2 ⊢
  omega
theorem end_small {r : RR} (h : Lens r) {f p : Int} (hp : endB r f p = true) : -62135596800 ≤ p ∧ p ≤ 253402300799 := inP_small h (ok_span (endB_iff.1 hp).1).1
/-- The first period from p on that does not end ahead of a time. -/
def First (r : RR) (f p : Int) (k : Nat) : Prop := endB r f (p + (k : Int) * r.iv) = false ∧ ∀ j : Nat, j < k → endB r f (p + (j : Int) * r.iv) = true
theorem first_one {r : RR} {f p : Int} {k m : Nat} (h : First r f p k) (h' : First r f p m) : k = m := by
  by_cases a : k < m
  · have := h'.2 k a; rw [h.1] at this; cases this
  by_cases b : m < k
  · have := h.2 m b; rw [h'.1] at this; cases this
  omega
theorem iv_le {r : RR} (h : Right r) {i j : Nat} (l : i ≤ j) : (i : Int) * r.iv ≤ (j : Int) * r.iv := Int.mul_le_mul_of_nonneg_right (by omega) (by have := h.iv; omega)
theorem first_of {r : RR} (h : Right r) {f p : Int} {lo hi : Nat} (h0 : endB r f p = true) (hl : endB r f (p + (lo : Int) * r.iv) = true) (hh : endB r f (p + (hi : Int) * r.iv) = false) (e : hi = lo + 1) : First r f p hi := by
  refine ⟨hh, fun j hj => end_mid h0 hl ?_ ?_⟩
  · have := iv_le h (i := 0) (j := j) (by omega)
    simp at this
    omega
  · have := iv_le h (i := j) (j := lo) (by omega)
    omega
/-- Bounds of what jump reckons with. -/
theorem jump_bd {r : RR} (h : Right r) {f p : Int} (hp : -62135596800 ≤ p ∧ p ≤ 253402300799) {k : Nat} (hk : endB r f (p + (k : Int) * r.iv) = true) : (k : Int) ≤ 400000000000 := by
  have b := end_small h.lens hk
  have i := h.iv
  have : (k : Int) * 1 ≤ (k : Int) * r.iv := Int.mul_le_mul_of_nonneg_left i.1 (by omega)
  omega
theorem jump_w {r : RR} (h : Right r) {p : Int} (hp : -62135596800 ≤ p ∧ p ≤ 253402300799) {k : Nat} (hk : (k : Int) ≤ 1000000000000) : wrap64 (p + wrap64 ((k : Int) * r.iv)) = p + (k : Int) * r.iv := by
  have i := h.iv
  have a : 0 ≤ (k : Int) * r.iv := Int.mul_nonneg (by omega) (by omega)
  have b : (k : Int) * r.iv ≤ (k : Int) * 1000 := Int.mul_le_mul_of_nonneg_left i.2 (by omega)
  rw [w64 (x := (k : Int) * r.iv) (by omega) (by omega), w64 (by omega) (by omega)]
/-! A list out of a test of all numbers from one on -/
def upto (P : Int → Bool) (z : Int) (n : Nat) : List Int := ((List.range n).map fun (i : Nat) => z + (i : Int)).filter P
theorem upto_succ (P : Int → Bool) (z : Int) (n : Nat) : upto P z (n + 1) = upto P z n ++ (if P (z + (n : Int)) = true then [z + (n : Int)] else []) := by
  unfold upto
  rw [List.range_succ, List.map_append, List.filter_append]
  congr 1
  cases hc : P (z + (n : Int)) <;> simp [hc]
theorem upto_skip {P : Int → Bool} {z : Int} {n : Nat} (k : Nat) (h : ∀ t, z + (n : Int) ≤ t → t < z + (n : Int) + (k : Int) → P t = false) : upto P z (n + k) = upto P z n := by
  induction k with
  | zero => rfl
  | succ k ih =>
    rw [show n + (k + 1) = n + k + 1 by omega, upto_succ, ih fun t a b => h t a (by omega), h (z + ((n + k : Nat) : Int)) (by omega) (by omega)]
    simp
theorem upto_pre (P : Int → Bool) (z : Int) {n m : Nat} (h : n ≤ m) : upto P z n <+: upto P z m := by
  induction m with
  | zero =>
    obtain rfl : n = 0 := by omega
    exact List.prefix_rfl
  | succ m ih =>
    by_cases q : n = m + 1
    · subst q; exact List.prefix_rfl
    · rw [upto_succ]
      exact (ih (by omega)).trans (List.prefix_append _ _)
theorem upto_mem {P : Int → Bool} {z : Int} {n : Nat} {t : Int} : t ∈ upto P z n ↔ z ≤ t ∧ t < z + (n : Int) ∧ P t = true := by
  unfold upto
  simp only [List.mem_filter, List.mem_map, List.mem_range]
  constructor
  · rintro ⟨⟨i, hi, rfl⟩, hp⟩
    exact ⟨by omega, by omega, hp⟩
  · rintro ⟨h1, h2, h3⟩
    exact ⟨⟨(t - z).toNat, by omega, by omega⟩, h3⟩
theorem upto_rise (P : Int → Bool) (z : Int) (n : Nat) : (upto P z n).Pairwise (· < ·) := by
  induction n with
  | zero => exact List.Pairwise.nil
  | succ n ih =>
    rw [upto_succ]
    refine List.pairwise_append.2 ⟨ih, ?_, fun x hx y hy => ?_⟩
    · split
      · exact List.pairwise_singleton _ _
      · exact List.Pairwise.nil
    · split at hy
      · obtain rfl := List.mem_singleton.1 hy
        exact (upto_mem.1 hx).2.1
      · cases hy
theorem rise_eq : ∀ {l m : List Int}, l.Pairwise (· < ·) → m.Pairwise (· < ·) → (∀ t, t ∈ l ↔ t ∈ m) → l = m
  | [], [], _, _, _ => rfl
  | [], y :: m, _, _, h => absurd ((h y).2 (.head _)) List.not_mem_nil
  | x :: l, [], _, _, h => absurd ((h x).1 (.head _)) List.not_mem_nil
  | x :: l, y :: m, hl, hm, h => by
    have l1 := List.pairwise_cons.1 hl
    have m1 := List.pairwise_cons.1 hm
    have e : x = y := by
      rcases List.mem_cons.1 ((h x).1 (.head _)) with a | a
      · exact a
      rcases List.mem_cons.1 ((h y).2 (.head _)) with b | b
      · exact b.symm
      have c := m1.1 x a
      have d := l1.1 y b
      omega
    subst e
    congr 1
    refine rise_eq l1.2 m1.2 fun t => ⟨fun ht => ?_, fun ht => ?_⟩
    · rcases List.mem_cons.1 ((h t).1 (.tail _ ht)) with a | a
      · have := l1.1 t ht; omega
      · exact a
    · rcases List.mem_cons.1 ((h t).2 (.tail _ ht)) with a | a
      · have := m1.1 t ht; omega
      · exact a
set_option maxRecDepth 100000
/-! A period's times, by the reference -/
noncomputable def ofP (r : RR) (st a b t : Int) : Bool := decide (a ≤ t ∧ t ≤ b) && (dayV r (st / 86400) (t / 86400) && clockV r (st % 86400) (t % 86400))
/-- The times ahead of a second of a day. -/
noncomputable def U (r : RR) (st a b : Int) (i h m x : Nat) : List Int := upto (ofP r st a b) (a / 86400 * 86400) (i * 86400 + h * 3600 + m * 60 + x)
theorem U_day (r : RR) (st a b : Int) (i : Nat) : U r st a b i 24 0 0 = U r st a b (i + 1) 0 0 0 := by unfold U; rw [show i * 86400 + 24 * 3600 + 0 * 60 + 0 = (i + 1) * 86400 + 0 * 3600 + 0 * 60 + 0 by omega]
theorem U_hour (r : RR) (st a b : Int) (i h : Nat) : U r st a b i h 60 0 = U r st a b i (h + 1) 0 0 := by unfold U; rw [show i * 86400 + h * 3600 + 60 * 60 + 0 = i * 86400 + (h + 1) * 3600 + 0 * 60 + 0 by omega]
theorem U_min (r : RR) (st a b : Int) (i h m : Nat) : U r st a b i h m 60 = U r st a b i h (m + 1) 0 := by unfold U; rw [show i * 86400 + h * 3600 + m * 60 + 60 = i * 86400 + h * 3600 + (m + 1) * 60 + 0 by omega]
theorem day_skip {r : RR} {st a b : Int} {i : Nat} (h : dayV r (st / 86400) (a / 86400 + (i : Int)) = false) : U r st a b (i + 1) 0 0 0 = U r st a b i 0 0 0 := by
  unfold U
  obtain ⟨kk, hk⟩ : ∃ kk : Nat, kk = 86400 := ⟨_, rfl⟩
  rw [show (i + 1) * 86400 + 0 * 3600 + 0 * 60 + 0 = i * 86400 + 0 * 3600 + 0 * 60 + 0 + kk by omega]
  refine upto_skip kk fun t l u => ?_
  have e : t / 86400 = a / 86400 + (i : Int) := by omega
  unfold ofP
  rw [e, h, Bool.false_and, Bool.and_false]
theorem hour_skip {r : RR} {st a b : Int} {i h : Nat} (hh : h < 24) (q : oneV r.ho (h : Int) (st % 86400 / 3600) (decide (3 < r.fr)) = false ∨ b < (a / 86400 + (i : Int)) * 86400 + 3600 * (h : Int) ∨ (a / 86400 + (i : Int)) * 86400 + 3600 * (h : Int) + 3599 < a) : U r st a b i (h + 1) 0 0 = U r st a b i h 0 0 := by
  unfold U
  obtain ⟨kk, hk⟩ : ∃ kk : Nat, kk = 3600 := ⟨_, rfl⟩
  rw [show i * 86400 + (h + 1) * 3600 + 0 * 60 + 0 = i * 86400 + h * 3600 + 0 * 60 + 0 + kk by omega]
  refine upto_skip kk fun t l u => ?_
  have e : t % 86400 / 3600 = (h : Int) := by omega
  unfold ofP
  rcases q with q | q | q
  · unfold clockV
    rw [e, show decide (r.fr > 3) = decide (3 < r.fr) from rfl, q, Bool.and_false, Bool.and_false, Bool.and_false]
  · rw [decide_eq_false (by omega), Bool.false_and]
  · rw [decide_eq_false (by omega), Bool.false_and]
theorem min_skip {r : RR} {st a b : Int} {i h m : Nat} (hh : h < 24) (hm : m < 60) (q : oneV r.mi (m : Int) (st % 86400 % 3600 / 60) (decide (2 < r.fr)) = false ∨ b < (a / 86400 + (i : Int)) * 86400 + 3600 * (h : Int) + 60 * (m : Int) ∨ (a / 86400 + (i : Int)) * 86400 + 3600 * (h : Int) + 60 * (m : Int) + 59 < a) : U r st a b i h (m + 1) 0 = U r st a b i h m 0 := by
  unfold U
  obtain ⟨kk, hk⟩ : ∃ kk : Nat, kk = 60 := ⟨_, rfl⟩
  rw [show i * 86400 + h * 3600 + (m + 1) * 60 + 0 = i * 86400 + h * 3600 + m * 60 + 0 + kk by omega]
  refine upto_skip kk fun t l u => ?_
  have e : t % 86400 % 3600 / 60 = (m : Int) := by omega
  unfold ofP
  rcases q with q | q | q
  · unfold clockV
    rw [e, show decide (r.fr > 2) = decide (2 < r.fr) from rfl, q, Bool.and_false, Bool.false_and, Bool.and_false, Bool.and_false]
  · rw [decide_eq_false (by omega), Bool.false_and]
  · rw [decide_eq_false (by omega), Bool.false_and]
/-- A second's time. -/
def tX (a : Int) (i h m x : Nat) : Int := (a / 86400 + (i : Int)) * 86400 + 3600 * (h : Int) + 60 * (m : Int) + (x : Int)
theorem sec_at {r : RR} {st a b : Int} {i h m x : Nat} (hh : h < 24) (hm : m < 60) (hx : x < 60) (hd : dayV r (st / 86400) (a / 86400 + (i : Int)) = true) (ho : oneV r.ho (h : Int) (st % 86400 / 3600) (decide (3 < r.fr)) = true) (mi : oneV r.mi (m : Int) (st % 86400 % 3600 / 60) (decide (2 < r.fr)) = true) :
    ofP r st a b (tX a i h m x) = (decide (a ≤ tX a i h m x ∧ tX a i h m x ≤ b) && oneV r.sec (x : Int) (st % 86400 % 60) (decide (1 < r.fr))) := by
  unfold ofP clockV
  rw [show tX a i h m x / 86400 = a / 86400 + (i : Int) by unfold tX; omega, show tX a i h m x % 86400 / 3600 = (h : Int) by unfold tX; omega, show tX a i h m x % 86400 % 3600 / 60 = (m : Int) by unfold tX; omega, show tX a i h m x % 86400 % 60 = (x : Int) by unfold tX; omega]
  rw [hd, show decide (r.fr > 3) = decide (3 < r.fr) from rfl, ho, show decide (r.fr > 2) = decide (2 < r.fr) from rfl, mi, Bool.true_and, Bool.and_true, Bool.and_true]
theorem sec_no {r : RR} {st a b : Int} {i h m x : Nat} (q : ofP r st a b (tX a i h m x) = false) : U r st a b i h m (x + 1) = U r st a b i h m x := by
  unfold U
  rw [show i * 86400 + h * 3600 + m * 60 + (x + 1) = i * 86400 + h * 3600 + m * 60 + x + 1 by omega, upto_succ]
  rw [show a / 86400 * 86400 + ((i * 86400 + h * 3600 + m * 60 + x : Nat) : Int) = tX a i h m x by unfold tX; omega, q]
  simp
theorem sec_yes {r : RR} {st a b : Int} {i h m x : Nat} (q : ofP r st a b (tX a i h m x) = true) : U r st a b i h m (x + 1) = U r st a b i h m x ++ [tX a i h m x] := by
  unfold U
  rw [show i * 86400 + h * 3600 + m * 60 + (x + 1) = i * 86400 + h * 3600 + m * 60 + x + 1 by omega, upto_succ]
  rw [show a / 86400 * 86400 + ((i * 86400 + h * 3600 + m * 60 + x : Nat) : Int) = tX a i h m x by unfold tX; omega, q]
  simp
/-- How many days a period has. -/
def dN (a b : Int) : Nat := (b / 86400 + 1 - a / 86400).toNat
theorem U_all {r : RR} (hR : Right r) (st p : Int) : U r st (spanW r p).1 (spanW r p).2 (dN (spanW r p).1 (spanW r p).2) 0 0 0 = letsL r st (spanW r p).1 (spanW r p).2 := by
  refine rise_eq (upto_rise _ _ _) (lets_rise hR) fun t => ?_
  rw [lets_spec hR]
  unfold U
  rw [upto_mem]
  have l := spanW_le r p
  unfold ofP
  rw [Bool.and_eq_true, Bool.and_eq_true, decide_eq_true_eq]
  constructor
  · rintro ⟨_, _, ⟨q1, q2⟩, q3, q4⟩
    exact ⟨q1, q2, q3, q4⟩
  · rintro ⟨q1, q2, q3, q4⟩
    refine ⟨by omega, ?_, ⟨q1, q2⟩, q3, q4⟩
    unfold dN
    omega
theorem of_cut {r : RR} (hR : Right r) {st p : Int} {i h m x most : Nat} (hi : i < dN (spanW r p).1 (spanW r p).2) (hh : h < 24) (hm : m < 60) (hx : x < 60) (q : (U r st (spanW r p).1 (spanW r p).2 i h m (x + 1)).length = most + 1) : U r st (spanW r p).1 (spanW r p).2 i h m (x + 1) = (letsL r st (spanW r p).1 (spanW r p).2).take (most + 1) := by
  rw [← U_all hR st p]
  refine (take_pre ?_ q).symm
  unfold U
  exact upto_pre _ _ (by omega)
theorem of_end {r : RR} (hR : Right r) {st p : Int} {most : Nat} (q : (U r st (spanW r p).1 (spanW r p).2 (dN (spanW r p).1 (spanW r p).2) 0 0 0).length ≤ most) : U r st (spanW r p).1 (spanW r p).2 (dN (spanW r p).1 (spanW r p).2) 0 0 0 = (letsL r st (spanW r p).1 (spanW r p).2).take (most + 1) := by
  rw [U_all hR st p] at q ⊢
  rw [List.take_of_length_le (by omega)]
/-- What Of reckons with. -/
theorem of_w {d : Int} (h1 : -1000000 ≤ d) (h2 : d ≤ 3000000) {h m x : Nat} (hh : h < 24) (hm : m < 60) (hx : x < 60) : wrap64 (wrap64 (d * 86400) + wrap64 (3600 * (h : Int))) = d * 86400 + 3600 * (h : Int) ∧ wrap64 (d * 86400 + 3600 * (h : Int) + 3599) = d * 86400 + 3600 * (h : Int) + 3599 ∧
    wrap64 (d * 86400 + 3600 * (h : Int) + wrap64 (60 * (m : Int))) = d * 86400 + 3600 * (h : Int) + 60 * (m : Int) ∧ wrap64 (d * 86400 + 3600 * (h : Int) + 60 * (m : Int) + 59) = d * 86400 + 3600 * (h : Int) + 60 * (m : Int) + 59 ∧ wrap64 (d * 86400 + 3600 * (h : Int) + 60 * (m : Int) + (x : Int)) = d * 86400 + 3600 * (h : Int) + 60 * (m : Int) + (x : Int) := by
  rw [w64 (x := d * 86400) (by omega) (by omega), w64 (x := 3600 * (h : Int)) (by omega) (by omega), w64 (x := 60 * (m : Int)) (by omega) (by omega)]
  exact ⟨w64 (by omega) (by omega), w64 (by omega) (by omega), w64 (by omega) (by omega), w64 (by omega) (by omega), w64 (by omega) (by omega)⟩
theorem dn_le {a b : Int} {i : Nat} (h : i < dN a b) : decide (a / 86400 + (i : Int) ≤ b / 86400) = true := decide_eq_true (by unfold dN at h; omega)
theorem dn_gt {a b : Int} {i : Nat} (h : ¬ i < dN a b) : decide (a / 86400 + (i : Int) ≤ b / 86400) = false := decide_eq_false (by unfold dN at h; omega)
theorem dn_in {a b : Int} (ha : InT a) (hb : InT b) {i : Nat} (h : i < dN a b) : -719162 ≤ a / 86400 + (i : Int) ∧ a / 86400 + (i : Int) ≤ 2932896 := by unfold InT at ha hb; unfold dN at h; omega
theorem dn_inc {a b : Int} (ha : InT a) (hb : InT b) {i : Nat} (h : i < dN a b) : wrap64 (a / 86400 + (i : Int) + 1) = a / 86400 + ((i + 1 : Nat) : Int) ∧ (b / 86400 + 1 - (a / 86400 + ((i + 1 : Nat) : Int))).toNat < (b / 86400 + 1 - (a / 86400 + (i : Int))).toNat := by
  have := dn_in ha hb h
  unfold dN at h
  rw [w64 (by omega) (by omega)]
  omega
theorem lt24 {h : Nat} (hh : h < 24) : decide ((h : Int) < 24) = true := decide_eq_true (by omega)
theorem ge24 {h : Nat} (hh : ¬ h < 24) : decide ((h : Int) < 24) = false := decide_eq_false (by omega)
theorem lt60 {h : Nat} (hh : h < 60) : decide ((h : Int) < 60) = true := decide_eq_true (by omega)
theorem ge60 {h : Nat} (hh : ¬ h < 60) : decide ((h : Int) < 60) = false := decide_eq_false (by omega)
theorem up_inc {n h : Nat} (hh : h < n) (hn : n ≤ 60) : wrap64 ((h : Int) + 1) = ((h + 1 : Nat) : Int) := by rw [w64 (by omega) (by omega)]; omega
theorem clk_w3 {x : Int} (h : 0 ≤ x) (h' : x < 86400) : wrap64 (Int.tdiv x 3600) = x / 3600 ∧ Int.tmod (wrap64 (Int.tdiv x 60)) 60 = x % 3600 / 60 ∧ Int.tmod x 60 = x % 60 := by
  rw [tdiv_nn _ h, tdiv_nn _ h, w64 (x := x / 3600) (by omega) (by omega), w64 (x := x / 60) (by omega) (by omega), tmod_nn _ (by omega), tmod_nn _ h]
  omega
theorem nat_eq {i n : Nat} (h : i ≤ n) (h' : ¬ i < n) : i = n := Nat.le_antisymm h (Nat.le_of_not_lt h')
theorem len_1 {l : List Int} {t : Int} {most : Nat} (h : l.length ≤ most) (h' : ¬ (l ++ [t]).length ≤ most) : (l ++ [t]).length = most + 1 := by rw [List.length_append] at h' ⊢; simp at h' ⊢; omega
theorem len_gt {n most : Nat} (h : ¬ n ≤ most) : decide ((most : Int) < (n : Int)) = true := decide_eq_true (by omega)
theorem len_le {n most : Nat} (h : n ≤ most) : decide ((most : Int) < (n : Int)) = false := decide_eq_false (by omega)
theorem len_17 {n most : Nat} (h : n ≤ most) (h' : most ≤ 1000000) : n ≤ 17000000000000 := by omega
end Go.Proofs.YtjjaiahfkiojlaaGreat.Pure

namespace Go.Proofs.YtjjaiahfkiojlaaGreat.Pure
open Go.RowKit Go.Proofs.YtjjaiahfkiojlaaGreat.O Go.Proofs.YtjjaiahfkiojlaaGreatW.PrintWords Go.Proofs.YtjjaiahfkiojlaaGreatW.PrintLast
open Go.Proofs.YtjjaiahfkiojlaaGreat.Civ
set_option linter.unusedVariables false
set_option linter.unusedSimpArgs false
set_option maxRecDepth 100000
set_option maxHeartbeats 4000000
/-- What is behind a part, joined. -/
theorem sj_ (J : Act → World → Prop) {a : Act} {w : World} {x y : Code} {Q : Exit → Act → World → Prop} (h : x.wp Tryz.prog (Exit.then J Q) a w) (k : ∀ a' w', J a' w' → y.wp Tryz.prog Q a' w') : (Code.seq x y).wp Tryz.prog Q a w := by
  refine wp_seq (wp_mono h (fun e a' w' hq => ?_))
  cases e with
  | normal => exact k _ _ hq
  | _ => exact hq
theorem on_mem {L : List (Nat × Obj)} {w0 W : World} (M : On L w0 W) {p : Nat × Obj} (hp : p ∈ L) : W.heap[p.1]? = some p.2 := by
  obtain ⟨k, hk, e⟩ := List.mem_iff_getElem.1 hp
  exact M.me k p.1 p.2 (by rw [List.getElem?_eq_getElem hk, e])
theorem on_of {L : List (Nat × Obj)} {w0 W : World} (bl : Below w0.heap.size w0 W) (me : ∀ p ∈ L, W.heap[p.1]? = some p.2) (nd : (L.map (·.1)).Nodup) : On L w0 W := ⟨bl, fun k g o e => me (g, o) (List.mem_of_getElem? e), nd⟩
/-- A block more, behind the first two. -/
theorem on_third {L : List (Nat × Obj)} {w0 W : World} {p q : Nat × Obj} {g : Nat} {o : Obj} (M : On (p :: q :: L) w0 W) (hg : W.heap[g]? = some o) (hne : ∀ x ∈ p :: q :: L, x.1 ≠ g) : On (p :: q :: (g, o) :: L) w0 W := by
  refine on_of M.bl (fun x hx => ?_) ?_
  · rcases List.mem_cons.1 hx with rfl | hx
    · exact on_mem M (.head _)
    rcases List.mem_cons.1 hx with rfl | hx
    · exact on_mem M (.tail _ (.head _))
    rcases List.mem_cons.1 hx with rfl | hx
    · exact hg
    · exact on_mem M (.tail _ (.tail _ hx))
  · have nd := M.nd
    simp only [List.map_cons, List.nodup_cons, List.mem_cons, List.mem_map, not_or, not_exists, not_and] at nd ⊢
    have h1 := hne p (.head _)
    have h2 := hne q (.tail _ (.head _))
    exact ⟨⟨nd.1.1, h1, nd.1.2⟩, ⟨h2, nd.2.1⟩, fun x hx => hne x (.tail _ (.tail _ hx)), nd.2.2⟩
theorem on_less {L : List (Nat × Obj)} {w0 W : World} {p q x : Nat × Obj} (M : On (p :: q :: x :: L) w0 W) : On (p :: q :: L) w0 W := by
  refine on_of M.bl (fun y hy => ?_) ?_
  · rcases List.mem_cons.1 hy with rfl | hy
    · exact on_mem M (.head _)
    rcases List.mem_cons.1 hy with rfl | hy
    · exact on_mem M (.tail _ (.head _))
    · exact on_mem M (.tail _ (.tail _ (.tail _ hy)))
  · have nd := M.nd
    simp only [List.map_cons, List.nodup_cons, List.mem_cons, not_or] at nd ⊢
    exact ⟨⟨nd.1.1, nd.1.2.2⟩, nd.2.1.2, nd.2.2.2⟩
theorem ne0n_ {n : Int} (h : ¬ ¬ n = 0) : (!decide (n = 0)) = false := ne0f_ (Decidable.not_not.1 h)
theorem quo_ {m n : Int} (h : n ≠ 0) : binE .quo m n = some (.int .i64 (wrap64 (Int.tdiv m n))) := by
  simp only [binE, decide_eq_false h]
theorem begins_on {L : List (Nat × Obj)} {w0 W : World} (M : On L w0 W) {gw gm : Nat} {r : RR} {s : Sl} {st from_ to_ ct : Int} {v : Value} (hL : L[0]? = some (gw, .cells (wc r s st from_ to_ gm ct v) 86 (0, 0))) (R : Rul W (rc r s) r) (h : Right r) (hs : InT st) :
    Calls Tryz.prog 80 #[.pointer (some ⟨gw, 0, none⟩)] W (Rets W (.tuple #[.int .i64 (beginV r st from_).1, .bool (beginV r st from_).2])) := by
  have fl : Tryz.prog.follows .mixedOrders = true := by kernel_rfl
  replace M := M.here
  obtain ⟨g, hg⟩ : ∃ g, g = decide ((spanV r (perV r st)).2.2 ≠ 0 ∨ 0 < r.ct ∨ from_ ≤ st) := ⟨_, rfl⟩
  have P1 : ∀ V, Rul V (rc r s) r → Calls Tryz.prog 16 #[.agg (rc r s), .int .i64 st] V (Rets V (.tuple #[.int .i64 (perV r st), .int .i64 0])) := fun V hV => by
    have := Period_on hV h st
    rw [if_pos hs] at this
    exact this
  refine en_ Tryz.func80 rfl rfl rfl fun a K => sr_ (run_ 2 K rfl fun a K => nil_ ?_)
  refine dseq_ fl rfl rfl M.drew (dp_ 119 8 [0, 1, 2, 4, 5, 6] K rfl rfl (by kernel_rfl) fun a K => dldr_ 127 3 K M.drew 0 rfl hL rfl rfl rfl rfl rfl (by kernel_rfl) fun a K => dld_ 255 7 K M.drew 0 rfl hL rfl rfl rfl rfl rfl rfl rfl (by kernel_rfl) fun a K => dc_ 511 8 K Tryz.func16 (by kernel_rfl) rfl rfl rfl rfl rfl rfl rfl (by kernel_rfl) ((P1 _ (R.below M.drew.bl)).mono ?_))
  rintro _ W1 ⟨rfl, b8⟩
  replace M := M.drew.call b8
  refine ⟨_, rfl, M, fun a K => dp_ 16383 0 [9, 10, 12, 11, 13] K rfl rfl (by kernel_rfl) fun a K => dend_ (by kernel_rfl) ?_⟩
  refine sr_ (run_ 3 K rfl fun a K => ldr_ K M 0 hL rfl rfl rfl rfl rfl fun a K => run_ 1 K rfl fun a K => cl_ K Tryz.func17 (by kernel_rfl) rfl rfl rfl rfl rfl rfl ((Span_on (R.below M.bl) h (perV r st)).mono ?_))
  rintro _ W2 ⟨rfl, b5⟩
  replace M := M.call b5
  refine ⟨_, rfl, fun a K => run_ 7 K rfl fun a K => nil_ (wp_seq ?_)⟩
  refine sj_ (fun a' w' => w' = W2.drew ∧ Kn 96 [(53, .bool g), (8, .int .i64 (spanV r (perV r st)).2.2), (4, .int .i64 (perV r st)), (0, .pointer (some ⟨gw, 0, none⟩))] a') (draw_ fl rfl rfl M.drew (dp_ 7 18 [0, 1, 2] K rfl rfl (by kernel_rfl) fun a K => ?_)) ?_
  replace M := M.drew
  by_cases c1 : ¬ (spanV r (perV r st)).2.2 = 0
  case pos =>
    refine dp_ 2097151 0 [3, 4, 5, 6, 7, 8, 9, 10, 11, 12, 13, 14, 15, 16, 17, 18, 19, 20] (fx_ K (ne0_ c1)) rfl rfl (by kernel_rfl) fun a K => dend_ (by kernel_rfl) ?_
    exact ⟨rfl, fg_ (ks_ (i := 53) (u := .bool g) K rfl (congrArg Value.bool (by rw [hg]; simp [c1]))) ⟨rfl, rfl, rfl, rfl, trivial⟩⟩
  case neg =>
    refine dp_ 127 14 [3, 4, 5, 6] (fx_ K (ne0n_ c1)) rfl rfl (by kernel_rfl) fun a K => dld_ 255 7 K M 0 rfl hL rfl rfl rfl rfl rfl rfl rfl (by kernel_rfl) fun a K => dp_ 2047 10 [8, 9, 10] K rfl rfl (by kernel_rfl) fun a K => ?_
    by_cases c2 : 0 < r.ct
    case pos =>
      refine dp_ 2097151 0 [11, 12, 13, 14, 15, 16, 17, 18, 19, 20] (fx_ K (decide_eq_true c2)) rfl rfl (by kernel_rfl) fun a K => dend_ (by kernel_rfl) ?_
      exact ⟨rfl, fg_ (ks_ (i := 53) (u := .bool g) K rfl (congrArg Value.bool (by rw [hg]; simp [c2]))) ⟨rfl, rfl, rfl, rfl, trivial⟩⟩
    case neg =>
      refine dp_ 245759 4 [11, 12, 13, 15, 16, 17] (fx_ K (decide_eq_false c2)) rfl rfl (by kernel_rfl) fun a K => dld_ 262143 14 K M 0 rfl hL rfl rfl rfl rfl rfl rfl rfl (by kernel_rfl) fun a K => dld_ 524287 18 K M 0 rfl hL rfl rfl rfl rfl rfl rfl rfl (by kernel_rfl) fun a K => dp_ 2097151 0 [19, 20] K rfl rfl (by kernel_rfl) fun a K => dend_ (by kernel_rfl) ?_
      exact ⟨rfl, fg_ (ks_ (i := 53) (u := .bool g) K rfl (congrArg Value.bool (by rw [hg]; simp [c1, c2]))) ⟨rfl, rfl, rfl, rfl, trivial⟩⟩
  rintro a _ ⟨rfl, K⟩
  replace M := M.drew
  unfold beginV
  cases g with
  | true =>
    rw [if_pos (of_decide_eq_true hg.symm)]
    exact ct_ K rfl rfl (sr_ (run_ 5 K rfl fun a K => nil_ (ret2_ rfl K rfl rfl ⟨rfl, M.bl⟩)))
  | false =>
  have hn := of_decide_eq_false hg.symm
  rw [if_neg hn]
  have hlt : st ≤ from_ := by
    refine Int.not_lt.1 fun q => hn (Or.inr (Or.inr (Int.le_of_lt q)))
  refine cs_ K rfl rfl ?_
  refine dseq_ fl rfl rfl M.drew (dp_ 119 8 [0, 1, 2, 4, 5, 6] K rfl rfl (by kernel_rfl) fun a K => dldr_ 127 3 K M.drew 0 rfl hL rfl rfl rfl rfl rfl (by kernel_rfl) fun a K => dld_ 255 7 K M.drew 0 rfl hL rfl rfl rfl rfl rfl rfl rfl (by kernel_rfl) fun a K => dc_ 511 8 K Tryz.func16 (by kernel_rfl) rfl rfl rfl rfl rfl rfl rfl (by kernel_rfl) ((Period_on (R.below M.drew.bl) h from_).mono ?_))
  rintro _ W3 ⟨rfl, b9⟩
  replace M := M.drew.call b9
  refine ⟨_, rfl, M, fun a K => ?_⟩
  by_cases hf : InT from_
  case neg =>
    rw [if_neg hf] at K ⊢
    exact dp_ 16383 0 [9, 10, 12, 11, 13] K rfl rfl (by kernel_rfl) fun a K => dend_ (by kernel_rfl) (wp_seq (sr_ (run_ 2 K rfl fun a K => nil_ (ct_ K rfl rfl (sr_ (run_ 2 K rfl fun a K => nil_ (ret2_ rfl K rfl rfl ⟨rfl, M.bl⟩)))))))
  rw [if_pos hf] at K ⊢
  obtain ⟨o1, o2, o3⟩ := over_w h hs hf hlt
  refine dp_ 16383 0 [9, 10, 12, 11, 13] K rfl rfl (by kernel_rfl) fun a K => dend_ (by kernel_rfl) (wp_seq (sr_ (run_ 2 K rfl fun a K => nil_ (cs_ K rfl rfl ?_))))
  have dz : decide (r.iv = 0) = false := decide_eq_false o3
  refine dseq_ fl rfl rfl M.drew (dp_ 15487 6 [0, 1, 2, 3, 4, 5, 6, 10, 11, 12, 13] K rfl rfl (by kernel_rfl) fun a K => dld_ 15615 7 K M.drew 0 rfl hL rfl rfl rfl rfl rfl rfl rfl (by kernel_rfl) fun a K => dp_ 16383 3 [8, 9] K rfl rfl (by kernel_rfl) fun a K => dld_ 32767 14 K M.drew 0 rfl hL rfl rfl rfl rfl rfl rfl rfl (by kernel_rfl) fun a K => dt_ 65535 15 K M.drew rfl rfl rfl rfl (by kernel_rfl) (fun W hW => run_bin rfl Tryz.underlying3 Tryz.underlying3 (K.of (x := .tmp 80) rfl) (K.of (x := .tmp 85) rfl) (quo_ o3)) fun a K => dp_ 131071 0 [16] K rfl rfl (by kernel_rfl) fun a K => dend_ (by kernel_rfl) ?_)
  replace M := M.drew
  replace K := ks_ (i := 10) K rfl (congrArg (Value.int .i64) o1)
  refine sr_ (run_ 6 K rfl fun a K => ld_ K M 0 hL rfl rfl rfl rfl rfl rfl rfl fun a K => run_ 4 K rfl fun a K => nil_ (ret2_ rfl K rfl rfl ⟨by rw [← o2], M.bl⟩))
end Go.Proofs.YtjjaiahfkiojlaaGreat.Pure
