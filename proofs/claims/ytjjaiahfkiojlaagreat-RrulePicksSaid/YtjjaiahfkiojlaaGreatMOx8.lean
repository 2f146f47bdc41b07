/- Runs of rules that tell one time a period, in plain numbers. No condition beyond those each lemma names. -/
/- What the rules of wakes tell, in plain numbers. No condition. -/
-- What some functions of the program compute: a text of this claim's own (lines first written by the kit's tool, some proved anew).
import Derived.Test.YtjjaiahfkiojlaaGreatMT23w
import Derived.Test.YtjjaiahfkiojlaaGreatMOx0
import Derived.Test.YtjjaiahfkiojlaaGreatMOx7
namespace Go.Proofs.YtjjaiahfkiojlaaGreat.Pure
open Go.RowKit Go.Proofs.YtjjaiahfkiojlaaGreat.O Go.Proofs.YtjjaiahfkiojlaaGreatW.PrintWords Go.Proofs.YtjjaiahfkiojlaaGreatW.PrintLast
open Go.Proofs.YtjjaiahfkiojlaaGreat.Civ
set_option linter.unusedVariables false
set_option linter.unusedSimpArgs false
/-! Runs of rules that tell one time a period, or none -/
theorem places_id {r : RR} (h : r.sp = []) (l : List Int) : placesV r l = l := if_pos h
theorem step_one {r : RR} {st from_ to_ F p a b t : Int} {S : St} {k : Nat} (hs : spanV r p = (a, b, 0)) (he : endsV r to_ S.ct a = false) (hp : r.sp = []) (hl : letsL r st a b = [t]) (hF : 0 ≤ S.sp) (h2 : S.sp + 2 ≤ F) :
    worksV r st from_ to_ F (k + 1) p S = worksV r st from_ to_ F k (p + r.iv) (if goesV r st S.ct t then tellV from_ to_ ⟨S.sp + 2, S.ct, S.out⟩ t else ⟨S.sp + 2, S.ct, S.out⟩) := by
  have e1 : ([t] : List Int).take (F.toNat + 1) = [t] := by simp
  rw [worksV]
  rw [hs, he, if_neg (by simp)]
  have : stepV r st from_ to_ F S a b = some (if goesV r st S.ct t then tellV from_ to_ ⟨S.sp + 2, S.ct, S.out⟩ t else ⟨S.sp + 2, S.ct, S.out⟩) := by
    unfold stepV
    rw [hl, e1, if_neg (by omega), if_neg (by simp; omega), places_id hp]
    have : S.sp + 1 + (([t] : List Int).length : Nat) = S.sp + 2 := by simp; omega
    rw [this]
    rfl
  dsimp only
  rw [this]
theorem step_none {r : RR} {st from_ to_ F p a b : Int} {S : St} {k : Nat} (hs : spanV r p = (a, b, 0)) (he : endsV r to_ S.ct a = false) (hp : r.sp = []) (hl : letsL r st a b = []) (h2 : S.sp + 1 ≤ F) :
    worksV r st from_ to_ F (k + 1) p S = worksV r st from_ to_ F k (p + r.iv) ⟨S.sp + 1, S.ct, S.out⟩ := by
  rw [worksV]
  rw [hs, he, if_neg (by simp)]
  have : stepV r st from_ to_ F S a b = some ⟨S.sp + 1, S.ct, S.out⟩ := by
    unfold stepV
    rw [hl, if_neg (by omega), if_neg (by simp; omega), places_id hp]
    simp [passV]
  dsimp only
  rw [this]
theorem step_end {r : RR} {st from_ to_ F p : Int} {S : St} {k : Nat} (he : (spanV r p).2.2 ≠ 0 ∨ endsV r to_ S.ct (spanV r p).1 = true) : worksV r st from_ to_ F (k + 1) p S = some S := by
  rw [worksV, if_pos he]
/-- A rule with a count, one time a period. -/
theorem run_count {r : RR} {st from_ to_ F p0 : Int} {n : Nat} {a b t : Nat → Int} (hp : r.sp = []) (hun : r.un = false) (hct : r.ct = n) (hn : 0 < n)
    (hs : ∀ i, i < n → spanV r (p0 + (i : Int) * r.iv) = (a i, b i, 0)) (hl : ∀ i, i < n → letsL r st (a i) (b i) = [t i]) (ha : ∀ i, i < n → a i ≤ to_) (ht0 : t 0 = st) (ht : ∀ i, 0 < i → i < n → st < t i) (hin : ∀ i, i < n → from_ ≤ t i ∧ t i ≤ to_) (hF : 2 * (n : Int) ≤ F) :
    ∀ k : Nat, n < k → worksV r st from_ to_ F k p0 ⟨0, 1, [st]⟩ = some ⟨if n = 1 then 0 else 2 * (n : Int), n, (List.range n).map t⟩ := by
  have ends : ∀ (ct A : Int), A ≤ to_ → ct < n → endsV r to_ ct A = false := fun ct A h1 h2 => by
    unfold endsV
    rw [hun, hct, decide_eq_false (by omega), decide_eq_false (show ¬ (n : Int) ≤ ct by omega)]
    simp
  have fin : ∀ (k : Nat) (p : Int) (S : St), S.ct = n → worksV r st from_ to_ F (k + 1) p S = some S := fun k p S h => by
    refine step_end (Or.inr ?_)
    unfold endsV
    rw [hct, h, decide_eq_true (show (0 : Int) < n by omega), decide_eq_true (Int.le_refl _)]
    simp
  have run : ∀ (j i k : Nat), i + j = n → 0 < i → j < k → worksV r st from_ to_ F k (p0 + (i : Int) * r.iv) ⟨2 * (i : Int), i, (List.range i).map t⟩ = some ⟨2 * (n : Int), n, (List.range n).map t⟩ := by
    intro j
    induction j with
    | zero =>
      intro i k hij hi hk
      obtain ⟨k, rfl⟩ : ∃ k', k = k' + 1 := ⟨k - 1, by omega⟩
      obtain rfl : i = n := by omega
      exact fin _ _ _ rfl
    | succ j ih =>
      intro i k hij hi hk
      obtain ⟨k, rfl⟩ : ∃ k', k = k' + 1 := ⟨k - 1, by omega⟩
      have hin' : i < n := by omega
      rw [step_one (hs i hin') (ends _ _ (ha i hin') (by dsimp only; omega)) hp (hl i hin') (by dsimp only; omega) (by dsimp only; omega)]
      have hg : goesV r st (i : Int) (t i) = true := by
        unfold goesV
        rw [hun, hct, decide_eq_true (ht i hi hin'), decide_eq_true (show (i : Int) < n by omega)]
        simp
      dsimp only
      rw [if_pos hg]
      have e : tellV from_ to_ ⟨2 * (i : Int) + 2, (i : Int), (List.range i).map t⟩ (t i) = ⟨2 * ((i + 1 : Nat) : Int), ((i + 1 : Nat) : Int), (List.range (i + 1)).map t⟩ := by
        unfold tellV
        rw [if_pos (hin i hin'), List.range_succ, List.map_append]
        simp
        omega
      rw [e]
      have e2 : p0 + (i : Int) * r.iv + r.iv = p0 + ((i + 1 : Nat) : Int) * r.iv := by
        rw [Int.natCast_succ, Int.add_mul, Int.one_mul]; omega
      rw [e2]
      exact ih (i + 1) k (by omega) (by omega) (by omega)
  intro k hk
  obtain ⟨k, rfl⟩ : ∃ k', k = k' + 1 := ⟨k - 1, by omega⟩
  by_cases c : n = 1
  · subst c
    rw [fin _ _ _ rfl, if_pos rfl]
    simp [List.range_succ, ht0]
  · have e0 : p0 = p0 + ((0 : Nat) : Int) * r.iv := by simp
    have hs0 := hs 0 hn
    rw [← e0] at hs0
    rw [step_one hs0 (ends _ _ (ha 0 hn) (by dsimp only; omega)) hp (hl 0 hn) (by dsimp only; omega) (by dsimp only; omega)]
    have hg : goesV r st 1 (t 0) = false := by
      unfold goesV
      rw [ht0, decide_eq_false (Int.lt_irrefl _)]
      rfl
    dsimp only
    rw [hg, if_neg (by decide)]
    have := run (n - 1) 1 k (by omega) (by omega) (by omega)
    rw [if_neg c]
    have e1 : p0 + ((1 : Nat) : Int) * r.iv = p0 + r.iv := by simp
    rw [e1] at this
    simpa [List.range_succ, ht0] using this
/-- Times of a rule without lists, with a count. -/
theorem times_count {fr iv : Int} {n : Nat} {st F : Int} (h1 : 1 ≤ fr) (h2 : fr ≤ 5) (h3 : 1 ≤ iv) (h4 : iv ≤ 1000) (hn : 0 < n) (hn' : n ≤ 1000) (hst : -62135596800 ≤ st) (hend : st + (n : Int) * iv * stp fr + 604800 ≤ 253402300799) (hF : 2 * (n : Int) ≤ F) (hF' : F ≤ 200000) :
    timesV (pl fr iv n false 0) st st 4611686018427387904 F = ((List.range n).map fun (i : Nat) => st + (i : Int) * iv * stp fr, if n = 1 then 0 else 2 * (n : Int), 0) := by
  have hR : Right (pl fr iv n false 0) := pl_right h1 (by omega) h3 h4 (by omega) (by omega) (Or.inl ⟨rfl, rfl⟩)
  have hs0 : 1 ≤ stp fr ∧ stp fr ≤ 604800 := by unfold stp; repeat' split
                                                all_goals omega
  have up : ∀ i : Nat, i < n → 0 ≤ (i : Int) * iv * stp fr ∧ (i : Int) * iv * stp fr ≤ (n : Int) * iv * stp fr := fun i hi => by
    refine ⟨Int.mul_nonneg (Int.mul_nonneg (by omega) (by omega)) (by omega), ?_⟩
    exact Int.mul_le_mul_of_nonneg_right (Int.mul_le_mul_of_nonneg_right (by omega) (by omega)) (by omega)
  have sp : ∀ i : Nat, i < n → spanV (pl fr iv n false 0) (perV (pl fr iv n false 0) st + (i : Int) * iv) = ((spanW (pl fr iv n false 0) (perV (pl fr iv n false 0) st + (i : Int) * iv)).1, (spanW (pl fr iv n false 0) (perV (pl fr iv n false 0) st + (i : Int) * iv)).2, 0) := fun i hi => by
    have b := pl_span (iv := iv) (ct := n) (ua := 0) (un := false) h1 h2 st ((i : Int) * iv)
    have u := up i hi
    have l := b.2.2.2.2 hst (Int.mul_nonneg (by omega) (by omega))
    refine spanV_ok hR.lens (fun q => ?_) ?_ ?_
    · exact absurd q (show ¬ fr = 6 by omega)
    · unfold InT; omega
    · unfold InT; omega
  unfold timesV
  have u0 := up 0 hn
  rw [if_pos (by unfold mayT; omega)]
  have hgo : goneV (pl fr iv n false 0) st st 4611686018427387904 F = some ⟨if n = 1 then 0 else 2 * (n : Int), n, (List.range n).map fun (i : Nat) => st + (i : Int) * iv * stp fr⟩ := by
    have s0 := sp 0 hn
    simp only [Int.natCast_zero, Int.zero_mul, Int.add_zero] at s0
    have hb : beginV (pl fr iv n false 0) st st = (perV (pl fr iv n false 0) st, true) := by
      unfold beginV
      rw [if_pos (Or.inr (Or.inr (Int.le_refl _))), s0]
      rfl
    unfold goneV
    rw [hb, if_pos rfl]
    have e : tellV st 4611686018427387904 ⟨0, 0, []⟩ st = ⟨0, 1, [st]⟩ := by
      unfold tellV
      rw [if_pos (by omega)]
      rfl
    rw [e]
    refine run_count (a := fun i => (spanW (pl fr iv n false 0) (perV (pl fr iv n false 0) st + (i : Int) * iv)).1) (b := fun i => (spanW (pl fr iv n false 0) (perV (pl fr iv n false 0) st + (i : Int) * iv)).2) rfl rfl rfl hn sp (fun i hi => pl_lets h1 h2 st _) (fun i hi => ?_) (by simp) (fun i h0 hi => ?_) (fun i hi => ?_) hF (F.toNat + 2) (by omega)
    · have b := pl_span (iv := iv) (ct := n) (ua := 0) (un := false) h1 h2 st ((i : Int) * iv)
      have u := up i hi
      omega
    · have : 0 < (i : Int) * iv * stp fr := Int.mul_pos (Int.mul_pos (by omega) (by omega)) (by omega)
      omega
    · have u := up i hi
      omega
  rw [hgo]
end Go.Proofs.YtjjaiahfkiojlaaGreat.Pure

namespace Go.Proofs.YtjjaiahfkiojlaaGreat.Pure
open Go.RowKit Go.Proofs.YtjjaiahfkiojlaaGreat.O Go.Proofs.YtjjaiahfkiojlaaGreatW.PrintWords Go.Proofs.YtjjaiahfkiojlaaGreatW.PrintLast
open Go.Proofs.YtjjaiahfkiojlaaGreat.Civ
set_option linter.unusedVariables false
set_option linter.unusedSimpArgs false
/-! The last Friday of a month -/
def rB : RR := ⟨6, 1, 0, false, 0, false, [], [], [], [⟨0, 5⟩], [], [], [], [], [-1], 1⟩
theorem rB_right : Right rB := by
  refine ⟨?_, by decide, by decide, Or.inl ⟨rfl, rfl, rfl⟩⟩
  decide
theorem rB_few : Few rB := ⟨Nat.zero_le 100, Nat.zero_le 100, Nat.zero_le 100⟩
theorem rB_day (first n : Int) : dayV rB first n = decide (wd n = 5) := by
  unfold dayV likeV weekNoV numberedV
  simp [rB, oneV, eitherV]
  by_cases c : wd n = 5
  · simp [c]
  · simp [c]; exact fun q => c q.symm
theorem rB_clock : clocksV rB 0 0 = [0] := by decide
theorem rB_days (a b d : Int) (n : Nat) : daysL rB 0 a b [0] d n = (List.range n).flatMap fun (i : Nat) => if wd (d + (i : Int)) = 5 then inL a b (d + (i : Int)) [0] else [] := by
  unfold daysL dayL
  congr 1
  funext i
  rw [rB_day]
  by_cases c : wd (d + (i : Int)) = 5
  · rw [decide_eq_true c, if_pos rfl, if_pos c]
  · rw [decide_eq_false c, if_neg (by decide), if_neg c]
theorem rB_span {p a b : Int} (h0 : 0 ≤ p ∧ p ≤ 120011) (e : spanW rB p = (a, b)) (i1 : InT a) (i2 : InT b) : spanV rB p = (a, b, 0) := by
  have := spanV_ok (p := p) rB_right.lens (fun _ => h0) (by rw [e]; exact i1) (by rw [e]; exact i2)
  rw [e] at this
  exact this
theorem rB_s1 : spanV rB 23640 = (0, 2678399, 0) := rB_span (by decide) (by decide) (by decide) (by decide)
theorem rB_s2 : spanV rB 23641 = (2678400, 5097599, 0) := rB_span (by decide) (by decide) (by decide) (by decide)
theorem rB_s3 : spanV rB 23642 = (5097600, 7775999, 0) := rB_span (by decide) (by decide) (by decide) (by decide)
theorem rB_l1 : letsL rB 0 0 2678399 = [86400, 691200, 1296000, 1900800, 2505600] := by
  unfold letsL
  rw [show (0 : Int) / 86400 = 0 by decide, show (0 : Int) % 86400 = 0 by decide, rB_clock, rB_days]
  decide
theorem rB_l2 : letsL rB 0 2678400 5097599 = [3110400, 3715200, 4320000, 4924800] := by
  unfold letsL
  rw [show (0 : Int) / 86400 = 0 by decide, show (0 : Int) % 86400 = 0 by decide, show (2678400 : Int) % 86400 = 0 by decide, rB_clock, rB_days]
  decide
theorem dt_a : dt 0 = (1970, 1, 1) := by
  rw [show (0 : Int) = num 1970 1 1 by decide]
  exact dt_num (rt_first (by omega) (by omega))
theorem dt_b : dt 10 = (1970, 1, 11) := by
  rw [show (10 : Int) = num 1970 1 11 by decide]
  exact dt_num ⟨by decide, by decide, by decide, by decide, by decide, by decide⟩
theorem rB_p1 : perV rB 0 = 23640 := by
  unfold perV
  rw [show (0 : Int) / 86400 = 0 by decide, dt_a]
  decide
theorem rB_p2 : perV rB 864000 = 23640 := by
  unfold perV
  rw [show (864000 : Int) / 86400 = 10 by decide, dt_b]
  decide
theorem wake_a : timesV (pl 4 1 3 false 0) 0 0 4611686018427387904 100 = ([0, 86400, 172800], 6, 0) := by
  have := times_count (fr := 4) (iv := 1) (n := 3) (st := 0) (F := 100) (by decide) (by decide) (by decide) (by decide) (by decide) (by decide) (by decide) (by decide) (by decide) (by decide)
  simpa [stp, List.range_succ] using this
theorem wake_b : ofV rB 0 23640 = ([2505600], 0) := by
  unfold ofV
  rw [rB_s1, if_pos rfl]
  dsimp only
  rw [rB_l1]
  decide
theorem rB_b1 : beginV rB 0 0 = (23640, true) := by
  unfold beginV
  rw [rB_p1, rB_s1, if_pos (by decide)]
  rfl
theorem rB_b2 : beginV rB 0 864000 = (23640, true) := by
  unfold beginV
  rw [rB_p1, rB_p2, rB_s1, if_neg (by decide), if_pos (by decide)]
  decide
theorem wake_d : timesV rB 0 0 4611686018427387904 3 = ([], 0, 22) := by
  have st : stepV rB 0 0 4611686018427387904 3 (tellV 0 4611686018427387904 ⟨0, 0, []⟩ 0) 0 2678399 = none := by
    unfold stepV
    rw [rB_l1]
    rfl
  have e : worksV rB 0 0 4611686018427387904 3 ((3 : Int).toNat + 2) 23640 (tellV 0 4611686018427387904 ⟨0, 0, []⟩ 0) = none := by
    rw [show (3 : Int).toNat + 2 = 4 + 1 from rfl, worksV, rB_s1, if_neg (by decide)]
    dsimp only
    rw [st]
  unfold timesV goneV
  rw [if_pos (by decide), rB_b1, if_pos rfl, e]
theorem wake_c0 : timesV rB 0 864000 3456000 100 = ([2505600], 11, 0) := by
  have t1 : stepV rB 0 864000 3456000 100 (tellV 864000 3456000 ⟨0, 0, []⟩ 0) 0 2678399 = some ⟨6, 2, [2505600]⟩ := by
    unfold stepV
    rw [rB_l1]
    rfl
  have t2 : stepV rB 0 864000 3456000 100 ⟨6, 2, [2505600]⟩ 2678400 5097599 = some ⟨11, 3, [2505600]⟩ := by
    unfold stepV
    rw [rB_l2]
    rfl
  have e2 : (23640 + rB.iv : Int) = 23641 := by decide
  have e3 : (23641 + rB.iv : Int) = 23642 := by decide
  have e : worksV rB 0 864000 3456000 100 ((100 : Int).toNat + 2) 23640 (tellV 864000 3456000 ⟨0, 0, []⟩ 0) = some ⟨11, 3, [2505600]⟩ := by
    rw [show (100 : Int).toNat + 2 = 99 + 1 + 1 + 1 from rfl, worksV, rB_s1, if_neg (by decide)]
    dsimp only
    rw [t1]
    dsimp only
    rw [e2, worksV, rB_s2, if_neg (by decide)]
    dsimp only
    rw [t2]
    dsimp only
    rw [e3, worksV, rB_s3, if_pos (by decide)]
  unfold timesV goneV
  rw [if_pos (by decide), rB_b2, if_pos rfl, e]
theorem wake_c : lastV rB 0 3456000 2592000 100 = (2505600, true, 11, 0) := by
  unfold lastV
  rw [show askV 3456000 2592000 = (3456000, 2592000) by decide]
  dsimp only
  rw [show (3456000 - 2592000 : Int) = 864000 by decide, wake_c0, if_neg (by decide)]
  rfl
end Go.Proofs.YtjjaiahfkiojlaaGreat.Pure

namespace Go.Proofs.YtjjaiahfkiojlaaGreat.O
open Go.RowKit Go.Proofs.YtjjaiahfkiojlaaGreatW.PrintWords Go.Proofs.YtjjaiahfkiojlaaGreatW.PrintLast Go.Proofs.YtjjaiahfkiojlaaGreatW.PrintMore
attribute [local go_sem] max2_int min2_int max_two min_two max_three min_three max_four min_four   -- for this text's walks alone
set_option linter.unusedVariables false
set_option linter.unusedSimpArgs false

/-! ### solsticeref01_Number: function 32 -/
def solsticeref01_Number.l0 : Nat → Int → Int → Int → Int → Int → Int → Option (Int)
  | 0, _, _, _, _, _, _ => none
  | k + 1, x3, x4, x5, x111000, x111001, x111002 => if x5 < x111001 then ((solsticeref01_Len.f k x3 x5).bind fun t111 => (solsticeref01_Number.l0 k x3 (wrap64 (x4 + t111)) (wrap64 (x5 + 1)) x111000 x111001 x111002)) else (some (wrap64 ((wrap64 ((wrap64 (x4 + x111002)) - 1)) - 719528)))
def solsticeref01_Number.f (k : Nat) (a0_0 : Int) (a0_1 : Int) (a0_2 : Int) : Option (Int) := solsticeref01_Number.l0 k a0_0 (wrap64 ((wrap64 ((wrap64 ((wrap64 (365 * a0_0)) + (wrap64 (Int.tdiv (wrap64 (a0_0 + 3)) 4)))) - (wrap64 (Int.tdiv (wrap64 (a0_0 + 99)) 100)))) + (wrap64 (Int.tdiv (wrap64 (a0_0 + 399)) 400)))) 1 a0_0 a0_1 a0_2
theorem solsticeref01_Number.mono_l : ∀ k, (∀ y0 y1 y2 y3 y4 y5, LeO (solsticeref01_Number.l0 k y0 y1 y2 y3 y4 y5) (solsticeref01_Number.l0 (k + 1) y0 y1 y2 y3 y4 y5))
  | 0 => fun _ _ _ _ _ _ r h => by simp [solsticeref01_Number.l0] at h
  | k + 1 => by
    have ih0 := solsticeref01_Number.mono_l k
    · intro y0 y1 y2 y3 y4 y5
      unfold solsticeref01_Number.l0
      repeat' first
      | (with_reducible exact ih0 _ _ _ _ _ _)
      | (with_reducible exact solsticeref01_Len.mono _ _ _)
      | (with_reducible exact LeO.refl _)
      | (with_reducible exact LeO.none _)
      | (with_reducible refine LeO.ite ?_ ?_)
      | (with_reducible refine LeO.bind ?_ (fun _ => ?_))
      | exact ih0 _ _ _ _ _ _
      | exact solsticeref01_Len.mono _ _ _
      | exact LeO.none _
      | refine LeO.ite ?_ ?_
      | refine LeO.bind ?_ (fun _ => ?_)
theorem solsticeref01_Number.mono : ∀ a0 a1 a2 k, LeO (solsticeref01_Number.f k a0 a1 a2) (solsticeref01_Number.f (k + 1) a0 a1 a2) := by
  intro a0 a1 a2 k
  have ih0 := solsticeref01_Number.mono_l k
  unfold solsticeref01_Number.f
  repeat' first
      | (with_reducible exact ih0 _ _ _ _ _ _)
      | (with_reducible exact solsticeref01_Len.mono _ _ _)
      | (with_reducible exact LeO.refl _)
      | (with_reducible exact LeO.none _)
      | (with_reducible refine LeO.ite ?_ ?_)
      | (with_reducible refine LeO.bind ?_ (fun _ => ?_))
      | exact ih0 _ _ _ _ _ _
      | exact solsticeref01_Len.mono _ _ _
      | exact LeO.none _
      | refine LeO.ite ?_ ?_
      | refine LeO.bind ?_ (fun _ => ?_)
set_option maxHeartbeats 8000000 in
set_option maxRecDepth 100000 in
theorem solsticeref01_Number.calls (k : Nat) (a0_0 : Int) (a0_1 : Int) (a0_2 : Int) (r : Int) (w : World) (h : solsticeref01_Number.f k a0_0 a0_1 a0_2 = some r) :
    Calls Tryz.prog 32 #[.agg #[.int .i64 a0_0, .int .i64 a0_1, .int .i64 a0_2]] w fun e w' => e = .returned (.int .i64 r) ∧ Below w.heap.size w w' := by
  have hu30 := Tryz.underlying30
  have HB := Aside0.mk (Below.refl w.heap.size w)
  have H : (solsticeref01_Number.l0 k a0_0 (wrap64 ((wrap64 ((wrap64 ((wrap64 (365 * a0_0)) + (wrap64 (Int.tdiv (wrap64 (a0_0 + 3)) 4)))) - (wrap64 (Int.tdiv (wrap64 (a0_0 + 99)) 100)))) + (wrap64 (Int.tdiv (wrap64 (a0_0 + 399)) 400)))) 1 a0_0 a0_1 a0_2) = some r := h
  clear h
  have H' := Aside0.mk H
  clear H
  go_enter Tryz.func32, Tryz.ntmps32
  go_wp2_with (first | ((with_reducible refine gate_dst (N := 1) rfl ?_); refine box_event ?hg (N := 1) ?hd (cs := #[.int .i64 a0_0, .int .i64 a0_1, .int .i64 a0_2]) (t := 30) ?hr ?_; (case hd => rfl); (case hg => rfl); (case hr => first | (go_simp; done) | (go_simp; rfl)); intro gb110 hg w2 hbox hb; have n0_ := Aside0.mk (below_step (by repeat (first | (with_reducible first | exact HB.out | apply below_alloc | apply pw_below_drewN | apply below_drew1) | exact HB.out)) hb); have n1_ := Aside0.mk (hbox); have n2_ := Aside0.mk ((by rw [hg]; exact (below_size (by repeat (first | (with_reducible first | exact HB.out | apply below_alloc | apply pw_below_drewN | apply below_drew1) | exact HB.out))) : w.heap.size ≤ gb110)); have n3_ := Aside0.mk ((by rw [hg]; exact (below_size (by repeat (first | (with_reducible first | exact HB.out | apply below_alloc | apply pw_below_drewN | apply below_drew1) | exact HB.out))) : w.heap.size ≤ gb110)); clear HB; have HB := n0_; have BK110 := n1_; have GW110 := n2_; have GE110 := n3_; clear n0_ n1_ n2_ n3_; clear hb hbox hg; have hcz3_0 : w2.cell? ⟨gb110, 0, none⟩ = some (.int .i64 a0_0) := (blk_cell BK110.out 0).trans rfl; have hcz3_1 : w2.cell? ⟨gb110, 1, none⟩ = some (.int .i64 a0_1) := (blk_cell BK110.out 1).trans rfl; have hcz3_2 : w2.cell? ⟨gb110, 2, none⟩ = some (.int .i64 a0_2) := (blk_cell BK110.out 2).trans rfl; have hfz3_0 := blk_frozen BK110.out 0; have hfz3_1 := blk_frozen BK110.out 1; have hfz3_2 := blk_frozen BK110.out 2))
  go_loopg [4, 5] k (fun kq v4 v5 w' => ∃ (x4_1 : Int) (x5_1 : Int), v4 = .int .i64 x4_1 ∧ v5 = .int .i64 x5_1 ∧ Aside0 (solsticeref01_Number.l0 kq a0_0 x4_1 x5_1 a0_0 a0_1 a0_2 = some r) ∧ Aside0 (kq ≤ k) ∧ Aside0 (w'.heap[gb110]? = some (.cells #[.int .i64 a0_0, .int .i64 a0_1, .int .i64 a0_2] 30 (0, 0))) ∧ Aside0 (Below w.heap.size w w'))
  case atStart => exact ⟨(wrap64 ((wrap64 ((wrap64 ((wrap64 (365 * a0_0)) + (wrap64 (Int.tdiv (wrap64 (a0_0 + 3)) 4)))) - (wrap64 (Int.tdiv (wrap64 (a0_0 + 99)) 100)))) + (wrap64 (Int.tdiv (wrap64 (a0_0 + 399)) 400)))), (1), (by first | rfl | (simp; done) | (simp [*]; done)), (by first | rfl | (simp; done) | (simp [*]; done)), H', ⟨Nat.le_refl _⟩, ⟨by (with_reducible repeat (first | refine blk_drewN ?_ _ | refine blk_drew ?_ | refine blk_alloc ?_ _)); exact BK110.out⟩, ⟨by repeat (first | (with_reducible first | exact HB.out | apply below_alloc | apply pw_below_drewN | apply below_drew1 | refine below_set ?_ GE110.out) | exact HB.out)⟩⟩
  case round =>
    clear H'
    try clear p2
    try clear c3
    try clear hcz3_0
    try clear hcz3_1
    try clear hcz3_2
    try clear hfz3_0
    try clear hfz3_1
    try clear hfz3_2
    obtain ⟨x4_1, x5_1, rfl, rfl, HA, HK1, BK110, HB⟩ := hrel
    cases gk with
    | zero => exact absurd HA.out (by simp [solsticeref01_Number.l0])
    | succ k1 =>
      have H := HA.out
      clear HA
      simp only [solsticeref01_Number.l0] at H
      by_cases c4 : x5_1 < a0_1
      · rw [if_pos c4] at H
        have c4b0 : decide (x5_1 < a0_1) = true := decide_eq_true c4
        clear c4
        replace H := Option.bind_eq_some_iff.mp H
        obtain ⟨t111, A50, H⟩ := H
        replace H : (solsticeref01_Number.l0 k1 a0_0 (wrap64 (x4_1 + t111)) (wrap64 (x5_1 + 1)) a0_0 a0_1 a0_2) = some r := H
        have A5 := Aside0.mk A50
        clear A50
        have H' := Aside0.mk H
        clear H
        have hcz6_0 : wr.cell? ⟨gb110, 0, none⟩ = some (.int .i64 a0_0) := (blk_cell BK110.out 0).trans rfl
        have hcz6_1 : wr.cell? ⟨gb110, 1, none⟩ = some (.int .i64 a0_1) := (blk_cell BK110.out 1).trans rfl
        have hcz6_2 : wr.cell? ⟨gb110, 2, none⟩ = some (.int .i64 a0_2) := (blk_cell BK110.out 2).trans rfl
        have hfz6_0 := blk_frozen BK110.out 0
        have hfz6_1 := blk_frozen BK110.out 1
        have hfz6_2 := blk_frozen BK110.out 2
        go_wp2_with (first | ((with_reducible refine gate_callee (f := 31) rfl ?_); refine goesL_ (some 31) rfl rfl Tryz.func31 (by kernel_rfl) rfl #[.int .i64 a0_0, .int .i64 x5_1] rfl (by (try simp only [List.map_toArray, List.map_cons, List.map_nil]); first | done | rfl | (simp only [List.length_drop, List.length_take]; rfl)) ?_; (with_reducible refine (solsticeref01_Len.calls k1 a0_0 x5_1 t111 _ A5.out).mono ?_); rintro e w' ⟨rfl, ⟨nd, rfl⟩⟩; refine ⟨_, rfl, ?_⟩))
        go_roundg k1
        case measure => have := HK1.out; omega
        case rel => exact ⟨(wrap64 (x4_1 + t111)), (wrap64 (x5_1 + 1)), (by first | rfl | (simp; done) | (simp [*]; done)), (by first | rfl | (simp; done) | (simp [*]; done)), H', ⟨by have := HK1.out; omega⟩, ⟨by (with_reducible repeat (first | refine blk_drewN ?_ _ | refine blk_drew ?_ | refine blk_alloc ?_ _)); exact BK110.out⟩, ⟨by repeat (first | (with_reducible first | exact HB.out | apply below_alloc | apply pw_below_drewN | apply below_drew1 | refine below_set ?_ GE110.out) | exact HB.out)⟩⟩
      · rw [if_neg c4] at H
        have c4b0 : decide (x5_1 < a0_1) = false := decide_eq_false c4
        clear c4
        obtain rfl := Option.some.inj H
        have hcz7_0 : wr.cell? ⟨gb110, 0, none⟩ = some (.int .i64 a0_0) := (blk_cell BK110.out 0).trans rfl
        have hcz7_1 : wr.cell? ⟨gb110, 1, none⟩ = some (.int .i64 a0_1) := (blk_cell BK110.out 1).trans rfl
        have hcz7_2 : wr.cell? ⟨gb110, 2, none⟩ = some (.int .i64 a0_2) := (blk_cell BK110.out 2).trans rfl
        have hfz7_0 := blk_frozen BK110.out 0
        have hfz7_1 := blk_frozen BK110.out 1
        have hfz7_2 := blk_frozen BK110.out 2
        go_wp2
        go_ret
        exact ⟨by first | rfl | (simp [errW_none, errW_some] <;> rfl) | (simp [*, errW_none, errW_some] <;> rfl), by repeat (first | (with_reducible first | exact HB.out | apply below_alloc | apply pw_below_drewN | apply below_drew1 | refine below_set ?_ GE110.out) | exact HB.out)⟩

end Go.Proofs.YtjjaiahfkiojlaaGreat.O
