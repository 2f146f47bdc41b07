/- What the reference's functions of layer 3 compute. -/
import Derived.Test.YtlefnaoflajnmaaGS03
import Derived.Test.YtlefnaoflajnmaaG302r
import Derived.Test.YtlefnaoflajnmaaOx18
import Derived.Test.YtlefnaoflajnmaaOx22
import Derived.Test.YtlefnaoflajnmaaOx25
import Derived.Test.YtlefnaoflajnmaaOx26
import Derived.Test.YtlefnaoflajnmaaOx33
namespace Go.Proofs.Ytlefnaoflajnmaa.Pure
open Go.RowKit Go.Proofs.Ytlefnaoflajnmaa.O Go.Proofs.YtlefnaoflajnmaaW.PrintWords Go.Proofs.YtlefnaoflajnmaaW.PrintLast
open Go.Proofs.Ytlefnaoflajnmaa.Civ
theorem ron (kd w d : Int) : Ev (fun k => solsticeref01_On.f k kd w d) (decide (OnR kd w d)) := by
  have j0 : ∀ b : Bool, (b = true ↔ kd = 3 ∨ kd = 4) → kd ≠ 1 → kd ≠ 2 → Ev (fun k => solsticeref01_On.j0 k b kd w d) (decide (OnR kd w d)) := by
    intro b hb n1 n2
    refine evstep ?_
    simp only [solsticeref01_On.j0, rin, Option.bind_some]
    refine evif (fun h => evif (fun h2 => evs ?_) (fun h2 => evs ?_)) (fun h => evs ?_)
    · have := hb.1 h; rw [decide_eq_decide]; simp only [decide_eq_true_eq] at h2; unfold OnR; omega
    · have := hb.1 h; rw [eq_comm, decide_eq_false_iff_not]; simp only [decide_eq_true_eq] at h2; unfold OnR; omega
    · have := mt hb.2 h; rw [eq_comm, decide_eq_false_iff_not]; unfold OnR; omega
  unfold solsticeref01_On.f
  simp only [rin, Option.bind_some]
  refine evif (fun h1 => evif (fun h2 => evs ?_) (fun h2 => evs ?_)) (fun h1 => evif (fun h2 => evif (fun h3 => evs ?_) (fun h3 => evs ?_)) (fun h2 => evif (fun h3 => j0 _ ?_ h1 h2) (fun h3 => j0 _ ?_ h1 h2)))
  · rw [Bool.eq_iff_iff]; simp only [decide_eq_true_eq, beq_iff_eq] at h2 ⊢; unfold OnR; omega
  · rw [eq_comm, decide_eq_false_iff_not]; simp only [decide_eq_true_eq] at h2; unfold OnR; omega
  · rw [Bool.eq_iff_iff]; simp only [decide_eq_true_eq, beq_iff_eq] at h3 ⊢; unfold OnR; omega
  · rw [eq_comm, decide_eq_false_iff_not]; simp only [decide_eq_true_eq] at h3; unfold OnR; omega
  · simp; omega
  · simp; omega
/-- What the reference's Resolve tells. -/
def rresV (y m kd w d : Int) : Int × Bool := if Rt y m (fday y m kd d) then (fres y m kd w d, true) else (0, false)
theorem rres {y m kd w d : Int} (ho : OnR kd w d) (hy : 1 ≤ y) (hy' : y ≤ 9999) : Ev (fun k => solsticeref01_Resolve.f k y m kd w d) (rresV y m kd w d) := by
  unfold solsticeref01_Resolve.f rresV
  refine evb (rlen m (by omega) (by omega)) ?_
  have hln := ln_nn y m
  have no : ¬ Rt y m (fday y m kd d) → Ev (fun k => solsticeref01_Resolve.j0 k y m (ln y m) true kd w d) (if Rt y m (fday y m kd d) then (fres y m kd w d, true) else (0, false)) := by
    intro h
    rw [if_neg h]
    refine evstep ?_
    simp only [solsticeref01_Resolve.j0, if_true]
    exact Ev.now _
  refine evif (fun h0 => no ?_) (fun h0 => ?_)
  · unfold Rt fday
    split <;> omega
  · have hm : 1 ≤ m ∧ m ≤ 12 := by
      by_cases hc : m < 1 ∨ 12 < m
      · exact absurd (ln_0 y m hc) h0
      · omega
    have hl := ln_bd y m hm.1 hm.2
    have yes : Rt y m (fday y m kd d) → Ev (fun k => solsticeref01_Resolve.j0 k y m (ln y m) false kd w d) (if Rt y m (fday y m kd d) then (fres y m kd w d, true) else (0, false)) := by
      intro h
      rw [if_pos h]
      have hb := num_bd h
      have hu := upw_bd (num y m (fday y m kd d)) w
      have hd := dnw_bd (num y m (fday y m kd d)) w
      have hw := wd_bd (num y m (fday y m kd d))
      refine evstep ?_
      simp only [solsticeref01_Resolve.j0, Bool.false_eq_true, if_false]
      refine evif (fun h2 => ?_) (fun h2 => evif (fun h3 => ?_) (fun h3 => evif (fun h4 => ?_) (fun h4 => ?_)))
      · subst h2
        have hw2 : 0 ≤ w ∧ w ≤ 6 := by unfold OnR at ho; omega
        have e : fday y m 2 d = ln y m := by simp [fday]
        rw [e] at h hb hd hw
        refine evb (rnum h) ?_
        rw [rwd (by omega) (by omega)]
        refine evs ?_
        rw [w64 (x := wd (num y m (ln y m)) - w) (by omega) (by omega), w64 (x := wd (num y m (ln y m)) - w + 7) (by omega) (by omega), tmod_nn 7 (by omega)]
        have e2 : (wd (num y m (ln y m)) - w + 7) % 7 = dnw (num y m (ln y m)) w := by unfold dnw; omega
        rw [e2, w64 (by omega) (by omega)]
        simp [fres, e]
      · subst h3
        have hw2 : 0 ≤ w ∧ w ≤ 6 := by unfold OnR at ho; omega
        have e : fday y m 3 d = d := by simp [fday]
        rw [e] at h hb hu hw
        refine evb (rnum h) ?_
        rw [rwd (by omega) (by omega)]
        refine evs ?_
        rw [w64 (x := w - wd (num y m d)) (by omega) (by omega), w64 (x := w - wd (num y m d) + 7) (by omega) (by omega), tmod_nn 7 (by omega)]
        have e2 : (w - wd (num y m d) + 7) % 7 = upw (num y m d) w := by unfold upw; omega
        rw [e2, w64 (by omega) (by omega)]
        simp [fres]
      · subst h4
        have hw2 : 0 ≤ w ∧ w ≤ 6 := by unfold OnR at ho; omega
        have e : fday y m 4 d = d := by simp [fday]
        rw [e] at h hb hd hw
        refine evb (rnum h) ?_
        rw [rwd (by omega) (by omega)]
        refine evs ?_
        rw [w64 (x := wd (num y m d) - w) (by omega) (by omega), w64 (x := wd (num y m d) - w + 7) (by omega) (by omega), tmod_nn 7 (by omega)]
        have e2 : (wd (num y m d) - w + 7) % 7 = dnw (num y m d) w := by unfold dnw; omega
        rw [e2, w64 (by omega) (by omega)]
        simp [fres, e]
      · obtain rfl : kd = 1 := by unfold OnR at ho; omega
        have e : fday y m 1 d = d := by simp [fday]
        rw [e] at h
        refine evb (rnum h) (evs ?_)
        simp [fres]
    refine evif (fun h2 => ?_) (fun h2 => ?_)
    · refine yes ?_
      subst h2
      simp only [fday, if_true]
      exact ⟨by omega, by omega, hm.1, hm.2, by omega, by omega⟩
    · have e : fday y m kd d = d := by simp [fday, h2]
      by_cases hd : d > ln y m
      · simp only [decide_eq_true hd]
        refine no ?_
        rw [e]; unfold Rt; omega
      · simp only [decide_eq_false hd]
        refine yes ?_
        rw [e]
        exact ⟨by omega, by omega, hm.1, hm.2, by unfold OnR at ho; omega, by omega⟩
theorem rnth {f t k w : Int} (hf : -9223372036854775808 ≤ f) (hf' : f < 9223372036854775808) (ht : -9223372036854775808 ≤ t) (ht' : t < 9223372036854775808) : Ev (fun n => solsticeref01_Nth.f n f t k w) (nthV f t k w) := by
  have j0 : ∀ b : Bool, (b = true ↔ ¬ (f ≤ t ∧ k ≠ 0 ∧ -1000 ≤ k ∧ k ≤ 1000 ∧ 0 ≤ w ∧ w ≤ 6)) → Ev (fun n => solsticeref01_Nth.j0 n f t k w b) (nthV f t k w) := by
    intro b hb
    refine evstep ?_
    simp only [solsticeref01_Nth.j0]
    refine evif (fun h => evs ?_) (fun h => ?_)
    · have := hb.1 h
      unfold nthV
      rw [if_neg]
      unfold nthP
      omega
    · have hp : f ≤ t ∧ k ≠ 0 ∧ -1000 ≤ k ∧ k ≤ 1000 ∧ 0 ≤ w ∧ w ≤ 6 := Decidable.not_not.1 (mt hb.2 h)
      obtain ⟨p1, p2, p3, p4, p5, p6⟩ := hp
      have hu := upw_bd f w
      have hd := dnw_bd t w
      have hwf := wd_bd f
      have hwt := wd_bd t
      refine evif (fun hk => ?_) (fun hk => ?_)
      · rw [rwd hf hf']
        simp only [Option.bind_some]
        rw [w64 (x := w - wd f) (by omega) (by omega), rdiv (by omega) (by omega) (by omega) (by omega)]
        simp only [Option.bind_some]
        rw [show (w - wd f) % 7 = upw f w from rfl]
        have nth : ∀ room, 0 ≤ room → room < 9223372036854775808 → (nthP f t k w ↔ upw f w + 7 * (k - 1) ≤ room) → solsticeref01_nth.f f (upw f w) k room = some (nthV f t k w) := by
          intro room r0 r1 hr
          unfold solsticeref01_nth.f nthV
          rw [w64 (x := k - 1) (by omega) (by omega), w64 (x := room - upw f w) (by omega) (by omega)]
          by_cases h1 : upw f w > room
          · rw [if_pos h1, if_neg (by rw [hr]; omega)]
          · rw [if_neg h1, tdiv_nn 7 (by omega), w64 (x := (room - upw f w) / 7) (by omega) (by omega)]
            by_cases h2 : k - 1 > (room - upw f w) / 7
            · rw [if_pos h2, if_neg (by rw [hr]; omega)]
            · rw [if_neg h2, if_pos (by rw [hr]; omega), if_pos hk]
              have hP : nthP f t k w := by rw [hr]; omega
              have hA : nthA f k w ≤ t := by unfold nthP at hP; omega
              unfold nthA at hA ⊢
              rw [w64 (x := 7 * (k - 1)) (by omega) (by omega)]
              have : wrap64 (wrap64 (f + upw f w) + 7 * (k - 1)) = f + upw f w + 7 * (k - 1) := by
                unfold wrap64; omega
              rw [this]
        refine evif (fun hneg => ?_) (fun hneg => ?_)
        · rw [nth _ (by omega) (by omega) (by
            have : t - f ≥ 9223372036854775808 := by unfold wrap64 at hneg; omega
            unfold nthP nthA; omega)]
          exact Ev.now _
        · have hlt : t - f < 9223372036854775808 := by unfold wrap64 at hneg; omega
          have hx : wrap64 (t - f) = t - f := by unfold wrap64 at hneg ⊢; omega
          rw [hx] at hneg ⊢
          rw [nth _ (by omega) (by omega) (by unfold nthP nthA; omega)]
          exact Ev.now _
      · rw [rwd ht ht']
        simp only [Option.bind_some]
        rw [w64 (x := wd t - w) (by omega) (by omega), rdiv (by omega) (by omega) (by omega) (by omega)]
        simp only [Option.bind_some]
        rw [show (wd t - w) % 7 = dnw t w from rfl, w64 (x := -k) (by omega) (by omega), w64 (x := -k - 1) (by omega) (by omega), w64 (x := 7 * (-k - 1)) (by omega) (by omega)]
        have val : nthP f t k w → wrap64 (wrap64 (t - dnw t w) - 7 * (-k - 1)) = nthB t k w := by
          intro hP
          have hA : f ≤ nthB t k w := by unfold nthP at hP; omega
          unfold nthB at hA ⊢
          unfold wrap64
          omega
        refine evif (fun hneg => ?_) (fun hneg => ?_)
        · have hbig : t - f ≥ 9223372036854775808 := by unfold wrap64 at hneg; omega
          have hP : nthP f t k w := by unfold nthP nthB; omega
          rw [w64 (x := 4611686018427387904 - dnw t w) (by omega) (by omega), tdiv_nn 7 (by omega), w64 (x := (4611686018427387904 - dnw t w) / 7) (by omega) (by omega)]
          simp only [if_neg (show ¬ dnw t w > 4611686018427387904 by omega), if_neg (show ¬ -k - 1 > (4611686018427387904 - dnw t w) / 7 by omega)]
          refine evs ?_
          unfold nthV
          rw [if_pos hP, if_neg hk, val hP]
        · have hlt : t - f < 9223372036854775808 := by unfold wrap64 at hneg; omega
          have hx : wrap64 (t - f) = t - f := by unfold wrap64 at hneg ⊢; omega
          rw [hx] at hneg ⊢
          rw [w64 (x := t - f - dnw t w) (by omega) (by omega)]
          refine evif (fun h1 => evs ?_) (fun h1 => ?_)
          · unfold nthV; rw [if_neg (by unfold nthP nthB; omega)]
          · rw [tdiv_nn 7 (by omega), w64 (x := (t - f - dnw t w) / 7) (by omega) (by omega)]
            refine evif (fun h2 => evs ?_) (fun h2 => evs ?_)
            · unfold nthV; rw [if_neg (by unfold nthP nthB; omega)]
            · have hP : nthP f t k w := by unfold nthP nthB; omega
              unfold nthV; rw [if_pos hP, if_neg hk, val hP]
  unfold solsticeref01_Nth.f
  simp only [rin, Option.bind_some]
  refine evif (fun h => evif (fun h2 => j0 _ ?_) (fun h2 => evif (fun h3 => j0 _ ?_) (fun h3 => j0 _ ?_))) (fun h => j0 _ ?_)
  all_goals (simp only [decide_eq_true_eq] at *; simp; omega)
theorem rfw {y k : Int} (hy : 0 ≤ y) (hy' : y ≤ 10001) (hk : 0 ≤ k) (hk' : k ≤ 6) : Ev (fun q => solsticeref01_FirstWeek.f q y k) (fw y k) := by
  have hb := ah_bd hy hy'
  have hw := wd_bd (num y 1 4)
  have hd := dnw_bd (num y 1 4) k
  have e : num y 1 4 = ah y - 719525 := by rw [num_1]; omega
  unfold solsticeref01_FirstWeek.f
  refine evb (rnum' hy (by omega) (by omega) (by omega) (by omega) (by omega)) ?_
  rw [rwd (by omega) (by omega)]
  refine evs ?_
  rw [w64 (x := wd (num y 1 4) - k) (by omega) (by omega), w64 (x := wd (num y 1 4) - k + 7) (by omega) (by omega), tmod_nn 7 (by omega)]
  have e2 : (wd (num y 1 4) - k + 7) % 7 = dnw (num y 1 4) k := by unfold dnw; omega
  rw [e2, w64 (by omega) (by omega)]
  rfl
theorem rweeks {y k : Int} (hy : 0 ≤ y) (hy' : y ≤ 10000) (hk : 0 ≤ k) (hk' : k ≤ 6) : Ev (fun q => solsticeref01_Weeks.f q y k) ((fw (y + 1) k - fw y k) / 7) := by
  have f0 := fw_bd y k
  have f1 := fw_bd (y + 1) k
  have a0 := ah_bd hy (by omega)
  have a1 := ah_succ y
  have al := lpi_01 y
  unfold solsticeref01_Weeks.f
  rw [w64 (x := y + 1) (by omega) (by omega)]
  refine evb (rfw (by omega) (by omega) hk hk') (evb (rfw hy (by omega) hk hk') (evs ?_))
  rw [w64 (x := fw (y + 1) k - fw y k) (by omega) (by omega), tdiv_nn 7 (by omega), w64 (by omega) (by omega)]
theorem rno {n k : Int} (hk : 0 ≤ k) (hk' : k ≤ 6) (h : -719162 ≤ n) (h' : n ≤ 2932896) : Ev (fun q => solsticeref01_No.f q n k) (yr (mid n k), (n - fw (yr (mid n k)) k) / 7 + 1) := by
  have hd := dnw_bd n k
  have hm : -719528 ≤ mid n k ∧ mid n k ≤ 2933262 := by unfold mid; omega
  have r := (yr_range (n := n) (by omega) (by omega)).2 ⟨h, h'⟩
  have v := yr_bd (n := n) (by omega) (by omega)
  have b := ah_bd (y := yr n) (by omega) (by omega)
  have fin : ∀ Y, 0 ≤ Y → Y ≤ 10001 → fw Y k ≤ n → n < fw (Y + 1) k → yr (mid n k) = Y ∧ wrap64 (wrap64 (Int.tdiv (wrap64 (n - fw Y k)) 7) + 1) = (n - fw (yr (mid n k)) k) / 7 + 1 := by
    intro Y h0 h1 h2 h3
    have e := mid_yr hm.1 hm.2 h2 h3
    have f0 := fw_bd Y k
    have a := ah_bd h0 h1
    rw [e, w64 (x := n - fw Y k) (by omega) (by omega), tdiv_nn 7 (by omega), w64 (x := (n - fw Y k) / 7) (by omega) (by omega), w64 (by omega) (by omega)]
    exact ⟨rfl, rfl⟩
  unfold solsticeref01_No.f
  refine evb (rdate_dt (by omega) (by omega)) ?_
  simp only [show (dt n).1 = yr n from rfl]
  generalize hY : yr n = Y at *
  have f0 := fw_bd Y k
  have f1 := fw_bd (Y + 1) k
  have fp := fw_bd (Y - 1) k
  have f2 := fw_bd (Y + 2) k
  have s0 := ah_succ (Y - 1)
  rw [show Y - 1 + 1 = Y by omega] at s0
  have s1 := ah_succ Y
  have s2 := ah_succ (Y + 1)
  rw [show Y + 1 + 1 = Y + 2 by omega] at s2
  have l0 := lpi_01 (Y - 1)
  have l1 := lpi_01 Y
  have l2 := lpi_01 (Y + 1)
  rw [w64 (x := Y - 1) (by omega) (by omega), w64 (x := Y + 1) (by omega) (by omega)]
  refine evb (rfw (by omega) (by omega) hk hk') ?_
  refine evif (fun h1 => ?_) (fun h1 => ?_)
  · refine evb (rfw (by omega) (by omega) hk hk') (evs ?_)
    have := fin (Y - 1) (by omega) (by omega) (by omega) (by rw [show Y - 1 + 1 = Y by omega]; omega)
    rw [this.2, this.1]
  · simp only [if_pos (show Y < 10000 by omega)]
    refine evb (rfw (by omega) (by omega) hk hk') ?_
    refine evif (fun h2 => ?_) (fun h2 => ?_)
    · refine evb (rfw (by omega) (by omega) hk hk') (evs ?_)
      have := fin (Y + 1) (by omega) (by omega) (by omega) (by rw [show Y + 1 + 1 = Y + 2 by omega]; omega)
      rw [this.2, this.1]
    · refine evb (rfw (by omega) (by omega) hk hk') (evs ?_)
      have := fin Y (by omega) (by omega) (by omega) (by omega)
      rw [this.2, this.1]
end Go.Proofs.Ytlefnaoflajnmaa.Pure
