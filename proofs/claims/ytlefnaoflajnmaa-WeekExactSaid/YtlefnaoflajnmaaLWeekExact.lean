/- WeekExact in plain numbers: what the law computes is true at all arguments. No condition but that two of them are ints. -/
import Derived.Test.YtlefnaoflajnmaaG303r
import Derived.Test.YtlefnaoflajnmaaOx34
namespace Go.Proofs.Ytlefnaoflajnmaa.Pure
open Go.RowKit Go.Proofs.Ytlefnaoflajnmaa.O Go.Proofs.YtlefnaoflajnmaaW.PrintWords Go.Proofs.YtlefnaoflajnmaaW.PrintLast
open Go.Proofs.Ytlefnaoflajnmaa.Civ
theorem wx_j4 (n k : Int) (hk : 0 ≤ k) (hk' : k ≤ 6) : Ev (fun q => solsticelaw03_WeekExact.j4 q n k (noV n k).1 (noV n k).2.1 (noV n k).2.2) true := by
  have j6 : ∀ b : Bool, (b = true ↔ ¬ (-719162 ≤ n ∧ n ≤ 2932896)) → Ev (fun q => solsticelaw03_WeekExact.j6 q n k (noV n k).1 (noV n k).2.1 (noV n k).2.2 b) true := by
    intro b hb
    refine evstep ?_
    simp only [solsticelaw03_WeekExact.j6]
    refine evif (fun h => ?_) (fun h => ?_)
    · have hn := hb.1 h
      have e : noV n k = (0, 0, 23) := by
        unfold noV
        rw [if_pos ⟨hk, hk'⟩, if_neg]
        rintro ⟨c1, c2, c3, c4⟩
        exact hn ((yr_range c1 c2).1 ⟨c3, c4⟩)
      simp only [e, if_true, Int.add_zero, w64 (x := 0) (by omega) (by omega)]
      exact evb wakes_ev (Ev.now _)
    · have hn : -719162 ≤ n ∧ n ≤ 2932896 := Decidable.not_not.1 (mt hb.2 h)
      have r := (yr_range (n := n) (by omega) (by omega)).2 hn
      have e : noV n k = (yr (mid n k), (n - fw (yr (mid n k)) k) / 7 + 1, 0) := by
        unfold noV
        rw [if_pos ⟨hk, hk'⟩, if_pos ⟨by omega, by omega, r.1, r.2⟩]
      refine evb (rno hk hk' hn.1 hn.2) ?_
      simp only [e, if_true]
      exact evb wakes_ev (Ev.now _)
  have j5 : ∀ b : Bool, (b = true ↔ (-719528 ≤ n ∧ n ≤ 2933262)) → Ev (fun q => solsticelaw03_WeekExact.j5 q n k (noV n k).1 (noV n k).2.1 (noV n k).2.2 b) true := by
    intro b hb
    refine evstep ?_
    simp only [solsticelaw03_WeekExact.j5]
    refine evif (fun h => ?_) (fun h => j6 true ?_)
    · have hn := hb.1 h
      have r := yr_range hn.1 hn.2
      refine evb (rdate_dt hn.1 hn.2) ?_
      refine evif (fun h1 => j6 true ?_) (fun h1 => evb (rdate_dt hn.1 hn.2) (j6 _ ?_))
      · have : yr n < 1 := h1
        simp; omega
      · have : ¬ yr n < 1 := h1
        have e : ((dt n).1 > 9999) = (yr n > 9999) := rfl
        simp only [e, decide_eq_true_eq]
        omega
    · have := mt hb.2 h
      simp; omega
  refine evstep ?_
  simp only [solsticelaw03_WeekExact.j4]
  refine evb rleast (evif (fun h => evb rmost (j5 _ ?_)) (fun h => j5 false ?_))
  · simp; omega
  · simp; omega
theorem wx_j2 (y n k : Int) (b : Bool) (hb : b = true ↔ 1 ≤ y ∧ y ≤ 9999) : Ev (fun q => solsticelaw03_WeekExact.j2 q y n k (noV n k).1 (noV n k).2.1 (noV n k).2.2 (weeksV y k).1 (weeksV y k).2 b) true := by
  have j3 : ∀ c : Bool, (c = true ↔ ¬ (0 ≤ k ∧ k ≤ 6)) → Ev (fun q => solsticelaw03_WeekExact.j3 q y n k (noV n k).1 (noV n k).2.1 (noV n k).2.2 (weeksV y k).1 (weeksV y k).2 b c) true := by
    intro c hc
    refine evstep ?_
    simp only [solsticelaw03_WeekExact.j3]
    refine evif (fun h => ?_) (fun h => ?_)
    · have hk := hc.1 h
      have e1 : noV n k = (0, 0, 1) := by unfold noV; rw [if_neg hk]
      have e2 : weeksV y k = (0, 1) := by unfold weeksV; rw [if_neg hk]
      simp only [e1, e2, if_true, Int.add_zero, w64 (x := 0) (by omega) (by omega)]
      exact evb wakes_ev (Ev.now _)
    · have hk : 0 ≤ k ∧ k ≤ 6 := Decidable.not_not.1 (mt hc.2 h)
      refine evif (fun h1 => ?_) (fun h1 => ?_)
      · have hy := hb.1 h1
        have e2 : weeksV y k = ((fw (y + 1) k - fw y k) / 7, 0) := by unfold weeksV; rw [if_pos hk, if_pos hy]
        simp only [e2, if_true]
        refine evb (rweeks (by omega) (by omega) hk.1 hk.2) ?_
        simp only [if_true]
        exact wx_j4 n k hk.1 hk.2
      · have hy := mt hb.2 h1
        have e2 : weeksV y k = (0, 23) := by unfold weeksV; rw [if_pos hk, if_neg hy]
        simp only [e2, if_true]
        exact wx_j4 n k hk.1 hk.2
  refine evstep ?_
  simp only [solsticelaw03_WeekExact.j2]
  refine evif (fun h => j3 true ?_) (fun h => j3 _ ?_)
  · simp; omega
  · simp; omega
theorem WeekExact (kd w d y m f t k v : Int) (hf : (Lit.int .i64 f).wf = true) (ht : (Lit.int .i64 t).wf = true) : ∃ q, solsticelaw03_WeekExact.f q kd w d y m f t k v = some true := by
  have wf := i64wf hf
  have wt := i64wf ht
  have j1 : ∀ b : Bool, (b = true ↔ 1 ≤ y ∧ y ≤ 9999) → Ev (fun q => solsticelaw03_WeekExact.j1 q y m f v (resV y m kd w d).1 (resV y m kd w d).2 (noV f v).1 (noV f v).2.1 (noV f v).2.2 (weeksV y v).1 (weeksV y v).2 b kd w d) true := by
    intro b hb
    have tail := wx_j2 y f v b hb
    refine evstep ?_
    simp only [solsticelaw03_WeekExact.j1]
    refine evb (ron kd w d) ?_
    by_cases ho : OnR kd w d
    · simp only [decide_eq_true ho, if_true]
      refine evif (fun h => ?_) (fun h => ?_)
      · have hy := hb.1 h
        have e : resV y m kd w d = if Rt y m (fday y m kd d) then (fres y m kd w d, 0) else (0, 4) := by unfold resV; rw [if_pos ho, if_neg (by omega)]
        refine evb (rres ho hy.1 hy.2) ?_
        unfold rresV
        by_cases hr : Rt y m (fday y m kd d)
        · simp only [e, if_pos hr, if_true]
          exact tail
        · simp only [e, if_neg hr, if_true, Bool.false_eq_true, if_false]
          exact tail
      · have hy := mt hb.2 h
        have e : resV y m kd w d = (0, 23) := by unfold resV; rw [if_pos ho, if_pos (by omega)]
        simp only [e, if_true]
        exact tail
    · have e : resV y m kd w d = (0, 8) := by unfold resV; rw [if_neg ho]
      simp only [decide_eq_false ho, Bool.false_eq_true, if_false, e, if_true]
      refine evb (wcheck kd w d) ?_
      simp only [if_neg ho, if_true]
      exact tail
  refine Ev.rounds ?_
  unfold solsticelaw03_WeekExact.f
  refine evb (wres y m kd w d) (evb (wnth wf.1 wf.2 wt.1 wt.2) (evb (wno f v) (evb (wweeks y v) (evb (wcheck kd w d) (evb (ron kd w d) ?_)))))
  have hc : (((if OnR kd w d then (0 : Int) else 8) == 0) != decide (OnR kd w d)) = false := by
    by_cases ho : OnR kd w d
    · simp [ho]
    · simp [ho]
  simp only [hc, Bool.false_eq_true, if_false]
  refine evb (rnth wf.1 wf.2 wt.1 wt.2) ?_
  simp only [if_true, bne_self_eq_false]
  refine evstep ?_
  simp only [solsticelaw03_WeekExact.j0, Bool.false_eq_true, if_false]
  refine evif (fun h => j1 _ ?_) (fun h => j1 _ ?_)
  · simp; omega
  · simp; omega
end Go.Proofs.Ytlefnaoflajnmaa.Pure
