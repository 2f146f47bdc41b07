/- CivilExact in plain numbers: what the law computes is true at all arguments. No condition but that each is an int. -/
import Derived.Test.YtgmofklgfnfnmaaGS02
import Derived.Test.YtgmofklgfnfnmaaG02r
import Derived.Test.YtgmofklgfnfnmaaOx11
import Derived.Test.YtgmofklgfnfnmaaOx12
import Derived.Test.YtgmofklgfnfnmaaOx18
import Derived.Test.YtgmofklgfnfnmaaOx26
namespace Go.Proofs.Ytgmofklgfnfnmaa.Pure
open Go.RowKit Go.Proofs.Ytgmofklgfnfnmaa.O Go.Proofs.YtgmofklgfnfnmaaW.PrintWords Go.Proofs.YtgmofklgfnfnmaaW.PrintLast
open Go.Proofs.Ytgmofklgfnfnmaa.Civ
theorem wf_i64 {a : Int} (h : (Lit.int .i64 a).wf = true) : -9223372036854775808 ≤ a ∧ a < 9223372036854775808 := by
  simp [Lit.wf, IntKind.min, IntKind.max, IntKind.signed, IntKind.bits] at h
  omega
theorem exact_j1 (n : Int) (h : -9223372036854775808 ≤ n) (h' : n < 9223372036854775808) (x8 x9 x10 q1 q2 q3 : Int)
    (hq : (n < -719528 ∨ 2933262 < n) ∧ x8 = 23 ∧ x9 = 0 ∧ x10 = 23 ∧ q1 = 0 ∧ q2 = 0 ∧ q3 = 0 ∨ ∃ y m d, Rt y m d ∧ num y m d = n ∧ x8 = 0 ∧ x9 = cum y m + d ∧ x10 = 0 ∧ q1 = y ∧ q2 = m ∧ q3 = d) :
    Ev (fun k => solsticelaw02_CivilExact.j1 k n x8 x9 x10 q1 q2 q3) true := by
  have j2 : ∀ b : Bool, (b = true ↔ (n < -719528 ∨ 2933262 < n)) → Ev (fun k => solsticelaw02_CivilExact.j2 k n x8 x9 x10 b q1 q2 q3) true := by
    intro b hb
    refine evstep ?_
    simp only [solsticelaw02_CivilExact.j2]
    refine evif (fun hc => ?_) (fun hc => ?_)
    · have hc := hb.1 hc
      obtain ⟨_, rfl, rfl, rfl, rfl, rfl, rfl⟩ : (n < -719528 ∨ 2933262 < n) ∧ x8 = 23 ∧ x9 = 0 ∧ x10 = 23 ∧ q1 = 0 ∧ q2 = 0 ∧ q3 = 0 := by
        rcases hq with hq | ⟨y, m, d, hr, he, _⟩
        · exact hq
        · have := num_bd hr; omega
      simp only [if_true, beq_self_eq_true, Bool.and_self]
      exact evb wakes_ev (Ev.now _)
    · have hc : ¬ (n < -719528 ∨ 2933262 < n) := fun k => hc (hb.2 k)
      obtain ⟨y, m, d, hr, rfl, rfl, rfl, rfl, rfl, rfl, rfl⟩ : ∃ y m d, Rt y m d ∧ num y m d = n ∧ x8 = 0 ∧ x9 = cum y m + d ∧ x10 = 0 ∧ q1 = y ∧ q2 = m ∧ q3 = d := by
        rcases hq with hq | hq
        · exact absurd hq.1 hc
        · exact hq
      simp only [if_true]
      refine evb (rdate hr) ?_
      simp only [beq_self_eq_true, Bool.and_self, if_true]
      refine evb (ryd hr) ?_
      simp only [if_true]
      exact evb wakes_ev (Ev.now _)
  refine evstep ?_
  simp only [solsticelaw02_CivilExact.j1]
  refine evb rleast (evif (fun hc => j2 true ?_) (fun hc => evb rmost (j2 _ ?_)))
  · simp; omega
  · simp; omega
theorem CivilExact (y m d n : Int) (hy : (Lit.int .i64 y).wf = true) (hn : (Lit.int .i64 n).wf = true) : ∃ k, solsticelaw02_CivilExact.f k y m d n = some true := by
  have wy := wf_i64 hy
  have wn := wf_i64 hn
  have j0 : ∀ x5 x6 x8 x9 x10 q1 q2 q3 : Int, (Rt y m d ∧ x6 = 0 ∧ x5 = num y m d ∨ ¬ Rt y m d ∧ x6 = 4 ∧ x5 = 0) → Ev (fun k => solsticelaw02_CivilExact.j1 k n x8 x9 x10 q1 q2 q3) true →
      Ev (fun k => solsticelaw02_CivilExact.j0 k n x5 x6 x8 x9 x10 false y m d q1 q2 q3) true := by
    intro x5 x6 x8 x9 x10 q1 q2 q3 hx hj
    refine evstep ?_
    simp only [solsticelaw02_CivilExact.j0, Bool.false_eq_true, if_false]
    refine evb (rright m d wy.1 wy.2) ?_
    rcases hx with ⟨hr, rfl, rfl⟩ | ⟨hr, rfl, rfl⟩
    · simp only [decide_eq_true hr, if_true]
      refine evb (rnum hr) ?_
      simp only [if_true]
      exact hj
    · simp only [decide_eq_false hr, Bool.false_eq_true, if_false, if_true]
      exact hj
  refine Ev.rounds ?_
  unfold solsticelaw02_CivilExact.f
  have fin : ∀ (p : Int × Int), (Rt y m d ∧ p.2 = 0 ∧ p.1 = num y m d ∨ ¬ Rt y m d ∧ p.2 = 4 ∧ p.1 = 0) → ∀ (q : Int × Int × Int × Int) (z : Int × Int),
      ((n < -719528 ∨ 2933262 < n) ∧ q.2.2.2 = 23 ∧ z.1 = 0 ∧ z.2 = 23 ∧ q.1 = 0 ∧ q.2.1 = 0 ∧ q.2.2.1 = 0 ∨ ∃ y m d, Rt y m d ∧ num y m d = n ∧ q.2.2.2 = 0 ∧ z.1 = cum y m + d ∧ z.2 = 0 ∧ q.1 = y ∧ q.2.1 = m ∧ q.2.2.1 = d) →
      Ev (fun k => civil_Number.f k y m d) p → Ev (fun k => civil_Date.f k n) q → Ev (fun k => civil_YearDay.f k n) z → Ev (fun k => solsticelaw02_CivilExact.f k y m d n) true := by
    intro p hp q z hq e1 e2 e3
    unfold solsticelaw02_CivilExact.f
    refine evb e1 (evb e2 (evb e3 ?_))
    simp only [clong, rlong wy.1 wy.2, Option.bind_some, bne_self_eq_false, Bool.false_eq_true, if_false]
    refine evb (clen y m) (evb (rlen m wy.1 wy.2) ?_)
    simp only [if_true, cwd, rwd wn.1 wn.2, Option.bind_some, bne_self_eq_false]
    exact j0 _ _ _ _ _ _ _ _ hp (exact_j1 n wn.1 wn.2 _ _ _ _ _ _ hq)
  by_cases hr : Rt y m d
  · by_cases hn : n < -719528 ∨ 2933262 < n
    · exact fin _ (Or.inl ⟨hr, rfl, rfl⟩) _ _ (Or.inl ⟨hn, rfl, rfl, rfl, rfl, rfl, rfl⟩) (cnum hr) (cdate_no hn) (cyd_no hn)
    · have s := dt_spec (n := n) (by omega) (by omega)
      exact fin _ (Or.inl ⟨hr, rfl, rfl⟩) _ _ (Or.inr ⟨_, _, _, s.1, s.2, rfl, rfl, rfl, rfl, rfl, rfl⟩) (cnum hr) (cdate_dt (by omega) (by omega)) (cyd_dt (by omega) (by omega))
  · by_cases hn : n < -719528 ∨ 2933262 < n
    · exact fin _ (Or.inr ⟨hr, rfl, rfl⟩) _ _ (Or.inl ⟨hn, rfl, rfl, rfl, rfl, rfl, rfl⟩) (cnum_no hr) (cdate_no hn) (cyd_no hn)
    · have s := dt_spec (n := n) (by omega) (by omega)
      exact fin _ (Or.inr ⟨hr, rfl, rfl⟩) _ _ (Or.inr ⟨_, _, _, s.1, s.2, rfl, rfl, rfl, rfl, rfl, rfl⟩) (cnum_no hr) (cdate_dt (by omega) (by omega)) (cyd_dt (by omega) (by omega))
end Go.Proofs.Ytgmofklgfnfnmaa.Pure
