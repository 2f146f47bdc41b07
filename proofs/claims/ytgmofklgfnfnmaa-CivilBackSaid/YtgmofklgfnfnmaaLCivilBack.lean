/- CivilBack in plain numbers: what the law computes is true at all arguments. No condition but that each is an int. -/
import Derived.Test.YtgmofklgfnfnmaaGS02
import Derived.Test.YtgmofklgfnfnmaaOx15
namespace Go.Proofs.Ytgmofklgfnfnmaa.Pure
open Go.RowKit Go.Proofs.Ytgmofklgfnfnmaa.O Go.Proofs.YtgmofklgfnfnmaaW.PrintWords Go.Proofs.YtgmofklgfnfnmaaW.PrintLast
open Go.Proofs.Ytgmofklgfnfnmaa.Civ
theorem CivilBack : solsticelaw02_CivilBack.Pure := by
  intro a0 a1 a2 a3 a4 a5 _ _ _ _ _ _
  obtain ⟨y, m, d, h, e⟩ := some_ev a0 a1 a2
  obtain ⟨y', m', d', h', e'⟩ := some_ev a3 a4 a5
  have hi := num_lt_iff h' h
  have hj : num y m d = num y' m' d' ↔ y = y' ∧ m = m' ∧ d = d' := ⟨num_inj h h', by rintro ⟨rfl, rfl, rfl⟩; rfl⟩
  have hb := num_bd h
  obtain ⟨r1, r2, r3, r4, r5, r6⟩ := id h
  have hl := ln_bd y m r3 r4
  refine Ev.rounds ?_
  unfold solsticelaw02_CivilBack.f
  refine evb e (evb e' (evb (cnum h) (evb (cnum h') (evb (cdate h) ?_))))
  simp only [if_true, beq_self_eq_true, Bool.not_true, Bool.or_false]
  -- from here on: the next date
  have next : Ev (fun k => solsticelaw02_CivilBack.j2 k (num y m d) false y m d) true := by
    refine evstep ?_
    simp only [solsticelaw02_CivilBack.j2, Bool.false_eq_true, if_false]
    refine evb (clen y m) ?_
    rw [w64 (x := d + 1) (by omega) (by omega), w64 (x := m + 1) (by omega) (by omega)]
    have hp := lpi_01 y
    have last : ∀ y2 m2 d2 : Int, 0 ≤ y2 → (y2 ≤ 10000 → Rt y2 m2 d2 ∧ num y2 m2 d2 = num y m d + 1) → Ev (fun k => solsticelaw02_CivilBack.j4 k (num y m d) y2 m2 d2) true := by
      intro y2 m2 d2 hy hr
      refine evstep ?_
      simp only [solsticelaw02_CivilBack.j4]
      refine evif (fun hc => ?_) (fun hc => ?_)
      · exact evb wakes_ev (Ev.now _)
      · obtain ⟨hr, hn⟩ := hr (by omega)
        refine evb (cnum hr) ?_
        rw [w64 (by omega) (by omega)]
        simp only [if_true, if_pos hn]
        exact evb wakes_ev (Ev.now _)
    refine evif (fun hc => ?_) (fun hc => ?_)
    · refine evstep ?_
      simp only [solsticelaw02_CivilBack.j3]
      rw [w64 (x := y + 1) (by omega) (by omega)]
      refine evif (fun hm => ?_) (fun hm => ?_)
      · obtain rfl : m = 12 := by omega
        have hd : d = ln y 12 := by omega
        refine last (y + 1) 1 1 (by omega) (fun hy => ⟨⟨by omega, by omega, by omega, by omega, by omega, by have := ln_bd (y + 1) 1 (by omega) (by omega); omega⟩, ?_⟩)
        have := cum_succ y 12 (by omega) (by omega)
        have e13 : cum y (12 + 1) = 365 + lpi y := cum_13 y
        have := ah_succ y
        have := cum_1 (y + 1)
        unfold num
        omega
      · have hd : d = ln y m := by omega
        refine last y (m + 1) 1 r1 (fun hy => ⟨⟨by omega, by omega, by omega, by omega, by omega, by have := ln_bd y (m + 1) (by omega) (by omega); omega⟩, ?_⟩)
        have := cum_succ y m (by omega) (by omega)
        unfold num
        omega
    · refine evstep ?_
      simp only [solsticelaw02_CivilBack.j3, if_neg (show ¬ m > 12 by omega)]
      refine last y m (d + 1) r1 (fun hy => ⟨⟨by omega, by omega, by omega, by omega, by omega, by omega⟩, ?_⟩)
      unfold num
      omega
  have mid : ∀ b : Bool, (b = true ↔ num y' m' d' < num y m d) → Ev (fun k => solsticelaw02_CivilBack.j1 k (num y m d) (num y' m' d') b y m d y' m' d') true := by
    intro b hbb
    have hb1 : decide (num y m d > num y' m' d') = b := by
      rw [Bool.eq_iff_iff, hbb]; simp
    have hb2 : (num y m d == num y' m' d') = (y == y' && (m == m' && (d == d'))) := by
      rw [Bool.eq_iff_iff]; simp [hj]
    refine evstep ?_
    simp only [solsticelaw02_CivilBack.j1, hb1, hb2, bne_self_eq_false, Bool.false_eq_true, if_false]
    exact next
  refine evstep ?_
  simp only [solsticelaw02_CivilBack.j0, Bool.false_eq_true, if_false]
  refine evif (fun c1 => mid true ?_) (fun c1 => evif (fun c2 => evif (fun c3 => mid true ?_) (fun c3 => evif (fun c4 => mid _ ?_) (fun c4 => mid false ?_))) (fun c2 => mid false ?_))
  · rw [hi]; simp; omega
  · rw [hi]; simp; omega
  · rw [hi]; simp; omega
  · rw [hi]; simp; omega
  · rw [hi]; simp; omega
end Go.Proofs.Ytgmofklgfnfnmaa.Pure
