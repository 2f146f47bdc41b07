/- EncodeMoves in plain numbers: what the law computes is true at all arguments. No condition but that each is an int. -/
import Derived.Test.YtfinhaghgmnegaaGS24
import Derived.Test.YtfinhaghgmnegaaOx28
namespace Go.Proofs.Ytfinhaghgmnegaa.Pure
open Go.RowKit Go.Proofs.Ytfinhaghgmnegaa.O Go.Proofs.YtfinhaghgmnegaaW.PrintWords Go.Proofs.YtfinhaghgmnegaaW.PrintLast
open Go.Proofs.Ytfinhaghgmnegaa.Civ
theorem EncodeMoves : solsticelaw24_EncodeMoves.Pure := by
  intro a0 a1 a2 a3 _ _ _ _
  obtain ⟨kd, k0, k1, ek⟩ := um1 a1 (n := 3) (by omega) (by omega)
  have hs : -345600 ≤ Int.tmod a0 345601 ∧ Int.tmod a0 345601 ≤ 345600 := by rw [tmod_if]; split <;> omega
  have ht : -86399 ≤ Int.tmod a2 86400 ∧ Int.tmod a2 86400 ≤ 86399 := by rw [tmod_if]; split <;> omega
  have hv : -86399 ≤ Int.tmod a3 86400 ∧ Int.tmod a3 86400 ≤ 86399 := by rw [tmod_if]; split <;> omega
  refine Ev.rounds ?_
  unfold solsticelaw24_EncodeMoves.f
  simp only [ek]
  generalize Int.tmod a0 345601 = s at *
  generalize Int.tmod a2 86400 = std at *
  generalize Int.tmod a3 86400 = sv at *
  rw [w64 (x := std + sv) (by omega) (by omega)]
  have hb := utcV_bd (kd := kd) (s := s) hs.1 hs.2 (std := std) (by omega) (by omega) (sv := sv) (by omega) (by omega)
  have hm : moveV s kd std sv (std + sv) = ((utcV s kd std sv + (std + sv)) / 86400, (utcV s kd std sv + (std + sv)) % 86400, true) := by
    unfold moveV; rw [if_pos]; unfold moveP; omega
  have hn : moveV s kd std sv 172801 = (0, 0, false) := by
    unfold moveV; rw [if_neg]; unfold moveP; omega
  have hu : utcP s kd std sv := by unfold utcP; omega
  refine evb (emove s kd std sv (std + sv)) (evb (autc s kd std sv) ?_)
  simp only [hm, if_pos hu, if_true]
  generalize hU : utcV s kd std sv = u at *
  have e1 : wrap64 ((u + (std + sv)) / 86400 * 86400) = (u + (std + sv)) / 86400 * 86400 := w64 (by omega) (by omega)
  have e2 : wrap64 ((u + (std + sv)) / 86400 * 86400 + (u + (std + sv)) % 86400) = u + std + sv := by rw [w64 (by omega) (by omega)]; omega
  simp only [if_neg (show ¬ (u + (std + sv)) % 86400 < 0 by omega), if_neg (show ¬ (u + (std + sv)) % 86400 ≥ 86400 by omega), e1, e2, w64 (x := u + std) (by omega) (by omega), w64 (x := u + std + sv) (by omega) (by omega), bne_self_eq_false]
  refine evstep ?_
  simp only [solsticelaw24_EncodeMoves.j0, Bool.false_eq_true, if_false]
  refine evb (emove s kd std sv 172801) ?_
  simp only [hn, Bool.false_eq_true, if_false, e1, e2]
  refine evif (fun h1 => ?_) (fun h1 => evb wakes_ev (Ev.now _))
  simp only [if_pos (show u + std + sv = s by rw [← hU]; unfold utcV; rw [if_pos h1]; omega)]
  exact evb wakes_ev (Ev.now _)
end Go.Proofs.Ytfinhaghgmnegaa.Pure
