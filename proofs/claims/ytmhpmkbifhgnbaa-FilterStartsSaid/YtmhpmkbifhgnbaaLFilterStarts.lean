/- FilterStarts in plain numbers: what the law computes is true at all arguments. No condition but that each is an int. -/
import Derived.Test.YtmhpmkbifhgnbaaGS22S
import Derived.Test.YtmhpmkbifhgnbaaOx48
import Derived.Test.YtmhpmkbifhgnbaaOx66
import Derived.Test.YtmhpmkbifhgnbaaOx83
namespace Go.Proofs.Ytmhpmkbifhgnbaa.Pure
open Go.RowKit Go.Proofs.Ytmhpmkbifhgnbaa.O Go.Proofs.YtmhpmkbifhgnbaaW.PrintWords Go.Proofs.YtmhpmkbifhgnbaaW.PrintLast
open Go.Proofs.Ytmhpmkbifhgnbaa.Civ
set_option linter.unusedVariables false
set_option linter.unusedSimpArgs false
/-- A rule without lists. -/
def rs (fr : Int) : RR := ⟨fr, 1, 0, false, 0, false, [], [], [], [], [], [], [], [], [], 1⟩
theorem rs_right {fr : Int} (h : 1 ≤ fr) (h' : fr ≤ 7) : Right (rs fr) := by
  refine ⟨?_, (show (0 : Int) ≤ 0 by decide), (show (0 : Int) ≤ 100000 by decide), rfl, rfl, rfl, rfl, fun x hx => absurd hx List.not_mem_nil, Or.inl ⟨rfl, rfl, rfl⟩⟩
  have : fr = 1 ∨ fr = 2 ∨ fr = 3 ∨ fr = 4 ∨ fr = 5 ∨ fr = 6 ∨ fr = 7 := by omega
  rcases this with rfl | rfl | rfl | rfl | rfl | rfl | rfl <;> decide
def ck (fr x y : Int) : Bool := if fr ≥ 4 then x == y else if fr = 3 then x % 3600 == y % 3600 else if fr = 2 then x % 60 == y % 60 else true
noncomputable def lk (fr a b : Int) : Bool := if fr = 5 then wd a == wd b else if fr < 5 then true else if fr = 7 ∧ (dt a).2.1 ≠ (dt b).2.1 then false else (dt a).2.2 == (dt b).2.2
theorem lets_rs {fr s t : Int} : letsV (rs fr) s t = (ck fr (s % 86400) (t % 86400) && lk fr (s / 86400) (t / 86400)) := by
  have e1 : clockV (rs fr) (s % 86400) (t % 86400) = ck fr (s % 86400) (t % 86400) := by
    generalize s % 86400 = x
    generalize t % 86400 = y
    rw [Bool.eq_iff_iff]
    unfold clockV ck oneV rs
    simp only [if_true, Bool.and_eq_true, Bool.or_eq_true, Bool.not_eq_true', decide_eq_false_iff_not, beq_iff_eq]
    split
    · rw [beq_iff_eq]; omega
    · split
      · rw [beq_iff_eq]; omega
      · split
        · rw [beq_iff_eq]; omega
        · simp only [iff_true]; omega
  have e2 : dayV (rs fr) (s / 86400) (t / 86400) = lk fr (s / 86400) (t / 86400) := by
    generalize s / 86400 = a
    generalize t / 86400 = b
    have c1 : ∀ x y : Int, (x == y) = (y == x) := fun x y => by rw [Bool.eq_iff_iff, beq_iff_eq, beq_iff_eq]; exact eq_comm
    unfold dayV lk likeV rs
    simp only [List.length_nil, decide_true, Bool.true_or, Bool.true_and, Nat.add_zero, Nat.lt_irrefl, if_false, false_or, true_and]
    rw [c1 (wd b), c1 (dt b).2.2]
    split
    · rfl
    · split
      · rfl
      · split
        · rename_i h
          rw [if_pos ⟨h.1, fun e => h.2 e.symm⟩]
        · rename_i h
          rw [if_neg (fun e => h ⟨e.1, fun e3 => e.2 e3.symm⟩)]
  unfold letsV
  rw [e1, e2]
theorem starts_j1 {fr s t : Int} (h : 1 ≤ fr) (h' : fr ≤ 7) (hs : InT s) (ht : InT t) (c : Bool) (hc : c = ck fr (s % 86400) (t % 86400)) :
    Ev (fun k => solsticelaw22_FilterStarts.j1 k s t fr (s / 86400) (t / 86400) 0 0 c (dt (s / 86400)).1 (dt (s / 86400)).2.1 (dt (s / 86400)).2.2 (dt (t / 86400)).1 (dt (t / 86400)).2.1 (dt (t / 86400)).2.2) true := by
  have hl := flets (rs_right h h') hs ht
  rw [lets_rs, ← hc] at hl
  refine evstep ?_
  simp only [solsticelaw22_FilterStarts.j1, cwd, Option.bind_some, if_true]
  have fin : ∀ b : Bool, b = (c && lk fr (s / 86400) (t / 86400)) → Ev (fun k => (filter_Lets.f k fr 1 0 false 0 false [] [] [] [] [] [] [] [] [] 1 s t).bind fun t687 => (if (t687 == b) = true then ((solsticelaw22_wakes.f k).bind fun t688 => (some t688)) else (some false))) true := fun b hb => by
    refine evb hl ?_
    rw [hb]
    exact evp (beq_self_eq_true _) (evb wakes_ev (evs rfl))
  unfold lk at fin
  refine evif (fun f5 => ?_) (fun f5 => ?_)
  · simp only [if_pos f5] at fin
    cases c
    · simp only [Bool.false_eq_true, if_false]
      exact fin _ rfl
    · simp only [if_true]
      exact fin _ (by simp)
  simp only [if_neg f5] at fin
  refine evif (fun f6 => ?_) (fun f6 => ?_)
  · simp only [if_neg (show ¬ fr < 5 by omega), if_neg (show ¬ (fr = 7 ∧ (dt (s / 86400)).2.1 ≠ (dt (t / 86400)).2.1) from fun e => by omega)] at fin
    cases c
    · simp only [Bool.false_eq_true, if_false]
      exact fin _ rfl
    · simp only [if_true]
      exact fin _ (by simp)
  refine evif (fun f7 => ?_) (fun f7 => ?_)
  · simp only [if_neg (show ¬ fr < 5 by omega)] at fin
    cases c
    · simp only [Bool.false_eq_true, if_false]
      exact fin _ rfl
    · simp only [if_true]
      refine evif (fun d => ?_) (fun d => ?_)
      · refine fin _ ?_
        by_cases m : (dt (s / 86400)).2.1 = (dt (t / 86400)).2.1
        · rw [if_neg (fun e => e.2 m), m, d]; simp
        · rw [if_pos ⟨f7, m⟩]; simp [m]
      · refine fin _ ?_
        by_cases m : (dt (s / 86400)).2.1 = (dt (t / 86400)).2.1
        · rw [if_neg (fun e => e.2 m)]; simp [d]
        · rw [if_pos ⟨f7, m⟩]; simp
  · simp only [if_pos (show fr < 5 by omega)] at fin
    exact fin _ (by simp)
theorem starts_j0 {fr s t : Int} (h : 1 ≤ fr) (h' : fr ≤ 7) (hs : InT s) (ht : InT t) : Ev (fun k => solsticelaw22_FilterStarts.j0 k s t fr) true := by
  have hs1 := dt_year hs
  have ht1 := dt_year ht
  have hs2 := hs
  have ht2 := ht
  unfold InT at hs2 ht2
  have m1 := Int.emod_nonneg s (show (86400 : Int) ≠ 0 by omega)
  have m2 := Int.emod_nonneg t (show (86400 : Int) ≠ 0 by omega)
  refine evstep ?_
  simp only [solsticelaw22_FilterStarts.j0, rdiv (a := s) (b := 86400) (by omega) (by omega) (by omega) (by omega), rdiv (a := t) (b := 86400) (by omega) (by omega) (by omega) (by omega), Option.bind_some]
  refine evb (cdate_dt (by omega) (by omega)) (evb (cdate_dt (by omega) (by omega)) ?_)
  dsimp only
  rw [tmod_nn 3600 m1, tmod_nn 3600 m2, tmod_nn 60 m1, tmod_nn 60 m2]
  refine evif (fun f4 => starts_j1 h h' hs ht _ (by unfold ck; rw [if_pos f4])) (fun f4 => ?_)
  refine evif (fun f3 => starts_j1 h h' hs ht _ (by unfold ck; rw [if_neg f4, if_pos f3])) (fun f3 => ?_)
  refine evif (fun f2 => starts_j1 h h' hs ht _ (by unfold ck; rw [if_neg f4, if_neg f3, if_pos f2])) (fun f2 => ?_)
  exact starts_j1 h h' hs ht _ (by unfold ck; rw [if_neg f4, if_neg f3, if_neg f2])
theorem FilterStarts : solsticelaw22_FilterStarts.Pure := by
  intro a0 a1 a2 _ _ _
  obtain ⟨s, hs, es⟩ := some20 a0
  obtain ⟨t, ht, et⟩ := some20 a1
  obtain ⟨fr, f1, f2, ef⟩ := um1 a2 (n := 7) (by omega) (by omega)
  have hs2 := hs
  have ht2 := ht
  unfold InT at hs2 ht2
  refine Ev.rounds ?_
  unfold solsticelaw22_FilterStarts.f
  simp only [ef]
  refine evb es (evb et ?_)
  refine evif (fun _ => ?_) (fun _ => starts_j0 f1 f2 hs ht)
  simp only [rdiv (a := s) (b := 86400) (by omega) (by omega) (by omega) (by omega), rdiv (a := t) (b := 86400) (by omega) (by omega) (by omega) (by omega), Option.bind_some]
  rw [w64 (x := t / 86400 * 86400) (by omega) (by omega), w64 (x := t / 86400 * 86400 + s % 86400) (by omega) (by omega)]
  exact starts_j0 f1 f2 hs (by unfold InT; omega)
end Go.Proofs.Ytmhpmkbifhgnbaa.Pure
