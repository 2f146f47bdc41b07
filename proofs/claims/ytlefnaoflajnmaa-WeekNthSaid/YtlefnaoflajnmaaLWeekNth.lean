/- WeekNth in plain numbers: what the law computes is true at all arguments. No condition but that each is an int. -/
import Derived.Test.YtlefnaoflajnmaaGS03
import Derived.Test.YtlefnaoflajnmaaOx36
namespace Go.Proofs.Ytlefnaoflajnmaa.Pure
open Go.RowKit Go.Proofs.Ytlefnaoflajnmaa.O Go.Proofs.YtlefnaoflajnmaaW.PrintWords Go.Proofs.YtlefnaoflajnmaaW.PrintLast
open Go.Proofs.Ytlefnaoflajnmaa.Civ
theorem nth_l0 (f n a2 w : Int) (hf : -4000000 ≤ f) (hf' : f ≤ 4000000) (hn : 0 ≤ n) (hn' : n < 800) (w0 : 0 ≤ w) (w1 : w ≤ 6) :
    ∀ (s : Nat) (c i : Int), i + s = f + n + 1 → 0 ≤ c → f ≤ i → i ≤ f + upw f w + 7 * c → (c = 0 ∨ f + upw f w + 7 * (c - 1) < i) → Ev (fun k => solsticelaw03_WeekNth.l0 k f n a2 w c i) true := by
  have u := upw_bd f w
  have v := dnw_bd (f + n) w
  intro s
  induction s with
  | zero =>
    intro c i hi hc hfi h1 h2
    obtain rfl : i = f + n + 1 := by omega
    obtain ⟨num, num0, num1, en⟩ := um1 a2 (n := 400) (by omega) (by omega)
    refine evstep ?_
    simp only [solsticelaw03_WeekNth.l0, en]
    rw [w64 (x := f + n) (by omega) (by omega)]
    simp only [if_neg (show ¬ f + n + 1 ≤ f + n by omega)]
    have hcb : c ≤ 115 := by omega
    rw [w64 (x := num - c) (by omega) (by omega), w64 (x := num - c - 1) (by omega) (by omega)]
    refine evb (wnth (by omega) (by omega) (by omega) (by omega)) (evb (wnth (by omega) (by omega) (by omega) (by omega)) ?_)
    have fin : Ev (fun k => solsticelaw03_WeekNth.j1 k f n w false) true := by
      refine evstep ?_
      simp only [solsticelaw03_WeekNth.j1, Bool.false_eq_true, if_false]
      rw [w64 (x := f + n) (by omega) (by omega), w64 (x := f + 1) (by omega) (by omega)]
      refine evb (wnth (by omega) (by omega) (by omega) (by omega)) (evb (wnth (by omega) (by omega) (by omega) (by omega)) ?_)
      have p1 : nthV f (f + n) 0 w = (0, false) := by unfold nthV; rw [if_neg (by unfold nthP; omega)]
      have p2 : nthV (f + 1) f 1 w = (0, false) := by unfold nthV; rw [if_neg (by unfold nthP; omega)]
      simp only [p1, p2, Bool.false_eq_true, if_false]
      exact evb wakes_ev (Ev.now _)
    by_cases hle : num ≤ c
    · have p1 : nthV f (f + n) num w = (f + upw f w + 7 * (num - 1), true) := by
        have : nthP f (f + n) num w := by unfold nthP nthA; omega
        unfold nthV; rw [if_pos this, if_pos (by omega)]; rfl
      have p2 : nthV f (f + n) (num - c - 1) w = (f + upw f w + 7 * (num - 1), true) := by
        have hx : f + n - dnw (f + n) w - 7 * (-(num - c - 1) - 1) = f + upw f w + 7 * (num - 1) := by unfold upw dnw wd at *; omega
        have : nthP f (f + n) (num - c - 1) w := by unfold nthP nthB; omega
        unfold nthV; rw [if_pos this, if_neg (by omega)]; unfold nthB; rw [hx]
      simp only [p1, p2, decide_eq_true hle, bne_self_eq_false, Bool.false_eq_true, if_false, if_true]
      exact fin
    · have p1 : nthV f (f + n) num w = (0, false) := by
        unfold nthV; rw [if_neg (by unfold nthP nthA; omega)]
      simp only [p1, decide_eq_false hle, bne_self_eq_false, Bool.false_eq_true, if_false]
      exact fin
  | succ s ih =>
    intro c i hi hc hfi h1 h2
    have hcb : c ≤ 115 := by omega
    refine evstep ?_
    simp only [solsticelaw03_WeekNth.l0]
    rw [w64 (x := f + n) (by omega) (by omega), w64 (x := c + 1) (by omega) (by omega), w64 (x := i + 1) (by omega) (by omega)]
    simp only [if_pos (show i ≤ f + n by omega), cwd, Option.bind_some]
    refine evif (fun hw => ?_) (fun hw => ?_)
    · have hx : i = f + upw f w + 7 * c := by unfold upw wd at *; omega
      refine evb (wnth (by omega) (by omega) (by omega) (by omega)) ?_
      have p1 : nthV f (f + n) (c + 1) w = (i, true) := by
        have : nthP f (f + n) (c + 1) w := by unfold nthP nthA; omega
        unfold nthV; rw [if_pos this, if_pos (by omega)]; unfold nthA; congr 1; omega
      simp only [p1, if_true]
      exact ih (c + 1) (i + 1) (by omega) (by omega) (by omega) (by omega) (by omega)
    · have hx : i ≠ f + upw f w + 7 * c := by intro he; apply hw; unfold upw wd at *; omega
      exact ih c (i + 1) (by omega) (by omega) (by omega) (by omega) (by omega)
theorem WeekNth : solsticelaw03_WeekNth.Pure := by
  intro a0 a1 a2 a3 _ _ _ _
  obtain ⟨n, n0, n1, en⟩ := um a1 (n := 800) (by omega) (by omega)
  obtain ⟨w, w0, w1, ew⟩ := um a3 (n := 7) (by omega) (by omega)
  have hf : -4000000 ≤ Int.tmod a0 4000000 ∧ Int.tmod a0 4000000 ≤ 4000000 := by rw [tmod_if]; split <;> omega
  have u := upw_bd (Int.tmod a0 4000000) w
  refine Ev.rounds ?_
  unfold solsticelaw03_WeekNth.f
  simp only [en, ew]
  exact nth_l0 _ n a2 w hf.1 hf.2 n0 n1 w0 (by omega) (n + 1).toNat 0 _ (by omega) (by omega) (by omega) (by omega) (by omega)
end Go.Proofs.Ytlefnaoflajnmaa.Pure
