/- What On of the encoder computes. -/
import Derived.Test.YtfinhaghgmnegaaG424
import Derived.Test.YtfinhaghgmnegaaOx0
import Derived.Test.YtfinhaghgmnegaaOx2
import Derived.Test.YtfinhaghgmnegaaOx3
import Derived.Test.YtfinhaghgmnegaaOx40
import Derived.Test.YtfinhaghgmnegaaOx6
namespace Go.Proofs.Ytfinhaghgmnegaa.Pure
open Go.RowKit Go.Proofs.Ytfinhaghgmnegaa.O Go.Proofs.YtfinhaghgmnegaaW.PrintWords Go.Proofs.YtfinhaghgmnegaaW.PrintLast
open Go.Proofs.Ytfinhaghgmnegaa.Civ
abbrev RT := Int × Int × Int × Bool × Int × Bool × List Int × List Int × List Int × List S54 × List Int × List Int × List Int × List Int × List Int × Int
def noneR : RT := (0, 0, 0, false, 0, false, [], [], [], [], [], [], [], [], [], 0)
/-- The first of a form's days, moved. -/
def fst24 (kd d mv : Int) : Int := if kd = 4 then d + mv - 6 else d + mv
def many24 (kd : Int) : Int := if kd = 1 then 1 else 7
def encP (m kd d mv : Int) : Prop := -40 ≤ mv ∧ mv ≤ 40 ∧ (kd = 2 ∧ mv = 0 ∨ kd ≠ 2 ∧ d ≤ ln 2001 m ∧ 1 ≤ fst24 kd d mv ∧ fst24 kd d mv + many24 kd - 1 ≤ ln 2001 m)
instance (m kd d mv : Int) : Decidable (encP m kd d mv) := by unfold encP; infer_instance
/-- The rule of a form. -/
def onR (m kd w d mv : Int) : RT :=
  if kd = 2 then (7, 1, 0, false, 0, false, [], [], [], [⟨-1, w⟩], [], [], [], [m], [], 1)
  else if kd = 1 then (7, 1, 0, false, 0, false, [], [], [], [], [fst24 kd d mv], [], [], [m], [], 1)
  else if fst24 kd d mv % 7 = 1 then (7, 1, 0, false, 0, false, [], [], [], [⟨fst24 kd d mv / 7 + 1, (w + mv) % 7⟩], [], [], [], [m], [], 1)
  else (7, 1, 0, false, 0, false, [], [], [], [⟨0, (w + mv) % 7⟩], [fst24 kd d mv + 0, fst24 kd d mv + 1, fst24 kd d mv + 2, fst24 kd d mv + 3, fst24 kd d mv + 4, fst24 kd d mv + 5, fst24 kd d mv + 6], [], [], [m], [], 1)
def withE (r : RT) (e : Int) : Int × Int × Int × Bool × Int × Bool × List Int × List Int × List Int × List S54 × List Int × List Int × List Int × List Int × List Int × Int × Int :=
  (r.1, r.2.1, r.2.2.1, r.2.2.2.1, r.2.2.2.2.1, r.2.2.2.2.2.1, r.2.2.2.2.2.2.1, r.2.2.2.2.2.2.2.1, r.2.2.2.2.2.2.2.2.1, r.2.2.2.2.2.2.2.2.2.1, r.2.2.2.2.2.2.2.2.2.2.1, r.2.2.2.2.2.2.2.2.2.2.2.1, r.2.2.2.2.2.2.2.2.2.2.2.2.1, r.2.2.2.2.2.2.2.2.2.2.2.2.2.1, r.2.2.2.2.2.2.2.2.2.2.2.2.2.2.1, r.2.2.2.2.2.2.2.2.2.2.2.2.2.2.2, e)
def onE (m kd w d mv : Int) : Int := if OnR kd w d then (if m < 1 ∨ 12 < m then 4 else if encP m kd d mv then 0 else 17) else 8
def onV (m kd w d mv : Int) : Int × Int × Int × Bool × Int × Bool × List Int × List Int × List Int × List S54 × List Int × List Int × List Int × List Int × List Int × Int × Int :=
  withE (if onE m kd w d mv = 0 then onR m kd w d mv else noneR) (onE m kd w d mv)
theorem wweekday (n : Int) : week_weekday.f n = some (decide (0 ≤ n ∧ n ≤ 6)) := by
  unfold week_weekday.f
  by_cases h : n ≥ 0
  · rw [if_pos h]; congr 1; rw [decide_eq_decide]; omega
  · rw [if_neg h]; congr 1; rw [eq_comm, decide_eq_false_iff_not]; omega
theorem wcheck (kd w d : Int) : Ev (fun k => week_Check.f k kd w d) (if OnR kd w d then 0 else 8) := by
  have main : ∀ b : Bool, (b = true ↔ 1 ≤ d ∧ d ≤ 31) → Ev (fun k => week_Check.j0 k b kd w d) (if OnR kd w d then 0 else 8) := by
    intro b hb
    have j1 : ∀ c : Bool, (c = true ↔ kd = 3 ∨ kd = 4) → kd ≠ 1 → kd ≠ 2 → Ev (fun k => week_Check.j1 k b false c kd w d) (if OnR kd w d then 0 else 8) := by
      intro c hc n1 n2
      refine evstep ?_
      simp only [week_Check.j1, wweekday, Option.bind_some]
      refine evif (fun h1 => evif (fun h2 => evif (fun h3 => evs ?_) (fun h3 => evs ?_)) (fun h2 => evs ?_)) (fun h1 => ?_)
      · rw [if_pos]; unfold OnR; simp only [decide_eq_true_eq] at h3; have := hc.1 h1; have := hb.1 h2; omega
      · rw [if_neg]; unfold OnR; simp only [decide_eq_true_eq] at h3; have := hc.1 h1; have := hb.1 h2; omega
      · rw [if_neg]; unfold OnR; have := mt hb.2 h2; omega
      · simp only [Bool.false_eq_true, if_false]
        refine evs ?_
        rw [if_neg]; unfold OnR; have := mt hc.2 h1; omega
    refine evstep ?_
    simp only [week_Check.j0, wweekday, Option.bind_some]
    refine evif (fun h1 => evif (fun h2 => evif (fun h3 => evs ?_) (fun h3 => evs ?_)) (fun h2 => evs ?_)) (fun h1 => evif (fun h2 => evif (fun h3 => evif (fun h4 => evs ?_) (fun h4 => evs ?_)) (fun h3 => evs ?_)) (fun h2 => evif (fun h3 => j1 _ ?_ h1 h2) (fun h3 => j1 _ ?_ h1 h2)))
    · rw [if_pos]; unfold OnR; have := hb.1 h2; omega
    · rw [if_neg]; unfold OnR; omega
    · rw [if_neg]; unfold OnR; have := mt hb.2 h2; omega
    · rw [if_pos]; unfold OnR; simp only [decide_eq_true_eq] at h4; omega
    · rw [if_neg]; unfold OnR; simp only [decide_eq_true_eq] at h4; omega
    · rw [if_neg]; unfold OnR; omega
    · simp; omega
    · simp; omega
  unfold week_Check.f
  refine evif (fun h => main _ ?_) (fun h => main _ ?_)
  · simp; omega
  · simp; omega
/-- Seven days from a day on. -/
theorem eseven {f wk : Int} (h : 1 ≤ f) (h' : f ≤ 31) (m : Int) : Ev (fun k => encode_seven.f k 7 1 0 false 0 false [] [] [] [] [] [] [] [m] [] 1 f wk)
    (if f % 7 = 1 then (7, 1, 0, false, 0, false, [], [], [], [⟨f / 7 + 1, wk⟩], [], [], [], [m], [], 1) else (7, 1, 0, false, 0, false, [], [], [], [⟨0, wk⟩], [f + 0, f + 1, f + 2, f + 3, f + 4, f + 5, f + 6], [], [], [m], [], 1)) := by
  unfold encode_seven.f
  rw [tmod_nn 7 (by omega), tdiv_nn 7 (by omega)]
  refine evif (fun h1 => evs ?_) (fun h1 => ?_)
  · rw [if_pos h1, w64 (x := f / 7) (by omega) (by omega), w64 (by omega) (by omega)]
  · rw [if_neg h1]
    have st : ∀ (i : Int) (l : List Int) (r : RT), 0 ≤ i → i < 7 → l.length < 100 → Ev (fun k => encode_seven.l0 k f (i + 1) 7 1 0 false 0 false [] [] [] [⟨0, wk⟩] (l ++ [f + i]) [] [] [m] [] 1) r → Ev (fun k => encode_seven.l0 k f i 7 1 0 false 0 false [] [] [] [⟨0, wk⟩] l [] [] [m] [] 1) r := by
      intro i l r h0 h1 hl he
      refine evstep ?_
      simp only [encode_seven.l0, if_pos h1, if_pos (show l.length < 17592186044416 by omega)]
      rw [w64 (x := i + 1) (by omega) (by omega), w64 (x := f + i) (by omega) (by omega)]
      exact he
    refine st 0 [] _ (by omega) (by omega) (by simp) (st 1 _ _ (by omega) (by omega) (by simp) (st 2 _ _ (by omega) (by omega) (by simp) (st 3 _ _ (by omega) (by omega) (by simp) (st 4 _ _ (by omega) (by omega) (by simp) (st 5 _ _ (by omega) (by omega) (by simp) (st 6 _ _ (by omega) (by omega) (by simp) ?_))))))
    refine evstep ?_
    simp only [encode_seven.l0]
    refine evs ?_
    rfl
theorem len01 (m : Int) (h : 1 ≤ m) (h' : m ≤ 12) : 28 ≤ ln 2001 m ∧ ln 2001 m ≤ 31 := ln_bd 2001 m h h'
theorem eon (m kd w d : Int) {mv : Int} (hv : -9223372036854775808 ≤ mv) (hv' : mv < 9223372036854775808) : Ev (fun k => encode_On.f k m kd w d mv) (onV m kd w d mv) := by
  unfold encode_On.f
  refine evb (wcheck kd w d) ?_
  by_cases ho : OnR kd w d
  · simp only [if_pos ho, if_true]
    have j0 : ∀ b : Bool, (b = true ↔ m < 1 ∨ 12 < m) → Ev (fun k => encode_On.j0 k m mv b kd w d) (onV m kd w d mv) := by
      intro b hb
      refine evstep ?_
      simp only [encode_On.j0, Option.bind_some]
      refine evif (fun h => ?_) (fun h => ?_)
      · have e : onE m kd w d mv = 4 := by unfold onE; rw [if_pos ho, if_pos (hb.1 h)]
        refine evs ?_
        unfold onV; rw [e]; rfl
      have hm : ¬ (m < 1 ∨ 12 < m) := mt hb.2 h
      have hl := len01 m (by omega) (by omega)
      have no : ¬ encP m kd d mv → onV m kd w d mv = withE noneR 17 := by
        intro hn
        have e : onE m kd w d mv = 17 := by unfold onE; rw [if_pos ho, if_neg hm, if_neg hn]
        unfold onV; rw [e]; rfl
      have yes : encP m kd d mv → onV m kd w d mv = withE (onR m kd w d mv) 0 := by
        intro hn
        have e : onE m kd w d mv = 0 := by unfold onE; rw [if_pos ho, if_neg hm, if_pos hn]
        unfold onV; rw [e]; rfl
      refine evif (fun h1 => evs ?_) (fun h1 => evif (fun h2 => evs ?_) (fun h2 => ?_))
      · rw [no (by unfold encP; omega)]; rfl
      · rw [no (by unfold encP; omega)]; rfl
      refine evif (fun h3 => evif (fun h4 => evs ?_) (fun h4 => evs ?_)) (fun h3 => ?_)
      · rw [yes (by unfold encP; omega)]; unfold onR; rw [if_pos h3]; rfl
      · rw [no (by unfold encP; omega)]; rfl
      have hd : 1 ≤ d ∧ d ≤ 31 := by unfold OnR at ho; omega
      have j1 : ∀ f n, f = fst24 kd d mv → n = many24 kd → Ev (fun k => encode_On.j1 k m mv f n kd w d 7 1 0 false 0 false [m] 1) (onV m kd w d mv) := by
        intro f n hf hn
        have hfb : -80 ≤ f ∧ f ≤ 80 := by rw [hf]; unfold fst24; split <;> omega
        have hnb : (kd = 1 ∧ n = 1) ∨ (kd ≠ 1 ∧ n = 7) := by rw [hn]; unfold many24; split <;> omega
        have j2 : ∀ c : Bool, (c = true ↔ d > ln 2001 m ∨ f < 1 ∨ f + n - 1 > ln 2001 m) → Ev (fun k => encode_On.j2 k mv f n c kd w d 7 1 0 false 0 false [m] 1) (onV m kd w d mv) := by
          intro c hc
          refine evstep ?_
          simp only [encode_On.j2]
          refine evif (fun h5 => evs ?_) (fun h5 => ?_)
          · have := hc.1 h5
            rw [no (by unfold encP; rw [← hf, ← hn]; omega)]; rfl
          · have h6 := mt hc.2 h5
            rw [yes (by unfold encP; rw [← hf, ← hn]; omega)]
            refine evif (fun h7 => evs ?_) (fun h7 => ?_)
            · have hk : kd = 1 := by omega
              unfold onR; rw [if_neg h3, if_pos hk, ← hf]; rfl
            · have hk : kd ≠ 1 := by omega
              have hw : 0 ≤ w ∧ w ≤ 6 := by unfold OnR at ho; omega
              have ew : Int.tmod (wrap64 (Int.tmod (wrap64 (w + mv)) 7 + 7)) 7 = (w + mv) % 7 := by
                rw [w64 (x := w + mv) (by omega) (by omega), tmod_if (w + mv)]
                split
                · rw [w64 (by omega) (by omega), tmod_nn 7 (by omega)]; omega
                · rw [w64 (by omega) (by omega), tmod_nn 7 (by omega)]; omega
              rw [ew]
              refine evb (eseven (f := f) (by omega) (by omega) m) (evs ?_)
              unfold onR; rw [if_neg h3, if_neg hk, ← hf]
              by_cases h8 : f % 7 = 1
              · simp only [if_pos h8]; rfl
              · simp only [if_neg h8]; rfl
        refine evstep ?_
        simp only [encode_On.j1]
        refine evb (clen 2001 m) ?_
        rw [w64 (x := f + n) (by omega) (by omega), w64 (x := f + n - 1) (by omega) (by omega)]
        refine evif (fun h5 => j2 true ?_) (fun h5 => evif (fun h6 => j2 true ?_) (fun h6 => evb (clen 2001 m) (j2 _ ?_)))
        · simp; omega
        · simp; omega
        · simp; omega
      rw [w64 (x := d + mv) (by omega) (by omega), w64 (x := d + mv - 7) (by omega) (by omega), w64 (x := d + mv - 7 + 1) (by omega) (by omega)]
      refine evif (fun h4 => j1 _ _ ?_ ?_) (fun h4 => evif (fun h5 => j1 _ _ ?_ ?_) (fun h5 => j1 _ _ ?_ ?_))
      · unfold fst24; rw [if_neg (by omega)]
      · unfold many24; rw [if_neg (by omega)]
      · unfold fst24; rw [if_pos h5]; omega
      · unfold many24; rw [if_neg (by omega)]
      · unfold fst24; rw [if_neg h5]
      · unfold many24; rw [if_pos (by unfold OnR at ho; omega)]
    refine evif (fun h => j0 _ ?_) (fun h => j0 _ ?_)
    · simp; omega
    · simp; omega
  · simp only [if_neg ho, if_neg (show ¬ (8 : Int) = 0 by omega)]
    refine evs ?_
    have e : onE m kd w d mv = 8 := by unfold onE; rw [if_neg ho]
    unfold onV; rw [e]; rfl
end Go.Proofs.Ytfinhaghgmnegaa.Pure
