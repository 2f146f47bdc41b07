/- What the functions of layer 3 compute: forms of a day, days of a weekday, weeks. No condition beyond those each lemma names. -/
import Derived.Test.YtlefnaoflajnmaaG302
import Derived.Test.YtlefnaoflajnmaaOx1
import Derived.Test.YtlefnaoflajnmaaOx10
import Derived.Test.YtlefnaoflajnmaaOx11
import Derived.Test.YtlefnaoflajnmaaOx12
import Derived.Test.YtlefnaoflajnmaaOx15
import Derived.Test.YtlefnaoflajnmaaOx16
import Derived.Test.YtlefnaoflajnmaaOx2
import Derived.Test.YtlefnaoflajnmaaOx9
namespace Go.Proofs.Ytlefnaoflajnmaa.Pure
open Go.RowKit Go.Proofs.Ytlefnaoflajnmaa.O Go.Proofs.YtlefnaoflajnmaaW.PrintWords Go.Proofs.YtlefnaoflajnmaaW.PrintLast
open Go.Proofs.Ytlefnaoflajnmaa.Civ
theorem u64w (x : Int) : IntKind.u64.wrap x = x % 18446744073709551616 := by
  unfold IntKind.wrap
  simp [IntKind.bits, IntKind.signed]
theorem i64wf {a : Int} (h : (Lit.int .i64 a).wf = true) : -9223372036854775808 ≤ a ∧ a < 9223372036854775808 := by
  simp [Lit.wf, IntKind.min, IntKind.max, IntKind.signed, IntKind.bits] at h
  omega
theorem wweekday (n : Int) : week_weekday.f n = some (decide (0 ≤ n ∧ n ≤ 6)) := by
  unfold week_weekday.f
  by_cases h : n ≥ 0
  · rw [if_pos h]; congr 1; rw [decide_eq_decide]; omega
  · rw [if_neg h]; congr 1; rw [eq_comm, decide_eq_false_iff_not]; omega
theorem wup {n w : Int} (h : 0 ≤ w) (h' : w ≤ 6) : week_upon.f n w = some (upw n w) := by
  unfold week_upon.f
  have := wd_bd n
  rw [cwd]
  simp only [Option.bind_some]
  rw [w64 (x := w - wd n) (by omega) (by omega), w64 (by omega) (by omega), tmod_nn 7 (by omega)]
  congr 1
  unfold upw
  omega
theorem wahead {n w : Int} (h : 0 ≤ w) (h' : w ≤ 6) : week_ahead.f n w = some (dnw n w) := by
  unfold week_ahead.f
  have := wd_bd n
  rw [cwd]
  simp only [Option.bind_some]
  rw [w64 (x := wd n - w) (by omega) (by omega), w64 (by omega) (by omega), tmod_nn 7 (by omega)]
  congr 1
  unfold dnw
  omega
theorem wcheck (kd w d : Int) : Ev (fun k => week_Check.f k kd w d) (if OnR kd w d then 0 else 8) := by
  have main : ∀ b : Bool, (b = true ↔ 1 ≤ d ∧ d ≤ 31) → Ev (fun k => week_Check.j0 k b kd w d) (if OnR kd w d then 0 else 8) := by
    intro b hb
    have j1 : ∀ c : Bool, (c = true ↔ kd = 3 ∨ kd = 4) → kd ≠ 1 → kd ≠ 2 → Ev (fun k => week_Check.j1 k b false c kd w d) (if OnR kd w d then 0 else 8) := by
      intro c hc n1 n2
      refine evstep ?_
      simp only [week_Check.j1, wweekday, Option.bind_some]
      refine evif (fun h1 => evif (fun h2 => evif (fun h3 => evs ?_) (fun h3 => evs ?_)) (fun h2 => evs ?_)) (fun h1 => ?_)
      · rw [if_pos]; unfold OnR; simp only [decide_eq_true_eq] at h3; have := hc.1 h1; have := hb.1 h2; omega
      · rw [if_neg]; unfold OnR; simp only [decide_eq_true_eq] at h3; have := hc.1 h1; have := hb.1 h2; omega
      · rw [if_neg]; unfold OnR; have := mt hb.2 h2; omega
      · simp only [Bool.false_eq_true, if_false]
        refine evs ?_
        rw [if_neg]; unfold OnR; have := mt hc.2 h1; omega
    refine evstep ?_
    simp only [week_Check.j0, wweekday, Option.bind_some]
    refine evif (fun h1 => evif (fun h2 => evif (fun h3 => evs ?_) (fun h3 => evs ?_)) (fun h2 => evs ?_)) (fun h1 => evif (fun h2 => evif (fun h3 => evif (fun h4 => evs ?_) (fun h4 => evs ?_)) (fun h3 => evs ?_)) (fun h2 => evif (fun h3 => j1 _ ?_ h1 h2) (fun h3 => j1 _ ?_ h1 h2)))
    · rw [if_pos]; unfold OnR; have := hb.1 h2; omega
    · rw [if_neg]; unfold OnR; omega
    · rw [if_neg]; unfold OnR; have := mt hb.2 h2; omega
    · rw [if_pos]; unfold OnR; simp only [decide_eq_true_eq] at h4; omega
    · rw [if_neg]; unfold OnR; simp only [decide_eq_true_eq] at h4; omega
    · rw [if_neg]; unfold OnR; omega
    · simp; omega
    · simp; omega
  unfold week_Check.f
  refine evif (fun h => main _ ?_) (fun h => main _ ?_)
  · simp; omega
  · simp; omega
/-- What Resolve tells. -/
def resV (y m kd w d : Int) : Int × Int := if OnR kd w d then (if y < 1 ∨ 9999 < y then (0, 23) else if Rt y m (fday y m kd d) then (fres y m kd w d, 0) else (0, 4)) else (0, 8)
theorem wres (y m kd w d : Int) : Ev (fun k => week_Resolve.f k y m kd w d) (resV y m kd w d) := by
  unfold week_Resolve.f resV
  refine evb (wcheck kd w d) ?_
  by_cases ho : OnR kd w d
  · simp only [if_pos ho, if_true]
    have j1 : ¬ (y < 1 ∨ 9999 < y) → ∀ x, x = fday y m kd d → Ev (fun k => week_Resolve.j1 k y m x kd w d) (if Rt y m (fday y m kd d) then (fres y m kd w d, 0) else (0, 4)) := by
      intro hy x hx
      subst hx
      refine evstep ?_
      simp only [week_Resolve.j1]
      by_cases hr : Rt y m (fday y m kd d)
      · refine evb (cnum hr) ?_
        have hb := num_bd hr
        have hu := upw_bd (num y m (fday y m kd d)) w
        have hd := dnw_bd (num y m (fday y m kd d)) w
        simp only [if_true, if_pos hr]
        refine evif (fun h3 => ?_) (fun h3 => evif (fun h2 => ?_) (fun h2 => evif (fun h4 => ?_) (fun h4 => evs ?_)))
        · rw [wup (by unfold OnR at ho; omega) (by unfold OnR at ho; omega)]
          refine evs ?_
          rw [w64 (by omega) (by omega)]
          subst h3; simp [fres, fday]
        · rw [wahead (by unfold OnR at ho; omega) (by unfold OnR at ho; omega)]
          refine evs ?_
          rw [w64 (by omega) (by omega)]
          subst h2; simp [fres]
        · rw [wahead (by unfold OnR at ho; omega) (by unfold OnR at ho; omega)]
          refine evs ?_
          rw [w64 (by omega) (by omega)]
          subst h4; simp [fres]
        · obtain rfl : kd = 1 := by unfold OnR at ho; omega
          simp [fres, fday]
      · refine evb (cnum_no hr) ?_
        simp only [if_neg (show ¬ (4 : Int) = 0 by omega), if_neg hr]
        exact Ev.now _
    have j0 : ∀ b : Bool, (b = true ↔ y < 1 ∨ 9999 < y) → Ev (fun k => week_Resolve.j0 k y m b kd w d) (if y < 1 ∨ 9999 < y then (0, 23) else if Rt y m (fday y m kd d) then (fres y m kd w d, 0) else (0, 4)) := by
      intro b hb
      refine evstep ?_
      simp only [week_Resolve.j0]
      refine evif (fun h => evs (by rw [if_pos (hb.1 h)])) (fun h => ?_)
      have hy := mt hb.2 h
      simp only [if_neg hy]
      refine evif (fun h2 => evb (clen y m) (j1 hy _ ?_)) (fun h2 => j1 hy _ ?_)
      · unfold fday; rw [if_pos h2]
      · unfold fday; rw [if_neg h2]
    refine evif (fun h => j0 _ ?_) (fun h => j0 _ ?_)
    · simp; omega
    · simp; omega
  · simp only [if_neg ho, if_neg (show ¬ (8 : Int) = 0 by omega)]
    exact Ev.now _
theorem wnth {f t k w : Int} (hf : -9223372036854775808 ≤ f) (hf' : f < 9223372036854775808) (ht : -9223372036854775808 ≤ t) (ht' : t < 9223372036854775808) : Ev (fun n => week_Nth.f n f t k w) (nthV f t k w) := by
  have j0 : ∀ b : Bool, (b = true ↔ ¬ (f ≤ t ∧ k ≠ 0 ∧ -1000 ≤ k ∧ k ≤ 1000 ∧ 0 ≤ w ∧ w ≤ 6)) → Ev (fun n => week_Nth.j0 n f t k w b) (nthV f t k w) := by
    intro b hb
    refine evstep ?_
    simp only [week_Nth.j0]
    refine evif (fun h => evs ?_) (fun h => ?_)
    · have := hb.1 h
      unfold nthV
      rw [if_neg]
      unfold nthP
      omega
    · have hp : f ≤ t ∧ k ≠ 0 ∧ -1000 ≤ k ∧ k ≤ 1000 ∧ 0 ≤ w ∧ w ≤ 6 := Decidable.not_not.1 (mt hb.2 h)
      obtain ⟨p1, p2, p3, p4, p5, p6⟩ := hp
      have hu := upw_bd f w
      have hd := dnw_bd t w
      have e1 : IntKind.u64.wrap (IntKind.u64.wrap t - IntKind.u64.wrap f) = t - f := by simp only [u64w]; omega
      simp only [wup p5 p6, wahead p5 p6, Option.bind_some, e1]
      have e2 : IntKind.u64.wrap (upw f w) = upw f w := by rw [u64w]; omega
      have e3 : IntKind.u64.wrap (dnw t w) = dnw t w := by rw [u64w]; omega
      rw [e2, e3]
      have fin : ∀ (off q : Int), 0 ≤ off → off ≤ 6 → 0 ≤ q → q ≤ 999 → (k < 0 → off = dnw t w ∧ q = -k - 1) → (0 < k → off = upw f w ∧ q = k - 1) → Ev (fun n => week_Nth.j1 n f t k (t - f) off q) (nthV f t k w) := by
        intro off q o1 o2 q1 q2 hn hpz
        have e7 : IntKind.u64.wrap (7 * q) = 7 * q := by rw [u64w]; omega
        have j2 : ∀ c : Bool, (c = true ↔ t - f < off + 7 * q) → Ev (fun n => week_Nth.j2 n f t k off q c) (nthV f t k w) := by
          intro c hc
          refine evstep ?_
          simp only [week_Nth.j2, e7]
          refine evif (fun h1 => evs ?_) (fun h1 => ?_)
          · have := hc.1 h1
            unfold nthV
            rw [if_neg]
            unfold nthP nthA nthB
            omega
          · have := mt hc.2 h1
            refine evif (fun h2 => evs ?_) (fun h2 => evs ?_)
            · have := hn h2
              have hP : nthP f t k w := by unfold nthP nthB; omega
              unfold nthV
              rw [if_pos hP, if_neg (by omega)]
              congr 1
              simp only [u64w]
              unfold wrap64 nthB
              omega
            · have := hpz (by omega)
              have hP : nthP f t k w := by unfold nthP nthA; omega
              unfold nthV
              rw [if_pos hP, if_pos (by omega)]
              congr 1
              simp only [u64w]
              unfold wrap64 nthA
              omega
        refine evstep ?_
        simp only [week_Nth.j1]
        refine evif (fun h1 => j2 true ?_) (fun h1 => j2 _ ?_)
        · simp; omega
        · have e8 : IntKind.u64.wrap (t - f - off) = t - f - off := by rw [u64w]; omega
          rw [e8, tdiv_nn 7 (by omega)]
          have e9 : IntKind.u64.wrap ((t - f - off) / 7) = (t - f - off) / 7 := by rw [u64w]; omega
          rw [e9]
          simp
          omega
      refine evif (fun h1 => ?_) (fun h1 => ?_)
      · rw [w64 (x := k + 1) (by omega) (by omega), w64 (x := -(k + 1)) (by omega) (by omega), show IntKind.u64.wrap (-(k + 1)) = -k - 1 by rw [u64w]; omega]
        exact fin _ _ hd.1 hd.2 (by omega) (by omega) (fun _ => ⟨rfl, rfl⟩) (fun _ => by omega)
      · rw [w64 (x := k - 1) (by omega) (by omega), show IntKind.u64.wrap (k - 1) = k - 1 by rw [u64w]; omega]
        exact fin _ _ hu.1 hu.2 (by omega) (by omega) (fun _ => by omega) (fun _ => ⟨rfl, rfl⟩)
  unfold week_Nth.f
  simp only [wweekday, Option.bind_some]
  refine evif (fun h => j0 _ ?_) (fun h => evif (fun h => j0 _ ?_) (fun h => evif (fun h => j0 _ ?_) (fun h => evif (fun h => j0 _ ?_) (fun h => j0 _ ?_))))
  all_goals (simp; omega)
/-- What No tells. -/
noncomputable def noV (n k : Int) : Int × Int × Int := if 0 ≤ k ∧ k ≤ 6 then (if -719528 ≤ n ∧ n ≤ 2933262 ∧ 1 ≤ yr n ∧ yr n ≤ 9999 then (yr (mid n k), (n - fw (yr (mid n k)) k) / 7 + 1, 0) else (0, 0, 23)) else (0, 0, 1)
theorem yr_range {n : Int} (h : -719528 ≤ n) (h' : n ≤ 2933262) : (1 ≤ yr n ∧ yr n ≤ 9999) ↔ (-719162 ≤ n ∧ n ≤ 2932896) := by
  have s := yr_bd h h'
  have e1 : ah 1 = 366 := by decide +kernel
  have e2 : ah 10000 = 3652425 := by decide +kernel
  constructor
  · intro ⟨a, b⟩
    have h1 := ah_le a
    have h2 := ah_le (a := yr n + 1) (b := 10000) (by omega)
    omega
  · intro ⟨a, b⟩
    have h1 := ah_mono (a := 1) (b := yr n + 1) (by omega)
    have h2 := ah_mono (a := yr n) (b := 10000) (by omega)
    omega
theorem wno (n k : Int) : Ev (fun q => week_No.f q n k) (noV n k) := by
  unfold week_No.f noV
  simp only [wweekday, Option.bind_some]
  by_cases hk : 0 ≤ k ∧ k ≤ 6
  · simp only [decide_eq_true hk, if_true, if_pos hk]
    have no : Ev (fun q => week_No.j0 q n k true) (0, 0, 23) := evstep (by simp only [week_No.j0, if_true]; exact Ev.now _)
    by_cases hn : -719528 ≤ n ∧ n ≤ 2933262
    · refine evb (cdate_dt hn.1 hn.2) ?_
      simp only [if_true]
      have hr := yr_range hn.1 hn.2
      refine evif (fun h1 => ?_) (fun h1 => ?_)
      · rw [if_neg (by have : yr n < 1 := h1; omega)]; exact no
      · by_cases h9 : (dt n).1 > 9999
        · simp only [decide_eq_true h9]
          rw [if_neg (by have : yr n > 9999 := h9; omega)]; exact no
        · simp only [decide_eq_false h9]
          have hy : 1 ≤ yr n ∧ yr n ≤ 9999 := ⟨by unfold yr; omega, by unfold yr; omega⟩
          rw [if_pos ⟨hn.1, hn.2, hy.1, hy.2⟩]
          have hr := hr.1 hy
          have hd := dnw_bd n k
          have hm : -719528 ≤ mid n k ∧ mid n k ≤ 2933262 := by unfold mid; omega
          have hs := yr_bd hm.1 hm.2
          refine evstep ?_
          simp only [week_No.j0, Bool.false_eq_true, if_false, wahead hk.1 hk.2, Option.bind_some]
          rw [w64 (x := n - dnw n k) (by omega) (by omega), w64 (x := n - dnw n k + 3) (by omega) (by omega), show n - dnw n k + 3 = mid n k from rfl]
          refine evb (cdate_dt hm.1 hm.2) (evb (cyd_dt hm.1 hm.2) (evs ?_))
          have ha := ah_succ (yr (mid n k))
          have hl := lpi_01 (yr (mid n k))
          rw [cum_dt hm.1 hm.2, ← mid_no n k hm.1 hm.2, show (dt (mid n k)).1 = yr (mid n k) from rfl]
          have hyd : 1 ≤ yd (mid n k) ∧ yd (mid n k) ≤ 366 := by unfold yd; omega
          rw [w64 (x := yd (mid n k) - 1) (by omega) (by omega), tdiv_nn 7 (by omega), w64 (x := (yd (mid n k) - 1) / 7) (by omega) (by omega), w64 (by omega) (by omega)]
    · refine evb (cdate_no (by omega)) ?_
      simp only [if_neg (show ¬ (23 : Int) = 0 by omega)]
      rw [if_neg (by omega)]
      exact no
  · simp only [decide_eq_false hk, Bool.false_eq_true, if_false, if_neg hk]
    exact Ev.now _
/-- What Weeks tells. -/
def weeksV (y k : Int) : Int × Int := if 0 ≤ k ∧ k ≤ 6 then (if 1 ≤ y ∧ y ≤ 9999 then ((fw (y + 1) k - fw y k) / 7, 0) else (0, 23)) else (0, 1)
theorem wweeks (y k : Int) : Ev (fun q => week_Weeks.f q y k) (weeksV y k) := by
  unfold week_Weeks.f weeksV
  simp only [wweekday, Option.bind_some]
  by_cases hk : 0 ≤ k ∧ k ≤ 6
  · simp only [decide_eq_true hk, if_true, if_pos hk]
    have j0 : ∀ b : Bool, (b = true ↔ ¬ (1 ≤ y ∧ y ≤ 9999)) → Ev (fun q => week_Weeks.j0 q y k b) (if 1 ≤ y ∧ y ≤ 9999 then ((fw (y + 1) k - fw y k) / 7, 0) else (0, 23)) := by
      intro b hb
      refine evstep ?_
      simp only [week_Weeks.j0]
      refine evif (fun h => evs (by rw [if_neg (hb.1 h)])) (fun h => ?_)
      have hy : 1 ≤ y ∧ y ≤ 9999 := Decidable.not_not.1 (mt hb.2 h)
      rw [if_pos hy]
      have hrt : Rt y 12 28 := ⟨by omega, by omega, by omega, by omega, by omega, by simp [ln]⟩
      refine evb (cnum hrt) (evb (wno _ k) ?_)
      have hb' := num_bd hrt
      have hyr := yr_num hrt
      have c12 : cum y 12 = 334 + lpi y := by simp [cum]
      have hl := lpi_01 y
      have hs := ah_succ y
      have f1 := fw_bd y k
      have f2 : fw (y + 1) k = ah (y + 1) - 719528 + 3 - dnw (ah (y + 1) - 719528 + 3) k := by unfold fw; rw [num_1]; rw [show ah (y + 1) - 719528 + 4 - 1 = ah (y + 1) - 719528 + 3 by omega]
      have d2 := dnw_bd (ah (y + 1) - 719528 + 3) k
      have h7 := fw_7 y (y + 1) k
      have nn : num y 12 28 = ah (y + 1) - 719528 - 4 := by unfold num; omega
      have hm : -719528 ≤ mid (num y 12 28) k ∧ mid (num y 12 28) k ≤ 2933262 := by
        have := dnw_bd (num y 12 28) k
        have h1 := ah_le (a := 1) (b := y) (by omega)
        have e1 : ah 1 = 366 := by decide +kernel
        have h2 := ah_le (a := y + 1) (b := 10000) (by omega)
        have e2 : ah 10000 = 3652425 := by decide +kernel
        unfold mid
        omega
      have hmy : yr (mid (num y 12 28) k) = y := mid_yr hm.1 hm.2 (by omega) (by omega)
      refine evs ?_
      unfold noV
      dsimp only
      rw [if_pos hk, if_pos ⟨hb'.1, hb'.2, by omega, by omega⟩, hmy]
      dsimp only
      congr 1
      omega
    refine evif (fun h => j0 _ ?_) (fun h => j0 _ ?_)
    · simp; omega
    · simp; omega
  · simp only [decide_eq_false hk, Bool.false_eq_true, if_false, if_neg hk]
    exact Ev.now _
end Go.Proofs.Ytlefnaoflajnmaa.Pure
