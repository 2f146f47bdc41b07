-- What some functions of the program compute: a text of this claim's own (lines first written by the kit's tool, some proved anew).
/- What the reference's dates, lists and years, and Some, compute. No condition beyond those each lemma names. -/
import Derived.Test.YtmhpmkbifhgnbaaMMOx0
import Derived.Test.YtmhpmkbifhgnbaaMOx57
import Derived.Test.YtmhpmkbifhgnbaaMG22W2
import Derived.Test.YtmhpmkbifhgnbaaOx23
import Derived.Test.YtmhpmkbifhgnbaaOx58
import Derived.Test.YtmhpmkbifhgnbaaMOx61
import Derived.Test.YtmhpmkbifhgnbaaOx62
import Derived.Test.YtmhpmkbifhgnbaaMOx63
import Derived.Test.YtmhpmkbifhgnbaaOx64
import Derived.Test.YtmhpmkbifhgnbaaOx65
namespace Go.Proofs.Ytmhpmkbifhgnbaa.O
open Go.RowKit Go.Proofs.YtmhpmkbifhgnbaaW.PrintWords Go.Proofs.YtmhpmkbifhgnbaaW.PrintLast Go.Proofs.YtmhpmkbifhgnbaaW.PrintMore
attribute [local go_sem] max2_int min2_int max_two min_two max_three min_three max_four min_four   -- for this text's walks alone
set_option linter.unusedVariables false
set_option linter.unusedSimpArgs false

/-! ### solsticelaw20_Some: function 21 -/
def solsticelaw20_Some.f (k : Nat) (a0 : Int) : Option (Int) := (solsticeref01_Number.f k 1 1 1).bind fun t552 => ((solsticeref01_Number.f k 10000 1 1).bind fun t553 => (if (IntKind.u64.wrap (wrap64 ((wrap64 (86400 * t553)) - (wrap64 (86400 * t552))))) = 0 then (none) else (some (wrap64 ((wrap64 (86400 * t552)) + (wrap64 (Int.tmod (IntKind.u64.wrap (a0)) (IntKind.u64.wrap (wrap64 ((wrap64 (86400 * t553)) - (wrap64 (86400 * t552))))))))))))
theorem solsticelaw20_Some.mono : ∀ a0 k, LeO (solsticelaw20_Some.f k a0) (solsticelaw20_Some.f (k + 1) a0) := by
  intro a0 k
  unfold solsticelaw20_Some.f
  repeat' first
      | (with_reducible exact solsticeref01_Number.mono _ _ _ _)
      | (with_reducible exact LeO.refl _)
      | (with_reducible exact LeO.none _)
      | (with_reducible refine LeO.ite ?_ ?_)
      | (with_reducible refine LeO.bind ?_ (fun _ => ?_))
      | exact solsticeref01_Number.mono _ _ _ _
      | exact LeO.none _
      | refine LeO.ite ?_ ?_
      | refine LeO.bind ?_ (fun _ => ?_)
set_option maxHeartbeats 8000000 in
set_option maxRecDepth 100000 in
theorem solsticelaw20_Some.calls (k : Nat) (a0 : Int) (r : Int) (w : World) (h : solsticelaw20_Some.f k a0 = some r) :
    Calls Try.prog 21 #[.int .i64 a0] w fun e w' => e = .returned (.int .i64 r) ∧ Below w.heap.size w w' := by
  have hu39 := Try.underlying39
  have HB := Aside0.mk (Below.refl w.heap.size w)
  have H : ((solsticeref01_Number.f k 1 1 1).bind fun t552 => ((solsticeref01_Number.f k 10000 1 1).bind fun t553 => (if (IntKind.u64.wrap (wrap64 ((wrap64 (86400 * t553)) - (wrap64 (86400 * t552))))) = 0 then (none) else (some (wrap64 ((wrap64 (86400 * t552)) + (wrap64 (Int.tmod (IntKind.u64.wrap (a0)) (IntKind.u64.wrap (wrap64 ((wrap64 (86400 * t553)) - (wrap64 (86400 * t552))))))))))))) = some r := h
  clear h
  replace H := Option.bind_eq_some_iff.mp H
  obtain ⟨t552, A20, H⟩ := H
  replace H : ((solsticeref01_Number.f k 10000 1 1).bind fun t553 => (if (IntKind.u64.wrap (wrap64 ((wrap64 (86400 * t553)) - (wrap64 (86400 * t552))))) = 0 then (none) else (some (wrap64 ((wrap64 (86400 * t552)) + (wrap64 (Int.tmod (IntKind.u64.wrap (a0)) (IntKind.u64.wrap (wrap64 ((wrap64 (86400 * t553)) - (wrap64 (86400 * t552)))))))))))) = some r := H
  have A2 := Aside0.mk A20
  clear A20
  replace H := Option.bind_eq_some_iff.mp H
  obtain ⟨t553, A30, H⟩ := H
  replace H : (if (IntKind.u64.wrap (wrap64 ((wrap64 (86400 * t553)) - (wrap64 (86400 * t552))))) = 0 then (none) else (some (wrap64 ((wrap64 (86400 * t552)) + (wrap64 (Int.tmod (IntKind.u64.wrap (a0)) (IntKind.u64.wrap (wrap64 ((wrap64 (86400 * t553)) - (wrap64 (86400 * t552))))))))))) = some r := H
  have A3 := Aside0.mk A30
  clear A30
  by_cases c4 : (IntKind.u64.wrap (wrap64 ((wrap64 (86400 * t553)) - (wrap64 (86400 * t552))))) = 0
  · rw [if_pos c4] at H
    exact absurd H (by simp)
  · rw [if_neg c4] at H
    have c4b0 : ((IntKind.u64.wrap (wrap64 ((wrap64 (86400 * t553)) - (wrap64 (86400 * t552))))) == 0) = false := beq_eq_false_iff_ne.mpr c4
    have c4b1 : ((IntKind.u64.wrap (wrap64 ((wrap64 (86400 * t553)) - (wrap64 (86400 * t552))))) != 0) = true := bne_iff_ne.mpr c4
    obtain rfl := Option.some.inj H
    go_enter Try.func21, Try.ntmps21
    go_wp2_with (first | ((with_reducible refine gate_callee (f := 45) rfl ?_); refine goesL_ (some 6) rfl rfl Try.func45 (by kernel_rfl) rfl #[.agg #[.int .i64 1, .int .i64 1, .int .i64 1]] rfl (by (try simp only [List.map_toArray, List.map_cons, List.map_nil]); first | done | rfl | (simp only [List.length_drop, List.length_take]; rfl)) ?_; (with_reducible refine (solsticeref01_Number.calls k 1 1 1 t552 _ A2.out).mono ?_); rintro e w5 ⟨rfl, hb⟩; refine ⟨_, rfl, ?_⟩; have n0_ := Aside0.mk (below_step (by repeat (first | (with_reducible first | exact HB.out | apply below_alloc | apply pw_below_drewN | apply below_drew1) | exact HB.out)) hb); clear HB; have HB := n0_; clear n0_; (try clear hb); (try clear hb2); (try clear hk); (try clear hi)) | ((with_reducible refine gate_callee (f := 45) rfl ?_); refine goesL_ (some 9) rfl rfl Try.func45 (by kernel_rfl) rfl #[.agg #[.int .i64 10000, .int .i64 1, .int .i64 1]] rfl (by (try simp only [List.map_toArray, List.map_cons, List.map_nil]); first | done | rfl | (simp only [List.length_drop, List.length_take]; rfl)) ?_; (with_reducible refine (solsticeref01_Number.calls k 10000 1 1 t553 _ A3.out).mono ?_); rintro e w6 ⟨rfl, hb⟩; refine ⟨_, rfl, ?_⟩; have n0_ := Aside0.mk (below_step (by repeat (first | (with_reducible first | exact HB.out | apply below_alloc | apply pw_below_drewN | apply below_drew1) | exact HB.out)) hb); clear HB; have HB := n0_; clear n0_; (try clear hb); (try clear hb2); (try clear hk); (try clear hi)))
    go_ret
    exact ⟨by first | rfl | (simp [errW_none, errW_some] <;> rfl) | (simp [*, errW_none, errW_some] <;> rfl), by repeat (first | (with_reducible first | exact HB.out | apply below_alloc | apply pw_below_drewN | apply below_drew1) | exact HB.out)⟩

end Go.Proofs.Ytmhpmkbifhgnbaa.O

namespace Go.Proofs.Ytmhpmkbifhgnbaa.Pure
open Go.RowKit Go.Proofs.Ytmhpmkbifhgnbaa.O Go.Proofs.YtmhpmkbifhgnbaaW.PrintWords Go.Proofs.YtmhpmkbifhgnbaaW.PrintLast
open Go.Proofs.Ytmhpmkbifhgnbaa.Civ
set_option linter.unusedVariables false
set_option linter.unusedSimpArgs false
theorem rnum_l (y m d b : Int) (hy : 0 ≤ y) (hy' : y ≤ 20000) (hb : -1000000000 ≤ b) (hb' : b ≤ 1000000000) (hm : m ≤ 13) (hd : 0 ≤ d) (hd' : d ≤ 1000000) : ∀ (n : Nat) (j : Int), 1 ≤ j → j + n = m → Ev (fun k => solsticeref01_Number.l0 k y (b + cum y j) j y m d) (b + cum y m + d - 1 - 719528) := by
  intro n
  induction n with
  | zero =>
    intro j h1 h2
    obtain rfl : j = m := by omega
    have hc := cum_bd y j h1 (by omega)
    have hp := lpi_01 y
    refine evstep ?_
    simp only [solsticeref01_Number.l0, Int.lt_irrefl, if_false]
    refine evs ?_
    rw [w64 (x := b + cum y j + d) (by omega) (by omega), w64 (x := b + cum y j + d - 1) (by omega) (by omega), w64 (by omega) (by omega)]
  | succ n ih =>
    intro j h1 h2
    refine evstep ?_
    simp only [solsticeref01_Number.l0, if_pos (show j < m by omega)]
    refine evb (rlen j (by omega) (by omega)) ?_
    have hc := cum_bd y j h1 (by omega)
    have hl := ln_bd y j h1 (by omega)
    have hp := lpi_01 y
    rw [w64 (x := b + cum y j + ln y j) (by omega) (by omega), w64 (x := j + 1) (by omega) (by omega), show b + cum y j + ln y j = b + cum y (j + 1) by rw [cum_succ y j h1 (by omega)]; omega]
    exact ih (j + 1) (by omega) (by omega)
theorem rnum' {y m d : Int} (hy : 0 ≤ y) (hy' : y ≤ 20000) (hm : 1 ≤ m) (hm' : m ≤ 13) (hd : 0 ≤ d) (hd' : d ≤ 1000000) : Ev (fun k => solsticeref01_Number.f k y m d) (num y m d) := by
  have ha : 365 * y + (y + 3) / 4 - (y + 99) / 100 + (y + 399) / 400 = ah y := by unfold ah; omega
  unfold solsticeref01_Number.f
  rw [w64 (x := y + 3) (by omega) (by omega), w64 (x := y + 99) (by omega) (by omega), w64 (x := y + 399) (by omega) (by omega), tdiv_nn 4 (by omega), tdiv_nn 100 (by omega), tdiv_nn 400 (by omega)]
  rw [w64 (x := 365 * y) (by omega) (by omega), w64 (x := (y + 3) / 4) (by omega) (by omega), w64 (x := (y + 99) / 100) (by omega) (by omega), w64 (x := (y + 399) / 400) (by omega) (by omega)]
  rw [w64 (x := 365 * y + (y + 3) / 4) (by omega) (by omega), w64 (x := 365 * y + (y + 3) / 4 - (y + 99) / 100) (by omega) (by omega), w64 (x := 365 * y + (y + 3) / 4 - (y + 99) / 100 + (y + 399) / 400) (by omega) (by omega), ha]
  have h1 := ah_le hy
  rw [ah_0] at h1
  have := rnum_l y m d (ah y) hy hy' (by omega) (by omega) hm' hd hd' (m - 1).toNat 1 (by omega) (by omega)
  rw [cum_1, Int.add_zero] at this
  rwa [show num y m d = ah y + cum y m + d - 1 - 719528 by unfold num; omega]
theorem rnum {y m d : Int} (h : Rt y m d) : Ev (fun k => solsticeref01_Number.f k y m d) (num y m d) := by
  obtain ⟨h1, h2, h3, h4, h5, h6⟩ := h
  have := ln_bd y m h3 h4
  exact rnum' h1 (by omega) h3 (by omega) (by omega) (by omega)
theorem rdate_l1 (y m d : Int) (h : Rt y m d) : ∀ (n : Nat) (j : Int), 1 ≤ j → j + n = m → Ev (fun k => solsticeref01_Date.l1 k y (cum y m + d - 1 - cum y j) y j 1) (y, m, d) := by
  obtain ⟨h1, h2, h3, h4, h5, h6⟩ := h
  have hl := ln_bd y m h3 h4
  have hp := lpi_01 y
  have hm := cum_bd y m h3 (by omega)
  intro n
  induction n with
  | zero =>
    intro j g1 g2
    obtain rfl : j = m := by omega
    refine evstep ?_
    simp only [solsticeref01_Date.l1]
    refine evif (fun hc => ?_) (fun hc => ?_)
    · refine evb (rlen j (by omega) (by omega)) ?_
      simp only [if_neg (show ¬ cum y j + d - 1 - cum y j ≥ ln y j by omega)]
      refine evstep ?_
      simp only [solsticeref01_Date.l1, if_neg (show ¬ (0 : Int) > 0 by omega)]
      refine evs ?_
      rw [w64 (by omega) (by omega), show cum y j + d - 1 - cum y j + 1 = d by omega]
    · refine evs ?_
      rw [show d = 1 by omega]
  | succ n ih =>
    intro j g1 g2
    have hn := cum_next y g1 (show j < m by omega) (by omega)
    have hj := cum_bd y j g1 (by omega)
    have hs := cum_succ y j g1 (by omega)
    have hlj := ln_bd y j g1 (by omega)
    refine evstep ?_
    simp only [solsticeref01_Date.l1, if_pos (show cum y m + d - 1 - cum y j > 0 by omega)]
    refine evb (rlen j (by omega) (by omega)) ?_
    simp only [if_pos (show cum y m + d - 1 - cum y j ≥ ln y j by omega)]
    rw [w64 (by omega) (by omega), w64 (by omega) (by omega), show cum y m + d - 1 - cum y j - ln y j = cum y m + d - 1 - cum y (j + 1) by omega]
    exact ih (j + 1) (by omega) (by omega)
theorem rdate_l0 (y m d : Int) (h : Rt y m d) : ∀ (n : Nat) (j : Int), 0 ≤ j → j + n = y → Ev (fun k => solsticeref01_Date.l0 k (num y m d) j) (y, m, d) := by
  have hbn := num_bd h
  have hn := num_in h
  obtain ⟨h1, h2, h3, h4, h5, h6⟩ := id h
  have hb := ah_bd h1 (by omega)
  have hl := ln_bd y m h3 h4
  have hp := lpi_01 y
  have hm := cum_bd y m h3 (by omega)
  have e1 : ∀ z : Int, num z 1 1 = ah z - 719528 := by intro z; have := cum_1 z; unfold num; omega
  have last : Ev (fun k => solsticeref01_Date.j1 k (num y m d) y) (y, m, d) := by
    refine evstep ?_
    simp only [solsticeref01_Date.j1]
    refine evb (rnum' (y := y) (m := 1) (d := 1) h1 (by omega) (by omega) (by omega) (by omega) (by omega)) ?_
    rw [e1, w64 (by omega) (by omega)]
    have := rdate_l1 y m d h (m - 1).toNat 1 (by omega) (by omega)
    rwa [cum_1, show cum y m + d - 1 - 0 = num y m d - (ah y - 719528) by unfold num; omega] at this
  intro n
  induction n with
  | zero =>
    intro j g1 g2
    obtain rfl : j = y := by omega
    refine evstep ?_
    simp only [solsticeref01_Date.l0]
    refine evif (fun hc => ?_) (fun hc => last)
    rw [w64 (x := j + 1) (by omega) (by omega)]
    refine evb (rnum' (y := j + 1) (m := 1) (d := 1) (by omega) (by omega) (by omega) (by omega) (by omega) (by omega)) ?_
    simp only [e1, if_neg (show ¬ ah (j + 1) - 719528 ≤ num j m d by omega)]
    exact last
  | succ n ih =>
    intro j g1 g2
    have hle := ah_le (a := j + 1) (b := y) (by omega)
    refine evstep ?_
    simp only [solsticeref01_Date.l0, if_pos (show j < 10000 by omega)]
    rw [w64 (x := j + 1) (by omega) (by omega)]
    refine evb (rnum' (y := j + 1) (m := 1) (d := 1) (by omega) (by omega) (by omega) (by omega) (by omega) (by omega)) ?_
    simp only [e1, if_pos (show ah (j + 1) - 719528 ≤ num y m d by omega)]
    exact ih (j + 1) (by omega) (by omega)
theorem rdate {y m d : Int} (h : Rt y m d) : Ev (fun k => solsticeref01_Date.f k (num y m d)) (y, m, d) := by
  have hb := num_bd h
  have hn := num_in h
  have hu := ah_le (a := 0) (b := y + 1) (by have := h.1; omega)
  rw [ah_0] at hu
  unfold solsticeref01_Date.f
  rw [w64 (x := num y m d + 719528) (by omega) (by omega), tdiv_nn 366 (by omega), w64 (by omega) (by omega)]
  exact rdate_l0 y m d h (y - (num y m d + 719528) / 366).toNat _ (by omega) (by omega)
theorem rdate_dt {n : Int} (h : -719528 ≤ n) (h' : n ≤ 2933262) : Ev (fun k => solsticeref01_Date.f k n) (dt n) := by
  have s := dt_spec h h'
  have := rdate s.1
  rwa [s.2] at this
theorem rleast : Ev (fun k => solsticeref01_Least.f k) (-719528) := by
  have := rnum (y := 0) (m := 1) (d := 1) (by decide +kernel)
  rw [show num 0 1 1 = -719528 by decide +kernel] at this
  unfold solsticeref01_Least.f
  exact evb this (Ev.now _)
theorem rmost : Ev (fun k => solsticeref01_Most.f k) 2933262 := by
  have := rnum (y := 10000) (m := 12) (d := 31) (by decide +kernel)
  rw [show num 10000 12 31 = 2933262 by decide +kernel] at this
  unfold solsticeref01_Most.f
  exact evb this (Ev.now _)
theorem um (a : Int) {n : Int} (hn : 0 < n) (hn' : n ≤ 1000000) : ∃ r, 0 ≤ r ∧ r < n ∧ wrap64 (Int.tmod (IntKind.u64.wrap a) n) = r := by
  have h1 := Int.emod_nonneg (IntKind.u64.wrap a) (show n ≠ 0 by omega)
  have h2 := Int.emod_lt_of_pos (IntKind.u64.wrap a) hn
  refine ⟨IntKind.u64.wrap a % n, h1, h2, ?_⟩
  rw [tmod_nn n (by rw [u64w]; omega), w64 (by omega) (by omega)]
theorem um1 (a : Int) {n : Int} (hn : 0 < n) (hn' : n ≤ 1000000) : ∃ r, 1 ≤ r ∧ r ≤ n ∧ wrap64 (1 + wrap64 (Int.tmod (IntKind.u64.wrap a) n)) = r := by
  obtain ⟨r, h1, h2, e⟩ := um a hn hn'
  refine ⟨1 + r, by omega, by omega, ?_⟩
  rw [e, w64 (by omega) (by omega)]
theorem some20 (a : Int) : ∃ t, InT t ∧ Ev (fun k => solsticelaw20_Some.f k a) t := by
  refine ⟨-62135596800 + IntKind.u64.wrap a % 315537897600, by rw [u64w]; unfold InT; omega, ?_⟩
  unfold solsticelaw20_Some.f
  refine evb (rnum (rt_first (by omega) (by omega))) (evb (rnum (rt_first (by omega) (by omega))) ?_)
  rw [num_least, num_most, w64 (x := 86400 * -719162) (by omega) (by omega), w64 (x := 86400 * 2932897) (by omega) (by omega), w64 (x := 86400 * 2932897 - 86400 * -719162) (by omega) (by omega)]
  have e : IntKind.u64.wrap (86400 * 2932897 - 86400 * -719162) = 315537897600 := by rw [u64w]; rfl
  rw [e]
  refine evn (by omega) (evs ?_)
  rw [tmod_nn _ (by rw [u64w]; omega), w64 (x := IntKind.u64.wrap a % 315537897600) (by rw [u64w]; omega) (by rw [u64w]; omega), w64 (by rw [u64w]; omega) (by rw [u64w]; omega)]
  rfl
noncomputable def yearsV (a : Int) : Int × Int × Int × Bool := if -719528 ≤ a / 86400 ∧ a / 86400 ≤ 2933262 then ((dt (a / 86400)).1, (dt (a / 86400)).2.1, (dt (a / 86400)).2.2, decide (1 ≤ (dt (a / 86400)).1 ∧ (dt (a / 86400)).1 ≤ 9999)) else (0, 0, 0, false)
theorem rin16 (a b c : Int) : solsticeref16_in.f a b c = some (decide (b ≤ a ∧ a ≤ c)) := by
  unfold solsticeref16_in.f
  by_cases h1 : b ≤ a <;> by_cases h2 : a ≤ c <;> simp [h1, h2]
theorem rin21 (a b c : Int) : solsticeref21_in.f a b c = some (decide (b ≤ a ∧ a ≤ c)) := by
  unfold solsticeref21_in.f
  by_cases h1 : b ≤ a <;> by_cases h2 : a ≤ c <;> simp [h1, h2]
theorem ryears {a : Int} (h : -9223372036854775808 ≤ a) (h' : a < 9223372036854775808) : Ev (fun k => solsticeref16_Years.f k a) (yearsV a) := by
  unfold solsticeref16_Years.f yearsV
  simp only [rdiv (a := a) (b := 86400) (by omega) (by omega) h h', Option.bind_some]
  refine evb rleast (evb rmost ?_)
  simp only [rin16, Option.bind_some]
  by_cases c : -719528 ≤ a / 86400 ∧ a / 86400 ≤ 2933262
  · rw [if_pos c]
    refine evp (decide_eq_true c) ?_
    refine evb (rdate_dt c.1 c.2) ?_
    exact evs rfl
  · rw [if_neg c]
    refine evn (by rw [decide_eq_false c]; decide) ?_
    exact evs rfl
theorem years_in {t : Int} (ht : InT t) : yearsV t = ((dt (t / 86400)).1, (dt (t / 86400)).2.1, (dt (t / 86400)).2.2, true) := by
  have y := dt_year ht
  unfold yearsV
  rw [if_pos ⟨by omega, by omega⟩, decide_eq_true ⟨y.1, y.2.1⟩]
theorem years_ok {t : Int} (h : (yearsV t).2.2.2 = true) : InT t := by
  unfold yearsV at h
  split at h
  · rename_i c
    have h2 : 1 ≤ (dt (t / 86400)).1 ∧ (dt (t / 86400)).1 ≤ 9999 := by simpa using h
    have := (yr_range c.1 c.2).1 h2
    unfold InT
    omega
  · cases h
/-- May a number stand in a list? -/
def okN (x lo hi : Int) (both : Bool) : Prop := (lo ≤ x ∧ x ≤ hi) ∨ (both = true ∧ -hi ≤ x ∧ x ≤ -lo)
theorem rlist1 (l : List Int) (lo hi : Int) (both : Bool) (hl : l.length ≤ 1000000) (i : Nat) (hi' : i < l.length) (P : Prop)
    (ih : ∃ b, Ev (fun k => solsticeref21_list.l0 k l lo hi both ((i + 1 : Nat) : Int)) b ∧ (b = true → P)) :
    ∀ (m j : Nat), j + m = i → ∃ b, Ev (fun k => solsticeref21_list.l1 k l lo hi both (i : Int) (j : Int)) b ∧ (b = true → (∀ j', j ≤ j' → (h : j' < i) → l[j'] ≠ l[i]) ∧ P) := by
  intro m
  induction m with
  | zero =>
    intro j hj
    obtain ⟨b, hb, hp⟩ := ih
    refine ⟨b, evstep ?_, fun e => ⟨fun j' h1 h2 => by omega, hp e⟩⟩
    simp only [solsticeref21_list.l1]
    refine evn (by omega) ?_
    rw [w64 (by omega) (by omega)]
    exact hb
  | succ m ihm =>
    intro j hj
    obtain ⟨b, hb, hp⟩ := ihm (j + 1) (by omega)
    have r1 : rd l (j : Int) = l[j]'(by omega) := by unfold rd; simp [List.getD, show j < l.length by omega]
    have r2 : rd l (i : Int) = l[i] := by unfold rd; simp [List.getD, hi']
    by_cases c : l[j]'(by omega) = l[i]
    · refine ⟨false, evstep ?_, fun e => by cases e⟩
      simp only [solsticeref21_list.l1]
      refine evp (by omega) (evp (by omega) (evp (by omega) (evp (by omega) (evp (by omega) ?_))))
      exact evp (by rw [r1, r2]; exact c) (evs rfl)
    · refine ⟨b, evstep ?_, fun e => ⟨fun j' h1 h2 => ?_, (hp e).2⟩⟩
      · simp only [solsticeref21_list.l1]
        refine evp (by omega) (evp (by omega) (evp (by omega) (evp (by omega) (evp (by omega) ?_))))
        refine evn (by rw [r1, r2]; exact c) ?_
        rw [w64 (by omega) (by omega)]
        exact hb
      · by_cases e2 : j' = j
        · subst e2; exact c
        · exact (hp e).1 j' (by omega) h2
theorem rlist0 (l : List Int) (lo hi : Int) (both : Bool) (hl : l.length ≤ 1000000) (h1 : -1000 ≤ lo) (h2 : lo ≤ 1000) (h3 : -1000 ≤ hi) (h4 : hi ≤ 1000) :
    ∀ (n i : Nat), i + n = l.length → ∃ b, Ev (fun k => solsticeref21_list.l0 k l lo hi both (i : Int)) b ∧ (b = true → ∀ i', i ≤ i' → (h : i' < l.length) → okN l[i'] lo hi both ∧ ∀ j', (hj : j' < i') → l[j'] ≠ l[i']) := by
  intro n
  induction n with
  | zero =>
    intro i hi'
    refine ⟨true, evstep ?_, fun _ i' ha hb => by omega⟩
    simp only [solsticeref21_list.l0]
    exact evn (by omega) (evs rfl)
  | succ n ih =>
    intro i hi'
    have hlt : i < l.length := by omega
    have r2 : rd l (i : Int) = l[i] := by unfold rd; simp [List.getD, hlt]
    obtain ⟨b, hb, hp⟩ := rlist1 l lo hi both hl i hlt _ (ih (i + 1) (by omega)) i 0 (by omega)
    have bad : ∀ c : Bool, c = true → Ev (fun k => solsticeref21_list.j1 k l lo hi both (i : Int) c) false := fun c hc => evstep (by subst hc; simp only [solsticeref21_list.j1, if_true]; exact evs rfl)
    have good : ∀ c : Bool, c = false → Ev (fun k => solsticeref21_list.j1 k l lo hi both (i : Int) c) b := fun c hc => evstep (by subst hc; simp only [solsticeref21_list.j1, Bool.false_eq_true, if_false]; exact hb)
    by_cases c : okN l[i] lo hi both
    · refine ⟨b, evstep ?_, fun e i' ha hb2 => ?_⟩
      · simp only [solsticeref21_list.l0, rin21, Option.bind_some]
        refine evp (by omega) (evp (by omega) ?_)
        rw [r2, w64 (x := -hi) (by omega) (by omega), w64 (x := -lo) (by omega) (by omega)]
        refine evif (fun _ => good false rfl) (fun q => ?_)
        rcases c with c | c
        · exact absurd (decide_eq_true c) q
        · refine evp c.1 (good _ ?_)
          rw [decide_eq_true c.2]; rfl
      · by_cases e2 : i' = i
        · subst e2
          exact ⟨c, fun j' hj => (hp e).1 j' (by omega) hj⟩
        · exact (hp e).2 i' (by omega) hb2
    · refine ⟨false, evstep ?_, fun e => by cases e⟩
      simp only [solsticeref21_list.l0, rin21, Option.bind_some]
      refine evp (by omega) (evp (by omega) ?_)
      rw [r2, w64 (x := -hi) (by omega) (by omega), w64 (x := -lo) (by omega) (by omega)]
      refine evn (fun q => c (Or.inl (by simpa using q))) ?_
      refine evif (fun q => bad _ ?_) (fun q => bad _ rfl)
      rw [decide_eq_false (fun q2 => c (Or.inr ⟨q, q2⟩))]; rfl
theorem rlist (l : List Int) (lo hi : Int) (both : Bool) (hl : l.length ≤ 1000000) (h1 : -1000 ≤ lo) (h2 : lo ≤ 1000) (h3 : -1000 ≤ hi) (h4 : hi ≤ 1000) :
    ∃ b, Ev (fun k => solsticeref21_list.f k l lo hi both) b ∧ (b = true → okList l lo hi both = true) := by
  obtain ⟨b, hb, hp⟩ := rlist0 l lo hi both hl h1 h2 h3 h4 l.length 0 (by omega)
  refine ⟨b, hb, fun e => ?_⟩
  have h := hp e
  simp only [okList, rightB, Bool.and_eq_true, Bool.not_eq_true', decide_eq_true_eq]
  refine ⟨⟨?_, ?_⟩, by omega⟩
  · rw [List.any_eq_false]
    intro x hx
    obtain ⟨i, hi', rfl⟩ := List.getElem_of_mem hx
    have c := (h i (by omega) hi').1
    generalize l[i] = x at c
    unfold wrongB
    rcases c with c | c
    · have a1 : ¬ x < lo := by omega
      have a2 : ¬ hi < x := by omega
      simp [a1, a2]
    · have a1 : ¬ -lo < x := by omega
      have a2 : ¬ x < -hi := by omega
      simp [c.1, a1, a2]
  · unfold dupI
    rw [decide_eq_false_iff_not, Decidable.not_not]
    rw [List.nodup_iff_pairwise_ne, List.pairwise_iff_getElem]
    intro i j hi' hj hij
    exact (h j (by omega) hj).2 i hij
theorem refBy_ok {fr : Int} {nw : Nat} {x : S47} (hf : fr ≤ 7) (h : refBy fr nw x) : okBy ((decide (fr = 6) || decide (fr = 7)) && decide ((nw : Int) = 0)) x = true := by
  obtain ⟨⟨a, b⟩, ⟨c, d⟩, e⟩ := h
  simp only [okBy, Bool.and_eq_true, Bool.or_eq_true, decide_eq_true_eq]
  refine ⟨⟨⟨⟨a, b⟩, c⟩, d⟩, ?_⟩
  by_cases h0 : x.f0 = 0
  · exact Or.inl h0
  · right
    have h1 : ¬ fr < 6 := fun q => e ⟨h0, Or.inl q⟩
    have h2 : ¬ 0 < nw := fun q => e ⟨h0, Or.inr q⟩
    omega
theorem pw_dis47 : ∀ {l : List S47}, (l.Pairwise fun y x => eq47 y x = false) → dis47 l = true
  | [], _ => rfl
  | x :: xs, h => by
    cases h with
    | cons h1 h2 =>
      simp only [dis47, Bool.and_eq_true, List.all_eq_true, Bool.not_eq_true']
      exact ⟨h1, pw_dis47 h2⟩
theorem rrecur (r : RR) (hua : -9223372036854775808 ≤ r.ua) (hua' : r.ua < 9223372036854775808) : ∃ b, Ev (fun k => solsticeref21_Recur.f k r.fr r.iv r.ct r.un r.ua r.utc r.sec r.mi r.ho r.dy r.md r.yd r.wn r.mo r.sp r.wk) b ∧ (b = true → Right r) := by
  unfold solsticeref21_Recur.f
  by_cases hbig : 60 < r.sec.length ∨ 60 < r.mi.length ∨ 24 < r.ho.length ∨ 12 < r.mo.length ∨ 62 < r.md.length ∨ 732 < r.yd.length ∨ 106 < r.wn.length ∨ 732 < r.sp.length ∨ 749 < r.dy.length
  · exact ⟨false, evp hbig (evs rfl), fun e => by cases e⟩
  by_cases hhead : ¬ (1 ≤ r.fr ∧ r.fr ≤ 7) ∨ ¬ (1 ≤ r.iv ∧ r.iv ≤ 1000) ∨ ¬ (0 ≤ r.ct ∧ r.ct ≤ 100000) ∨ (0 < r.ct ∧ r.un = true) ∨ (r.utc = true ∧ r.un = false) ∨ (r.un = false ∧ ¬ r.ua = 0) ∨ ¬ (0 ≤ r.wk ∧ r.wk ≤ 6)
  · exact ⟨false, evn hbig (evp hhead (evs rfl)), fun e => by cases e⟩
  have hy := ryears hua hua'
  by_cases hyy : r.un = true ∧ (yearsV r.ua).2.2.2 = false
  · exact ⟨false, evn hbig (evn hhead (evb hy (evp hyy (evs rfl)))), fun e => by cases e⟩
  obtain ⟨b6, e6, p6⟩ := rlist r.sec 0 59 false (by omega) (by omega) (by omega) (by omega) (by omega)
  obtain ⟨b7, e7, p7⟩ := rlist r.mi 0 59 false (by omega) (by omega) (by omega) (by omega) (by omega)
  obtain ⟨b8, e8, p8⟩ := rlist r.ho 0 23 false (by omega) (by omega) (by omega) (by omega) (by omega)
  obtain ⟨b13, e13, p13⟩ := rlist r.mo 1 12 false (by omega) (by omega) (by omega) (by omega) (by omega)
  obtain ⟨b10, e10, p10⟩ := rlist r.md 1 31 true (by omega) (by omega) (by omega) (by omega) (by omega)
  obtain ⟨b11, e11, p11⟩ := rlist r.yd 1 366 true (by omega) (by omega) (by omega) (by omega) (by omega)
  obtain ⟨b12, e12, p12⟩ := rlist r.wn 1 53 true (by omega) (by omega) (by omega) (by omega) (by omega)
  obtain ⟨b14, e14, p14⟩ := rlist r.sp 1 366 true (by omega) (by omega) (by omega) (by omega) (by omega)
  suffices hs : ∃ b, Ev (fun k : Nat => if b6 = false ∨ b7 = false ∨ b8 = false ∨ b13 = false ∨ b10 = false ∨ b11 = false ∨ b12 = false ∨ b14 = false then some false else if ¬ DaysP r.fr r.wn.length r.dy then some false else if (0 < r.md.length ∧ r.fr = 5) ∨ (0 < r.yd.length ∧ (4 ≤ r.fr ∧ r.fr ≤ 6)) ∨ (0 < r.wn.length ∧ ¬ r.fr = 7) then some false else some (decide (r.sp.length = 0) || decide (0 < r.sec.length + r.mi.length + r.ho.length + r.dy.length + r.md.length + r.yd.length + r.wn.length + r.mo.length))) b ∧ (b = true → Right r) by
    obtain ⟨b, h, k⟩ := hs
    refine ⟨b, evn hbig (evn hhead (evb hy ?_)), k⟩
    refine evn hyy ?_
    exact evb e6 (evb e7 (evb e8 (evb e13 (evb e10 (evb e11 (evb e12 (evb e14 h)))))))
  by_cases hbad : b6 = false ∨ b7 = false ∨ b8 = false ∨ b13 = false ∨ b10 = false ∨ b11 = false ∨ b12 = false ∨ b14 = false
  · exact ⟨false, evp hbad (evs rfl), fun e => by cases e⟩
  by_cases hdays : DaysP r.fr r.wn.length r.dy
  case neg => exact ⟨false, evn hbad (evp hdays (evs rfl)), fun e => by cases e⟩
  by_cases htail : (0 < r.md.length ∧ r.fr = 5) ∨ (0 < r.yd.length ∧ (4 ≤ r.fr ∧ r.fr ≤ 6)) ∨ (0 < r.wn.length ∧ ¬ r.fr = 7)
  · exact ⟨false, evn hbad (evn (fun q => q hdays) (evp htail (evs rfl))), fun e => by cases e⟩
  refine ⟨_, evn hbad (evn (fun q => q hdays) (evn htail (evs rfl))), fun e => ?_⟩
  simp only [not_or, Bool.not_eq_false] at hbad
  obtain ⟨q6, q7, q8, q13, q10, q11, q12, q14⟩ := hbad
  have hf : 1 ≤ r.fr ∧ r.fr ≤ 7 := by omega
  refine ⟨?_, by omega, by omega, ?_⟩
  · simp only [okRecur, Bool.and_eq_true, decide_eq_true_eq]
    refine ⟨⟨⟨⟨⟨⟨hf.1, hf.2⟩, by omega, by omega⟩, by omega, by omega⟩, ⟨⟨⟨⟨⟨⟨p6 q6, p7 q7⟩, p8 q8⟩, p10 q10⟩, p11 q11⟩, p12 q12⟩, p13 q13⟩, p14 q14⟩, ⟨List.all_eq_true.2 fun x hx => refBy_ok hf.2 (hdays.1 x hx), pw_dis47 hdays.2⟩, by omega⟩, ?_⟩
    simp only [okBeside, Bool.and_eq_true, Bool.not_eq_true', Bool.and_eq_false_iff, Bool.or_eq_false_iff, Bool.or_eq_true, decide_eq_true_eq, decide_eq_false_iff_not] at e ⊢
    simp only [Bool.not_eq_false', decide_eq_true_eq]
    omega
  · cases hu : r.un with
    | false =>
      left
      refine ⟨rfl, ?_, ?_⟩
      · by_cases q : r.ua = 0
        · exact q
        · exact absurd (Or.inr (Or.inr (Or.inr (Or.inr (Or.inr (Or.inl ⟨hu, q⟩)))))) hhead
      · cases hc : r.utc with
        | false => rfl
        | true => exact absurd (Or.inr (Or.inr (Or.inr (Or.inr (Or.inl ⟨hc, hu⟩))))) hhead
    | true =>
      right
      refine ⟨rfl, ?_, ?_⟩
      · by_cases q : 0 < r.ct
        · exact absurd (Or.inr (Or.inr (Or.inr (Or.inl ⟨q, hu⟩)))) hhead
        · omega
      · refine years_ok ?_
        cases hq : (yearsV r.ua).2.2.2 with
        | true => rfl
        | false => exact absurd ⟨hu, hq⟩ hyy
end Go.Proofs.Ytmhpmkbifhgnbaa.Pure
