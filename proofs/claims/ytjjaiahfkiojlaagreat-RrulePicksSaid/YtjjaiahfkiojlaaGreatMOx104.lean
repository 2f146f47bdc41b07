-- What some functions of the program compute: a text of this claim's own (lines first written by the kit's tool, some proved anew).
/- What the reference's numbers of days and Some of the statements compute. No condition beyond those each lemma names. -/
import Derived.Test.YtjjaiahfkiojlaaGreatMOx0
import Derived.Test.YtjjaiahfkiojlaaGreatMOx8
import Derived.Test.YtjjaiahfkiojlaaGreatMG22W2
namespace Go.Proofs.YtjjaiahfkiojlaaGreat.O
open Go.RowKit Go.Proofs.YtjjaiahfkiojlaaGreatW.PrintWords Go.Proofs.YtjjaiahfkiojlaaGreatW.PrintLast Go.Proofs.YtjjaiahfkiojlaaGreatW.PrintMore
attribute [local go_sem] max2_int min2_int max_two min_two max_three min_three max_four min_four   -- for this text's walks alone
set_option linter.unusedVariables false
set_option linter.unusedSimpArgs false

/-! ### solsticelaw20_Some: function 14 -/
def solsticelaw20_Some.f (k : Nat) (a0 : Int) : Option (Int) := (solsticeref01_Number.f k 1 1 1).bind fun t164 => ((solsticeref01_Number.f k 10000 1 1).bind fun t165 => (if (IntKind.u64.wrap (wrap64 ((wrap64 (86400 * t165)) - (wrap64 (86400 * t164))))) = 0 then (none) else (some (wrap64 ((wrap64 (86400 * t164)) + (wrap64 (Int.tmod (IntKind.u64.wrap (a0)) (IntKind.u64.wrap (wrap64 ((wrap64 (86400 * t165)) - (wrap64 (86400 * t164))))))))))))
theorem solsticelaw20_Some.mono : ∀ a0 k, LeO (solsticelaw20_Some.f k a0) (solsticelaw20_Some.f (k + 1) a0) := by
  intro a0 k
  unfold solsticelaw20_Some.f
  repeat' first
      | (with_reducible exact solsticeref01_Number.mono _ _ _ _)
      | (with_reducible exact LeO.refl _)
      | (with_reducible exact LeO.none _)
      | (with_reducible refine LeO.ite ?_ ?_)
      | (with_reducible refine LeO.bind ?_ (fun _ => ?_))
      | exact solsticeref01_Number.mono _ _ _ _
      | exact LeO.none _
      | refine LeO.ite ?_ ?_
      | refine LeO.bind ?_ (fun _ => ?_)
set_option maxHeartbeats 8000000 in
set_option maxRecDepth 100000 in
theorem solsticelaw20_Some.calls (k : Nat) (a0 : Int) (r : Int) (w : World) (h : solsticelaw20_Some.f k a0 = some r) :
    Calls Tryz.prog 14 #[.int .i64 a0] w fun e w' => e = .returned (.int .i64 r) ∧ Below w.heap.size w w' := by
  have hu30 := Tryz.underlying30
  have HB := Aside0.mk (Below.refl w.heap.size w)
  have H : ((solsticeref01_Number.f k 1 1 1).bind fun t164 => ((solsticeref01_Number.f k 10000 1 1).bind fun t165 => (if (IntKind.u64.wrap (wrap64 ((wrap64 (86400 * t165)) - (wrap64 (86400 * t164))))) = 0 then (none) else (some (wrap64 ((wrap64 (86400 * t164)) + (wrap64 (Int.tmod (IntKind.u64.wrap (a0)) (IntKind.u64.wrap (wrap64 ((wrap64 (86400 * t165)) - (wrap64 (86400 * t164))))))))))))) = some r := h
  clear h
  replace H := Option.bind_eq_some_iff.mp H
  obtain ⟨t164, A20, H⟩ := H
  replace H : ((solsticeref01_Number.f k 10000 1 1).bind fun t165 => (if (IntKind.u64.wrap (wrap64 ((wrap64 (86400 * t165)) - (wrap64 (86400 * t164))))) = 0 then (none) else (some (wrap64 ((wrap64 (86400 * t164)) + (wrap64 (Int.tmod (IntKind.u64.wrap (a0)) (IntKind.u64.wrap (wrap64 ((wrap64 (86400 * t165)) - (wrap64 (86400 * t164)))))))))))) = some r := H
  have A2 := Aside0.mk A20
  clear A20
  replace H := Option.bind_eq_some_iff.mp H
  obtain ⟨t165, A30, H⟩ := H
  replace H : (if (IntKind.u64.wrap (wrap64 ((wrap64 (86400 * t165)) - (wrap64 (86400 * t164))))) = 0 then (none) else (some (wrap64 ((wrap64 (86400 * t164)) + (wrap64 (Int.tmod (IntKind.u64.wrap (a0)) (IntKind.u64.wrap (wrap64 ((wrap64 (86400 * t165)) - (wrap64 (86400 * t164))))))))))) = some r := H
  have A3 := Aside0.mk A30
  clear A30
  by_cases c4 : (IntKind.u64.wrap (wrap64 ((wrap64 (86400 * t165)) - (wrap64 (86400 * t164))))) = 0
  · rw [if_pos c4] at H
    exact absurd H (by simp)
  · rw [if_neg c4] at H
    have c4b0 : ((IntKind.u64.wrap (wrap64 ((wrap64 (86400 * t165)) - (wrap64 (86400 * t164))))) == 0) = false := beq_eq_false_iff_ne.mpr c4
    have c4b1 : ((IntKind.u64.wrap (wrap64 ((wrap64 (86400 * t165)) - (wrap64 (86400 * t164))))) != 0) = true := bne_iff_ne.mpr c4
    obtain rfl := Option.some.inj H
    go_enter Tryz.func14, Tryz.ntmps14
    go_wp2_with (first | ((with_reducible refine gate_callee (f := 32) rfl ?_); refine goesL_ (some 6) rfl rfl Tryz.func32 (by kernel_rfl) rfl #[.agg #[.int .i64 1, .int .i64 1, .int .i64 1]] rfl (by (try simp only [List.map_toArray, List.map_cons, List.map_nil]); first | done | rfl | (simp only [List.length_drop, List.length_take]; rfl)) ?_; (with_reducible refine (solsticeref01_Number.calls k 1 1 1 t164 _ A2.out).mono ?_); rintro e w5 ⟨rfl, hb⟩; refine ⟨_, rfl, ?_⟩; have n0_ := Aside0.mk (below_step (by repeat (first | (with_reducible first | exact HB.out | apply below_alloc | apply pw_below_drewN | apply below_drew1) | exact HB.out)) hb); clear HB; have HB := n0_; clear n0_; (try clear hb); (try clear hb2); (try clear hk); (try clear hi)) | ((with_reducible refine gate_callee (f := 32) rfl ?_); refine goesL_ (some 9) rfl rfl Tryz.func32 (by kernel_rfl) rfl #[.agg #[.int .i64 10000, .int .i64 1, .int .i64 1]] rfl (by (try simp only [List.map_toArray, List.map_cons, List.map_nil]); first | done | rfl | (simp only [List.length_drop, List.length_take]; rfl)) ?_; (with_reducible refine (solsticeref01_Number.calls k 10000 1 1 t165 _ A3.out).mono ?_); rintro e w6 ⟨rfl, hb⟩; refine ⟨_, rfl, ?_⟩; have n0_ := Aside0.mk (below_step (by repeat (first | (with_reducible first | exact HB.out | apply below_alloc | apply pw_below_drewN | apply below_drew1) | exact HB.out)) hb); clear HB; have HB := n0_; clear n0_; (try clear hb); (try clear hb2); (try clear hk); (try clear hi)))
    go_ret
    exact ⟨by first | rfl | (simp [errW_none, errW_some] <;> rfl) | (simp [*, errW_none, errW_some] <;> rfl), by repeat (first | (with_reducible first | exact HB.out | apply below_alloc | apply pw_below_drewN | apply below_drew1) | exact HB.out)⟩

end Go.Proofs.YtjjaiahfkiojlaaGreat.O

namespace Go.Proofs.YtjjaiahfkiojlaaGreat.Pure
open Go.RowKit Go.Proofs.YtjjaiahfkiojlaaGreat.O Go.Proofs.YtjjaiahfkiojlaaGreatW.PrintWords Go.Proofs.YtjjaiahfkiojlaaGreatW.PrintLast
open Go.Proofs.YtjjaiahfkiojlaaGreat.Civ
set_option linter.unusedVariables false
set_option linter.unusedSimpArgs false
theorem rnum_l (y m d b : Int) (hy : 0 ≤ y) (hy' : y ≤ 20000) (hb : -1000000000 ≤ b) (hb' : b ≤ 1000000000) (hm : m ≤ 13) (hd : 0 ≤ d) (hd' : d ≤ 1000000) : ∀ (n : Nat) (j : Int), 1 ≤ j → j + n = m → Ev (fun k => solsticeref01_Number.l0 k y (b + cum y j) j y m d) (b + cum y m + d - 1 - 719528) := by
  intro n
  induction n with
  | zero =>
    intro j h1 h2
    obtain rfl : j = m := by omega
    have hc := cum_bd y j h1 (by omega)
    have hp := lpi_01 y
    refine evstep ?_
    simp only [solsticeref01_Number.l0, Int.lt_irrefl, if_false]
    refine evs ?_
    rw [w64 (x := b + cum y j + d) (by omega) (by omega), w64 (x := b + cum y j + d - 1) (by omega) (by omega), w64 (by omega) (by omega)]
  | succ n ih =>
    intro j h1 h2
    refine evstep ?_
    simp only [solsticeref01_Number.l0, if_pos (show j < m by omega)]
    refine evb (rlen j (by omega) (by omega)) ?_
    have hc := cum_bd y j h1 (by omega)
    have hl := ln_bd y j h1 (by omega)
    have hp := lpi_01 y
    rw [w64 (x := b + cum y j + ln y j) (by omega) (by omega), w64 (x := j + 1) (by omega) (by omega), show b + cum y j + ln y j = b + cum y (j + 1) by rw [cum_succ y j h1 (by omega)]; omega]
    exact ih (j + 1) (by omega) (by omega)
theorem rnum' {y m d : Int} (hy : 0 ≤ y) (hy' : y ≤ 20000) (hm : 1 ≤ m) (hm' : m ≤ 13) (hd : 0 ≤ d) (hd' : d ≤ 1000000) : Ev (fun k => solsticeref01_Number.f k y m d) (num y m d) := by
  have ha : 365 * y + (y + 3) / 4 - (y + 99) / 100 + (y + 399) / 400 = ah y := by unfold ah; omega
  unfold solsticeref01_Number.f
  rw [w64 (x := y + 3) (by omega) (by omega), w64 (x := y + 99) (by omega) (by omega), w64 (x := y + 399) (by omega) (by omega), tdiv_nn 4 (by omega), tdiv_nn 100 (by omega), tdiv_nn 400 (by omega)]
  rw [w64 (x := 365 * y) (by omega) (by omega), w64 (x := (y + 3) / 4) (by omega) (by omega), w64 (x := (y + 99) / 100) (by omega) (by omega), w64 (x := (y + 399) / 400) (by omega) (by omega)]
  rw [w64 (x := 365 * y + (y + 3) / 4) (by omega) (by omega), w64 (x := 365 * y + (y + 3) / 4 - (y + 99) / 100) (by omega) (by omega), w64 (x := 365 * y + (y + 3) / 4 - (y + 99) / 100 + (y + 399) / 400) (by omega) (by omega), ha]
  have h1 := ah_le hy
  rw [ah_0] at h1
  have := rnum_l y m d (ah y) hy hy' (by omega) (by omega) hm' hd hd' (m - 1).toNat 1 (by omega) (by omega)
  rw [cum_1, Int.add_zero] at this
  rwa [show num y m d = ah y + cum y m + d - 1 - 719528 by unfold num; omega]
theorem rnum {y m d : Int} (h : Rt y m d) : Ev (fun k => solsticeref01_Number.f k y m d) (num y m d) := by
  obtain ⟨h1, h2, h3, h4, h5, h6⟩ := h
  have := ln_bd y m h3 h4
  exact rnum' h1 (by omega) h3 (by omega) (by omega) (by omega)
theorem um (a : Int) {n : Int} (hn : 0 < n) (hn' : n ≤ 1000000) : ∃ r, 0 ≤ r ∧ r < n ∧ wrap64 (Int.tmod (IntKind.u64.wrap a) n) = r := by
  have h1 := Int.emod_nonneg (IntKind.u64.wrap a) (show n ≠ 0 by omega)
  have h2 := Int.emod_lt_of_pos (IntKind.u64.wrap a) hn
  refine ⟨IntKind.u64.wrap a % n, h1, h2, ?_⟩
  rw [tmod_nn n (by rw [u64w]; omega), w64 (by omega) (by omega)]
theorem um1 (a : Int) {n : Int} (hn : 0 < n) (hn' : n ≤ 1000000) : ∃ r, 1 ≤ r ∧ r ≤ n ∧ wrap64 (1 + wrap64 (Int.tmod (IntKind.u64.wrap a) n)) = r := by
  obtain ⟨r, h1, h2, e⟩ := um a hn hn'
  refine ⟨1 + r, by omega, by omega, ?_⟩
  rw [e, w64 (by omega) (by omega)]
theorem some20 (a : Int) : ∃ t, InT t ∧ Ev (fun k => solsticelaw20_Some.f k a) t := by
  refine ⟨-62135596800 + IntKind.u64.wrap a % 315537897600, by rw [u64w]; unfold InT; omega, ?_⟩
  unfold solsticelaw20_Some.f
  refine evb (rnum (rt_first (by omega) (by omega))) (evb (rnum (rt_first (by omega) (by omega))) ?_)
  rw [num_least, num_most, w64 (x := 86400 * -719162) (by omega) (by omega), w64 (x := 86400 * 2932897) (by omega) (by omega), w64 (x := 86400 * 2932897 - 86400 * -719162) (by omega) (by omega)]
  have e : IntKind.u64.wrap (86400 * 2932897 - 86400 * -719162) = 315537897600 := by rw [u64w]; rfl
  rw [e]
  refine evn (by omega) (evs ?_)
  rw [tmod_nn _ (by rw [u64w]; omega), w64 (x := IntKind.u64.wrap a % 315537897600) (by rw [u64w]; omega) (by rw [u64w]; omega), w64 (by rw [u64w]; omega) (by rw [u64w]; omega)]
  rfl
end Go.Proofs.YtjjaiahfkiojlaaGreat.Pure

namespace Go.Proofs.YtjjaiahfkiojlaaGreat.O
open Go.RowKit Go.Proofs.YtjjaiahfkiojlaaGreatW.PrintWords Go.Proofs.YtjjaiahfkiojlaaGreatW.PrintLast Go.Proofs.YtjjaiahfkiojlaaGreatW.PrintMore
attribute [local go_sem] max2_int min2_int max_two min_two max_three min_three max_four min_four   -- for this text's walks alone
set_option linter.unusedVariables false
set_option linter.unusedSimpArgs false

/-! ### solsticekeep_Ints: function 26 -/
def solsticekeep_Ints.l0 : Nat → List Int → List Int → Int → Option (Bool)
  | 0, _, _, _ => none
  | k + 1, x0, x1, x5 => if x5 < (x0.length : Int) then (if 0 ≤ x5 then (if x5 < (x1.length : Int) then (if (rd x0 x5) = (rd x1 x5) then (solsticekeep_Ints.l0 k x0 x1 (wrap64 (x5 + 1))) else (some false)) else (none)) else (none)) else (some true)
def solsticekeep_Ints.f (k : Nat) (l0 : List Int) (l1 : List Int) : Option (Bool) := if (l0.length : Int) = (l1.length : Int) then (solsticekeep_Ints.l0 k l0 l1 0) else (some false)
theorem solsticekeep_Ints.mono_l : ∀ k, (∀ y0 y1 y2, LeO (solsticekeep_Ints.l0 k y0 y1 y2) (solsticekeep_Ints.l0 (k + 1) y0 y1 y2))
  | 0 => fun _ _ _ r h => by simp [solsticekeep_Ints.l0] at h
  | k + 1 => by
    have ih0 := solsticekeep_Ints.mono_l k
    · intro y0 y1 y2
      unfold solsticekeep_Ints.l0
      repeat' first
      | (with_reducible exact ih0 _ _ _)
      | (with_reducible exact LeO.refl _)
      | (with_reducible exact LeO.none _)
      | (with_reducible refine LeO.ite ?_ ?_)
      | (with_reducible refine LeO.bind ?_ (fun _ => ?_))
      | exact ih0 _ _ _
      | exact LeO.none _
      | refine LeO.ite ?_ ?_
      | refine LeO.bind ?_ (fun _ => ?_)
theorem solsticekeep_Ints.mono : ∀ a0 a1 k, LeO (solsticekeep_Ints.f k a0 a1) (solsticekeep_Ints.f (k + 1) a0 a1) := by
  intro a0 a1 k
  have ih0 := solsticekeep_Ints.mono_l k
  unfold solsticekeep_Ints.f
  repeat' first
      | (with_reducible exact ih0 _ _ _)
      | (with_reducible exact LeO.refl _)
      | (with_reducible exact LeO.none _)
      | (with_reducible refine LeO.ite ?_ ?_)
      | (with_reducible refine LeO.bind ?_ (fun _ => ?_))
      | exact ih0 _ _ _
      | exact LeO.none _
      | refine LeO.ite ?_ ?_
      | refine LeO.bind ?_ (fun _ => ?_)
set_option maxHeartbeats 8000000 in
set_option maxRecDepth 100000 in
theorem solsticekeep_Ints.calls (k : Nat) (A0 : Option Addr) (c0 : Nat) (l0 : List Int) (A1 : Option Addr) (c1 : Nat) (l1 : List Int) (r : Bool) (w : World) (hr0 : Kd.C (Kd.int .i64) w A0 l0.length l0) (hc0 : l0.length ≤ c0) (hr1 : Kd.C (Kd.int .i64) w A1 l1.length l1) (hc1 : l1.length ≤ c1) (h : solsticekeep_Ints.f k l0 l1 = some r) :
    Calls Tryz.prog 26 #[.slice A0 l0.length c0, .slice A1 l1.length c1] w fun e w' => e = .returned (.bool r) ∧ Drawn0 w w' := by
  have HR0 := Aside0.mk hr0
  have HC0 := Aside0.mk hc0
  clear hr0 hc0
  have HR1 := Aside0.mk hr1
  have HC1 := Aside0.mk hc1
  clear hr1 hc1
  have H : (if (l0.length : Int) = (l1.length : Int) then (solsticekeep_Ints.l0 k l0 l1 0) else (some false)) = some r := h
  clear h
  by_cases c3 : (l0.length : Int) = (l1.length : Int)
  · rw [if_pos c3] at H
    have c3b0 : ((l0.length : Int) == (l1.length : Int)) = true := beq_iff_eq.mpr c3
    have c3b1 : ((l0.length : Int) != (l1.length : Int)) = false := bne_eq_false_iff_eq.mpr c3
    have c3b2 : (l0.length == l1.length) = true := by first | simpa using c3 | (simp at c3 ⊢; omega)
    clear c3
    have H' := Aside0.mk H
    clear H
    go_enter Tryz.func26, Tryz.ntmps26
    go_wp2
    repeat (go_quiet (fail); try go_wp2)
    go_loopg [5] k (fun kq v5 w' => ∃ (x5_1 : Int), v5 = .int .i64 x5_1 ∧ Aside0 (solsticekeep_Ints.l0 kq l0 l1 x5_1 = some r) ∧ Aside0 (kq ≤ k) ∧ Drawn0 w w')
    case atStart => exact ⟨(0), (by first | rfl | (simp; done) | (simp [*]; done)), H', ⟨Nat.le_refl _⟩, by repeat (first | exact Drawn0.refl _ | apply Drawn0.step)⟩
    case round =>
      clear H'
      try clear c1
      try clear c2
      try clear p2
      try clear c3
      try clear c3b0
      try clear c3b1
      try clear c3b2
      obtain ⟨x5_1, rfl, HA, HK1, ⟨m1, rfl⟩⟩ := hrel
      cases gk with
      | zero => exact absurd HA.out (by simp [solsticekeep_Ints.l0])
      | succ k1 =>
        have H := HA.out
        clear HA
        simp only [solsticekeep_Ints.l0] at H
        by_cases c4 : x5_1 < (l0.length : Int)
        · rw [if_pos c4] at H
          have c4b0 : decide (x5_1 < (l0.length : Int)) = true := decide_eq_true c4
          clear c4
          by_cases c5 : 0 ≤ x5_1
          · rw [if_pos c5] at H
            have c5b0 : decide (0 ≤ x5_1) = true := decide_eq_true c5
            clear c5
            by_cases c6 : x5_1 < (l1.length : Int)
            · rw [if_pos c6] at H
              have c6b0 : decide (x5_1 < (l1.length : Int)) = true := decide_eq_true c6
              clear c6
              by_cases c7 : (rd l0 x5_1) = (rd l1 x5_1)
              · rw [if_pos c7] at H
                have c7b0 : ((rd l0 x5_1) == (rd l1 x5_1)) = true := beq_iff_eq.mpr c7
                have c7b1 : ((rd l0 x5_1) != (rd l1 x5_1)) = false := bne_eq_false_iff_eq.mpr c7
                clear c7
                have H' := Aside0.mk H
                clear H
                have p441 : 0 ≤ (x5_1 : Int) := of_decide_eq_true (by first | (with_reducible assumption) | assumption)
                have q441 : x5_1 < (l0.length : Int) := of_decide_eq_true (by first | (with_reducible assumption) | assumption)
                obtain ⟨ad441, e441, hx441_0⟩ := Kd.at_int HR0.out x5_1 p441 q441
                cases e441
                replace p441 := eq_true p441
                replace q441 := eq_true q441
                have p442 : 0 ≤ (x5_1 : Int) := of_decide_eq_true (by first | (with_reducible assumption) | assumption)
                have q442 : x5_1 < (l1.length : Int) := of_decide_eq_true (by first | (with_reducible assumption) | assumption)
                obtain ⟨ad442, e442, hx442_0⟩ := Kd.at_int HR1.out x5_1 p442 q442
                cases e442
                replace p442 := eq_true p442
                replace q442 := eq_true q442
                go_wp2
                repeat (go_quiet (fail); try go_wp2)
                go_roundg k1
                case measure => have := HK1.out; omega
                case rel => exact ⟨(wrap64 (x5_1 + 1)), (by first | rfl | (simp; done) | (simp [*]; done)), H', ⟨by have := HK1.out; omega⟩, by repeat (first | exact Drawn0.refl _ | apply Drawn0.step)⟩
              · rw [if_neg c7] at H
                have c7b0 : ((rd l0 x5_1) == (rd l1 x5_1)) = false := beq_eq_false_iff_ne.mpr c7
                have c7b1 : ((rd l0 x5_1) != (rd l1 x5_1)) = true := bne_iff_ne.mpr c7
                obtain rfl := Option.some.inj H
                have p441 : 0 ≤ (x5_1 : Int) := of_decide_eq_true (by first | (with_reducible assumption) | assumption)
                have q441 : x5_1 < (l0.length : Int) := of_decide_eq_true (by first | (with_reducible assumption) | assumption)
                obtain ⟨ad441, e441, hx441_0⟩ := Kd.at_int HR0.out x5_1 p441 q441
                cases e441
                replace p441 := eq_true p441
                replace q441 := eq_true q441
                have p442 : 0 ≤ (x5_1 : Int) := of_decide_eq_true (by first | (with_reducible assumption) | assumption)
                have q442 : x5_1 < (l1.length : Int) := of_decide_eq_true (by first | (with_reducible assumption) | assumption)
                obtain ⟨ad442, e442, hx442_0⟩ := Kd.at_int HR1.out x5_1 p442 q442
                cases e442
                replace p442 := eq_true p442
                replace q442 := eq_true q442
                go_wp2
                repeat (go_quiet (fail); try go_wp2)
                go_ret
                exact ⟨by first | rfl | (simp; done) | (simp [*]; done), by repeat (first | exact Drawn0.refl _ | apply Drawn0.step)⟩
            · rw [if_neg c6] at H
              exact absurd H (by simp)
          · rw [if_neg c5] at H
            exact absurd H (by simp)
        · rw [if_neg c4] at H
          have c4b0 : decide (x5_1 < (l0.length : Int)) = false := decide_eq_false c4
          clear c4
          obtain rfl := Option.some.inj H
          go_wp2
          repeat (go_quiet (fail); try go_wp2)
          go_ret
          exact ⟨by first | rfl | (simp; done) | (simp [*]; done), by repeat (first | exact Drawn0.refl _ | apply Drawn0.step)⟩
  · rw [if_neg c3] at H
    have c3b0 : ((l0.length : Int) == (l1.length : Int)) = false := beq_eq_false_iff_ne.mpr c3
    have c3b1 : ((l0.length : Int) != (l1.length : Int)) = true := bne_iff_ne.mpr c3
    have c3b2 : (l0.length == l1.length) = false := by first | simpa using c3 | (simp at c3 ⊢; omega)
    obtain rfl := Option.some.inj H
    go_enter Tryz.func26, Tryz.ntmps26
    go_wp2
    repeat (go_quiet (fail); try go_wp2)
    go_ret
    exact ⟨by first | rfl | (simp; done) | (simp [*]; done), by repeat (first | exact Drawn0.refl _ | apply Drawn0.step)⟩

end Go.Proofs.YtjjaiahfkiojlaaGreat.O
