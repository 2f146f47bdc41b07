-- What some functions of the program compute: a text of this claim's own (lines first written by the kit's tool, some proved anew).
/- Rules that are one are alike, as a contract. No condition beyond that their lists are no longer than a million. -/
/- wakes of the statements of layer 24 answers true. No condition. -/
import Derived.Test.YtfinhaghgmnegaaGreatMOx3
import Derived.Test.YtfinhaghgmnegaaGreatE24c
import Derived.Test.YtfinhaghgmnegaaGreatME24n
namespace Go.Proofs.YtfinhaghgmnegaaGreat.O
open Go.RowKit Go.Proofs.YtfinhaghgmnegaaGreatW.PrintWords Go.Proofs.YtfinhaghgmnegaaGreatW.PrintLast Go.Proofs.YtfinhaghgmnegaaGreatW.PrintMore
attribute [local go_sem] max2_int min2_int max_two min_two max_three min_three max_four min_four   -- for this text's walks alone
set_option linter.unusedVariables false
set_option linter.unusedSimpArgs false

/-! ### solsticekeep_Ints: function 11 -/
def solsticekeep_Ints.l0 : Nat → List Int → List Int → Int → Option (Bool)
  | 0, _, _, _ => none
  | k + 1, x0, x1, x5 => if x5 < (x0.length : Int) then (if 0 ≤ x5 then (if x5 < (x1.length : Int) then (if (rd x0 x5) = (rd x1 x5) then (solsticekeep_Ints.l0 k x0 x1 (wrap64 (x5 + 1))) else (some false)) else (none)) else (none)) else (some true)
def solsticekeep_Ints.f (k : Nat) (l0 : List Int) (l1 : List Int) : Option (Bool) := if (l0.length : Int) = (l1.length : Int) then (solsticekeep_Ints.l0 k l0 l1 0) else (some false)
set_option maxHeartbeats 8000000 in
set_option maxRecDepth 100000 in
theorem solsticekeep_Ints.calls (k : Nat) (A0 : Option Addr) (c0 : Nat) (l0 : List Int) (A1 : Option Addr) (c1 : Nat) (l1 : List Int) (r : Bool) (w : World) (hr0 : Kd.C (Kd.int .i64) w A0 l0.length l0) (hc0 : l0.length ≤ c0) (hr1 : Kd.C (Kd.int .i64) w A1 l1.length l1) (hc1 : l1.length ≤ c1) (h : solsticekeep_Ints.f k l0 l1 = some r) :
    Calls Tryz.prog 11 #[.slice A0 l0.length c0, .slice A1 l1.length c1] w fun e w' => e = .returned (.bool r) ∧ Drawn0 w w' := by
  have HR0 := Aside0.mk hr0
  have HC0 := Aside0.mk hc0
  clear hr0 hc0
  have HR1 := Aside0.mk hr1
  have HC1 := Aside0.mk hc1
  clear hr1 hc1
  have H : (if (l0.length : Int) = (l1.length : Int) then (solsticekeep_Ints.l0 k l0 l1 0) else (some false)) = some r := h
  clear h
  by_cases c3 : (l0.length : Int) = (l1.length : Int)
  · rw [if_pos c3] at H
    have c3b0 : ((l0.length : Int) == (l1.length : Int)) = true := beq_iff_eq.mpr c3
    have c3b1 : ((l0.length : Int) != (l1.length : Int)) = false := bne_eq_false_iff_eq.mpr c3
    have c3b2 : (l0.length == l1.length) = true := by first | simpa using c3 | (simp at c3 ⊢; omega)
    clear c3
    have H' := Aside0.mk H
    clear H
    go_enter Tryz.func11, Tryz.ntmps11
    go_wp2
    repeat (go_quiet (fail); try go_wp2)
    go_loopg [5] k (fun kq v5 w' => ∃ (x5_1 : Int), v5 = .int .i64 x5_1 ∧ Aside0 (solsticekeep_Ints.l0 kq l0 l1 x5_1 = some r) ∧ Aside0 (kq ≤ k) ∧ Drawn0 w w')
    case atStart => exact ⟨(0), (by first | rfl | (simp; done) | (simp [*]; done)), H', ⟨Nat.le_refl _⟩, by repeat (first | exact Drawn0.refl _ | apply Drawn0.step)⟩
    case round =>
      clear H'
      try clear c1
      try clear p2
      try clear c3
      try clear c3b0
      try clear c3b1
      try clear c3b2
      obtain ⟨x5_1, rfl, HA, HK1, ⟨m1, rfl⟩⟩ := hrel
      cases gk with
      | zero => exact absurd HA.out (by simp [solsticekeep_Ints.l0])
      | succ k1 =>
        have H := HA.out
        clear HA
        simp only [solsticekeep_Ints.l0] at H
        by_cases c4 : x5_1 < (l0.length : Int)
        · rw [if_pos c4] at H
          have c4b0 : decide (x5_1 < (l0.length : Int)) = true := decide_eq_true c4
          clear c4
          by_cases c5 : 0 ≤ x5_1
          · rw [if_pos c5] at H
            have c5b0 : decide (0 ≤ x5_1) = true := decide_eq_true c5
            clear c5
            by_cases c6 : x5_1 < (l1.length : Int)
            · rw [if_pos c6] at H
              have c6b0 : decide (x5_1 < (l1.length : Int)) = true := decide_eq_true c6
              clear c6
              by_cases c7 : (rd l0 x5_1) = (rd l1 x5_1)
              · rw [if_pos c7] at H
                have c7b0 : ((rd l0 x5_1) == (rd l1 x5_1)) = true := beq_iff_eq.mpr c7
                have c7b1 : ((rd l0 x5_1) != (rd l1 x5_1)) = false := bne_eq_false_iff_eq.mpr c7
                clear c7
                have H' := Aside0.mk H
                clear H
                have p175 : 0 ≤ (x5_1 : Int) := of_decide_eq_true (by first | (with_reducible assumption) | assumption)
                have q175 : x5_1 < (l0.length : Int) := of_decide_eq_true (by first | (with_reducible assumption) | assumption)
                obtain ⟨ad175, e175, hx175_0⟩ := Kd.at_int HR0.out x5_1 p175 q175
                cases e175
                replace p175 := eq_true p175
                replace q175 := eq_true q175
                have p176 : 0 ≤ (x5_1 : Int) := of_decide_eq_true (by first | (with_reducible assumption) | assumption)
                have q176 : x5_1 < (l1.length : Int) := of_decide_eq_true (by first | (with_reducible assumption) | assumption)
                obtain ⟨ad176, e176, hx176_0⟩ := Kd.at_int HR1.out x5_1 p176 q176
                cases e176
                replace p176 := eq_true p176
                replace q176 := eq_true q176
                go_wp2
                repeat (go_quiet (fail); try go_wp2)
                go_roundg k1
                case measure => have := HK1.out; omega
                case rel => exact ⟨(wrap64 (x5_1 + 1)), (by first | rfl | (simp; done) | (simp [*]; done)), H', ⟨by have := HK1.out; omega⟩, by repeat (first | exact Drawn0.refl _ | apply Drawn0.step)⟩
              · rw [if_neg c7] at H
                have c7b0 : ((rd l0 x5_1) == (rd l1 x5_1)) = false := beq_eq_false_iff_ne.mpr c7
                have c7b1 : ((rd l0 x5_1) != (rd l1 x5_1)) = true := bne_iff_ne.mpr c7
                obtain rfl := Option.some.inj H
                have p175 : 0 ≤ (x5_1 : Int) := of_decide_eq_true (by first | (with_reducible assumption) | assumption)
                have q175 : x5_1 < (l0.length : Int) := of_decide_eq_true (by first | (with_reducible assumption) | assumption)
                obtain ⟨ad175, e175, hx175_0⟩ := Kd.at_int HR0.out x5_1 p175 q175
                cases e175
                replace p175 := eq_true p175
                replace q175 := eq_true q175
                have p176 : 0 ≤ (x5_1 : Int) := of_decide_eq_true (by first | (with_reducible assumption) | assumption)
                have q176 : x5_1 < (l1.length : Int) := of_decide_eq_true (by first | (with_reducible assumption) | assumption)
                obtain ⟨ad176, e176, hx176_0⟩ := Kd.at_int HR1.out x5_1 p176 q176
                cases e176
                replace p176 := eq_true p176
                replace q176 := eq_true q176
                go_wp2
                repeat (go_quiet (fail); try go_wp2)
                go_ret
                exact ⟨by first | rfl | (simp; done) | (simp [*]; done), by repeat (first | exact Drawn0.refl _ | apply Drawn0.step)⟩
            · rw [if_neg c6] at H
              exact absurd H (by simp)
          · rw [if_neg c5] at H
            exact absurd H (by simp)
        · rw [if_neg c4] at H
          have c4b0 : decide (x5_1 < (l0.length : Int)) = false := decide_eq_false c4
          clear c4
          obtain rfl := Option.some.inj H
          go_wp2
          repeat (go_quiet (fail); try go_wp2)
          go_ret
          exact ⟨by first | rfl | (simp; done) | (simp [*]; done), by repeat (first | exact Drawn0.refl _ | apply Drawn0.step)⟩
  · rw [if_neg c3] at H
    have c3b0 : ((l0.length : Int) == (l1.length : Int)) = false := beq_eq_false_iff_ne.mpr c3
    have c3b1 : ((l0.length : Int) != (l1.length : Int)) = true := bne_iff_ne.mpr c3
    have c3b2 : (l0.length == l1.length) = false := by first | simpa using c3 | (simp at c3 ⊢; omega)
    obtain rfl := Option.some.inj H
    go_enter Tryz.func11, Tryz.ntmps11
    go_wp2
    repeat (go_quiet (fail); try go_wp2)
    go_ret
    exact ⟨by first | rfl | (simp; done) | (simp [*]; done), by repeat (first | exact Drawn0.refl _ | apply Drawn0.step)⟩

end Go.Proofs.YtfinhaghgmnegaaGreat.O

namespace Go.Proofs.YtfinhaghgmnegaaGreat.Pure
open Go.RowKit Go.Proofs.YtfinhaghgmnegaaGreat.O Go.Proofs.YtfinhaghgmnegaaGreatW.PrintWords Go.Proofs.YtfinhaghgmnegaaGreatW.PrintLast
open Go.Proofs.YtfinhaghgmnegaaGreat.Civ
set_option linter.unusedVariables false
set_option linter.unusedSimpArgs false
namespace E
set_option maxRecDepth 100000
set_option maxHeartbeats 4000000
theorem kints (l : List Int) (h : l.length ≤ 1000000) : Ev (fun k => solsticekeep_Ints.f k l l) true := by
  have loop : ∀ (n : Nat) (i : Int), 0 ≤ i → i + n = l.length → Ev (fun k => solsticekeep_Ints.l0 k l l i) true := by
    intro n
    induction n with
    | zero =>
      intro i h0 h1
      refine evstep ?_
      simp only [solsticekeep_Ints.l0, if_neg (show ¬ i < (l.length : Int) by omega)]
      exact Ev.now _
    | succ n ih =>
      intro i h0 h1
      refine evstep ?_
      simp only [solsticekeep_Ints.l0, if_pos (show i < (l.length : Int) by omega), if_pos h0, if_true]
      rw [w64 (by omega) (by omega)]
      exact ih (i + 1) (by omega) (by omega)
  unfold solsticekeep_Ints.f
  simp only [if_true]
  exact loop l.length 0 (by omega) (by omega)
section
variable {ρ : Operand → Value} {o : Oper} {w : World}
theorem run_ix27 {x y : Operand} {ad : Addr} {n c kk : Nat} (hk : kk < n) (hn : n ≤ 1000000000) (ho : o.op = .indexAddr 27 x y) (hx : ρ x = .slice (some ad) n c) (hy : ρ y = .int .i64 kk) : (execOp ρ o).run Tryz.prog w = .ok (.value (.pointer (some (ad.add (kk * 2))))) w := by
  have hu27 := Tryz.underlying27
  have hu54 := Tryz.underlying44
  have h1 : ¬ (kk : Int) < 0 := by omega
  have h2 : (kk : Int) < n := by omega
  unfold execOp; rw [ho]; go_simp
theorem run_ld54 {x : Operand} {p : Addr} {u v : Value} (ho : o.op = .load 44 x) (hx : ρ x = .pointer (some p)) (h0 : w.cell? p = some u) (h1 : w.cell? ⟨p.block, p.off + 1, none⟩ = some v) : (execOp ρ o).run Tryz.prog w = .ok (.value (.agg #[u, v])) w := by
  have hu54 := Tryz.underlying44
  unfold execOp; rw [ho]; go_simp
theorem run_ne54 {x y : Operand} {a b : Int} (ho : o.op = .binOp .neq 44 x y 44) (hx : ρ x = .agg #[.int .i64 a, .int .i64 b]) (hy : ρ y = .agg #[.int .i64 a, .int .i64 b]) : (execOp ρ o).run Tryz.prog w = .ok (.value (.bool false)) w := by
  have hu54 := Tryz.underlying44
  unfold execOp; rw [ho]; go_simp
end
theorem ints_on {w : World} {A B : Option Addr} {c k : Nat} {l : List Int} (h : Kd.C (Kd.int .i64) w A l.length l) (hc : l.length ≤ c) (h' : Kd.C (Kd.int .i64) w B l.length l) (hk : l.length ≤ k) (hl : l.length ≤ 1000000) : Calls Tryz.prog 11 #[.slice A l.length c, .slice B l.length k] w (Rets w (.bool true)) := by
  obtain ⟨q, e⟩ := (kints l hl).rounds
  exact (solsticekeep_Ints.calls q A c l B k l _ w h hc h' hk e).mono fun _ _ => rets_drawn
theorem cell_on {L : List (Nat × Obj)} {w W : World} {p : Addr} {v : Value} (M : On L w W) (h : w.cell? p = some v) : W.cell? p = some v := (M.bl.cell (World.block_lt_of_cell? w _ h)).trans h
theorem kp_lt {i n : Nat} (h : i < n) : decide ((i : Int) < (n : Int)) = true := decide_eq_true (by omega)
theorem kp_ge {i n : Nat} (h : ¬ i < n) : decide ((i : Int) < (n : Int)) = false := decide_eq_false (by omega)
theorem kp_inc {i n : Nat} (h : i < n) (hn : n ≤ 1000000) : wrap64 ((i : Int) + 1) = ((i + 1 : Nat) : Int) := by rw [w64 (by omega) (by omega)]; omega
def leftN (d n : Nat) (a : Act) : Nat := match a.eval (.tmp d) with | .int _ x => ((n : Int) - x).toNat | _ => 0
theorem leftN_ {d n N : Nat} {E : Env} {a : Act} {x : Int} (K : Kn N E a) (h : O.look E d = some (.int .i64 x)) : leftN d n a = ((n : Int) - x).toNat := by unfold leftN; rw [K.ev _ _ h]
theorem leftN_lt {i n : Nat} (h : i < n) : ((n : Int) - ((i + 1 : Nat) : Int)).toNat < ((n : Int) - (i : Int)).toNat := by omega
/-- Rules that are one are alike. -/
theorem keep_on {w : World} {cs cs' : Array Value} {r : RR} (R : Rul w cs r) (R' : Rul w cs' r) (hl : r.sec.length ≤ 1000000 ∧ r.mi.length ≤ 1000000 ∧ r.ho.length ≤ 1000000 ∧ r.dy.length ≤ 1000000 ∧ r.md.length ≤ 1000000 ∧ r.yd.length ≤ 1000000 ∧ r.wn.length ≤ 1000000 ∧ r.mo.length ≤ 1000000 ∧ r.sp.length ≤ 1000000) : Calls Tryz.prog 6 #[.agg cs, .agg cs'] w (Rets w (.bool true)) := by
  obtain ⟨l6, l7, l8, l9, l10, l11, l12, l13, l14⟩ := hl
  obtain ⟨A6, k6, e6, q6, h6⟩ := R.c6
  obtain ⟨B6, j6, f6, s6, g6⟩ := R'.c6
  obtain ⟨A7, k7, e7, q7, h7⟩ := R.c7
  obtain ⟨B7, j7, f7, s7, g7⟩ := R'.c7
  obtain ⟨A8, k8, e8, q8, h8⟩ := R.c8
  obtain ⟨B8, j8, f8, s8, g8⟩ := R'.c8
  obtain ⟨A9, k9, e9, q9, h9⟩ := R.c9
  obtain ⟨B9, j9, f9, s9, g9⟩ := R'.c9
  obtain ⟨A10, k10, e10, q10, h10⟩ := R.c10
  obtain ⟨B10, j10, f10, s10, g10⟩ := R'.c10
  obtain ⟨A11, k11, e11, q11, h11⟩ := R.c11
  obtain ⟨B11, j11, f11, s11, g11⟩ := R'.c11
  obtain ⟨A12, k12, e12, q12, h12⟩ := R.c12
  obtain ⟨B12, j12, f12, s12, g12⟩ := R'.c12
  obtain ⟨A13, k13, e13, q13, h13⟩ := R.c13
  obtain ⟨B13, j13, f13, s13, g13⟩ := R'.c13
  obtain ⟨A14, k14, e14, q14, h14⟩ := R.c14
  obtain ⟨B14, j14, f14, s14, g14⟩ := R'.c14
  have fl : Tryz.prog.follows .mixedOrders = true := by kernel_rfl
  refine en_ Tryz.func6 rfl rfl rfl fun a K => sr_ (bx_ K (On.nil w) rfl rfl rfl rfl rfl rfl fun a g0 W M K => bx_ K M rfl rfl rfl rfl rfl rfl fun a g1 W M K => run_ 1 K rfl fun a K => nil_ (wp_seq (sr_ ?_)))
  refine run_ 1 K rfl fun a K => ld_ K M 1 rfl rfl rfl rfl rfl rfl R.c0 rfl fun a K => run_ 1 K rfl fun a K => ld_ K M 0 rfl rfl rfl rfl rfl rfl R'.c0 rfl fun a K => run_ 1 K rfl fun a K => ?_
  replace K := fx_ (c := false) K (by simp)
  refine run_ 2 K rfl fun a K => ld_ K M 1 rfl rfl rfl rfl rfl rfl R.c1 rfl fun a K => run_ 1 K rfl fun a K => ld_ K M 0 rfl rfl rfl rfl rfl rfl R'.c1 rfl fun a K => run_ 1 K rfl fun a K => ?_
  replace K := fx_ (c := false) K (by simp)
  refine run_ 3 K rfl fun a K => ld_ K M 1 rfl rfl rfl rfl rfl rfl R.c2 rfl fun a K => run_ 1 K rfl fun a K => ld_ K M 0 rfl rfl rfl rfl rfl rfl R'.c2 rfl fun a K => run_ 1 K rfl fun a K => ?_
  replace K := fx_ (c := false) K (by simp)
  refine run_ 3 K rfl fun a K => ld_ K M 1 rfl rfl rfl rfl rfl rfl R.c3 rfl fun a K => run_ 1 K rfl fun a K => ld_ K M 0 rfl rfl rfl rfl rfl rfl R'.c3 rfl fun a K => run_ 1 K rfl fun a K => ?_
  replace K := fx_ (c := false) K (by simp)
  refine run_ 3 K rfl fun a K => ld_ K M 1 rfl rfl rfl rfl rfl rfl R.c4 rfl fun a K => run_ 1 K rfl fun a K => ld_ K M 0 rfl rfl rfl rfl rfl rfl R'.c4 rfl fun a K => run_ 1 K rfl fun a K => ?_
  replace K := fx_ (c := false) K (by simp)
  refine run_ 3 K rfl fun a K => ld_ K M 1 rfl rfl rfl rfl rfl rfl R.c5 rfl fun a K => run_ 1 K rfl fun a K => ld_ K M 0 rfl rfl rfl rfl rfl rfl R'.c5 rfl fun a K => run_ 1 K rfl fun a K => ?_
  replace K := fx_ (c := false) K (by simp)
  refine run_ 3 K rfl fun a K => ld_ K M 1 rfl rfl rfl rfl rfl rfl R.c15 rfl fun a K => run_ 1 K rfl fun a K => ld_ K M 0 rfl rfl rfl rfl rfl rfl R'.c15 rfl fun a K => run_ 1 K rfl fun a K => ?_
  replace K := fx_ (c := false) K (by simp)
  refine run_ 3 K rfl fun a K => ld_ K M 1 rfl rfl rfl rfl rfl rfl e9 rfl fun a K => run_ 2 K rfl fun a K => ld_ K M 0 rfl rfl rfl rfl rfl rfl f9 rfl fun a K => run_ 2 K rfl fun a K => ?_
  replace K := fx_ (c := false) K (by simp)
  refine run_ 1 K rfl fun a K => nil_ (cs_ K rfl rfl (wp_seq (sr_ (run_ 1 K rfl fun a K => nil_ (wp_block (wp_loop (fun a W => ∃ i : Nat, i ≤ r.dy.length ∧ Kn 134 [(5, .int .i64 (i : Int)), (3, .pointer (some ⟨g1, 0, none⟩)), (2, .pointer (some ⟨g0, 0, none⟩))] a ∧ On [(g1, .cells cs' 29 (0, 0)), (g0, .cells cs 29 (0, 0))] w W) (fun a _ => leftN 5 r.dy.length a) ⟨0, Nat.zero_le _, fg_ K ⟨rfl, rfl, rfl, trivial⟩, M⟩ ?_))))))
  clear K M
  rintro a W ⟨i, hi, K1, M⟩
  refine wp_seq (sr_ (run_ 2 K1 rfl fun a K2 => ld_ K2 M 1 rfl rfl rfl rfl rfl rfl e9 rfl fun a K2 => run_ 2 K2 rfl fun a K2 => nil_ ?_))
  by_cases hc : i < r.dy.length
  · obtain ⟨ad, ea, x0, x1⟩ := at_T44 h9 (i : Int) (by omega) (by omega)
    obtain ⟨bd, eb, y0, y1⟩ := at_T44 g9 (i : Int) (by omega) (by omega)
    subst ea eb
    have ei := kp_inc hc l9
    refine ck_ K2 rfl (kp_lt hc) (wp_seq (wp_block (dseq_ fl rfl rfl M.drew (dp_ 165 7 [0, 2, 5, 7] K2 rfl rfl (by kernel_rfl) fun a K => dld_ 167 1 K M.drew 1 rfl rfl rfl rfl rfl rfl rfl e9 rfl (by kernel_rfl) fun a K => dld_ 231 6 K M.drew 0 rfl rfl rfl rfl rfl rfl rfl f9 rfl (by kernel_rfl) fun a K => dt_ 239 3 K M.drew rfl rfl rfl rfl (by kernel_rfl) (fun W hW => run_ix27 hc (by omega) rfl (K.of (x := .tmp 70) rfl) (K.of (x := .tmp 71) rfl)) fun a K => dt_ 495 8 K M.drew rfl rfl rfl rfl (by kernel_rfl) (fun W hW => run_ix27 hc (by omega) rfl (K.of (x := .tmp 75) rfl) (K.of (x := .tmp 76) rfl)) fun a K => dt_ 511 4 K M.drew rfl rfl rfl rfl (by kernel_rfl) (fun W hW => run_ld54 rfl (K.of (x := .tmp 72) rfl) (cell_on hW x0) (cell_on hW x1)) fun a K => dt_ 1023 9 K M.drew rfl rfl rfl rfl (by kernel_rfl) (fun W hW => run_ld54 rfl (K.of (x := .tmp 77) rfl) (cell_on hW y0) (cell_on hW y1)) fun a K => dt_ 2047 10 K M.drew rfl rfl rfl rfl (by kernel_rfl) (fun W hW => run_ne54 rfl (K.of (x := .tmp 73) rfl) (K.of (x := .tmp 78) rfl)) fun a K => dend_ (by kernel_rfl) (cf_ K rfl rfl (sb_ (rg_ (run_ 3 K rfl fun a K5 => nil_ ?_))))))))
    refine ⟨⟨i + 1, hc, fg_ (ks_ (i := 5) K5 rfl (congrArg (Value.int .i64) ei)) ⟨rfl, rfl, rfl, trivial⟩, M.drew⟩, ?_⟩
    rw [leftN_ (d := 5) K5 rfl, leftN_ (d := 5) K1 rfl, ei]
    exact leftN_lt hc
  refine cf_ K2 rfl (kp_ge hc) (ex_ (thn_ (sr_ ?_)))
  replace K := fg_ (E' := [(3, .pointer (some ⟨g1, 0, none⟩)), (2, .pointer (some ⟨g0, 0, none⟩))]) K2 ⟨rfl, rfl, trivial⟩
  clear K1
  refine run_ 1 K rfl fun a K => ld_ K M 1 rfl rfl rfl rfl rfl rfl e6 rfl fun a K => run_ 1 K rfl fun a K => ld_ K M 0 rfl rfl rfl rfl rfl rfl f6 rfl fun a K => cl_ K Tryz.func11 (by kernel_rfl) rfl rfl rfl rfl rfl rfl ((ints_on (Kd.C_below h6 M.bl) q6 (Kd.C_below g6 M.bl) s6 l6).mono ?_)
  rintro _ w6 ⟨rfl, b6⟩
  replace M := M.call b6
  refine ⟨_, rfl, fun a K => run_ 1 K rfl fun a K => ?_⟩
  refine run_ 1 K rfl fun a K => ld_ K M 1 rfl rfl rfl rfl rfl rfl e7 rfl fun a K => run_ 1 K rfl fun a K => ld_ K M 0 rfl rfl rfl rfl rfl rfl f7 rfl fun a K => cl_ K Tryz.func11 (by kernel_rfl) rfl rfl rfl rfl rfl rfl ((ints_on (Kd.C_below h7 M.bl) q7 (Kd.C_below g7 M.bl) s7 l7).mono ?_)
  rintro _ w7 ⟨rfl, b7⟩
  replace M := M.call b7
  refine ⟨_, rfl, fun a K => run_ 2 K rfl fun a K => ?_⟩
  refine run_ 1 K rfl fun a K => ld_ K M 1 rfl rfl rfl rfl rfl rfl e8 rfl fun a K => run_ 1 K rfl fun a K => ld_ K M 0 rfl rfl rfl rfl rfl rfl f8 rfl fun a K => cl_ K Tryz.func11 (by kernel_rfl) rfl rfl rfl rfl rfl rfl ((ints_on (Kd.C_below h8 M.bl) q8 (Kd.C_below g8 M.bl) s8 l8).mono ?_)
  rintro _ w8 ⟨rfl, b8⟩
  replace M := M.call b8
  refine ⟨_, rfl, fun a K => run_ 2 K rfl fun a K => ?_⟩
  refine run_ 1 K rfl fun a K => ld_ K M 1 rfl rfl rfl rfl rfl rfl e10 rfl fun a K => run_ 1 K rfl fun a K => ld_ K M 0 rfl rfl rfl rfl rfl rfl f10 rfl fun a K => cl_ K Tryz.func11 (by kernel_rfl) rfl rfl rfl rfl rfl rfl ((ints_on (Kd.C_below h10 M.bl) q10 (Kd.C_below g10 M.bl) s10 l10).mono ?_)
  rintro _ w10 ⟨rfl, b10⟩
  replace M := M.call b10
  refine ⟨_, rfl, fun a K => run_ 2 K rfl fun a K => ?_⟩
  refine run_ 1 K rfl fun a K => ld_ K M 1 rfl rfl rfl rfl rfl rfl e11 rfl fun a K => run_ 1 K rfl fun a K => ld_ K M 0 rfl rfl rfl rfl rfl rfl f11 rfl fun a K => cl_ K Tryz.func11 (by kernel_rfl) rfl rfl rfl rfl rfl rfl ((ints_on (Kd.C_below h11 M.bl) q11 (Kd.C_below g11 M.bl) s11 l11).mono ?_)
  rintro _ w11 ⟨rfl, b11⟩
  replace M := M.call b11
  refine ⟨_, rfl, fun a K => run_ 2 K rfl fun a K => ?_⟩
  refine run_ 1 K rfl fun a K => ld_ K M 1 rfl rfl rfl rfl rfl rfl e12 rfl fun a K => run_ 1 K rfl fun a K => ld_ K M 0 rfl rfl rfl rfl rfl rfl f12 rfl fun a K => cl_ K Tryz.func11 (by kernel_rfl) rfl rfl rfl rfl rfl rfl ((ints_on (Kd.C_below h12 M.bl) q12 (Kd.C_below g12 M.bl) s12 l12).mono ?_)
  rintro _ w12 ⟨rfl, b12⟩
  replace M := M.call b12
  refine ⟨_, rfl, fun a K => run_ 2 K rfl fun a K => ?_⟩
  refine run_ 1 K rfl fun a K => ld_ K M 1 rfl rfl rfl rfl rfl rfl e13 rfl fun a K => run_ 1 K rfl fun a K => ld_ K M 0 rfl rfl rfl rfl rfl rfl f13 rfl fun a K => cl_ K Tryz.func11 (by kernel_rfl) rfl rfl rfl rfl rfl rfl ((ints_on (Kd.C_below h13 M.bl) q13 (Kd.C_below g13 M.bl) s13 l13).mono ?_)
  rintro _ w13 ⟨rfl, b13⟩
  replace M := M.call b13
  refine ⟨_, rfl, fun a K => run_ 2 K rfl fun a K => ?_⟩
  refine run_ 1 K rfl fun a K => ld_ K M 1 rfl rfl rfl rfl rfl rfl e14 rfl fun a K => run_ 1 K rfl fun a K => ld_ K M 0 rfl rfl rfl rfl rfl rfl f14 rfl fun a K => cl_ K Tryz.func11 (by kernel_rfl) rfl rfl rfl rfl rfl rfl ((ints_on (Kd.C_below h14 M.bl) q14 (Kd.C_below g14 M.bl) s14 l14).mono ?_)
  rintro _ w14 ⟨rfl, b14⟩
  replace M := M.call b14
  refine ⟨_, rfl, fun a K => run_ 2 K rfl fun a K => ?_⟩
  exact nil_ (ret_ rfl K rfl ⟨rfl, M.bl⟩)
end E
end Go.Proofs.YtfinhaghgmnegaaGreat.Pure

namespace Go.Proofs.YtfinhaghgmnegaaGreat.Pure
open Go.RowKit Go.Proofs.YtfinhaghgmnegaaGreat.O Go.Proofs.YtfinhaghgmnegaaGreatW.PrintWords Go.Proofs.YtfinhaghgmnegaaGreatW.PrintLast
open Go.Proofs.YtfinhaghgmnegaaGreat.Civ
set_option linter.unusedVariables false
set_option linter.unusedSimpArgs false
namespace E
set_option maxRecDepth 100000
set_option maxHeartbeats 4000000
theorem ln3 : ln 2001 3 = 31 := by decide
theorem wk_e0 : onE 3 3 0 8 0 = 0 := by
  unfold onE
  rw [if_pos (show OnR 3 0 8 by unfold OnR; omega), if_neg (by omega), if_pos]
  unfold encP fst24 many24
  rw [ln3]
  decide
theorem wk_e1 : onE 3 3 0 26 0 = 17 := by
  unfold onE
  rw [if_pos (show OnR 3 0 26 by unfold OnR; omega), if_neg (by omega), if_neg]
  unfold encP fst24 many24
  rw [ln3]
  decide
theorem wk_r : onR 3 3 0 8 0 = { monR 3 with dy := [⟨2, 0⟩] } := by
  have e : fst24 3 8 0 = 8 := by decide
  unfold onR
  rw [if_neg (by decide), if_neg (by decide), e]
  unfold sevR
  rw [if_pos (by decide)]
  rfl
theorem wk_m : moveV 3600 3 3600 0 3600 = (0, 7200, true) := by
  unfold moveV
  rw [if_pos (by unfold moveP; omega)]
  unfold utcV
  rw [if_neg (by decide), if_neg (by decide)]
  rfl
section
variable {ρ : Operand → Value} {o : Oper} {w : World}
theorem run_f54 {x : Operand} {p : Addr} {i : Nat} (hi : i < 2) (ho : o.op = .fieldAddr 44 x i) (hx : ρ x = .pointer (some p)) : (execOp ρ o).run Tryz.prog w = .ok (.value (.pointer (some (p.add i)))) w := by
  have hu54 := Tryz.underlying44
  unfold execOp; rw [ho]
  match i, hi with
  | 0, _ => go_simp
  | 1, _ => go_simp
  | n + 2, h => exact absurd h (by omega)
end
theorem wakes_on {w : World} : Calls Tryz.prog 7 #[] w (Rets w (.bool true)) := by
  have c1 := fun w => on_on (w := w) 3 3 0 8 (mv := 0) (by decide) (by decide)
  rw [wk_e0, wk_r, if_pos rfl] at c1
  have c2 := fun w => on_on (w := w) 3 3 0 26 (mv := 0) (by decide) (by decide)
  rw [wk_e1, if_neg (by decide)] at c2
  have c3 := fun w => move_on (w := w) 3600 3 3600 0 3600
  rw [wk_m] at c3
  refine en_ Tryz.func7 rfl rfl rfl fun a K => sr_ (run_ 1 K rfl fun a K => nil_ (sr_ (val_ K rfl rfl rfl (run_b23 rfl rfl rfl) fun a K => cl_ K Tryz.func5 (by kernel_rfl) rfl rfl rfl rfl rfl rfl ((c1 _).mono ?_))))
  rintro _ w1 ⟨cs, rfl, R, o1, b1⟩
  have M := ((On.nil w).call b1).here
  have z := (R _ (Keep.refl _)).sz
  refine ⟨_, rfl, fun a K => run_ 3 K rfl fun a K => nw_ K M rfl rfl rfl rfl rfl rfl rfl (fun _ => rfl) rfl z o1 fun a g0 W M K => run_ 1 K rfl fun a K => nil_ (sr_ (val_ K rfl rfl rfl (run_b25 rfl rfl rfl) fun a K => cl_ K Tryz.func15 (by kernel_rfl) rfl rfl rfl rfl rfl rfl ((c3 _).mono ?_)))⟩
  rintro _ w2 ⟨rfl, b2⟩
  replace M := M.call b2
  refine ⟨_, rfl, fun a K => run_ 7 K rfl fun a K => nil_ (sr_ (val_ K rfl rfl rfl (run_b23 rfl rfl rfl) fun a K => cl_ K Tryz.func5 (by kernel_rfl) rfl rfl rfl rfl rfl rfl ((c2 _).mono ?_)))⟩
  rintro _ w3 ⟨cs2, rfl, R2, o2, b3⟩
  replace M := M.call b3
  have z2 := (R2 _ (Keep.refl _)).sz
  refine ⟨_, rfl, fun a K => run_ 3 K rfl fun a K => nw_ K M rfl rfl rfl rfl rfl rfl rfl (fun _ => rfl) rfl z2 o2 fun a g1 W M K => run_ 1 K rfl fun a K => nil_ (sr_ ?_)⟩
  obtain ⟨A, c, e9, q9, h9⟩ := (R W (keep_below M.bl)).c9
  obtain ⟨ad, ea, x0, x1⟩ := at_T44 h9 0 (by decide) (by decide)
  subst ea
  refine run_ 2 K rfl fun a K => run_ 2 (fx_ (c := true) K (by decide)) rfl fun a K => ld_ K M 1 rfl rfl rfl rfl rfl rfl e9 rfl fun a K => run_ 2 K rfl fun a K => run_ 3 (fx_ (c := true) K (by decide)) rfl fun a K => ld_ K M 1 rfl rfl rfl rfl rfl rfl e9 rfl fun a K => val_ K rfl rfl rfl (run_ix27 (kk := 0) (by decide) (by decide) rfl (K.of (x := .tmp 34) rfl) rfl) fun a K => val_ K rfl rfl rfl (run_f54 (by decide) rfl (K.of (x := .tmp 35) rfl)) fun a K => val_ K rfl rfl rfl (run_ld (v := .int .i64 2) rfl rfl (K.of (x := .tmp 36) rfl) x0) fun a K => ?_
  refine run_ 1 K rfl fun a K => run_ 3 (fx_ (c := true) K (by decide)) rfl fun a K => ld_ K M 1 rfl rfl rfl rfl rfl rfl e9 rfl fun a K => val_ K rfl rfl rfl (run_ix27 (kk := 0) (by decide) (by decide) rfl (K.of (x := .tmp 42) rfl) rfl) fun a K => val_ K rfl rfl rfl (run_f54 (by decide) rfl (K.of (x := .tmp 43) rfl)) fun a K => val_ K rfl rfl rfl (run_ld (v := .int .i64 0) rfl rfl (K.of (x := .tmp 44) rfl) x1) fun a K => ?_
  refine run_ 1 K rfl fun a K => run_ 7 (fx_ (c := true) K (by decide)) rfl fun a K => run_ 4 (fx_ (c := true) K (by decide)) rfl fun a K => run_ 4 (fx_ (c := true) K (by decide)) rfl fun a K => run_ 2 (fx_ (c := true) K (by decide)) rfl fun a K => nil_ (ret_ rfl K rfl ⟨rfl, below_step b1 M.bl⟩)
end E
end Go.Proofs.YtfinhaghgmnegaaGreat.Pure
