/- What the function computes that gives the day of a form. No condition. -/
/- Lists that are one are alike, as a contract. No condition beyond that they are no longer than a million. -/
/- EncodeDays answers true. No condition. -/
import Derived.Test.YtfinhaghgmnegaaGreatE24p
import Derived.Test.YtfinhaghgmnegaaGreatOx24
import Derived.Test.YtfinhaghgmnegaaGreatMHS0
import Derived.Test.YtfinhaghgmnegaaGreatME24w
import Derived.Test.YtfinhaghgmnegaaGreatT24D
import Derived.Test.YtfinhaghgmnegaaGreatMT23n
namespace Go.Proofs.YtfinhaghgmnegaaGreat.Pure
open Go.RowKit Go.Proofs.YtfinhaghgmnegaaGreat.O Go.Proofs.YtfinhaghgmnegaaGreatW.PrintWords Go.Proofs.YtfinhaghgmnegaaGreatW.PrintLast
open Go.Proofs.YtfinhaghgmnegaaGreat.Civ
set_option linter.unusedVariables false
set_option linter.unusedSimpArgs false
/-- What Resolve tells. -/
def resV (y m kd w d : Int) : Int × Int := if OnR kd w d then (if y < 1 ∨ 9999 < y then (0, 23) else if Rt y m (fday y m kd d) then (fres y m kd w d, 0) else (0, 4)) else (0, 8)
theorem wres (y m kd w d : Int) : Ev (fun k => week_Resolve.f k y m kd w d) (resV y m kd w d) := by
  unfold week_Resolve.f resV
  refine evb (wcheck kd w d) ?_
  by_cases ho : OnR kd w d
  · simp only [if_pos ho, if_true]
    have j1 : ¬ (y < 1 ∨ 9999 < y) → ∀ x, x = fday y m kd d → Ev (fun k => week_Resolve.j1 k y m x kd w d) (if Rt y m (fday y m kd d) then (fres y m kd w d, 0) else (0, 4)) := by
      intro hy x hx
      subst hx
      refine evstep ?_
      simp only [week_Resolve.j1]
      by_cases hr : Rt y m (fday y m kd d)
      · refine evb (cnum hr) ?_
        have hb := num_bd hr
        have hu := upw_bd (num y m (fday y m kd d)) w
        have hd := dnw_bd (num y m (fday y m kd d)) w
        simp only [if_true, if_pos hr]
        refine evif (fun h3 => ?_) (fun h3 => evif (fun h2 => ?_) (fun h2 => evif (fun h4 => ?_) (fun h4 => evs ?_)))
        · rw [wup (by unfold OnR at ho; omega) (by unfold OnR at ho; omega)]
          refine evs ?_
          rw [w64 (by omega) (by omega)]
          subst h3; simp [fres, fday]
        · rw [wahead (by unfold OnR at ho; omega) (by unfold OnR at ho; omega)]
          refine evs ?_
          rw [w64 (by omega) (by omega)]
          subst h2; simp [fres]
        · rw [wahead (by unfold OnR at ho; omega) (by unfold OnR at ho; omega)]
          refine evs ?_
          rw [w64 (by omega) (by omega)]
          subst h4; simp [fres]
        · obtain rfl : kd = 1 := by unfold OnR at ho; omega
          simp [fres, fday]
      · refine evb (cnum_no hr) ?_
        simp only [if_neg (show ¬ (4 : Int) = 0 by omega), if_neg hr]
        exact Ev.now _
    have j0 : ∀ b : Bool, (b = true ↔ y < 1 ∨ 9999 < y) → Ev (fun k => week_Resolve.j0 k y m b kd w d) (if y < 1 ∨ 9999 < y then (0, 23) else if Rt y m (fday y m kd d) then (fres y m kd w d, 0) else (0, 4)) := by
      intro b hb
      refine evstep ?_
      simp only [week_Resolve.j0]
      refine evif (fun h => evs (by rw [if_pos (hb.1 h)])) (fun h => ?_)
      have hy := mt hb.2 h
      simp only [if_neg hy]
      refine evif (fun h2 => evb (clen y m) (j1 hy _ ?_)) (fun h2 => j1 hy _ ?_)
      · unfold fday; rw [if_pos h2]
      · unfold fday; rw [if_neg h2]
    refine evif (fun h => j0 _ ?_) (fun h => j0 _ ?_)
    · simp; omega
    · simp; omega
  · simp only [if_neg ho, if_neg (show ¬ (8 : Int) = 0 by omega)]
    exact Ev.now _
end Go.Proofs.YtfinhaghgmnegaaGreat.Pure

namespace Go.Proofs.YtfinhaghgmnegaaGreat.Pure
open Go.RowKit Go.Proofs.YtfinhaghgmnegaaGreat.O Go.Proofs.YtfinhaghgmnegaaGreatW.PrintWords Go.Proofs.YtfinhaghgmnegaaGreatW.PrintLast
open Go.Proofs.YtfinhaghgmnegaaGreat.Civ
set_option linter.unusedVariables false
set_option linter.unusedSimpArgs false
set_option maxRecDepth 100000
set_option maxHeartbeats 4000000
theorem kints (l : List Int) (h : l.length ≤ 1000000) : Ev (fun k => solsticekeep_Ints.f k l l) true := by
  have loop : ∀ (n : Nat) (i : Int), 0 ≤ i → i + n = l.length → Ev (fun k => solsticekeep_Ints.l0 k l l i) true := by
    intro n
    induction n with
    | zero =>
      intro i h0 h1
      refine evstep ?_
      simp only [solsticekeep_Ints.l0, if_neg (show ¬ i < (l.length : Int) by omega)]
      exact Ev.now _
    | succ n ih =>
      intro i h0 h1
      refine evstep ?_
      simp only [solsticekeep_Ints.l0, if_pos (show i < (l.length : Int) by omega), if_pos h0, if_true]
      rw [w64 (by omega) (by omega)]
      exact ih (i + 1) (by omega) (by omega)
  unfold solsticekeep_Ints.f
  simp only [if_true]
  exact loop l.length 0 (by omega) (by omega)
theorem ints_on {w : World} {A B : Option Addr} {c k : Nat} {l : List Int} (h : Kd.C (Kd.int .i64) w A l.length l) (hc : l.length ≤ c) (h' : Kd.C (Kd.int .i64) w B l.length l) (hk : l.length ≤ k) (hl : l.length ≤ 1000000) : Calls Tryz.prog 11 #[.slice A l.length c, .slice B l.length k] w (Rets w (.bool true)) := by
  obtain ⟨q, e⟩ := (kints l hl).rounds
  exact (solsticekeep_Ints.calls q A c l B k l _ w h hc h' hk e).mono fun _ _ => rets_drawn
end Go.Proofs.YtfinhaghgmnegaaGreat.Pure

namespace Go.Proofs.YtfinhaghgmnegaaGreat.Pure
open Go.RowKit Go.Proofs.YtfinhaghgmnegaaGreat.O Go.Proofs.YtfinhaghgmnegaaGreatW.PrintWords Go.Proofs.YtfinhaghgmnegaaGreatW.PrintLast
open Go.Proofs.YtfinhaghgmnegaaGreat.Civ
set_option linter.unusedVariables false
set_option linter.unusedSimpArgs false
set_option maxRecDepth 100000
set_option maxHeartbeats 4000000
theorem res_ok {Y m kd wk d mv : Int} (h : Enc m kd wk d mv) (hY : 1 ≤ Y) (hY' : Y ≤ 9999) : resV Y m kd wk d = (fres Y m kd wk d, 0) := by
  have l := ln_short h.m1 h.m2 Y
  have ok := h.ok
  have on := h.on
  have m1 := h.m1
  have m2 := h.m2
  have hr : Rt Y m (fday Y m kd d) := by
    unfold encP at ok
    unfold OnR at on
    unfold fday Rt
    by_cases c : kd = 2
    · rw [if_pos c]; omega
    · rw [if_neg c]; omega
  unfold resV
  rw [if_pos h.on, if_neg (by omega), if_pos hr]
theorem res_on {w : World} {Y m kd wk d mv : Int} (h : Enc m kd wk d mv) (hY : 1 ≤ Y) (hY' : Y ≤ 9999) : Calls Tryz.prog 8 #[.int .i64 Y, .int .i64 m, .agg #[.int .i64 kd, .int .i64 wk, .int .i64 d]] w (Rets w (.tuple #[.int .i64 (fres Y m kd wk d), .int .i64 0])) := by
  obtain ⟨k, hk⟩ := (wres Y m kd wk d).rounds
  rw [res_ok h hY hY'] at hk
  exact week_Resolve.calls k Y m kd wk d _ _ w hk
section
variable {ρ : Operand → Value} {o : Oper} {w : World}
theorem run_bon {x y z : Operand} {a b c : Int} (ho : o.op = .build 24 #[(0, x), (1, y), (2, z)]) (hx : ρ x = .int .i64 a) (hy : ρ y = .int .i64 b) (hz : ρ z = .int .i64 c) : (execOp ρ o).run Tryz.prog w = .ok (.value (.agg #[.int .i64 a, .int .i64 b, .int .i64 c])) w := by
  have hu24 := Tryz.underlying24
  unfold execOp; rw [ho]
  simp only [hx, hy, hz, List.map_toArray, List.map_cons, List.map_nil]
  first | (go_simp; done) | (go_simp; rfl)
end
/-- Any form. -/
theorem form_on (a b c : Int) : ∃ kd wk d, OnR kd wk d ∧ ∀ W, Calls Tryz.prog 4 #[.int .i64 a, .int .i64 b, .int .i64 c] W (Rets W (.agg #[.int .i64 kd, .int .i64 wk, .int .i64 d])) := by
  obtain ⟨kd, k0, k1, ek⟩ := um1 a (n := 4) (by decide) (by decide)
  obtain ⟨v, v0, v1, ev⟩ := um b (n := 7) (by decide) (by decide)
  obtain ⟨d, d0, d1, ed⟩ := um1 c (n := 31) (by decide) (by decide)
  refine ⟨kd, if kd = 1 then 0 else v, if kd = 2 then 0 else d, ?_, fun V => ?_⟩
  · unfold OnR
    by_cases c1 : kd = 1
    · rw [if_pos c1, if_neg (by omega)]; omega
    · by_cases c2 : kd = 2
      · rw [if_neg c1, if_pos c2]; omega
      · rw [if_neg c1, if_neg c2]; omega
  refine en_ Tryz.func4 rfl rfl rfl fun a' K => sr_ (al_ K (On.nil V) rfl rfl rfl rfl rfl fun a' g6 W z hz G6 M K => nil_ (sr_ (run_ 14 K rfl fun a' K => ?_)))
  replace K := fg_ (E' := [(12, .int .i64 kd), (16, .int .i64 v), (21, .int .i64 d), (6, .pointer (some ⟨g6, 0, none⟩))]) (ks_ (i := 12) (u := .int .i64 kd) (ks_ (i := 16) (u := .int .i64 v) (ks_ (i := 21) (u := .int .i64 d) K rfl (congrArg (Value.int .i64) ed)) rfl (congrArg (Value.int .i64) ev)) rfl (congrArg (Value.int .i64) ek)) ⟨rfl, rfl, rfl, rfl, trivial⟩
  refine val_ K rfl rfl rfl (run_bon rfl (K.of (x := .tmp 12) rfl) (K.of (x := .tmp 16) rfl) (K.of (x := .tmp 21) rfl)) fun a K => nwG_ K M rfl rfl rfl rfl rfl rfl rfl (fun _ => rfl) rfl rfl rfl fun a g7 W G7 M K => nil_ (wp_seq (sr_ (run_ 1 K rfl fun a K => ld_ K M 0 rfl rfl rfl rfl rfl rfl rfl rfl fun a K => run_ 1 K rfl fun a K => nil_ ?_)))
  by_cases c1 : kd = 1
  · refine ct_ K rfl (decide_eq_true c1) (rg_ (run_ 1 K rfl fun a K => stc_ K M 0 rfl G7 rfl rfl rfl rfl rfl rfl (show 1 < 3 by decide) fun W hW M => nil_ (wp_seq (sr_ (run_ 1 K rfl fun a K => ld_ K M 0 rfl rfl rfl rfl rfl rfl rfl rfl fun a K => run_ 1 K rfl fun a K => nil_ ?_)))))
    refine cf_ K rfl (decide_eq_false (show ¬ kd = 2 by omega)) (wp_skip (thn_ (sr_ (lda_ K M 0 rfl rfl rfl rfl rfl rfl rfl rfl fun a K => stw_ K M 1 rfl G6 rfl rfl rfl rfl rfl rfl hz rfl rfl fun W hW M => nil_ (retc_ (k := 1) rfl K M rfl rfl rfl rfl ⟨?_, M.bl⟩)))))
    rw [if_pos c1, if_neg (show ¬ kd = 2 by omega)]
    rfl
  · refine cf_ K rfl (decide_eq_false c1) (wp_skip (thn_ (wp_seq (sr_ (run_ 1 K rfl fun a K => ld_ K M 0 rfl rfl rfl rfl rfl rfl rfl rfl fun a K => run_ 1 K rfl fun a K => nil_ ?_)))))
    by_cases c2 : kd = 2
    · refine ct_ K rfl (decide_eq_true c2) (rg_ (run_ 1 K rfl fun a K => stc_ K M 0 rfl G7 rfl rfl rfl rfl rfl rfl (show 2 < 3 by decide) fun W hW M => nil_ (sr_ (lda_ K M 0 rfl rfl rfl rfl rfl rfl rfl rfl fun a K => stw_ K M 1 rfl G6 rfl rfl rfl rfl rfl rfl hz rfl rfl fun W hW M => nil_ (retc_ (k := 1) rfl K M rfl rfl rfl rfl ⟨?_, M.bl⟩)))))
      rw [if_neg c1, if_pos c2]
      rfl
    · refine cf_ K rfl (decide_eq_false c2) (wp_skip (thn_ (sr_ (lda_ K M 0 rfl rfl rfl rfl rfl rfl rfl rfl fun a K => stw_ K M 1 rfl G6 rfl rfl rfl rfl rfl rfl hz rfl rfl fun W hW M => nil_ (retc_ (k := 1) rfl K M rfl rfl rfl rfl ⟨?_, M.bl⟩)))))
      rw [if_neg c1, if_neg c2]
/-- A form's day, moved, as a time, by the machine's numbers. -/
theorem day_w {m kd wk d mv : Int} (h : Enc m kd wk d mv) {Y : Int} (hY : 1 ≤ Y) (hY' : Y ≤ 9999) : wrap64 (86400 * wrap64 (fres Y m kd wk d + mv)) = 86400 * (fres Y m kd wk d + mv) := by
  have i := on_in h Y
  have a1 := num_bd (rt_first (y := Y) (by omega) (by omega))
  have a2 := num_bd (rt_31 (y := Y) (by omega) (by omega))
  rw [w64 (x := fres Y m kd wk d + mv) (by omega) (by omega), w64 (by omega) (by omega)]
theorem day_InT {m kd wk d mv : Int} (h : Enc m kd wk d mv) {y : Int} (y1 : 2 ≤ y) (y2 : y ≤ 9901) : InT (dayT m kd wk d mv y 0) := by
  have s := on_span h (p := y) (by omega) (by omega)
  have t := spanOk_in (r := onR m kd wk d mv) (p := y) (by rw [s])
  have q := on_in h y
  rw [s, on_spanW h] at t
  unfold InT at t ⊢
  dsimp only at t
  unfold dayT
  rw [show y + ((0 : Nat) : Int) = y by omega]
  omega
theorem le_t {i n : Nat} (h : i < n + 1) : decide ((i : Int) ≤ (n : Int)) = true := decide_eq_true (by omega)
theorem le_f {i n : Nat} (h : ¬ i < n + 1) : decide ((i : Int) ≤ (n : Int)) = false := decide_eq_false (by omega)
theorem zR_short : zR.sec.length ≤ 1000000 ∧ zR.mi.length ≤ 1000000 ∧ zR.ho.length ≤ 1000000 ∧ zR.dy.length ≤ 1000000 ∧ zR.md.length ≤ 1000000 ∧ zR.yd.length ≤ 1000000 ∧ zR.wn.length ≤ 1000000 ∧ zR.mo.length ≤ 1000000 ∧ zR.sp.length ≤ 1000000 := ⟨Nat.zero_le _, Nat.zero_le _, Nat.zero_le _, Nat.zero_le _, Nat.zero_le _, Nat.zero_le _, Nat.zero_le _, Nat.zero_le _, Nat.zero_le _⟩
theorem enc_e {m kd wk d mv : Int} (ho : OnR kd wk d) (m1 : 1 ≤ m) (m2 : m ≤ 12) : onE m kd wk d mv = if encP m kd d mv then 0 else 17 := by
  unfold onE
  rw [if_pos ho, if_neg (by omega)]
theorem fF_ {L : List (Nat × Obj)} : ∀ p ∈ L, some p.1 ≠ (Value.slice none 0 0).ownBlock := fun p _ q => (nomatch (show some p.1 = none from q))
theorem lenI_ {f : Nat → Int} {i n : Nat} (h : i < n + 1) (hn : n ≤ 19) : ((List.range i).map f).length ≤ 17000000000000 := by simp; omega
theorem eqn_ {i n : Nat} (h : i ≤ n + 1) (h' : ¬ i < n + 1) : i = n + 1 := by omega
theorem lenX_ {X : List Int} {n : Nat} (h : X.length = n + 1) (hn : n ≤ 19) : 0 < X.length ∧ n < X.length ∧ X.length ≤ 4611686018427387904 ∧ X.length ≤ 1000000 := by omega
theorem n1_ {n : Nat} (h : n ≤ 19) : n + 1 ≤ 4611686018427387904 := by omega
theorem EncodeDays_on {w : World} (a0 a1 a2 a3 a4 a5 a6 : Int) : Calls Tryz.prog 3 #[.int .i64 a0, .int .i64 a1, .int .i64 a2, .int .i64 a3, .int .i64 a4, .int .i64 a5, .int .i64 a6] w (Rets w (.bool true)) := by
  have fl : Tryz.prog.follows .mixedOrders = true := by kernel_rfl
  obtain ⟨m, m1, m2, em⟩ := um1 a0 (n := 12) (by decide) (by decide)
  obtain ⟨q, q1, q2, eq⟩ := um a4 (n := 7) (by decide) (by decide)
  obtain ⟨s, s1, s2, es⟩ := um a5 (n := 9900) (by decide) (by decide)
  obtain ⟨u, u1, u2, eu⟩ := um a6 (n := 20) (by decide) (by decide)
  obtain ⟨ni, rfl⟩ : ∃ ni : Nat, u = (ni : Int) := ⟨u.toNat, by omega⟩
  obtain ⟨kd, wk, d, ho, hsome⟩ := form_on a1 a2 a3
  obtain ⟨mv, emv, mb⟩ : ∃ mv, wrap64 (wrap64 (Int.tmod (IntKind.u64.wrap a4) 7) - 3) = mv ∧ -3 ≤ mv ∧ mv ≤ 3 := ⟨q - 3, by rw [eq, w64 (by omega) (by omega)], by omega⟩
  obtain ⟨y, ey, y1, y2⟩ : ∃ y, wrap64 (2 + wrap64 (Int.tmod (IntKind.u64.wrap a5) 9900)) = y ∧ 2 ≤ y ∧ y ≤ 9901 := ⟨2 + s, by rw [es, w64 (by omega) (by omega)], by omega, by omega⟩
  have n19 : ni ≤ 19 := by omega
  have hE := enc_e (mv := mv) ho m1 m2
  clear q1 q2 eq s1 s2 es u1 u2
  refine en_ Tryz.func3 rfl rfl rfl fun a K => sr_ (run_ 1 K rfl fun a K => nil_ (sr_ (run_ 12 K rfl fun a K => nil_ ?_)))
  replace K := fg_ (E' := [(0, .int .i64 m), (1, .int .i64 a1), (2, .int .i64 a2), (3, .int .i64 a3), (4, .int .i64 mv), (5, .int .i64 a5), (6, .int .i64 a6)]) (ks_ (i := 0) (u := .int .i64 m) (ks_ (i := 4) (u := .int .i64 mv) K rfl (congrArg (Value.int .i64) emv)) rfl (congrArg (Value.int .i64) em)) ⟨rfl, rfl, rfl, rfl, rfl, rfl, rfl, trivial⟩
  refine sr_ (run_ 3 K rfl fun a K => cl_ K Tryz.func4 (by kernel_rfl) rfl rfl rfl rfl rfl rfl ((hsome _).mono ?_))
  rintro _ w1 ⟨rfl, b1⟩
  have M := (On.nil w).call b1
  refine ⟨_, rfl, fun a K => nw_ K M rfl rfl rfl rfl rfl rfl rfl (fun _ => rfl) rfl rfl rfl fun a g15 W M K => nil_ (sr_ (run_ 1 K rfl fun a K => lda_ K M 0 rfl rfl rfl rfl rfl rfl rfl rfl fun a K => run_ 1 K rfl fun a K => cl_ K Tryz.func5 (by kernel_rfl) rfl rfl rfl rfl rfl rfl ((E.on_on m kd wk d (mv := mv) (by omega) (by omega)).mono ?_)))⟩
  rintro _ w2 ⟨cs, rfl, RS, o1, b2⟩
  have B := (M.call b2).bl
  replace M := (M.call b2).here
  have R := RS _ (E.Keep.refl _)
  clear RS b1 b2
  have fin : ∀ {V : World}, Below w2.heap.size w2 V → Below w.heap.size w V := fun q => below_step B q
  refine ⟨_, rfl, fun a K => run_ 3 K rfl fun a K => nw_ K M rfl rfl rfl rfl rfl rfl rfl (fun _ => rfl) rfl R.sz o1 fun a g16 W M K => run_ 1 K rfl fun a K => nil_ (wp_seq (sr_ (run_ 2 K rfl fun a K => nil_ ?_)))⟩
  by_cases ok : encP m kd d mv
  case neg =>
    rw [if_neg ok] at hE
    rw [hE] at R K
    rw [if_neg (by decide)] at R
    have v2 : decide ((17 : Int) = 17) = true := rfl
    have RZ : ∀ V, Rul V (E.c3 zR (.slice none 0 0) (.slice none 0 0) (.slice none 0 0)) zR := fun V => E.rulS_cs ⟨rfl, rfl, rfl, rfl, rfl, rfl⟩ (E.indS_nil V) (E.inlS_nil _) (E.inlS_nil _) rfl _ (E.Keep.refl _)
    refine ct_ K rfl rfl (sr_ ?_)
    refine run_ 2 K rfl fun a K => run_ 1 (fx_ K v2) rfl fun a K => lda_ K M 0 rfl rfl rfl rfl rfl rfl rfl R.sz fun a K => val_ K rfl rfl rfl (E.run_b29z rfl) fun a K => cl_ K Tryz.func6 (by kernel_rfl) rfl rfl rfl rfl rfl rfl ((E.keep_on (R.below M.bl) (RZ _) zR_short).mono ?_)
    rintro _ w5 ⟨rfl, b5⟩
    replace M := M.call b5
    refine ⟨_, rfl, fun a K => run_ 2 K rfl fun a K => cl_ K Tryz.func7 (by kernel_rfl) rfl rfl rfl rfl rfl rfl (E.wakes_on.mono ?_)⟩
    rintro _ w6 ⟨rfl, b6⟩
    exact ⟨_, rfl, fun a K => run_ 2 K rfl fun a K => nil_ (ret_ rfl K rfl ⟨rfl, fin (M.call b6).bl⟩)⟩
  rw [if_pos ok] at hE
  rw [hE] at R K
  rw [if_pos rfl] at R
  have h : Enc m kd wk d mv := ⟨ho, m1, m2, mb, ok⟩
  have hR := on_right h
  have few := on_few h
  have TE := times_enc h y1 y2 n19
  have z0 : (!decide ((0 : Int) = 0)) = false := rfl
  have z1 : decide ((0 : Int) = 0) = true := rfl
  have RES : ∀ (Y : Int), 1 ≤ Y → Y ≤ 9999 → ∀ V, Calls Tryz.prog 8 #[.int .i64 Y, .int .i64 m, .agg #[.int .i64 kd, .int .i64 wk, .int .i64 d]] V (Rets V (.tuple #[.int .i64 (fres Y m kd wk d), .int .i64 0])) := fun Y h1 h2 V => res_on h h1 h2
  have hI : InT (dayT m kd wk d mv y 0) := day_InT h y1 y2
  have e0 : wrap64 (86400 * wrap64 (fres y m kd wk d + mv)) = dayT m kd wk d mv y 0 := by rw [day_w h (by omega) (by omega)]; unfold dayT; simp
  have ei : ∀ i : Nat, i < ni + 1 → wrap64 (y + (i : Int)) = y + (i : Int) ∧ 1 ≤ y + (i : Int) ∧ y + (i : Int) ≤ 9999 ∧ wrap64 (86400 * wrap64 (fres (y + (i : Int)) m kd wk d + mv)) = dayT m kd wk d mv y i := fun i hi => ⟨w64 (by omega) (by omega), by omega, by omega, day_w h (by omega) (by omega)⟩
  generalize onR m kd wk d mv = r at R hR few TE
  refine cs_ K rfl rfl (sr_ (run_ 11 K rfl fun a K => nil_ ?_))
  replace K := fg_ (E' := [(0, .int .i64 m), (4, .int .i64 mv), (5, .int .i64 y), (6, .int .i64 (ni : Int)), (15, .pointer (some ⟨g15, 0, none⟩)), (16, .pointer (some ⟨g16, 0, none⟩))]) (ks_ (i := 5) (u := .int .i64 y) (ks_ (i := 6) (u := .int .i64 (ni : Int)) K rfl (congrArg (Value.int .i64) eu)) rfl (congrArg (Value.int .i64) ey)) ⟨rfl, rfl, rfl, rfl, rfl, rfl, trivial⟩
  clear em emv ey eu hsome hE
  refine sr_ (run_ 2 K rfl fun a K => lda_ K M 1 rfl rfl rfl rfl rfl rfl rfl rfl fun a K => cl_ K Tryz.func8 (by kernel_rfl) rfl rfl rfl rfl rfl rfl ((RES y (by omega) (by omega) _).mono ?_))
  rintro _ w7 ⟨rfl, b7⟩
  replace M := M.call b7
  refine ⟨_, rfl, fun a K => run_ 5 K rfl fun a K => nil_ (wp_seq (sr_ ?_))⟩
  refine run_ 2 K rfl fun a K => run_ 1 (fx_ K z0) rfl fun a K => lda_ K M 0 rfl rfl rfl rfl rfl rfl rfl R.sz fun a K => cl_ K Tryz.func9 (by kernel_rfl) rfl rfl rfl rfl rfl rfl ((check_on (R.below M.bl) hR).mono ?_)
  rintro _ w8 ⟨rfl, b8⟩
  replace M := M.call b8
  refine ⟨_, rfl, fun a K => run_ 2 K rfl fun a K => nil_ (cs_ K rfl rfl (sr_ (run_ 1 K rfl fun a K => nil_ (wp_seq (sr_ (run_ 1 K rfl fun a K => nil_ ?_))))))⟩
  refine wp_block (wp_loop (fun a W => ∃ (i : Nat) (v : Value), i ≤ ni + 1 ∧ Kn 130 [(21, .int .i64 (i : Int)), (20, v), (18, .int .i64 (fres y m kd wk d)), (0, .int .i64 m), (4, .int .i64 mv), (5, .int .i64 y), (6, .int .i64 (ni : Int)), (15, .pointer (some ⟨g15, 0, none⟩)), (16, .pointer (some ⟨g16, 0, none⟩))] a ∧ On [(g16, .cells cs 29 (0, 0)), (g15, .cells #[.int .i64 kd, .int .i64 wk, .int .i64 d] 24 (0, 0))] w2 W ∧ Kd.R (Kd.int .i64) 3 W w2.heap.size (fun _ => True) v ((List.range i).map (dayT m kd wk d mv y)) ∧ (∀ p ∈ ([(g16, .cells cs 29 (0, 0)), (g15, .cells #[.int .i64 kd, .int .i64 wk, .int .i64 d] 24 (0, 0))] : List (Nat × Obj)), some p.1 ≠ v.ownBlock)) (fun a _ => leftN 21 (ni + 1) a) ⟨0, .slice none 0 0, Nat.zero_le _, fg_ K ⟨rfl, rfl, rfl, rfl, rfl, rfl, rfl, rfl, rfl, trivial⟩, M, Kd.R_nil _ _ _ _ _, fF_⟩ ?_)
  clear K M
  rintro a W ⟨i, v, hi, K, M, Rv, F⟩
  refine wp_seq (sr_ (run_ 3 K rfl fun a2 K2 => nil_ ?_))
  by_cases hc : i < ni + 1
  case neg =>
    obtain rfl := eqn_ hi hc
    refine cf_ K2 rfl (le_f hc) (ex_ (thn_ ?_))
    replace R := R.below M.bl
    replace fin := fun {V : World} (q : Below W.heap.size W V) => fin (below_step M.bl q)
    replace M := M.here
    obtain ⟨A, c, rfl, h3, C⟩ := Kd.R_reads Rv
    replace K := K2
    clear K2
    have hlen : ((List.range (ni + 1)).map (dayT m kd wk d mv y)).length = ni + 1 := by simp
    have hget : ((List.range (ni + 1)).map (dayT m kd wk d mv y))[ni]? = some (dayT m kd wk d mv y ni) := by simp
    have TT : ∀ V, Rul V cs r → Calls Tryz.prog 10 #[.agg cs, .int .i64 (wrap64 (86400 * wrap64 (fres y m kd wk d + mv))), .int .i64 (-4611686018427387904), .int .i64 (dayT m kd wk d mv y ni), .int .i64 1000] V fun e W' => ∃ v', e = .returned (.tuple #[v', .int .i64 (2 * ((ni : Int) + 1)), .int .i64 0]) ∧ Kd.R (Kd.int .i64) 3 W' V.heap.size (fun _ => True) v' ((List.range (ni + 1)).map (dayT m kd wk d mv y)) ∧ Below V.heap.size V W' := fun V hV => by
      have T := Times_on (from_ := -4611686018427387904) (to_ := dayT m kd wk d mv y ni) (F := 1000) hV hR few hI
      rw [TE] at T
      rw [e0]
      exact T
    clear TE ei e0 RES hI
    generalize dayT m kd wk d mv y ni = x at hget TT
    generalize ((List.range (ni + 1)).map (dayT m kd wk d mv y)) = X at Rv C hlen hget TT h3 K
    obtain ⟨x0, hlt, g17, l6⟩ := lenX_ hlen n19
    obtain ⟨ad, eA, hat⟩ := C_at C x0
    subst eA
    have hcell := hat ni x hget
    have HC : ∀ V, On [(g16, .cells cs 29 (0, 0)), (g15, .cells #[.int .i64 kd, .int .i64 wk, .int .i64 d] 24 (0, 0))] W V → V.cell? (ad.add (ni * 1)) = some (.int .i64 x) := fun V hV => cell_on hV hcell
    refine dseq_ fl rfl rfl M.drew ( dp_ 126 11 [1, 2, 3, 4, 5, 6] K rfl rfl (by kernel_rfl) fun a K => dlda_ 127 0 K M.drew 0 rfl rfl rfl rfl rfl rfl rfl rfl R.sz (by kernel_rfl) fun a K => dt_ 255 7 K M.drew rfl rfl rfl rfl (by kernel_rfl) (fun W hW => run_ix22 (kk := ni) hlt g17 rfl (K.of (x := .tmp 112) rfl) (K.of (x := .tmp 113) rfl)) fun a K => dt_ 511 8 K M.drew rfl rfl rfl rfl (by kernel_rfl) (fun W hW => run_ld rfl rfl (K.of (x := .tmp 114) rfl) (HC W hW)) fun a K => dc_ 1023 9 K Tryz.func10 (by kernel_rfl) rfl rfl rfl rfl rfl rfl rfl (by kernel_rfl) ((TT _ (R.below M.drew.bl)).mono ?_))
    rintro _ w9 ⟨v3, rfl, R3, b9⟩
    replace M := M.drew.call b9
    refine ⟨_, rfl, M, fun a K => dp_ 131071 0 [10, 11, 14, 12, 15, 13, 16] K rfl rfl (by kernel_rfl) fun a K => dend_ (by kernel_rfl) ?_⟩
    replace Rv := Kd.R_below (Kd.R_drew Rv) b9
    obtain ⟨A3, c3, rfl, h4, C3⟩ := Kd.R_reads R3
    obtain ⟨A4, c4, e4, h5, C4⟩ := Kd.R_reads Rv
    injection e4 with q1 q2 q3
    subst q1 q3
    refine sr_ (run_ 2 K rfl fun a K => run_ 3 (fx_ K z1) rfl fun a K => cl_ K Tryz.func11 (by kernel_rfl) rfl rfl rfl rfl rfl rfl ((ints_on C3 h4 C4 h5 l6).mono ?_))
    rintro _ w10 ⟨rfl, b10⟩
    replace M := M.call b10
    refine ⟨_, rfl, fun a K => run_ 2 K rfl fun a K => cl_ K Tryz.func7 (by kernel_rfl) rfl rfl rfl rfl rfl rfl (E.wakes_on.mono ?_)⟩
    rintro _ w11 ⟨rfl, b11⟩
    exact ⟨_, rfl, fun a K => run_ 2 K rfl fun a K => nil_ (ret_ rfl K rfl ⟨rfl, fin (M.call b11).bl⟩)⟩
  obtain ⟨w1e, h1e, h2e, te⟩ := ei i hc
  have einc := kp_inc hc (n1_ n19)
  have CR : ∀ V, Calls Tryz.prog 8 #[.int .i64 (wrap64 (y + (i : Int))), .int .i64 m, .agg #[.int .i64 kd, .int .i64 wk, .int .i64 d]] V (Rets V (.tuple #[.int .i64 (fres (y + (i : Int)) m kd wk d), .int .i64 0])) := fun V => by rw [w1e]; exact RES _ h1e h2e V
  have esucc : (List.range (i + 1)).map (dayT m kd wk d mv y) = (List.range i).map (dayT m kd wk d mv y) ++ [wrap64 (86400 * wrap64 (fres (y + (i : Int)) m kd wk d + mv))] := by
    rw [te, List.range_succ, List.map_append]
    rfl
  have lenI : ((List.range i).map (dayT m kd wk d mv y)).length ≤ 17000000000000 := lenI_ hc n19
  refine ck_ K2 rfl (le_t hc) (wp_seq (bjn_ (fun a' W' => ∃ v', Kn 130 [(21, .int .i64 (i : Int)), (20, v'), (18, .int .i64 (fres y m kd wk d)), (0, .int .i64 m), (4, .int .i64 mv), (5, .int .i64 y), (6, .int .i64 (ni : Int)), (15, .pointer (some ⟨g15, 0, none⟩)), (16, .pointer (some ⟨g16, 0, none⟩))] a' ∧ On [(g16, .cells cs 29 (0, 0)), (g15, .cells #[.int .i64 kd, .int .i64 wk, .int .i64 d] 24 (0, 0))] w2 W' ∧ Kd.R (Kd.int .i64) 3 W' w2.heap.size (fun _ => True) v' ((List.range (i + 1)).map (dayT m kd wk d mv y)) ∧ (∀ p ∈ ([(g16, .cells cs 29 (0, 0)), (g15, .cells #[.int .i64 kd, .int .i64 wk, .int .i64 d] 24 (0, 0))] : List (Nat × Obj)), some p.1 ≠ v'.ownBlock)) ?_ ?_))
  case refine_2 =>
    rintro a' W' ⟨v', K', M', R', F'⟩
    refine rg_ (run_ 3 K' rfl fun a5 K5 => nl_ ⟨⟨i + 1, v', hc, fg_ (ks_ (i := 21) K5 rfl (congrArg (Value.int .i64) einc)) ⟨rfl, rfl, rfl, rfl, rfl, rfl, rfl, rfl, rfl, trivial⟩, M', R', F'⟩, ?_⟩)
    rw [leftN_ (d := 21) K5 rfl, leftN_ (d := 21) K rfl, einc]
    exact leftN_lt hc
  refine sr_ (run_ 4 K2 rfl fun a K => lda_ K M 1 rfl rfl rfl rfl rfl rfl rfl rfl fun a K => cl_ K Tryz.func8 (by kernel_rfl) rfl rfl rfl rfl rfl rfl ((CR _).mono ?_))
  rintro _ w9 ⟨rfl, b9⟩
  replace M := M.call b9
  replace Rv := Kd.R_below Rv b9
  refine ⟨_, rfl, fun a K => run_ 5 K rfl fun a K => nil_ (wp_seq (sr_ (run_ 2 K rfl fun a K => nil_ (cs_ K rfl rfl ?_))))⟩
  refine rg_ (run_ 5 K rfl fun a K => ap1_ K M rfl rfl rfl rfl rfl rfl rfl rfl rfl (fun _ => rfl) Rv F lenI fun a v1 W4 u R4 M4 F4 K4 => run_ 1 K4 rfl fun a K => nl_ ⟨v1, fg_ K ⟨rfl, rfl, rfl, rfl, rfl, rfl, rfl, rfl, rfl, trivial⟩, M4, by rw [esucc]; exact R4, F4⟩)
end Go.Proofs.YtfinhaghgmnegaaGreat.Pure
