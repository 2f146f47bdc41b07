/- EncodeSame answers true. No condition. -/
import Derived.Test.YtfinhaghgmnegaaE24w
import Derived.Test.YtfinhaghgmnegaaE24m
import Derived.Test.YtfinhaghgmnegaaOx29
import Derived.Test.YtfinhaghgmnegaaOx36
import Derived.Test.YtfinhaghgmnegaaOx38
namespace Go.Proofs.Ytfinhaghgmnegaa.Pure
open Go.RowKit Go.Proofs.Ytfinhaghgmnegaa.O Go.Proofs.YtfinhaghgmnegaaW.PrintWords Go.Proofs.YtfinhaghgmnegaaW.PrintLast
open Go.Proofs.Ytfinhaghgmnegaa.Civ
set_option linter.unusedVariables false
set_option linter.unusedSimpArgs false
set_option maxRecDepth 100000
set_option maxHeartbeats 4000000
section
variable {ρ : Operand → Value} {o : Oper} {w : World}
theorem fd1 (a b c : Int) (w : World) : (Instr.field 49 (.agg #[.int .i64 a, .int .i64 b, .int .i64 c]) 1).run Try.prog w = .ok (.int .i64 b) w := by kernel_rfl
theorem fd2 (a b c : Int) (w : World) : (Instr.field 49 (.agg #[.int .i64 a, .int .i64 b, .int .i64 c]) 2).run Try.prog w = .ok (.int .i64 c) w := by kernel_rfl
/-- A date's month; its day. -/
theorem run_fd1 {x : Operand} {a b c : Int} (ho : o.op = .field 49 x 1) (hx : ρ x = .agg #[.int .i64 a, .int .i64 b, .int .i64 c]) : (execOp ρ o).run Try.prog w = .ok (.value (.int .i64 b)) w := by
  unfold execOp; rw [ho]
  show ((do pure (Next.value (← Instr.field 49 (ρ x) 1)) : Sem Next)).run Try.prog w = _
  rw [hx, Sem.run_bind, fd1]
  rfl
theorem run_fd2 {x : Operand} {a b c : Int} (ho : o.op = .field 49 x 2) (hx : ρ x = .agg #[.int .i64 a, .int .i64 b, .int .i64 c]) : (execOp ρ o).run Try.prog w = .ok (.value (.int .i64 c)) w := by
  unfold execOp; rw [ho]
  show ((do pure (Next.value (← Instr.field 49 (ρ x) 2)) : Sem Next)).run Try.prog w = _
  rw [hx, Sem.run_bind, fd2]
  rfl
end
theorem form_on (a b c : Int) : ∃ kd wk d, OnR kd wk d ∧ ∀ W, Calls Try.prog 14 #[.int .i64 a, .int .i64 b, .int .i64 c] W (Rets W (.agg #[.int .i64 kd, .int .i64 wk, .int .i64 d])) := by
  obtain ⟨kd, wk, d, ho, e⟩ := some07 a b c
  exact ⟨kd, wk, d, ho, fun W => solsticelaw07_Some.calls a b c kd wk d W e⟩
theorem res_on {w : World} (y m kd wk d : Int) : Calls Try.prog 15 #[.int .i64 y, .int .i64 m, .agg #[.int .i64 kd, .int .i64 wk, .int .i64 d]] w (Rets w (.tuple #[.int .i64 (resV y m kd wk d).1, .int .i64 (resV y m kd wk d).2])) := by
  obtain ⟨k, h⟩ := (wres y m kd wk d).rounds
  exact week_Resolve.calls k y m kd wk d _ _ w h
theorem date_on {w : World} {n : Int} (h : -719528 ≤ n) (h' : n ≤ 2933262) : Calls Try.prog 16 #[.int .i64 n] w (Rets w (.agg #[.int .i64 (dt n).1, .int .i64 (dt n).2.1, .int .i64 (dt n).2.2])) := by
  obtain ⟨k, hk⟩ := (rdate_dt h h').rounds
  exact solsticeref01_Date.calls k n _ _ _ w hk
/-- An encoded form's day is of its month. -/
theorem same_in {m kd w d y : Int} (ho : OnR kd w d) (m0 : 1 ≤ m) (m1 : m ≤ 12) (y0 : 1 ≤ y) (y1 : y ≤ 9990) (h2 : ¬ kd = 2) (he : encP m kd d 0) : resV y m kd w d = (fres y m kd w d, 0) ∧ (dt (fres y m kd w d)).2.1 = m ∧ -719528 ≤ fres y m kd w d ∧ fres y m kd w d ≤ 2933262 := by
  have hl := ln_2001 m y
  have hd : 1 ≤ d ∧ d ≤ 31 := by unfold OnR at ho; omega
  have hq : d ≤ ln 2001 m ∧ 1 ≤ fst24 kd d 0 ∧ fst24 kd d 0 + many24 kd - 1 ≤ ln 2001 m := by unfold encP at he; omega
  have fd : fday y m kd d = d := by unfold fday; rw [if_neg h2]
  have hr : Rt y m (fday y m kd d) := by rw [fd]; exact ⟨by omega, by omega, m0, m1, hd.1, by omega⟩
  obtain ⟨D, hD, hRD⟩ : ∃ D, fres y m kd w d = num y m D ∧ Rt y m D := by
    have hu := upw_bd (num y m d) w
    have hdn := dnw_bd (num y m d) w
    unfold fst24 many24 at hq
    by_cases h1 : kd = 1
    · exact ⟨d, by unfold fres; rw [if_pos h1], by rw [fd] at hr; exact hr⟩
    · rw [if_neg h1] at hq
      by_cases h3 : kd = 3
      · rw [if_neg (by omega)] at hq
        exact ⟨d + upw (num y m d) w, by unfold fres; rw [if_neg h1, if_pos h3]; generalize upw (num y m d) w = u; unfold num; omega, ⟨by omega, by omega, m0, m1, by omega, by omega⟩⟩
      · rw [if_pos (by unfold OnR at ho; omega)] at hq
        exact ⟨d - dnw (num y m d) w, by unfold fres; rw [if_neg h1, if_neg h3, fd]; generalize dnw (num y m d) w = u; unfold num; omega, ⟨by omega, by omega, m0, m1, by omega, by omega⟩⟩
  have b := num_bd hRD
  refine ⟨?_, ?_, ?_, ?_⟩
  · unfold resV
    rw [if_pos ho, if_neg (show ¬ (y < 1 ∨ 9999 < y) by omega), if_pos hr]
  · rw [hD, dt_num hRD]
  · rw [hD]; exact b.1
  · rw [hD]; exact b.2
/-- What is met from a year on. -/
def Ahead (m kd w d : Int) (b : Bool) (i : Nat) : Prop := b = true ∨ ∃ j : Int, (i : Int) ≤ j ∧ j < 40 ∧ Met m kd w d j
theorem ahead_t (m kd w d : Int) (i : Nat) : Ahead m kd w d true i := Or.inl rfl
theorem ahead_f {m kd w d : Int} {i : Nat} (h : Ahead m kd w d false i) (hi : ¬ Met m kd w d (i : Int)) (b : Bool) : Ahead m kd w d b (i + 1) := by
  rcases h with h | ⟨j, j0, j1, j2⟩
  · cases h
  · refine Or.inr ⟨j, ?_, j1, j2⟩
    by_cases hc : j = (i : Int)
    · subst hc; exact absurd j2 hi
    · omega
theorem ahead_end {m kd w d : Int} {b : Bool} (h : Ahead m kd w d b 40) : b = true := by
  rcases h with h | ⟨j, j0, j1, _⟩
  · exact h
  · omega
/-- The three ways of a year: no such day; a day of another month; a day of the month. -/
theorem year_cases (m kd w d : Int) (ho : OnR kd w d) {i : Nat} (hi : i < 40) : wrap64 (2000 + (i : Int)) = 2000 + (i : Int) ∧ ((resV (2000 + (i : Int)) m kd w d = (0, 4)) ∨ (resV (2000 + (i : Int)) m kd w d = (fres (2000 + (i : Int)) m kd w d, 0) ∧ Rt (2000 + (i : Int)) m (fday (2000 + (i : Int)) m kd d) ∧ -719528 ≤ fres (2000 + (i : Int)) m kd w d ∧ fres (2000 + (i : Int)) m kd w d ≤ 2933262)) := by
  refine ⟨w64 (by omega) (by omega), ?_⟩
  unfold resV
  rw [if_pos ho, if_neg (show ¬ (2000 + (i : Int) < 1 ∨ 9999 < 2000 + (i : Int)) by omega)]
  by_cases hr : Rt (2000 + (i : Int)) m (fday (2000 + (i : Int)) m kd d)
  · rw [if_pos hr]
    exact Or.inr ⟨rfl, hr, fres_bd (by omega) (by omega) hr⟩
  · rw [if_neg hr]
    exact Or.inl rfl
theorem nl_ {ops : Array Oper} {Q : Exit → Act → World → Prop} {a : Act} {w : World} (h : Q .normal a w) : wpList Try.prog ops Q [] a w := h
theorem bjn_ (J : Act → World → Prop) {a : Act} {w : World} {id : Nat} {x : Code} {R : Act → World → Prop} {Q : Exit → Act → World → Prop} (h : x.wp Try.prog (Exit.inBlock id (Exit.then J Q)) a w) (k : ∀ a' w', J a' w' → R a' w') : (Code.block id x).wp Try.prog (Exit.then R Q) a w := by
  have go : ∀ e a' w', Exit.then J Q e a' w' → Exit.then R Q e a' w' := fun e a' w' hq => by
    cases e with
    | normal =>
      exact k _ _ hq
    | _ => exact hq
  refine wp_block (wp_mono h (fun e a' w' hq => ?_))
  cases e with
  | exit i =>
    by_cases q : i = id
    · have hq' : Exit.then J Q .normal a' w' := by unfold Exit.inBlock at hq; simpa [q] using hq
      have := go _ _ _ hq'
      unfold Exit.inBlock
      simpa [q] using this
    · have hq' : Exit.then J Q (.exit i) a' w' := by unfold Exit.inBlock at hq; simpa [q] using hq
      have := go _ _ _ hq'
      unfold Exit.inBlock
      simpa [q] using this
  | normal => exact go .normal a' w' hq
  | _ => exact hq
theorem lt40 {i : Nat} (h : i < 40) : decide ((i : Int) < 40) = true := decide_eq_true (by omega)
theorem ge40 {i : Nat} (h : ¬ i < 40) : decide ((i : Int) < 40) = false := decide_eq_false (by omega)
theorem eq40 {i : Nat} (h : i ≤ 40) (h' : ¬ i < 40) : i = 40 := by omega
theorem EncodeSame_on {w : World} (a0 a1 a2 a3 a4 : Int) : Calls Try.prog 5 #[.int .i64 a0, .int .i64 a1, .int .i64 a2, .int .i64 a3, .int .i64 a4] w (Rets w (.bool true)) := by
  obtain ⟨m, m0, m1, em⟩ := um1 a0 (n := 12) (by decide) (by decide)
  obtain ⟨y, y0, y1, ey⟩ := um1 a4 (n := 9990) (by decide) (by decide)
  obtain ⟨kd, wk, d, ho, hsome⟩ := form_on a1 a2 a3
  have hE : onE m kd wk d 0 = if encP m kd d 0 then 0 else 17 := by unfold onE; rw [if_pos ho, if_neg (by omega)]
  have hL : kd = 2 → encP m kd d 0 := fun q => by unfold encP; omega
  have hS : ¬ kd = 2 → encP m kd d 0 → _ := same_in ho m0 m1 y0 y1
  have hM : ¬ kd = 2 → ¬ encP m kd d 0 → Ahead m kd wk d false 0 := fun h2 he => by
    obtain ⟨j, j0, j1, j2⟩ := met_ex ho m0 m1 h2 he
    exact Or.inr ⟨j, j0, j1, j2⟩
  have z1 : decide ((0 : Int) = 0) = true := rfl
  have z0 : (!decide ((0 : Int) = 0)) = false := rfl
  have z4 : (!decide ((4 : Int) = 0)) = true := rfl
  refine en_ Try.func5 rfl rfl rfl fun a K => sr_ (run_ 1 K rfl fun a K => nil_ (sr_ (run_ 6 K rfl fun a K => nil_ ?_)))
  replace K := fg_ (E' := [(0, .int .i64 m), (1, .int .i64 a1), (2, .int .i64 a2), (3, .int .i64 a3), (4, .int .i64 a4)]) (ks_ (i := 0) (u := .int .i64 m) K rfl (congrArg (Value.int .i64) em)) ⟨rfl, rfl, rfl, rfl, rfl, trivial⟩
  refine sr_ (run_ 3 K rfl fun a K => cl_ K Try.func14 (by kernel_rfl) rfl rfl rfl rfl rfl rfl ((hsome _).mono ?_))
  rintro _ w1 ⟨rfl, b1⟩
  have M := (On.nil w).call b1
  refine ⟨_, rfl, fun a K => nw_ K M rfl rfl rfl rfl rfl rfl rfl (fun _ => rfl) rfl rfl rfl fun a g11 W M K => nil_ (sr_ (run_ 1 K rfl fun a K => lda_ K M 0 rfl rfl rfl rfl rfl rfl rfl rfl fun a K => cl_ K Try.func6 (by kernel_rfl) rfl rfl rfl rfl rfl rfl ((on_on m kd wk d (mv := 0) (by decide) (by decide)).mono ?_)))⟩
  rintro _ w2 ⟨cs, rfl, RS, o1, b2⟩
  replace M := M.call b2
  have zs := (RS _ (Keep.refl _)).sz
  clear RS em m0 m1 y0 y1 hsome
  refine ⟨_, rfl, fun a K => run_ 3 K rfl fun a K => nw_ K M rfl rfl rfl rfl rfl rfl rfl (fun _ => rfl) rfl zs o1 fun a g12 W M K => run_ 1 K rfl fun a K => nil_ (wp_seq (sr_ ?_))⟩
  refine run_ 1 K rfl fun a K => ld_ K M 1 rfl rfl rfl rfl rfl rfl rfl rfl fun a K => run_ 1 K rfl fun a K => nil_ ?_
  by_cases h2 : kd = 2
  case pos =>
    rw [if_pos (hL h2)] at hE
    rw [hE] at K
    refine ct_ K rfl (decide_eq_true h2) (sr_ ?_)
    refine run_ 3 K rfl fun a K => cl_ (fx_ K z1) Try.func12 (by kernel_rfl) rfl rfl rfl rfl rfl rfl ((wakes_on).mono ?_)
    rintro _ w3 ⟨rfl, b3⟩
    replace M := M.call b3
    refine ⟨_, rfl, fun a K => run_ 2 K rfl fun a K => nil_ ?_⟩
    exact ret_ rfl K rfl ⟨rfl, M.bl⟩
  refine cf_ K rfl (decide_eq_false h2) (wp_skip (thn_ (sr_ (run_ 6 K rfl fun a K => nil_ ?_))))
  by_cases he : encP m kd d 0
  case pos =>
    rw [if_pos he] at hE
    rw [hE] at K
    obtain ⟨s1, s2, s3, s4⟩ := hS h2 he
    have CR := fun V => res_on (w := V) y m kd wk d
    have C15 : ∀ V, Calls Try.prog 15 #[.int .i64 y, .int .i64 m, .agg #[.int .i64 kd, .int .i64 wk, .int .i64 d]] V (Rets V (.tuple #[.int .i64 (fres y m kd wk d), .int .i64 0])) := fun V => by
      have := CR V
      rw [s1] at this
      exact this
    have C16 : ∀ V, Calls Try.prog 16 #[.int .i64 (fres y m kd wk d)] V (Rets V (.agg #[.int .i64 (dt (fres y m kd wk d)).1, .int .i64 (dt (fres y m kd wk d)).2.1, .int .i64 (dt (fres y m kd wk d)).2.2])) := fun V => date_on s3 s4
    have v7 := decide_eq_true s2
    generalize fres y m kd wk d = n at *
    replace K := fg_ (E' := [(13, .int .i64 0), (0, .int .i64 m), (4, .int .i64 y), (11, .pointer (some ⟨g11, 0, none⟩))]) (ks_ (i := 4) (u := .int .i64 y) K rfl (congrArg (Value.int .i64) ey)) ⟨rfl, rfl, rfl, rfl, trivial⟩
    clear CR s1 s3 s4 hS hM ey
    refine wp_seq (sr_ (run_ 2 K rfl fun a K => nil_ (ct_ K rfl rfl (sr_ (run_ 2 K rfl fun a K => lda_ K M 1 rfl rfl rfl rfl rfl rfl rfl rfl fun a K => cl_ K Try.func15 (by kernel_rfl) rfl rfl rfl rfl rfl rfl ((C15 _).mono ?_))))))
    rintro _ w8 ⟨rfl, b8⟩
    replace M := M.call b8
    refine ⟨_, rfl, fun a K => run_ 5 K rfl fun a K => nil_ (sr_ ?_)⟩
    refine run_ 3 K rfl fun a K => run_ 1 (fx_ K z1) rfl fun a K => cl_ K Try.func16 (by kernel_rfl) rfl rfl rfl rfl rfl rfl ((C16 _).mono ?_)
    rintro _ w4 ⟨rfl, b4⟩
    replace M := M.call b4
    refine ⟨_, rfl, fun a K => val_ K rfl rfl rfl (run_fd1 rfl (K.of (x := .tmp 61) rfl)) fun a K => run_ 4 K rfl fun a K => cl_ (fx_ K v7) Try.func12 (by kernel_rfl) rfl rfl rfl rfl rfl rfl ((wakes_on).mono ?_)⟩
    rintro _ w10 ⟨rfl, b10⟩
    replace M := M.call b10
    refine ⟨_, rfl, fun a K => run_ 2 K rfl fun a K => nil_ ?_⟩
    exact ret_ rfl K rfl ⟨rfl, M.bl⟩
  rw [if_neg he] at hE
  rw [hE] at K
  have A0 := hM h2 he
  clear hS hM hE hL
  refine wp_seq (sr_ (run_ 2 K rfl fun a K => nil_ (cf_ K rfl rfl (wp_skip (thn_ (sr_ (run_ 1 K rfl fun a K => nil_ (wp_seq (sr_ (run_ 1 K rfl fun a K => nil_ ?_))))))))))
  refine wp_block (wp_loop (fun a W => ∃ (i : Nat) (b : Bool), i ≤ 40 ∧ Ahead m kd wk d b i ∧ Kn 107 [(17, .int .i64 (i : Int)), (16, .bool b), (0, .int .i64 m), (11, .pointer (some ⟨g11, 0, none⟩))] a ∧ On ([(g12, .cells cs 29 (0, 0)), (g11, .cells #[.int .i64 kd, .int .i64 wk, .int .i64 d] 23 (0, 0))] : List (Nat × Obj)) w W) (fun a _ => leftN 17 40 a) ⟨0, false, Nat.zero_le _, A0, fg_ K ⟨rfl, rfl, rfl, rfl, trivial⟩, M⟩ ?_)
  clear K M A0
  rintro a W ⟨i, b, hi, hA, K, M⟩
  refine wp_seq (sr_ (run_ 2 K rfl fun a2 K2 => nil_ ?_))
  by_cases hc : i < 40
  case neg =>
    obtain rfl := eq40 hi hc
    obtain rfl := ahead_end hA
    refine cf_ K2 rfl (ge40 hc) (ex_ (thn_ (sr_ ?_)))
    replace K := K2
    refine run_ 2 K rfl fun a K => cl_ K Try.func12 (by kernel_rfl) rfl rfl rfl rfl rfl rfl ((wakes_on).mono ?_)
    rintro _ w2 ⟨rfl, b2⟩
    replace M := M.call b2
    refine ⟨_, rfl, fun a K => run_ 2 K rfl fun a K => nil_ ?_⟩
    exact ret_ rfl K rfl ⟨rfl, M.bl⟩
  obtain ⟨w1e, hy⟩ := year_cases m kd wk d ho hc
  have einc := kp_inc hc (by decide)
  refine ck_ K2 rfl (lt40 hc) (wp_seq (bjn_ (fun a' W' => ∃ b' : Bool, Ahead m kd wk d b' (i + 1) ∧ Kn 107 [(17, .int .i64 (i : Int)), (16, .bool b'), (0, .int .i64 m), (11, .pointer (some ⟨g11, 0, none⟩))] a' ∧ On ([(g12, .cells cs 29 (0, 0)), (g11, .cells #[.int .i64 kd, .int .i64 wk, .int .i64 d] 23 (0, 0))] : List (Nat × Obj)) w W') ?_ ?_))
  case refine_2 =>
    rintro a' W' ⟨b', hA', K', M'⟩
    refine rg_ (run_ 3 K' rfl fun a5 K5 => nl_ ⟨⟨i + 1, b', hc, hA', fg_ (ks_ (i := 17) K5 rfl (congrArg (Value.int .i64) einc)) ⟨rfl, rfl, rfl, rfl, trivial⟩, M'⟩, ?_⟩)
    rw [leftN_ (d := 17) K5 rfl, leftN_ (d := 17) K rfl, einc]
    exact leftN_lt hc
  have C15 : ∀ V, Calls Try.prog 15 #[.int .i64 (wrap64 (2000 + (i : Int))), .int .i64 m, .agg #[.int .i64 kd, .int .i64 wk, .int .i64 d]] V (Rets V (.tuple #[.int .i64 (resV (2000 + (i : Int)) m kd wk d).1, .int .i64 (resV (2000 + (i : Int)) m kd wk d).2])) := fun V => by rw [w1e]; exact res_on _ _ _ _ _
  refine sr_ (run_ 3 K2 rfl fun a K => lda_ K M 1 rfl rfl rfl rfl rfl rfl rfl rfl fun a K => cl_ K Try.func15 (by kernel_rfl) rfl rfl rfl rfl rfl rfl ((C15 _).mono ?_))
  rintro _ w9 ⟨rfl, b9⟩
  replace M := M.call b9
  refine ⟨_, rfl, fun a K => run_ 5 K rfl fun a K => nil_ ?_⟩
  clear C15 K2 einc w1e
  replace K := fg_ (E' := [(18, .int .i64 (resV (2000 + (i : Int)) m kd wk d).1), (19, .int .i64 (resV (2000 + (i : Int)) m kd wk d).2), (17, .int .i64 (i : Int)), (16, .bool b), (0, .int .i64 m), (11, .pointer (some ⟨g11, 0, none⟩))]) K ⟨rfl, rfl, rfl, rfl, rfl, rfl, trivial⟩
  cases b with
  | true =>
    refine rg_ ?_
    refine run_ 23 K rfl fun a K => nl_ ?_
    exact ⟨true, ahead_t _ _ _ _ _, fg_ K ⟨rfl, rfl, rfl, rfl, trivial⟩, M⟩
  | false =>
  rcases hy with hy | ⟨hy, hr, n1, n2⟩
  · rw [hy] at K
    refine rg_ ?_
    refine run_ 6 K rfl fun a K => run_ 17 (fx_ K z4) rfl fun a K => nl_ ?_
    exact ⟨true, ahead_t _ _ _ _ _, fg_ K ⟨rfl, rfl, rfl, rfl, trivial⟩, M⟩
  rw [hy] at K
  have C16 : ∀ V, Calls Try.prog 16 #[.int .i64 (fres (2000 + (i : Int)) m kd wk d)] V (Rets V (.agg #[.int .i64 (dt (fres (2000 + (i : Int)) m kd wk d)).1, .int .i64 (dt (fres (2000 + (i : Int)) m kd wk d)).2.1, .int .i64 (dt (fres (2000 + (i : Int)) m kd wk d)).2.2])) := fun V => date_on n1 n2
  have hmet : Met m kd wk d (i : Int) → (dt (fres (2000 + (i : Int)) m kd wk d)).2.1 = m → m = 2 ∧ (dt (fres (2000 + (i : Int)) m kd wk d)).2.2 = 29 := fun q c => by
    rcases q with q | q | q
    · exact absurd hr q
    · exact absurd c q
    · exact q
  clear hy hr n1 n2
  generalize dt (fres (2000 + (i : Int)) m kd wk d) = D at *
  generalize fres (2000 + (i : Int)) m kd wk d = n at *
  refine rg_ ?_
  by_cases c1 : D.2.1 = m
  case neg =>
    have v1 : (!decide (D.2.1 = m)) = true := by rw [decide_eq_false c1]; rfl
    refine run_ 6 K rfl fun a K => run_ 1 (fx_ K z0) rfl fun a K => cl_ K Try.func16 (by kernel_rfl) rfl rfl rfl rfl rfl rfl ((C16 _).mono ?_)
    rintro _ w7 ⟨rfl, b7⟩
    replace M := M.call b7
    refine ⟨_, rfl, fun a K => val_ K rfl rfl rfl (run_fd1 rfl (K.of (x := .tmp 88) rfl)) fun a K => run_ 4 K rfl fun a K => run_ 10 (fx_ K v1) rfl fun a K => nl_ ?_⟩
    exact ⟨true, ahead_t _ _ _ _ _, fg_ K ⟨rfl, rfl, rfl, rfl, trivial⟩, M⟩
  have v1 : (!decide (D.2.1 = m)) = false := by rw [decide_eq_true c1]; rfl
  by_cases c2 : m = 2
  case neg =>
    have v2 := decide_eq_false c2
    refine run_ 6 K rfl fun a K => run_ 1 (fx_ K z0) rfl fun a K => cl_ K Try.func16 (by kernel_rfl) rfl rfl rfl rfl rfl rfl ((C16 _).mono ?_)
    rintro _ w7 ⟨rfl, b7⟩
    replace M := M.call b7
    refine ⟨_, rfl, fun a K => val_ K rfl rfl rfl (run_fd1 rfl (K.of (x := .tmp 88) rfl)) fun a K => run_ 4 K rfl fun a K => run_ 3 (fx_ K v1) rfl fun a K => run_ 7 (fx_ K v2) rfl fun a K => nl_ ?_⟩
    exact ⟨false, ahead_f hA (fun q => c2 (hmet q c1).1) _, fg_ K ⟨rfl, rfl, rfl, rfl, trivial⟩, M⟩
  have v2 := decide_eq_true c2
  refine run_ 6 K rfl fun a K => run_ 1 (fx_ K z0) rfl fun a K => cl_ K Try.func16 (by kernel_rfl) rfl rfl rfl rfl rfl rfl ((C16 _).mono ?_)
  rintro _ w7 ⟨rfl, b7⟩
  replace M := M.call b7
  refine ⟨_, rfl, fun a K => val_ K rfl rfl rfl (run_fd1 rfl (K.of (x := .tmp 88) rfl)) fun a K => run_ 4 K rfl fun a K => run_ 3 (fx_ K v1) rfl fun a K => run_ 1 (fx_ K v2) rfl fun a K => cl_ K Try.func16 (by kernel_rfl) rfl rfl rfl rfl rfl rfl ((C16 _).mono ?_)⟩
  rintro _ w17 ⟨rfl, b17⟩
  replace M := M.call b17
  refine ⟨_, rfl, fun a K => val_ K rfl rfl rfl (run_fd2 rfl (K.of (x := .tmp 98) rfl)) fun a K => run_ 4 K rfl fun a K => nl_ ?_⟩
  by_cases c3 : D.2.2 = 29
  · exact ⟨true, ahead_t _ _ _ _ _, fg_ (ks_ (i := 16) (u := .bool true) K rfl (congrArg Value.bool (decide_eq_true c3))) ⟨rfl, rfl, rfl, rfl, trivial⟩, M⟩
  · exact ⟨false, ahead_f hA (fun q => c3 (hmet q c1).2) _, fg_ (ks_ (i := 16) (u := .bool false) K rfl (congrArg Value.bool (decide_eq_false c3))) ⟨rfl, rfl, rfl, rfl, trivial⟩, M⟩
end Go.Proofs.Ytfinhaghgmnegaa.Pure
