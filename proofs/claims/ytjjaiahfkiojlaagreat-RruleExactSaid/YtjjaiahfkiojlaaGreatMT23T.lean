-- What some functions of the program compute: a text of this claim's own (lines first written by the kit's tool, some proved anew).
/- The reference's small functions, its Period and its Span, as contracts. No condition beyond those each lemma names. -/
/- The reference's Period and Span, as contracts. No condition beyond those each lemma names. -/
import Derived.Test.YtjjaiahfkiojlaaGreatMOx0
import Derived.Test.YtjjaiahfkiojlaaGreatMOx35
import Derived.Test.YtjjaiahfkiojlaaGreatMT23P4
import Derived.Test.YtjjaiahfkiojlaaGreatT23P2
import Derived.Test.YtjjaiahfkiojlaaGreatMOx10
import Derived.Test.YtjjaiahfkiojlaaGreatMT23e
import Derived.Test.YtjjaiahfkiojlaaGreatMHS0
import Derived.Test.YtjjaiahfkiojlaaGreatMOx9
import Derived.Test.YtjjaiahfkiojlaaGreatOx12
import Derived.Test.YtjjaiahfkiojlaaGreatMOx14
import Derived.Test.YtjjaiahfkiojlaaGreatMOx63
import Derived.Test.YtjjaiahfkiojlaaGreatMOx7
namespace Go.Proofs.YtjjaiahfkiojlaaGreat.O
open Go.RowKit Go.Proofs.YtjjaiahfkiojlaaGreatW.PrintWords Go.Proofs.YtjjaiahfkiojlaaGreatW.PrintLast Go.Proofs.YtjjaiahfkiojlaaGreatW.PrintMore
attribute [local go_sem] max2_int min2_int max_two min_two max_three min_three max_four min_four   -- for this text's walks alone
set_option linter.unusedVariables false
set_option linter.unusedSimpArgs false

/-! ### solsticeref01_Weekday: function 94 -/
def solsticeref01_Weekday.f (a0 : Int) : Option (Int) := (solsticeref01_Div.f a0 7).bind fun bt502 => (some (Int.tmod (wrap64 (bt502.2 + 4)) 7))
set_option maxHeartbeats 8000000 in
set_option maxRecDepth 100000 in
theorem solsticeref01_Weekday.calls (a0 : Int) (r : Int) (w : World) (h : solsticeref01_Weekday.f a0 = some r) :
    Calls Tryz.prog 94 #[.int .i64 a0] w fun e w' => e = .returned (.int .i64 r) ∧ Drawn0 w w' := by
  have H : ((solsticeref01_Div.f a0 7).bind fun bt502 => (some (Int.tmod (wrap64 (bt502.2 + 4)) 7))) = some r := h
  clear h
  replace H := Option.bind_eq_some_iff.mp H
  obtain ⟨⟨t502, t503⟩, A20, H⟩ := H
  replace H : (some (Int.tmod (wrap64 (t503 + 4)) 7)) = some r := H
  have A2 := Aside0.mk A20
  clear A20
  obtain rfl := Option.some.inj H
  go_enter Tryz.func94, Tryz.ntmps94
  go_wp2_with (first | ((with_reducible refine gate_callee (f := 35) rfl ?_); refine goesL_ (some 7) rfl rfl Tryz.func35 (by kernel_rfl) rfl #[.int .i64 a0, .int .i64 7] rfl (by (try simp only [List.map_toArray, List.map_cons, List.map_nil]); first | done | rfl | (simp only [List.length_drop, List.length_take]; rfl)) ?_; (with_reducible refine (solsticeref01_Div.calls a0 7 t502 t503 _ A2.out).mono ?_); rintro e w' ⟨rfl, ⟨nd, rfl⟩⟩; refine ⟨_, rfl, ?_⟩))
  go_ret
  exact ⟨by first | rfl | (simp; done) | (simp [*]; done), by repeat (first | exact Drawn0.refl _ | apply Drawn0.step)⟩

end Go.Proofs.YtjjaiahfkiojlaaGreat.O

namespace Go.Proofs.YtjjaiahfkiojlaaGreat.Pure
open Go.RowKit Go.Proofs.YtjjaiahfkiojlaaGreat.O Go.Proofs.YtjjaiahfkiojlaaGreatW.PrintWords Go.Proofs.YtjjaiahfkiojlaaGreatW.PrintLast
open Go.Proofs.YtjjaiahfkiojlaaGreat.Civ
set_option linter.unusedVariables false
set_option linter.unusedSimpArgs false
set_option maxHeartbeats 4000000
set_option maxRecDepth 100000
section
variable {ρ : Operand → Value} {o : Oper} {w : World}
theorem fq0 (a b c : Int) (w : World) : (Instr.field 30 (.agg #[.int .i64 a, .int .i64 b, .int .i64 c]) 0).run Tryz.prog w = .ok (.int .i64 a) w := by kernel_rfl
/-- The year of a date. -/
theorem run_f30 {x : Operand} {a b c : Int} (ho : o.op = .field 30 x 0) (hx : ρ x = .agg #[.int .i64 a, .int .i64 b, .int .i64 c]) : (execOp ρ o).run Tryz.prog w = .ok (.value (.int .i64 a)) w := by
  unfold execOp; rw [ho]
  show ((do pure (Next.value (← Instr.field 30 (ρ x) 0)) : Sem Next)).run Tryz.prog w = _
  rw [hx, Sem.run_bind, fq0]
  rfl
theorem bq30 (a b c : Int) (w : World) : (Instr.build 30 #[(0, .int .i64 a), (1, .int .i64 b), (2, .int .i64 c)]).run Tryz.prog w = .ok (.agg #[.int .i64 a, .int .i64 b, .int .i64 c]) w := by kernel_rfl
theorem run_bq30 {x y z : Operand} {a b c : Int} (ho : o.op = .build 30 #[(0, x), (1, y), (2, z)]) (hx : ρ x = .int .i64 a) (hy : ρ y = .int .i64 b) (hz : ρ z = .int .i64 c) : (execOp ρ o).run Tryz.prog w = .ok (.value (.agg #[.int .i64 a, .int .i64 b, .int .i64 c])) w := by
  unfold execOp; rw [ho]
  simp only [hx, hy, hz, List.map_toArray, List.map_cons, List.map_nil]
  rw [Sem.run_bind, bq30]
  rfl
end
theorem int_ret {b c : Int} (h : b = c) : Ending.returned (Value.int .i64 b) = Ending.returned (Value.int .i64 c) := by rw [h]
/-! The reference's small functions, as contracts -/
theorem rwd {n : Int} (h : -9223372036854775808 ≤ n) (h' : n < 9223372036854775808) : solsticeref01_Weekday.f n = some (wd n) := by
  unfold solsticeref01_Weekday.f
  rw [rdiv (by omega) (by omega) h h']
  show some (Int.tmod (wrap64 (n % 7 + 4)) 7) = _
  rw [w64 (by omega) (by omega), tmod_nn _ (by omega)]
  unfold wd
  congr 1
  omega
section
variable {w : World}
theorem rwd_on {n : Int} (h : -9223372036854775808 ≤ n) (h' : n < 9223372036854775808) : Calls Tryz.prog 94 #[.int .i64 n] w (Rets w (.int .i64 (wd n))) := (solsticeref01_Weekday.calls n _ w (rwd h h')).mono fun _ _ => rets_drawn
theorem rdiv_on {a b : Int} (hb : 0 < b) (hb' : b ≤ 1000000) (h : -9223372036854775808 ≤ a) (h' : a < 9223372036854775808) : Calls Tryz.prog 35 #[.int .i64 a, .int .i64 b] w (Rets w (.tuple #[.int .i64 (a / b), .int .i64 (a % b)])) := (solsticeref01_Div.calls a b _ _ w (rdiv hb hb' h h')).mono fun _ _ => rets_drawn
theorem rdate_on {n : Int} (h : -719528 ≤ n) (h' : n ≤ 2933262) : Calls Tryz.prog 39 #[.int .i64 n] w (Rets w (.agg #[.int .i64 (dt n).1, .int .i64 (dt n).2.1, .int .i64 (dt n).2.2])) := by
  obtain ⟨k, hk⟩ := (rdate_dt h h').rounds
  exact solsticeref01_Date.calls k n _ _ _ w hk
theorem rnumb_on {y m d : Int} (hy : 0 ≤ y) (hy' : y ≤ 20000) (hm : 1 ≤ m) (hm' : m ≤ 13) (hd : 0 ≤ d) (hd' : d ≤ 1000000) : Calls Tryz.prog 32 #[.agg #[.int .i64 y, .int .i64 m, .int .i64 d]] w (Rets w (.int .i64 (num y m d))) := by
  obtain ⟨k, hk⟩ := (rnum' hy hy' hm hm' hd hd').rounds
  exact solsticeref01_Number.calls k y m d _ w hk
theorem rlong_on {y : Int} (h : -9223372036854775808 ≤ y) (h' : y < 9223372036854775808) : Calls Tryz.prog 64 #[.int .i64 y] w (Rets w (.bool (lp y))) := (solsticeref01_Long.calls y _ w (rlong h h')).mono fun _ _ => rets_drawn
theorem rlenm_on {y m : Int} (h : -9223372036854775808 ≤ y) (h' : y < 9223372036854775808) : Calls Tryz.prog 31 #[.int .i64 y, .int .i64 m] w (Rets w (.int .i64 (ln y m))) := by
  obtain ⟨k, hk⟩ := (rlen (y := y) m h h').rounds
  exact (solsticeref01_Len.calls k y m _ w hk).mono fun _ _ => rets_drawn
theorem rin_on (a b c : Int) : Calls Tryz.prog 33 #[.int .i64 a, .int .i64 b, .int .i64 c] w (Rets w (.bool (decide (b ≤ a ∧ a ≤ c)))) := (solsticeref21_in.calls a b c _ w (rin21 a b c)).mono fun _ _ => rets_drawn
theorem ryears_on {t : Int} (h : -9223372036854775808 ≤ t) (h' : t < 9223372036854775808) : Calls Tryz.prog 15 #[.int .i64 t] w (Rets w (.tuple #[.agg #[.int .i64 (yearsV t).1, .int .i64 (yearsV t).2.1, .int .i64 (yearsV t).2.2.1], .bool (decide (InT t))])) := by
  obtain ⟨k, hk⟩ := (ryears h h').rounds
  have e : (yearsV t).2.2.2 = decide (InT t) := by
    by_cases c : InT t
    · rw [decide_eq_true c, years_in c]
    · rw [decide_eq_false c]
      cases q : (yearsV t).2.2.2 with
      | false => rfl
      | true => exact absurd (years_ok q) c
  rw [← e]
  exact solsticeref16_Years.calls k t _ _ _ _ w hk
end
theorem fweek_on {w : World} {y k : Int} (h : 0 ≤ y) (h' : y ≤ 10002) (k0 : 0 ≤ k) (k1 : k ≤ 6) : Calls Tryz.prog 57 #[.int .i64 y, .int .i64 k] w (Rets w (.int .i64 (fw y k))) := by
  have M := On.nil w
  have a := ah_b2 h h'
  have e := num4 y
  refine en_ Tryz.func57 rfl rfl rfl fun a K => sr_ (run_ 1 K rfl fun a K => nil_ (sr_ (run_ 1 K rfl fun a K => val_ K rfl rfl rfl (run_bq30 rfl (K.of (x := .tmp 6) rfl) (K.of (x := .const (.int .i64 1)) rfl) (K.of (x := .const (.int .i64 4)) rfl)) fun a K => cl_ K Tryz.func32 (by kernel_rfl) rfl rfl rfl rfl rfl rfl ((rnumb_on (y := y) (m := 1) (d := 4) h (by omega) (by decide) (by decide) (by decide) (by decide)).mono ?_))))
  rintro _ w2 ⟨rfl, b2⟩
  replace M := M.call b2
  refine ⟨_, rfl, fun a K => run_ 1 K rfl fun a K => nil_ ?_⟩
  refine sr_ (run_ 2 K rfl fun a K => cl_ K Tryz.func94 (by kernel_rfl) rfl rfl rfl rfl rfl rfl ((rwd_on (n := num y 1 4) (by omega) (by omega)).mono ?_))
  rintro _ w2 ⟨rfl, b2⟩
  replace M := M.call b2
  refine ⟨_, rfl, fun a K => run_ 6 K rfl fun a K => nil_ ?_⟩
  exact ret_ rfl K rfl ⟨int_ret (fw_w h h' k0 k1), M.bl⟩
theorem weeks2_on {w : World} {y k : Int} (h : 0 ≤ y) (h' : y ≤ 10001) (k0 : 0 ≤ k) (k1 : k ≤ 6) : Calls Tryz.prog 96 #[.int .i64 y, .int .i64 k] w (Rets w (.int .i64 ((fw (y + 1) k - fw y k) / 7))) := by
  have M := On.nil w
  have e : wrap64 (y + 1) = y + 1 := w64 (by omega) (by omega)
  have F1 : ∀ W, Calls Tryz.prog 57 #[.int .i64 (wrap64 (y + 1)), .int .i64 k] W (Rets W (.int .i64 (fw (y + 1) k))) := fun W => by rw [e]; exact fweek_on (by omega) (by omega) k0 k1
  refine en_ Tryz.func96 rfl rfl rfl fun a K => sr_ (run_ 1 K rfl fun a K => nil_ (sr_ (run_ 3 K rfl fun a K => cl_ K Tryz.func57 (by kernel_rfl) rfl rfl rfl rfl rfl rfl ((F1 _).mono ?_))))
  rintro _ w3 ⟨rfl, b3⟩
  replace M := M.call b3
  refine ⟨_, rfl, fun a K => run_ 2 K rfl fun a K => cl_ K Tryz.func57 (by kernel_rfl) rfl rfl rfl rfl rfl rfl ((fweek_on (y := y) h (by omega) k0 k1).mono ?_)⟩
  rintro _ w6 ⟨rfl, b6⟩
  replace M := M.call b6
  refine ⟨_, rfl, fun a K => run_ 3 K rfl fun a K => nil_ ?_⟩
  exact ret_ rfl K rfl ⟨int_ret (weeks_w h h'), M.bl⟩
theorem yday2_on {w : World} {n : Int} (h : -719528 ≤ n) (h' : n ≤ 2933262) : Calls Tryz.prog 97 #[.int .i64 n] w (Rets w (.int .i64 (yd n))) := by
  have M := On.nil w
  have y := yr_bd h h'
  refine en_ Tryz.func97 rfl rfl rfl fun a K => sr_ (run_ 1 K rfl fun a K => nil_ (sr_ (run_ 2 K rfl fun a K => cl_ K Tryz.func39 (by kernel_rfl) rfl rfl rfl rfl rfl rfl ((rdate_on h h').mono ?_))))
  rintro _ w2 ⟨rfl, b2⟩
  replace M := M.call b2
  refine ⟨_, rfl, fun a K => val_ K rfl rfl rfl (run_f30 rfl (K.of (x := .tmp 5) rfl)) fun a K => val_ K rfl rfl rfl (run_bq30 rfl (K.of (x := .tmp 6) rfl) (K.of (x := .const (.int .i64 1)) rfl) (K.of (x := .const (.int .i64 1)) rfl)) fun a K => cl_ K Tryz.func32 (by kernel_rfl) rfl rfl rfl rfl rfl rfl ((rnumb_on (y := yr n) (m := 1) (d := 1) y.1 (by omega) (by decide) (by decide) (by decide) (by decide)).mono ?_)⟩
  rintro _ w5 ⟨rfl, b5⟩
  replace M := M.call b5
  refine ⟨_, rfl, fun a K => run_ 3 K rfl fun a K => nil_ ?_⟩
  exact ret_ rfl K rfl ⟨int_ret (yd_w h h').1, M.bl⟩
theorem no_on {w : World} {n k : Int} (h : -719162 ≤ n) (h' : n ≤ 2932896) (k0 : 0 ≤ k) (k1 : k ≤ 6) : Calls Tryz.prog 95 #[.int .i64 n, .int .i64 k] w (Rets w (.tuple #[.int .i64 (noV n k).1, .int .i64 (noV n k).2.1])) := by
  have M := On.nil w
  have y := yr_bd (n := n) (by omega) (by omega)
  have r := (yr_range (n := n) (by omega) (by omega)).2 ⟨h, h'⟩
  have hm := yr_mid (k := k) h h'
  have e := no_mid (k := k) h h'
  rw [noV_in h h' k0 k1]
  have e1 : decide (yr n < 10000) = true := decide_eq_true (by omega)
  have ea : wrap64 (yr n - 1) = yr n - 1 := w64 (by omega) (by omega)
  have eb : wrap64 (yr n + 1) = yr n + 1 := w64 (by omega) (by omega)
  have F1 : ∀ W, Calls Tryz.prog 57 #[.int .i64 (wrap64 (yr n + 1)), .int .i64 k] W (Rets W (.int .i64 (fw (yr n + 1) k))) := fun W => by rw [eb]; exact fweek_on (by omega) (by omega) k0 k1
  refine en_ Tryz.func95 rfl rfl rfl fun a K => sr_ (run_ 2 K rfl fun a K => nil_ (sr_ (run_ 1 K rfl fun a K => cl_ K Tryz.func39 (by kernel_rfl) rfl rfl rfl rfl rfl rfl ((rdate_on (n := n) (by omega) (by omega)).mono ?_))))
  rintro _ w1 ⟨rfl, b1⟩
  replace M := M.call b1
  refine ⟨_, rfl, fun a K => val_ K rfl rfl rfl (run_f30 rfl (K.of (x := .tmp 8) rfl)) fun a K => run_ 1 K rfl fun a K => nil_ ?_⟩
  refine sj_ (fun a' w' => Kn 37 [(6, .int .i64 (yr (mid n k))), (0, .int .i64 n), (1, .int .i64 k)] a' ∧ On [] w w') (sr_ (run_ 3 K rfl fun a K => cl_ K Tryz.func57 (by kernel_rfl) rfl rfl rfl rfl rfl rfl ((fweek_on (y := yr n) y.1 (by omega) k0 k1).mono ?_))) ?_
  rintro _ w3 ⟨rfl, b3⟩
  replace M := M.call b3
  refine ⟨_, rfl, fun a K => run_ 1 K rfl fun a K => nil_ ?_⟩
  · by_cases c : n < fw (yr n) k
    · rw [if_pos c] at e
      refine ct_ K rfl (decide_eq_true c) (rg_ (run_ 3 K rfl fun a K => nil_ ⟨fg_ (ks_ (i := 6) K rfl (congrArg (Value.int .i64) (ea.trans e.symm))) ⟨rfl, rfl, rfl, trivial⟩, M⟩))
    rw [if_neg c] at e
    refine cf_ K rfl (decide_eq_false c) (sr_ (run_ 2 K rfl fun a K => run_ 5 (fx_ K e1) rfl fun a K => cl_ K Tryz.func57 (by kernel_rfl) rfl rfl rfl rfl rfl rfl ((F1 _).mono ?_)))
    rintro _ w7 ⟨rfl, b7⟩
    replace M := M.call b7
    refine ⟨_, rfl, fun a K => run_ 2 K rfl fun a K => nil_ ?_⟩
    by_cases c2 : fw (yr n + 1) k ≤ n
    · rw [if_pos c2] at e
      exact ct_ K rfl (decide_eq_true c2) (rg_ (run_ 3 K rfl fun a K => nil_ ⟨fg_ (ks_ (i := 6) K rfl (congrArg (Value.int .i64) (eb.trans e.symm))) ⟨rfl, rfl, rfl, trivial⟩, M⟩))
    · rw [if_neg c2] at e
      exact cf_ K rfl (decide_eq_false c2) (wp_skip (thn_ ⟨fg_ (ks_ (i := 6) K rfl (congrArg (Value.int .i64) e.symm)) ⟨rfl, rfl, rfl, trivial⟩, M⟩))
  clear K M
  rintro a W ⟨K, M⟩
  refine sr_ (run_ 4 K rfl fun a K => cl_ K Tryz.func57 (by kernel_rfl) rfl rfl rfl rfl rfl rfl ((fweek_on (y := yr (mid n k)) hm.1 (by omega) k0 k1).mono ?_))
  rintro _ w4 ⟨rfl, b4⟩
  replace M := M.call b4
  refine ⟨_, rfl, fun a K => run_ 5 K rfl fun a K => nil_ ?_⟩
  exact ret2_ rfl K rfl rfl ⟨by rw [no_w h h'], M.bl⟩
/-! Lists and clocks -/
theorem take_has {l : List Int} {n : Int} {i : Nat} (h : i < l.length) : decide (n ∈ l.take (i + 1)) = (decide (n ∈ l.take i) || decide (l[i] = n)) := by
  rw [← List.take_append_getElem h, ← Bool.decide_or, decide_eq_decide, List.mem_append, List.mem_singleton, eq_comm (a := n)]
theorem has_on {w : World} {A : Option Addr} {c : Nat} {l : List Int} (n : Int) (hk : Kd.C (Kd.int .i64) w A l.length l) (hl : l.length ≤ 1000000000) : Calls Tryz.prog 58 #[.slice A l.length c, .int .i64 n] w (Rets w (.bool (decide (n ∈ l)))) := by
  refine en_ Tryz.func58 rfl rfl rfl fun a K => sr_ (run_ 1 K rfl fun a K => nil_ (wp_seq (sr_ (run_ 1 K rfl fun a K => nil_ (wp_block (wp_loop (fun a W => ∃ i : Nat, i ≤ l.length ∧ decide (n ∈ l.take i) = false ∧ Kn 18 [(5, .int .i64 (i : Int)), (1, .int .i64 n), (0, .slice A l.length c)] a ∧ On [] w W) (fun a _ => leftN 5 l.length a) ⟨0, Nat.zero_le _, rfl, fg_ K ⟨rfl, rfl, rfl, trivial⟩, On.nil w⟩ ?_))))))
  clear K
  rintro a W ⟨i, hi, hn, K, M⟩
  have KL := leftN_ (n := l.length) (d := 5) K rfl
  refine wp_seq (sr_ (run_ 4 K rfl fun a2 K2 => nil_ ?_))
  by_cases hc : i < l.length
  case neg =>
    obtain rfl : i = l.length := by omega
    rw [List.take_length] at hn
    exact cf_ K2 rfl (kp_ge hc) (ex_ (thn_ (sr_ (run_ 1 K2 rfl fun a K => nil_ (ret_ rfl K rfl ⟨bool_ret hn.symm, M.bl⟩)))))
  obtain ⟨ad, eA, hat⟩ := C_at hk (by omega)
  subst eA
  have hx := List.getElem?_eq_getElem hc
  have e2 := kp_inc hc (by omega)
  have e3 := take_has (n := n) hc
  have hmem : l[i] ∈ l := List.getElem_mem hc
  rw [hn, Bool.false_or] at e3
  generalize l[i] = x at hx e3 hmem
  refine ck_ K2 rfl (kp_lt hc) (wp_seq (bjn_ (fun a' W' => ¬ x = n ∧ Kn 18 [(5, .int .i64 (i : Int)), (1, .int .i64 n), (0, .slice (some ad) l.length c)] a' ∧ On [] w W') (sr_ (run_ 2 K2 rfl fun a K => ix_ K hc (by omega) rfl rfl rfl rfl rfl rfl fun a K => el_ K (cell_on M (hat i x hx)) rfl rfl rfl rfl rfl fun a K => run_ 2 K rfl fun a K => nil_ ?_)) ?_))
  case refine_2 =>
    rintro a' W' ⟨hne, K', M'⟩
    refine rg_ (run_ 3 K' rfl fun a5 K5 => nl_ ⟨⟨i + 1, hc, by rw [e3]; exact decide_eq_false hne, fg_ (ks_ (i := 5) K5 rfl (congrArg (Value.int .i64) e2)) ⟨rfl, rfl, rfl, trivial⟩, M'⟩, ?_⟩)
    rw [leftN_ (d := 5) K5 rfl, KL, e2]
    exact leftN_lt hc
  by_cases d : x = n
  · exact ct_ K rfl (decide_eq_true d) (sr_ (run_ 1 K rfl fun a K => nil_ (ret_ rfl K rfl ⟨bool_ret (by rw [← d]; exact (decide_eq_true hmem).symm), M.bl⟩)))
  · exact cf_ K rfl (decide_eq_false d) (wp_skip ⟨d, fg_ K ⟨rfl, rfl, rfl, trivial⟩, M⟩)
theorem pos_l {l : List Int} (h : l ≠ []) : decide (0 < (l.length : Int)) = true := decide_eq_true (by have := List.length_pos_iff.2 h; omega)
theorem nil_pos {l : List Int} (h : l = []) : decide (0 < (l.length : Int)) = false := by rw [h]; rfl
theorem fits_on {w : World} {A : Option Addr} {c : Nat} {l : List Int} (n s : Int) (asked : Bool) (hk : Kd.C (Kd.int .i64) w A l.length l) (hl : l.length ≤ 1000000000) : Calls Tryz.prog 60 #[.slice A l.length c, .int .i64 n, .int .i64 s, .bool asked] w (Rets w (.bool (oneV l n s asked))) := by
  have M := On.nil w
  refine en_ Tryz.func60 rfl rfl rfl fun a K => sr_ (run_ 1 K rfl fun a K => nil_ (wp_seq (sr_ (run_ 3 K rfl fun a K => nil_ ?_))))
  by_cases h : l = []
  · have e : oneV l n s asked = (!asked || decide (n = s)) := by unfold oneV; rw [if_pos h]; cases asked <;> rfl
    refine cs_ K rfl (nil_pos h) (sr_ ?_)
    cases asked
    · have e1 : (!false : Bool) = true := rfl
      exact (run_ 2 K rfl fun a K => run_ 6 (fx_ K e1) rfl fun a K => nil_ (ret_ rfl K rfl ⟨bool_ret e.symm, M.bl⟩))
    · have e1 : (!true : Bool) = false := rfl
      exact (run_ 2 K rfl fun a K => run_ 6 (fx_ K e1) rfl fun a K => nil_ (ret_ rfl K rfl ⟨bool_ret e.symm, M.bl⟩))
  · have e : oneV l n s asked = decide (n ∈ l) := by unfold oneV; rw [if_neg h]
    refine ct_ K rfl (pos_l h) (sr_ (run_ 2 K rfl fun a K => cl_ K Tryz.func58 (by kernel_rfl) rfl rfl rfl rfl rfl rfl ((has_on n hk hl).mono ?_)))
    rintro _ w2 ⟨rfl, b2⟩
    replace M := M.call b2
    refine ⟨_, rfl, fun a K => run_ 1 K rfl fun a K => nil_ ?_⟩
    exact ret_ rfl K rfl ⟨bool_ret e.symm, M.bl⟩
end Go.Proofs.YtjjaiahfkiojlaaGreat.Pure

namespace Go.Proofs.YtjjaiahfkiojlaaGreat.Pure
open Go.RowKit Go.Proofs.YtjjaiahfkiojlaaGreat.O Go.Proofs.YtjjaiahfkiojlaaGreatW.PrintWords Go.Proofs.YtjjaiahfkiojlaaGreatW.PrintLast
open Go.Proofs.YtjjaiahfkiojlaaGreat.Civ
set_option linter.unusedVariables false
set_option linter.unusedSimpArgs false
set_option maxHeartbeats 4000000
set_option maxRecDepth 100000
theorem on_nil {L : List (Nat × Obj)} {w0 W : World} (M : On L w0 W) : On [] w0 W := ⟨M.bl, fun k g o h => by simp at h, List.nodup_nil⟩
theorem per_of {r : RR} (t : Int) : (r.fr = 1 → perV r t = t) ∧ (r.fr = 2 → perV r t = t / 60) ∧ (r.fr = 3 → perV r t = t / 3600) ∧ (r.fr = 4 → perV r t = t / 86400) ∧ (r.fr = 5 → perV r t = (t / 86400 + 4 - r.wk) / 7) ∧ (r.fr = 6 → perV r t = 12 * (dt (t / 86400)).1 + (dt (t / 86400)).2.1 - 1) ∧
    (r.fr = 7 → r.wn = [] → perV r t = (dt (t / 86400)).1) ∧ (r.fr = 7 → r.wn ≠ [] → perV r t = (noV (t / 86400) r.wk).1) := by
  refine ⟨fun e => ?_, fun e => ?_, fun e => ?_, fun e => ?_, fun e => ?_, fun e => ?_, fun e q => ?_, fun e q => ?_⟩ <;> unfold perV <;> simp only [e] <;> simp [*, wy]
theorem Period2_on {w : World} {cs : Array Value} {r : RR} (R : Rul w cs r) (h : Lens r) {t : Int} (ht : InT t) : Calls Tryz.prog 62 #[.agg cs, .int .i64 t] w (Rets w (.int .i64 (perV r t))) := by
  obtain ⟨A12, k12, e12, h12, C12⟩ := R.c12
  have y := dt_year ht
  have s := dt_spec (n := t / 86400) (by omega) (by omega)
  have k0 := h.w0
  have k1 := h.w1
  have f0 := h.f0
  have f1 := h.f1
  have tb : -62135596800 ≤ t ∧ t ≤ 253402300799 := ht
  have e5 : wrap64 (wrap64 (t / 86400 + 4) - r.wk) = t / 86400 + 4 - r.wk := by rw [w64 (x := t / 86400 + 4) (by omega) (by omega), w64 (by omega) (by omega)]
  have D5 : ∀ W, Calls Tryz.prog 35 #[.int .i64 (wrap64 (wrap64 (t / 86400 + 4) - r.wk)), .int .i64 7] W (Rets W (.tuple #[.int .i64 ((t / 86400 + 4 - r.wk) / 7), .int .i64 ((t / 86400 + 4 - r.wk) % 7)])) := fun W => by rw [e5]; exact rdiv_on (by decide) (by decide) (by omega) (by omega)
  have e6 : wrap64 (wrap64 (wrap64 (12 * (dt (t / 86400)).1) + (dt (t / 86400)).2.1) - 1) = 12 * (dt (t / 86400)).1 + (dt (t / 86400)).2.1 - 1 := by
    have m1 := s.1.2.2.1
    have m2 := s.1.2.2.2.1
    rw [w64 (x := 12 * (dt (t / 86400)).1) (by omega) (by omega), w64 (x := 12 * (dt (t / 86400)).1 + (dt (t / 86400)).2.1) (by omega) (by omega), w64 (by omega) (by omega)]
  obtain ⟨v1, v2, v3, v4, v5, v6, v7, v8⟩ := per_of (r := r) t
  have M := On.nil w
  refine en_ Tryz.func62 rfl rfl rfl fun a K => sr_ (bx_ K M rfl rfl rfl rfl rfl rfl fun a g2 W2 M K => run_ 1 K rfl fun a K => nil_ ?_)
  refine sr_ (run_ 1 K rfl fun a K => cl_ K Tryz.func35 (by kernel_rfl) rfl rfl rfl rfl rfl rfl ((rdiv_on (a := t) (by decide) (by decide) (by omega) (by omega)).mono ?_))
  rintro _ w1 ⟨rfl, b1⟩
  replace M := M.call b1
  refine ⟨_, rfl, fun a K => run_ 5 K rfl fun a K => nil_ ?_⟩
  refine sr_ (run_ 1 K rfl fun a K => cl_ K Tryz.func39 (by kernel_rfl) rfl rfl rfl rfl rfl rfl ((rdate_on (n := t / 86400) (by omega) (by omega)).mono ?_))
  rintro _ w1 ⟨rfl, b1⟩
  replace M := M.call b1
  refine ⟨_, rfl, fun a K => nw_ K M rfl rfl rfl rfl rfl rfl rfl (fun _ => rfl) rfl rfl rfl fun a g7 W7 M K => nil_ ?_⟩
  refine sr_ (run_ 2 K rfl fun a K => nil_ ?_)
  refine sj_ (fun a' w' => Kn 72 [(8, .int .i64 (perV r t))] a' ∧ On [] w w') (sr_ (run_ 1 K rfl fun a K => ld_ K M 1 rfl rfl rfl rfl rfl rfl R.c0 rfl fun a K => nil_ ?_)) ?_
  · refine wp_block (sr_ (run_ 2 K rfl fun a K => nil_ ?_))
    by_cases c2 : r.fr = 2
    · refine ct_ K rfl (decide_eq_true c2) (rg_ (run_ 1 K rfl fun a K => cl_ K Tryz.func35 (by kernel_rfl) rfl rfl rfl rfl rfl rfl ((rdiv_on (a := t) (by decide) (by decide) (by omega) (by omega)).mono ?_)))
      rintro _ w1 ⟨rfl, b1⟩
      replace M := M.call b1
      refine ⟨_, rfl, fun a K => run_ 4 K rfl fun a K => ?_⟩
      exact nl_ ⟨fg_ (ks_ (i := 8) K rfl (congrArg (Value.int .i64) (v2 c2).symm)) ⟨rfl, trivial⟩, on_nil M⟩
    refine cf_ K rfl (decide_eq_false c2) (sr_ (run_ 2 K rfl fun a K => nil_ ?_))
    by_cases c3 : r.fr = 3
    · refine ct_ K rfl (decide_eq_true c3) (rg_ (run_ 1 K rfl fun a K => cl_ K Tryz.func35 (by kernel_rfl) rfl rfl rfl rfl rfl rfl ((rdiv_on (a := t) (by decide) (by decide) (by omega) (by omega)).mono ?_)))
      rintro _ w1 ⟨rfl, b1⟩
      replace M := M.call b1
      refine ⟨_, rfl, fun a K => run_ 4 K rfl fun a K => ?_⟩
      exact nl_ ⟨fg_ (ks_ (i := 8) K rfl (congrArg (Value.int .i64) (v3 c3).symm)) ⟨rfl, trivial⟩, on_nil M⟩
    refine cf_ K rfl (decide_eq_false c3) (sr_ (run_ 2 K rfl fun a K => nil_ ?_))
    by_cases c4 : r.fr = 4
    · exact ct_ K rfl (decide_eq_true c4) (rg_ (run_ 2 K rfl fun a K => nl_ ⟨fg_ (ks_ (i := 8) K rfl (congrArg (Value.int .i64) (v4 c4).symm)) ⟨rfl, trivial⟩, on_nil M⟩))
    refine cf_ K rfl (decide_eq_false c4) (sr_ (run_ 2 K rfl fun a K => nil_ ?_))
    by_cases c5 : r.fr = 5
    · refine ct_ K rfl (decide_eq_true c5) (rg_ (run_ 3 K rfl fun a K => ld_ K M 1 rfl rfl rfl rfl rfl rfl R.c15 rfl fun a K => run_ 1 K rfl fun a K => cl_ K Tryz.func35 (by kernel_rfl) rfl rfl rfl rfl rfl rfl ((D5 _).mono ?_)))
      rintro _ w5 ⟨rfl, b5⟩
      replace M := M.call b5
      refine ⟨_, rfl, fun a K => run_ 4 K rfl fun a K => ?_⟩
      exact nl_ ⟨fg_ (ks_ (i := 8) K rfl (congrArg (Value.int .i64) (v5 c5).symm)) ⟨rfl, trivial⟩, on_nil M⟩
    refine cf_ K rfl (decide_eq_false c5) (sr_ (run_ 2 K rfl fun a K => nil_ ?_))
    by_cases c6 : r.fr = 6
    · refine ct_ K rfl (decide_eq_true c6) (rg_ (run_ 1 K rfl fun a K => ld_ K M 0 rfl rfl rfl rfl rfl rfl rfl rfl fun a K => run_ 2 K rfl fun a K => ld_ K M 0 rfl rfl rfl rfl rfl rfl rfl rfl fun a K => run_ 3 K rfl fun a K => ?_))
      exact nl_ ⟨fg_ (ks_ (i := 8) K rfl (congrArg (Value.int .i64) (e6.trans (v6 c6).symm))) ⟨rfl, trivial⟩, on_nil M⟩
    refine cf_ K rfl (decide_eq_false c6) (sr_ (run_ 2 K rfl fun a K => nil_ ?_))
    by_cases c7 : r.fr = 7
    · refine ct_ K rfl (decide_eq_true c7) (sr_ (run_ 1 K rfl fun a K => ld_ K M 0 rfl rfl rfl rfl rfl rfl rfl rfl fun a K => run_ 1 K rfl fun a K => nil_ ?_))
      refine sr_ (run_ 1 K rfl fun a K => ld_ K M 1 rfl rfl rfl rfl rfl rfl e12 rfl fun a K => run_ 2 K rfl fun a K => nil_ ?_)
      by_cases q : r.wn = []
      · exact cf_ K rfl (nil_pos q) (wp_skip ⟨fg_ (ks_ (i := 8) K rfl (congrArg (Value.int .i64) (v7 c7 q).symm)) ⟨rfl, trivial⟩, on_nil M⟩)
      refine ct_ K rfl (pos_l q) (rg_ (run_ 2 K rfl fun a K => ld_ K M 1 rfl rfl rfl rfl rfl rfl R.c15 rfl fun a K => cl_ K Tryz.func95 (by kernel_rfl) rfl rfl rfl rfl rfl rfl ((no_on (n := t / 86400) (by omega) (by omega) k0 k1).mono ?_)))
      rintro _ w3 ⟨rfl, b3⟩
      replace M := M.call b3
      refine ⟨_, rfl, fun a K => run_ 4 K rfl fun a K => ?_⟩
      exact nl_ ⟨fg_ (ks_ (i := 8) K rfl (congrArg (Value.int .i64) (v8 c7 q).symm)) ⟨rfl, trivial⟩, on_nil M⟩
    exact cf_ K rfl (decide_eq_false c7) (wp_skip ⟨fg_ (ks_ (i := 8) K rfl (congrArg (Value.int .i64) (v1 (by omega)).symm)) ⟨rfl, trivial⟩, on_nil M⟩)
  clear K M
  rintro a W ⟨K, M⟩
  exact sr_ (run_ 2 K rfl fun a K => nil_ (ret_ rfl K rfl ⟨rfl, M.bl⟩))
theorem Span2_on {w : World} {cs : Array Value} {r : RR} (R : Rul w cs r) (h : Lens r) (p : Int) : Calls Tryz.prog 25 #[.agg cs, .int .i64 p] w (Rets w (.tuple #[.int .i64 (spanV r p).1, .int .i64 (spanV r p).2.1, .bool (decide ((spanV r p).2.2 = 0))])) := by
  obtain ⟨A12, k12, e12, h12, C12⟩ := R.c12
  have SR := span_ref h p
  have f0 := h.f0
  have f1 := h.f1
  have k0 := h.w0
  have k1 := h.w1
  have no : ¬ (inR r p ∧ InT (spanW r p).1 ∧ InT (spanW r p).2) → Ending.returned (Value.tuple #[.int .i64 0, .int .i64 0, .bool false]) = Ending.returned (.tuple #[.int .i64 (spanV r p).1, .int .i64 (spanV r p).2.1, .bool (decide ((spanV r p).2.2 = 0))]) := fun q => by
    have e : spanV r p = (0, 0, 23) := by unfold spanV; rw [if_neg (fun z => q (SR.1 z))]
    rw [e]; rfl
  have yes : (inR r p ∧ InT (spanW r p).1 ∧ InT (spanW r p).2) → Ending.returned (Value.tuple #[.int .i64 (spanW r p).1, .int .i64 (spanW r p).2, .bool true]) = Ending.returned (.tuple #[.int .i64 (spanV r p).1, .int .i64 (spanV r p).2.1, .bool (decide ((spanV r p).2.2 = 0))]) := fun q => by
    have e : spanV r p = ((spanW r p).1, (spanW r p).2, 0) := by unfold spanV; rw [if_pos (SR.2 q)]
    rw [e]; rfl
  have M := On.nil w
  refine en_ Tryz.func25 rfl rfl rfl fun a K => sr_ (bx_ K M rfl rfl rfl rfl rfl rfl fun a g2 W2 M K => run_ 3 K rfl fun a K => nil_ ?_)
  refine sr_ (run_ 3 K rfl fun a K => nil_ ?_)
  refine wp_seq (sr_ (run_ 1 K rfl fun a K => cl_ K Tryz.func33 (by kernel_rfl) rfl rfl rfl rfl rfl rfl ((rin_on p (-1099511627776) 1099511627776).mono ?_)))
  rintro _ w1 ⟨rfl, b1⟩
  replace M := M.call b1
  refine ⟨_, rfl, fun a K => run_ 1 K rfl fun a K => nil_ ?_⟩
  by_cases c : -1099511627776 ≤ p ∧ p ≤ 1099511627776
  case neg => exact ct_ K rfl (by rw [decide_eq_false c]; rfl) (sr_ (run_ 3 K rfl fun a K => nil_ (ret3_ rfl K rfl rfl rfl ⟨no (fun q => c ⟨q.1.1, q.1.2.1⟩), M.bl⟩)))
  refine cs_ K rfl (by rw [decide_eq_true c]; rfl) ?_
  have hp0 : ¬ r.fr = 6 → ¬ r.fr = 7 → inR r p := fun q6 q7 => ⟨c.1, c.2, fun e => absurd e q6, fun e => absurd e q7⟩
  refine sj_ (fun a' w' => inR r p ∧ Kn 115 [(7, .int .i64 (spanW r p).1), (8, .int .i64 ((spanW r p).2 - (spanW r p).1 + 1))] a' ∧ On [] w w') (sr_ (run_ 1 K rfl fun a K => ld_ K M 0 rfl rfl rfl rfl rfl rfl R.c0 rfl fun a K => nil_ ?_)) ?_
  · refine wp_block (sr_ (run_ 2 K rfl fun a K => nil_ ?_))
    by_cases c2 : r.fr = 2
    · have hp := hp0 (by omega) (by omega)
      have e := sp_2 c2 hp
      exact ct_ K rfl (decide_eq_true c2) (rg_ (run_ 4 K rfl fun a K => nl_ ⟨hp, fg_ (ks_ (i := 8) (ks_ (i := 7) K rfl (congrArg (Value.int .i64) e.1)) rfl (congrArg (Value.int .i64) e.2)) ⟨rfl, rfl, trivial⟩, on_nil M⟩))
    refine cf_ K rfl (decide_eq_false c2) (sr_ (run_ 2 K rfl fun a K => nil_ ?_))
    by_cases c3 : r.fr = 3
    · have hp := hp0 (by omega) (by omega)
      have e := sp_3 c3 hp
      exact ct_ K rfl (decide_eq_true c3) (rg_ (run_ 4 K rfl fun a K => nl_ ⟨hp, fg_ (ks_ (i := 8) (ks_ (i := 7) K rfl (congrArg (Value.int .i64) e.1)) rfl (congrArg (Value.int .i64) e.2)) ⟨rfl, rfl, trivial⟩, on_nil M⟩))
    refine cf_ K rfl (decide_eq_false c3) (sr_ (run_ 2 K rfl fun a K => nil_ ?_))
    by_cases c4 : r.fr = 4
    · have hp := hp0 (by omega) (by omega)
      have e := sp_4 c4 hp
      exact ct_ K rfl (decide_eq_true c4) (rg_ (run_ 4 K rfl fun a K => nl_ ⟨hp, fg_ (ks_ (i := 8) (ks_ (i := 7) K rfl (congrArg (Value.int .i64) e.1)) rfl (congrArg (Value.int .i64) e.2)) ⟨rfl, rfl, trivial⟩, on_nil M⟩))
    refine cf_ K rfl (decide_eq_false c4) (sr_ (run_ 2 K rfl fun a K => nil_ ?_))
    by_cases c5 : r.fr = 5
    · have hp := hp0 (by omega) (by omega)
      have e := sp_5 h c5 hp
      exact ct_ K rfl (decide_eq_true c5) (rg_ (run_ 4 K rfl fun a K => ld_ K M 0 rfl rfl rfl rfl rfl rfl R.c15 rfl fun a K => run_ 4 K rfl fun a K => nl_ ⟨hp, fg_ (ks_ (i := 8) (ks_ (i := 7) K rfl (congrArg (Value.int .i64) e.1)) rfl (congrArg (Value.int .i64) e.2)) ⟨rfl, rfl, trivial⟩, on_nil M⟩))
    refine cf_ K rfl (decide_eq_false c5) (sr_ (run_ 2 K rfl fun a K => nil_ ?_))
    by_cases c6 : r.fr = 6
    · refine ct_ K rfl (decide_eq_true c6) (wp_seq (sr_ (run_ 1 K rfl fun a K => cl_ K Tryz.func33 (by kernel_rfl) rfl rfl rfl rfl rfl rfl ((rin_on p 12 119999).mono ?_))))
      rintro _ w1 ⟨rfl, b1⟩
      replace M := M.call b1
      refine ⟨_, rfl, fun a K => run_ 1 K rfl fun a K => nil_ ?_⟩
      by_cases q : 12 ≤ p ∧ p ≤ 119999
      case neg => exact ct_ K rfl (by rw [decide_eq_false q]; rfl) (sr_ (run_ 3 K rfl fun a K => nil_ (ret3_ rfl K rfl rfl rfl ⟨no (fun z => q (z.1.2.2.1 c6)), M.bl⟩)))
      have hp : inR r p := ⟨c.1, c.2, fun _ => q, fun e => by omega⟩
      have e := sp_6 c6 hp
      have N6 : ∀ W, Calls Tryz.prog 32 #[.agg #[.int .i64 (wrap64 (Int.tdiv p 12)), .int .i64 (wrap64 (Int.tmod p 12 + 1)), .int .i64 1]] W (Rets W (.int .i64 (num (p / 12) (p % 12 + 1) 1))) := fun W => by
        rw [e.2.2.1, e.2.2.2]; exact rnumb_on (by omega) (by omega) (by omega) (by omega) (by decide) (by decide)
      have L6 : ∀ W, Calls Tryz.prog 31 #[.int .i64 (wrap64 (Int.tdiv p 12)), .int .i64 (wrap64 (Int.tmod p 12 + 1))] W (Rets W (.int .i64 (ln (p / 12) (p % 12 + 1)))) := fun W => by
        rw [e.2.2.1, e.2.2.2]; exact rlenm_on (by omega) (by omega)
      refine cs_ K rfl (by rw [decide_eq_true q]; rfl) (sr_ (run_ 5 K rfl fun a K => val_ K rfl rfl rfl (run_bq30 rfl (K.of (x := .tmp 46) rfl) (K.of (x := .tmp 49) rfl) (K.of (x := .const (.int .i64 1)) rfl)) fun a K => cl_ K Tryz.func32 (by kernel_rfl) rfl rfl rfl rfl rfl rfl ((N6 _).mono ?_)))
      rintro _ w6 ⟨rfl, b6⟩
      replace M := M.call b6
      refine ⟨_, rfl, fun a K => run_ 2 K rfl fun a K => nil_ ?_⟩
      refine rg_ (run_ 5 K rfl fun a K => cl_ K Tryz.func31 (by kernel_rfl) rfl rfl rfl rfl rfl rfl ((L6 _).mono ?_))
      rintro _ w5 ⟨rfl, b5⟩
      replace M := M.call b5
      refine ⟨_, rfl, fun a K => run_ 2 K rfl fun a K => ?_⟩
      exact nl_ ⟨hp, fg_ (ks_ (i := 8) (ks_ (i := 7) K rfl (congrArg (Value.int .i64) e.1)) rfl (congrArg (Value.int .i64) e.2.1)) ⟨rfl, rfl, trivial⟩, on_nil M⟩
    refine cf_ K rfl (decide_eq_false c6) (sr_ (run_ 2 K rfl fun a K => nil_ ?_))
    by_cases c7 : r.fr = 7
    · refine ct_ K rfl (decide_eq_true c7) (wp_seq (sr_ (run_ 1 K rfl fun a K => cl_ K Tryz.func33 (by kernel_rfl) rfl rfl rfl rfl rfl rfl ((rin_on p 1 9999).mono ?_))))
      rintro _ w1 ⟨rfl, b1⟩
      replace M := M.call b1
      refine ⟨_, rfl, fun a K => run_ 1 K rfl fun a K => nil_ ?_⟩
      by_cases q : 1 ≤ p ∧ p ≤ 9999
      case neg => exact ct_ K rfl (by rw [decide_eq_false q]; rfl) (sr_ (run_ 3 K rfl fun a K => nil_ (ret3_ rfl K rfl rfl rfl ⟨no (fun z => q (z.1.2.2.2 c7)), M.bl⟩)))
      have hp : inR r p := ⟨c.1, c.2, fun e => by omega, fun _ => q⟩
      obtain ⟨e0, _, _, e1, e2⟩ := sp_7 c7 hp
      have N7 : ∀ W, Calls Tryz.prog 32 #[.agg #[.int .i64 (wrap64 (p + 1)), .int .i64 1, .int .i64 1]] W (Rets W (.int .i64 (num (p + 1) 1 1))) := fun W => by
        rw [e0]; exact rnumb_on (by omega) (by omega) (by decide) (by decide) (by decide) (by decide)
      have F7 : ∀ W, Calls Tryz.prog 57 #[.int .i64 (wrap64 (p + 1)), .int .i64 r.wk] W (Rets W (.int .i64 (fw (p + 1) r.wk))) := fun W => by
        rw [e0]; exact fweek_on (by omega) (by omega) k0 k1
      refine cs_ K rfl (by rw [decide_eq_true q]; rfl) (sr_ (run_ 1 K rfl fun a K => val_ K rfl rfl rfl (run_bq30 rfl (K.of (x := .tmp 65) rfl) (K.of (x := .const (.int .i64 1)) rfl) (K.of (x := .const (.int .i64 1)) rfl)) fun a K => cl_ K Tryz.func32 (by kernel_rfl) rfl rfl rfl rfl rfl rfl ((rnumb_on (y := p) (m := 1) (d := 1) (by omega) (by omega) (by decide) (by decide) (by decide) (by decide)).mono ?_)))
      rintro _ w2 ⟨rfl, b2⟩
      replace M := M.call b2
      refine ⟨_, rfl, fun a K => run_ 2 K rfl fun a K => nil_ ?_⟩
      refine sr_ (run_ 2 K rfl fun a K => val_ K rfl rfl rfl (run_bq30 rfl (K.of (x := .tmp 70) rfl) (K.of (x := .const (.int .i64 1)) rfl) (K.of (x := .const (.int .i64 1)) rfl)) fun a K => cl_ K Tryz.func32 (by kernel_rfl) rfl rfl rfl rfl rfl rfl ((N7 _).mono ?_))
      rintro _ w3 ⟨rfl, b3⟩
      replace M := M.call b3
      refine ⟨_, rfl, fun a K => run_ 4 K rfl fun a K => nil_ ?_⟩
      refine sr_ (run_ 1 K rfl fun a K => ld_ K M 0 rfl rfl rfl rfl rfl rfl e12 rfl fun a K => run_ 2 K rfl fun a K => nil_ ?_)
      by_cases z : r.wn = []
      · have e := e1 z
        exact cf_ K rfl (nil_pos z) (wp_skip ⟨hp, fg_ (ks_ (i := 8) (ks_ (i := 7) K rfl (congrArg (Value.int .i64) e.1)) rfl (congrArg (Value.int .i64) e.2)) ⟨rfl, rfl, trivial⟩, on_nil M⟩)
      have e := e2 z
      refine ct_ K rfl (pos_l z) (sr_ (run_ 2 K rfl fun a K => ld_ K M 0 rfl rfl rfl rfl rfl rfl R.c15 rfl fun a K => cl_ K Tryz.func57 (by kernel_rfl) rfl rfl rfl rfl rfl rfl ((fweek_on (y := p) (by omega) (by omega) k0 k1).mono ?_)))
      rintro _ w3 ⟨rfl, b3⟩
      replace M := M.call b3
      refine ⟨_, rfl, fun a K => run_ 2 K rfl fun a K => nil_ ?_⟩
      refine rg_ (run_ 3 K rfl fun a K => ld_ K M 0 rfl rfl rfl rfl rfl rfl R.c15 rfl fun a K => cl_ K Tryz.func57 (by kernel_rfl) rfl rfl rfl rfl rfl rfl ((F7 _).mono ?_))
      rintro _ w4 ⟨rfl, b4⟩
      replace M := M.call b4
      refine ⟨_, rfl, fun a K => run_ 4 K rfl fun a K => ?_⟩
      exact nl_ ⟨hp, fg_ (ks_ (i := 8) (ks_ (i := 7) K rfl (congrArg (Value.int .i64) e.1)) rfl (congrArg (Value.int .i64) e.2)) ⟨rfl, rfl, trivial⟩, on_nil M⟩
    have hp := hp0 c6 c7
    have e := sp_1 (r := r) (by omega) p
    exact cf_ K rfl (decide_eq_false c7) (wp_skip ⟨hp, fg_ (ks_ (i := 8) (ks_ (i := 7) K rfl (congrArg (Value.int .i64) e.1)) rfl (congrArg (Value.int .i64) e.2)) ⟨rfl, rfl, trivial⟩, on_nil M⟩)
  clear K M
  rintro a W ⟨hp, K, M⟩
  have b := span_bd2 h hp
  have ee := sp_end h hp
  have YB : ∀ W, Calls Tryz.prog 15 #[.int .i64 (wrap64 (wrap64 ((spanW r p).1 + ((spanW r p).2 - (spanW r p).1 + 1)) - 1))] W (Rets W (.tuple #[.agg #[.int .i64 (yearsV (spanW r p).2).1, .int .i64 (yearsV (spanW r p).2).2.1, .int .i64 (yearsV (spanW r p).2).2.2.1], .bool (decide (InT (spanW r p).2))])) := fun W => by
    rw [ee]; exact ryears_on (by omega) (by omega)
  refine wp_seq (sr_ (run_ 1 K rfl fun a K => cl_ K Tryz.func15 (by kernel_rfl) rfl rfl rfl rfl rfl rfl ((ryears_on (t := (spanW r p).1) (by omega) (by omega)).mono ?_)))
  rintro _ w1 ⟨rfl, b1⟩
  replace M := M.call b1
  refine ⟨_, rfl, fun a K => run_ 3 K rfl fun a K => nw_ K M rfl rfl rfl rfl rfl rfl rfl (fun _ => rfl) rfl rfl rfl fun a g9 W9 M K => run_ 1 K rfl fun a K => nil_ ?_⟩
  refine sr_ (run_ 2 K rfl fun a K => nil_ ?_)
  by_cases ia : InT (spanW r p).1
  case neg => exact ct_ K rfl (by rw [decide_eq_false ia]; rfl) (sr_ (run_ 3 K rfl fun a K => nil_ (ret3_ rfl K rfl rfl rfl ⟨no (fun z => ia z.2.1), M.bl⟩)))
  refine cs_ K rfl (by rw [decide_eq_true ia]; rfl) (wp_seq (sr_ (run_ 4 K rfl fun a K => cl_ K Tryz.func15 (by kernel_rfl) rfl rfl rfl rfl rfl rfl ((YB _).mono ?_))))
  rintro _ w4 ⟨rfl, b4⟩
  replace M := M.call b4
  refine ⟨_, rfl, fun a K => run_ 3 K rfl fun a K => nw_ K M rfl rfl rfl rfl rfl rfl rfl (fun _ => rfl) rfl rfl rfl fun a g11 W11 M K => run_ 1 K rfl fun a K => nil_ ?_⟩
  refine sr_ (run_ 2 K rfl fun a K => nil_ ?_)
  by_cases ib : InT (spanW r p).2
  case neg => exact ct_ K rfl (by rw [decide_eq_false ib]; rfl) (sr_ (run_ 3 K rfl fun a K => nil_ (ret3_ rfl K rfl rfl rfl ⟨no (fun z => ib z.2.2), M.bl⟩)))
  refine cs_ K rfl (by rw [decide_eq_true ib]; rfl) (sr_ (run_ 8 K rfl fun a K => nil_ (ret3_ rfl K rfl rfl rfl ⟨by rw [ee]; exact yes ⟨hp, ia, ib⟩, M.bl⟩)))
end Go.Proofs.YtjjaiahfkiojlaaGreat.Pure
