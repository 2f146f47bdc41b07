/- The reference's small functions, as contracts. No condition beyond those each lemma names. -/
import Derived.Test.YtmhpmkbifhgnbaaT23Z
import Derived.Test.YtmhpmkbifhgnbaaF22p
namespace Go.Proofs.Ytmhpmkbifhgnbaa.Pure
open Go.RowKit Go.Proofs.Ytmhpmkbifhgnbaa.O Go.Proofs.YtmhpmkbifhgnbaaW.PrintWords Go.Proofs.YtmhpmkbifhgnbaaW.PrintLast
open Go.Proofs.Ytmhpmkbifhgnbaa.Civ
set_option linter.unusedVariables false
set_option linter.unusedSimpArgs false
set_option maxHeartbeats 4000000
set_option maxRecDepth 100000
section
variable {ρ : Operand → Value} {o : Oper} {w : World}
theorem fq0 (a b c : Int) (w : World) : (Instr.field 39 (.agg #[.int .i64 a, .int .i64 b, .int .i64 c]) 0).run Try.prog w = .ok (.int .i64 a) w := by kernel_rfl
/-- The year of a date. -/
theorem run_f30 {x : Operand} {a b c : Int} (ho : o.op = .field 39 x 0) (hx : ρ x = .agg #[.int .i64 a, .int .i64 b, .int .i64 c]) : (execOp ρ o).run Try.prog w = .ok (.value (.int .i64 a)) w := by
  unfold execOp; rw [ho]
  show ((do pure (Next.value (← Instr.field 39 (ρ x) 0)) : Sem Next)).run Try.prog w = _
  rw [hx, Sem.run_bind, fq0]
  rfl
theorem bq30 (a b c : Int) (w : World) : (Instr.build 39 #[(0, .int .i64 a), (1, .int .i64 b), (2, .int .i64 c)]).run Try.prog w = .ok (.agg #[.int .i64 a, .int .i64 b, .int .i64 c]) w := by kernel_rfl
theorem run_bq30 {x y z : Operand} {a b c : Int} (ho : o.op = .build 39 #[(0, x), (1, y), (2, z)]) (hx : ρ x = .int .i64 a) (hy : ρ y = .int .i64 b) (hz : ρ z = .int .i64 c) : (execOp ρ o).run Try.prog w = .ok (.value (.agg #[.int .i64 a, .int .i64 b, .int .i64 c])) w := by
  unfold execOp; rw [ho]
  simp only [hx, hy, hz, List.map_toArray, List.map_cons, List.map_nil]
  rw [Sem.run_bind, bq30]
  rfl
end
theorem int_ret {b c : Int} (h : b = c) : Ending.returned (Value.int .i64 b) = Ending.returned (Value.int .i64 c) := by rw [h]
/-! The reference's small functions, as contracts -/
theorem wd_w (n : Int) : Int.tmod (wrap64 (n % 7 + 4)) 7 = wd n := by
  rw [w64 (by omega) (by omega), tmod_nn _ (by omega)]
  unfold wd
  omega
section
variable {w : World}
theorem rdiv_on {a b : Int} (hb : 0 < b) (hb' : b ≤ 1000000) (h : -9223372036854775808 ≤ a) (h' : a < 9223372036854775808) : Calls Try.prog 22 #[.int .i64 a, .int .i64 b] w (Rets w (.tuple #[.int .i64 (a / b), .int .i64 (a % b)])) := (solsticeref01_Div.calls a b _ _ w (rdiv hb hb' h h')).mono fun _ _ => rets_drawn
theorem rwd_on {n : Int} (h : -9223372036854775808 ≤ n) (h' : n < 9223372036854775808) : Calls Try.prog 27 #[.int .i64 n] w (Rets w (.int .i64 (wd n))) := by
  have M := On.nil w
  refine en_ Try.func27 rfl rfl rfl fun a K => sr_ (run_ 1 K rfl fun a K => nil_ (sr_ (run_ 1 K rfl fun a K => cl_ K Try.func22 (by kernel_rfl) rfl rfl rfl rfl rfl rfl ((rdiv_on (a := n) (by decide) (by decide) h h').mono ?_))))
  rintro _ w1 ⟨rfl, b1⟩
  replace M := M.call b1
  refine ⟨_, rfl, fun a K => run_ 5 K rfl fun a K => nil_ ?_⟩
  refine sr_ (run_ 4 K rfl fun a K => nil_ ?_)
  exact ret_ rfl K rfl ⟨int_ret (wd_w n), M.bl⟩
theorem rdate_on {n : Int} (h : -719528 ≤ n) (h' : n ≤ 2933262) : Calls Try.prog 23 #[.int .i64 n] w (Rets w (.agg #[.int .i64 (dt n).1, .int .i64 (dt n).2.1, .int .i64 (dt n).2.2])) := by
  obtain ⟨k, hk⟩ := (rdate_dt h h').rounds
  exact solsticeref01_Date.calls k n _ _ _ w hk
theorem rnumb_on {y m d : Int} (hy : 0 ≤ y) (hy' : y ≤ 20000) (hm : 1 ≤ m) (hm' : m ≤ 13) (hd : 0 ≤ d) (hd' : d ≤ 1000000) : Calls Try.prog 45 #[.agg #[.int .i64 y, .int .i64 m, .int .i64 d]] w (Rets w (.int .i64 (num y m d))) := by
  obtain ⟨k, hk⟩ := (rnum' hy hy' hm hm' hd hd').rounds
  exact solsticeref01_Number.calls k y m d _ w hk
theorem rlong_on {y : Int} (h : -9223372036854775808 ≤ y) (h' : y < 9223372036854775808) : Calls Try.prog 26 #[.int .i64 y] w (Rets w (.bool (lp y))) := (solsticeref01_Long.calls y _ w (rlong h h')).mono fun _ _ => rets_drawn
theorem rlenm_on {y m : Int} (h : -9223372036854775808 ≤ y) (h' : y < 9223372036854775808) : Calls Try.prog 24 #[.int .i64 y, .int .i64 m] w (Rets w (.int .i64 (ln y m))) := by
  obtain ⟨k, hk⟩ := (rlen (y := y) m h h').rounds
  exact (solsticeref01_Len.calls k y m _ w hk).mono fun _ _ => rets_drawn
theorem rin_on (a b c : Int) : Calls Try.prog 43 #[.int .i64 a, .int .i64 b, .int .i64 c] w (Rets w (.bool (decide (b ≤ a ∧ a ≤ c)))) := (solsticeref21_in.calls a b c _ w (rin21 a b c)).mono fun _ _ => rets_drawn
theorem ryears_on {t : Int} (h : -9223372036854775808 ≤ t) (h' : t < 9223372036854775808) : Calls Try.prog 18 #[.int .i64 t] w (Rets w (.tuple #[.agg #[.int .i64 (yearsV t).1, .int .i64 (yearsV t).2.1, .int .i64 (yearsV t).2.2.1], .bool (decide (InT t))])) := by
  obtain ⟨k, hk⟩ := (ryears h h').rounds
  have e : (yearsV t).2.2.2 = decide (InT t) := by
    by_cases c : InT t
    · rw [decide_eq_true c, years_in c]
    · rw [decide_eq_false c]
      cases q : (yearsV t).2.2.2 with
      | false => rfl
      | true => exact absurd (years_ok q) c
  rw [← e]
  exact solsticeref16_Years.calls k t _ _ _ _ w hk
end
theorem fweek_on {w : World} {y k : Int} (h : 0 ≤ y) (h' : y ≤ 10002) (k0 : 0 ≤ k) (k1 : k ≤ 6) : Calls Try.prog 46 #[.int .i64 y, .int .i64 k] w (Rets w (.int .i64 (fw y k))) := by
  have M := On.nil w
  have a := ah_b2 h h'
  have e := num4 y
  refine en_ Try.func46 rfl rfl rfl fun a K => sr_ (run_ 1 K rfl fun a K => nil_ (sr_ (run_ 1 K rfl fun a K => val_ K rfl rfl rfl (run_bq30 rfl (K.of (x := .tmp 6) rfl) (K.of (x := .const (.int .i64 1)) rfl) (K.of (x := .const (.int .i64 4)) rfl)) fun a K => cl_ K Try.func45 (by kernel_rfl) rfl rfl rfl rfl rfl rfl ((rnumb_on (y := y) (m := 1) (d := 4) h (by omega) (by decide) (by decide) (by decide) (by decide)).mono ?_))))
  rintro _ w2 ⟨rfl, b2⟩
  replace M := M.call b2
  refine ⟨_, rfl, fun a K => run_ 1 K rfl fun a K => nil_ ?_⟩
  refine sr_ (run_ 2 K rfl fun a K => cl_ K Try.func27 (by kernel_rfl) rfl rfl rfl rfl rfl rfl ((rwd_on (n := num y 1 4) (by omega) (by omega)).mono ?_))
  rintro _ w2 ⟨rfl, b2⟩
  replace M := M.call b2
  refine ⟨_, rfl, fun a K => run_ 6 K rfl fun a K => nil_ ?_⟩
  exact ret_ rfl K rfl ⟨int_ret (fw_w h h' k0 k1), M.bl⟩
theorem weeks2_on {w : World} {y k : Int} (h : 0 ≤ y) (h' : y ≤ 10001) (k0 : 0 ≤ k) (k1 : k ≤ 6) : Calls Try.prog 79 #[.int .i64 y, .int .i64 k] w (Rets w (.int .i64 ((fw (y + 1) k - fw y k) / 7))) := by
  have M := On.nil w
  have e : wrap64 (y + 1) = y + 1 := w64 (by omega) (by omega)
  have F1 : ∀ W, Calls Try.prog 46 #[.int .i64 (wrap64 (y + 1)), .int .i64 k] W (Rets W (.int .i64 (fw (y + 1) k))) := fun W => by rw [e]; exact fweek_on (by omega) (by omega) k0 k1
  refine en_ Try.func79 rfl rfl rfl fun a K => sr_ (run_ 1 K rfl fun a K => nil_ (sr_ (run_ 3 K rfl fun a K => cl_ K Try.func46 (by kernel_rfl) rfl rfl rfl rfl rfl rfl ((F1 _).mono ?_))))
  rintro _ w3 ⟨rfl, b3⟩
  replace M := M.call b3
  refine ⟨_, rfl, fun a K => run_ 2 K rfl fun a K => cl_ K Try.func46 (by kernel_rfl) rfl rfl rfl rfl rfl rfl ((fweek_on (y := y) h (by omega) k0 k1).mono ?_)⟩
  rintro _ w6 ⟨rfl, b6⟩
  replace M := M.call b6
  refine ⟨_, rfl, fun a K => run_ 3 K rfl fun a K => nil_ ?_⟩
  exact ret_ rfl K rfl ⟨int_ret (weeks_w h h'), M.bl⟩
theorem yday2_on {w : World} {n : Int} (h : -719528 ≤ n) (h' : n ≤ 2933262) : Calls Try.prog 25 #[.int .i64 n] w (Rets w (.int .i64 (yd n))) := by
  have M := On.nil w
  have y := yr_bd h h'
  refine en_ Try.func25 rfl rfl rfl fun a K => sr_ (run_ 1 K rfl fun a K => nil_ (sr_ (run_ 2 K rfl fun a K => cl_ K Try.func23 (by kernel_rfl) rfl rfl rfl rfl rfl rfl ((rdate_on h h').mono ?_))))
  rintro _ w2 ⟨rfl, b2⟩
  replace M := M.call b2
  refine ⟨_, rfl, fun a K => val_ K rfl rfl rfl (run_f30 rfl (K.of (x := .tmp 5) rfl)) fun a K => val_ K rfl rfl rfl (run_bq30 rfl (K.of (x := .tmp 6) rfl) (K.of (x := .const (.int .i64 1)) rfl) (K.of (x := .const (.int .i64 1)) rfl)) fun a K => cl_ K Try.func45 (by kernel_rfl) rfl rfl rfl rfl rfl rfl ((rnumb_on (y := yr n) (m := 1) (d := 1) y.1 (by omega) (by decide) (by decide) (by decide) (by decide)).mono ?_)⟩
  rintro _ w5 ⟨rfl, b5⟩
  replace M := M.call b5
  refine ⟨_, rfl, fun a K => run_ 3 K rfl fun a K => nil_ ?_⟩
  exact ret_ rfl K rfl ⟨int_ret (yd_w h h').1, M.bl⟩
theorem no_on {w : World} {n k : Int} (h : -719162 ≤ n) (h' : n ≤ 2932896) (k0 : 0 ≤ k) (k1 : k ≤ 6) : Calls Try.prog 52 #[.int .i64 n, .int .i64 k] w (Rets w (.tuple #[.int .i64 (noV n k).1, .int .i64 (noV n k).2.1])) := by
  have M := On.nil w
  have y := yr_bd (n := n) (by omega) (by omega)
  have r := (yr_range (n := n) (by omega) (by omega)).2 ⟨h, h'⟩
  have hm := yr_mid (k := k) h h'
  have e := no_mid (k := k) h h'
  rw [noV_in h h' k0 k1]
  have e1 : decide (yr n < 10000) = true := decide_eq_true (by omega)
  have ea : wrap64 (yr n - 1) = yr n - 1 := w64 (by omega) (by omega)
  have eb : wrap64 (yr n + 1) = yr n + 1 := w64 (by omega) (by omega)
  have F1 : ∀ W, Calls Try.prog 46 #[.int .i64 (wrap64 (yr n + 1)), .int .i64 k] W (Rets W (.int .i64 (fw (yr n + 1) k))) := fun W => by rw [eb]; exact fweek_on (by omega) (by omega) k0 k1
  refine en_ Try.func52 rfl rfl rfl fun a K => sr_ (run_ 2 K rfl fun a K => nil_ (sr_ (run_ 1 K rfl fun a K => cl_ K Try.func23 (by kernel_rfl) rfl rfl rfl rfl rfl rfl ((rdate_on (n := n) (by omega) (by omega)).mono ?_))))
  rintro _ w1 ⟨rfl, b1⟩
  replace M := M.call b1
  refine ⟨_, rfl, fun a K => val_ K rfl rfl rfl (run_f30 rfl (K.of (x := .tmp 8) rfl)) fun a K => run_ 1 K rfl fun a K => nil_ ?_⟩
  refine sj_ (fun a' w' => Kn 37 [(6, .int .i64 (yr (mid n k))), (0, .int .i64 n), (1, .int .i64 k)] a' ∧ On [] w w') (sr_ (run_ 3 K rfl fun a K => cl_ K Try.func46 (by kernel_rfl) rfl rfl rfl rfl rfl rfl ((fweek_on (y := yr n) y.1 (by omega) k0 k1).mono ?_))) ?_
  rintro _ w3 ⟨rfl, b3⟩
  replace M := M.call b3
  refine ⟨_, rfl, fun a K => run_ 1 K rfl fun a K => nil_ ?_⟩
  · by_cases c : n < fw (yr n) k
    · rw [if_pos c] at e
      refine ct_ K rfl (decide_eq_true c) (rg_ (run_ 3 K rfl fun a K => nil_ ⟨fg_ (ks_ (i := 6) K rfl (congrArg (Value.int .i64) (ea.trans e.symm))) ⟨rfl, rfl, rfl, trivial⟩, M⟩))
    rw [if_neg c] at e
    refine cf_ K rfl (decide_eq_false c) (sr_ (run_ 2 K rfl fun a K => run_ 5 (fx_ K e1) rfl fun a K => cl_ K Try.func46 (by kernel_rfl) rfl rfl rfl rfl rfl rfl ((F1 _).mono ?_)))
    rintro _ w7 ⟨rfl, b7⟩
    replace M := M.call b7
    refine ⟨_, rfl, fun a K => run_ 2 K rfl fun a K => nil_ ?_⟩
    by_cases c2 : fw (yr n + 1) k ≤ n
    · rw [if_pos c2] at e
      exact ct_ K rfl (decide_eq_true c2) (rg_ (run_ 3 K rfl fun a K => nil_ ⟨fg_ (ks_ (i := 6) K rfl (congrArg (Value.int .i64) (eb.trans e.symm))) ⟨rfl, rfl, rfl, trivial⟩, M⟩))
    · rw [if_neg c2] at e
      exact cf_ K rfl (decide_eq_false c2) (wp_skip (thn_ ⟨fg_ (ks_ (i := 6) K rfl (congrArg (Value.int .i64) e.symm)) ⟨rfl, rfl, rfl, trivial⟩, M⟩))
  clear K M
  rintro a W ⟨K, M⟩
  refine sr_ (run_ 4 K rfl fun a K => cl_ K Try.func46 (by kernel_rfl) rfl rfl rfl rfl rfl rfl ((fweek_on (y := yr (mid n k)) hm.1 (by omega) k0 k1).mono ?_))
  rintro _ w4 ⟨rfl, b4⟩
  replace M := M.call b4
  refine ⟨_, rfl, fun a K => run_ 5 K rfl fun a K => nil_ ?_⟩
  exact ret2_ rfl K rfl rfl ⟨by rw [no_w h h'], M.bl⟩
/-! Lists and clocks -/
theorem take_has {l : List Int} {n : Int} {i : Nat} (h : i < l.length) : decide (n ∈ l.take (i + 1)) = (decide (n ∈ l.take i) || decide (l[i] = n)) := by
  rw [← List.take_append_getElem h, ← Bool.decide_or, decide_eq_decide, List.mem_append, List.mem_singleton, eq_comm (a := n)]
theorem has_on {w : World} {A : Option Addr} {c : Nat} {l : List Int} (n : Int) (hk : Kd.C (Kd.int .i64) w A l.length l) (hl : l.length ≤ 1000000000) : Calls Try.prog 78 #[.slice A l.length c, .int .i64 n] w (Rets w (.bool (decide (n ∈ l)))) := by
  refine en_ Try.func78 rfl rfl rfl fun a K => sr_ (run_ 1 K rfl fun a K => nil_ (wp_seq (sr_ (run_ 1 K rfl fun a K => nil_ (wp_block (wp_loop (fun a W => ∃ i : Nat, i ≤ l.length ∧ decide (n ∈ l.take i) = false ∧ Kn 18 [(5, .int .i64 (i : Int)), (1, .int .i64 n), (0, .slice A l.length c)] a ∧ On [] w W) (fun a _ => leftN 5 l.length a) ⟨0, Nat.zero_le _, rfl, fg_ K ⟨rfl, rfl, rfl, trivial⟩, On.nil w⟩ ?_))))))
  clear K
  rintro a W ⟨i, hi, hn, K, M⟩
  have KL := leftN_ (n := l.length) (d := 5) K rfl
  refine wp_seq (sr_ (run_ 4 K rfl fun a2 K2 => nil_ ?_))
  by_cases hc : i < l.length
  case neg =>
    obtain rfl : i = l.length := by omega
    rw [List.take_length] at hn
    exact cf_ K2 rfl (kp_ge hc) (ex_ (thn_ (sr_ (run_ 1 K2 rfl fun a K => nil_ (ret_ rfl K rfl ⟨bool_ret hn.symm, M.bl⟩)))))
  obtain ⟨ad, eA, hat⟩ := C_at hk (by omega)
  subst eA
  have hx := List.getElem?_eq_getElem hc
  have e2 := kp_inc hc (by omega)
  have e3 := take_has (n := n) hc
  have hmem : l[i] ∈ l := List.getElem_mem hc
  rw [hn, Bool.false_or] at e3
  generalize l[i] = x at hx e3 hmem
  refine ck_ K2 rfl (kp_lt hc) (wp_seq (bjn_ (fun a' W' => ¬ x = n ∧ Kn 18 [(5, .int .i64 (i : Int)), (1, .int .i64 n), (0, .slice (some ad) l.length c)] a' ∧ On [] w W') (sr_ (run_ 2 K2 rfl fun a K => ix_ K hc (by omega) rfl rfl rfl rfl rfl rfl fun a K => el_ K (cell_on M (hat i x hx)) rfl rfl rfl rfl rfl fun a K => run_ 2 K rfl fun a K => nil_ ?_)) ?_))
  case refine_2 =>
    rintro a' W' ⟨hne, K', M'⟩
    refine rg_ (run_ 3 K' rfl fun a5 K5 => nl_ ⟨⟨i + 1, hc, by rw [e3]; exact decide_eq_false hne, fg_ (ks_ (i := 5) K5 rfl (congrArg (Value.int .i64) e2)) ⟨rfl, rfl, rfl, trivial⟩, M'⟩, ?_⟩)
    rw [leftN_ (d := 5) K5 rfl, KL, e2]
    exact leftN_lt hc
  by_cases d : x = n
  · exact ct_ K rfl (decide_eq_true d) (sr_ (run_ 1 K rfl fun a K => nil_ (ret_ rfl K rfl ⟨bool_ret (by rw [← d]; exact (decide_eq_true hmem).symm), M.bl⟩)))
  · exact cf_ K rfl (decide_eq_false d) (wp_skip ⟨d, fg_ K ⟨rfl, rfl, rfl, trivial⟩, M⟩)
theorem pos_l {l : List Int} (h : l ≠ []) : decide (0 < (l.length : Int)) = true := decide_eq_true (by have := List.length_pos_iff.2 h; omega)
theorem nil_pos {l : List Int} (h : l = []) : decide (0 < (l.length : Int)) = false := by rw [h]; rfl
theorem fits_on {w : World} {A : Option Addr} {c : Nat} {l : List Int} (n s : Int) (asked : Bool) (hk : Kd.C (Kd.int .i64) w A l.length l) (hl : l.length ≤ 1000000000) : Calls Try.prog 51 #[.slice A l.length c, .int .i64 n, .int .i64 s, .bool asked] w (Rets w (.bool (oneV l n s asked))) := by
  have M := On.nil w
  refine en_ Try.func51 rfl rfl rfl fun a K => sr_ (run_ 1 K rfl fun a K => nil_ (wp_seq (sr_ (run_ 3 K rfl fun a K => nil_ ?_))))
  by_cases h : l = []
  · have e : oneV l n s asked = (!asked || decide (n = s)) := by unfold oneV; rw [if_pos h]; cases asked <;> rfl
    refine cs_ K rfl (nil_pos h) (sr_ ?_)
    cases asked
    · have e1 : (!false : Bool) = true := rfl
      exact (run_ 2 K rfl fun a K => run_ 6 (fx_ K e1) rfl fun a K => nil_ (ret_ rfl K rfl ⟨bool_ret e.symm, M.bl⟩))
    · have e1 : (!true : Bool) = false := rfl
      exact (run_ 2 K rfl fun a K => run_ 6 (fx_ K e1) rfl fun a K => nil_ (ret_ rfl K rfl ⟨bool_ret e.symm, M.bl⟩))
  · have e : oneV l n s asked = decide (n ∈ l) := by unfold oneV; rw [if_neg h]
    refine ct_ K rfl (pos_l h) (sr_ (run_ 2 K rfl fun a K => cl_ K Try.func78 (by kernel_rfl) rfl rfl rfl rfl rfl rfl ((has_on n hk hl).mono ?_)))
    rintro _ w2 ⟨rfl, b2⟩
    replace M := M.call b2
    refine ⟨_, rfl, fun a K => run_ 1 K rfl fun a K => nil_ ?_⟩
    exact ret_ rfl K rfl ⟨bool_ret e.symm, M.bl⟩
end Go.Proofs.Ytmhpmkbifhgnbaa.Pure
