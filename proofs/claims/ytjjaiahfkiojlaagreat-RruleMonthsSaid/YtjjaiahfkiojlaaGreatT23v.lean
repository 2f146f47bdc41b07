/- RruleMonths answers true. No condition. -/
import Derived.Test.YtjjaiahfkiojlaaGreatMT23s
import Derived.Test.YtjjaiahfkiojlaaGreatT23L
import Derived.Test.YtjjaiahfkiojlaaGreatOx7
import Derived.Test.YtjjaiahfkiojlaaGreatMOx8
namespace Go.Proofs.YtjjaiahfkiojlaaGreat.Pure
open Go.RowKit Go.Proofs.YtjjaiahfkiojlaaGreat.O Go.Proofs.YtjjaiahfkiojlaaGreatW.PrintWords Go.Proofs.YtjjaiahfkiojlaaGreatW.PrintLast
open Go.Proofs.YtjjaiahfkiojlaaGreat.Civ
set_option linter.unusedVariables false
set_option linter.unusedSimpArgs false
set_option maxRecDepth 100000
set_option maxHeartbeats 4000000
theorem rlen_on {w : World} {y m : Int} (h : -9223372036854775808 ≤ y) (h' : y < 9223372036854775808) : Calls Tryz.prog 31 #[.int .i64 y, .int .i64 m] w (Rets w (.int .i64 (ln y m))) := by
  obtain ⟨k, hk⟩ := (rlen (y := y) m h h').rounds
  exact (solsticeref01_Len.calls k y m _ w hk).mono fun _ _ => rets_drawn
theorem rnum_on {w : World} {y m d : Int} (h : Rt y m d) : Calls Tryz.prog 32 #[.agg #[.int .i64 y, .int .i64 m, .int .i64 d]] w (Rets w (.int .i64 (num y m d))) := by
  obtain ⟨k, hk⟩ := (rnum h).rounds
  exact solsticeref01_Number.calls k y m d _ w hk
section
variable {ρ : Operand → Value} {o : Oper} {w : World}
theorem b30_run (a b c : Int) (w : World) : (Instr.build 30 #[(0, .int .i64 a), (1, .int .i64 b), (2, .int .i64 c)]).run Tryz.prog w = .ok (.agg #[.int .i64 a, .int .i64 b, .int .i64 c]) w := by kernel_rfl
theorem run_b30 {x y z : Operand} {a b c : Int} (ho : o.op = .build 30 #[(0, x), (1, y), (2, z)]) (hx : ρ x = .int .i64 a) (hy : ρ y = .int .i64 b) (hz : ρ z = .int .i64 c) : (execOp ρ o).run Tryz.prog w = .ok (.value (.agg #[.int .i64 a, .int .i64 b, .int .i64 c])) w := by
  unfold execOp; rw [ho]
  simp only [hx, hy, hz, List.map_toArray, List.map_cons, List.map_nil]
  rw [Sem.run_bind, b30_run]
  rfl
end
theorem remu_ {m n : Int} (h : n ≠ 0) : binU .rem 28 28 m n = some (.int .u64 (Int.tmod m n)) := by
  simp only [binU, decide_eq_false h]
  rfl
theorem um_ln {y m : Int} (a : Int) (h1 : 1 ≤ m) (h2 : m ≤ 12) : IntKind.u64.wrap (ln y m) ≠ 0 ∧ ∃ d, 1 ≤ d ∧ d ≤ ln y m ∧ wrap64 (1 + wrap64 (Int.tmod (IntKind.u64.wrap a) (IntKind.u64.wrap (ln y m)))) = d := by
  have l := ln_bd y m h1 h2
  have e : IntKind.u64.wrap (ln y m) = ln y m := by rw [u64w]; omega
  rw [e]
  exact ⟨by omega, um1 a (by omega) (by omega)⟩
theorem mon_w {y m d ev : Int} (h : MonB y m d ev) {i : Nat} (hi : i ≤ 2000) :
    wrap64 (wrap64 (wrap64 (wrap64 (12 * y) + m) - 1) + wrap64 ((i : Int) * ev)) = kM y m ev i ∧ wrap64 (Int.tdiv (kM y m ev i) 12) = kM y m ev i / 12 ∧ wrap64 (Int.tmod (kM y m ev i) 12 + 1) = kM y m ev i % 12 + 1 ∧ decide (9999 < kM y m ev i / 12) = false ∧ (-9223372036854775808 ≤ kM y m ev i / 12 ∧ kM y m ev i / 12 < 9223372036854775808) ∧ wrap64 ((i : Int) + 1) = ((i + 1 : Nat) : Int) := by
  have b := kM_bd h (i := i) (by omega)
  have a : 0 ≤ (i : Int) * ev := Int.mul_nonneg (by omega) (by have := h.e1; omega)
  obtain ⟨y1, y2, m1, m2, d1, d2, e1, e2⟩ := h
  have ek : 12 * y + m - 1 + (i : Int) * ev = kM y m ev i := rfl
  have b1 : (i : Int) * ev ≤ 200000 := by omega
  rw [w64 (x := 12 * y) (by omega) (by omega), w64 (x := 12 * y + m) (by omega) (by omega), w64 (x := 12 * y + m - 1) (by omega) (by omega), w64 (x := (i : Int) * ev) (by omega) (by omega), ek, w64 (x := kM y m ev i) (by omega) (by omega)]
  rw [tdiv_nn 12 (by omega), tmod_nn 12 (by omega), w64 (x := kM y m ev i / 12) (by omega) (by omega), w64 (x := kM y m ev i % 12 + 1) (by omega) (by omega), w64 (x := (i : Int) + 1) (by omega) (by omega)]
  exact ⟨rfl, rfl, rfl, decide_eq_false (by omega), ⟨by omega, by omega⟩, by omega⟩
theorem mon_rt {y m d ev : Int} (h : MonB y m d ev) {i : Nat} (hi : i ≤ 2000) (hh : hitM y m d ev i) : Rt (kM y m ev i / 12) (kM y m ev i % 12 + 1) d ∧ wrap64 (86400 * num (kM y m ev i / 12) (kM y m ev i % 12 + 1) d) = tM y m d ev i := by
  have b := kM_bd h (i := i) (by omega)
  have r : Rt (kM y m ev i / 12) (kM y m ev i % 12 + 1) d := ⟨by omega, by omega, by omega, by omega, h.d1, hh⟩
  have := num_bd r
  exact ⟨r, w64 (by omega) (by omega)⟩
theorem lt_n {n : Nat} {l : List Int} (h : l.length < n) : decide ((l.length : Int) < (n : Int)) = true := decide_eq_true (by omega)
theorem ge_n {n : Nat} {l : List Int} (h : l.length = n) : decide ((l.length : Int) < (n : Int)) = false := decide_eq_false (by omega)
theorem lt_2000 {i : Nat} (h : i < 1057) : decide ((i : Int) < 2000) = true := decide_eq_true (by omega)
theorem leap_w : wrap64 (86400 * num 2000 2 29) = 951782400 := by
  rw [show num 2000 2 29 = 11016 by decide, w64 (by decide) (by decide)]
  decide
theorem leap_d1 : decide (wrap64 (1078012800 - 951782400) = 126230400) = true := by
  rw [w64 (by decide) (by decide)]
  decide
theorem leap_d2 : decide (wrap64 (1204243200 - 1078012800) = 126230400) = true := by
  rw [w64 (by decide) (by decide)]
  decide
theorem RruleMonths_on {w : World} (a0 a1 a2 a3 a4 : Int) : Calls Tryz.prog 9 #[.int .i64 a0, .int .i64 a1, .int .i64 a2, .int .i64 a3, .int .i64 a4] w (Rets w (.bool true)) := by
  have fl : Tryz.prog.follows .mixedOrders = true := by kernel_rfl
  obtain ⟨y0, y1, y2, ey0⟩ := um a0 (n := 5000) (by decide) (by decide)
  obtain ⟨y, y3, y4, ey⟩ : ∃ y, 4 ≤ y ∧ y ≤ 5003 ∧ wrap64 (4 + wrap64 (Int.tmod (IntKind.u64.wrap a0) 5000)) = y := ⟨4 + y0, by omega, by omega, by rw [ey0, w64 (by omega) (by omega)]⟩
  obtain ⟨m, m1, m2, em⟩ := um1 a1 (n := 12) (by decide) (by decide)
  obtain ⟨ev, v1, v2, ee⟩ := um1 a3 (n := 20) (by decide) (by decide)
  obtain ⟨n, n1, n2, en⟩ := um1 a4 (n := 12) (by decide) (by decide)
  obtain ⟨ni, rfl⟩ : ∃ ni : Nat, n = (ni : Int) := ⟨n.toNat, by omega⟩
  obtain ⟨hz, d, d1, d2, ed⟩ := um_ln (y := y) a2 m1 m2
  have hM : MonB y m d ev := ⟨y3, y4, m1, m2, d1, d2, v1, v2⟩
  have hr : Rt y m d := ⟨by omega, by omega, m1, m2, d1, d2⟩
  have hy64 : -9223372036854775808 ≤ y ∧ y < 9223372036854775808 := by omega
  have hst : wrap64 (86400 * num y m d) = 86400 * num y m d := by have := num_bd hr; exact w64 (by omega) (by omega)
  have hI : InT (86400 * num y m d) := by
    have c := cum_bd y m (by omega) (by omega)
    have l := ln_bd y m m1 m2
    have q1 := ah_le (a := 2) (b := y) (by omega)
    have q2 := ah_le (a := y) (b := 5004) (by omega)
    have q3 : ah 2 = 731 := by decide
    have q4 : ah 5004 = 1827673 := by decide
    have lp := lpi_01 y
    unfold InT num
    omega
  obtain ⟨I, c, I1, I2, I3, I4, tm⟩ := times_mon hM (n := ni) (by omega) (by omega)
  obtain ⟨c2, tl⟩ := times_leap
  have hR : Right (pl 6 ev (ni : Int) false 0) := pl_right (by decide) (by decide) v1 (by omega) (by omega) (by omega) (Or.inl ⟨rfl, rfl⟩)
  have hni : ni ≤ 12 := by omega
  have mw := fun (i : Nat) (hi : i < I) => mon_w hM (i := i) (by omega)
  have mr := fun (i : Nat) (hi : i < I) => mon_rt hM (i := i) (by omega)
  have i2000 := fun (i : Nat) (hi : i < I) => lt_2000 (i := i) (by omega)
  clear y1 y2 ey0 y3 y4 m1 m2 v1 v2 n1 n2 d1 d2 hM
  refine en_ Tryz.func9 rfl rfl rfl fun a K => sr_ (run_ 1 K rfl fun a K => nil_ (sr_ (run_ 24 K rfl fun a K => nil_ ?_)))
  replace K := fg_ (E' := [(0, .int .i64 y), (1, .int .i64 m), (3, .int .i64 ev), (4, .int .i64 (ni : Int)), (2, .int .i64 a2)]) (ks_ (i := 0) (u := .int .i64 y) (ks_ (i := 1) (u := .int .i64 m) (ks_ (i := 3) (u := .int .i64 ev) (ks_ (i := 4) (u := .int .i64 (ni : Int)) K rfl (congrArg (Value.int .i64) en)) rfl (congrArg (Value.int .i64) ee)) rfl (congrArg (Value.int .i64) em)) rfl (congrArg (Value.int .i64) ey)) ⟨rfl, rfl, rfl, rfl, rfl, trivial⟩
  clear en ee em ey
  refine sr_ (run_ 4 K rfl fun a K => cl_ K Tryz.func31 (by kernel_rfl) rfl rfl rfl rfl rfl rfl ((rlen_on hy64.1 hy64.2).mono ?_))
  rintro _ w1 ⟨rfl, b1⟩
  have M := (On.nil w).call b1
  refine ⟨_, rfl, fun a K => run_ 1 K rfl fun a K => val_ K rfl rfl rfl (run_binU rfl (K.of (x := .tmp 43) rfl) (K.of (x := .tmp 47) rfl) (remu_ hz)) fun a K => run_ 3 K rfl fun a K => nil_ ?_⟩
  replace K := fg_ (E' := [(0, .int .i64 y), (1, .int .i64 m), (3, .int .i64 ev), (4, .int .i64 (ni : Int)), (2, .int .i64 d)]) (ks_ (i := 2) (u := .int .i64 d) K rfl (congrArg (Value.int .i64) ed)) ⟨rfl, rfl, rfl, rfl, rfl, trivial⟩
  clear ed hz
  refine sr_ (run_ 3 K rfl fun a K => val_ K rfl rfl rfl (run_b30 rfl (K.of (x := .tmp 51) rfl) (K.of (x := .tmp 52) rfl) (K.of (x := .tmp 53) rfl)) fun a K => cl_ K Tryz.func32 (by kernel_rfl) rfl rfl rfl rfl rfl rfl ((rnum_on hr).mono ?_))
  rintro _ w2 ⟨rfl, b2⟩
  replace M := M.call b2
  refine ⟨_, rfl, fun a K => run_ 2 K rfl fun a K => nil_ ?_⟩
  replace K := ks_ (i := 11) K rfl (congrArg (Value.int .i64) hst)
  refine sr_ (run_ 2 K rfl fun a K => val_ K rfl rfl rfl (run_b25a rfl (fun _ => rfl) rfl (K.of (x := .tmp 58) rfl) (K.of (x := .tmp 59) rfl)) fun a K => run_ 2 K rfl fun a K => cl_ K Tryz.func18 (by kernel_rfl) rfl rfl rfl rfl rfl rfl ((Times_on (pl_rul _ _ _ _ _ _) hR pl_few hI).mono ?_))
  rintro _ w3 ⟨v3, rfl, R3, b3⟩
  rw [tm] at R3 ⊢
  have B3 := (M.call b3).bl
  clear tm hR hI hst M
  obtain ⟨A3, c3, e3, h3, C3⟩ := Kd.R_reads R3
  subst e3
  clear R3
  have fin : ∀ {V : World}, Below w3.heap.size w3 V → Below w.heap.size w V := fun q => below_step B3 q
  clear B3
  refine ⟨_, rfl, fun a K => run_ 7 K rfl fun a K => nil_ (sr_ (run_ 1 K rfl fun a K => nil_ (wp_seq (sr_ (run_ 1 K rfl fun a K => nil_ ?_)))))⟩
  refine wp_block (wp_loop (fun a W => ∃ (i : Nat) (v : Value), i ≤ I ∧ Kn 162 [(16, .int .i64 (i : Int)), (15, v), (14, .int .i64 0), (12, .slice A3 (wantM y m d ev I).length c3), (0, .int .i64 y), (1, .int .i64 m), (2, .int .i64 d), (3, .int .i64 ev), (4, .int .i64 (ni : Int))] a ∧ On [] w3 W ∧ Kd.R (Kd.int .i64) 3 W w3.heap.size (fun _ => True) v (wantM y m d ev i)) (fun a _ => leftN 16 I a) ⟨0, .slice none 0 0, Nat.zero_le _, fg_ K ⟨rfl, rfl, rfl, rfl, rfl, rfl, rfl, rfl, rfl, trivial⟩, On.nil _, Kd.R_nil _ _ _ _ _⟩ ?_)
  clear K
  rintro a W ⟨i, v, hi, K, M, Rv⟩
  obtain ⟨A0, c0, ev0, _⟩ := Kd.R_reads Rv
  subst ev0
  refine wp_seq (sr_ (run_ 5 K rfl fun a2 K2 => ?_))
  by_cases hc : i < I
  case neg =>
    obtain rfl : i = I := Nat.le_antisymm hi (Nat.le_of_not_lt hc)
    refine run_ 3 (fx_ K2 (ge_n I3)) rfl fun a K => nil_ (cf_ K rfl rfl (ex_ (thn_ ?_)))
    refine wp_seq (sr_ (run_ 2 K rfl fun a K => nil_ ?_))
    refine cs_ K rfl rfl ?_
    refine sr_ (val_ K rfl rfl rfl (run_b30 (a := 2000) (b := 2) (c := 29) rfl rfl rfl rfl) fun a K => cl_ K Tryz.func32 (by kernel_rfl) rfl rfl rfl rfl rfl rfl ((rnum_on (y := 2000) (m := 2) (d := 29) ⟨by decide, by decide, by decide, by decide, by decide, by decide⟩).mono ?_))
    rintro _ w5 ⟨rfl, b5⟩
    have Cw := Kd.R_reads Rv
    replace M := M.call b5
    replace Rv := Kd.R_below Rv b5
    refine ⟨_, rfl, fun a K => run_ 2 K rfl fun a K => nil_ ?_⟩
    replace K := ks_ (i := 18) (u := .int .i64 951782400) K rfl (congrArg (Value.int .i64) leap_w)
    refine sr_ (val_ K rfl rfl rfl (run_b25a rfl (fun _ => rfl) rfl rfl rfl) fun a K => run_ 2 K rfl fun a K => cl_ K Tryz.func18 (by kernel_rfl) rfl rfl rfl rfl rfl rfl ((Times_on (pl_rul _ _ _ _ _ _) rY_right pl_few (show InT 951782400 by decide)).mono ?_))
    rintro _ w6 ⟨v6, rfl, R6, b6⟩
    rw [tl] at R6 ⊢
    replace M := M.call b6
    replace Rv := Kd.R_below Rv b6
    obtain ⟨A6, c6, e6, h6, C6⟩ := Kd.R_reads R6
    subst e6
    obtain ⟨ad, eA, hat⟩ := C_at C6 (Nat.succ_pos 2)
    subst eA
    obtain ⟨A7, c7, e7, h7, C7⟩ := Kd.R_reads Rv
    injection e7 with q1 q2 q3
    subst q1 q3
    have fin2 : ∀ {V : World}, Below w6.heap.size w6 V → Below w.heap.size w V := fun q => fin (below_step M.bl q)
    have N := On.nil w6
    have len : (wantM y m d ev i).length ≤ 1000000 := by rw [I3]; exact Nat.le_trans hni (by decide)
    have x0 : ∀ V, On [] w6 V → V.cell? (ad.add (0 * 1)) = some (.int .i64 951782400) := fun V hV => cell_on hV (hat 0 _ rfl)
    have x1 : ∀ V, On [] w6 V → V.cell? (ad.add (1 * 1)) = some (.int .i64 1078012800) := fun V hV => cell_on hV (hat 1 _ rfl)
    have x2 : ∀ V, On [] w6 V → V.cell? (ad.add (2 * 1)) = some (.int .i64 1204243200) := fun V hV => cell_on hV (hat 2 _ rfl)
    refine ⟨_, rfl, fun a K => run_ 7 K rfl fun a K => nil_ ?_⟩
    refine dseq_ (S := On [] w6) fl rfl rfl N.drew (dp_ 3 34 [0, 1] K rfl rfl (by kernel_rfl) fun a K => dc_ 7 2 K Tryz.func26 (by kernel_rfl) rfl rfl rfl rfl rfl rfl rfl (by kernel_rfl) ((ints_on (Kd.C_below C3 (M.drew).bl) h3 (Kd.C_drew C7) h7 len).mono ?_))
    rintro _ w7 ⟨rfl, b7⟩
    replace N := N.drew.call b7
    refine ⟨_, rfl, N, fun a K => dp_ 15 32 [3] K rfl rfl (by kernel_rfl) fun a K => dp_ 255 28 [4, 5, 6, 7] (fx_ (c := true) K rfl) rfl rfl (by kernel_rfl) fun a K => dp_ 8191 23 [8, 9, 10, 11, 12] (fx_ (c := true) K rfl) rfl rfl (by kernel_rfl) fun a K => dp_ 81919 21 [13, 16] (fx_ (c := true) K rfl) rfl rfl (by kernel_rfl) fun a K => dt_ 98303 14 K N rfl rfl rfl rfl (by kernel_rfl) (fun W hW => run_ix22 (kk := 1) (show 1 < 3 by decide) (by decide) rfl (K.of (x := .tmp 140) rfl) rfl) fun a K => dt_ 131071 15 K N rfl rfl rfl rfl (by kernel_rfl) (fun W hW => run_ld rfl rfl (K.of (x := .tmp 141) rfl) (x1 W hW)) fun a K => dt_ 262143 17 K N rfl rfl rfl rfl (by kernel_rfl) (fun W hW => run_ix22 (kk := 0) (show 0 < 3 by decide) (by decide) rfl (K.of (x := .tmp 143) rfl) rfl) fun a K => dt_ 524287 18 K N rfl rfl rfl rfl (by kernel_rfl) (fun W hW => run_ld rfl rfl (K.of (x := .tmp 144) rfl) (x0 W hW)) fun a K => dp_ 8388607 13 [19, 20, 21, 22] K rfl rfl (by kernel_rfl) fun a K => dp_ 83886079 11 [23, 26] (fx_ (c := true) K leap_d1) rfl rfl (by kernel_rfl) fun a K => dt_ 100663295 24 K N rfl rfl rfl rfl (by kernel_rfl) (fun W hW => run_ix22 (kk := 2) (show 2 < 3 by decide) (by decide) rfl (K.of (x := .tmp 150) rfl) rfl) fun a K => dt_ 134217727 25 K N rfl rfl rfl rfl (by kernel_rfl) (fun W hW => run_ld rfl rfl (K.of (x := .tmp 151) rfl) (x2 W hW)) fun a K => dt_ 268435455 27 K N rfl rfl rfl rfl (by kernel_rfl) (fun W hW => run_ix22 (kk := 1) (show 1 < 3 by decide) (by decide) rfl (K.of (x := .tmp 153) rfl) rfl) fun a K => dt_ 536870911 28 K N rfl rfl rfl rfl (by kernel_rfl) (fun W hW => run_ld rfl rfl (K.of (x := .tmp 154) rfl) (x1 W hW)) fun a K => dp_ 8589934591 3 [29, 30, 31, 32] K rfl rfl (by kernel_rfl) fun a K => dc_ 17179869183 33 (fx_ (c := true) K leap_d2) Tryz.func19 (by kernel_rfl) rfl rfl rfl rfl rfl rfl rfl (by kernel_rfl) (wakes_on.mono ?_)⟩
    rintro _ w8 ⟨rfl, b8⟩
    replace N := N.call b8
    exact ⟨_, rfl, N, fun a K => dp_ 68719476735 0 [34, 35] K rfl rfl (by kernel_rfl) fun a K => dend_ (by kernel_rfl) (ret_ rfl K rfl ⟨rfl, fin2 N.bl⟩)⟩
  obtain ⟨f1, f2, f3, f4, f5, f6⟩ := mw i hc
  have ek := want_succ y m d ev i
  have hfit : (wantM y m d ev i).length ≤ 17000000000000 := Nat.le_trans (Nat.le_of_lt (I4 i hc)) (Nat.le_trans hni (by decide))
  refine run_ 3 (fx_ K2 (lt_n (I4 i hc))) rfl fun a K2 => nil_ (ck_ K2 rfl (i2000 i hc) ?_)
  refine wp_seq (bjn_ (fun a' W' => ∃ v', Kn 162 [(16, .int .i64 (i : Int)), (15, v'), (14, .int .i64 0), (12, .slice A3 (wantM y m d ev I).length c3), (0, .int .i64 y), (1, .int .i64 m), (2, .int .i64 d), (3, .int .i64 ev), (4, .int .i64 (ni : Int))] a' ∧ On [] w3 W' ∧ Kd.R (Kd.int .i64) 3 W' w3.heap.size (fun _ => True) v' (wantM y m d ev (i + 1))) (sr_ (run_ 10 K2 rfl fun a K => nil_ ?_)) ?_)
  case refine_2 =>
    rintro a' W' ⟨v', K', M', R'⟩
    refine rg_ (run_ 3 K' rfl fun a5 K5 => nl_ ⟨⟨i + 1, v', hc, fg_ (ks_ (i := 16) K5 rfl (congrArg (Value.int .i64) f6)) ⟨rfl, rfl, rfl, rfl, rfl, rfl, rfl, rfl, rfl, trivial⟩, M', R'⟩, ?_⟩)
    rw [leftN_ (d := 16) K5 rfl, leftN_ (d := 16) K rfl, f6]
    exact leftN_lt hc
  replace K := fg_ (E' := [(17, .int .i64 (kM y m ev i)), (16, .int .i64 (i : Int)), (15, .slice A0 (wantM y m d ev i).length c0), (14, .int .i64 0), (12, .slice A3 (wantM y m d ev I).length c3), (0, .int .i64 y), (1, .int .i64 m), (2, .int .i64 d), (3, .int .i64 ev), (4, .int .i64 (ni : Int))]) (ks_ (i := 17) K rfl (congrArg (Value.int .i64) f1)) ⟨rfl, rfl, rfl, rfl, rfl, rfl, rfl, rfl, rfl, rfl, trivial⟩
  refine wp_seq (sr_ (run_ 3 K rfl fun a K => nil_ (cs_ K rfl (by rw [f2]; exact f4) ?_)))
  have L1 : ∀ V, Calls Tryz.prog 31 #[.int .i64 (wrap64 (Int.tdiv (kM y m ev i) 12)), .int .i64 (wrap64 (Int.tmod (kM y m ev i) 12 + 1))] V (Rets V (.int .i64 (ln (kM y m ev i / 12) (kM y m ev i % 12 + 1)))) := fun V => by rw [f2, f3]; exact rlen_on f5.1 f5.2
  refine sr_ (run_ 5 K rfl fun a K => cl_ K Tryz.func31 (by kernel_rfl) rfl rfl rfl rfl rfl rfl ((L1 _).mono ?_))
  rintro _ w4 ⟨rfl, b4⟩
  replace M := M.call b4
  replace Rv := Kd.R_below Rv b4
  refine ⟨_, rfl, fun a K => run_ 2 K rfl fun a K => nil_ ?_⟩
  by_cases hh : hitM y m d ev i
  case neg =>
    rw [if_neg hh, List.append_nil] at ek
    rw [ek]
    exact cf_ K rfl (decide_eq_false hh) (wp_skip ⟨_, fg_ K ⟨rfl, rfl, rfl, rfl, rfl, rfl, rfl, rfl, rfl, trivial⟩, M, Rv⟩)
  obtain ⟨r1, r2⟩ := mr i hc hh
  rw [if_pos hh] at ek
  rw [ek]
  have N1 : ∀ V, Calls Tryz.prog 32 #[.agg #[.int .i64 (wrap64 (Int.tdiv (kM y m ev i) 12)), .int .i64 (wrap64 (Int.tmod (kM y m ev i) 12 + 1)), .int .i64 d]] V (Rets V (.int .i64 (num (kM y m ev i / 12) (kM y m ev i % 12 + 1) d))) := fun V => by rw [f2, f3]; exact rnum_on r1
  refine ct_ K rfl (decide_eq_true hh) (rg_ (run_ 7 K rfl fun a K => val_ K rfl rfl rfl (run_b30 rfl (K.of (x := .tmp 99) rfl) (K.of (x := .tmp 102) rfl) (K.of (x := .tmp 103) rfl)) fun a K => cl_ K Tryz.func32 (by kernel_rfl) rfl rfl rfl rfl rfl rfl ((N1 _).mono ?_)))
  rintro _ w5 ⟨rfl, b5⟩
  replace M := M.call b5
  replace Rv := Kd.R_below Rv b5
  refine ⟨_, rfl, fun a K => run_ 1 K rfl fun a K => ?_⟩
  replace K := ks_ (i := 106) K rfl (congrArg (Value.int .i64) r2)
  refine ap1_ K M rfl rfl rfl rfl rfl rfl rfl rfl rfl (fun _ => rfl) Rv (fun p hp => absurd hp List.not_mem_nil) hfit fun a v1 W4 u R4 M4 F4 K4 => run_ 1 K4 rfl fun a K => nl_ ⟨v1, fg_ K ⟨rfl, rfl, rfl, rfl, rfl, rfl, rfl, rfl, rfl, trivial⟩, M4, R4⟩
end Go.Proofs.YtjjaiahfkiojlaaGreat.Pure
