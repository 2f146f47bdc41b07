/- Rules that are one are alike, as a contract. No condition but that their lists are no longer than a million. -/
import Derived.Test.YtmhpmkbifhgnbaaT23G
namespace Go.Proofs.Ytmhpmkbifhgnbaa.Pure
open Go.RowKit Go.Proofs.Ytmhpmkbifhgnbaa.O Go.Proofs.YtmhpmkbifhgnbaaW.PrintWords Go.Proofs.YtmhpmkbifhgnbaaW.PrintLast
open Go.Proofs.Ytmhpmkbifhgnbaa.Civ
set_option linter.unusedVariables false
set_option linter.unusedSimpArgs false
set_option maxHeartbeats 4000000
set_option maxRecDepth 100000
theorem ints_on {w : World} {A B : Option Addr} {c k : Nat} {l : List Int} (h : Kd.C (Kd.int .i64) w A l.length l) (hc : l.length ≤ c) (h' : Kd.C (Kd.int .i64) w B l.length l) (hk : l.length ≤ k) (hl : l.length ≤ 1000000) : Calls Try.prog 42 #[.slice A l.length c, .slice B l.length k] w (Rets w (.bool true)) := by
  have fl : Try.prog.follows .mixedOrders = true := by kernel_rfl
  have hl' : l.length ≤ 4611686018427387904 := Nat.le_trans hl (by decide)
  have e10 : (!decide ((l.length : Int) = (l.length : Int))) = false := by rw [decide_eq_true rfl]; rfl
  refine en_ Try.func42 rfl rfl rfl fun a K => sr_ (run_ 1 K rfl fun a K => nil_ (wp_seq (sr_ (run_ 5 K rfl fun a K => nil_ ?_))))
  refine cs_ K rfl e10 (wp_seq (sr_ (run_ 1 K rfl fun a K => nil_ (wp_block (wp_loop (fun a W => ∃ i : Nat, i ≤ l.length ∧ Kn 26 [(5, .int .i64 (i : Int)), (1, .slice B l.length k), (0, .slice A l.length c)] a ∧ On [] w W) (fun a _ => leftN 5 l.length a) ⟨0, Nat.zero_le _, fg_ K ⟨rfl, rfl, rfl, trivial⟩, On.nil w⟩ ?_)))))
  clear K
  rintro a W ⟨i, hi, K, M⟩
  have KL := leftN_ (n := l.length) (d := 5) K rfl
  refine wp_seq (sr_ (run_ 4 K rfl fun a2 K2 => nil_ ?_))
  by_cases hc2 : i < l.length
  case neg => exact cf_ K2 rfl (kp_ge hc2) (ex_ (thn_ (sr_ (run_ 1 K2 rfl fun a K => nil_ (ret_ rfl K rfl ⟨rfl, M.bl⟩)))))
  obtain ⟨ad, eA, hat⟩ := C_at h (Nat.lt_of_le_of_lt (Nat.zero_le _) hc2)
  obtain ⟨bd, eB, hbt⟩ := C_at h' (Nat.lt_of_le_of_lt (Nat.zero_le _) hc2)
  subst eA eB
  have hx := List.getElem?_eq_getElem hc2
  have e2 := kp_inc hc2 hl'
  generalize l[i] = x at hx
  have e25 : (!decide (x = x)) = false := by rw [decide_eq_true rfl]; rfl
  refine ck_ K2 rfl (kp_lt hc2) (wp_seq (bjn_ (fun a' W' => Kn 26 [(5, .int .i64 (i : Int)), (1, .slice (some bd) l.length k), (0, .slice (some ad) l.length c)] a' ∧ On [] w W') (dseq_ fl rfl rfl M.drew ( dp_ 51 5 [0, 1, 4, 5] K2 rfl rfl (by kernel_rfl) fun a K => dt_ 55 2 K M.drew rfl rfl rfl rfl (by kernel_rfl) (fun W hW => run_ix22 (kk := i) hc2 hl' rfl (K.of (x := .tmp 17) rfl) (K.of (x := .tmp 18) rfl)) fun a K => dt_ 63 3 K M.drew rfl rfl rfl rfl (by kernel_rfl) (fun W hW => run_ld rfl rfl (K.of (x := .tmp 19) rfl) (cell_on hW (hat i x hx))) fun a K => dt_ 127 6 K M.drew rfl rfl rfl rfl (by kernel_rfl) (fun W hW => run_ix22 (kk := i) hc2 hl' rfl (K.of (x := .tmp 21) rfl) (K.of (x := .tmp 22) rfl)) fun a K => dt_ 255 7 K M.drew rfl rfl rfl rfl (by kernel_rfl) (fun W hW => run_ld rfl rfl (K.of (x := .tmp 23) rfl) (cell_on hW (hbt i x hx))) fun a K => dp_ 511 0 [8] K rfl rfl (by kernel_rfl) fun a K => dend_ (by kernel_rfl) ?_)) ?_))
  case refine_2 =>
    rintro a' W' ⟨K', M'⟩
    refine rg_ (run_ 3 K' rfl fun a5 K5 => nl_ ⟨⟨i + 1, hc2, fg_ (ks_ (i := 5) K5 rfl (congrArg (Value.int .i64) e2)) ⟨rfl, rfl, rfl, trivial⟩, M'⟩, ?_⟩)
    rw [leftN_ (d := 5) K5 rfl, KL, e2]
    exact leftN_lt hc2
  exact cf_ K rfl e25 (wp_skip ⟨fg_ K ⟨rfl, rfl, rfl, trivial⟩, M.drew⟩)
set_option maxRecDepth 100000
set_option maxHeartbeats 4000000
section
variable {ρ : Operand → Value} {o : Oper} {w : World}
theorem run_ne67 {x y : Operand} {a b : Int} (ho : o.op = .binOp .neq 47 x y 47) (hx : ρ x = .agg #[.int .i64 a, .int .i64 b]) (hy : ρ y = .agg #[.int .i64 a, .int .i64 b]) : (execOp ρ o).run Try.prog w = .ok (.value (.bool false)) w := by
  have hu67 := Try.underlying47
  unfold execOp; rw [ho]; go_simp
theorem run_neB {x y : Operand} {b c : Bool} (ho : o.op = .binOp .neq 4 x y 4) (hx : ρ x = .bool b) (hy : ρ y = .bool c) : (execOp ρ o).run Try.prog w = .ok (.value (.bool (!(b == c)))) w := by
  have hu := Try.underlying4
  unfold execOp; rw [ho]; go_simp
end
/-- Rules that are one are alike. -/
theorem keep_on {w : World} {cs cs' : Array Value} {r : RR} (R : Rul w cs r) (R' : Rul w cs' r) (hl : r.sec.length ≤ 1000000 ∧ r.mi.length ≤ 1000000 ∧ r.ho.length ≤ 1000000 ∧ r.dy.length ≤ 1000000 ∧ r.md.length ≤ 1000000 ∧ r.yd.length ≤ 1000000 ∧ r.wn.length ≤ 1000000 ∧ r.mo.length ≤ 1000000 ∧ r.sp.length ≤ 1000000) : Calls Try.prog 14 #[.agg cs, .agg cs'] w (Rets w (.bool true)) := by
  obtain ⟨l6, l7, l8, l9, l10, l11, l12, l13, l14⟩ := hl
  obtain ⟨A6, k6, e6, q6, h6⟩ := R.c6
  obtain ⟨B6, j6, f6, s6, g6⟩ := R'.c6
  obtain ⟨A7, k7, e7, q7, h7⟩ := R.c7
  obtain ⟨B7, j7, f7, s7, g7⟩ := R'.c7
  obtain ⟨A8, k8, e8, q8, h8⟩ := R.c8
  obtain ⟨B8, j8, f8, s8, g8⟩ := R'.c8
  obtain ⟨A9, k9, e9, q9, h9⟩ := R.c9
  obtain ⟨B9, j9, f9, s9, g9⟩ := R'.c9
  obtain ⟨A10, k10, e10, q10, h10⟩ := R.c10
  obtain ⟨B10, j10, f10, s10, g10⟩ := R'.c10
  obtain ⟨A11, k11, e11, q11, h11⟩ := R.c11
  obtain ⟨B11, j11, f11, s11, g11⟩ := R'.c11
  obtain ⟨A12, k12, e12, q12, h12⟩ := R.c12
  obtain ⟨B12, j12, f12, s12, g12⟩ := R'.c12
  obtain ⟨A13, k13, e13, q13, h13⟩ := R.c13
  obtain ⟨B13, j13, f13, s13, g13⟩ := R'.c13
  obtain ⟨A14, k14, e14, q14, h14⟩ := R.c14
  obtain ⟨B14, j14, f14, s14, g14⟩ := R'.c14
  have fl : Try.prog.follows .mixedOrders = true := by kernel_rfl
  refine en_ Try.func14 rfl rfl rfl fun a K => sr_ (bx_ K (On.nil w) rfl rfl rfl rfl rfl rfl fun a g0 W M K => bx_ K M rfl rfl rfl rfl rfl rfl fun a g1 W M K => run_ 1 K rfl fun a K => nil_ (wp_seq (sr_ ?_)))
  refine run_ 1 K rfl fun a K => ld_ K M 1 rfl rfl rfl rfl rfl rfl R.c0 rfl fun a K => run_ 1 K rfl fun a K => ld_ K M 0 rfl rfl rfl rfl rfl rfl R'.c0 rfl fun a K => run_ 1 K rfl fun a K => ?_
  replace K := fx_ (c := false) K (by simp)
  refine run_ 2 K rfl fun a K => ld_ K M 1 rfl rfl rfl rfl rfl rfl R.c1 rfl fun a K => run_ 1 K rfl fun a K => ld_ K M 0 rfl rfl rfl rfl rfl rfl R'.c1 rfl fun a K => run_ 1 K rfl fun a K => ?_
  replace K := fx_ (c := false) K (by simp)
  refine run_ 3 K rfl fun a K => ld_ K M 1 rfl rfl rfl rfl rfl rfl R.c2 rfl fun a K => run_ 1 K rfl fun a K => ld_ K M 0 rfl rfl rfl rfl rfl rfl R'.c2 rfl fun a K => run_ 1 K rfl fun a K => ?_
  replace K := fx_ (c := false) K (by simp)
  refine run_ 3 K rfl fun a K => ld_ K M 1 rfl rfl rfl rfl rfl rfl R.c3 rfl fun a K => run_ 1 K rfl fun a K => ld_ K M 0 rfl rfl rfl rfl rfl rfl R'.c3 rfl fun a K => val_ K rfl rfl rfl (run_neB rfl (K.of (x := .tmp 27) rfl) (K.of (x := .tmp 29) rfl)) fun a K => ?_
  replace K := fx_ (c := false) K (by simp)
  refine run_ 3 K rfl fun a K => ld_ K M 1 rfl rfl rfl rfl rfl rfl R.c4 rfl fun a K => run_ 1 K rfl fun a K => ld_ K M 0 rfl rfl rfl rfl rfl rfl R'.c4 rfl fun a K => run_ 1 K rfl fun a K => ?_
  replace K := fx_ (c := false) K (by simp)
  refine run_ 3 K rfl fun a K => ld_ K M 1 rfl rfl rfl rfl rfl rfl R.c5 rfl fun a K => run_ 1 K rfl fun a K => ld_ K M 0 rfl rfl rfl rfl rfl rfl R'.c5 rfl fun a K => val_ K rfl rfl rfl (run_neB rfl (K.of (x := .tmp 41) rfl) (K.of (x := .tmp 43) rfl)) fun a K => ?_
  replace K := fx_ (c := false) K (by simp)
  refine run_ 3 K rfl fun a K => ld_ K M 1 rfl rfl rfl rfl rfl rfl R.c15 rfl fun a K => run_ 1 K rfl fun a K => ld_ K M 0 rfl rfl rfl rfl rfl rfl R'.c15 rfl fun a K => run_ 1 K rfl fun a K => ?_
  replace K := fx_ (c := false) K (by simp)
  refine run_ 3 K rfl fun a K => ld_ K M 1 rfl rfl rfl rfl rfl rfl e9 rfl fun a K => run_ 2 K rfl fun a K => ld_ K M 0 rfl rfl rfl rfl rfl rfl f9 rfl fun a K => run_ 2 K rfl fun a K => ?_
  replace K := fx_ (c := false) K (by simp)
  refine run_ 1 K rfl fun a K => nil_ (cs_ K rfl rfl (wp_seq (sr_ (run_ 1 K rfl fun a K => nil_ (wp_block (wp_loop (fun a W => ∃ i : Nat, i ≤ r.dy.length ∧ Kn 134 [(5, .int .i64 (i : Int)), (3, .pointer (some ⟨g1, 0, none⟩)), (2, .pointer (some ⟨g0, 0, none⟩))] a ∧ On [(g1, .cells cs' 25 (0, 0)), (g0, .cells cs 25 (0, 0))] w W) (fun a _ => leftN 5 r.dy.length a) ⟨0, Nat.zero_le _, fg_ K ⟨rfl, rfl, rfl, trivial⟩, M⟩ ?_))))))
  clear K M
  rintro a W ⟨i, hi, K1, M⟩
  refine wp_seq (sr_ (run_ 2 K1 rfl fun a K2 => ld_ K2 M 1 rfl rfl rfl rfl rfl rfl e9 rfl fun a K2 => run_ 2 K2 rfl fun a K2 => nil_ ?_))
  by_cases hc : i < r.dy.length
  · obtain ⟨ga, ba, ea, x0⟩ := at67 h9 (Nat.lt_of_le_of_lt (Nat.zero_le _) hc)
    obtain ⟨gb, bb, eb, y0⟩ := at67 g9 (Nat.lt_of_le_of_lt (Nat.zero_le _) hc)
    have hx := x0 i hc
    have hy := y0 i hc
    clear x0 y0
    subst ea eb
    generalize r.dy[i] = x at hx hy
    have l9' : r.dy.length ≤ 4611686018427387904 := Nat.le_trans l9 (by decide)
    have ei := kp_inc hc l9'
    refine ck_ K2 rfl (kp_lt hc) (wp_seq (wp_block (dseq_ fl rfl rfl M.drew (dp_ 165 7 [0, 2, 5, 7] K2 rfl rfl (by kernel_rfl) fun a K => dld_ 167 1 K M.drew 1 rfl rfl rfl rfl rfl rfl rfl e9 rfl (by kernel_rfl) fun a K => dld_ 231 6 K M.drew 0 rfl rfl rfl rfl rfl rfl rfl f9 rfl (by kernel_rfl) fun a K => dt_ 239 3 K M.drew rfl rfl rfl rfl (by kernel_rfl) (fun W hW => run_ix23 hc l9' rfl (K.of (x := .tmp 70) rfl) (K.of (x := .tmp 71) rfl)) fun a K => dt_ 495 8 K M.drew rfl rfl rfl rfl (by kernel_rfl) (fun W hW => run_ix23 hc l9' rfl (K.of (x := .tmp 75) rfl) (K.of (x := .tmp 76) rfl)) fun a K => dt_ 511 4 K M.drew rfl rfl rfl rfl (by kernel_rfl) (fun W hW => run_ld67 rfl (K.of (x := .tmp 72) rfl) (fun j v z => cell_on hW (hx j v z))) fun a K => dt_ 1023 9 K M.drew rfl rfl rfl rfl (by kernel_rfl) (fun W hW => run_ld67 rfl (K.of (x := .tmp 77) rfl) (fun j v z => cell_on hW (hy j v z))) fun a K => dt_ 2047 10 K M.drew rfl rfl rfl rfl (by kernel_rfl) (fun W hW => run_ne67 rfl (K.of (x := .tmp 73) rfl) (K.of (x := .tmp 78) rfl)) fun a K => dend_ (by kernel_rfl) (cf_ K rfl rfl (sb_ (rg_ (run_ 3 K rfl fun a K5 => nil_ ?_))))))))
    refine ⟨⟨i + 1, hc, fg_ (ks_ (i := 5) K5 rfl (congrArg (Value.int .i64) ei)) ⟨rfl, rfl, rfl, trivial⟩, M.drew⟩, ?_⟩
    rw [leftN_ (d := 5) K5 rfl, leftN_ (d := 5) K1 rfl, ei]
    exact leftN_lt hc
  refine cf_ K2 rfl (kp_ge hc) (ex_ (thn_ (sr_ ?_)))
  replace K := fg_ (E' := [(3, .pointer (some ⟨g1, 0, none⟩)), (2, .pointer (some ⟨g0, 0, none⟩))]) K2 ⟨rfl, rfl, trivial⟩
  clear K1
  refine run_ 1 K rfl fun a K => ld_ K M 1 rfl rfl rfl rfl rfl rfl e6 rfl fun a K => run_ 1 K rfl fun a K => ld_ K M 0 rfl rfl rfl rfl rfl rfl f6 rfl fun a K => cl_ K Try.func42 (by kernel_rfl) rfl rfl rfl rfl rfl rfl ((ints_on (Kd.C_below h6 M.bl) q6 (Kd.C_below g6 M.bl) s6 l6).mono ?_)
  rintro _ w6 ⟨rfl, b6⟩
  replace M := M.call b6
  refine ⟨_, rfl, fun a K => run_ 1 K rfl fun a K => ?_⟩
  refine run_ 1 K rfl fun a K => ld_ K M 1 rfl rfl rfl rfl rfl rfl e7 rfl fun a K => run_ 1 K rfl fun a K => ld_ K M 0 rfl rfl rfl rfl rfl rfl f7 rfl fun a K => cl_ K Try.func42 (by kernel_rfl) rfl rfl rfl rfl rfl rfl ((ints_on (Kd.C_below h7 M.bl) q7 (Kd.C_below g7 M.bl) s7 l7).mono ?_)
  rintro _ w7 ⟨rfl, b7⟩
  replace M := M.call b7
  refine ⟨_, rfl, fun a K => run_ 2 K rfl fun a K => ?_⟩
  refine run_ 1 K rfl fun a K => ld_ K M 1 rfl rfl rfl rfl rfl rfl e8 rfl fun a K => run_ 1 K rfl fun a K => ld_ K M 0 rfl rfl rfl rfl rfl rfl f8 rfl fun a K => cl_ K Try.func42 (by kernel_rfl) rfl rfl rfl rfl rfl rfl ((ints_on (Kd.C_below h8 M.bl) q8 (Kd.C_below g8 M.bl) s8 l8).mono ?_)
  rintro _ w8 ⟨rfl, b8⟩
  replace M := M.call b8
  refine ⟨_, rfl, fun a K => run_ 2 K rfl fun a K => ?_⟩
  refine run_ 1 K rfl fun a K => ld_ K M 1 rfl rfl rfl rfl rfl rfl e10 rfl fun a K => run_ 1 K rfl fun a K => ld_ K M 0 rfl rfl rfl rfl rfl rfl f10 rfl fun a K => cl_ K Try.func42 (by kernel_rfl) rfl rfl rfl rfl rfl rfl ((ints_on (Kd.C_below h10 M.bl) q10 (Kd.C_below g10 M.bl) s10 l10).mono ?_)
  rintro _ w10 ⟨rfl, b10⟩
  replace M := M.call b10
  refine ⟨_, rfl, fun a K => run_ 2 K rfl fun a K => ?_⟩
  refine run_ 1 K rfl fun a K => ld_ K M 1 rfl rfl rfl rfl rfl rfl e11 rfl fun a K => run_ 1 K rfl fun a K => ld_ K M 0 rfl rfl rfl rfl rfl rfl f11 rfl fun a K => cl_ K Try.func42 (by kernel_rfl) rfl rfl rfl rfl rfl rfl ((ints_on (Kd.C_below h11 M.bl) q11 (Kd.C_below g11 M.bl) s11 l11).mono ?_)
  rintro _ w11 ⟨rfl, b11⟩
  replace M := M.call b11
  refine ⟨_, rfl, fun a K => run_ 2 K rfl fun a K => ?_⟩
  refine run_ 1 K rfl fun a K => ld_ K M 1 rfl rfl rfl rfl rfl rfl e12 rfl fun a K => run_ 1 K rfl fun a K => ld_ K M 0 rfl rfl rfl rfl rfl rfl f12 rfl fun a K => cl_ K Try.func42 (by kernel_rfl) rfl rfl rfl rfl rfl rfl ((ints_on (Kd.C_below h12 M.bl) q12 (Kd.C_below g12 M.bl) s12 l12).mono ?_)
  rintro _ w12 ⟨rfl, b12⟩
  replace M := M.call b12
  refine ⟨_, rfl, fun a K => run_ 2 K rfl fun a K => ?_⟩
  refine run_ 1 K rfl fun a K => ld_ K M 1 rfl rfl rfl rfl rfl rfl e13 rfl fun a K => run_ 1 K rfl fun a K => ld_ K M 0 rfl rfl rfl rfl rfl rfl f13 rfl fun a K => cl_ K Try.func42 (by kernel_rfl) rfl rfl rfl rfl rfl rfl ((ints_on (Kd.C_below h13 M.bl) q13 (Kd.C_below g13 M.bl) s13 l13).mono ?_)
  rintro _ w13 ⟨rfl, b13⟩
  replace M := M.call b13
  refine ⟨_, rfl, fun a K => run_ 2 K rfl fun a K => ?_⟩
  refine run_ 1 K rfl fun a K => ld_ K M 1 rfl rfl rfl rfl rfl rfl e14 rfl fun a K => run_ 1 K rfl fun a K => ld_ K M 0 rfl rfl rfl rfl rfl rfl f14 rfl fun a K => cl_ K Try.func42 (by kernel_rfl) rfl rfl rfl rfl rfl rfl ((ints_on (Kd.C_below h14 M.bl) q14 (Kd.C_below g14 M.bl) s14 l14).mono ?_)
  rintro _ w14 ⟨rfl, b14⟩
  replace M := M.call b14
  refine ⟨_, rfl, fun a K => run_ 2 K rfl fun a K => ?_⟩
  exact nil_ (ret_ rfl K rfl ⟨rfl, M.bl⟩)
end Go.Proofs.Ytmhpmkbifhgnbaa.Pure
