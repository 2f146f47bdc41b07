-- What beside and Check of a rule compute, where all is right: a text of this claim's own.
import Derived.Test.YtfinhaghgmnegaaGreatMHc
import Derived.Test.YtfinhaghgmnegaaGreatOx27
namespace Go.Proofs.YtfinhaghgmnegaaGreat.O
open Go.RowKit Go.Proofs.YtfinhaghgmnegaaGreatW.PrintWords Go.Proofs.YtfinhaghgmnegaaGreatW.PrintLast Go.Proofs.YtfinhaghgmnegaaGreatW.PrintMore
set_option maxRecDepth 100000
set_option linter.unusedVariables false
set_option linter.unusedSimpArgs false
theorem ws_ (x : Int) (h0 : 0 ≤ x) (h1 : x ≤ 100000000000) : wrap64 x = x := by unfold wrap64; omega
/-- Parts that may stand beside one another. -/
def okBeside (a : Int) (n6 n7 n8 n9 n10 n11 n12 n13 n14 : Nat) : Bool := (!(decide (a = 5) && decide (0 < n10))) && (!((decide (a = 4) || decide (a = 5) || decide (a = 6)) && decide (0 < n11))) && (!(!decide (a = 7) && decide (0 < n12))) && (decide (n14 = 0) || decide (0 < n6 + n7 + n8 + n9 + n10 + n11 + n12 + n13))
set_option maxHeartbeats 4000000 in
set_option maxRecDepth 100000 in
theorem beside_calls (cs : Array Value) (a : Int) (A6 A7 A8 A9 A10 A11 A12 A13 A14 : Option Addr) (n6 n7 n8 n9 n10 n11 n12 n13 n14 k6 k7 k8 k9 k10 k11 k12 k13 k14 : Nat) (w : World) (hs : cs.size = 16)
    (h0 : cs[0]? = some (.int .i64 a))
    (h6 : cs[6]? = some (.slice A6 n6 k6)) (m6 : n6 ≤ 1000000000)
    (h7 : cs[7]? = some (.slice A7 n7 k7)) (m7 : n7 ≤ 1000000000)
    (h8 : cs[8]? = some (.slice A8 n8 k8)) (m8 : n8 ≤ 1000000000)
    (h9 : cs[9]? = some (.slice A9 n9 k9)) (m9 : n9 ≤ 1000000000)
    (h10 : cs[10]? = some (.slice A10 n10 k10)) (m10 : n10 ≤ 1000000000)
    (h11 : cs[11]? = some (.slice A11 n11 k11)) (m11 : n11 ≤ 1000000000)
    (h12 : cs[12]? = some (.slice A12 n12 k12)) (m12 : n12 ≤ 1000000000)
    (h13 : cs[13]? = some (.slice A13 n13 k13)) (m13 : n13 ≤ 1000000000)
    (h14 : cs[14]? = some (.slice A14 n14 k14)) (m14 : n14 ≤ 1000000000)
    (hok : okBeside a n6 n7 n8 n9 n10 n11 n12 n13 n14 = true) :
    Calls Tryz.prog 26 #[.agg cs] w fun e w' => e = .returned (.bool true) ∧ Below w.heap.size w w' := by
  simp only [okBeside, Bool.and_eq_true, Bool.or_eq_true, Bool.not_eq_true', Bool.and_eq_false_iff, Bool.not_eq_false', Bool.or_eq_false_iff, decide_eq_true_eq, decide_eq_false_iff_not] at hok
  obtain ⟨⟨⟨o1, o2⟩, o3⟩, o4⟩ := hok
  have HH := Aside0.mk (And.intro hs (And.intro h0 (And.intro h6 (And.intro h7 (And.intro h8 (And.intro h9 (And.intro h10 (And.intro h11 (And.intro h12 (And.intro h13 h14))))))))))
  have HM := Aside0.mk (And.intro m6 (And.intro m7 (And.intro m8 (And.intro m9 (And.intro m10 (And.intro m11 (And.intro m12 (And.intro m13 m14))))))))
  have HO := Aside0.mk o4
  have hcase : (a = 4 ∧ n11 = 0 ∧ n12 = 0) ∨ (a = 5 ∧ n10 = 0 ∧ n11 = 0 ∧ n12 = 0) ∨ (a = 6 ∧ n11 = 0 ∧ n12 = 0) ∨ a = 7 ∨ (a ≠ 4 ∧ a ≠ 5 ∧ a ≠ 6 ∧ a ≠ 7 ∧ n12 = 0) := by omega
  have HC := Aside0.mk hcase
  clear hs h0 h6 h7 h8 h9 h10 h11 h12 h13 h14 m6 m7 m8 m9 m10 m11 m12 m13 m14 o1 o2 o3 o4 hcase
  have hu25 := Tryz.underlying29
  go_enter Tryz.func26, Tryz.ntmps26
  go_upto_region 1 with (fail)
  refine wp_abs (fun W => W.heap[w.heap.size]? = some (.cells cs 29 (0, 0)) ∧ Below w.heap.size w W) ⟨blk_new w _, below_alloc (Below.refl _ _) _⟩ ?_
  rintro W ⟨b1, b2⟩
  obtain ⟨hs, h0, h6, h7, h8, h9, h10, h11, h12, h13, h14⟩ := HH.out
  have c0 : W.cell? ⟨w.heap.size, 0, none⟩ = some (.int .i64 a) := (blk_cell b1 0).trans h0
  have c6 : W.cell? ⟨w.heap.size, 6, none⟩ = some (.slice A6 n6 k6) := (blk_cell b1 6).trans h6
  have c7 : W.cell? ⟨w.heap.size, 7, none⟩ = some (.slice A7 n7 k7) := (blk_cell b1 7).trans h7
  have c8 : W.cell? ⟨w.heap.size, 8, none⟩ = some (.slice A8 n8 k8) := (blk_cell b1 8).trans h8
  have c9 : W.cell? ⟨w.heap.size, 9, none⟩ = some (.slice A9 n9 k9) := (blk_cell b1 9).trans h9
  have c10 : W.cell? ⟨w.heap.size, 10, none⟩ = some (.slice A10 n10 k10) := (blk_cell b1 10).trans h10
  have c11 : W.cell? ⟨w.heap.size, 11, none⟩ = some (.slice A11 n11 k11) := (blk_cell b1 11).trans h11
  have c12 : W.cell? ⟨w.heap.size, 12, none⟩ = some (.slice A12 n12 k12) := (blk_cell b1 12).trans h12
  have c13 : W.cell? ⟨w.heap.size, 13, none⟩ = some (.slice A13 n13 k13) := (blk_cell b1 13).trans h13
  have c14 : W.cell? ⟨w.heap.size, 14, none⟩ = some (.slice A14 n14 k14) := (blk_cell b1 14).trans h14
  have B2 := Aside0.mk b2
  clear b1 b2 hs h0 h6 h7 h8 h9 h10 h11 h12 h13 h14 HH
  obtain ⟨rfl, rfl, rfl⟩ | ⟨rfl, rfl, rfl, rfl⟩ | ⟨rfl, rfl, rfl⟩ | rfl | ⟨d4, d5, d6, d7, rfl⟩ := HC.out
  all_goals
    go_upto_region 5 with (fail)
    by_cases d14 : n14 = 0
    · subst d14
      go_wp2
      go_ret
      exact ⟨by simp, B2.out⟩
    · have d15 : ¬ (n14 : Int) = 0 := by omega
      clear d14
      go_wp2
      go_ret
      refine ⟨?_, B2.out⟩
      have e1 := HO.out
      have e2 := HM.out
      refine congrArg Ending.returned (congrArg Value.bool ?_)
      rw [Bool.or_eq_true]
      right
      rw [decide_eq_true_eq]
      obtain ⟨m6, m7, m8, m9, m10, m11, m12, m13, m14⟩ := e2
      simp (disch := omega) only [ws_]
      omega
end Go.Proofs.YtfinhaghgmnegaaGreat.O
