-- Steps of a walk over an opaque activation: a text of this claim's own.
import Derived.Test.YtjjaiahfkiojlaaGreatHc
import Derived.Test.YtjjaiahfkiojlaaGreatMOx14
namespace Go.Proofs.YtjjaiahfkiojlaaGreat.O
open Go.RowKit Go.Proofs.YtjjaiahfkiojlaaGreatW.PrintWords Go.Proofs.YtjjaiahfkiojlaaGreatW.PrintLast Go.Proofs.YtjjaiahfkiojlaaGreatW.PrintMore
set_option maxRecDepth 100000
set_option linter.unusedVariables false
set_option linter.unusedSimpArgs false
theorem in_calls (a b c : Int) (w : World) : Calls Tryz.prog 33 #[.int .i64 a, .int .i64 b, .int .i64 c] w fun e w' => e = .returned (.bool (decide (b ≤ a ∧ a ≤ c))) ∧ Drawn0 w w' := by
  refine solsticeref21_in.calls a b c _ w ?_
  unfold solsticeref21_in.f
  by_cases h1 : b ≤ a <;> by_cases h2 : a ≤ c <;> simp [h1, h2]
theorem ret15 {R : Ending → World → Prop} {a : Act} {w : World} {b : Bool} (hd : a.defers = []) (hv : a.eval (.tmp 2) = .bool b) (h : R (.returned (.bool b)) w) : bodyPost Tryz.prog Tryz.f13 R .ret a w :=
  bodyPost_ret (results_tmp rfl _ _ _) hd (by unfold Act.eval at hv; dsimp only at hv; rw [hv]; exact h)
section
variable {ρ : Operand → Value} {o : Oper} {w : World}
theorem run_move {x : Operand} (ho : o.op = .move x) : (execOp ρ o).run Tryz.prog w = .ok (.value (ρ x)) w := by
  unfold execOp; rw [ho]; go_simp
theorem run_assign {x : Operand} (ho : o.op = .assign x) : (execOp ρ o).run Tryz.prog w = .ok (.value (ρ x)) w := by
  unfold execOp; rw [ho]; go_simp
theorem run_pick {x y z : Operand} {b : Bool} (ho : o.op = .pick x y z) (hx : ρ x = .bool b) : (execOp ρ o).run Tryz.prog w = .ok (.value (if b = true then ρ y else ρ z)) w := by
  unfold execOp; rw [ho]; cases b <;> go_simp
theorem run_not {x : Operand} {b : Bool} {t : TypeId} (ho : o.op = .unOp .not t x) (hx : ρ x = .bool b) : (execOp ρ o).run Tryz.prog w = .ok (.value (.bool (!b))) w := by
  unfold execOp; rw [ho]; go_simp
theorem run_gtr {x y : Operand} {m n : Int} (ho : o.op = .binOp .gtr 3 x y 3) (hx : ρ x = .int .i64 m) (hy : ρ y = .int .i64 n) : (execOp ρ o).run Tryz.prog w = .ok (.value (.bool (decide (n < m)))) w := by
  unfold execOp; rw [ho]; go_simp
theorem run_lss {x y : Operand} {m n : Int} (ho : o.op = .binOp .lss 3 x y 3) (hx : ρ x = .int .i64 m) (hy : ρ y = .int .i64 n) : (execOp ρ o).run Tryz.prog w = .ok (.value (.bool (decide (m < n)))) w := by
  unfold execOp; rw [ho]; go_simp
theorem run_eql {x y : Operand} {m n : Int} (ho : o.op = .binOp .eql 3 x y 3) (hx : ρ x = .int .i64 m) (hy : ρ y = .int .i64 n) : (execOp ρ o).run Tryz.prog w = .ok (.value (.bool (m == n))) w := by
  unfold execOp; rw [ho]; go_simp
theorem run_neq {x y : Operand} {m n : Int} (ho : o.op = .binOp .neq 3 x y 3) (hx : ρ x = .int .i64 m) (hy : ρ y = .int .i64 n) : (execOp ρ o).run Tryz.prog w = .ok (.value (.bool (m != n))) w := by
  unfold execOp; rw [ho]; go_simp
theorem run_add {x y : Operand} {m n : Int} (ho : o.op = .binOp .add 3 x y 3) (hx : ρ x = .int .i64 m) (hy : ρ y = .int .i64 n) : (execOp ρ o).run Tryz.prog w = .ok (.value (.int .i64 (wrap64 (m + n)))) w := by
  unfold execOp; rw [ho]; go_simp; rw [i64_w]
theorem run_len {x : Operand} {t : TypeId} {A : Option Addr} {n c : Nat} (ht : Tryz.prog.underlying t = some (.slice 3) ∨ Tryz.prog.underlying t = some (.slice 67)) (ho : o.op = .call { callee := .builtin .len, args := #[x], argTypes := #[t] }) (hx : ρ x = .slice A n c) : (execOp ρ o).run Tryz.prog w = .ok (.value (.int .i64 n)) w := by
  unfold execOp; rw [ho]; rcases ht with ht | ht <;> go_simp
theorem run_loadInt {x : Operand} {p : Addr} {v : Int} (ho : o.op = .load 3 x) (hx : ρ x = .pointer (some p)) (hc : w.cell? p = some (.int .i64 v)) : (execOp ρ o).run Tryz.prog w = .ok (.value (.int .i64 v)) w := by
  unfold execOp; rw [ho]; go_simp
theorem run_loadBool {x : Operand} {p : Addr} {v : Bool} (ho : o.op = .load 4 x) (hx : ρ x = .pointer (some p)) (hc : w.cell? p = some (.bool v)) : (execOp ρ o).run Tryz.prog w = .ok (.value (.bool v)) w := by
  unfold execOp; rw [ho]; go_simp
theorem run_loadList {x : Operand} {p : Addr} {A : Option Addr} {n c : Nat} (ho : o.op = .load 22 x) (hx : ρ x = .pointer (some p)) (hc : w.cell? p = some (.slice A n c)) : (execOp ρ o).run Tryz.prog w = .ok (.value (.slice A n c)) w := by
  unfold execOp; rw [ho]; go_simp
theorem run_loadDays {x : Operand} {p : Addr} {A : Option Addr} {n c : Nat} (ho : o.op = .load 23 x) (hx : ρ x = .pointer (some p)) (hc : w.cell? p = some (.slice A n c)) : (execOp ρ o).run Tryz.prog w = .ok (.value (.slice A n c)) w := by
  unfold execOp; rw [ho]; go_simp
theorem run_field {x : Operand} {g i : Nat} (hi : i < 16) (ho : o.op = .fieldAddr 25 x i) (hx : ρ x = .pointer (some ⟨g, 0, none⟩)) : (execOp ρ o).run Tryz.prog w = .ok (.value (.pointer (some ⟨g, i, none⟩))) w := by
  have hu25 := Tryz.underlying25
  unfold execOp; rw [ho]
  match i, hi with
  | 0, _ => go_simp
  | 1, _ => go_simp
  | 2, _ => go_simp
  | 3, _ => go_simp
  | 4, _ => go_simp
  | 5, _ => go_simp
  | 6, _ => go_simp
  | 7, _ => go_simp
  | 8, _ => go_simp
  | 9, _ => go_simp
  | 10, _ => go_simp
  | 11, _ => go_simp
  | 12, _ => go_simp
  | 13, _ => go_simp
  | 14, _ => go_simp
  | 15, _ => go_simp
  | n + 16, h => exact absurd h (by omega)
end
section
variable {N : Nat} {ops : Array Oper} {rest : List Oper} {Q : Exit → Act → World → Prop} {a : Act} {w w1 : World} {o : Oper} {d : Nat} {v : Value}
theorem st_ (hd : o.dst = some d) (hg : Region.wanted o (yielded ops a.tmps) = true) (hrun : (execOp a.eval o).run Tryz.prog w = .ok (.value v) w1) (k : wpList Tryz.prog ops Q rest (a.put (some d) v) w1) : wpList Tryz.prog ops Q (o :: rest) a w := by
  unfold wpList
  rw [if_pos hg]
  left
  unfold Oper.wp
  rw [hrun, Oper.upon_value, hd]
  exact k
theorem sk_ (hd : o.dst = some d) (hg : Region.wanted o (yielded ops a.tmps) = false) (k : wpList Tryz.prog ops Q rest (a.put (some d) undef) w) : wpList Tryz.prog ops Q (o :: rest) a w := by
  unfold wpList
  rw [if_neg (by rw [hg]; decide), hd]
  exact k
theorem wanted_none {y : Nat → Option Bool} (h : o.guard = none) : Region.wanted o y = true := by unfold Region.wanted; rw [h]
theorem yielded_of {j q : Nat} {c : Bool} (hj : (ops[j]?).bind (·.dst) = some q) (hq : a.eval (.tmp q) = .bool c) : yielded ops a.tmps j = some c := by
  unfold yielded
  rw [hj]
  simp only [Option.bind_some]
  unfold Act.eval at hq
  by_cases hl : q < a.tmps.size
  · simp [Array.getD, hl] at hq
    simp [hl, hq]
  · simp [Array.getD, hl, undef] at hq
theorem yielded_undef {j q : Nat} (hj : (ops[j]?).bind (·.dst) = some q) (hq : a.eval (.tmp q) = undef) : yielded ops a.tmps j = none := by
  unfold yielded
  rw [hj]
  simp only [Option.bind_some]
  unfold Act.eval at hq
  by_cases hl : q < a.tmps.size
  · simp [Array.getD, hl] at hq
    simp [hl, hq, undef]
  · simp [hl]
theorem wanted_at {j q : Nat} {b c : Bool} (h : o.guard = some (j, b)) (hj : (ops[j]?).bind (·.dst) = some q) (hq : a.eval (.tmp q) = .bool c) : Region.wanted o (yielded ops a.tmps) = (c == b) := by
  unfold Region.wanted
  rw [h]
  dsimp only
  rw [yielded_of hj hq]
  cases b <;> cases c <;> rfl
theorem wanted_undef {j q : Nat} {b : Bool} (h : o.guard = some (j, b)) (hj : (ops[j]?).bind (·.dst) = some q) (hq : a.eval (.tmp q) = undef) : Region.wanted o (yielded ops a.tmps) = false := by
  unfold Region.wanted
  rw [h]
  dsimp only
  rw [yielded_undef hj hq]
  rfl
theorem eval_put (i : Nat) : (a.put (some d) v).eval (.tmp i) = if i = d ∧ d < a.tmps.size then v else a.eval (.tmp i) := by
  unfold Act.put Act.eval
  simp only [Array.getD_eq_getD_getElem?, Array.getElem?_setIfInBounds]
  by_cases h1 : i = d
  · subst h1
    by_cases h2 : i < a.tmps.size
    · simp [h2]
    · simp [h2]
  · have : ¬ d = i := fun e => h1 e.symm
    simp [h1, this]
theorem eval_same (h : d < a.tmps.size) : (a.put (some d) v).eval (.tmp d) = v := by rw [eval_put, if_pos ⟨rfl, h⟩]
theorem eval_ne {i : Nat} (h : i ≠ d) : (a.put (some d) v).eval (.tmp i) = a.eval (.tmp i) := by rw [eval_put, if_neg (fun e => h e.1)]
theorem size_put : (a.put (some d) v).tmps.size = a.tmps.size := by unfold Act.put; simp
/-- Two activations agree below a temporary. -/
structure Fr (lo : Nat) (a a' : Act) : Prop where
  sz : a'.tmps.size = a.tmps.size
  df : a'.defers = a.defers
  ev : ∀ i, i < lo → a'.eval (.tmp i) = a.eval (.tmp i)
theorem Fr.refl (lo : Nat) (a : Act) : Fr lo a a := ⟨rfl, rfl, fun _ _ => rfl⟩
theorem Fr.trans {lo : Nat} {a b c : Act} (h : Fr lo a b) (k : Fr lo b c) : Fr lo a c := ⟨k.sz.trans h.sz, k.df.trans h.df, fun i hi => (k.ev i hi).trans (h.ev i hi)⟩
theorem Fr.mono {lo lo' : Nat} {a b : Act} (h : Fr lo a b) (hl : lo' ≤ lo) : Fr lo' a b := ⟨h.sz, h.df, fun i hi => h.ev i (by omega)⟩
theorem Fr.m {lo lo' : Nat} {a b : Act} (h : Fr lo a b) (hl : lo' ≤ lo := by decide) : Fr lo' a b := h.mono hl
theorem Fr.e {lo : Nat} {a b : Act} (h : Fr lo a b) (i : Nat) (hi : i < lo := by decide) : b.eval (.tmp i) = a.eval (.tmp i) := h.ev i hi
theorem fr_put {lo : Nat} (h : lo ≤ d) : Fr lo a (a.put (some d) v) := ⟨size_put, rfl, fun i hi => eval_ne (by omega)⟩
/-- May these operations be skipped, where temporary D (of operation j) is true? -/
def skipOk (s : Bool) (ops : Array Oper) (j D : Nat) : List Oper → List Nat → Bool
  | [], _ => true
  | o :: l, und => match o.dst, o.guard with
    | some d, some (j', b) => decide (D < d) && ((decide (j' = j) && (b != s)) || (match (ops[j']?).bind (·.dst) with | some d' => und.contains d' | none => false)) && skipOk s ops j D l (d :: und)
    | _, _ => false
theorem skips {s : Bool} {j D : Nat} (hD : (ops[j]?).bind (·.dst) = some D) : ∀ (mid : List Oper) (und : List Nat) (a : Act), skipOk s ops j D mid und = true → a.eval (.tmp D) = .bool s → (∀ d ∈ und, a.eval (.tmp d) = undef) → (∀ a', Fr (D + 1) a a' → wpList Tryz.prog ops Q rest a' w) → wpList Tryz.prog ops Q (mid ++ rest) a w
  | [], _, a, _, _, _, k => k a (Fr.refl _ _)
  | o :: l, und, a, h, ht, hu, k => by
    unfold skipOk at h
    split at h
    · rename_i d j' b e1 e2
      simp only [Bool.and_eq_true, Bool.or_eq_true, decide_eq_true_eq, bne_iff_ne, ne_eq] at h
      obtain ⟨⟨hd, hg⟩, hl⟩ := h
      have hw : Region.wanted o (yielded ops a.tmps) = false := by
        rcases hg with ⟨e, hb⟩ | hg
        · subst e
          rw [wanted_at e2 hD ht]
          exact beq_eq_false_iff_ne.2 (fun e => hb e.symm)
        · split at hg
          · rename_i d' hd'
            exact wanted_undef e2 hd' (hu d' (by simpa using hg))
          · cases hg
      refine sk_ e1 hw (skips hD l (d :: und) _ hl ((eval_ne (by omega)).trans ht) ?_ (fun a' ha' => k a' ((fr_put (by omega)).trans ha')))
      intro d' hd'
      rw [eval_put]
      split
      · rfl
      · rename_i hn
        rcases List.mem_cons.1 hd' with e | e
        · subst e
          -- a put beyond the end: nothing stands there
          have : ¬ d' < a.tmps.size := fun h => hn ⟨rfl, h⟩
          unfold Act.eval
          simp [Array.getD, this]
        · exact hu d' e
    · cases h
/-- One more test of a length behind 'or'. -/
theorem link_len {g i p d1 d2 d3 d4 d5 d6 j n c m : Nat} {t : TypeId} {A : Option Addr} {b : Bool} {o1 o2 o3 o4 o5 o6 : Oper} (S : a.tmps.size = N) (hq1 : 1 < d1) (h1 : a.eval (.tmp 1) = .pointer (some ⟨g, 0, none⟩)) (hp : a.eval (.tmp p) = .bool b) (hi : i < 16) (hc : w.cell? ⟨g, i, none⟩ = some (.slice A n c)) (ht : t = 22 ∨ t = 23)
    (q1 : o1.op = .move (.tmp p)) (q2 : o2.op = .fieldAddr 25 (.tmp 1) i) (q3 : o3.op = .load t (.tmp d2)) (q4 : o4.op = .call { callee := .builtin .len, args := #[.tmp d3], argTypes := #[t] }) (q5 : o5.op = .binOp .gtr 3 (.tmp d4) (.const (.int .i64 m)) 3) (q6 : o6.op = .pick (.tmp d1) (.const (.bool true)) (.tmp d5))
    (e1 : o1.dst = some d1) (e2 : o2.dst = some d2) (e3 : o3.dst = some d3) (e4 : o4.dst = some d4) (e5 : o5.dst = some d5) (e6 : o6.dst = some d6) (f1 : o1.guard = none) (f2 : o2.guard = some (j, false)) (f3 : o3.guard = some (j, false)) (f4 : o4.guard = some (j, false)) (f5 : o5.guard = some (j, false)) (f6 : o6.guard = none)
    (hj : (ops[j]?).bind (·.dst) = some d1) (hd : d1 < d2 ∧ d2 < d3 ∧ d3 < d4 ∧ d4 < d5 ∧ d5 < d6 ∧ d6 < N)
    (k : ∀ a', Fr d1 a a' → a'.eval (.tmp d6) = .bool (b || decide ((m : Int) < (n : Int))) → wpList Tryz.prog ops Q rest a' w) : wpList Tryz.prog ops Q (o1 :: o2 :: o3 :: o4 :: o5 :: o6 :: rest) a w := by
  refine st_ e1 (wanted_none f1) (run_move q1) ?_
  rw [hp]
  have s1 : (a.put (some d1) (.bool b)).tmps.size = N := size_put.trans S
  have v1 : (a.put (some d1) (.bool b)).eval (.tmp d1) = .bool b := eval_same (by omega)
  have F1 : Fr d1 a (a.put (some d1) (.bool b)) := fr_put (Nat.le_refl _)
  have p1 : (a.put (some d1) (.bool b)).eval (.tmp 1) = .pointer (some ⟨g, 0, none⟩) := (F1.ev 1 (by omega)).trans h1
  generalize a.put (some d1) (.bool b) = a1 at *
  cases b with
  | true =>
    refine sk_ e2 (wanted_at f2 hj v1) (sk_ e3 (wanted_at f3 hj ((eval_ne (by omega)).trans v1)) (sk_ e4 (wanted_at f4 hj ((eval_ne (by omega)).trans ((eval_ne (by omega)).trans v1))) (sk_ e5 (wanted_at f5 hj ((eval_ne (by omega)).trans ((eval_ne (by omega)).trans ((eval_ne (by omega)).trans v1)))) ?_)))
    refine st_ e6 (wanted_none f6) (run_pick (b := true) q6 ((eval_ne (by omega)).trans ((eval_ne (by omega)).trans ((eval_ne (by omega)).trans ((eval_ne (by omega)).trans v1))))) ?_
    refine k _ (F1.trans ((fr_put (by omega)).trans ((fr_put (by omega)).trans ((fr_put (by omega)).trans ((fr_put (by omega)).trans (fr_put (by omega))))))) ?_
    exact eval_same (by simp only [size_put]; omega)
  | false =>
    refine st_ e2 (wanted_at f2 hj v1) (run_field hi q2 p1) ?_
    have v2 : (a1.put (some d2) (.pointer (some ⟨g, i, none⟩))).eval (.tmp d2) = .pointer (some ⟨g, i, none⟩) := eval_same (by omega)
    have w2 : (a1.put (some d2) (.pointer (some ⟨g, i, none⟩))).eval (.tmp d1) = .bool false := (eval_ne (by omega)).trans v1
    have F2 : Fr d1 a (a1.put (some d2) (.pointer (some ⟨g, i, none⟩))) := F1.trans (fr_put (by omega))
    have s2 : (a1.put (some d2) (.pointer (some ⟨g, i, none⟩))).tmps.size = N := size_put.trans s1
    generalize a1.put (some d2) (.pointer (some ⟨g, i, none⟩)) = a2 at *
    have hr : (execOp a2.eval o3).run Tryz.prog w = .ok (.value (.slice A n c)) w := by
      rcases ht with e | e
      · subst e; exact run_loadList q3 v2 hc
      · subst e; exact run_loadDays q3 v2 hc
    refine st_ e3 (wanted_at f3 hj w2) hr ?_
    have v3 : (a2.put (some d3) (.slice A n c)).eval (.tmp d3) = .slice A n c := eval_same (by omega)
    have w3 : (a2.put (some d3) (.slice A n c)).eval (.tmp d1) = .bool false := (eval_ne (by omega)).trans w2
    have F3 : Fr d1 a (a2.put (some d3) (.slice A n c)) := F2.trans (fr_put (by omega))
    have s3 : (a2.put (some d3) (.slice A n c)).tmps.size = N := size_put.trans s2
    generalize a2.put (some d3) (.slice A n c) = a3 at *
    have ht' : Tryz.prog.underlying t = some (.slice 3) ∨ Tryz.prog.underlying t = some (.slice 67) := by
      rcases ht with e | e
      · subst e; exact Or.inl Tryz.underlying22
      · subst e; exact Or.inr Tryz.underlying23
    refine st_ e4 (wanted_at f4 hj w3) (run_len ht' q4 v3) ?_
    have v4 : (a3.put (some d4) (.int .i64 n)).eval (.tmp d4) = .int .i64 n := eval_same (by omega)
    have w4 : (a3.put (some d4) (.int .i64 n)).eval (.tmp d1) = .bool false := (eval_ne (by omega)).trans w3
    have F4 : Fr d1 a (a3.put (some d4) (.int .i64 n)) := F3.trans (fr_put (by omega))
    have s4 : (a3.put (some d4) (.int .i64 n)).tmps.size = N := size_put.trans s3
    generalize a3.put (some d4) (.int .i64 n) = a4 at *
    refine st_ e5 (wanted_at f5 hj w4) (run_gtr q5 v4 rfl) ?_
    have v5 : (a4.put (some d5) (.bool (decide ((m : Int) < (n : Int))))).eval (.tmp d5) = .bool (decide ((m : Int) < (n : Int))) := eval_same (by omega)
    have w5 : (a4.put (some d5) (.bool (decide ((m : Int) < (n : Int))))).eval (.tmp d1) = .bool false := (eval_ne (by omega)).trans w4
    have F5 : Fr d1 a (a4.put (some d5) (.bool (decide ((m : Int) < (n : Int))))) := F4.trans (fr_put (by omega))
    have s5 : (a4.put (some d5) (.bool (decide ((m : Int) < (n : Int))))).tmps.size = N := size_put.trans s4
    generalize a4.put (some d5) (.bool (decide ((m : Int) < (n : Int)))) = a5 at *
    refine st_ e6 (wanted_none f6) (run_pick (b := false) q6 w5) ?_
    refine k _ (F5.trans (fr_put (by omega))) ?_
    rw [eval_same (by omega)]
    simp only [Bool.false_eq_true, if_false, Bool.false_or]
    exact v5
/-- The first test of a length. -/
theorem first_len {g i d2 d3 d4 d5 n c m : Nat} {t : TypeId} {A : Option Addr} {o2 o3 o4 o5 : Oper} (S : a.tmps.size = N) (h1 : a.eval (.tmp 1) = .pointer (some ⟨g, 0, none⟩)) (hi : i < 16) (hc : w.cell? ⟨g, i, none⟩ = some (.slice A n c)) (ht : t = 22 ∨ t = 23)
    (q2 : o2.op = .fieldAddr 25 (.tmp 1) i) (q3 : o3.op = .load t (.tmp d2)) (q4 : o4.op = .call { callee := .builtin .len, args := #[.tmp d3], argTypes := #[t] }) (q5 : o5.op = .binOp .gtr 3 (.tmp d4) (.const (.int .i64 m)) 3)
    (e2 : o2.dst = some d2) (e3 : o3.dst = some d3) (e4 : o4.dst = some d4) (e5 : o5.dst = some d5) (f2 : o2.guard = none) (f3 : o3.guard = none) (f4 : o4.guard = none) (f5 : o5.guard = none)
    (hd : d2 < d3 ∧ d3 < d4 ∧ d4 < d5 ∧ d5 < N)
    (k : ∀ a', Fr d2 a a' → a'.eval (.tmp d5) = .bool (decide ((m : Int) < (n : Int))) → wpList Tryz.prog ops Q rest a' w) : wpList Tryz.prog ops Q (o2 :: o3 :: o4 :: o5 :: rest) a w := by
  refine st_ e2 (wanted_none f2) (run_field hi q2 h1) ?_
  have v2 : (a.put (some d2) (.pointer (some ⟨g, i, none⟩))).eval (.tmp d2) = .pointer (some ⟨g, i, none⟩) := eval_same (by omega)
  have F2 : Fr d2 a (a.put (some d2) (.pointer (some ⟨g, i, none⟩))) := fr_put (by omega)
  have s2 : (a.put (some d2) (.pointer (some ⟨g, i, none⟩))).tmps.size = N := size_put.trans S
  generalize a.put (some d2) (.pointer (some ⟨g, i, none⟩)) = a2 at *
  have hr : (execOp a2.eval o3).run Tryz.prog w = .ok (.value (.slice A n c)) w := by
    rcases ht with e | e
    · subst e; exact run_loadList q3 v2 hc
    · subst e; exact run_loadDays q3 v2 hc
  refine st_ e3 (wanted_none f3) hr ?_
  have v3 : (a2.put (some d3) (.slice A n c)).eval (.tmp d3) = .slice A n c := eval_same (by omega)
  have F3 : Fr d2 a (a2.put (some d3) (.slice A n c)) := F2.trans (fr_put (by omega))
  have s3 : (a2.put (some d3) (.slice A n c)).tmps.size = N := size_put.trans s2
  generalize a2.put (some d3) (.slice A n c) = a3 at *
  have ht' : Tryz.prog.underlying t = some (.slice 3) ∨ Tryz.prog.underlying t = some (.slice 67) := by
    rcases ht with e | e
    · subst e; exact Or.inl Tryz.underlying22
    · subst e; exact Or.inr Tryz.underlying23
  refine st_ e4 (wanted_none f4) (run_len ht' q4 v3) ?_
  have v4 : (a3.put (some d4) (.int .i64 n)).eval (.tmp d4) = .int .i64 n := eval_same (by omega)
  have F4 : Fr d2 a (a3.put (some d4) (.int .i64 n)) := F3.trans (fr_put (by omega))
  have s4 : (a3.put (some d4) (.int .i64 n)).tmps.size = N := size_put.trans s3
  generalize a3.put (some d4) (.int .i64 n) = a4 at *
  refine st_ e5 (wanted_none f5) (run_gtr q5 v4 rfl) ?_
  exact k _ (F4.trans (fr_put (by omega))) (eval_same (by omega))
theorem ca_ {f : FuncId} {fn : Func} {xs : Array Operand} {ts : Array TypeId} (args : Array Value) (hd : o.dst = some d) (hg : Region.wanted o (yielded ops a.tmps) = true) (hf : Tryz.prog.funcs[f]? = some fn) (hname : (fn.name == "runtime.NumGoroutine") = false) (hb : fn.body.isSome = true)
    (hop : o.op = .call { callee := .value (.func f), args := xs, argTypes := ts }) (hargs : xs.map a.eval = args)
    (h : Calls Tryz.prog f args w fun e w' => ∃ v, e = .returned v ∧ wpList Tryz.prog ops Q rest (a.put (some d) v) w') : wpList Tryz.prog ops Q (o :: rest) a w := by
  have he := enters_ hf hname hb args w
  have hrun : (execOp a.eval o).run Tryz.prog w = .ok (.enter f args) w := by
    unfold execOp
    simp [hop, resolve, Deferred.ofValue, invoke, Act.eval, hargs, he]
  unfold wpList
  rw [if_pos hg]
  left
  unfold Oper.wp
  rw [hrun, Oper.upon_enter]
  refine h.mono fun e w'' hh => ?_
  obtain ⟨v, rfl, hk⟩ := hh
  rw [hd]
  exact hk
/-- An operation is wanted wherever temporary D is such. -/
def Wn (ops : Array Oper) (D : Nat) (s : Bool) (o : Oper) : Prop := ∀ a' : Act, a'.eval (.tmp D) = .bool s → Region.wanted o (yielded ops a'.tmps) = true
theorem wn_none {D : Nat} {s : Bool} (h : o.guard = none) : Wn ops D s o := fun _ _ => wanted_none h
theorem wn_at {D j : Nat} {s : Bool} (h : o.guard = some (j, s)) (hj : (ops[j]?).bind (·.dst) = some D) : Wn ops D s o := fun _ hq => (wanted_at h hj hq).trans (by cases s <;> rfl)
/-- A field that is a number, between two bounds? -/
theorem r_in {s : Bool} {pb : Addr} {D d2 d3 d4 d5 : Nat} {x lo hi : Int} {o2 o3 o4 o5 : Oper} {ts : Array TypeId} {t : TypeId} (S : a.tmps.size = N) (hD : a.eval (.tmp D) = .bool s) (hc : w.cell? pb = some (.int .i64 x))
    (q2 : (execOp a.eval o2).run Tryz.prog w = .ok (.value (.pointer (some pb))) w) (q3 : o3.op = .load 3 (.tmp d2)) (q4 : o4.op = .call { callee := .value (.func 33), args := #[.tmp d3, .const (.int .i64 lo), .const (.int .i64 hi)], argTypes := ts }) (q5 : o5.op = .unOp .not t (.tmp d4))
    (e2 : o2.dst = some d2) (e3 : o3.dst = some d3) (e4 : o4.dst = some d4) (e5 : o5.dst = some d5) (f2 : Wn ops D s o2) (f3 : Wn ops D s o3) (f4 : Wn ops D s o4) (f5 : Wn ops D s o5)
    (hd : D < d2 ∧ d2 < d3 ∧ d3 < d4 ∧ d4 < d5 ∧ d5 < N)
    (k : ∀ a' n, Fr d2 a a' → a'.eval (.tmp d5) = .bool (!decide (lo ≤ x ∧ x ≤ hi)) → wpList Tryz.prog ops Q rest a' (w.drewN n)) : wpList Tryz.prog ops Q (o2 :: o3 :: o4 :: o5 :: rest) a w := by
  refine st_ e2 (f2 _ hD) q2 ?_
  have v2 : (a.put (some d2) (.pointer (some pb))).eval (.tmp d2) = .pointer (some pb) := eval_same (by omega)
  have w2 : (a.put (some d2) (.pointer (some pb))).eval (.tmp D) = .bool s := (eval_ne (by omega)).trans hD
  have F2 : Fr d2 a (a.put (some d2) (.pointer (some pb))) := fr_put (by omega)
  have s2 : (a.put (some d2) (.pointer (some pb))).tmps.size = N := size_put.trans S
  generalize a.put (some d2) (.pointer (some pb)) = a2 at *
  refine st_ e3 (f3 _ w2) (run_loadInt q3 v2 hc) ?_
  have v3 : (a2.put (some d3) (.int .i64 x)).eval (.tmp d3) = .int .i64 x := eval_same (by omega)
  have w3 : (a2.put (some d3) (.int .i64 x)).eval (.tmp D) = .bool s := (eval_ne (by omega)).trans w2
  have F3 : Fr d2 a (a2.put (some d3) (.int .i64 x)) := F2.trans (fr_put (by omega))
  have s3 : (a2.put (some d3) (.int .i64 x)).tmps.size = N := size_put.trans s2
  generalize a2.put (some d3) (.int .i64 x) = a3 at *
  refine ca_ #[.int .i64 x, .int .i64 lo, .int .i64 hi] e4 (f4 _ w3) Tryz.func33 (by kernel_rfl) rfl q4 (by simp [v3]; exact ⟨rfl, rfl⟩) ?_
  refine (in_calls x lo hi w).mono ?_
  rintro e w' ⟨rfl, ⟨n, rfl⟩⟩
  refine ⟨_, rfl, ?_⟩
  have v4 : (a3.put (some d4) (.bool (decide (lo ≤ x ∧ x ≤ hi)))).eval (.tmp d4) = .bool (decide (lo ≤ x ∧ x ≤ hi)) := eval_same (by omega)
  have w4 : (a3.put (some d4) (.bool (decide (lo ≤ x ∧ x ≤ hi)))).eval (.tmp D) = .bool s := (eval_ne (by omega)).trans w3
  have F4 : Fr d2 a (a3.put (some d4) (.bool (decide (lo ≤ x ∧ x ≤ hi)))) := F3.trans (fr_put (by omega))
  have s4 : (a3.put (some d4) (.bool (decide (lo ≤ x ∧ x ≤ hi)))).tmps.size = N := size_put.trans s3
  generalize a3.put (some d4) (.bool (decide (lo ≤ x ∧ x ≤ hi))) = a4 at *
  refine st_ e5 (f5 _ w4) (run_not q5 v4) ?_
  exact k _ n (F4.trans (fr_put (by omega))) (eval_same (by omega))
/-- A list, by the reference's list. -/
theorem r_list {s : Bool} {k' g i D d2 d3 d4 d5 c : Nat} {A : Option Addr} {l : List Int} {lo hi : Int} {both b : Bool} {o2 o3 o4 o5 : Oper} {ts : Array TypeId} {t : TypeId} (S : a.tmps.size = N) (h1 : a.eval (.tmp 1) = .pointer (some ⟨g, 0, none⟩)) (hD : a.eval (.tmp D) = .bool s) (hi' : i < 16) (hc : w.cell? ⟨g, i, none⟩ = some (.slice A l.length c))
    (hr : Kd.C (Kd.int .i64) w A l.length l) (hcap : l.length ≤ c) (hb : solsticeref21_list.f k' l lo hi both = some b)
    (q2 : o2.op = .fieldAddr 25 (.tmp 1) i) (q3 : o3.op = .load 22 (.tmp d2)) (q4 : o4.op = .call { callee := .value (.func 34), args := #[.tmp d3, .const (.int .i64 lo), .const (.int .i64 hi), .const (.bool both)], argTypes := ts }) (q5 : o5.op = .unOp .not t (.tmp d4))
    (e2 : o2.dst = some d2) (e3 : o3.dst = some d3) (e4 : o4.dst = some d4) (e5 : o5.dst = some d5) (f2 : Wn ops D s o2) (f3 : Wn ops D s o3) (f4 : Wn ops D s o4) (f5 : Wn ops D s o5)
    (hd : D < d2 ∧ d2 < d3 ∧ d3 < d4 ∧ d4 < d5 ∧ d5 < N)
    (k : ∀ a' n, Fr d2 a a' → a'.eval (.tmp d5) = .bool (!b) → wpList Tryz.prog ops Q rest a' (w.drewN n)) : wpList Tryz.prog ops Q (o2 :: o3 :: o4 :: o5 :: rest) a w := by
  refine st_ e2 (f2 _ hD) (run_field hi' q2 h1) ?_
  have v2 : (a.put (some d2) (.pointer (some ⟨g, i, none⟩))).eval (.tmp d2) = .pointer (some ⟨g, i, none⟩) := eval_same (by omega)
  have w2 : (a.put (some d2) (.pointer (some ⟨g, i, none⟩))).eval (.tmp D) = .bool s := (eval_ne (by omega)).trans hD
  have F2 : Fr d2 a (a.put (some d2) (.pointer (some ⟨g, i, none⟩))) := fr_put (by omega)
  have s2 : (a.put (some d2) (.pointer (some ⟨g, i, none⟩))).tmps.size = N := size_put.trans S
  generalize a.put (some d2) (.pointer (some ⟨g, i, none⟩)) = a2 at *
  refine st_ e3 (f3 _ w2) (run_loadList q3 v2 hc) ?_
  have v3 : (a2.put (some d3) (.slice A l.length c)).eval (.tmp d3) = .slice A l.length c := eval_same (by omega)
  have w3 : (a2.put (some d3) (.slice A l.length c)).eval (.tmp D) = .bool s := (eval_ne (by omega)).trans w2
  have F3 : Fr d2 a (a2.put (some d3) (.slice A l.length c)) := F2.trans (fr_put (by omega))
  have s3 : (a2.put (some d3) (.slice A l.length c)).tmps.size = N := size_put.trans s2
  generalize a2.put (some d3) (.slice A l.length c) = a3 at *
  refine ca_ #[.slice A l.length c, .int .i64 lo, .int .i64 hi, .bool both] e4 (f4 _ w3) Tryz.func34 (by kernel_rfl) rfl q4 (by simp [v3]; exact ⟨rfl, rfl, rfl⟩) ?_
  refine (solsticeref21_list.calls k' A c l lo hi both b w hr hcap hb).mono ?_
  rintro e w' ⟨rfl, ⟨n, rfl⟩⟩
  refine ⟨_, rfl, ?_⟩
  have v4 : (a3.put (some d4) (.bool b)).eval (.tmp d4) = .bool b := eval_same (by omega)
  have w4 : (a3.put (some d4) (.bool b)).eval (.tmp D) = .bool s := (eval_ne (by omega)).trans w3
  have F4 : Fr d2 a (a3.put (some d4) (.bool b)) := F3.trans (fr_put (by omega))
  have s4 : (a3.put (some d4) (.bool b)).tmps.size = N := size_put.trans s3
  generalize a3.put (some d4) (.bool b) = a4 at *
  refine st_ e5 (f5 _ w4) (run_not q5 v4) ?_
  exact k _ n (F4.trans (fr_put (by omega))) (eval_same (by omega))
/-- A field that is a number, compared. -/
theorem r_num {s : Bool} {pb : Addr} {D d2 d3 d4 : Nat} {x : Int} {b : Bool} {o2 o3 o4 : Oper} (S : a.tmps.size = N) (hD : a.eval (.tmp D) = .bool s) (hc : w.cell? pb = some (.int .i64 x))
    (q2 : (execOp a.eval o2).run Tryz.prog w = .ok (.value (.pointer (some pb))) w) (q3 : o3.op = .load 3 (.tmp d2)) (q4 : ∀ ρ : Operand → Value, (∀ v, ρ (.const v) = v) → ρ (.tmp d3) = .int .i64 x → (execOp ρ o4).run Tryz.prog w = .ok (.value (.bool b)) w)
    (e2 : o2.dst = some d2) (e3 : o3.dst = some d3) (e4 : o4.dst = some d4) (f2 : Wn ops D s o2) (f3 : Wn ops D s o3) (f4 : Wn ops D s o4)
    (hd : D < d2 ∧ d2 < d3 ∧ d3 < d4 ∧ d4 < N)
    (k : ∀ a', Fr d2 a a' → a'.eval (.tmp d4) = .bool b → wpList Tryz.prog ops Q rest a' w) : wpList Tryz.prog ops Q (o2 :: o3 :: o4 :: rest) a w := by
  refine st_ e2 (f2 _ hD) q2 ?_
  have v2 : (a.put (some d2) (.pointer (some pb))).eval (.tmp d2) = .pointer (some pb) := eval_same (by omega)
  have w2 : (a.put (some d2) (.pointer (some pb))).eval (.tmp D) = .bool s := (eval_ne (by omega)).trans hD
  have F2 : Fr d2 a (a.put (some d2) (.pointer (some pb))) := fr_put (by omega)
  have s2 : (a.put (some d2) (.pointer (some pb))).tmps.size = N := size_put.trans S
  generalize a.put (some d2) (.pointer (some pb)) = a2 at *
  refine st_ e3 (f3 _ w2) (run_loadInt q3 v2 hc) ?_
  have v3 : (a2.put (some d3) (.int .i64 x)).eval (.tmp d3) = .int .i64 x := eval_same (by omega)
  have w3 : (a2.put (some d3) (.int .i64 x)).eval (.tmp D) = .bool s := (eval_ne (by omega)).trans w2
  have F3 : Fr d2 a (a2.put (some d3) (.int .i64 x)) := F2.trans (fr_put (by omega))
  have s3 : (a2.put (some d3) (.int .i64 x)).tmps.size = N := size_put.trans s2
  generalize a2.put (some d3) (.int .i64 x) = a3 at *
  refine st_ e4 (f4 _ w3) (q4 _ (fun _ => rfl) v3) ?_
  exact k _ (F3.trans (fr_put (a := a3) (d := d4) (v := .bool b) (lo := d2) (by omega))) (eval_same (by omega))
/-- A field that is a bool. -/
theorem r_bool {s : Bool} {g i D d2 d3 : Nat} {x : Bool} {o2 o3 : Oper} (S : a.tmps.size = N) (h1 : a.eval (.tmp 1) = .pointer (some ⟨g, 0, none⟩)) (hD : a.eval (.tmp D) = .bool s) (hi' : i < 16) (hc : w.cell? ⟨g, i, none⟩ = some (.bool x))
    (q2 : o2.op = .fieldAddr 25 (.tmp 1) i) (q3 : o3.op = .load 4 (.tmp d2)) (e2 : o2.dst = some d2) (e3 : o3.dst = some d3) (f2 : Wn ops D s o2) (f3 : Wn ops D s o3) (hd : D < d2 ∧ d2 < d3 ∧ d3 < N)
    (k : ∀ a', Fr d2 a a' → a'.eval (.tmp d3) = .bool x → wpList Tryz.prog ops Q rest a' w) : wpList Tryz.prog ops Q (o2 :: o3 :: rest) a w := by
  refine st_ e2 (f2 _ hD) (run_field hi' q2 h1) ?_
  have v2 : (a.put (some d2) (.pointer (some ⟨g, i, none⟩))).eval (.tmp d2) = .pointer (some ⟨g, i, none⟩) := eval_same (by omega)
  have w2 : (a.put (some d2) (.pointer (some ⟨g, i, none⟩))).eval (.tmp D) = .bool s := (eval_ne (by omega)).trans hD
  have F2 : Fr d2 a (a.put (some d2) (.pointer (some ⟨g, i, none⟩))) := fr_put (by omega)
  have s2 : (a.put (some d2) (.pointer (some ⟨g, i, none⟩))).tmps.size = N := size_put.trans S
  generalize a.put (some d2) (.pointer (some ⟨g, i, none⟩)) = a2 at *
  refine st_ e3 (f3 _ w2) (run_loadBool q3 v2 hc) ?_
  exact k _ (F2.trans (fr_put (a := a2) (d := d3) (v := .bool x) (lo := d2) (by omega))) (eval_same (by omega))
/-- A negation. -/
theorem r_not {s : Bool} {D p d4 : Nat} {x : Bool} {t : TypeId} {o4 : Oper} (S : a.tmps.size = N) (hD : a.eval (.tmp D) = .bool s) (hp : a.eval (.tmp p) = .bool x) (q4 : o4.op = .unOp .not t (.tmp p)) (e4 : o4.dst = some d4) (f4 : Wn ops D s o4) (hd : D < d4 ∧ d4 < N)
    (k : ∀ a', Fr d4 a a' → a'.eval (.tmp d4) = .bool (!x) → wpList Tryz.prog ops Q rest a' w) : wpList Tryz.prog ops Q (o4 :: rest) a w := by
  refine st_ e4 (f4 _ hD) (run_not q4 hp) ?_
  exact k _ (fr_put (Nat.le_refl _)) (eval_same (by omega))
/-- One more part behind 'and', within a part that is run where Do is so. -/
theorem link_and {so : Bool} {p D Do d5 d6 j : Nat} {b c : Bool} {o1 o6 : Oper} {l : List Oper} (n : Nat) (G : World → Prop) (hG : G w) (hl : l.drop n = o6 :: rest) (S : a.tmps.size = N) (hDo : a.eval (.tmp Do) = .bool so) (hp : a.eval (.tmp p) = .bool b)
    (q1 : o1.op = .move (.tmp p)) (q6 : o6.op = .pick (.tmp D) (.tmp d5) (.const (.bool false))) (e1 : o1.dst = some D) (e6 : o6.dst = some d6) (f1 : Wn ops Do so o1) (f6 : Wn ops Do so o6)
    (hj : (ops[j]?).bind (·.dst) = some D) (hsk : skipOk false ops j D (l.take n) [] = true) (hd : Do < D ∧ D < d6 ∧ d6 < N)
    (hmid : b = true → ∀ a1, Fr D a a1 → a1.eval (.tmp D) = .bool true → (∀ a2 w2, Fr D a a2 → G w2 → a2.eval (.tmp D) = .bool true → a2.eval (.tmp d5) = .bool c → wpList Tryz.prog ops Q (o6 :: rest) a2 w2) → wpList Tryz.prog ops Q l a1 w)
    (k : ∀ a' w', Fr D a a' → G w' → a'.eval (.tmp d6) = .bool (b && c) → wpList Tryz.prog ops Q rest a' w') : wpList Tryz.prog ops Q (o1 :: l) a w := by
  refine st_ e1 (f1 _ hDo) (run_move q1) ?_
  rw [hp]
  have s1 : (a.put (some D) (.bool b)).tmps.size = N := size_put.trans S
  have v1 : (a.put (some D) (.bool b)).eval (.tmp D) = .bool b := eval_same (by omega)
  have F1 : Fr D a (a.put (some D) (.bool b)) := fr_put (Nat.le_refl _)
  generalize a.put (some D) (.bool b) = a1 at *
  cases b with
  | false =>
    rw [← List.take_append_drop n l, hl]
    refine skips hj _ [] a1 hsk v1 (fun d hd => absurd hd List.not_mem_nil) (fun a' h' => ?_)
    have v' : a'.eval (.tmp D) = .bool false := (h'.ev D (by omega)).trans v1
    have F' := F1.trans (h'.mono (by omega))
    refine st_ e6 (f6 _ ((F'.ev Do hd.1).trans hDo)) (run_pick (b := false) q6 v') ?_
    refine k _ w (F'.trans (fr_put (by omega))) hG ?_
    rw [eval_same (by rw [h'.sz, s1]; omega)]
    rfl
  | true =>
    refine hmid rfl a1 F1 v1 (fun a2 w2 F2 hG2 hD2 hv2 => ?_)
    refine st_ e6 (f6 _ ((F2.ev Do hd.1).trans hDo)) (run_pick (b := true) q6 hD2) ?_
    refine k _ w2 (F2.trans (fr_put (by omega))) hG2 ?_
    rw [eval_same (by rw [F2.sz, S]; omega)]
    simp only [if_true, Bool.true_and]
    exact hv2
/-- One more part behind 'or', within a part that is run where Do is so: its operations are skipped where the parts ahead are true. -/
theorem link_or {so : Bool} {p D Do d5 d6 j : Nat} {b c : Bool} {o1 o6 : Oper} {l : List Oper} (n : Nat) (G : World → Prop) (hG : G w) (hl : l.drop n = o6 :: rest) (S : a.tmps.size = N) (hDo : a.eval (.tmp Do) = .bool so) (hp : a.eval (.tmp p) = .bool b)
    (q1 : o1.op = .move (.tmp p)) (q6 : o6.op = .pick (.tmp D) (.const (.bool true)) (.tmp d5)) (e1 : o1.dst = some D) (e6 : o6.dst = some d6) (f1 : Wn ops Do so o1) (f6 : Wn ops Do so o6)
    (hj : (ops[j]?).bind (·.dst) = some D) (hsk : skipOk true ops j D (l.take n) [] = true) (hd : Do < D ∧ D < d6 ∧ d6 < N)
    (hmid : b = false → ∀ a1, Fr D a a1 → a1.eval (.tmp D) = .bool false → (∀ a2 w2, Fr D a a2 → G w2 → a2.eval (.tmp D) = .bool false → a2.eval (.tmp d5) = .bool c → wpList Tryz.prog ops Q (o6 :: rest) a2 w2) → wpList Tryz.prog ops Q l a1 w)
    (k : ∀ a' w', Fr D a a' → G w' → a'.eval (.tmp d6) = .bool (b || c) → wpList Tryz.prog ops Q rest a' w') : wpList Tryz.prog ops Q (o1 :: l) a w := by
  refine st_ e1 (f1 _ hDo) (run_move q1) ?_
  rw [hp]
  have s1 : (a.put (some D) (.bool b)).tmps.size = N := size_put.trans S
  have v1 : (a.put (some D) (.bool b)).eval (.tmp D) = .bool b := eval_same (by omega)
  have F1 : Fr D a (a.put (some D) (.bool b)) := fr_put (Nat.le_refl _)
  generalize a.put (some D) (.bool b) = a1 at *
  cases b with
  | true =>
    rw [← List.take_append_drop n l, hl]
    refine skips hj _ [] a1 hsk v1 (fun d hd => absurd hd List.not_mem_nil) (fun a' h' => ?_)
    have v' : a'.eval (.tmp D) = .bool true := (h'.ev D (by omega)).trans v1
    have F' := F1.trans (h'.mono (by omega))
    refine st_ e6 (f6 _ ((F'.ev Do hd.1).trans hDo)) (run_pick (b := true) q6 v') ?_
    refine k _ w (F'.trans (fr_put (by omega))) hG ?_
    rw [eval_same (by rw [h'.sz, s1]; omega)]
    rfl
  | false =>
    refine hmid rfl a1 F1 v1 (fun a2 w2 F2 hG2 hD2 hv2 => ?_)
    refine st_ e6 (f6 _ ((F2.ev Do hd.1).trans hDo)) (run_pick (b := false) q6 hD2) ?_
    refine k _ w2 (F2.trans (fr_put (by omega))) hG2 ?_
    rw [eval_same (by rw [F2.sz, S]; omega)]
    simp only [Bool.false_eq_true, if_false, Bool.false_or]
    exact hv2
/-- A step that gives a value: all temporaries below keep theirs. -/
theorem sv_ (S : a.tmps.size = N) (hd : o.dst = some d) (hl : d < N) (hg : Region.wanted o (yielded ops a.tmps) = true) (hrun : (execOp a.eval o).run Tryz.prog w = .ok (.value v) w1) (k : ∀ a', a'.tmps.size = N → Fr d a a' → a'.eval (.tmp d) = v → wpList Tryz.prog ops Q rest a' w1) : wpList Tryz.prog ops Q (o :: rest) a w :=
  st_ hd hg hrun (k _ (size_put.trans S) (fr_put (Nat.le_refl _)) (eval_same (by omega)))
/-- The length of a field. -/
theorem r_ln {s : Bool} {g i D d2 d3 d4 n c : Nat} {t : TypeId} {A : Option Addr} {o2 o3 o4 : Oper} (S : a.tmps.size = N) (h1 : a.eval (.tmp 1) = .pointer (some ⟨g, 0, none⟩)) (hD : a.eval (.tmp D) = .bool s) (hi : i < 16) (hc : w.cell? ⟨g, i, none⟩ = some (.slice A n c)) (ht : t = 22 ∨ t = 23)
    (q2 : o2.op = .fieldAddr 25 (.tmp 1) i) (q3 : o3.op = .load t (.tmp d2)) (q4 : o4.op = .call { callee := .builtin .len, args := #[.tmp d3], argTypes := #[t] })
    (e2 : o2.dst = some d2) (e3 : o3.dst = some d3) (e4 : o4.dst = some d4) (f2 : Wn ops D s o2) (f3 : Wn ops D s o3) (f4 : Wn ops D s o4) (hd : D < d2 ∧ d2 < d3 ∧ d3 < d4 ∧ d4 < N)
    (k : ∀ a', a'.tmps.size = N → Fr d2 a a' → a'.eval (.tmp d4) = .int .i64 n → wpList Tryz.prog ops Q rest a' w) : wpList Tryz.prog ops Q (o2 :: o3 :: o4 :: rest) a w := by
  refine sv_ S e2 (by omega) (f2 _ hD) (run_field hi q2 h1) (fun a2 S2 F2 v2 => ?_)
  have hr : (execOp a2.eval o3).run Tryz.prog w = .ok (.value (.slice A n c)) w := by
    rcases ht with e | e
    · subst e; exact run_loadList q3 v2 hc
    · subst e; exact run_loadDays q3 v2 hc
  have D2 := (F2.ev D hd.1).trans hD
  refine sv_ S2 e3 (by omega) (f3 _ D2) hr (fun a3 S3 F3 v3 => ?_)
  have ht' : Tryz.prog.underlying t = some (.slice 3) ∨ Tryz.prog.underlying t = some (.slice 67) := by
    rcases ht with e | e
    · subst e; exact Or.inl Tryz.underlying22
    · subst e; exact Or.inr Tryz.underlying23
  refine sv_ S3 e4 (by omega) (f4 _ ((F3.ev D (by omega)).trans D2)) (run_len ht' q4 v3) (fun a4 S4 F4 v4 => ?_)
  exact k a4 S4 (F2.trans ((F3.mono (by omega)).trans (F4.mono (by omega)))) v4
theorem run_box {ρ : Operand → Value} {x : Operand} {cs : Array Value} (ho : o.op = .box 25 x) (hx : ρ x = .agg cs) : (execOp ρ o).run Tryz.prog w = .ok (.value (.pointer (some ⟨w.heap.size, 0, none⟩))) (w.alloc (.cells cs 25 (0, 0))) := by
  unfold execOp; rw [ho]; go_simp
end
theorem head_true {a0 a1 a2 a4 a15 : Int} {a3 a5 : Bool} (h : ¬ (1 ≤ a0 ∧ a0 ≤ 7) ∨ ¬ (1 ≤ a1 ∧ a1 ≤ 1000) ∨ ¬ (0 ≤ a2 ∧ a2 ≤ 100000) ∨ (0 < a2 ∧ a3 = true) ∨ (a5 = true ∧ a3 = false) ∨ (a3 = false ∧ ¬ a4 = 0) ∨ ¬ (0 ≤ a15 ∧ a15 ≤ 6)) :
    (((((((!decide (1 ≤ a0 ∧ a0 ≤ 7)) || (!decide (1 ≤ a1 ∧ a1 ≤ 1000))) || (!decide (0 ≤ a2 ∧ a2 ≤ 100000))) || (decide (0 < a2) && a3)) || (a5 && !a3)) || (!a3 && (a4 != 0))) || (!decide (0 ≤ a15 ∧ a15 ≤ 6))) = true := by
  rcases h with h | h | h | h | h | h | h
  · simp [h]
  · simp [h]
  · simp [h]
  · simp [h.1, h.2]
  · simp [h.1, h.2]
  · simp [h.1, h.2]
  · simp [h]
theorem head_false {a0 a1 a2 a4 a15 : Int} {a3 a5 : Bool} (h : ¬ (¬ (1 ≤ a0 ∧ a0 ≤ 7) ∨ ¬ (1 ≤ a1 ∧ a1 ≤ 1000) ∨ ¬ (0 ≤ a2 ∧ a2 ≤ 100000) ∨ (0 < a2 ∧ a3 = true) ∨ (a5 = true ∧ a3 = false) ∨ (a3 = false ∧ ¬ a4 = 0) ∨ ¬ (0 ≤ a15 ∧ a15 ≤ 6))) :
    (((((((!decide (1 ≤ a0 ∧ a0 ≤ 7)) || (!decide (1 ≤ a1 ∧ a1 ≤ 1000))) || (!decide (0 ≤ a2 ∧ a2 ≤ 100000))) || (decide (0 < a2) && a3)) || (a5 && !a3)) || (!a3 && (a4 != 0))) || (!decide (0 ≤ a15 ∧ a15 ≤ 6))) = false := by
  cases a3 <;> cases a5 <;> simp at h ⊢ <;> simp_all <;> omega
section
variable {ρ : Operand → Value} {o : Oper} {w : World}
theorem run_extract0 {x : Operand} {u v : Value} (ho : o.op = .extract x 0) (hx : ρ x = .tuple #[u, v]) : (execOp ρ o).run Tryz.prog w = .ok (.value u) w := by
  unfold execOp; rw [ho]; go_simp
theorem run_extract1 {x : Operand} {u v : Value} (ho : o.op = .extract x 1) (hx : ρ x = .tuple #[u, v]) : (execOp ρ o).run Tryz.prog w = .ok (.value v) w := by
  unfold execOp; rw [ho]; go_simp
theorem run_alloc39 (ho : o.op = .alloc 30) : (execOp ρ o).run Tryz.prog w = .ok (.value (.pointer (some ⟨w.heap.size, 0, none⟩))) (w.alloc (.cells #[.int .i64 0, .int .i64 0, .int .i64 0] 30 (0, 0))) := by
  have hu39 := Tryz.underlying30
  unfold execOp; rw [ho]; first | (go_simp; done) | (go_simp; rfl)
theorem run_store39 {x y : Operand} {g : Nat} {a b c : Int} (hk : w.heap[g]? = some (.cells #[.int .i64 0, .int .i64 0, .int .i64 0] 30 (0, 0))) (ho : o.op = .store 30 x y) (hx : ρ x = .pointer (some ⟨g, 0, none⟩)) (hy : ρ y = .agg #[.int .i64 a, .int .i64 b, .int .i64 c]) :
    (execOp ρ o).run Tryz.prog w = .ok .skip (((w.setCell ⟨g, 0, none⟩ (.int .i64 a)).setCell ⟨g, 1, none⟩ (.int .i64 b)).setCell ⟨g, 2, none⟩ (.int .i64 c)) := by
  have hu39 := Tryz.underlying30
  have z0 : w.cell? ⟨g, 0, none⟩ = some (.int .i64 0) := (blk_cell hk 0).trans rfl
  have z1 : w.cell? ⟨g, 1, none⟩ = some (.int .i64 0) := (blk_cell hk 1).trans rfl
  have z2 : w.cell? ⟨g, 2, none⟩ = some (.int .i64 0) := (blk_cell hk 2).trans rfl
  have f0 := blk_frozen hk 0
  have f1 := blk_frozen hk 1
  have f2 := blk_frozen hk 2
  unfold execOp; rw [ho]; go_simp
end
section
variable {ops : Array Oper} {rest : List Oper} {Q : Exit → Act → World → Prop} {a : Act} {w w1 : World} {o : Oper}
theorem st_skip (hd : o.dst = none) (hg : o.guard = none) (hrun : (execOp a.eval o).run Tryz.prog w = .ok .skip w1) (k : wpList Tryz.prog ops Q rest a w1) : wpList Tryz.prog ops Q (o :: rest) a w := by
  unfold wpList
  rw [if_pos (wanted_none hg)]
  left
  unfold Oper.wp
  rw [hrun, Oper.upon_skip, hd]
  exact k
end
section
variable {ρ : Operand → Value} {o : Oper} {w : World}
theorem run_field47 {x : Operand} {p i : Nat} (hi : i < 2) (ho : o.op = .fieldAddr 67 x i) (hx : ρ x = .pointer (some ⟨p, 0, none⟩)) : (execOp ρ o).run Tryz.prog w = .ok (.value (.pointer (some ⟨p, i, none⟩))) w := by
  have hu47 := Tryz.underlying67
  unfold execOp; rw [ho]
  match i, hi with
  | 0, _ => go_simp
  | 1, _ => go_simp
  | n + 2, h => exact absurd h (by omega)
theorem run_index23 {x y : Operand} {ad : Addr} {n c kk : Nat} (hk : kk < n) (hn : n ≤ 1000000) (ho : o.op = .indexAddr 23 x y) (hx : ρ x = .slice (some ad) n c) (hy : ρ y = .int .i64 kk) : (execOp ρ o).run Tryz.prog w = .ok (.value (.pointer (some (ad.add (kk * 2))))) w := by
  have hu23 := Tryz.underlying23
  have hu47 := Tryz.underlying67
  have h1 : ¬ (kk : Int) < 0 := by omega
  have h2 : (kk : Int) < n := by omega
  unfold execOp; rw [ho]; go_simp
theorem run_load47 {x : Operand} {p : Addr} {u v : Value} (ho : o.op = .load 67 x) (hx : ρ x = .pointer (some p)) (h0 : w.cell? p = some u) (h1 : w.cell? ⟨p.block, p.off + 1, none⟩ = some v) : (execOp ρ o).run Tryz.prog w = .ok (.value (.agg #[u, v])) w := by
  have hu47 := Tryz.underlying67
  unfold execOp; rw [ho]; go_simp
theorem run_alloc47 (ho : o.op = .alloc 67) : (execOp ρ o).run Tryz.prog w = .ok (.value (.pointer (some ⟨w.heap.size, 0, none⟩))) (w.alloc (.cells #[.int .i64 0, .int .i64 0] 67 (0, 0))) := by
  have hu47 := Tryz.underlying67
  unfold execOp; rw [ho]; first | (go_simp; done) | (go_simp; rfl)
theorem run_store47 {x y : Operand} {g : Nat} {a b : Int} (hk : w.heap[g]? = some (.cells #[.int .i64 0, .int .i64 0] 67 (0, 0))) (ho : o.op = .store 67 x y) (hx : ρ x = .pointer (some ⟨g, 0, none⟩)) (hy : ρ y = .agg #[.int .i64 a, .int .i64 b]) :
    (execOp ρ o).run Tryz.prog w = .ok .skip ((w.setCell ⟨g, 0, none⟩ (.int .i64 a)).setCell ⟨g, 1, none⟩ (.int .i64 b)) := by
  have hu47 := Tryz.underlying67
  have z0 : w.cell? ⟨g, 0, none⟩ = some (.int .i64 0) := (blk_cell hk 0).trans rfl
  have z1 : w.cell? ⟨g, 1, none⟩ = some (.int .i64 0) := (blk_cell hk 1).trans rfl
  have f0 := blk_frozen hk 0
  have f1 := blk_frozen hk 1
  unfold execOp; rw [ho]; go_simp
theorem run_eql47 {x y : Operand} {a b c d : Int} (ho : o.op = .binOp .eql 67 x y 67) (hx : ρ x = .agg #[.int .i64 a, .int .i64 b]) (hy : ρ y = .agg #[.int .i64 c, .int .i64 d]) : (execOp ρ o).run Tryz.prog w = .ok (.value (.bool (eq67 ⟨a, b⟩ ⟨c, d⟩))) w := by
  have hu47 := Tryz.underlying67
  unfold execOp; rw [ho]; unfold eq67; go_simp; by_cases h1 : a = c <;> by_cases h2 : b = d <;> simp [h1, h2]
end
theorem ss_ {N : Nat} {ops : Array Oper} {rest : List Oper} {Q : Act → Prop} {a : Act} {w : World} {o : Oper} {d : Nat} {v : Value} (S : a.tmps.size = N) (hd : o.dst = some d) (hl : d < N) (hg : o.guard = none) (hrun : (execOp a.eval o).run Tryz.prog w = .ok (.value v) w) (k : ∀ a', a'.tmps.size = N → Fr d a a' → a'.eval (.tmp d) = v → wpStill Tryz.prog ops w Q rest a') : wpStill Tryz.prog ops w Q (o :: rest) a := by
  unfold wpStill
  rw [if_pos (wanted_none hg)]
  unfold Oper.still
  rw [hrun, Oper.stillUpon_value, hd]
  exact k _ (size_put.trans S) (fr_put (Nat.le_refl _)) (eval_same (by omega))
theorem exit_in {id : Nat} {Q : Exit → Act → World → Prop} {a : Act} {w : World} (h : Q .normal a w) : Exit.inBlock id Q (.exit id) a w := by
  unfold Exit.inBlock
  simpa using h
theorem act_abs {P : Program} {c : Code} {Q : Exit → Act → World → Prop} {a : Act} {w : World} (F : Act → Prop) (h : F a) (k : ∀ a, F a → Code.wp P c Q a w) : Code.wp P c Q a w := k a h
end Go.Proofs.YtjjaiahfkiojlaaGreat.O
