-- What Check of a rule computes, where all is right: a text of this claim's own.
import Derived.Test.YtfinhaghgmnegaaGreatHd
namespace Go.Proofs.YtfinhaghgmnegaaGreat.O
open Go.RowKit Go.Proofs.YtfinhaghgmnegaaGreatW.PrintWords Go.Proofs.YtfinhaghgmnegaaGreatW.PrintLast Go.Proofs.YtfinhaghgmnegaaGreatW.PrintMore
set_option maxRecDepth 100000
set_option linter.unusedVariables false
set_option linter.unusedSimpArgs false
/-- None stands twice among weekdays. -/
def dis44 : List S44 → Bool
  | [] => true
  | x :: xs => xs.all (fun y => !eq44 x y) && dis44 xs
theorem dis47_pw : ∀ {l : List S44}, dis44 l = true → l.Pairwise fun y x => eq44 y x = false
  | [], _ => List.Pairwise.nil
  | x :: xs, h => by
    simp only [dis44, Bool.and_eq_true, List.all_eq_true, Bool.not_eq_true'] at h
    exact List.Pairwise.cons (fun y hy => h.1 y hy) (dis47_pw h.2)
/-- A list of numbers that may be, and that is no longer than there is room. -/
def okList (l : List Int) (least most : Int) (neg : Bool) : Bool := rightB l least most neg && decide (l.length ≤ 1000000000)
/-- A right rule, but for its end. -/
def okRecur (a0_0 : Int) (a0_1 : Int) (a0_2 : Int) (a0_3 : Bool) (a0_4 : Int) (a0_5 : Bool) (l0_6 : List Int) (l0_7 : List Int) (l0_8 : List Int) (l0_9 : List (S44)) (l0_10 : List Int) (l0_11 : List Int) (l0_12 : List Int) (l0_13 : List Int) (l0_14 : List Int) (a0_15 : Int) : Bool :=
  (decide (1 ≤ a0_0) && decide (a0_0 ≤ 7)) && (decide (1 ≤ a0_1) && decide (a0_1 ≤ 1000)) && (decide (0 ≤ a0_15) && decide (a0_15 ≤ 6)) &&
  (okList l0_6 0 59 false && okList l0_7 0 59 false && okList l0_8 0 23 false && okList l0_10 1 31 true && okList l0_11 1 366 true && okList l0_12 1 53 true && okList l0_13 1 12 false && okList l0_14 1 366 true) &&
  (l0_9.all (okBy ((decide (a0_0 = 6) || decide (a0_0 = 7)) && decide ((l0_12.length : Int) = 0))) && dis44 l0_9 && decide (l0_9.length ≤ 1000000000)) &&
  okBeside a0_0 l0_6.length l0_7.length l0_8.length l0_9.length l0_10.length l0_11.length l0_12.length l0_13.length l0_14.length
/-- What Check tells of a right rule (of others nothing is said here). -/
def recur_Check.f (k : Nat) (a0_0 : Int) (a0_1 : Int) (a0_2 : Int) (a0_3 : Bool) (a0_4 : Int) (a0_5 : Bool) (l0_6 : List Int) (l0_7 : List Int) (l0_8 : List Int) (l0_9 : List (S44)) (l0_10 : List Int) (l0_11 : List Int) (l0_12 : List Int) (l0_13 : List Int) (l0_14 : List Int) (a0_15 : Int) : Option Int :=
  if okRecur a0_0 a0_1 a0_2 a0_3 a0_4 a0_5 l0_6 l0_7 l0_8 l0_9 l0_10 l0_11 l0_12 l0_13 l0_14 a0_15 = true then (recur_ends.f k a0_0 a0_1 a0_2 a0_3 a0_4 a0_5 l0_6 l0_7 l0_8 l0_9 l0_10 l0_11 l0_12 l0_13 l0_14 a0_15).bind fun t => if t = true then some 0 else none else none
theorem okList_wf {l : List Int} {least most : Int} {neg : Bool} (hl : 0 ≤ least) (hm : most ≤ 1000) (hl' : least ≤ 1000) (hm' : 0 ≤ most) (h : okList l least most neg = true) : rightB l least most neg = true ∧ l.length ≤ 1000000000 ∧ ∀ x ∈ l, (Lit.int .i64 x).wf = true := by
  simp only [okList, Bool.and_eq_true, decide_eq_true_eq] at h
  refine ⟨h.1, h.2, fun x hx => ?_⟩
  have h1 := h.1
  simp only [rightB, Bool.and_eq_true, Bool.not_eq_true', List.any_eq_false] at h1
  have h2 := h1.1 x hx
  have m1 : IntKind.i64.min = -9223372036854775808 := rfl
  have m2 : IntKind.i64.max = 9223372036854775807 := rfl
  simp only [Lit.wf, m1, m2, Bool.and_eq_true, decide_eq_true_eq]
  cases neg <;> simp only [wrongB, Bool.not_eq_true, Bool.and_eq_false_iff, Bool.or_eq_false_iff, decide_eq_false_iff_not, Bool.not_true, Bool.not_false, Bool.true_eq_false, Bool.false_eq_true, false_or, or_false, true_or, false_and, Bool.true_or, Bool.false_or] at h2 <;> omega
theorem enters60 : ∀ args w, (callFunc 19 args).run Tryz.prog w = .ok (.enter 19 args) w := enters_of Tryz.func19 (by kernel_rfl) rfl
theorem info56 : (Tryz.prog.info? 56).map (fun i => (i.zero, i.size, i.bytes)) = some (some (.agg #[.string ⟨#[]⟩, .pointer none, .int .i64 0, .int .i64 0, .bool false]), 5, 48) := by kernel_rfl
theorem conf_lists {H : Type} (g r c : Nat) (W : World) (hcell : ∀ j u, (bef r ++ beh r)[j]? = some u → W.cell? ((⟨g, 0, none⟩ : Addr).add j) = some u)
    (A13 : Option Addr) (c13 : Nat) (l13 : List Int) (x13 : W.cell? ⟨r, 13, none⟩ = some (.slice A13 l13.length c13)) (r13 : Kd.C (Kd.int .i64) W A13 l13.length l13) (P13 : rightB l13 1 12 false = true ∧ l13.length ≤ 1000000000 ∧ ∀ x ∈ l13, (Lit.int .i64 x).wf = true)
    (A12 : Option Addr) (c12 : Nat) (l12 : List Int) (x12 : W.cell? ⟨r, 12, none⟩ = some (.slice A12 l12.length c12)) (r12 : Kd.C (Kd.int .i64) W A12 l12.length l12) (P12 : rightB l12 1 53 true = true ∧ l12.length ≤ 1000000000 ∧ ∀ x ∈ l12, (Lit.int .i64 x).wf = true)
    (A11 : Option Addr) (c11 : Nat) (l11 : List Int) (x11 : W.cell? ⟨r, 11, none⟩ = some (.slice A11 l11.length c11)) (r11 : Kd.C (Kd.int .i64) W A11 l11.length l11) (P11 : rightB l11 1 366 true = true ∧ l11.length ≤ 1000000000 ∧ ∀ x ∈ l11, (Lit.int .i64 x).wf = true)
    (A10 : Option Addr) (c10 : Nat) (l10 : List Int) (x10 : W.cell? ⟨r, 10, none⟩ = some (.slice A10 l10.length c10)) (r10 : Kd.C (Kd.int .i64) W A10 l10.length l10) (P10 : rightB l10 1 31 true = true ∧ l10.length ≤ 1000000000 ∧ ∀ x ∈ l10, (Lit.int .i64 x).wf = true)
    (A8 : Option Addr) (c8 : Nat) (l8 : List Int) (x8 : W.cell? ⟨r, 8, none⟩ = some (.slice A8 l8.length c8)) (r8 : Kd.C (Kd.int .i64) W A8 l8.length l8) (P8 : rightB l8 0 23 false = true ∧ l8.length ≤ 1000000000 ∧ ∀ x ∈ l8, (Lit.int .i64 x).wf = true)
    (A7 : Option Addr) (c7 : Nat) (l7 : List Int) (x7 : W.cell? ⟨r, 7, none⟩ = some (.slice A7 l7.length c7)) (r7 : Kd.C (Kd.int .i64) W A7 l7.length l7) (P7 : rightB l7 0 59 false = true ∧ l7.length ≤ 1000000000 ∧ ∀ x ∈ l7, (Lit.int .i64 x).wf = true)
    (A6 : Option Addr) (c6 : Nat) (l6 : List Int) (x6 : W.cell? ⟨r, 6, none⟩ = some (.slice A6 l6.length c6)) (r6 : Kd.C (Kd.int .i64) W A6 l6.length l6) (P6 : rightB l6 0 59 false = true ∧ l6.length ≤ 1000000000 ∧ ∀ x ∈ l6, (Lit.int .i64 x).wf = true)
    (A14 : Option Addr) (c14 : Nat) (l14 : List Int) (x14 : W.cell? ⟨r, 14, none⟩ = some (.slice A14 l14.length c14)) (r14 : Kd.C (Kd.int .i64) W A14 l14.length l14) (P14 : rightB l14 1 366 true = true ∧ l14.length ≤ 1000000000 ∧ ∀ x ∈ l14, (Lit.int .i64 x).wf = true) :
    Calls Tryz.prog 22 #[.slice (some ⟨g, 0, none⟩) 8 c, .func (.func 19) #[] #[]] W fun e w' => e = .returned (.bool false) ∧ Below W.heap.size W w' := by
  refine conf_list 8 19 enters60 ⟨g, 0, none⟩ c (fun i => match i with | 0 => sA | 1 => sB | 2 => sC | 3 => sD | 4 => sE | 5 => sF | 6 => sG | _ => sH) (fun i => match i with | 0 => ⟨r, 13, none⟩ | 1 => ⟨r, 12, none⟩ | 2 => ⟨r, 11, none⟩ | 3 => ⟨r, 10, none⟩ | 4 => ⟨r, 8, none⟩ | 5 => ⟨r, 7, none⟩ | 6 => ⟨r, 6, none⟩ | _ => ⟨r, 14, none⟩) (fun i => match i with | 0 => 1 | 1 => 1 | 2 => 1 | 3 => 1 | 4 => 0 | 5 => 0 | 6 => 0 | _ => 1) (fun i => match i with | 0 => 12 | 1 => 53 | 2 => 366 | 3 => 31 | 4 => 23 | 5 => 59 | 6 => 59 | _ => 366) (fun i => match i with | 0 => false | 1 => true | 2 => true | 3 => true | 4 => false | 5 => false | 6 => false | _ => true) W ?_ (by decide) ?_
  · intro i hi
    match i, hi with
    | 0, _ => exact ⟨hcell 0 _ rfl, hcell 1 _ rfl, hcell 2 _ rfl, hcell 3 _ rfl, hcell 4 _ rfl⟩
    | 1, _ => exact ⟨hcell 5 _ rfl, hcell 6 _ rfl, hcell 7 _ rfl, hcell 8 _ rfl, hcell 9 _ rfl⟩
    | 2, _ => exact ⟨hcell 10 _ rfl, hcell 11 _ rfl, hcell 12 _ rfl, hcell 13 _ rfl, hcell 14 _ rfl⟩
    | 3, _ => exact ⟨hcell 15 _ rfl, hcell 16 _ rfl, hcell 17 _ rfl, hcell 18 _ rfl, hcell 19 _ rfl⟩
    | 4, _ => exact ⟨hcell 20 _ rfl, hcell 21 _ rfl, hcell 22 _ rfl, hcell 23 _ rfl, hcell 24 _ rfl⟩
    | 5, _ => exact ⟨hcell 25 _ rfl, hcell 26 _ rfl, hcell 27 _ rfl, hcell 28 _ rfl, hcell 29 _ rfl⟩
    | 6, _ => exact ⟨hcell 30 _ rfl, hcell 31 _ rfl, hcell 32 _ rfl, hcell 33 _ rfl, hcell 34 _ rfl⟩
    | 7, _ => exact ⟨hcell 35 _ rfl, hcell 36 _ rfl, hcell 37 _ rfl, hcell 38 _ rfl, hcell 39 _ rfl⟩
  · intro W2 hb i hi
    match i, hi with
    | 0, _ => exact check1_calls (H := H) sA ⟨r, 13, none⟩ 1 12 false A13 c13 l13 W2 (by decide) (by decide) (by decide) (by decide) ((hb.cell (World.block_lt_of_cell? W _ x13)).trans x13) (Kd.C_below r13 hb) P13.2.1 P13.2.2 P13.1
    | 1, _ => exact check1_calls (H := H) sB ⟨r, 12, none⟩ 1 53 true A12 c12 l12 W2 (by decide) (by decide) (by decide) (by decide) ((hb.cell (World.block_lt_of_cell? W _ x12)).trans x12) (Kd.C_below r12 hb) P12.2.1 P12.2.2 P12.1
    | 2, _ => exact check1_calls (H := H) sC ⟨r, 11, none⟩ 1 366 true A11 c11 l11 W2 (by decide) (by decide) (by decide) (by decide) ((hb.cell (World.block_lt_of_cell? W _ x11)).trans x11) (Kd.C_below r11 hb) P11.2.1 P11.2.2 P11.1
    | 3, _ => exact check1_calls (H := H) sD ⟨r, 10, none⟩ 1 31 true A10 c10 l10 W2 (by decide) (by decide) (by decide) (by decide) ((hb.cell (World.block_lt_of_cell? W _ x10)).trans x10) (Kd.C_below r10 hb) P10.2.1 P10.2.2 P10.1
    | 4, _ => exact check1_calls (H := H) sE ⟨r, 8, none⟩ 0 23 false A8 c8 l8 W2 (by decide) (by decide) (by decide) (by decide) ((hb.cell (World.block_lt_of_cell? W _ x8)).trans x8) (Kd.C_below r8 hb) P8.2.1 P8.2.2 P8.1
    | 5, _ => exact check1_calls (H := H) sF ⟨r, 7, none⟩ 0 59 false A7 c7 l7 W2 (by decide) (by decide) (by decide) (by decide) ((hb.cell (World.block_lt_of_cell? W _ x7)).trans x7) (Kd.C_below r7 hb) P7.2.1 P7.2.2 P7.1
    | 6, _ => exact check1_calls (H := H) sG ⟨r, 6, none⟩ 0 59 false A6 c6 l6 W2 (by decide) (by decide) (by decide) (by decide) ((hb.cell (World.block_lt_of_cell? W _ x6)).trans x6) (Kd.C_below r6 hb) P6.2.1 P6.2.2 P6.1
    | 7, _ => exact check1_calls (H := H) sH ⟨r, 14, none⟩ 1 366 true A14 c14 l14 W2 (by decide) (by decide) (by decide) (by decide) ((hb.cell (World.block_lt_of_cell? W _ x14)).trans x14) (Kd.C_below r14 hb) P14.2.1 P14.2.2 P14.1
theorem row8 {w : World} {base : Nat} {v : Value} {xs : List Value} (h : w.ownsRow base 56 5 v (4 + 4) xs) : ∃ g c, v = .slice (some ⟨g, 0, none⟩) 8 c ∧ ∀ j u, xs[j]? = some u → w.cell? ((⟨g, 0, none⟩ : Addr).add j) = some u := by
  have h2 := h
  obtain ⟨_, ⟨_, h0⟩ | ⟨g, cap, cur, rfl, _⟩⟩ := h
  · omega
  · exact ⟨g, cap, rfl, fun j u hu => h2.cells (g := g) rfl j u hu⟩
theorem inf71 : ∃ i : TypeInfo, Tryz.prog.info? 56 = some i ∧ i.zero = some (.agg #[.string ⟨#[]⟩, .pointer none, .int .i64 0, .int .i64 0, .bool false]) ∧ i.size = 5 ∧ i.bytes = 48 := by
  obtain ⟨i, hi, he⟩ := Option.map_eq_some_iff.1 info56
  simp only [Prod.mk.injEq] at he
  exact ⟨i, hi, he.1, he.2.1, he.2.2⟩
theorem own_bef {w : World} {r g : Nat} (h : w.heap[g]? = some (.cells (bef r).toArray 56 (0, 0))) : w.ownsRow g 56 5 (.slice (some ⟨g, 0, none⟩) 4 4) 4 (bef r) :=
  ⟨rfl, Or.inr ⟨g, 4, (bef r).toArray, rfl, Nat.le_refl _, h, Nat.le_refl _, by unfold maxLen; omega, rfl, rfl⟩⟩
theorem news_ {w : World} {g : Nat} {cs : List Value} (h : w.heap[g]? = some (.cells cs.toArray 56 (0, 0))) (j : Nat) (u : Value) (hu : cs[j]? = some u) : w.cell? ((⟨g, 0, none⟩ : Addr).add j) = some u := by
  have e : (⟨g, 0, none⟩ : Addr).add j = ⟨g, j, none⟩ := by simp [Addr.add]; try (intro h; exact h.symm)
  rw [e]
  exact (blk_cell h j).trans (by simpa using hu)
theorem one_beh (r : Nat) : ∀ u ∈ beh r, u.oneCell' = true := by
  intro u hu
  simp only [beh, lcs, List.cons_append, List.nil_append, List.mem_cons, List.not_mem_nil, or_false] at hu
  rcases hu with h | h | h | h | h | h | h | h | h | h | h | h | h | h | h | h | h | h | h | h <;> (subst h; rfl)
set_option maxHeartbeats 8000000 in
set_option maxRecDepth 100000 in
theorem recur_Check.calls (k : Nat) (a0_0 : Int) (a0_1 : Int) (a0_2 : Int) (a0_3 : Bool) (a0_4 : Int) (a0_5 : Bool) (A0_6 : Option Addr) (c0_6 : Nat) (l0_6 : List Int) (A0_7 : Option Addr) (c0_7 : Nat) (l0_7 : List Int) (A0_8 : Option Addr) (c0_8 : Nat) (l0_8 : List Int) (A0_9 : Option Addr) (c0_9 : Nat) (l0_9 : List (S44)) (A0_10 : Option Addr) (c0_10 : Nat) (l0_10 : List Int) (A0_11 : Option Addr) (c0_11 : Nat) (l0_11 : List Int) (A0_12 : Option Addr) (c0_12 : Nat) (l0_12 : List Int) (A0_13 : Option Addr) (c0_13 : Nat) (l0_13 : List Int) (A0_14 : Option Addr) (c0_14 : Nat) (l0_14 : List Int) (a0_15 : Int) (r : Int) (w : World) (hr0_6 : Kd.C (Kd.int .i64) w A0_6 l0_6.length l0_6) (hc0_6 : l0_6.length ≤ c0_6) (hr0_7 : Kd.C (Kd.int .i64) w A0_7 l0_7.length l0_7) (hc0_7 : l0_7.length ≤ c0_7) (hr0_8 : Kd.C (Kd.int .i64) w A0_8 l0_8.length l0_8) (hc0_8 : l0_8.length ≤ c0_8) (hr0_9 : Kd.C k44 w A0_9 l0_9.length l0_9) (hc0_9 : l0_9.length ≤ c0_9) (hr0_10 : Kd.C (Kd.int .i64) w A0_10 l0_10.length l0_10) (hc0_10 : l0_10.length ≤ c0_10) (hr0_11 : Kd.C (Kd.int .i64) w A0_11 l0_11.length l0_11) (hc0_11 : l0_11.length ≤ c0_11) (hr0_12 : Kd.C (Kd.int .i64) w A0_12 l0_12.length l0_12) (hc0_12 : l0_12.length ≤ c0_12) (hr0_13 : Kd.C (Kd.int .i64) w A0_13 l0_13.length l0_13) (hc0_13 : l0_13.length ≤ c0_13) (hr0_14 : Kd.C (Kd.int .i64) w A0_14 l0_14.length l0_14) (hc0_14 : l0_14.length ≤ c0_14) (h : recur_Check.f k a0_0 a0_1 a0_2 a0_3 a0_4 a0_5 l0_6 l0_7 l0_8 l0_9 l0_10 l0_11 l0_12 l0_13 l0_14 a0_15 = some r) :
    Calls Tryz.prog 9 #[.agg #[.int .i64 a0_0, .int .i64 a0_1, .int .i64 a0_2, .bool a0_3, .int .i64 a0_4, .bool a0_5, .slice A0_6 l0_6.length c0_6, .slice A0_7 l0_7.length c0_7, .slice A0_8 l0_8.length c0_8, .slice A0_9 l0_9.length c0_9, .slice A0_10 l0_10.length c0_10, .slice A0_11 l0_11.length c0_11, .slice A0_12 l0_12.length c0_12, .slice A0_13 l0_13.length c0_13, .slice A0_14 l0_14.length c0_14, .int .i64 a0_15]] w fun e w' => e = .returned (.int .i64 r) ∧ Below w.heap.size w w' := by
  have H := h
  unfold recur_Check.f at H
  by_cases hok : okRecur a0_0 a0_1 a0_2 a0_3 a0_4 a0_5 l0_6 l0_7 l0_8 l0_9 l0_10 l0_11 l0_12 l0_13 l0_14 a0_15 = true
  · rw [if_pos hok] at H
    obtain ⟨t, ht, H⟩ := Option.bind_eq_some_iff.mp H
    cases t with
    | false => simp at H
    | true =>
      obtain rfl : 0 = r := by simpa using H
      simp only [okRecur, Bool.and_eq_true, decide_eq_true_eq] at hok
      obtain ⟨⟨⟨⟨⟨⟨q1, q2⟩, q3, q4⟩, q5, q6⟩, ⟨⟨⟨⟨⟨⟨⟨p6, p7⟩, p8⟩, p10⟩, p11⟩, p12⟩, p13⟩, p14⟩⟩, ⟨p91, p92⟩, p93⟩, pb⟩ := hok
      have d1 : decide (a0_0 < 1) = false := decide_eq_false (by omega)
      have d2 : decide (7 < a0_0) = false := decide_eq_false (by omega)
      have d3 : decide (a0_1 < 1) = false := decide_eq_false (by omega)
      have d4 : decide (1000 < a0_1) = false := decide_eq_false (by omega)
      have d5 : decide (a0_15 < 0) = false := decide_eq_false (by omega)
      have d6 : decide (6 < a0_15) = false := decide_eq_false (by omega)
      clear h H q1 q2 q3 q4 q5 q6
      have P6 := Aside0.mk (okList_wf (by decide) (by decide) (by decide) (by decide) p6)
      have P7 := Aside0.mk (okList_wf (by decide) (by decide) (by decide) (by decide) p7)
      have P8 := Aside0.mk (okList_wf (by decide) (by decide) (by decide) (by decide) p8)
      have P10 := Aside0.mk (okList_wf (by decide) (by decide) (by decide) (by decide) p10)
      have P11 := Aside0.mk (okList_wf (by decide) (by decide) (by decide) (by decide) p11)
      have P12 := Aside0.mk (okList_wf (by decide) (by decide) (by decide) (by decide) p12)
      have P13 := Aside0.mk (okList_wf (by decide) (by decide) (by decide) (by decide) p13)
      have P14 := Aside0.mk (okList_wf (by decide) (by decide) (by decide) (by decide) p14)
      have P9 := Aside0.mk (And.intro p91 (And.intro p92 p93))
      have PB := Aside0.mk pb
      have HT := Aside0.mk ht
      have HR6 := Aside0.mk hr0_6
      have HC6 := Aside0.mk hc0_6
      have HR7 := Aside0.mk hr0_7
      have HC7 := Aside0.mk hc0_7
      have HR8 := Aside0.mk hr0_8
      have HC8 := Aside0.mk hc0_8
      have HR9 := Aside0.mk hr0_9
      have HC9 := Aside0.mk hc0_9
      have HR10 := Aside0.mk hr0_10
      have HC10 := Aside0.mk hc0_10
      have HR11 := Aside0.mk hr0_11
      have HC11 := Aside0.mk hc0_11
      have HR12 := Aside0.mk hr0_12
      have HC12 := Aside0.mk hc0_12
      have HR13 := Aside0.mk hr0_13
      have HC13 := Aside0.mk hc0_13
      have HR14 := Aside0.mk hr0_14
      have HC14 := Aside0.mk hc0_14
      clear p91 p92 p93 pb ht p6 p7 p8 p10 p11 p12 p13 p14 hr0_6 hc0_6 hr0_7 hc0_7 hr0_8 hc0_8 hr0_9 hc0_9 hr0_10 hc0_10 hr0_11 hc0_11 hr0_12 hc0_12 hr0_13 hc0_13 hr0_14 hc0_14
      have hu25 := Tryz.underlying29
      have I71 := Aside0.mk inf71
      go_enter Tryz.func9, Tryz.ntmps9
      go_upto_region 1 with (fail)
      refine wp_abs (fun W => W.heap[w.heap.size]? = some (.cells #[.int .i64 a0_0, .int .i64 a0_1, .int .i64 a0_2, .bool a0_3, .int .i64 a0_4, .bool a0_5, .slice A0_6 l0_6.length c0_6, .slice A0_7 l0_7.length c0_7, .slice A0_8 l0_8.length c0_8, .slice A0_9 l0_9.length c0_9, .slice A0_10 l0_10.length c0_10, .slice A0_11 l0_11.length c0_11, .slice A0_12 l0_12.length c0_12, .slice A0_13 l0_13.length c0_13, .slice A0_14 l0_14.length c0_14, .int .i64 a0_15] 29 (0, 0)) ∧ Below w.heap.size w W ∧ w.heap.size < W.heap.size) ⟨blk_new w _, below_alloc (Below.refl _ _) _, by simp⟩ ?_
      rintro W ⟨b1, b2, b3⟩
      have c0 : W.cell? ⟨w.heap.size, 0, none⟩ = some (.int .i64 a0_0) := (blk_cell b1 0).trans rfl
      have c1 : W.cell? ⟨w.heap.size, 1, none⟩ = some (.int .i64 a0_1) := (blk_cell b1 1).trans rfl
      have c15 : W.cell? ⟨w.heap.size, 15, none⟩ = some (.int .i64 a0_15) := (blk_cell b1 15).trans rfl
      have B1 := Aside0.mk b1
      have B2 := Aside0.mk b2
      have B3 := Aside0.mk b3
      clear b1 b2 b3
      go_upto_region 4 with (fail)
      go_wp2_with (first
        | ((with_reducible refine gate_dst (N := 32) rfl ?_); refine Kd.event_run (w1 := W) (v := .agg #[.int .i64 a0_0, .int .i64 a0_1, .int .i64 a0_2, .bool a0_3, .int .i64 a0_4, .bool a0_5, .slice A0_6 l0_6.length c0_6, .slice A0_7 l0_7.length c0_7, .slice A0_8 l0_8.length c0_8, .slice A0_9 l0_9.length c0_9, .slice A0_10 l0_10.length c0_10, .slice A0_11 l0_11.length c0_11, .slice A0_12 l0_12.length c0_12, .slice A0_13 l0_13.length c0_13, .slice A0_14 l0_14.length c0_14, .int .i64 a0_15]) ?hg2 ?hr2 ?_; (case hg2 => rfl); (case hr2 => exact exec25 B1.out rfl rfl rfl))
        | (go_at_call 21; refine (recur_ends.calls k a0_0 a0_1 a0_2 a0_3 a0_4 a0_5 A0_6 c0_6 l0_6 A0_7 c0_7 l0_7 A0_8 c0_8 l0_8 A0_9 c0_9 l0_9 A0_10 c0_10 l0_10 A0_11 c0_11 l0_11 A0_12 c0_12 l0_12 A0_13 c0_13 l0_13 A0_14 c0_14 l0_14 a0_15 true W (Kd.C_below HR6.out B2.out) HC6.out (Kd.C_below HR7.out B2.out) HC7.out (Kd.C_below HR8.out B2.out) HC8.out (Kd.C_below HR9.out B2.out) HC9.out (Kd.C_below HR10.out B2.out) HC10.out (Kd.C_below HR11.out B2.out) HC11.out (Kd.C_below HR12.out B2.out) HC12.out (Kd.C_below HR13.out B2.out) HC13.out (Kd.C_below HR14.out B2.out) HC14.out HT.out).mono ?_; rintro e w1 ⟨rfl, hb1⟩; have B4 := Aside0.mk (below_then B2.out B2.out.size hb1); have K4 := Aside0.mk ((hb1.block _ B3.out).trans B1.out); clear hb1 c0 c1 c15)
        | (go_at_call 23; refine (before_calls w.heap.size _).mono ?_; rintro e w2 ⟨rfl, hb2, hk2⟩; have B5 := Aside0.mk (below_then B4.out B4.out.size hb2); have K5 := Aside0.mk ((hb2.block _ (blk_lt K4.out)).trans K4.out); have L5 := Aside0.mk hk2; have S7 := Aside0.mk (Nat.ne_of_lt (blk_lt K4.out)); clear hb2 hk2)
        | (go_at_call 24; refine (behind_calls w.heap.size _).mono ?_; rintro e w3 ⟨rfl, hb3, hk3⟩; have B6 := Aside0.mk (below_then B5.out B5.out.size hb3); have K6 := Aside0.mk ((hb3.block _ (blk_lt K5.out)).trans K5.out); have L6 := Aside0.mk ((hb3.block _ (blk_lt L5.out)).trans L5.out); have M6 := Aside0.mk hk3; clear hb3 hk3)
        | ((with_reducible refine gate_dst (N := 38) rfl ?_); (refine gate_guard (by rfl) ?_; dsimp only); refine wpList_append_own_at _ rfl (.tmp 36) (.tmp 37) 60 rfl w1.heap.size 56 I71.out.choose _ 5 48 Tryz.underlying60 I71.out.choose_spec.1 I71.out.choose_spec.2.1 I71.out.choose_spec.2.2.1 I71.out.choose_spec.2.2.2 rfl (by decide) _ 4 (bef w.heap.size) rfl (own_bef L6.out) ⟨w2.heap.size, 0, none⟩ 4 4 (beh w.heap.size) rfl rfl (fun j u hu => news_ M6.out j u hu) (one_beh _) (by unfold maxLen; omega) (by omega) (Nat.le_trans (Nat.le_of_lt (blk_lt L6.out)) (Nat.le_refl _)) ?_; intro v4 w4 hown4 hgrow4 hnil4 hat4; have hg4 : w3.grownBy w4 (some w1.heap.size) := hgrow4; obtain ⟨g4, cap4, rfl, hcell4⟩ := row8 hown4; have B7 := Aside0.mk (pw_below_grown B6.out (some w1.heap.size) B6.out.size hg4 (fun q hq => by injection hq with hq; rw [← hq]; exact B4.out.size)); have K7 := Aside0.mk (blk_grown K6.out hg4 (by intro hq; injection hq with hq; exact S7.out hq)); have X7 := Aside0.mk hcell4; clear hown4 hgrow4 hnil4 hat4 hg4 hcell4)
        | (go_at_call 22; refine (conf_lists (H := Unit) g4 w.heap.size cap4 w4 X7.out A0_13 c0_13 l0_13 ((blk_cell K7.out 13).trans rfl) (Kd.C_below HR13.out B7.out) P13.out A0_12 c0_12 l0_12 ((blk_cell K7.out 12).trans rfl) (Kd.C_below HR12.out B7.out) P12.out A0_11 c0_11 l0_11 ((blk_cell K7.out 11).trans rfl) (Kd.C_below HR11.out B7.out) P11.out A0_10 c0_10 l0_10 ((blk_cell K7.out 10).trans rfl) (Kd.C_below HR10.out B7.out) P10.out A0_8 c0_8 l0_8 ((blk_cell K7.out 8).trans rfl) (Kd.C_below HR8.out B7.out) P8.out A0_7 c0_7 l0_7 ((blk_cell K7.out 7).trans rfl) (Kd.C_below HR7.out B7.out) P7.out A0_6 c0_6 l0_6 ((blk_cell K7.out 6).trans rfl) (Kd.C_below HR6.out B7.out) P6.out A0_14 c0_14 l0_14 ((blk_cell K7.out 14).trans rfl) (Kd.C_below HR14.out B7.out) P14.out).mono ?_; rintro e w5 ⟨rfl, hb5⟩; have B8 := Aside0.mk (below_then B7.out B7.out.size hb5); have K8 := Aside0.mk ((hb5.block _ (blk_lt K7.out)).trans K7.out); clear hb5)
        | ((with_reducible refine gate_dst (N := 43) rfl ?_); (refine gate_guard (by rfl) ?_; dsimp only); refine Kd.event_run (w1 := w5) (v := .agg #[.int .i64 a0_0, .int .i64 a0_1, .int .i64 a0_2, .bool a0_3, .int .i64 a0_4, .bool a0_5, .slice A0_6 l0_6.length c0_6, .slice A0_7 l0_7.length c0_7, .slice A0_8 l0_8.length c0_8, .slice A0_9 l0_9.length c0_9, .slice A0_10 l0_10.length c0_10, .slice A0_11 l0_11.length c0_11, .slice A0_12 l0_12.length c0_12, .slice A0_13 l0_13.length c0_13, .slice A0_14 l0_14.length c0_14, .int .i64 a0_15]) ?hg2 ?hr2 ?_; (case hg2 => rfl); (case hr2 => exact exec25 K8.out rfl rfl rfl))
        | (go_at_call 25; refine (days_calls (H := Unit) #[.int .i64 a0_0, .int .i64 a0_1, .int .i64 a0_2, .bool a0_3, .int .i64 a0_4, .bool a0_5, .slice A0_6 l0_6.length c0_6, .slice A0_7 l0_7.length c0_7, .slice A0_8 l0_8.length c0_8, .slice A0_9 l0_9.length c0_9, .slice A0_10 l0_10.length c0_10, .slice A0_11 l0_11.length c0_11, .slice A0_12 l0_12.length c0_12, .slice A0_13 l0_13.length c0_13, .slice A0_14 l0_14.length c0_14, .int .i64 a0_15] a0_0 A0_9 A0_12 c0_9 c0_12 l0_9 l0_12.length w5 rfl rfl rfl rfl (Kd.C_below HR9.out B8.out) P9.out.2.2 ⟨fun x hx => List.all_eq_true.1 P9.out.1 x hx, dis47_pw P9.out.2.1⟩).mono ?_; rintro e w6 ⟨rfl, hb6⟩; have B9 := Aside0.mk (below_then B8.out B8.out.size hb6); have K9 := Aside0.mk ((hb6.block _ (blk_lt K8.out)).trans K8.out); clear hb6)
        | ((with_reducible refine gate_dst (N := 48) rfl ?_); (refine gate_guard (by rfl) ?_; dsimp only); refine Kd.event_run (w1 := w6) (v := .agg #[.int .i64 a0_0, .int .i64 a0_1, .int .i64 a0_2, .bool a0_3, .int .i64 a0_4, .bool a0_5, .slice A0_6 l0_6.length c0_6, .slice A0_7 l0_7.length c0_7, .slice A0_8 l0_8.length c0_8, .slice A0_9 l0_9.length c0_9, .slice A0_10 l0_10.length c0_10, .slice A0_11 l0_11.length c0_11, .slice A0_12 l0_12.length c0_12, .slice A0_13 l0_13.length c0_13, .slice A0_14 l0_14.length c0_14, .int .i64 a0_15]) ?hg2 ?hr2 ?_; (case hg2 => rfl); (case hr2 => exact exec25 K9.out rfl rfl rfl))
        | (go_at_call 26; refine (beside_calls #[.int .i64 a0_0, .int .i64 a0_1, .int .i64 a0_2, .bool a0_3, .int .i64 a0_4, .bool a0_5, .slice A0_6 l0_6.length c0_6, .slice A0_7 l0_7.length c0_7, .slice A0_8 l0_8.length c0_8, .slice A0_9 l0_9.length c0_9, .slice A0_10 l0_10.length c0_10, .slice A0_11 l0_11.length c0_11, .slice A0_12 l0_12.length c0_12, .slice A0_13 l0_13.length c0_13, .slice A0_14 l0_14.length c0_14, .int .i64 a0_15] a0_0 A0_6 A0_7 A0_8 A0_9 A0_10 A0_11 A0_12 A0_13 A0_14 l0_6.length l0_7.length l0_8.length l0_9.length l0_10.length l0_11.length l0_12.length l0_13.length l0_14.length c0_6 c0_7 c0_8 c0_9 c0_10 c0_11 c0_12 c0_13 c0_14 w6 rfl rfl rfl P6.out.2.1 rfl P7.out.2.1 rfl P8.out.2.1 rfl P9.out.2.2 rfl P10.out.2.1 rfl P11.out.2.1 rfl P12.out.2.1 rfl P13.out.2.1 rfl P14.out.2.1 PB.out).mono ?_; rintro e w7 ⟨rfl, hb7⟩))
      go_ret
      exact ⟨rfl, below_then B9.out B9.out.size hb7⟩
  · rw [if_neg hok] at H
    cases H
end Go.Proofs.YtfinhaghgmnegaaGreat.O
