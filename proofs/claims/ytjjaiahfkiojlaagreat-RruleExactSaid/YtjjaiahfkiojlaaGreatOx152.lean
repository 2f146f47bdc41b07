-- What the reference's Recur tells of a rule: a text of this claim's own.
import Derived.Test.YtjjaiahfkiojlaaGreatHk
import Derived.Test.YtjjaiahfkiojlaaGreatOx12
import Derived.Test.YtjjaiahfkiojlaaGreatMOx14
namespace Go.Proofs.YtjjaiahfkiojlaaGreat.O
open Go.RowKit Go.Proofs.YtjjaiahfkiojlaaGreatW.PrintWords Go.Proofs.YtjjaiahfkiojlaaGreatW.PrintLast Go.Proofs.YtjjaiahfkiojlaaGreatW.PrintMore
set_option maxRecDepth 100000
set_option linter.unusedVariables false
set_option linter.unusedSimpArgs false
/-- A weekday that may be, by the reference. -/
def refBy (fr : Int) (nw : Nat) (x : S67) : Prop := (0 ≤ x.f1 ∧ x.f1 ≤ 6) ∧ (-53 ≤ x.f0 ∧ x.f0 ≤ 53) ∧ ¬ (¬ x.f0 = 0 ∧ (fr < 6 ∨ 0 < nw))
instance (fr : Int) (nw : Nat) (x : S67) : Decidable (refBy fr nw x) := by unfold refBy; infer_instance
/-- Weekdays that may be, by the reference. -/
def DaysP (fr : Int) (nw : Nat) (l : List S67) : Prop := (∀ x ∈ l, refBy fr nw x) ∧ l.Pairwise fun y x => eq67 y x = false
instance (fr : Int) (nw : Nat) (l : List S67) : Decidable (DaysP fr nw l) := by unfold DaysP; infer_instance
theorem wsn_ (x : Int) (h0 : 0 ≤ x) (h1 : x ≤ 100000000000) : wrap64 x = x := by unfold wrap64; omega
theorem ref_bad {fr : Int} {nw : Nat} {x : S67} (h : ¬ refBy fr nw x) : (((!decide (0 ≤ x.f1 ∧ x.f1 ≤ 6)) || (!decide (-53 ≤ x.f0 ∧ x.f0 ≤ 53))) || ((x.f0 != 0) && (decide (fr < 6) || decide (0 < nw)))) = true := by
  unfold refBy at h
  by_cases h1 : 0 ≤ x.f1 ∧ x.f1 ≤ 6 <;> by_cases h2 : -53 ≤ x.f0 ∧ x.f0 ≤ 53 <;> by_cases h3 : x.f0 = 0 <;> by_cases h4 : fr < 6 <;> by_cases h5 : 0 < nw <;> simp_all <;> omega
theorem ref_good {fr : Int} {nw : Nat} {x : S67} (h : refBy fr nw x) : (((!decide (0 ≤ x.f1 ∧ x.f1 ≤ 6)) || (!decide (-53 ≤ x.f0 ∧ x.f0 ≤ 53))) || ((x.f0 != 0) && (decide (fr < 6) || decide (0 < nw)))) = false := by
  obtain ⟨h1, h2, h3⟩ := h
  by_cases h4 : x.f0 = 0 <;> by_cases h5 : fr < 6 <;> by_cases h6 : 0 < nw <;> simp_all
theorem tail_true {a0 : Int} {n10 n11 n12 : Nat} (h : (0 < n10 ∧ a0 = 5) ∨ (0 < n11 ∧ (4 ≤ a0 ∧ a0 ≤ 6)) ∨ (0 < n12 ∧ ¬ a0 = 7)) : (((decide (0 < n10) && (a0 == 5)) || (decide (0 < n11) && decide (4 ≤ a0 ∧ a0 ≤ 6))) || (decide (0 < n12) && (a0 != 7))) = true := by
  rcases h with ⟨h1, h2⟩ | ⟨h1, h2⟩ | ⟨h1, h2⟩ <;> simp [h1, h2]
theorem tail_false {a0 : Int} {n10 n11 n12 : Nat} (h : ¬ ((0 < n10 ∧ a0 = 5) ∨ (0 < n11 ∧ (4 ≤ a0 ∧ a0 ≤ 6)) ∨ (0 < n12 ∧ ¬ a0 = 7))) : (((decide (0 < n10) && (a0 == 5)) || (decide (0 < n11) && decide (4 ≤ a0 ∧ a0 ≤ 6))) || (decide (0 < n12) && (a0 != 7))) = false := by
  by_cases h1 : 0 < n10 <;> by_cases h2 : 0 < n11 <;> by_cases h3 : 0 < n12 <;> by_cases h4 : a0 = 5 <;> by_cases h5 : 4 ≤ a0 ∧ a0 ≤ 6 <;> by_cases h6 : a0 = 7 <;> simp_all
theorem len_zero (n : Nat) : (((n : Int)) == 0) = decide (n = 0) := by
  by_cases h : n = 0 <;> simp [h]
theorem sum_ {n6 n7 n8 n9 n10 n11 n12 n13 n14 : Nat} (h : ¬ (60 < n6 ∨ 60 < n7 ∨ 24 < n8 ∨ 12 < n13 ∨ 62 < n10 ∨ 732 < n11 ∨ 106 < n12 ∨ 732 < n14 ∨ 749 < n9)) : decide ((0 : Int) < wrap64 (wrap64 (wrap64 (wrap64 (wrap64 (wrap64 (wrap64 ((n6 : Int) + n7) + n8) + n9) + n10) + n11) + n12) + n13)) = decide (0 < n6 + n7 + n8 + n9 + n10 + n11 + n12 + n13) := by
  simp (disch := omega) only [wsn_]
  exact decide_eq_decide.2 (by omega)
/-- What Recur of the reference tells, in its own order. -/
def solsticeref21_Recur.f (k : Nat) (a0_0 : Int) (a0_1 : Int) (a0_2 : Int) (a0_3 : Bool) (a0_4 : Int) (a0_5 : Bool) (l0_6 : List Int) (l0_7 : List Int) (l0_8 : List Int) (l0_9 : List (S67)) (l0_10 : List Int) (l0_11 : List Int) (l0_12 : List Int) (l0_13 : List Int) (l0_14 : List Int) (a0_15 : Int) : Option Bool :=
  if 60 < l0_6.length ∨ 60 < l0_7.length ∨ 24 < l0_8.length ∨ 12 < l0_13.length ∨ 62 < l0_10.length ∨ 732 < l0_11.length ∨ 106 < l0_12.length ∨ 732 < l0_14.length ∨ 749 < l0_9.length then some false else if ¬ (1 ≤ a0_0 ∧ a0_0 ≤ 7) ∨ ¬ (1 ≤ a0_1 ∧ a0_1 ≤ 1000) ∨ ¬ (0 ≤ a0_2 ∧ a0_2 ≤ 100000) ∨ (0 < a0_2 ∧ a0_3 = true) ∨ (a0_5 = true ∧ a0_3 = false) ∨ (a0_3 = false ∧ ¬ a0_4 = 0) ∨ ¬ (0 ≤ a0_15 ∧ a0_15 ≤ 6) then some false else (solsticeref16_Years.f k a0_4).bind fun y => if a0_3 = true ∧ y.2.2.2 = false then some false else (solsticeref21_list.f k l0_6 0 59 false).bind fun b6 => (solsticeref21_list.f k l0_7 0 59 false).bind fun b7 => (solsticeref21_list.f k l0_8 0 23 false).bind fun b8 => (solsticeref21_list.f k l0_13 1 12 false).bind fun b13 => (solsticeref21_list.f k l0_10 1 31 true).bind fun b10 => (solsticeref21_list.f k l0_11 1 366 true).bind fun b11 => (solsticeref21_list.f k l0_12 1 53 true).bind fun b12 => (solsticeref21_list.f k l0_14 1 366 true).bind fun b14 => if (b6 = false ∨ b7 = false ∨ b8 = false ∨ b13 = false ∨ b10 = false ∨ b11 = false ∨ b12 = false ∨ b14 = false) then some false else if ¬ DaysP a0_0 l0_12.length l0_9 then some false else if (0 < l0_10.length ∧ a0_0 = 5) ∨ (0 < l0_11.length ∧ (4 ≤ a0_0 ∧ a0_0 ≤ 6)) ∨ (0 < l0_12.length ∧ ¬ a0_0 = 7) then some false else some (decide (l0_14.length = 0) || decide (0 < l0_6.length + l0_7.length + l0_8.length + l0_9.length + l0_10.length + l0_11.length + l0_12.length + l0_13.length))
/-- What is kept of the world while Recur goes on. -/
def G15 (w : World) (g : Nat) (cs : Array Value) (w' : World) : Prop := w'.heap[g]? = some (.cells cs 25 (0, 0)) ∧ Below g w w'
theorem G15.drewN {w : World} {g : Nat} {cs : Array Value} {w' : World} (h : G15 w g cs w') (n : Nat) : G15 w g cs (w'.drewN n) := ⟨blk_drewN h.1 n, pw_below_drewN h.2 n⟩
theorem below_then' {B : Nat} {w W W2 : World} (h : Below B w W) (k : Below W.heap.size W W2) (hB : B ≤ W.heap.size) : Below B w W2 := below_then h hB k
theorem G15.le {w : World} {g : Nat} {cs : Array Value} {w' : World} (h : G15 w g cs w') : g ≤ w'.heap.size := Nat.le_of_lt (blk_lt h.1)
theorem below_allocG {w : World} {g : Nat} {cs : Array Value} {w' : World} (h : G15 w g cs w') {o : Obj} : Below g w (w'.alloc o) := h.2.alloc h.le o
theorem G15.far {w : World} {g : Nat} {cs : Array Value} {w' : World} (h : G15 w g cs w') {n j : Nat} (hn : g ≠ n) (hl : g ≤ n) (u : Value) : G15 w g cs (w'.setCell ⟨n, j, none⟩ u) := ⟨blk_far h.1 hn u, h.2.setCell hl u⟩
theorem G15.cb {w : World} {g : Nat} {cs : Array Value} {w' : World} (h : G15 w g cs w') (e : w.heap.size = g) : Below w.heap.size w w' := by rw [e]; exact h.2
/-- 'return false'. -/
theorem exit15 {R : Ending → World → Prop} {a : Act} {w : World} {id : Nat} {o : Oper} {Q : Exit → Act → World → Prop} (D : a.defers = []) (S : a.tmps.size = 287) (h : R (.returned (.bool false)) w) (ho : o.op = .assign (.const (.bool false)) := by rfl) (hd : o.dst = some 2 := by rfl) (hg : o.guard = none := by rfl)
    (hQ : ∀ a' w', bodyPost Tryz.prog Tryz.f13 R .ret a' w' → Q .ret a' w' := by exact fun _ _ h => h) : Code.wp Tryz.prog ((Code.region id (List.toArray [o]) false).seq Code.ret) Q a w := by
  refine wp_seq (wp_region_lit (st_ hd (wanted_none hg) (run_assign ho) ?_))
  show Code.wp Tryz.prog Code.ret Q (a.put (some 2) (.bool false)) w
  exact wp_ret (hQ _ _ (ret15 D (eval_same (by rw [S]; decide)) h))

set_option maxHeartbeats 16000000 in
set_option maxRecDepth 100000 in
theorem solsticeref21_Recur.calls (k : Nat) (a0_0 : Int) (a0_1 : Int) (a0_2 : Int) (a0_3 : Bool) (a0_4 : Int) (a0_5 : Bool) (A0_6 : Option Addr) (c0_6 : Nat) (l0_6 : List Int) (A0_7 : Option Addr) (c0_7 : Nat) (l0_7 : List Int) (A0_8 : Option Addr) (c0_8 : Nat) (l0_8 : List Int) (A0_9 : Option Addr) (c0_9 : Nat) (l0_9 : List (S67)) (A0_10 : Option Addr) (c0_10 : Nat) (l0_10 : List Int) (A0_11 : Option Addr) (c0_11 : Nat) (l0_11 : List Int) (A0_12 : Option Addr) (c0_12 : Nat) (l0_12 : List Int) (A0_13 : Option Addr) (c0_13 : Nat) (l0_13 : List Int) (A0_14 : Option Addr) (c0_14 : Nat) (l0_14 : List Int) (a0_15 : Int) (r : Bool) (w : World) (hr0_6 : Kd.C (Kd.int .i64) w A0_6 l0_6.length l0_6) (hc0_6 : l0_6.length ≤ c0_6) (hr0_7 : Kd.C (Kd.int .i64) w A0_7 l0_7.length l0_7) (hc0_7 : l0_7.length ≤ c0_7) (hr0_8 : Kd.C (Kd.int .i64) w A0_8 l0_8.length l0_8) (hc0_8 : l0_8.length ≤ c0_8) (hr0_9 : Kd.C k67 w A0_9 l0_9.length l0_9) (hc0_9 : l0_9.length ≤ c0_9) (hr0_10 : Kd.C (Kd.int .i64) w A0_10 l0_10.length l0_10) (hc0_10 : l0_10.length ≤ c0_10) (hr0_11 : Kd.C (Kd.int .i64) w A0_11 l0_11.length l0_11) (hc0_11 : l0_11.length ≤ c0_11) (hr0_12 : Kd.C (Kd.int .i64) w A0_12 l0_12.length l0_12) (hc0_12 : l0_12.length ≤ c0_12) (hr0_13 : Kd.C (Kd.int .i64) w A0_13 l0_13.length l0_13) (hc0_13 : l0_13.length ≤ c0_13) (hr0_14 : Kd.C (Kd.int .i64) w A0_14 l0_14.length l0_14) (hc0_14 : l0_14.length ≤ c0_14) (h : solsticeref21_Recur.f k a0_0 a0_1 a0_2 a0_3 a0_4 a0_5 l0_6 l0_7 l0_8 l0_9 l0_10 l0_11 l0_12 l0_13 l0_14 a0_15 = some r) :
    Calls Tryz.prog 13 #[.agg #[.int .i64 a0_0, .int .i64 a0_1, .int .i64 a0_2, .bool a0_3, .int .i64 a0_4, .bool a0_5, .slice A0_6 l0_6.length c0_6, .slice A0_7 l0_7.length c0_7, .slice A0_8 l0_8.length c0_8, .slice A0_9 l0_9.length c0_9, .slice A0_10 l0_10.length c0_10, .slice A0_11 l0_11.length c0_11, .slice A0_12 l0_12.length c0_12, .slice A0_13 l0_13.length c0_13, .slice A0_14 l0_14.length c0_14, .int .i64 a0_15]] w fun e w' => e = .returned (.bool r) ∧ Below w.heap.size w w' := by
  have H := Aside0.mk h
  clear h
  have HR6 := Aside0.mk hr0_6
  have HC6 := Aside0.mk hc0_6
  have HR7 := Aside0.mk hr0_7
  have HC7 := Aside0.mk hc0_7
  have HR8 := Aside0.mk hr0_8
  have HC8 := Aside0.mk hc0_8
  have HR9 := Aside0.mk hr0_9
  have HC9 := Aside0.mk hc0_9
  have HR10 := Aside0.mk hr0_10
  have HC10 := Aside0.mk hc0_10
  have HR11 := Aside0.mk hr0_11
  have HC11 := Aside0.mk hc0_11
  have HR12 := Aside0.mk hr0_12
  have HC12 := Aside0.mk hc0_12
  have HR13 := Aside0.mk hr0_13
  have HC13 := Aside0.mk hc0_13
  have HR14 := Aside0.mk hr0_14
  have HC14 := Aside0.mk hc0_14
  clear hr0_6 hc0_6 hr0_7 hc0_7 hr0_8 hc0_8 hr0_9 hc0_9 hr0_10 hc0_10 hr0_11 hc0_11 hr0_12 hc0_12 hr0_13 hc0_13 hr0_14 hc0_14
  go_enter Tryz.func13, Tryz.ntmps13
  refine act_abs (fun a => a.eval (.tmp 0) = .agg #[.int .i64 a0_0, .int .i64 a0_1, .int .i64 a0_2, .bool a0_3, .int .i64 a0_4, .bool a0_5, .slice A0_6 l0_6.length c0_6, .slice A0_7 l0_7.length c0_7, .slice A0_8 l0_8.length c0_8, .slice A0_9 l0_9.length c0_9, .slice A0_10 l0_10.length c0_10, .slice A0_11 l0_11.length c0_11, .slice A0_12 l0_12.length c0_12, .slice A0_13 l0_13.length c0_13, .slice A0_14 l0_14.length c0_14, .int .i64 a0_15] ∧ a.tmps.size = 287 ∧ a.defers = []) ⟨rfl, rfl, rfl⟩ ?_
  rintro a ⟨h0, S, D⟩
  refine wp_seq (wp_region_lit ?_)
  refine st_ rfl (wanted_none rfl) (run_box rfl h0) (st_ rfl (wanted_none rfl) (run_assign rfl) ?_)
  show Code.wp Tryz.prog _ _ ((a.put (some 1) (.pointer (some ⟨w.heap.size, 0, none⟩))).put (some 2) (.bool false)) (w.alloc (.cells #[.int .i64 a0_0, .int .i64 a0_1, .int .i64 a0_2, .bool a0_3, .int .i64 a0_4, .bool a0_5, .slice A0_6 l0_6.length c0_6, .slice A0_7 l0_7.length c0_7, .slice A0_8 l0_8.length c0_8, .slice A0_9 l0_9.length c0_9, .slice A0_10 l0_10.length c0_10, .slice A0_11 l0_11.length c0_11, .slice A0_12 l0_12.length c0_12, .slice A0_13 l0_13.length c0_13, .slice A0_14 l0_14.length c0_14, .int .i64 a0_15] 25 (0, 0)))
  have S1 : ((a.put (some 1) (.pointer (some ⟨w.heap.size, 0, none⟩))).put (some 2) (.bool false)).tmps.size = 287 := size_put.trans (size_put.trans S)
  have p1 : ((a.put (some 1) (.pointer (some ⟨w.heap.size, 0, none⟩))).put (some 2) (.bool false)).eval (.tmp 1) = .pointer (some ⟨w.heap.size, 0, none⟩) := (eval_ne (by decide)).trans (eval_same (by rw [S]; decide))
  have z1 : ((a.put (some 1) (.pointer (some ⟨w.heap.size, 0, none⟩))).put (some 2) (.bool false)).eval (.tmp 2) = .bool false := eval_same (by rw [size_put, S]; decide)
  have D1 : ((a.put (some 1) (.pointer (some ⟨w.heap.size, 0, none⟩))).put (some 2) (.bool false)).defers = [] := D
  have K1 := Aside0.mk (blk_new w (.cells #[.int .i64 a0_0, .int .i64 a0_1, .int .i64 a0_2, .bool a0_3, .int .i64 a0_4, .bool a0_5, .slice A0_6 l0_6.length c0_6, .slice A0_7 l0_7.length c0_7, .slice A0_8 l0_8.length c0_8, .slice A0_9 l0_9.length c0_9, .slice A0_10 l0_10.length c0_10, .slice A0_11 l0_11.length c0_11, .slice A0_12 l0_12.length c0_12, .slice A0_13 l0_13.length c0_13, .slice A0_14 l0_14.length c0_14, .int .i64 a0_15] 25 (0, 0)))
  have B1 := Aside0.mk (below_alloc (Below.refl w.heap.size w) (.cells #[.int .i64 a0_0, .int .i64 a0_1, .int .i64 a0_2, .bool a0_3, .int .i64 a0_4, .bool a0_5, .slice A0_6 l0_6.length c0_6, .slice A0_7 l0_7.length c0_7, .slice A0_8 l0_8.length c0_8, .slice A0_9 l0_9.length c0_9, .slice A0_10 l0_10.length c0_10, .slice A0_11 l0_11.length c0_11, .slice A0_12 l0_12.length c0_12, .slice A0_13 l0_13.length c0_13, .slice A0_14 l0_14.length c0_14, .int .i64 a0_15] 25 (0, 0)))
  have S0 := Aside0.mk (show w.heap.size < (w.alloc (.cells #[.int .i64 a0_0, .int .i64 a0_1, .int .i64 a0_2, .bool a0_3, .int .i64 a0_4, .bool a0_5, .slice A0_6 l0_6.length c0_6, .slice A0_7 l0_7.length c0_7, .slice A0_8 l0_8.length c0_8, .slice A0_9 l0_9.length c0_9, .slice A0_10 l0_10.length c0_10, .slice A0_11 l0_11.length c0_11, .slice A0_12 l0_12.length c0_12, .slice A0_13 l0_13.length c0_13, .slice A0_14 l0_14.length c0_14, .int .i64 a0_15] 25 (0, 0))).heap.size by simp)
  generalize (a.put (some 1) (.pointer (some ⟨w.heap.size, 0, none⟩))).put (some 2) (.bool false) = a0 at *
  generalize w.alloc (.cells #[.int .i64 a0_0, .int .i64 a0_1, .int .i64 a0_2, .bool a0_3, .int .i64 a0_4, .bool a0_5, .slice A0_6 l0_6.length c0_6, .slice A0_7 l0_7.length c0_7, .slice A0_8 l0_8.length c0_8, .slice A0_9 l0_9.length c0_9, .slice A0_10 l0_10.length c0_10, .slice A0_11 l0_11.length c0_11, .slice A0_12 l0_12.length c0_12, .slice A0_13 l0_13.length c0_13, .slice A0_14 l0_14.length c0_14, .int .i64 a0_15] 25 (0, 0)) = W at *
  obtain ⟨cs, hcs⟩ : ∃ cs : Array Value, cs = #[.int .i64 a0_0, .int .i64 a0_1, .int .i64 a0_2, .bool a0_3, .int .i64 a0_4, .bool a0_5, .slice A0_6 l0_6.length c0_6, .slice A0_7 l0_7.length c0_7, .slice A0_8 l0_8.length c0_8, .slice A0_9 l0_9.length c0_9, .slice A0_10 l0_10.length c0_10, .slice A0_11 l0_11.length c0_11, .slice A0_12 l0_12.length c0_12, .slice A0_13 l0_13.length c0_13, .slice A0_14 l0_14.length c0_14, .int .i64 a0_15] := ⟨_, rfl⟩
  rw [← hcs] at K1
  have C0 : cs[0]? = some (.int .i64 a0_0) := by rw [hcs]; rfl
  have C1 : cs[1]? = some (.int .i64 a0_1) := by rw [hcs]; rfl
  have C2 : cs[2]? = some (.int .i64 a0_2) := by rw [hcs]; rfl
  have C3 : cs[3]? = some (.bool a0_3) := by rw [hcs]; rfl
  have C4 : cs[4]? = some (.int .i64 a0_4) := by rw [hcs]; rfl
  have C5 : cs[5]? = some (.bool a0_5) := by rw [hcs]; rfl
  have C6 : cs[6]? = some (.slice A0_6 l0_6.length c0_6) := by rw [hcs]; rfl
  have C7 : cs[7]? = some (.slice A0_7 l0_7.length c0_7) := by rw [hcs]; rfl
  have C8 : cs[8]? = some (.slice A0_8 l0_8.length c0_8) := by rw [hcs]; rfl
  have C9 : cs[9]? = some (.slice A0_9 l0_9.length c0_9) := by rw [hcs]; rfl
  have C10 : cs[10]? = some (.slice A0_10 l0_10.length c0_10) := by rw [hcs]; rfl
  have C11 : cs[11]? = some (.slice A0_11 l0_11.length c0_11) := by rw [hcs]; rfl
  have C12 : cs[12]? = some (.slice A0_12 l0_12.length c0_12) := by rw [hcs]; rfl
  have C13 : cs[13]? = some (.slice A0_13 l0_13.length c0_13) := by rw [hcs]; rfl
  have C14 : cs[14]? = some (.slice A0_14 l0_14.length c0_14) := by rw [hcs]; rfl
  have C15 : cs[15]? = some (.int .i64 a0_15) := by rw [hcs]; rfl
  clear hcs
  have hg : w.heap.size = w.heap.size := rfl
  generalize hge : w.heap.size = g at *
  refine wp_seq (wp_seq (wp_region_lit ?_))
  refine first_len S1 p1 (by decide) ((blk_cell K1.out 6).trans C6) (Or.inl rfl) rfl rfl rfl rfl rfl rfl rfl rfl rfl rfl rfl rfl (by decide) ?_
  intro a1 F0 v1
  have F1 := F0.m (lo' := 8)
  refine link_len (F1.sz.trans S1) (by decide) ((F1.e 1).trans p1) v1 (by decide) ((blk_cell K1.out 7).trans C7) (Or.inl rfl) rfl rfl rfl rfl rfl rfl rfl rfl rfl rfl rfl rfl rfl rfl rfl rfl rfl rfl rfl (by decide) ?_
  intro a2 G2 v2
  have F2 := F1.trans (G2.m (lo' := 8))
  refine link_len (F2.sz.trans S1) (by decide) ((F2.e 1).trans p1) v2 (by decide) ((blk_cell K1.out 8).trans C8) (Or.inl rfl) rfl rfl rfl rfl rfl rfl rfl rfl rfl rfl rfl rfl rfl rfl rfl rfl rfl rfl rfl (by decide) ?_
  intro a3 G3 v3
  have F3 := F2.trans (G3.m (lo' := 8))
  refine link_len (F3.sz.trans S1) (by decide) ((F3.e 1).trans p1) v3 (by decide) ((blk_cell K1.out 13).trans C13) (Or.inl rfl) rfl rfl rfl rfl rfl rfl rfl rfl rfl rfl rfl rfl rfl rfl rfl rfl rfl rfl rfl (by decide) ?_
  intro a4 G4 v4
  have F4 := F3.trans (G4.m (lo' := 8))
  refine link_len (F4.sz.trans S1) (by decide) ((F4.e 1).trans p1) v4 (by decide) ((blk_cell K1.out 10).trans C10) (Or.inl rfl) rfl rfl rfl rfl rfl rfl rfl rfl rfl rfl rfl rfl rfl rfl rfl rfl rfl rfl rfl (by decide) ?_
  intro a5 G5 v5
  have F5 := F4.trans (G5.m (lo' := 8))
  refine link_len (F5.sz.trans S1) (by decide) ((F5.e 1).trans p1) v5 (by decide) ((blk_cell K1.out 11).trans C11) (Or.inl rfl) rfl rfl rfl rfl rfl rfl rfl rfl rfl rfl rfl rfl rfl rfl rfl rfl rfl rfl rfl (by decide) ?_
  intro a6 G6 v6
  have F6 := F5.trans (G6.m (lo' := 8))
  refine link_len (F6.sz.trans S1) (by decide) ((F6.e 1).trans p1) v6 (by decide) ((blk_cell K1.out 12).trans C12) (Or.inl rfl) rfl rfl rfl rfl rfl rfl rfl rfl rfl rfl rfl rfl rfl rfl rfl rfl rfl rfl rfl (by decide) ?_
  intro a7 G7 v7
  have F7 := F6.trans (G7.m (lo' := 8))
  refine link_len (F7.sz.trans S1) (by decide) ((F7.e 1).trans p1) v7 (by decide) ((blk_cell K1.out 14).trans C14) (Or.inl rfl) rfl rfl rfl rfl rfl rfl rfl rfl rfl rfl rfl rfl rfl rfl rfl rfl rfl rfl rfl (by decide) ?_
  intro a8 G8 v8
  have F8 := F7.trans (G8.m (lo' := 8))
  refine link_len (F8.sz.trans S1) (by decide) ((F8.e 1).trans p1) v8 (by decide) ((blk_cell K1.out 9).trans C9) (Or.inr rfl) rfl rfl rfl rfl rfl rfl rfl rfl rfl rfl rfl rfl rfl rfl rfl rfl rfl rfl rfl (by decide) ?_
  intro a9 G9 v9
  have F9 := F8.trans (G9.m (lo' := 8))
  have D2 : a9.defers = [] := F9.df.trans D1
  have S2 : a9.tmps.size = 287 := F9.sz.trans S1
  have p2 : a9.eval (.tmp 1) = .pointer (some ⟨g, 0, none⟩) := (F9.e 1).trans p1
  have t2 : a9.eval (.tmp 2) = .bool false := (F9.e 2).trans z1
  show Code.wp Tryz.prog _ _ a9 W
  have hG : G15 w g cs W := ⟨K1.out, B1.out⟩
  by_cases hbig : 60 < l0_6.length ∨ 60 < l0_7.length ∨ 24 < l0_8.length ∨ 12 < l0_13.length ∨ 62 < l0_10.length ∨ 732 < l0_11.length ∨ 106 < l0_12.length ∨ 732 < l0_14.length ∨ 749 < l0_9.length
  · refine wp_cond_true (v9.trans (congrArg Value.bool (by simp only [Bool.or_eq_true, decide_eq_true_eq]; omega))) ?_
    have h := H.out
    unfold solsticeref21_Recur.f at h
    rw [if_pos hbig] at h
    obtain rfl : false = r := by simpa using h
    exact exit15 (R := fun e w' => e = .returned (.bool false) ∧ Below g w w') D2 S2 ⟨rfl, B1.out⟩
  refine wp_cond_false (v9.trans (congrArg Value.bool (by simp only [Bool.or_eq_false_iff, decide_eq_false_iff_not]; omega))) (wp_skip ?_)
  have h := H.out
  unfold solsticeref21_Recur.f at h
  rw [if_neg hbig] at h
  have H2 := Aside0.mk h
  have HB := Aside0.mk hbig
  clear H h hbig F0 F1 F2 F3 F4 F5 F6 F7 F8 G2 G3 G4 G5 G6 G7 G8 G9 v1 v2 v3 v4 v5 v6 v7 v8 v9 F9
  clear D1 S1 p1
  generalize a9 = b0 at *
  show Code.wp Tryz.prog _ _ b0 W
  refine wp_seq (wp_seq (wp_region_lit ?_))
  refine r_in S2 t2 ((blk_cell hG.1 0).trans C0) (run_field (by decide) rfl p2) rfl rfl rfl rfl rfl rfl rfl (wn_none rfl) (wn_none rfl) (wn_none rfl) (wn_none rfl) (by decide) ?_
  intro b1 n1 F0 v1
  have F1 := F0.m (lo' := 8)
  have hG1 := hG.drewN n1
  have SS := F1.sz.trans S2
  have pp := (F1.e 1).trans p2
  have dd := (F1.e 2).trans t2
  have gg := hG1
  refine link_or (j := 4) (c := !decide (1 ≤ a0_1 ∧ a0_1 ≤ 1000)) (Do := 2) (so := false) 4 (G15 w g cs) gg rfl SS dd v1 rfl rfl rfl rfl (wn_none rfl) (wn_none rfl) rfl (by kernel_rfl) (by decide) (fun _ a1 Fa hD k2 => r_in (Fa.sz.trans SS) hD ((blk_cell gg.1 1).trans C1) (run_field (by decide) rfl ((Fa.e 1).trans pp)) rfl rfl rfl rfl rfl rfl rfl (wn_at rfl rfl) (wn_at rfl rfl) (wn_at rfl rfl) (wn_at rfl rfl) (by decide) (fun a2 n E2 v2 => k2 a2 _ (Fa.trans E2.m) (gg.drewN n) ((E2.e _).trans hD) v2)) ?_
  clear SS pp gg dd
  intro b2 w2 E2 hG2 v2
  have F2 := F1.trans (E2.m (lo' := 8))
  have SS := F2.sz.trans S2
  have pp := (F2.e 1).trans p2
  have dd := (F2.e 2).trans t2
  have gg := hG2
  refine link_or (j := 10) (c := !decide (0 ≤ a0_2 ∧ a0_2 ≤ 100000)) (Do := 2) (so := false) 4 (G15 w g cs) gg rfl SS dd v2 rfl rfl rfl rfl (wn_none rfl) (wn_none rfl) rfl (by kernel_rfl) (by decide) (fun _ a1 Fa hD k2 => r_in (Fa.sz.trans SS) hD ((blk_cell gg.1 2).trans C2) (run_field (by decide) rfl ((Fa.e 1).trans pp)) rfl rfl rfl rfl rfl rfl rfl (wn_at rfl rfl) (wn_at rfl rfl) (wn_at rfl rfl) (wn_at rfl rfl) (by decide) (fun a2 n E2 v2 => k2 a2 _ (Fa.trans E2.m) (gg.drewN n) ((E2.e _).trans hD) v2)) ?_
  clear SS pp gg dd
  intro b3 w3 E3 hG3 v3
  have F3 := F2.trans (E3.m (lo' := 8))
  have SS := F3.sz.trans S2
  have pp := (F3.e 1).trans p2
  have dd := (F3.e 2).trans t2
  have gg := hG3
  refine link_or (j := 16) (c := decide (0 < a0_2) && a0_3) (Do := 2) (so := false) 7 (G15 w g cs) gg rfl SS dd v3 rfl rfl rfl rfl (wn_none rfl) (wn_none rfl) rfl (by kernel_rfl) (by decide) (fun _ a1 Fa hD k2 => r_num (b := decide (0 < a0_2)) (Fa.sz.trans SS) hD ((blk_cell gg.1 2).trans C2) (run_field (by decide) rfl ((Fa.e 1).trans pp)) rfl (fun ρ hc hx => run_gtr rfl hx (hc _)) rfl rfl rfl (wn_at rfl rfl) (wn_at rfl rfl) (wn_at rfl rfl) (by decide) (fun a2 E2 v2 => link_and (j := 20) (c := a0_3) 2 _ gg rfl (E2.sz.trans (Fa.sz.trans SS)) ((E2.e _).trans hD) v2 rfl rfl rfl rfl (wn_at rfl rfl) (wn_at rfl rfl) rfl (by kernel_rfl) (by decide) (fun _ a3 F3 hD3 k3 => r_bool (F3.sz.trans (E2.sz.trans (Fa.sz.trans SS))) ((F3.e 1).trans ((E2.e 1).trans ((Fa.e 1).trans pp))) hD3 (by decide) ((blk_cell gg.1 3).trans C3) rfl rfl rfl rfl (wn_at rfl rfl) (wn_at rfl rfl) (by decide) (fun a4 F4 v4 => k3 a4 _ (F3.trans F4.m) gg ((F4.e _).trans hD3) v4)) (fun a5 w5 F5 hG5 v5 => k2 a5 w5 (Fa.trans (E2.m.trans F5.m)) hG5 ((F5.e _).trans ((E2.e _).trans hD)) v5))) ?_
  clear SS pp gg dd
  intro b4 w4 E4 hG4 v4
  have F4 := F3.trans (E4.m (lo' := 8))
  have SS := F4.sz.trans S2
  have pp := (F4.e 1).trans p2
  have dd := (F4.e 2).trans t2
  have gg := hG4
  refine link_or (j := 25) (c := a0_5 && !a0_3) (Do := 2) (so := false) 7 (G15 w g cs) gg rfl SS dd v4 rfl rfl rfl rfl (wn_none rfl) (wn_none rfl) rfl (by kernel_rfl) (by decide) (fun _ a1 Fa hD k2 => r_bool (Fa.sz.trans SS) ((Fa.e 1).trans pp) hD (by decide) ((blk_cell gg.1 5).trans C5) rfl rfl rfl rfl (wn_at rfl rfl) (wn_at rfl rfl) (by decide) (fun a2 E2 v2 => link_and (j := 28) (c := !a0_3) 3 _ gg rfl (E2.sz.trans (Fa.sz.trans SS)) ((E2.e _).trans hD) v2 rfl rfl rfl rfl (wn_at rfl rfl) (wn_at rfl rfl) rfl (by kernel_rfl) (by decide) (fun _ a3 F3 hD3 k3 => r_bool (F3.sz.trans (E2.sz.trans (Fa.sz.trans SS))) ((F3.e 1).trans ((E2.e 1).trans ((Fa.e 1).trans pp))) hD3 (by decide) ((blk_cell gg.1 3).trans C3) rfl rfl rfl rfl (wn_at rfl rfl) (wn_at rfl rfl) (by decide) (fun a4 F4 v4 => r_not (F4.sz.trans (F3.sz.trans (E2.sz.trans (Fa.sz.trans SS)))) ((F4.e _).trans hD3) v4 rfl rfl (wn_at rfl rfl) (by decide) (fun a5 F5 v5 => k3 a5 _ (F3.trans (F4.m.trans F5.m)) gg ((F5.e _).trans ((F4.e _).trans hD3)) v5))) (fun a5 w5 F5 hG5 v5 => k2 a5 w5 (Fa.trans (E2.m.trans F5.m)) hG5 ((F5.e _).trans ((E2.e _).trans hD)) v5))) ?_
  clear SS pp gg dd
  intro b5 w5 E5 hG5 v5
  have F5 := F4.trans (E5.m (lo' := 8))
  have SS := F5.sz.trans S2
  have pp := (F5.e 1).trans p2
  have dd := (F5.e 2).trans t2
  have gg := hG5
  refine link_or (j := 34) (c := !a0_3 && (a0_4 != 0)) (Do := 2) (so := false) 8 (G15 w g cs) gg rfl SS dd v5 rfl rfl rfl rfl (wn_none rfl) (wn_none rfl) rfl (by kernel_rfl) (by decide) (fun _ a1 Fa hD k2 => r_bool (Fa.sz.trans SS) ((Fa.e 1).trans pp) hD (by decide) ((blk_cell gg.1 3).trans C3) rfl rfl rfl rfl (wn_at rfl rfl) (wn_at rfl rfl) (by decide) (fun a2' E2' v2' => r_not (E2'.sz.trans (Fa.sz.trans SS)) ((E2'.e _).trans hD) v2' rfl rfl (wn_at rfl rfl) (by decide) (fun a2 E2b v2 => have E2 := E2'.trans E2b.m; link_and (j := 38) (c := a0_4 != 0) 3 _ gg rfl (E2.sz.trans (Fa.sz.trans SS)) ((E2.e _).trans hD) v2 rfl rfl rfl rfl (wn_at rfl rfl) (wn_at rfl rfl) rfl (by kernel_rfl) (by decide) (fun _ a3 F3 hD3 k3 => r_num (b := a0_4 != 0) (F3.sz.trans (E2.sz.trans (Fa.sz.trans SS))) hD3 ((blk_cell gg.1 4).trans C4) (run_field (by decide) rfl ((F3.e 1).trans ((E2.e 1).trans ((Fa.e 1).trans pp)))) rfl (fun ρ hc hx => run_neq rfl hx (hc _)) rfl rfl rfl (wn_at rfl rfl) (wn_at rfl rfl) (wn_at rfl rfl) (by decide) (fun a4 F4 v4 => k3 a4 _ (F3.trans F4.m) gg ((F4.e _).trans hD3) v4)) (fun a5 w5 F5 hG5 v5 => k2 a5 w5 (Fa.trans (E2.m.trans F5.m)) hG5 ((F5.e _).trans ((E2.e _).trans hD)) v5)))) ?_
  clear SS pp gg dd
  intro b6 w6 E6 hG6 v6
  have F6 := F5.trans (E6.m (lo' := 8))
  have SS := F6.sz.trans S2
  have pp := (F6.e 1).trans p2
  have dd := (F6.e 2).trans t2
  have gg := hG6
  refine link_or (j := 44) (c := !decide (0 ≤ a0_15 ∧ a0_15 ≤ 6)) (Do := 2) (so := false) 4 (G15 w g cs) gg rfl SS dd v6 rfl rfl rfl rfl (wn_none rfl) (wn_none rfl) rfl (by kernel_rfl) (by decide) (fun _ a1 Fa hD k2 => r_in (Fa.sz.trans SS) hD ((blk_cell gg.1 15).trans C15) (run_field (by decide) rfl ((Fa.e 1).trans pp)) rfl rfl rfl rfl rfl rfl rfl (wn_at rfl rfl) (wn_at rfl rfl) (wn_at rfl rfl) (wn_at rfl rfl) (by decide) (fun a2 n E2 v2 => k2 a2 _ (Fa.trans E2.m) (gg.drewN n) ((E2.e _).trans hD) v2)) ?_
  clear SS pp gg dd
  intro b7 w7 E7 hG7 v7
  have F7 := F6.trans (E7.m (lo' := 8))
  have D3 : b7.defers = [] := F7.df.trans D2
  have S3 : b7.tmps.size = 287 := F7.sz.trans S2
  have p3 : b7.eval (.tmp 1) = .pointer (some ⟨g, 0, none⟩) := (F7.e 1).trans p2
  have t3 : b7.eval (.tmp 2) = .bool false := (F7.e 2).trans t2
  show Code.wp Tryz.prog _ _ b7 w7
  have h := H2.out
  by_cases hhead : ¬ (1 ≤ a0_0 ∧ a0_0 ≤ 7) ∨ ¬ (1 ≤ a0_1 ∧ a0_1 ≤ 1000) ∨ ¬ (0 ≤ a0_2 ∧ a0_2 ≤ 100000) ∨ (0 < a0_2 ∧ a0_3 = true) ∨ (a0_5 = true ∧ a0_3 = false) ∨ (a0_3 = false ∧ ¬ a0_4 = 0) ∨ ¬ (0 ≤ a0_15 ∧ a0_15 ≤ 6)
  · refine wp_cond_true (v7.trans (congrArg Value.bool (head_true hhead))) ?_
    rw [if_pos hhead] at h
    obtain rfl : false = r := by simpa using h
    exact exit15 (R := fun e w' => e = .returned (.bool false) ∧ Below g w w') D3 S3 ⟨rfl, hG7.2⟩
  refine wp_cond_false (v7.trans (congrArg Value.bool (head_false hhead))) (wp_skip ?_)
  rw [if_neg hhead] at h
  obtain ⟨⟨y1, y2, y3, y4⟩, hy, h⟩ := Option.bind_eq_some_iff.mp h
  dsimp only at h
  have H3 := Aside0.mk h
  clear h H2 F0 F1 F2 F3 F4 F5 F6 F7 E2 E3 E4 E5 E6 E7 v1 v2 v3 v4 v5 v6 v7 hG hG1 hG2 hG3 hG4 hG5 hG6 D2 S2 p2 t2 K1 B1 S0
  generalize b7 = c0 at *
  generalize w7 = W7 at *
  show Code.wp Tryz.prog _ _ c0 W7
  refine wp_seq (wp_seq (wp_region_lit ?_))
  have D_c0 := D3
  refine st_ rfl (wanted_none rfl) (run_field (by decide) rfl p3) ?_
  have S_q1 : (c0.put (some 111) (.pointer (some ⟨g, 4, none⟩))).tmps.size = 287 := size_put.trans S3
  have D_q1 : (c0.put (some 111) (.pointer (some ⟨g, 4, none⟩))).defers = [] := D_c0
  have x1_q1 : (c0.put (some 111) (.pointer (some ⟨g, 4, none⟩))).eval (.tmp 1) = (.pointer (some ⟨g, 0, none⟩)) := (eval_ne (by decide)).trans p3
  have x2_q1 : (c0.put (some 111) (.pointer (some ⟨g, 4, none⟩))).eval (.tmp 2) = (.bool false) := (eval_ne (by decide)).trans t3
  have x111_q1 : (c0.put (some 111) (.pointer (some ⟨g, 4, none⟩))).eval (.tmp 111) = (.pointer (some ⟨g, 4, none⟩)) := eval_same (by rw [S3]; decide)
  generalize c0.put (some 111) (.pointer (some ⟨g, 4, none⟩)) = q1 at *
  refine st_ rfl (wanted_none rfl) (run_loadInt rfl x111_q1 ((blk_cell hG7.1 4).trans C4)) ?_
  have S_q2 : (q1.put (some 112) (.int .i64 a0_4)).tmps.size = 287 := size_put.trans S_q1
  have D_q2 : (q1.put (some 112) (.int .i64 a0_4)).defers = [] := D_q1
  have x1_q2 : (q1.put (some 112) (.int .i64 a0_4)).eval (.tmp 1) = (.pointer (some ⟨g, 0, none⟩)) := (eval_ne (by decide)).trans x1_q1
  have x2_q2 : (q1.put (some 112) (.int .i64 a0_4)).eval (.tmp 2) = (.bool false) := (eval_ne (by decide)).trans x2_q1
  have x111_q2 : (q1.put (some 112) (.int .i64 a0_4)).eval (.tmp 111) = (.pointer (some ⟨g, 4, none⟩)) := (eval_ne (by decide)).trans x111_q1
  have x112_q2 : (q1.put (some 112) (.int .i64 a0_4)).eval (.tmp 112) = (.int .i64 a0_4) := eval_same (by rw [S_q1]; decide)
  generalize q1.put (some 112) (.int .i64 a0_4) = q2 at *
  refine ca_ #[.int .i64 a0_4] rfl (wanted_none rfl) Tryz.func15 (by kernel_rfl) rfl rfl (by simp [x112_q2]) ?_
  refine (solsticeref16_Years.calls k a0_4 y1 y2 y3 y4 W7 hy).mono ?_
  rintro e w8 ⟨rfl, hb8⟩
  refine ⟨_, rfl, ?_⟩
  have hG8 : G15 w g cs w8 := ⟨(hb8.block g (blk_lt hG7.1)).trans hG7.1, below_then' hG7.2 hb8 hG7.le⟩
  clear hb8
  have S_q3 : (q2.put (some 113) (.tuple #[.agg #[.int .i64 y1, .int .i64 y2, .int .i64 y3], .bool y4])).tmps.size = 287 := size_put.trans S_q2
  have D_q3 : (q2.put (some 113) (.tuple #[.agg #[.int .i64 y1, .int .i64 y2, .int .i64 y3], .bool y4])).defers = [] := D_q2
  have x1_q3 : (q2.put (some 113) (.tuple #[.agg #[.int .i64 y1, .int .i64 y2, .int .i64 y3], .bool y4])).eval (.tmp 1) = (.pointer (some ⟨g, 0, none⟩)) := (eval_ne (by decide)).trans x1_q2
  have x2_q3 : (q2.put (some 113) (.tuple #[.agg #[.int .i64 y1, .int .i64 y2, .int .i64 y3], .bool y4])).eval (.tmp 2) = (.bool false) := (eval_ne (by decide)).trans x2_q2
  have x111_q3 : (q2.put (some 113) (.tuple #[.agg #[.int .i64 y1, .int .i64 y2, .int .i64 y3], .bool y4])).eval (.tmp 111) = (.pointer (some ⟨g, 4, none⟩)) := (eval_ne (by decide)).trans x111_q2
  have x112_q3 : (q2.put (some 113) (.tuple #[.agg #[.int .i64 y1, .int .i64 y2, .int .i64 y3], .bool y4])).eval (.tmp 112) = (.int .i64 a0_4) := (eval_ne (by decide)).trans x112_q2
  have x113_q3 : (q2.put (some 113) (.tuple #[.agg #[.int .i64 y1, .int .i64 y2, .int .i64 y3], .bool y4])).eval (.tmp 113) = (.tuple #[.agg #[.int .i64 y1, .int .i64 y2, .int .i64 y3], .bool y4]) := eval_same (by rw [S_q2]; decide)
  generalize q2.put (some 113) (.tuple #[.agg #[.int .i64 y1, .int .i64 y2, .int .i64 y3], .bool y4]) = q3 at *
  refine st_ rfl (wanted_none rfl) ((run_move rfl).trans (by rw [x113_q3])) ?_
  have S_q4 : (q3.put (some 110) (.tuple #[.agg #[.int .i64 y1, .int .i64 y2, .int .i64 y3], .bool y4])).tmps.size = 287 := size_put.trans S_q3
  have D_q4 : (q3.put (some 110) (.tuple #[.agg #[.int .i64 y1, .int .i64 y2, .int .i64 y3], .bool y4])).defers = [] := D_q3
  have x1_q4 : (q3.put (some 110) (.tuple #[.agg #[.int .i64 y1, .int .i64 y2, .int .i64 y3], .bool y4])).eval (.tmp 1) = (.pointer (some ⟨g, 0, none⟩)) := (eval_ne (by decide)).trans x1_q3
  have x2_q4 : (q3.put (some 110) (.tuple #[.agg #[.int .i64 y1, .int .i64 y2, .int .i64 y3], .bool y4])).eval (.tmp 2) = (.bool false) := (eval_ne (by decide)).trans x2_q3
  have x111_q4 : (q3.put (some 110) (.tuple #[.agg #[.int .i64 y1, .int .i64 y2, .int .i64 y3], .bool y4])).eval (.tmp 111) = (.pointer (some ⟨g, 4, none⟩)) := (eval_ne (by decide)).trans x111_q3
  have x112_q4 : (q3.put (some 110) (.tuple #[.agg #[.int .i64 y1, .int .i64 y2, .int .i64 y3], .bool y4])).eval (.tmp 112) = (.int .i64 a0_4) := (eval_ne (by decide)).trans x112_q3
  have x113_q4 : (q3.put (some 110) (.tuple #[.agg #[.int .i64 y1, .int .i64 y2, .int .i64 y3], .bool y4])).eval (.tmp 113) = (.tuple #[.agg #[.int .i64 y1, .int .i64 y2, .int .i64 y3], .bool y4]) := (eval_ne (by decide)).trans x113_q3
  have x110_q4 : (q3.put (some 110) (.tuple #[.agg #[.int .i64 y1, .int .i64 y2, .int .i64 y3], .bool y4])).eval (.tmp 110) = (.tuple #[.agg #[.int .i64 y1, .int .i64 y2, .int .i64 y3], .bool y4]) := eval_same (by rw [S_q3]; decide)
  generalize q3.put (some 110) (.tuple #[.agg #[.int .i64 y1, .int .i64 y2, .int .i64 y3], .bool y4]) = q4 at *
  refine st_ rfl (wanted_none rfl) (run_extract0 rfl x110_q4) ?_
  have S_q5 : (q4.put (some 114) (.agg #[.int .i64 y1, .int .i64 y2, .int .i64 y3])).tmps.size = 287 := size_put.trans S_q4
  have D_q5 : (q4.put (some 114) (.agg #[.int .i64 y1, .int .i64 y2, .int .i64 y3])).defers = [] := D_q4
  have x1_q5 : (q4.put (some 114) (.agg #[.int .i64 y1, .int .i64 y2, .int .i64 y3])).eval (.tmp 1) = (.pointer (some ⟨g, 0, none⟩)) := (eval_ne (by decide)).trans x1_q4
  have x2_q5 : (q4.put (some 114) (.agg #[.int .i64 y1, .int .i64 y2, .int .i64 y3])).eval (.tmp 2) = (.bool false) := (eval_ne (by decide)).trans x2_q4
  have x111_q5 : (q4.put (some 114) (.agg #[.int .i64 y1, .int .i64 y2, .int .i64 y3])).eval (.tmp 111) = (.pointer (some ⟨g, 4, none⟩)) := (eval_ne (by decide)).trans x111_q4
  have x112_q5 : (q4.put (some 114) (.agg #[.int .i64 y1, .int .i64 y2, .int .i64 y3])).eval (.tmp 112) = (.int .i64 a0_4) := (eval_ne (by decide)).trans x112_q4
  have x113_q5 : (q4.put (some 114) (.agg #[.int .i64 y1, .int .i64 y2, .int .i64 y3])).eval (.tmp 113) = (.tuple #[.agg #[.int .i64 y1, .int .i64 y2, .int .i64 y3], .bool y4]) := (eval_ne (by decide)).trans x113_q4
  have x110_q5 : (q4.put (some 114) (.agg #[.int .i64 y1, .int .i64 y2, .int .i64 y3])).eval (.tmp 110) = (.tuple #[.agg #[.int .i64 y1, .int .i64 y2, .int .i64 y3], .bool y4]) := (eval_ne (by decide)).trans x110_q4
  have x114_q5 : (q4.put (some 114) (.agg #[.int .i64 y1, .int .i64 y2, .int .i64 y3])).eval (.tmp 114) = (.agg #[.int .i64 y1, .int .i64 y2, .int .i64 y3]) := eval_same (by rw [S_q4]; decide)
  generalize q4.put (some 114) (.agg #[.int .i64 y1, .int .i64 y2, .int .i64 y3]) = q5 at *
  refine st_ rfl (wanted_none rfl) (run_extract1 rfl x110_q5) ?_
  have S_q6 : (q5.put (some 115) (.bool y4)).tmps.size = 287 := size_put.trans S_q5
  have D_q6 : (q5.put (some 115) (.bool y4)).defers = [] := D_q5
  have x1_q6 : (q5.put (some 115) (.bool y4)).eval (.tmp 1) = (.pointer (some ⟨g, 0, none⟩)) := (eval_ne (by decide)).trans x1_q5
  have x2_q6 : (q5.put (some 115) (.bool y4)).eval (.tmp 2) = (.bool false) := (eval_ne (by decide)).trans x2_q5
  have x111_q6 : (q5.put (some 115) (.bool y4)).eval (.tmp 111) = (.pointer (some ⟨g, 4, none⟩)) := (eval_ne (by decide)).trans x111_q5
  have x112_q6 : (q5.put (some 115) (.bool y4)).eval (.tmp 112) = (.int .i64 a0_4) := (eval_ne (by decide)).trans x112_q5
  have x113_q6 : (q5.put (some 115) (.bool y4)).eval (.tmp 113) = (.tuple #[.agg #[.int .i64 y1, .int .i64 y2, .int .i64 y3], .bool y4]) := (eval_ne (by decide)).trans x113_q5
  have x110_q6 : (q5.put (some 115) (.bool y4)).eval (.tmp 110) = (.tuple #[.agg #[.int .i64 y1, .int .i64 y2, .int .i64 y3], .bool y4]) := (eval_ne (by decide)).trans x110_q5
  have x114_q6 : (q5.put (some 115) (.bool y4)).eval (.tmp 114) = (.agg #[.int .i64 y1, .int .i64 y2, .int .i64 y3]) := (eval_ne (by decide)).trans x114_q5
  have x115_q6 : (q5.put (some 115) (.bool y4)).eval (.tmp 115) = (.bool y4) := eval_same (by rw [S_q5]; decide)
  generalize q5.put (some 115) (.bool y4) = q6 at *
  have hG9 : G15 w g cs (w8.alloc (.cells #[.int .i64 0, .int .i64 0, .int .i64 0] 30 (0, 0))) := ⟨blk_alloc hG8.1 _, below_allocG hG8⟩
  have N9 := blk_new w8 (.cells #[.int .i64 0, .int .i64 0, .int .i64 0] 30 (0, 0))
  have gne : g ≠ w8.heap.size := Nat.ne_of_lt (blk_lt hG8.1)
  have gle : g ≤ w8.heap.size := Nat.le_of_lt (blk_lt hG8.1)
  refine st_ rfl (wanted_none rfl) (run_alloc39 rfl) ?_
  have S_q7 : (q6.put (some 3) (.pointer (some ⟨w8.heap.size, 0, none⟩))).tmps.size = 287 := size_put.trans S_q6
  have D_q7 : (q6.put (some 3) (.pointer (some ⟨w8.heap.size, 0, none⟩))).defers = [] := D_q6
  have x1_q7 : (q6.put (some 3) (.pointer (some ⟨w8.heap.size, 0, none⟩))).eval (.tmp 1) = (.pointer (some ⟨g, 0, none⟩)) := (eval_ne (by decide)).trans x1_q6
  have x2_q7 : (q6.put (some 3) (.pointer (some ⟨w8.heap.size, 0, none⟩))).eval (.tmp 2) = (.bool false) := (eval_ne (by decide)).trans x2_q6
  have x111_q7 : (q6.put (some 3) (.pointer (some ⟨w8.heap.size, 0, none⟩))).eval (.tmp 111) = (.pointer (some ⟨g, 4, none⟩)) := (eval_ne (by decide)).trans x111_q6
  have x112_q7 : (q6.put (some 3) (.pointer (some ⟨w8.heap.size, 0, none⟩))).eval (.tmp 112) = (.int .i64 a0_4) := (eval_ne (by decide)).trans x112_q6
  have x113_q7 : (q6.put (some 3) (.pointer (some ⟨w8.heap.size, 0, none⟩))).eval (.tmp 113) = (.tuple #[.agg #[.int .i64 y1, .int .i64 y2, .int .i64 y3], .bool y4]) := (eval_ne (by decide)).trans x113_q6
  have x110_q7 : (q6.put (some 3) (.pointer (some ⟨w8.heap.size, 0, none⟩))).eval (.tmp 110) = (.tuple #[.agg #[.int .i64 y1, .int .i64 y2, .int .i64 y3], .bool y4]) := (eval_ne (by decide)).trans x110_q6
  have x114_q7 : (q6.put (some 3) (.pointer (some ⟨w8.heap.size, 0, none⟩))).eval (.tmp 114) = (.agg #[.int .i64 y1, .int .i64 y2, .int .i64 y3]) := (eval_ne (by decide)).trans x114_q6
  have x115_q7 : (q6.put (some 3) (.pointer (some ⟨w8.heap.size, 0, none⟩))).eval (.tmp 115) = (.bool y4) := (eval_ne (by decide)).trans x115_q6
  have x3_q7 : (q6.put (some 3) (.pointer (some ⟨w8.heap.size, 0, none⟩))).eval (.tmp 3) = (.pointer (some ⟨w8.heap.size, 0, none⟩)) := eval_same (by rw [S_q6]; decide)
  generalize q6.put (some 3) (.pointer (some ⟨w8.heap.size, 0, none⟩)) = q7 at *
  refine st_skip rfl rfl (run_store39 N9 rfl x3_q7 x114_q7) ?_
  have hG10 := ((hG9.far gne gle (.int .i64 y1) (j := 0)).far gne gle (.int .i64 y2) (j := 1)).far gne gle (.int .i64 y3) (j := 2)
  generalize (((w8.alloc (.cells #[.int .i64 0, .int .i64 0, .int .i64 0] 30 (0, 0))).setCell ⟨w8.heap.size, 0, none⟩ (.int .i64 y1)).setCell ⟨w8.heap.size, 1, none⟩ (.int .i64 y2)).setCell ⟨w8.heap.size, 2, none⟩ (.int .i64 y3) = W10 at *
  refine st_ rfl (wanted_none rfl) ((run_assign rfl).trans (by rw [x115_q7])) ?_
  have S_q8 : (q7.put (some 4) (.bool y4)).tmps.size = 287 := size_put.trans S_q7
  have D_q8 : (q7.put (some 4) (.bool y4)).defers = [] := D_q7
  have x1_q8 : (q7.put (some 4) (.bool y4)).eval (.tmp 1) = (.pointer (some ⟨g, 0, none⟩)) := (eval_ne (by decide)).trans x1_q7
  have x2_q8 : (q7.put (some 4) (.bool y4)).eval (.tmp 2) = (.bool false) := (eval_ne (by decide)).trans x2_q7
  have x111_q8 : (q7.put (some 4) (.bool y4)).eval (.tmp 111) = (.pointer (some ⟨g, 4, none⟩)) := (eval_ne (by decide)).trans x111_q7
  have x112_q8 : (q7.put (some 4) (.bool y4)).eval (.tmp 112) = (.int .i64 a0_4) := (eval_ne (by decide)).trans x112_q7
  have x113_q8 : (q7.put (some 4) (.bool y4)).eval (.tmp 113) = (.tuple #[.agg #[.int .i64 y1, .int .i64 y2, .int .i64 y3], .bool y4]) := (eval_ne (by decide)).trans x113_q7
  have x110_q8 : (q7.put (some 4) (.bool y4)).eval (.tmp 110) = (.tuple #[.agg #[.int .i64 y1, .int .i64 y2, .int .i64 y3], .bool y4]) := (eval_ne (by decide)).trans x110_q7
  have x114_q8 : (q7.put (some 4) (.bool y4)).eval (.tmp 114) = (.agg #[.int .i64 y1, .int .i64 y2, .int .i64 y3]) := (eval_ne (by decide)).trans x114_q7
  have x115_q8 : (q7.put (some 4) (.bool y4)).eval (.tmp 115) = (.bool y4) := (eval_ne (by decide)).trans x115_q7
  have x3_q8 : (q7.put (some 4) (.bool y4)).eval (.tmp 3) = (.pointer (some ⟨w8.heap.size, 0, none⟩)) := (eval_ne (by decide)).trans x3_q7
  have x4_q8 : (q7.put (some 4) (.bool y4)).eval (.tmp 4) = (.bool y4) := eval_same (by rw [S_q7]; decide)
  generalize q7.put (some 4) (.bool y4) = q8 at *
  show Code.wp Tryz.prog _ _ q8 W10
  refine wp_seq (wp_region_lit ?_)
  have hy6 := x4_q8
  have p6 := x1_q8
  have t6 := x2_q8
  have S6 := S_q8
  have D6 := D_q8
  clear hG9 hG8 N9 gne gle hG7 D3 S3 p3 t3
  generalize q8 = d0 at *
  refine r_bool S6 p6 t6 (by decide) ((blk_cell hG10.1 3).trans C3) rfl rfl rfl rfl (wn_none rfl) (wn_none rfl) (by decide) (fun a1 F1 v1 => link_and (j := 2) (c := !y4) (Do := 2) (so := false) 2 (G15 w g cs) hG10 rfl (F1.sz.trans S6) ((F1.e 2).trans t6) v1 rfl rfl rfl rfl (wn_none rfl) (wn_none rfl) rfl (by kernel_rfl) (by decide) (fun _ a2 F2 hD2 k2 => sv_ (F2.sz.trans (F1.sz.trans S6)) rfl (by decide) (wn_at rfl rfl _ hD2) ((run_move rfl).trans (by rw [((F2.e 4).trans ((F1.e 4).trans hy6))])) (fun a4 S4 F4 v4 => r_not S4 ((F4.e _).trans hD2) v4 rfl rfl (wn_at rfl rfl) (by decide) (fun a3 F3 v3 => k2 a3 _ (F2.trans (F4.m.trans F3.m)) hG10 ((F3.e _).trans ((F4.e _).trans hD2)) v3))) (fun d1 w5 F5 hG11 v5 => ?_))
  have S7 : d1.tmps.size = 287 := F5.sz.trans (F1.sz.trans S6)
  have D7 : d1.defers = [] := F5.df.trans (F1.df.trans D6)
  have p7 : d1.eval (.tmp 1) = .pointer (some ⟨g, 0, none⟩) := (F5.e 1).trans ((F1.e 1).trans p6)
  show Code.wp Tryz.prog _ _ d1 w5
  have h := H3.out
  by_cases hyy : a0_3 = true ∧ y4 = false
  · refine wp_cond_true (v5.trans (congrArg Value.bool (by rw [hyy.1, hyy.2]; rfl))) ?_
    rw [if_pos hyy] at h
    obtain rfl : false = r := by simpa using h
    exact exit15 (R := fun e w' => e = .returned (.bool false) ∧ Below g w w') D7 S7 ⟨rfl, hG11.2⟩
  refine wp_cond_false (v5.trans (congrArg Value.bool (by cases a0_3 <;> cases y4 <;> simp at hyy ⊢))) (wp_skip ?_)
  rw [if_neg hyy] at h
  obtain ⟨b6, m6, h⟩ := Option.bind_eq_some_iff.mp h
  obtain ⟨b7, m7, h⟩ := Option.bind_eq_some_iff.mp h
  obtain ⟨b8, m8, h⟩ := Option.bind_eq_some_iff.mp h
  obtain ⟨b13, m13, h⟩ := Option.bind_eq_some_iff.mp h
  obtain ⟨b10, m10, h⟩ := Option.bind_eq_some_iff.mp h
  obtain ⟨b11, m11, h⟩ := Option.bind_eq_some_iff.mp h
  obtain ⟨b12, m12, h⟩ := Option.bind_eq_some_iff.mp h
  obtain ⟨b14, m14, h⟩ := Option.bind_eq_some_iff.mp h
  have H4 := Aside0.mk h
  have hDo5 : d1.eval (.tmp 2) = .bool false := (F5.e 2).trans ((F1.e 2).trans t6)
  clear h H3 F1 F5 v1 v5 S6 D6 p6 t6 hG10 hy6
  generalize w5 = W11 at *
  show Code.wp Tryz.prog _ _ d1 W11
  refine wp_seq (wp_seq (wp_region_lit ?_))
  refine r_list (k' := k) (lo := 0) (hi := 59) (both := false) S7 p7 hDo5 (by decide) ((blk_cell hG11.1 6).trans C6) (Kd.C_below HR6.out (hG11.cb hge)) HC6.out m6 rfl rfl rfl rfl rfl rfl rfl rfl (wn_none rfl) (wn_none rfl) (wn_none rfl) (wn_none rfl) (by decide) ?_
  intro e1 n1 F0 v1
  have F1 := F0.m (lo' := 8)
  have hG1 := hG11.drewN n1
  have SS := F1.sz.trans S7
  have pp := (F1.e 1).trans p7
  have dd := (F1.e 2).trans hDo5
  have gg := hG1
  refine link_or (j := 4) (c := !b7) (Do := 2) (so := false) 4 (G15 w g cs) gg rfl SS dd v1 rfl rfl rfl rfl (wn_none rfl) (wn_none rfl) rfl (by kernel_rfl) (by decide) (fun _ a1 Fa hD k2 => r_list (k' := k) (lo := 0) (hi := 59) (both := false) (Fa.sz.trans SS) ((Fa.e 1).trans pp) hD (by decide) ((blk_cell gg.1 7).trans C7) (Kd.C_below HR7.out (gg.cb hge)) HC7.out m7 rfl rfl rfl rfl rfl rfl rfl rfl (wn_at rfl rfl) (wn_at rfl rfl) (wn_at rfl rfl) (wn_at rfl rfl) (by decide) (fun a2 n E2 v2 => k2 a2 _ (Fa.trans E2.m) (gg.drewN n) ((E2.e _).trans hD) v2)) ?_
  clear SS pp gg dd
  intro e2 w2 E2 hG2 v2
  have F2 := F1.trans (E2.m (lo' := 8))
  have SS := F2.sz.trans S7
  have pp := (F2.e 1).trans p7
  have dd := (F2.e 2).trans hDo5
  have gg := hG2
  refine link_or (j := 10) (c := !b8) (Do := 2) (so := false) 4 (G15 w g cs) gg rfl SS dd v2 rfl rfl rfl rfl (wn_none rfl) (wn_none rfl) rfl (by kernel_rfl) (by decide) (fun _ a1 Fa hD k2 => r_list (k' := k) (lo := 0) (hi := 23) (both := false) (Fa.sz.trans SS) ((Fa.e 1).trans pp) hD (by decide) ((blk_cell gg.1 8).trans C8) (Kd.C_below HR8.out (gg.cb hge)) HC8.out m8 rfl rfl rfl rfl rfl rfl rfl rfl (wn_at rfl rfl) (wn_at rfl rfl) (wn_at rfl rfl) (wn_at rfl rfl) (by decide) (fun a2 n E2 v2 => k2 a2 _ (Fa.trans E2.m) (gg.drewN n) ((E2.e _).trans hD) v2)) ?_
  clear SS pp gg dd
  intro e3 w3 E3 hG3 v3
  have F3 := F2.trans (E3.m (lo' := 8))
  have SS := F3.sz.trans S7
  have pp := (F3.e 1).trans p7
  have dd := (F3.e 2).trans hDo5
  have gg := hG3
  refine link_or (j := 16) (c := !b13) (Do := 2) (so := false) 4 (G15 w g cs) gg rfl SS dd v3 rfl rfl rfl rfl (wn_none rfl) (wn_none rfl) rfl (by kernel_rfl) (by decide) (fun _ a1 Fa hD k2 => r_list (k' := k) (lo := 1) (hi := 12) (both := false) (Fa.sz.trans SS) ((Fa.e 1).trans pp) hD (by decide) ((blk_cell gg.1 13).trans C13) (Kd.C_below HR13.out (gg.cb hge)) HC13.out m13 rfl rfl rfl rfl rfl rfl rfl rfl (wn_at rfl rfl) (wn_at rfl rfl) (wn_at rfl rfl) (wn_at rfl rfl) (by decide) (fun a2 n E2 v2 => k2 a2 _ (Fa.trans E2.m) (gg.drewN n) ((E2.e _).trans hD) v2)) ?_
  clear SS pp gg dd
  intro e4 w4 E4 hG4 v4
  have F4 := F3.trans (E4.m (lo' := 8))
  have SS := F4.sz.trans S7
  have pp := (F4.e 1).trans p7
  have dd := (F4.e 2).trans hDo5
  have gg := hG4
  refine link_or (j := 22) (c := !b10) (Do := 2) (so := false) 4 (G15 w g cs) gg rfl SS dd v4 rfl rfl rfl rfl (wn_none rfl) (wn_none rfl) rfl (by kernel_rfl) (by decide) (fun _ a1 Fa hD k2 => r_list (k' := k) (lo := 1) (hi := 31) (both := true) (Fa.sz.trans SS) ((Fa.e 1).trans pp) hD (by decide) ((blk_cell gg.1 10).trans C10) (Kd.C_below HR10.out (gg.cb hge)) HC10.out m10 rfl rfl rfl rfl rfl rfl rfl rfl (wn_at rfl rfl) (wn_at rfl rfl) (wn_at rfl rfl) (wn_at rfl rfl) (by decide) (fun a2 n E2 v2 => k2 a2 _ (Fa.trans E2.m) (gg.drewN n) ((E2.e _).trans hD) v2)) ?_
  clear SS pp gg dd
  intro e5 w5 E5 hG5 v5
  have F5 := F4.trans (E5.m (lo' := 8))
  have SS := F5.sz.trans S7
  have pp := (F5.e 1).trans p7
  have dd := (F5.e 2).trans hDo5
  have gg := hG5
  refine link_or (j := 28) (c := !b11) (Do := 2) (so := false) 4 (G15 w g cs) gg rfl SS dd v5 rfl rfl rfl rfl (wn_none rfl) (wn_none rfl) rfl (by kernel_rfl) (by decide) (fun _ a1 Fa hD k2 => r_list (k' := k) (lo := 1) (hi := 366) (both := true) (Fa.sz.trans SS) ((Fa.e 1).trans pp) hD (by decide) ((blk_cell gg.1 11).trans C11) (Kd.C_below HR11.out (gg.cb hge)) HC11.out m11 rfl rfl rfl rfl rfl rfl rfl rfl (wn_at rfl rfl) (wn_at rfl rfl) (wn_at rfl rfl) (wn_at rfl rfl) (by decide) (fun a2 n E2 v2 => k2 a2 _ (Fa.trans E2.m) (gg.drewN n) ((E2.e _).trans hD) v2)) ?_
  clear SS pp gg dd
  intro e6 w6 E6 hG6 v6
  have F6 := F5.trans (E6.m (lo' := 8))
  have SS := F6.sz.trans S7
  have pp := (F6.e 1).trans p7
  have dd := (F6.e 2).trans hDo5
  have gg := hG6
  refine link_or (j := 34) (c := !b12) (Do := 2) (so := false) 4 (G15 w g cs) gg rfl SS dd v6 rfl rfl rfl rfl (wn_none rfl) (wn_none rfl) rfl (by kernel_rfl) (by decide) (fun _ a1 Fa hD k2 => r_list (k' := k) (lo := 1) (hi := 53) (both := true) (Fa.sz.trans SS) ((Fa.e 1).trans pp) hD (by decide) ((blk_cell gg.1 12).trans C12) (Kd.C_below HR12.out (gg.cb hge)) HC12.out m12 rfl rfl rfl rfl rfl rfl rfl rfl (wn_at rfl rfl) (wn_at rfl rfl) (wn_at rfl rfl) (wn_at rfl rfl) (by decide) (fun a2 n E2 v2 => k2 a2 _ (Fa.trans E2.m) (gg.drewN n) ((E2.e _).trans hD) v2)) ?_
  clear SS pp gg dd
  intro e7 w7 E7 hG7 v7
  have F7 := F6.trans (E7.m (lo' := 8))
  have SS := F7.sz.trans S7
  have pp := (F7.e 1).trans p7
  have dd := (F7.e 2).trans hDo5
  have gg := hG7
  refine link_or (j := 40) (c := !b14) (Do := 2) (so := false) 4 (G15 w g cs) gg rfl SS dd v7 rfl rfl rfl rfl (wn_none rfl) (wn_none rfl) rfl (by kernel_rfl) (by decide) (fun _ a1 Fa hD k2 => r_list (k' := k) (lo := 1) (hi := 366) (both := true) (Fa.sz.trans SS) ((Fa.e 1).trans pp) hD (by decide) ((blk_cell gg.1 14).trans C14) (Kd.C_below HR14.out (gg.cb hge)) HC14.out m14 rfl rfl rfl rfl rfl rfl rfl rfl (wn_at rfl rfl) (wn_at rfl rfl) (wn_at rfl rfl) (wn_at rfl rfl) (by decide) (fun a2 n E2 v2 => k2 a2 _ (Fa.trans E2.m) (gg.drewN n) ((E2.e _).trans hD) v2)) ?_
  clear SS pp gg dd
  intro e8 w8 E8 hG8 v8
  have F8 := F7.trans (E8.m (lo' := 8))
  have S8 : e8.tmps.size = 287 := F8.sz.trans S7
  have D8 : e8.defers = [] := F8.df.trans D7
  have p8 : e8.eval (.tmp 1) = .pointer (some ⟨g, 0, none⟩) := (F8.e 1).trans p7
  show Code.wp Tryz.prog _ _ e8 w8
  have h := H4.out
  by_cases hbad : b6 = false ∨ b7 = false ∨ b8 = false ∨ b13 = false ∨ b10 = false ∨ b11 = false ∨ b12 = false ∨ b14 = false
  · refine wp_cond_true (v8.trans (congrArg Value.bool (by rcases hbad with x | x | x | x | x | x | x | x <;> simp [x]))) ?_
    rw [if_pos hbad] at h
    obtain rfl : false = r := by simpa using h
    exact exit15 (R := fun e w' => e = .returned (.bool false) ∧ Below g w w') D8 S8 ⟨rfl, hG8.2⟩
  refine wp_cond_false (v8.trans (congrArg Value.bool (by simp only [not_or, Bool.not_eq_false] at hbad; obtain ⟨x1, x2, x3, x4, x5, x6, x7, x8⟩ := hbad; simp [x1, x2, x3, x4, x5, x6, x7, x8]))) (wp_skip ?_)
  rw [if_neg hbad] at h
  have H5 := Aside0.mk h
  have t8 : e8.eval (.tmp 2) = .bool false := (F8.e 2).trans hDo5
  clear h H4 hbad v1 v2 v3 v4 v5 v6 v7 v8 F0 F1 F2 F3 F4 F5 F6 F7 F8 E2 E3 E4 E5 E6 E7 E8 hG1 hG2 hG3 hG4 hG5 hG6 hG7 S7 D7 p7 hG11 hDo5
  generalize w8 = W12 at *
  generalize e8 = f0 at *

  refine wp_seq (wp_seq (wp_region_lit ?_))
  refine sv_ S8 rfl (by decide) (wanted_none rfl) (run_assign rfl) (fun a1 SA FA vA => ?_)
  have pA := (FA.e 1).trans p8
  have tA := (FA.e 2).trans t8
  have DA : a1.defers = [] := FA.df.trans D8
  clear S8 p8 t8 D8 FA HC6 HC7 HC8 HC10 HC11 HC12 HC13 HC14 HR6 HR7 HR8 HR10 HR11 HR12 HR13 HR14
  have hl9 : l0_9.length ≤ 749 := by have := HB.out; omega
  show Code.wp Tryz.prog _ _ a1 W12
  refine wp_block (wp_loop (fun a W => a.tmps.size = 287 ∧ a.defers = [] ∧ a.eval (.tmp 1) = .pointer (some ⟨g, 0, none⟩) ∧ a.eval (.tmp 2) = .bool false ∧ ∃ kk : Nat, kk ≤ l0_9.length ∧ a.eval (.tmp 5) = .int .i64 kk ∧ (G15 w g cs) W ∧ (∀ x ∈ l0_9.take kk, refBy a0_0 l0_12.length x) ∧ (l0_9.take kk).Pairwise fun y x => eq67 y x = false) (fun a _ => l0_9.length - (intOf (a.eval (.tmp 5))).toNat) ⟨SA, DA, pA, tA, 0, Nat.zero_le _, vA, hG8, by simp, by simp⟩ ?_)
  clear SA DA pA tA vA hG8
  rintro a W ⟨S, D, p, t, kk, hkk, hk5, gg, hall, hpw⟩
  have HA := Aside0.mk hall
  have HP := Aside0.mk hpw
  clear hall hpw
  refine wp_seq (wp_seq (wp_region_lit ?_))
  refine sv_ S rfl (by decide) (wanted_none rfl) ((run_move rfl).trans (by rw [hk5])) (fun a1 S1 F1 v1 => ?_)
  refine r_ln S1 ((F1.e 1).trans p) ((F1.e 2).trans t) (by decide) ((blk_cell gg.1 9).trans C9) (Or.inr rfl) rfl rfl rfl rfl rfl rfl (wn_none rfl) (wn_none rfl) (wn_none rfl) (by decide) (fun a2 S2 F2 v2 => ?_)
  refine sv_ S2 rfl (by decide) (wanted_none rfl) (run_lss rfl ((F2.e 168).trans v1) v2) (fun a3 S3 F3 v3 => ?_)
  have FF : Fr 8 a a3 := F1.m.trans (F2.m.trans F3.m)
  have D3 := FF.df.trans D
  have p3 := (FF.e 1).trans p
  have t3 := (FF.e 2).trans t
  have k3 := (FF.e 5).trans hk5
  have e5 : a.eval (.tmp 5) = .int .i64 kk := hk5
  clear F1 F2 F3 v1 v2 S1 S2 FF S D p t hk5
  generalize a3 = b at *
  show Code.wp Tryz.prog _ _ b W
  by_cases hlt : kk < l0_9.length
  · refine wp_cond_true (v3.trans (congrArg Value.bool (decide_eq_true (by omega)))) (wp_skip ?_)
    clear v3
    refine wp_seq (wp_block (wp_seq (wp_region_lit ?_)))
    obtain ⟨ad, e1, hx0, hx1⟩ := at_T67 (Kd.C_below HR9.out (gg.cb hge)) (kk : Int) (by omega) (by omega)
    have hy : rd_T67 l0_9 (kk : Int) = l0_9[kk] := by unfold rd_T67; simp [List.getD, hlt]
    rw [hy, Int.toNat_natCast] at hx0 hx1
    clear hy
    have HT := Aside0.mk (List.take_succ_eq_append_getElem hlt)
    have HM := Aside0.mk (List.getElem_mem hlt)
    generalize hx : l0_9[kk] = x at hx0 hx1 HT HM
    have HX := Aside0.mk hx
    clear hx
    refine sv_ S3 rfl (by decide) (wanted_none rfl) (run_field (by decide) rfl p3) (fun a1 S1 F1 v1 => ?_)
    refine sv_ S1 rfl (by decide) (wanted_none rfl) (run_loadDays rfl v1 ((blk_cell gg.1 9).trans C9)) (fun a2 S2 F2 v2 => ?_)
    refine sv_ S2 rfl (by decide) (wanted_none rfl) ((run_move rfl).trans (by rw [F2.e 5, F1.e 5, k3])) (fun a3 S3' F3 v3 => ?_)
    refine sv_ S3' rfl (by decide) (wanted_none rfl) (run_index23 hlt (by omega) rfl ((F3.e 176).trans (v2.trans (by rw [e1]))) v3) (fun a4 S4 F4 v4 => ?_)
    refine sv_ S4 rfl (by decide) (wanted_none rfl) (run_load47 rfl v4 hx0 hx1) (fun a5 S5 F5 v5 => ?_)
    refine st_ rfl (wanted_none rfl) (run_alloc47 rfl) ?_
    refine st_skip rfl rfl (run_store47 (blk_new W _) rfl (eval_same (by rw [S5]; decide)) ((eval_ne (by decide)).trans v5)) ?_
    have FF : Fr 6 b (a5.put (some 6) (.pointer (some ⟨W.heap.size, 0, none⟩))) := F1.m.trans (F2.m.trans (F3.m.trans (F4.m.trans (F5.m.trans (fr_put (by decide))))))
    have S6 : (a5.put (some 6) (.pointer (some ⟨W.heap.size, 0, none⟩))).tmps.size = 287 := size_put.trans S5
    have q6 : (a5.put (some 6) (.pointer (some ⟨W.heap.size, 0, none⟩))).eval (.tmp 6) = .pointer (some ⟨W.heap.size, 0, none⟩) := eval_same (by rw [S5]; decide)
    have D6 := FF.df.trans D3
    have p6 := (FF.e 1).trans p3
    have t6 := (FF.e 2).trans t3
    have k6 := (FF.e 5).trans k3
    have gne : g ≠ W.heap.size := Nat.ne_of_lt (blk_lt gg.1)
    have gle : g ≤ W.heap.size := gg.le
    have G1 : (G15 w g cs) (((W.alloc (.cells #[.int .i64 0, .int .i64 0] 67 (0, 0))).setCell ⟨W.heap.size, 0, none⟩ (.int .i64 x.f0)).setCell ⟨W.heap.size, 1, none⟩ (.int .i64 x.f1)) := ((show (G15 w g cs) (W.alloc (.cells #[.int .i64 0, .int .i64 0] 67 (0, 0))) from ⟨blk_alloc gg.1 _, below_allocG gg⟩).far gne gle _).far gne gle _
    have X1 : (((W.alloc (.cells #[.int .i64 0, .int .i64 0] 67 (0, 0))).setCell ⟨W.heap.size, 0, none⟩ (.int .i64 x.f0)).setCell ⟨W.heap.size, 1, none⟩ (.int .i64 x.f1)).heap[W.heap.size]? = some (.cells #[.int .i64 x.f0, .int .i64 x.f1] 67 (0, 0)) := blk_put (blk_put (blk_new W _) 0 _ rfl) 1 _ rfl
    generalize a5.put (some 6) (.pointer (some ⟨W.heap.size, 0, none⟩)) = c at *
    generalize ((W.alloc (.cells #[.int .i64 0, .int .i64 0] 67 (0, 0))).setCell ⟨W.heap.size, 0, none⟩ (.int .i64 x.f0)).setCell ⟨W.heap.size, 1, none⟩ (.int .i64 x.f1) = W2 at *
    clear hx0 hx1 e1 F1 F2 F3 F4 F5 v1 v2 v3 v4 v5 S1 S2 S3' S4 S5 FF S3 D3 p3 t3 k3 gne gle gg
    generalize W.heap.size = P at *
    show Code.wp Tryz.prog _ _ c W2
    refine wp_seq (wp_seq (wp_region_lit ?_))
    refine r_in S6 t6 ((blk_cell X1 1).trans rfl) (run_field47 (by decide) rfl q6) rfl rfl rfl rfl rfl rfl rfl (wn_none rfl) (wn_none rfl) (wn_none rfl) (wn_none rfl) (by decide) (fun c1 n1 F1 v1 => ?_)
    have SS := F1.sz.trans S6
    have pp := (F1.e 1).trans p6
    have qq := (F1.e 6).trans q6
    have dd := (F1.e 2).trans t6
    have gx : (fun W => (G15 w g cs) W ∧ W.heap[P]? = some (.cells #[.int .i64 x.f0, .int .i64 x.f1] 67 (0, 0))) (W2.drewN n1) := ⟨G1.drewN n1, blk_drewN X1 n1⟩
    refine link_or (j := 4) (c := !decide (-53 ≤ x.f0 ∧ x.f0 ≤ 53)) (Do := 2) (so := false) 4 (fun W => (G15 w g cs) W ∧ W.heap[P]? = some (.cells #[.int .i64 x.f0, .int .i64 x.f1] 67 (0, 0))) gx rfl SS dd v1 rfl rfl rfl rfl (wn_none rfl) (wn_none rfl) rfl (by kernel_rfl) (by decide) (fun _ a1 Fa hD k2 => r_in (Fa.sz.trans SS) hD ((blk_cell gx.2 0).trans rfl) (run_field47 (by decide) rfl ((Fa.e 6).trans qq)) rfl rfl rfl rfl rfl rfl rfl (wn_at rfl rfl) (wn_at rfl rfl) (wn_at rfl rfl) (wn_at rfl rfl) (by decide) (fun a2 n E2 v2 => k2 a2 _ (Fa.trans E2.m) ⟨gx.1.drewN n, blk_drewN gx.2 n⟩ ((E2.e _).trans hD) v2)) (fun c2 w2 E2 gx2 v2 => ?_)
    have F2 := F1.trans E2.m
    clear gx SS pp qq dd v1 E2
    have SS := F2.sz.trans S6
    have pp := (F2.e 1).trans p6
    have qq := (F2.e 6).trans q6
    have dd := (F2.e 2).trans t6
    have gx := gx2
    refine link_or (j := 10) (c := (x.f0 != 0) && (decide (a0_0 < 6) || decide (0 < l0_12.length))) (Do := 2) (so := false) 14 (fun W => (G15 w g cs) W ∧ W.heap[P]? = some (.cells #[.int .i64 x.f0, .int .i64 x.f1] 67 (0, 0))) gx rfl SS dd v2 rfl rfl rfl rfl (wn_none rfl) (wn_none rfl) rfl (by kernel_rfl) (by decide) (fun _ a1 Fa hD k2 => r_num (b := x.f0 != 0) (Fa.sz.trans SS) hD ((blk_cell gx.2 0).trans rfl) (run_field47 (by decide) rfl ((Fa.e 6).trans qq)) rfl (fun ρ hc hx => run_neq rfl hx (hc _)) rfl rfl rfl (wn_at rfl rfl) (wn_at rfl rfl) (wn_at rfl rfl) (by decide) (fun a2 E2 v2 => link_and (j := 14) (c := decide (a0_0 < 6) || decide (0 < l0_12.length)) 9 (fun W => (G15 w g cs) W ∧ W.heap[P]? = some (.cells #[.int .i64 x.f0, .int .i64 x.f1] 67 (0, 0))) gx rfl (E2.sz.trans (Fa.sz.trans SS)) ((E2.e _).trans hD) v2 rfl rfl rfl rfl (wn_at rfl rfl) (wn_at rfl rfl) rfl (by kernel_rfl) (by decide) (fun _ a4 Fb hD4 k4 => r_num (b := decide (a0_0 < 6)) (Fb.sz.trans (E2.sz.trans (Fa.sz.trans SS))) hD4 ((blk_cell gx.1.1 0).trans C0) (run_field (by decide) rfl ((Fb.e 1).trans ((E2.e 1).trans ((Fa.e 1).trans pp)))) rfl (fun ρ hc hx => run_lss rfl hx (hc _)) rfl rfl rfl (wn_at rfl rfl) (wn_at rfl rfl) (wn_at rfl rfl) (by decide) (fun a5 E5 v5 => link_or (j := 18) (c := decide (0 < l0_12.length)) 4 (fun W => (G15 w g cs) W ∧ W.heap[P]? = some (.cells #[.int .i64 x.f0, .int .i64 x.f1] 67 (0, 0))) gx rfl (E5.sz.trans (Fb.sz.trans (E2.sz.trans (Fa.sz.trans SS)))) ((E5.e _).trans hD4) v5 rfl rfl rfl rfl (wn_at rfl rfl) (wn_at rfl rfl) rfl (by kernel_rfl) (by decide) (fun _ a6 Fc hD6 k6 => r_ln (Fc.sz.trans (E5.sz.trans (Fb.sz.trans (E2.sz.trans (Fa.sz.trans SS))))) ((Fc.e 1).trans ((E5.e 1).trans ((Fb.e 1).trans ((E2.e 1).trans ((Fa.e 1).trans pp))))) hD6 (by decide) ((blk_cell gx.1.1 12).trans C12) (Or.inl rfl) rfl rfl rfl rfl rfl rfl (wn_at rfl rfl) (wn_at rfl rfl) (wn_at rfl rfl) (by decide) (fun a7 S7 E7 v7 => sv_ S7 rfl (by decide) (wn_at rfl rfl _ ((E7.e _).trans hD6)) ((run_gtr rfl v7 rfl).trans (by simp only [Int.natCast_pos])) (fun a8 S8 E8 v8 => k6 a8 _ (Fc.trans (E7.m.trans E8.m)) gx ((E8.e _).trans ((E7.e _).trans hD6)) v8))) (fun a9 w9 E9 g9 v9 => k4 a9 w9 (Fb.trans (E5.m.trans E9.m)) g9 ((E9.e _).trans ((E5.e _).trans hD4)) v9))) (fun a3 w3 E3 g3 v3 => k2 a3 w3 (Fa.trans (E2.m.trans E3.m)) g3 ((E3.e _).trans ((E2.e _).trans hD)) v3))) (fun c3 w3 E3 gx3 v3 => ?_)
    have F3 : Fr 8 c c3 := F2.m.trans E3.m
    have S7 := F3.sz.trans S6
    have D7 := F3.df.trans D6
    have p7 := (F3.e 1).trans p6
    have t7 := (F3.e 2).trans t6
    have k7 := (F3.e 5).trans k6
    have q7 := (F3.e 6).trans q6
    clear gx SS pp qq dd v2 E3 F1 F2 F3 gx2 G1 X1 S6 D6 p6 t6 k6 q6
    show Code.wp Tryz.prog _ _ c3 w3
    by_cases hby : refBy a0_0 l0_12.length x
    case neg =>
      refine wp_cond_true (v3.trans (congrArg Value.bool (by rw [ref_bad hby]))) ?_
      have h := H5.out
      rw [if_pos (fun hd => hby (hd.1 x HM.out))] at h
      obtain rfl : false = r := by simpa using h
      exact exit15 (R := fun e w' => e = .returned (.bool false) ∧ Below g w w') D7 S7 ⟨rfl, gx3.1.2⟩
    refine wp_cond_false (v3.trans (congrArg Value.bool (by rw [ref_good hby]))) (wp_skip ?_)
    clear v3
    refine wp_seq (wp_region_lit ?_)
    refine sv_ S7 rfl (by decide) (wanted_none rfl) (run_assign rfl) (fun a1 SA FA vA => ?_)
    have IA : a1.tmps.size = 287 ∧ a1.defers = [] ∧ a1.eval (.tmp 1) = .pointer (some ⟨g, 0, none⟩) ∧ a1.eval (.tmp 2) = .bool false ∧ a1.eval (.tmp 5) = .int .i64 kk ∧ a1.eval (.tmp 6) = .pointer (some ⟨P, 0, none⟩) ∧ ∃ jj : Nat, jj ≤ kk ∧ a1.eval (.tmp 7) = .int .i64 jj ∧ (fun W => (G15 w g cs) W ∧ W.heap[P]? = some (.cells #[.int .i64 x.f0, .int .i64 x.f1] 67 (0, 0))) w3 ∧ ∀ i (h : i < l0_9.length), i < jj → eq67 l0_9[i] x = false := ⟨SA, FA.df.trans D7, (FA.e 1).trans p7, (FA.e 2).trans t7, (FA.e 5).trans k7, (FA.e 6).trans q7, 0, Nat.zero_le _, vA, gx3, fun i _ h => absurd h (Nat.not_lt_zero _)⟩
    clear SA FA vA S7 D7 p7 t7 k7 q7 gx3
    show Code.wp Tryz.prog _ _ a1 w3
    refine wp_block (wp_loop (fun a1 w3 => a1.tmps.size = 287 ∧ a1.defers = [] ∧ a1.eval (.tmp 1) = .pointer (some ⟨g, 0, none⟩) ∧ a1.eval (.tmp 2) = .bool false ∧ a1.eval (.tmp 5) = .int .i64 kk ∧ a1.eval (.tmp 6) = .pointer (some ⟨P, 0, none⟩) ∧ ∃ jj : Nat, jj ≤ kk ∧ a1.eval (.tmp 7) = .int .i64 jj ∧ (fun W => (G15 w g cs) W ∧ W.heap[P]? = some (.cells #[.int .i64 x.f0, .int .i64 x.f1] 67 (0, 0))) w3 ∧ ∀ i (h : i < l0_9.length), i < jj → eq67 l0_9[i] x = false) (fun a _ => kk - (intOf (a.eval (.tmp 7))).toNat) IA ?_)
    clear IA
    rintro d V ⟨S, D, p, t, k5, q, jj, hjj, hj7, gx, hno⟩
    have HN := Aside0.mk hno
    clear hno
    refine wp_seq (wp_seq (wp_region_lit ?_))
    refine sv_ S rfl (by decide) (wanted_none rfl) ((run_move rfl).trans (by rw [hj7])) (fun a1 S1 F1 v1 => ?_)
    refine sv_ S1 rfl (by decide) (wanted_none rfl) ((run_move rfl).trans (by rw [F1.e 5, k5])) (fun a2 S2 F2 v2 => ?_)
    refine sv_ S2 rfl (by decide) (wanted_none rfl) (run_lss rfl ((F2.e 206).trans v1) v2) (fun a3 S3 F3 v3 => ?_)
    have FF : Fr 8 d a3 := F1.m.trans (F2.m.trans F3.m)
    clear F1 F2 F3 v1 v2 S1 S2
    show Code.wp Tryz.prog _ _ a3 V
    by_cases hjl : jj < kk
    · refine wp_cond_true (v3.trans (congrArg Value.bool (decide_eq_true (by omega)))) (wp_skip ?_)
      clear v3
      refine wp_seq (wp_block (wp_seq (wp_region_still_lit rfl (by kernel_rfl) ?_)))
      have hjn : jj < l0_9.length := by omega
      have g1 : (fun W => (G15 w g cs) W ∧ W.heap[P]? = some (.cells #[.int .i64 x.f0, .int .i64 x.f1] 67 (0, 0))) { V with drawn := V.drawn + 1 } := ⟨gx.1.drewN 1, gx.2⟩
      generalize ({ V with drawn := V.drawn + 1 } : World) = V1 at *
      obtain ⟨ad, e1, hx0, hx1⟩ := at_T67 (Kd.C_below HR9.out (g1.1.cb hge)) (jj : Int) (by omega) (by omega)
      have hy : rd_T67 l0_9 (jj : Int) = l0_9[jj] := by unfold rd_T67; simp [List.getD, hjn]
      rw [hy, Int.toNat_natCast] at hx0 hx1
      clear hy
      have p3 := (FF.e 1).trans p
      refine ss_ S3 rfl (by decide) rfl (run_field (by decide) rfl p3) (fun a4 S4 F4 v4 => ?_)
      refine ss_ S4 rfl (by decide) rfl (run_loadDays rfl v4 ((blk_cell g1.1.1 9).trans C9)) (fun a5 S5 F5 v5 => ?_)
      refine ss_ S5 rfl (by decide) rfl ((run_move rfl).trans (by rw [F5.e 7, F4.e 7, FF.e 7, hj7])) (fun a6 S6 F6 v6 => ?_)
      refine ss_ S6 rfl (by decide) rfl (run_index23 hjn (by omega) rfl ((F6.e 212).trans (v5.trans (by rw [e1]))) v6) (fun a7 S7 F7 v7 => ?_)
      refine ss_ S7 rfl (by decide) rfl (run_load47 rfl v7 hx0 hx1) (fun a8 S8 F8 v8 => ?_)
      have q8 : a8.eval (.tmp 6) = .pointer (some ⟨P, 0, none⟩) := by rw [F8.e 6, F7.e 6, F6.e 6, F5.e 6, F4.e 6, FF.e 6, q]
      refine ss_ S8 rfl (by decide) rfl (run_load47 rfl q8 ((blk_cell g1.2 0).trans rfl) ((blk_cell g1.2 1).trans rfl)) (fun a9 S9 F9 v9 => ?_)
      refine ss_ S9 rfl (by decide) rfl (run_eql47 rfl ((F9.e 215).trans v8) v9) (fun a10 S10 F10 v10 => ?_)
      refine wpStill_nil ?_
      have FX : Fr 8 d a10 := FF.trans (F4.m.trans (F5.m.trans (F6.m.trans (F7.m.trans (F8.m.trans (F9.m.trans F10.m))))))
      clear F4 F5 F6 F7 F8 F9 F10 S4 S5 S6 S7 S8 S9 v4 v5 v6 v7 v8 v9 q8 hx0 hx1 e1 FF S3
      show Code.wp Tryz.prog _ _ a10 V1
      have hval : eq67 ⟨l0_9[jj].f0, l0_9[jj].f1⟩ ⟨x.f0, x.f1⟩ = eq67 l0_9[jj] x := rfl
      rw [hval] at v10
      cases hq : eq67 l0_9[jj] x with
      | true =>
        refine wp_cond_true (v10.trans (congrArg Value.bool hq)) ?_
        have h := H5.out
        rw [if_pos (fun hd => by have h2 := List.pairwise_iff_getElem.mp hd.2 jj kk hjn hlt hjl; rw [HX.out, hq] at h2; cases h2)] at h
        obtain rfl : false = r := by simpa using h
        exact exit15 (R := fun e w' => e = .returned (.bool false) ∧ Below g w w') (FX.df.trans D) S10 ⟨rfl, g1.1.2⟩
      | false =>
        refine wp_cond_false (v10.trans (congrArg Value.bool hq)) (wp_skip ?_)
        have HQ := Aside0.mk hq
        clear hq v10 hval
        show Code.wp Tryz.prog _ _ a10 V1
        refine wp_region_lit ?_
        refine sv_ S10 rfl (by decide) (wanted_none rfl) ((run_move rfl).trans (by rw [FX.e 7, hj7])) (fun a4 S4 F4 v4 => ?_)
        refine sv_ S4 rfl (by decide) (wanted_none rfl) (run_add rfl v4 rfl) (fun a5 S5 F5 v5 => ?_)
        refine sv_ S5 rfl (by decide) (wanted_none rfl) ((run_assign rfl).trans (by rw [v5])) (fun a6 S6 F6 v6 => ?_)
        have FY : Fr 7 d a6 := FX.m.trans (F4.m.trans (F5.m.trans F6.m))
        have w6 : a6.eval (.tmp 7) = .int .i64 ((jj + 1 : Nat) : Int) := v6.trans (by rw [wsn_ _ (by omega) (by omega)]; rfl)
        refine ⟨⟨S6, FY.df.trans D, (FY.e 1).trans p, (FY.e 2).trans t, (FY.e 5).trans k5, (FY.e 6).trans q, jj + 1, by omega, w6, g1, fun i hi hij => ?_⟩, ?_⟩
        · by_cases e : i = jj
          · subst e; exact HQ.out
          · exact HN.out i hi (by omega)
        · rw [w6, hj7]
          show kk - (jj + 1) < kk - jj
          omega
    · refine wp_cond_false (v3.trans (congrArg Value.bool (decide_eq_false (by omega)))) (wp_exit ?_)
      dsimp only [Exit.then]
      refine exit_in ?_
      show Code.wp Tryz.prog _ _ a3 V
      refine wp_region_lit ?_
      have hj : jj = kk := by omega
      refine sv_ S3 rfl (by decide) (wanted_none rfl) ((run_move rfl).trans (by rw [FF.e 5, k5])) (fun a4 S4 F4 v4 => ?_)
      refine sv_ S4 rfl (by decide) (wanted_none rfl) (run_add rfl v4 rfl) (fun a5 S5 F5 v5 => ?_)
      refine sv_ S5 rfl (by decide) (wanted_none rfl) ((run_assign rfl).trans (by rw [v5])) (fun a6 S6 F6 v6 => ?_)
      have FY : Fr 5 d a6 := FF.m.trans (F4.m.trans (F5.m.trans F6.m))
      have w6 : a6.eval (.tmp 5) = .int .i64 ((kk + 1 : Nat) : Int) := v6.trans (by rw [wsn_ _ (by omega) (by omega)]; rfl)
      refine ⟨⟨S6, FY.df.trans D, (FY.e 1).trans p, (FY.e 2).trans t, kk + 1, hlt, w6, gx.1, ?_, ?_⟩, ?_⟩
      · rw [HT.out]
        intro y hy
        rcases List.mem_append.1 hy with h | h
        · exact HA.out y h
        · rw [List.mem_singleton.1 h]; exact hby
      · rw [HT.out, List.pairwise_append]
        refine ⟨HP.out, List.pairwise_singleton _ _, fun y hy z hz => ?_⟩
        rw [List.mem_singleton.1 hz]
        obtain ⟨i, hi, rfl⟩ := List.getElem_of_mem hy
        rw [List.getElem_take]
        have hi' : i < kk := by simp at hi; omega
        exact HN.out i (by omega) (by omega)
      · rw [w6, e5]
        show l0_9.length - (kk + 1) < l0_9.length - kk
        omega
  refine wp_cond_false (v3.trans (congrArg Value.bool (decide_eq_false (by omega)))) (wp_exit ?_)
  have hk : kk = l0_9.length := by omega
  have h := H5.out
  rw [if_neg (fun hd => hd ⟨by have := HA.out; rw [hk, List.take_length] at this; exact this, by have := HP.out; rw [hk, List.take_length] at this; exact this⟩)] at h
  have H6 := Aside0.mk h
  clear h H5 HA HP HR9 v3 hk hlt hkk k3 e5
  dsimp only [Exit.then]
  refine exit_in ?_
  show Code.wp Tryz.prog _ _ b W
  refine wp_seq (wp_seq (wp_region_lit ?_))
  refine r_ln S3 p3 t3 (by decide) ((blk_cell gg.1 10).trans C10) (Or.inl rfl) rfl rfl rfl rfl rfl rfl (wn_none rfl) (wn_none rfl) (wn_none rfl) (by decide) (fun x1 S1 X1 u1 => sv_ (v := .bool (decide (0 < l0_10.length))) S1 rfl (by decide) ((wn_none rfl) _ ((X1.e _).trans t3)) ((run_gtr rfl u1 rfl).trans (by simp only [Int.natCast_pos])) (fun x2 S2 X2 u2 => have E2 := X1.trans X2.m; link_and (j := 4) (c := a0_0 == 5) (Do := 2) (so := false) 3 (G15 w g cs) gg rfl S2 ((E2.e 2).trans t3) u2 rfl rfl rfl rfl (wn_none rfl) (wn_none rfl) rfl (by kernel_rfl) (by decide) (fun _ a3 F3 hD3 k3 => r_num (b := a0_0 == 5) (F3.sz.trans (E2.sz.trans S3)) hD3 ((blk_cell gg.1 0).trans C0) (run_field (by decide) rfl ((F3.e 1).trans ((E2.e 1).trans p3))) rfl (fun ρ hc hx => run_eql rfl hx (hc _)) rfl rfl rfl (wn_at rfl rfl) (wn_at rfl rfl) (wn_at rfl rfl) (by decide) (fun a4 F4 v4 => k3 a4 _ (F3.trans F4.m) gg ((F4.e _).trans hD3) v4)) (fun b1 w1 E1 hG1 v1 => ?_)))
  have F1 : Fr 8 b b1 := E2.m.trans E1.m
  clear E1 E2 S1 S2 u1 u2 X1 X2
  have SS := F1.sz.trans S3
  have pp := (F1.e 1).trans p3
  have dd := (F1.e 2).trans t3
  clear gg
  have gg := hG1
  refine link_or (j := 9) (c := decide (0 < l0_11.length) && decide (4 ≤ a0_0 ∧ a0_0 ≤ 6)) (Do := 2) (so := false) 9 (G15 w g cs) gg rfl SS dd v1 rfl rfl rfl rfl (wn_none rfl) (wn_none rfl) rfl (by kernel_rfl) (by decide) (fun _ a1 Fa hD k2 => r_ln (Fa.sz.trans SS) ((Fa.e 1).trans pp) hD (by decide) ((blk_cell gg.1 11).trans C11) (Or.inl rfl) rfl rfl rfl rfl rfl rfl (wn_at rfl rfl) (wn_at rfl rfl) (wn_at rfl rfl) (by decide) (fun x1 S1 X1 u1 => sv_ (v := .bool (decide (0 < l0_11.length))) S1 rfl (by decide) ((wn_at rfl rfl) _ ((X1.e _).trans hD)) ((run_gtr rfl u1 rfl).trans (by simp only [Int.natCast_pos])) (fun x2 S2 X2 u2 => have E2 := X1.trans X2.m; link_and (j := 14) (c := decide (4 ≤ a0_0 ∧ a0_0 ≤ 6)) 3 _ gg rfl S2 ((E2.e _).trans hD) u2 rfl rfl rfl rfl (wn_at rfl rfl) (wn_at rfl rfl) rfl (by kernel_rfl) (by decide) (fun _ a3 F3 hD3 k3 => sv_ (F3.sz.trans (E2.sz.trans (Fa.sz.trans SS))) rfl (by decide) (wn_at rfl rfl _ hD3) (run_field (by decide) rfl ((F3.e 1).trans ((E2.e 1).trans ((Fa.e 1).trans pp)))) (fun a4 S4 F4 v4 => sv_ S4 rfl (by decide) (wn_at rfl rfl _ ((F4.e _).trans hD3)) (run_loadInt rfl v4 ((blk_cell gg.1 0).trans C0)) (fun a5 S5 F5 v5 => ca_ #[.int .i64 a0_0, .int .i64 4, .int .i64 6] rfl (wn_at rfl rfl _ ((F5.e _).trans ((F4.e _).trans hD3))) Tryz.func33 (by kernel_rfl) rfl rfl (by simp [v5]; exact ⟨rfl, rfl⟩) ((in_calls a0_0 4 6 w1).mono fun e w2 he => ⟨_, he.1, (by obtain ⟨n, rfl⟩ := he.2; exact k3 _ _ (F3.trans (F4.m.trans (F5.m.trans (fr_put (by decide))))) (gg.drewN n) ((eval_ne (by decide)).trans ((F5.e _).trans ((F4.e _).trans hD3))) (eval_same (by rw [S5]; decide)))⟩)))) (fun a5 w5 F5 hG5 v5 => k2 a5 w5 (Fa.trans (E2.m.trans F5.m)) hG5 ((F5.e _).trans ((E2.e _).trans hD)) v5)))) ?_
  intro b2 w2 E2 hG2 v2
  have F2 := F1.trans (E2.m (lo' := 8))
  clear SS pp dd gg v1 E2
  have SS := F2.sz.trans S3
  have pp := (F2.e 1).trans p3
  have dd := (F2.e 2).trans t3
  have gg := hG2
  refine link_or (j := 20) (c := decide (0 < l0_12.length) && (a0_0 != 7)) (Do := 2) (so := false) 9 (G15 w g cs) gg rfl SS dd v2 rfl rfl rfl rfl (wn_none rfl) (wn_none rfl) rfl (by kernel_rfl) (by decide) (fun _ a1 Fa hD k2 => r_ln (Fa.sz.trans SS) ((Fa.e 1).trans pp) hD (by decide) ((blk_cell gg.1 12).trans C12) (Or.inl rfl) rfl rfl rfl rfl rfl rfl (wn_at rfl rfl) (wn_at rfl rfl) (wn_at rfl rfl) (by decide) (fun x1 S1 X1 u1 => sv_ (v := .bool (decide (0 < l0_12.length))) S1 rfl (by decide) ((wn_at rfl rfl) _ ((X1.e _).trans hD)) ((run_gtr rfl u1 rfl).trans (by simp only [Int.natCast_pos])) (fun x2 S2 X2 u2 => have E2 := X1.trans X2.m; link_and (j := 25) (c := a0_0 != 7) 3 _ gg rfl S2 ((E2.e _).trans hD) u2 rfl rfl rfl rfl (wn_at rfl rfl) (wn_at rfl rfl) rfl (by kernel_rfl) (by decide) (fun _ a3 F3 hD3 k3 => r_num (b := a0_0 != 7) (F3.sz.trans (E2.sz.trans (Fa.sz.trans SS))) hD3 ((blk_cell gg.1 0).trans C0) (run_field (by decide) rfl ((F3.e 1).trans ((E2.e 1).trans ((Fa.e 1).trans pp)))) rfl (fun ρ hc hx => run_neq rfl hx (hc _)) rfl rfl rfl (wn_at rfl rfl) (wn_at rfl rfl) (wn_at rfl rfl) (by decide) (fun a4 F4 v4 => k3 a4 _ (F3.trans F4.m) gg ((F4.e _).trans hD3) v4)) (fun a5 w5 F5 hG5 v5 => k2 a5 w5 (Fa.trans (E2.m.trans F5.m)) hG5 ((F5.e _).trans ((E2.e _).trans hD)) v5)))) ?_
  intro b3 w3 E3 hG3 v3
  have F3 := F2.trans (E3.m (lo' := 8))
  clear SS pp dd gg v2 E3
  have SS := F3.sz.trans S3
  have pp := (F3.e 1).trans p3
  have dd := (F3.e 2).trans t3
  have DD := F3.df.trans D3
  clear F1 F2 F3 hG1 hG2 S3 p3 t3 D3
  show Code.wp Tryz.prog _ _ b3 w3
  have h := H6.out
  by_cases htail : (0 < l0_10.length ∧ a0_0 = 5) ∨ (0 < l0_11.length ∧ (4 ≤ a0_0 ∧ a0_0 ≤ 6)) ∨ (0 < l0_12.length ∧ ¬ a0_0 = 7)
  · refine wp_cond_true (v3.trans (congrArg Value.bool (tail_true htail))) ?_
    rw [if_pos htail] at h
    obtain rfl : false = r := by simpa using h
    exact exit15 (R := fun e w' => e = .returned (.bool false) ∧ Below g w w') DD SS ⟨rfl, hG3.2⟩
  refine wp_cond_false (v3.trans (congrArg Value.bool (tail_false htail))) (wp_skip ?_)
  rw [if_neg htail] at h
  have hr := Option.some.inj h
  have H7 := Aside0.mk hr
  clear h hr H6 v3 htail
  show Code.wp Tryz.prog _ _ b3 w3
  refine wp_seq (wp_region_lit ?_)
  have hB := HB.out
  refine r_ln SS pp dd (by decide) ((blk_cell hG3.1 14).trans C14) (Or.inl rfl) rfl rfl rfl rfl rfl rfl (wn_none rfl) (wn_none rfl) (wn_none rfl) (by decide) (fun x1 S1 X1 u1 => sv_ S1 rfl (by decide) (wanted_none rfl) (run_eql rfl u1 rfl) (fun x2 S2 X2 u2 => ?_))
  have F1 : Fr 8 b3 x2 := X1.m.trans X2.m
  have SS' := S2
  have dd' := (F1.e 2).trans dd
  have pp' := (F1.e 1).trans pp
  have DD' := F1.df.trans DD
  clear SS pp dd DD S1 S2 X1 X2 u1 F1
  have SS := SS'
  have pp := pp'
  refine link_or (j := 4) (c := decide (0 < l0_6.length + l0_7.length + l0_8.length + l0_9.length + l0_10.length + l0_11.length + l0_12.length + l0_13.length)) (Do := 2) (so := false) 32 (G15 w g cs) hG3 rfl SS dd' u2 rfl rfl rfl rfl (wn_none rfl) (wn_none rfl) rfl (by kernel_rfl) (by decide) (fun _ a1 Fa hD k2 => r_ln (Fa.sz.trans SS) ((Fa.e 1).trans pp) hD (by decide) ((blk_cell hG3.1 6).trans C6) (Or.inl rfl) rfl rfl rfl rfl rfl rfl (wn_at rfl rfl) (wn_at rfl rfl) (wn_at rfl rfl) (by decide) (fun x0 S0 E0 v0 => r_ln S0 ((E0.e 1).trans ((Fa.e 1).trans pp)) ((E0.e _).trans hD) (by decide) ((blk_cell hG3.1 7).trans C7) (Or.inl rfl) rfl rfl rfl rfl rfl rfl (wn_at rfl rfl) (wn_at rfl rfl) (wn_at rfl rfl) (by decide) (fun y1 T1 Y1 u1 => sv_ T1 rfl (by decide) (wn_at rfl rfl _ ((Y1.e _).trans ((E0.e _).trans hD))) (run_add rfl ((Y1.e 256).trans v0) u1) (fun x1 S1 X1 v1 => have E1 := E0.trans (Y1.m.trans X1.m); r_ln S1 ((E1.e 1).trans ((Fa.e 1).trans pp)) ((E1.e _).trans hD) (by decide) ((blk_cell hG3.1 8).trans C8) (Or.inl rfl) rfl rfl rfl rfl rfl rfl (wn_at rfl rfl) (wn_at rfl rfl) (wn_at rfl rfl) (by decide) (fun y2 T2 Y2 u2 => sv_ T2 rfl (by decide) (wn_at rfl rfl _ ((Y2.e _).trans ((E1.e _).trans hD))) (run_add rfl ((Y2.e 260).trans v1) u2) (fun x2 S2 X2 v2 => have E2 := E1.trans (Y2.m.trans X2.m); r_ln S2 ((E2.e 1).trans ((Fa.e 1).trans pp)) ((E2.e _).trans hD) (by decide) ((blk_cell hG3.1 9).trans C9) (Or.inr rfl) rfl rfl rfl rfl rfl rfl (wn_at rfl rfl) (wn_at rfl rfl) (wn_at rfl rfl) (by decide) (fun y3 T3 Y3 u3 => sv_ T3 rfl (by decide) (wn_at rfl rfl _ ((Y3.e _).trans ((E2.e _).trans hD))) (run_add rfl ((Y3.e 264).trans v2) u3) (fun x3 S3 X3 v3 => have E3 := E2.trans (Y3.m.trans X3.m); r_ln S3 ((E3.e 1).trans ((Fa.e 1).trans pp)) ((E3.e _).trans hD) (by decide) ((blk_cell hG3.1 10).trans C10) (Or.inl rfl) rfl rfl rfl rfl rfl rfl (wn_at rfl rfl) (wn_at rfl rfl) (wn_at rfl rfl) (by decide) (fun y4 T4 Y4 u4 => sv_ T4 rfl (by decide) (wn_at rfl rfl _ ((Y4.e _).trans ((E3.e _).trans hD))) (run_add rfl ((Y4.e 268).trans v3) u4) (fun x4 S4 X4 v4 => have E4 := E3.trans (Y4.m.trans X4.m); r_ln S4 ((E4.e 1).trans ((Fa.e 1).trans pp)) ((E4.e _).trans hD) (by decide) ((blk_cell hG3.1 11).trans C11) (Or.inl rfl) rfl rfl rfl rfl rfl rfl (wn_at rfl rfl) (wn_at rfl rfl) (wn_at rfl rfl) (by decide) (fun y5 T5 Y5 u5 => sv_ T5 rfl (by decide) (wn_at rfl rfl _ ((Y5.e _).trans ((E4.e _).trans hD))) (run_add rfl ((Y5.e 272).trans v4) u5) (fun x5 S5 X5 v5 => have E5 := E4.trans (Y5.m.trans X5.m); r_ln S5 ((E5.e 1).trans ((Fa.e 1).trans pp)) ((E5.e _).trans hD) (by decide) ((blk_cell hG3.1 12).trans C12) (Or.inl rfl) rfl rfl rfl rfl rfl rfl (wn_at rfl rfl) (wn_at rfl rfl) (wn_at rfl rfl) (by decide) (fun y6 T6 Y6 u6 => sv_ T6 rfl (by decide) (wn_at rfl rfl _ ((Y6.e _).trans ((E5.e _).trans hD))) (run_add rfl ((Y6.e 276).trans v5) u6) (fun x6 S6 X6 v6 => have E6 := E5.trans (Y6.m.trans X6.m); r_ln S6 ((E6.e 1).trans ((Fa.e 1).trans pp)) ((E6.e _).trans hD) (by decide) ((blk_cell hG3.1 13).trans C13) (Or.inl rfl) rfl rfl rfl rfl rfl rfl (wn_at rfl rfl) (wn_at rfl rfl) (wn_at rfl rfl) (by decide) (fun y7 T7 Y7 u7 => sv_ T7 rfl (by decide) (wn_at rfl rfl _ ((Y7.e _).trans ((E6.e _).trans hD))) (run_add rfl ((Y7.e 280).trans v6) u7) (fun x7 S7 X7 v7 => have E7 := E6.trans (Y7.m.trans X7.m); sv_ S7 rfl (by decide) (wn_at rfl rfl _ ((E7.e _).trans hD)) ((run_gtr rfl v7 rfl).trans (by rw [sum_ hB])) (fun z Sz Fz vz => k2 z _ (Fa.trans (E7.m.trans Fz.m)) hG3 ((Fz.e _).trans ((E7.e _).trans hD)) vz))))))))))))))))) (fun a7 w7 E7 hG7 v7 => ?_)
  refine st_ rfl (wanted_none rfl) (run_assign rfl) ?_
  show Code.wp Tryz.prog Code.ret _ _ w7
  refine wp_ret ?_
  refine ret15 (E7.df.trans DD') ((eval_same (by rw [E7.sz, SS]; decide)).trans (v7.trans (congrArg Value.bool ?_))) ⟨rfl, hG7.2⟩
  rw [← H7.out, len_zero]
end Go.Proofs.YtjjaiahfkiojlaaGreat.O
