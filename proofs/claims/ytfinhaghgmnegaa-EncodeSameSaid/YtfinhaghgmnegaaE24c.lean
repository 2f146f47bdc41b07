/- The functions below the encoder as contracts. No condition beyond those each lemma names. -/
import Derived.Test.YtfinhaghgmnegaaE24p
import Derived.Test.YtfinhaghgmnegaaHw
import Derived.Test.YtfinhaghgmnegaaOx0
import Derived.Test.YtfinhaghgmnegaaOx13
import Derived.Test.YtfinhaghgmnegaaMOx16
import Derived.Test.YtfinhaghgmnegaaOx17
import Derived.Test.YtfinhaghgmnegaaMOx20
import Derived.Test.YtfinhaghgmnegaaOx22
import Derived.Test.YtfinhaghgmnegaaOx3
import Derived.Test.YtfinhaghgmnegaaOx5
namespace Go.Proofs.Ytfinhaghgmnegaa.Pure
open Go.RowKit Go.Proofs.Ytfinhaghgmnegaa.O Go.Proofs.YtfinhaghgmnegaaW.PrintWords Go.Proofs.YtfinhaghgmnegaaW.PrintLast
open Go.Proofs.Ytfinhaghgmnegaa.Civ
set_option linter.unusedVariables false
set_option linter.unusedSimpArgs false
/-- A call returns this, and leaves what lay below. -/
abbrev Rets (w : World) (v : Value) : Ending → World → Prop := fun e w' => e = .returned v ∧ Below w.heap.size w w'
section
variable {w : World}
theorem check_on (kd wk d : Int) : Calls Try.prog 17 #[.agg #[.int .i64 kd, .int .i64 wk, .int .i64 d]] w (Rets w (.int .i64 (if OnR kd wk d then 0 else 8))) := by
  obtain ⟨k, h⟩ := (wcheck kd wk d).rounds
  exact week_Check.calls k kd wk d _ w h
theorem len_on (y m : Int) : Calls Try.prog 18 #[.int .i64 y, .int .i64 m] w (Rets w (.int .i64 (ln y m))) := by
  obtain ⟨k, h⟩ := (clen y m).rounds
  exact civil_Len.calls k y m _ w h
theorem move_on (s ak std sv now : Int) : Calls Try.prog 7 #[.agg #[.int .i64 s, .int .i64 ak], .int .i64 std, .int .i64 sv, .int .i64 now] w (Rets w (.tuple #[.int .i64 (moveV s ak std sv now).1, .int .i64 (moveV s ak std sv now).2.1, .bool (moveV s ak std sv now).2.2])) := by
  obtain ⟨k, h⟩ := (emove s ak std sv now).rounds
  exact encode_Move.calls k s ak std sv now _ _ _ w h
end
section
variable {ρ : Operand → Value} {o : Oper} {w : World}
theorem run_b54 {x y : Operand} {a b : Int} (ho : o.op = .build 54 #[(0, x), (1, y)]) (hx : ρ x = .int .i64 a) (hy : ρ y = .int .i64 b) : (execOp ρ o).run Try.prog w = .ok (.value (.agg #[.int .i64 a, .int .i64 b])) w := by
  have hu54 := Try.underlying54
  unfold execOp; rw [ho]
  simp only [hx, hy, List.map_toArray, List.map_cons, List.map_nil]
  first | (go_simp; done) | (go_simp; rfl)
theorem run_b54' {y : Operand} {b : Int} (ho : o.op = .build 54 #[(1, y)]) (hy : ρ y = .int .i64 b) : (execOp ρ o).run Try.prog w = .ok (.value (.agg #[.int .i64 0, .int .i64 b])) w := by
  have hu54 := Try.underlying54
  unfold execOp; rw [ho]
  simp only [hy, List.map_toArray, List.map_cons, List.map_nil]
  first | (go_simp; done) | (go_simp; rfl)
theorem run_b23 {x y : Operand} {a b : Int} (ho : o.op = .build 23 #[(0, x), (2, y)]) (hx : ρ x = .int .i64 a) (hy : ρ y = .int .i64 b) : (execOp ρ o).run Try.prog w = .ok (.value (.agg #[.int .i64 a, .int .i64 0, .int .i64 b])) w := by
  have hu23 := Try.underlying23
  unfold execOp; rw [ho]
  simp only [hx, hy, List.map_toArray, List.map_cons, List.map_nil]
  first | (go_simp; done) | (go_simp; rfl)
theorem run_b25 {x y : Operand} {a b : Int} (ho : o.op = .build 25 #[(0, x), (1, y)]) (hx : ρ x = .int .i64 a) (hy : ρ y = .int .i64 b) : (execOp ρ o).run Try.prog w = .ok (.value (.agg #[.int .i64 a, .int .i64 b])) w := by
  have hu25 := Try.underlying25
  unfold execOp; rw [ho]
  simp only [hx, hy, List.map_toArray, List.map_cons, List.map_nil]
  first | (go_simp; done) | (go_simp; rfl)
theorem run_bs27 {x : Operand} {a b : Int} (ho : o.op = .buildSlice 27 1 #[(0, x)]) (hx : ρ x = .agg #[.int .i64 a, .int .i64 b]) : (execOp ρ o).run Try.prog w = .ok (.value (.slice (some ⟨w.heap.size, 0, none⟩) 1 1)) (w.alloc (.cells #[.int .i64 a, .int .i64 b] 54 (0, 0))) := by
  have hu54 := Try.underlying54
  have hu27 := Try.underlying27
  unfold execOp; rw [ho]
  first | (go_simp; done) | (simp only [hx, List.map_toArray, List.map_cons, List.map_nil]; go_simp; done) | (simp only [hx, List.map_toArray, List.map_cons, List.map_nil]; go_simp; rfl)
theorem run_bs26 {x : Operand} {a : Int} (ho : o.op = .buildSlice 26 1 #[(0, x)]) (hx : ρ x = .int .i64 a) : (execOp ρ o).run Try.prog w = .ok (.value (.slice (some ⟨w.heap.size, 0, none⟩) 1 1)) (w.alloc (.cells #[.int .i64 a] 3 (0, 0))) := by
  have hu26 := Try.underlying26
  unfold execOp; rw [ho]
  first | (go_simp; done) | (simp only [hx, List.map_toArray, List.map_cons, List.map_nil]; go_simp; done) | (simp only [hx, List.map_toArray, List.map_cons, List.map_nil]; go_simp; rfl)
/-- The cells of a rule, by the lists of days, of days of the month and of months. -/
def c3 (r : RR) (s9 s10 s13 : Value) : Array Value := c16 r (.slice none 0 0) (.slice none 0 0) (.slice none 0 0) s9 s10 (.slice none 0 0) (.slice none 0 0) s13 (.slice none 0 0)
theorem run_b29z (ho : o.op = .build 29 #[]) : (execOp ρ o).run Try.prog w = .ok (.value (.agg (c3 zR (.slice none 0 0) (.slice none 0 0) (.slice none 0 0)))) w := by
  have hu29 := Try.underlying29
  unfold execOp; rw [ho]
  first | (go_simp; done) | (go_simp; rfl)
theorem run_b29 {x : Operand} {A : Option Addr} {n c : Nat} (m : Int) (ho : o.op = .build 29 #[(0, .const (.int .i64 7)), (1, .const (.int .i64 1)), (15, .const (.int .i64 1)), (13, x)]) (hc : ∀ v, ρ (.const v) = v) (hx : ρ x = .slice A n c) : (execOp ρ o).run Try.prog w = .ok (.value (.agg (c3 (monR m) (.slice none 0 0) (.slice none 0 0) (.slice A n c)))) w := by
  have hu29 := Try.underlying29
  unfold execOp; rw [ho]
  simp only [hx, hc, List.map_toArray, List.map_cons, List.map_nil]
  first | (go_simp; done) | (go_simp; rfl)
end
theorem inl_nil (w : World) : InL w (some (.slice none 0 0)) [] := ⟨none, 0, rfl, Nat.le_refl _, rfl, by simp, fun h => absurd h (by simp)⟩
theorem ind_nil (w : World) : InD w (some (.slice none 0 0)) [] := ⟨none, 0, rfl, Nat.le_refl _, rfl, by simp, fun h => absurd h (by simp)⟩
theorem ind_one {W : World} {g : Nat} {x : S54} (h : W.heap[g]? = some (.cells #[.int .i64 x.f0, .int .i64 x.f1] 54 (0, 0))) : InD W (some (.slice (some ⟨g, 0, none⟩) 1 1)) [x] := by
  refine ⟨_, _, rfl, Nat.le_refl _, rfl, by simp, fun _ => ⟨_, rfl, fun j p hp => ?_⟩⟩
  have hj := (List.getElem?_eq_some_iff.1 hp).1
  obtain rfl : j = 0 := by simpa using hj
  obtain rfl : x = p := by simpa using hp
  refine ⟨_, rfl, k54_mk W x, fun i u hu => ?_⟩
  match i, hu with
  | 0, hu => exact ((blk_cell h 0).trans rfl).trans hu
  | 1, hu => exact ((blk_cell h 1).trans rfl).trans hu
theorem c_one {W : World} {g : Nat} {x : Int} (h : W.heap[g]? = some (.cells #[.int .i64 x] 3 (0, 0))) : Kd.C (Kd.int .i64) W (some ⟨g, 0, none⟩) 1 [x] := by
  refine ⟨rfl, by simp, fun _ => ⟨_, rfl, fun j p hp => ?_⟩⟩
  have hj := (List.getElem?_eq_some_iff.1 hp).1
  obtain rfl : j = 0 := by simpa using hj
  obtain rfl : x = p := by simpa using hp
  refine ⟨_, rfl, rfl, fun i u hu => ?_⟩
  match i, hu with
  | 0, hu => exact ((blk_cell h 0).trans rfl).trans hu
theorem inl_one {W : World} {g : Nat} {x : Int} (h : W.heap[g]? = some (.cells #[.int .i64 x] 3 (0, 0))) : InL W (some (.slice (some ⟨g, 0, none⟩) 1 1)) [x] := ⟨_, _, rfl, Nat.le_refl _, c_one h⟩
theorem rul_c3 {W : World} {r : RR} {s9 s10 s13 : Value} (h6 : r.sec = []) (h7 : r.mi = []) (h8 : r.ho = []) (h11 : r.yd = []) (h12 : r.wn = []) (h14 : r.sp = []) (h9 : InD W (some s9) r.dy) (h10 : InL W (some s10) r.md) (h13 : InL W (some s13) r.mo) : Rul W (c3 r s9 s10 s13) r :=
  ⟨rfl, rfl, rfl, rfl, rfl, rfl, rfl, h6 ▸ inl_nil W, h7 ▸ inl_nil W, h8 ▸ inl_nil W, h9, h10, h11 ▸ inl_nil W, h12 ▸ inl_nil W, h13, h14 ▸ inl_nil W, rfl⟩
theorem rul_cs {W : World} {cs : Array Value} {r : RR} {s9 s10 s13 : Value} (h : r.sec = [] ∧ r.mi = [] ∧ r.ho = [] ∧ r.yd = [] ∧ r.wn = [] ∧ r.sp = []) (h9 : InD W (some s9) r.dy) (h10 : InL W (some s10) r.md) (h13 : InL W (some s13) r.mo) (e : cs = c3 r s9 s10 s13) : Rul W cs r := e ▸ rul_c3 h.1 h.2.1 h.2.2.1 h.2.2.2.1 h.2.2.2.2.1 h.2.2.2.2.2 h9 h10 h13
section
variable {N : Nat} {E : Env} {a : Act} {ops : Array Oper} {rest : List Oper} {Q : Exit → Act → World → Prop} {w w0 : World} {o : Oper} {d : Nat} {L : List (Nat × Obj)}
/-- A list of one number, new. -/
theorem bsi_ (K : Kn N E a) (M : On L w0 w) {x : Operand} {m : Int} (hd : o.dst = some d) (hb : Nat.blt d N = true) (hw : wantE ops E o = some true) (hop : o.op = .buildSlice 26 1 #[(0, x)]) (hx : evo E x = some (.int .i64 m))
    (h : ∀ a' g W, w0.heap.size ≤ g → On ((g, .cells #[.int .i64 m] 3 (0, 0)) :: L) w0 W → Kn N ((d, .slice (some ⟨g, 0, none⟩) 1 1) :: E) a' → wpList Try.prog ops Q rest a' W) : wpList Try.prog ops Q (o :: rest) a w :=
  val_ K hd hb hw (run_bs26 hop (K.of hx)) (fun a' K' => h a' _ _ M.bl.size (M.new _) K')
/-- A list of one weekday, new. -/
theorem bsd_ (K : Kn N E a) (M : On L w0 w) {x : Operand} {m n : Int} (hd : o.dst = some d) (hb : Nat.blt d N = true) (hw : wantE ops E o = some true) (hop : o.op = .buildSlice 27 1 #[(0, x)]) (hx : evo E x = some (.agg #[.int .i64 m, .int .i64 n]))
    (h : ∀ a' g W, w0.heap.size ≤ g → On ((g, .cells #[.int .i64 m, .int .i64 n] 54 (0, 0)) :: L) w0 W → Kn N ((d, .slice (some ⟨g, 0, none⟩) 1 1) :: E) a' → wpList Try.prog ops Q rest a' W) : wpList Try.prog ops Q (o :: rest) a w :=
  val_ K hd hb hw (run_bs27 hop (K.of hx)) (fun a' K' => h a' _ _ M.bl.size (M.new _) K')
theorem retc2_ {fn : Func} {R : Ending → World → Prop} [hQ : RetTo Q fn R] {r s k g n : Nat} {T : TypeId} {cs : Array Value} {u : Value} (hr : fn.results = #[.cell r T, .tmp s]) (K : Kn N E a) (M : On L w0 w) (hL : L[k]? = some (g, .cells cs T (0, 0))) (h : O.look E r = some (.pointer (some ⟨g, 0, none⟩))) (h2 : O.look E s = some u) (ht : szE T = some n) (hs : cs.size = n) (q : R (.returned (.tuple #[.agg cs, u])) w) : Code.ret.wp Try.prog Q a w := by
  refine wp_ret (hQ.go _ _ (bodyPost_ret (v := .tuple #[.agg cs, u]) ?_ K.df q))
  obtain ⟨hi, fs, hu⟩ := szE_info ht
  have hl := run_loadVar_row (P := Try.prog) w g T T cs (0, 0) _ (M.me k _ _ hL) hu rfl (by rw [hs]; exact hi)
  have hp := val_eq K h
  have hp2 := val_eq K h2
  rw [Array.getD_eq_getD_getElem?] at hp hp2
  simp [results, hr, hp, hp2, asAddr, hl]
end
def left13 (n : Int) (a : Act) : Nat := match a.eval (.tmp n.toNat) with | .int _ x => (100 - x).toNat | _ => 0
theorem meas_ {lo : Int} {i n : Nat} (hc : i < n) (hn : n ≤ 50) (hl : lo ≤ 1) : (100 - (lo + ((i + 1 : Nat) : Int))).toNat < (100 - (lo + (i : Int))).toNat := by omega
theorem left13_ {n : Int} {N : Nat} {E : Env} {a : Act} {x : Int} (K : Kn N E a) (h : O.look E n.toNat = some (.int .i64 x)) : left13 n a = (100 - x).toNat := by unfold left13; rw [K.ev _ _ h]
theorem lp_add {f : Int} {i : Nat} (h : -80 ≤ f) (h' : f ≤ 80) (hc : i < 7) : wrap64 (f + (0 + (i : Int))) = f + (i : Int) := by rw [w64 (by omega) (by omega)]; omega
theorem lp_inc {i : Nat} (hc : i < 7) : wrap64 (0 + (i : Int) + 1) = 0 + ((i + 1 : Nat) : Int) := by rw [w64 (by omega) (by omega)]; omega
theorem lp_lt {i : Nat} (hc : i < 7) : decide (0 + (i : Int) < 7) = true := decide_eq_true (by omega)
theorem up_fit {f : Int} {i : Nat} (hc : i < 7) : ((upTo f i).length + 1) * 8 ≤ 140737488355328 := by rw [upTo_len]; omega
theorem sev_div {f : Int} (h : ¬ f < 1) (h' : f ≤ 80) : wrap64 (wrap64 (Int.tdiv f 7) + 1) = f / 7 + 1 := by rw [tdiv_nn 7 (by omega), w64 (x := f / 7) (by omega) (by omega), w64 (by omega) (by omega)]
theorem bxG_ {N : Nat} {E : Env} {a : Act} {ops : Array Oper} {rest : List Oper} {Q : Exit → Act → World → Prop} {w w0 : World} {o : Oper} {d : Nat} {L : List (Nat × Obj)} (K : Kn N E a) (M : On L w0 w) {n t : Nat} {cs : Array Value} {x : Operand} (hd : o.dst = some d) (hb : Nat.blt d N = true) (hw : wantE ops E o = some true) (hop : o.op = .box t x) (hx : evo E x = some (.agg cs)) (ht : szE t = some n)
    (h : ∀ a' g W, w0.heap.size ≤ g → On ((g, .cells cs t (0, 0)) :: L) w0 W → Kn N ((d, .pointer (some ⟨g, 0, none⟩)) :: E) a' → wpList Try.prog ops Q rest a' W) : wpList Try.prog ops Q (o :: rest) a w :=
  val_ K hd hb hw (run_bxa ht hop (K.of hx)) (fun a' K' => h a' _ _ M.bl.size (M.new _) K')
theorem bjoin_ {N : Nat} {E' : Env} {a : Act} {w : World} {id : Nat} {x : Code} {R : Act → World → Prop} {Q : Exit → Act → World → Prop} (h : x.wp Try.prog (Exit.inBlock id (Exit.then (fun a' w' => w' = w ∧ Kn N E' a') Q)) a w) (k : ∀ a', Kn N E' a' → R a' w) : (Code.block id x).wp Try.prog (Exit.then R Q) a w := by
  have go : ∀ e a' w', Exit.then (fun a' w' => w' = w ∧ Kn N E' a') Q e a' w' → Exit.then R Q e a' w' := fun e a' w' hq => by
    cases e with
    | normal =>
      obtain ⟨rfl, hk⟩ := hq
      exact k _ hk
    | _ => exact hq
  refine wp_block (wp_mono h (fun e a' w' hq => ?_))
  cases e with
  | exit i =>
    by_cases q : i = id
    · have hq' : Exit.then (fun a' w' => w' = w ∧ Kn N E' a') Q .normal a' w' := by unfold Exit.inBlock at hq; simpa [q] using hq
      have := go _ _ _ hq'
      unfold Exit.inBlock
      simpa [q] using this
    · have hq' : Exit.then (fun a' w' => w' = w ∧ Kn N E' a') Q (.exit i) a' w' := by unfold Exit.inBlock at hq; simpa [q] using hq
      have := go _ _ _ hq'
      unfold Exit.inBlock
      simpa [q] using this
  | normal => exact go .normal a' w' hq
  | _ => exact hq
/-- All blocks that are no rules stay. -/
def Keep (w W : World) : Prop := ∀ (k : Nat) (cs : Array Value) (t : TypeId), t ≠ 29 → w.heap[k]? = some (.cells cs t (0, 0)) → W.heap[k]? = some (.cells cs t (0, 0))
theorem Keep.refl (w : World) : Keep w w := fun _ _ _ _ h => h
theorem Keep.trans {w W V : World} (h : Keep w W) (h' : Keep W V) : Keep w V := fun k cs t ht e => h' k cs t ht (h k cs t ht e)
theorem keep_below {w W : World} (h : Below w.heap.size w W) : Keep w W := fun _ _ _ _ e => blk_below e h
theorem keep_row {W : World} {g : Nat} {cs0 : Array Value} (hg : W.heap[g]? = some (.cells cs0 29 (0, 0))) (cs1 : Array Value) : Keep W (W.setRow g cs1) := fun k cs t ht e => (setRow_other W g k cs1 (fun q => by
  subst q
  rw [hg] at e
  injection e with e
  injection e with _ e
  exact ht e.symm)).trans e
def InLS (w : World) (v : Option Value) (l : List Int) : Prop := ∀ W, Keep w W → InL W v l
def InDS (w : World) (v : Option Value) (l : List S54) : Prop := ∀ W, Keep w W → InD W v l
/-- The cells of a rule, whatever rules are stored. -/
def RulS (w : World) (cs : Array Value) (r : RR) : Prop := ∀ W, Keep w W → Rul W cs r
theorem inlS_nil (w : World) : InLS w (some (.slice none 0 0)) [] := fun W _ => inl_nil W
theorem indS_nil (w : World) : InDS w (some (.slice none 0 0)) [] := fun W _ => ind_nil W
theorem inlS_one {W : World} {g : Nat} {x : Int} (h : W.heap[g]? = some (.cells #[.int .i64 x] 3 (0, 0))) : InLS W (some (.slice (some ⟨g, 0, none⟩) 1 1)) [x] := fun V k => inl_one (k _ _ _ (by decide) h)
theorem indS_one {W : World} {g : Nat} {x : S54} (h : W.heap[g]? = some (.cells #[.int .i64 x.f0, .int .i64 x.f1] 54 (0, 0))) : InDS W (some (.slice (some ⟨g, 0, none⟩) 1 1)) [x] := fun V k => ind_one (k _ _ _ (by decide) h)
theorem rulS_cs {W : World} {cs : Array Value} {r : RR} {s9 s10 s13 : Value} (h : r.sec = [] ∧ r.mi = [] ∧ r.ho = [] ∧ r.yd = [] ∧ r.wn = [] ∧ r.sp = []) (h9 : InDS W (some s9) r.dy) (h10 : InLS W (some s10) r.md) (h13 : InLS W (some s13) r.mo) (e : cs = c3 r s9 s10 s13) : RulS W cs r := fun V k => rul_cs h (h9 V k) (h10 V k) (h13 V k) e
theorem inlS_mono {w W : World} {v : Option Value} {l : List Int} (h : InLS w v l) (k : Keep w W) : InLS W v l := fun V q => h V (k.trans q)
theorem rulS_mono {w W : World} {cs : Array Value} {r : RR} (h : RulS w cs r) (k : Keep w W) : RulS W cs r := fun V q => h V (k.trans q)
theorem keep_R {w W : World} (hk : Keep w W) {b : Nat} {v : Value} {l : List Int} (h : Kd.R (Kd.int .i64) 3 w b (fun _ => True) v l) : Kd.R (Kd.int .i64) 3 W b (fun _ => True) v l := by
  obtain ⟨h0, inner, hown, hr⟩ := h
  refine ⟨h0, inner, ?_, hr⟩
  obtain ⟨hl, h1 | ⟨g, cap, cur, e, hb, hh, r⟩⟩ := hown
  · exact ⟨hl, Or.inl h1⟩
  · exact ⟨hl, Or.inr ⟨g, cap, cur, e, hb, hk _ _ _ (by decide) hh, r⟩⟩
theorem twS_inl {Ls : List (Value × List Int)} {b : Nat} {W : World} (h : Tw Ls b W) {v : Value} {l : List Int} (j : Nat) (hp : Ls[j]? = some (v, l)) : InLS W (some v) l := fun V k => by
  obtain ⟨A, c, e, h1, h2⟩ := Kd.R_reads (keep_R k (h _ (List.mem_of_getElem? hp)))
  exact ⟨A, c, congrArg some e, h1, h2⟩
section
variable {N : Nat} {E : Env} {a : Act} {ops : Array Oper} {Q : Exit → Act → World → Prop} {w w0 w1 : World} {oi : Oper} {S : World → Prop} {fuel : Nat}
end
end Go.Proofs.Ytfinhaghgmnegaa.Pure
