/- The parts of a worker of layer 23 as contracts. No condition beyond those each lemma names. -/
import Derived.Test.YtfinhaghgmnegaaGreatMT23p
import Derived.Test.YtfinhaghgmnegaaGreatMHw
namespace Go.Proofs.YtfinhaghgmnegaaGreat.Pure
open Go.RowKit Go.Proofs.YtfinhaghgmnegaaGreat.O Go.Proofs.YtfinhaghgmnegaaGreatW.PrintWords Go.Proofs.YtfinhaghgmnegaaGreatW.PrintLast
open Go.Proofs.YtfinhaghgmnegaaGreat.Civ
set_option linter.unusedVariables false
set_option linter.unusedSimpArgs false
set_option maxRecDepth 100000
set_option maxHeartbeats 4000000
/-- The slices of a rule's lists. -/
structure Sl where
  s6 : Value
  s7 : Value
  s8 : Value
  s9 : Value
  s10 : Value
  s11 : Value
  s12 : Value
  s13 : Value
  s14 : Value
def rc (r : RR) (s : Sl) : Array Value := c16 r s.s6 s.s7 s.s8 s.s9 s.s10 s.s11 s.s12 s.s13 s.s14
/-- The cells of a worker. -/
def wc (r : RR) (s : Sl) (st from_ to_ : Int) (gm : Nat) (ct : Int) (v : Value) : Array Value := #[.int .i64 r.fr, .int .i64 r.iv, .int .i64 r.ct, .bool r.un, .int .i64 r.ua, .bool r.utc, s.s6, s.s7, s.s8, s.s9, s.s10, s.s11, s.s12, s.s13, s.s14, .int .i64 r.wk, .int .i64 st, .int .i64 from_, .int .i64 to_, .pointer (some ⟨gm, 0, none⟩), .int .i64 ct, v]
def mc (sp F : Int) : Array Value := #[.int .i64 sp, .int .i64 F]
theorem rul_rc {w : World} {cs : Array Value} {r : RR} (R : Rul w cs r) : ∃ s, cs = rc r s := by
  obtain ⟨A6, k6, A7, k7, A8, k8, A9, k9, A10, k10, A11, k11, A12, k12, A13, k13, A14, k14, e, _⟩ := rul_opens R
  exact ⟨⟨_, _, _, _, _, _, _, _, _⟩, e⟩
/-- All blocks that are no workers and no meters stay. -/
def Keep (w W : World) : Prop := ∀ (k : Nat) (cs : Array Value) (t : TypeId), t ≠ 73 → t ≠ 75 → w.heap[k]? = some (.cells cs t (0, 0)) → W.heap[k]? = some (.cells cs t (0, 0))
theorem Keep.refl (w : World) : Keep w w := fun _ _ _ _ _ h => h
theorem Keep.trans {w W V : World} (h : Keep w W) (h' : Keep W V) : Keep w V := fun k cs t ht hu e => h' k cs t ht hu (h k cs t ht hu e)
theorem keep_below {w W : World} (h : Below w.heap.size w W) : Keep w W := fun _ _ _ _ _ e => blk_below e h
theorem keep_set {W : World} {g t0 : Nat} {cs0 : Array Value} (hg : W.heap[g]? = some (.cells cs0 t0 (0, 0))) (ht0 : t0 = 73 ∨ t0 = 75) (j : Nat) (u : Value) : Keep W (W.setCell ⟨g, j, none⟩ u) := fun k cs t ht hu e => (Below.heap_setCell W ⟨g, j, none⟩ u k (fun q => by
  subst q
  rw [hg] at e
  injection e with e
  injection e with _ e
  rcases ht0 with q | q
  · exact ht (e.symm.trans q)
  · exact hu (e.symm.trans q))).trans e
theorem keep_R {w W : World} (hk : Keep w W) {b : Nat} {v : Value} {l : List Int} (h : Kd.R (Kd.int .i64) 3 w b (fun _ => True) v l) : Kd.R (Kd.int .i64) 3 W b (fun _ => True) v l := by
  obtain ⟨h0, inner, hown, hr⟩ := h
  refine ⟨h0, inner, ?_, hr⟩
  obtain ⟨hl, h1 | ⟨g, cap, cur, e, hb, hh, r⟩⟩ := hown
  · exact ⟨hl, Or.inl h1⟩
  · exact ⟨hl, Or.inr ⟨g, cap, cur, e, hb, hk _ _ _ (by decide) (by decide) hh, r⟩⟩
section
variable {ρ : Operand → Value} {o : Oper} {w : World}
/-- The rule of a worker. -/
theorem run_ldr {x : Operand} {g gm : Nat} {r : RR} {s : Sl} {st from_ to_ ct : Int} {v : Value} (ho : o.op = .load 29 x) (hx : ρ x = .pointer (some ⟨g, 0, none⟩)) (h : w.heap[g]? = some (.cells (wc r s st from_ to_ gm ct v) 75 (0, 0))) : (execOp ρ o).run Tryz.prog w = .ok (.value (.agg (rc r s))) w := by
  have hl : (loadCells ⟨g, 0, none⟩ (rc r s).toList.length).run Tryz.prog w = .ok (rc r s).toList.toArray w :=
    run_loadCells_list (P := Tryz.prog) w ⟨g, 0, none⟩ (rc r s).toList (fun j u hv => by
      have hadd : (⟨g, 0, none⟩ : Addr).add j = ⟨g, j, none⟩ := by unfold Addr.add; split <;> simp_all
      rw [hadd, blk_cell h j]
      have hj : j < 16 := (List.getElem?_eq_some_iff.1 hv).1
      have : wc r s st from_ to_ gm ct v = rc r s ++ #[.int .i64 st, .int .i64 from_, .int .i64 to_, .pointer (some ⟨gm, 0, none⟩), .int .i64 ct, v] := rfl
      rw [this, Array.getElem?_append_left hj]
      simpa using hv)
  have hi := i25
  have hr : (Instr.loadAt 29 (.pointer (some ⟨g, 0, none⟩))).run Tryz.prog w = .ok (.agg (rc r s)) w := by
    unfold Instr.loadAt
    rw [Sem.run_bind, sure_]
    have hagg : (isAgg 29).run Tryz.prog w = .ok true w := by
      unfold isAgg
      rw [Sem.run_bind, run_underlying Tryz.underlying29 w]
      rfl
    cases hq : Tryz.prog.info? 29 with
    | none => rw [hq] at hi; cases hi
    | some i =>
      rw [hq] at hi
      have hs : i.size = 16 := Option.some.inj hi
      simp only [Array.length_toList, Array.toArray_toList] at hl
      have hl' : (loadCells ⟨g, 0, none⟩ 16).run Tryz.prog w = .ok (rc r s) w := hl
      simp [loadVar, Sem.run_bind, Result.andThen, hagg, sizeOf, typeInfo, hq, hs, hl']
  unfold execOp
  rw [ho]
  show ((do pure (Next.value (← Instr.loadAt 29 (ρ x))) : Sem Next)).run Tryz.prog w = _
  rw [hx, Sem.run_bind, hr]
  rfl
end
section
variable {N : Nat} {E : Env} {a : Act} {ops : Array Oper} {rest : List Oper} {Q : Exit → Act → World → Prop} {w w0 w1 : World} {o oi : Oper} {d : Nat} {L : List (Nat × Obj)} {fuel : Nat}
theorem ldr_ (K : Kn N E a) (M : On L w0 w) (k : Nat) {g gm : Nat} {r : RR} {s : Sl} {st from_ to_ ct : Int} {v : Value} {x : Operand} (hL : L[k]? = some (g, .cells (wc r s st from_ to_ gm ct v) 75 (0, 0))) (hd : o.dst = some d) (hb : Nat.blt d N = true) (hw : wantE ops E o = some true) (hop : o.op = .load 29 x) (hp : evo E x = some (.pointer (some ⟨g, 0, none⟩)))
    (h : ∀ a', Kn N ((d, .agg (rc r s)) :: E) a' → wpList Tryz.prog ops Q rest a' w) : wpList Tryz.prog ops Q (o :: rest) a w :=
  val_ K hd hb hw (run_ldr hop (K.of hp) (M.me k _ _ hL)) h
theorem dldr_ {n' m0 : Nat} (m i : Nat) (K : Kn N E a) (M : On L w0 w) (k : Nat) {g gm : Nat} {r : RR} {s : Sl} {st from_ to_ ct : Int} {v : Value} {x : Operand} (hi : ops[i]? = some oi) (hL : L[k]? = some (g, .cells (wc r s st from_ to_ gm ct v) 75 (0, 0))) (hd : oi.dst = some d) (hb : Nat.blt d N = true) (hw : wantE ops E oi = some true) (hop : oi.op = .load 29 x) (hp : evo E x = some (.pointer (some ⟨g, 0, none⟩))) (hl : takeB .any ops [] (bts n' m0) (bts n' m) i = true)
    (h : ∀ a', Kn N ((d, .agg (rc r s)) :: E) a' → wpAnyLast Tryz.prog .any ops Q (On L w0) [] fuel (bts n' m) a' w) (hQ : ∀ c a w d v, Q (.panic c) (a.put (some d) v) w → Q (.panic c) a w := by exact fun _ _ _ _ _ h => h) : wpAnyLast Tryz.prog .any ops Q (On L w0) [] (fuel + 1) (bts n' m0) a w :=
  dt_ m i K M hi hd hb hw hl (fun W hW => run_ldr hop (K.of hp) (hW.me k _ _ hL)) h hQ
/-- A call that the machine answers itself. -/
theorem xc_ {f : FuncId} {xs : Array Operand} {ts : Array TypeId} {args : List Value} {v : Value} (K : Kn N E a) (hd : o.dst = some d) (hl : Nat.blt d N = true) (hw : wantE ops E o = some true) (hop : o.op = .call { callee := .value (.func f), args := xs, argTypes := ts }) (hargs : O.evs E xs.toList = some args) (hr : (callFunc f args.toArray).run Tryz.prog w = .ok (.value v) w1)
    (h : ∀ a', Kn N ((d, v) :: E) a' → wpList Tryz.prog ops Q rest a' w1) : wpList Tryz.prog ops Q (o :: rest) a w := by
  have ha : xs.map a.eval = args.toArray := by
    obtain ⟨xs⟩ := xs
    have := K.ofs hargs
    simp at this ⊢
    exact this
  refine val_ K hd hl hw ?_ h
  unfold execOp
  simp [hop, resolve, Deferred.ofValue, invoke, Act.eval, ha, hr]
end
/-- A counter is raised. -/
theorem add_on {L : List (Nat × Obj)} {w0 W : World} (M : On L w0 W) (k : Nat) {gm : Nat} {sp F n : Int} (hL : L[k]? = some (gm, .cells (mc sp F) 73 (0, 0))) (G : w0.heap.size ≤ gm) (h1 : 0 ≤ sp ∧ sp ≤ 4611686018427387904) (h2 : 0 ≤ n ∧ n ≤ 4611686018427387) :
    Calls Tryz.prog 72 #[.pointer (some ⟨gm, 0, none⟩), .int .i64 n] W fun e W' => e = .returned (.int .i64 (sp + n)) ∧ On (L.set k (gm, .cells (mc (sp + n) F) 73 (0, 0))) w0 W' ∧ Keep W W' := by
  refine en_ Tryz.func72 rfl rfl rfl fun a K => sr_ (run_ 1 K rfl fun a K => nil_ (sr_ (run_ 4 K rfl fun a K => ?_)))
  have hc : W.cell? ⟨gm, 0, none⟩ = some (.int .i64 sp) := M.cell hL 0
  have hz := blk_frozen (M.me k _ _ hL) 0
  have hs : (Op.intArith .add .i64 sp n).run Tryz.prog W = .ok (.int .i64 (sp + n)) W := by
    have : IntKind.i64.wrap (sp + n) = sp + n := by rw [i64_w, w64 (by omega) (by omega)]
    simp [Op.intArith, this]
  refine xc_ K rfl rfl rfl rfl rfl (run_call_add (f := 77) Tryz.func77 (by kernel_rfl) rfl (by kernel_rfl) .i64 (by kernel_rfl) hc hz hs) fun a K => ?_
  refine run_ 1 K rfl fun a K => nil_ (ret_ rfl K rfl ⟨rfl, ?_, keep_set (M.me k _ _ hL) (Or.inl rfl) 0 _⟩)
  exact M.setCell k hL G 0 _
theorem read_on {L : List (Nat × Obj)} {w0 W : World} (M : On L w0 W) (k : Nat) {gm : Nat} {sp F : Int} (hL : L[k]? = some (gm, .cells (mc sp F) 73 (0, 0))) :
    Calls Tryz.prog 31 #[.pointer (some ⟨gm, 0, none⟩)] W (Rets W (.int .i64 sp)) := by
  refine en_ Tryz.func31 rfl rfl rfl fun a K => sr_ (run_ 1 K rfl fun a K => nil_ (sr_ (run_ 3 K rfl fun a K => ?_)))
  have hc : W.cell? ⟨gm, 0, none⟩ = some (.int .i64 sp) := M.cell hL 0
  refine xc_ K rfl rfl rfl rfl rfl (run_call_load (f := 53) Tryz.func53 (by kernel_rfl) rfl (by kernel_rfl) .i64 (by kernel_rfl) hc) fun a K => ?_
  exact run_ 1 K rfl fun a K => nil_ (ret_ rfl K rfl ⟨rfl, Below.refl _ _⟩)
theorem spend_on {L : List (Nat × Obj)} {w0 W : World} (M : On L w0 W) (k : Nat) {gm : Nat} {sp F n : Int} (hL : L[k]? = some (gm, .cells (mc sp F) 73 (0, 0))) (G : w0.heap.size ≤ gm) (h1 : 0 ≤ sp ∧ sp ≤ 4611686018427387904) (h2 : 0 ≤ n ∧ n ≤ 4611686018427387) :
    Calls Tryz.prog 65 #[.pointer (some ⟨gm, 0, none⟩), .int .i64 n] W fun e W' => e = .returned (.bool (decide (sp + n ≤ F))) ∧ On (L.set k (gm, .cells (mc (sp + n) F) 73 (0, 0))) w0 W' ∧ Keep W W' := by
  have fl : Tryz.prog.follows .mixedOrders = true := by kernel_rfl
  refine en_ Tryz.func65 rfl rfl rfl fun a K => sr_ (run_ 1 K rfl fun a K => nil_ (dseq_ (S := fun V => V.cell? ⟨gm, 1, none⟩ = some (.int .i64 F)) fl rfl rfl (M.drew.cell hL 1) (dp_ 239 4 [0, 1, 2, 3, 5, 6, 7] K rfl rfl (by kernel_rfl) fun a K => dt_ 495 8 K (M.drew.cell hL 1) rfl rfl rfl rfl (by kernel_rfl) (fun V hV => run_ld rfl rfl (K.of (x := .tmp 12) rfl) hV) fun a K => dc_ 511 4 K Tryz.func72 (by kernel_rfl) rfl rfl rfl rfl rfl rfl rfl (by kernel_rfl) ((add_on M.drew k hL G h1 h2).mono ?_))))
  rintro _ W1 ⟨rfl, M1, k1⟩
  have hk : k < L.length := (List.getElem?_eq_some_iff.1 hL).1
  refine ⟨_, rfl, M1.cell (List.getElem?_set_self hk) 1, fun a K => dp_ 2047 0 [9, 10] K rfl rfl (by kernel_rfl) fun a K => dend_ (by kernel_rfl) (ret_ rfl K rfl ⟨rfl, M1, (keep_below (below_drew (Below.refl _ _))).trans k1⟩)⟩
theorem ends_on {L : List (Nat × Obj)} {w0 W : World} (M : On L w0 W) {gw gm : Nat} {r : RR} {s : Sl} {st from_ to_ ct A : Int} {v : Value} (hL : L[0]? = some (gw, .cells (wc r s st from_ to_ gm ct v) 75 (0, 0))) :
    Calls Tryz.prog 51 #[.pointer (some ⟨gw, 0, none⟩), .int .i64 A] W (Rets W (.bool (endsV r to_ ct A))) := by
  have fl : Tryz.prog.follows .mixedOrders = true := by kernel_rfl
  replace M := M.here
  refine en_ Tryz.func51 rfl rfl rfl fun a K => sr_ (run_ 1 K rfl fun a K => nil_ ?_)
  refine dseq_ fl rfl rfl M.drew ( dp_ 15 39 [0, 1, 2, 3] K rfl rfl (by kernel_rfl) fun a K => dld_ 31 4 K M.drew 0 rfl hL rfl rfl rfl rfl rfl rfl rfl (by kernel_rfl) fun a K => dp_ 127 36 [5, 6] K rfl rfl (by kernel_rfl) fun a K => ?_)
  replace M := M.drew
  by_cases c1 : to_ < A
  case pos =>
    refine dp_ 8796093022207 0 [7, 8, 9, 10, 11, 12, 13, 14, 15, 16, 17, 18, 19, 20, 21, 22, 23, 24, 25, 26, 27, 28, 29, 30, 31, 32, 33, 34, 35, 36, 37, 38, 39, 40, 41, 42] (fx_ K (decide_eq_true c1)) rfl rfl (by kernel_rfl) fun a K => dend_ (by kernel_rfl) ?_
    exact ret_ rfl K rfl ⟨by simp [endsV, c1], M.bl⟩
  case neg =>
    refine dp_ 2047 32 [7, 8, 9, 10] (fx_ K (decide_eq_false c1)) rfl rfl (by kernel_rfl) fun a K => dld_ 4095 11 K M 0 rfl hL rfl rfl rfl rfl rfl rfl rfl (by kernel_rfl) fun a K => dp_ 8191 30 [12] K rfl rfl (by kernel_rfl) fun a K => ?_
    cases hu : r.un with
    | true =>
      refine dp_ 262143 25 [13, 14, 15, 16, 17] (fx_ K hu) rfl rfl (by kernel_rfl) fun a K => dld_ 524287 18 K M 0 rfl hL rfl rfl rfl rfl rfl rfl rfl (by kernel_rfl) fun a K => dp_ 8388607 20 [19, 20, 21, 22] K rfl rfl (by kernel_rfl) fun a K => ?_
      by_cases c2 : r.ua < A
      case pos =>
        refine dp_ 8796093022207 0 [23, 24, 25, 26, 27, 28, 29, 30, 31, 32, 33, 34, 35, 36, 37, 38, 39, 40, 41, 42] (fx_ K (decide_eq_true c2)) rfl rfl (by kernel_rfl) fun a K => dend_ (by kernel_rfl) ?_
        exact ret_ rfl K rfl ⟨by simp [endsV, c1, hu, c2], M.bl⟩
      case neg =>
        refine dp_ 134217727 16 [23, 24, 25, 26] (fx_ K (decide_eq_false c2)) rfl rfl (by kernel_rfl) fun a K => dld_ 268435455 27 K M 0 rfl hL rfl rfl rfl rfl rfl rfl rfl (by kernel_rfl) fun a K => dp_ 1073741823 13 [28, 29] K rfl rfl (by kernel_rfl) fun a K => ?_
        by_cases c3 : 0 < r.ct
        case pos =>
          refine dp_ 266287972351 6 [30, 31, 32, 34, 35, 36, 37] (fx_ K (decide_eq_true c3)) rfl rfl (by kernel_rfl) fun a K => dld_ 274877906943 33 K M 0 rfl hL rfl rfl rfl rfl rfl rfl rfl (by kernel_rfl) fun a K => dld_ 549755813887 38 K M 0 rfl hL rfl rfl rfl rfl rfl rfl rfl (by kernel_rfl) fun a K => dp_ 8796093022207 0 [39, 40, 41, 42] K rfl rfl (by kernel_rfl) fun a K => dend_ (by kernel_rfl) ?_
          exact ret_ rfl K rfl ⟨by simp [endsV, c1, hu, c3, c2], M.bl⟩
        case neg =>
          refine dp_ 8796093022207 0 [30, 31, 32, 33, 34, 35, 36, 37, 38, 39, 40, 41, 42] (fx_ K (decide_eq_false c3)) rfl rfl (by kernel_rfl) fun a K => dend_ (by kernel_rfl) ?_
          exact ret_ rfl K rfl ⟨by simp [endsV, c1, hu, c3, c2], M.bl⟩
    | false =>
      refine dp_ 134217727 16 [13, 14, 15, 16, 17, 18, 19, 20, 21, 22, 23, 24, 25, 26] (fx_ K hu) rfl rfl (by kernel_rfl) fun a K => dld_ 268435455 27 K M 0 rfl hL rfl rfl rfl rfl rfl rfl rfl (by kernel_rfl) fun a K => dp_ 1073741823 13 [28, 29] K rfl rfl (by kernel_rfl) fun a K => ?_
      by_cases c3 : 0 < r.ct
      case pos =>
        refine dp_ 266287972351 6 [30, 31, 32, 34, 35, 36, 37] (fx_ K (decide_eq_true c3)) rfl rfl (by kernel_rfl) fun a K => dld_ 274877906943 33 K M 0 rfl hL rfl rfl rfl rfl rfl rfl rfl (by kernel_rfl) fun a K => dld_ 549755813887 38 K M 0 rfl hL rfl rfl rfl rfl rfl rfl rfl (by kernel_rfl) fun a K => dp_ 8796093022207 0 [39, 40, 41, 42] K rfl rfl (by kernel_rfl) fun a K => dend_ (by kernel_rfl) ?_
        exact ret_ rfl K rfl ⟨by simp [endsV, c1, hu, c3], M.bl⟩
      case neg =>
        refine dp_ 8796093022207 0 [30, 31, 32, 33, 34, 35, 36, 37, 38, 39, 40, 41, 42] (fx_ K (decide_eq_false c3)) rfl rfl (by kernel_rfl) fun a K => dend_ (by kernel_rfl) ?_
        exact ret_ rfl K rfl ⟨by simp [endsV, c1, hu, c3], M.bl⟩

end Go.Proofs.YtfinhaghgmnegaaGreat.Pure
