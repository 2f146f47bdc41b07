-- Walks over an environment: stores, appends: a text of this claim's own.
/- The parts of a worker of layer 23 as contracts. No condition beyond those each lemma names. -/
import Derived.Test.YtjjaiahfkiojlaaGreatMOx18
import Derived.Test.YtjjaiahfkiojlaaGreatMHS0
import Derived.Test.YtjjaiahfkiojlaaGreatMHS4
namespace Go.Proofs.YtjjaiahfkiojlaaGreat.O
open Go.RowKit Go.Deep Go.Proofs.YtjjaiahfkiojlaaGreatW.PrintWords Go.Proofs.YtjjaiahfkiojlaaGreatW.PrintLast Go.Proofs.YtjjaiahfkiojlaaGreatW.PrintMore
set_option maxRecDepth 100000
set_option linter.unusedVariables false
set_option linter.unusedSimpArgs false
section
variable {L : List (Nat × Obj)} {w0 W W2 : World}
theorem On.lt (h : On L w0 W) {p : Nat × Obj} (hp : p ∈ L) : p.1 < W.heap.size := by
  obtain ⟨k, hk, e⟩ := List.mem_iff_getElem.1 hp
  exact blk_lt (h.me k p.1 p.2 (by rw [List.getElem?_eq_getElem hk, e]))
theorem On.alloc (h : On L w0 W) (o : Obj) : On L w0 (W.alloc o) := ⟨below_alloc h.bl o, fun k g o' e => blk_alloc (h.me k g o' e) o, h.nd⟩
theorem On.other (h : On L w0 W) {k g : Nat} {o' : Obj} (hL : L[k]? = some (g, o')) {k' g' : Nat} {o : Obj} (q : ¬ k = k') (e : L[k']? = some (g', o)) : g' ≠ g := fun ee => by
  subst ee
  have h1 : (L.map (·.1))[k]? = some g' := by rw [List.getElem?_map, hL]; rfl
  have h2 : (L.map (·.1))[k']? = some g' := by rw [List.getElem?_map, e]; rfl
  have hk2 : k < (L.map (·.1)).length := by simpa using (List.getElem?_eq_some_iff.1 hL).1
  have hk3 : k' < (L.map (·.1)).length := by simpa using (List.getElem?_eq_some_iff.1 e).1
  rw [List.getElem?_eq_getElem hk2] at h1
  rw [List.getElem?_eq_getElem hk3] at h2
  exact q ((List.getElem_inj h.nd).1 ((Option.some.inj h1).trans (Option.some.inj h2).symm))
theorem set_fst {k g : Nat} {o o' : Obj} (hL : L[k]? = some (g, o)) : (L.set k (g, o')).map (·.1) = L.map (·.1) := by
  rw [List.map_set]
  have : (L.map (·.1))[k]? = some g := by rw [List.getElem?_map, hL]; rfl
  obtain ⟨hh, e2⟩ := List.getElem?_eq_some_iff.1 this
  rw [← e2]
  exact List.set_getElem_self hh
theorem On.setRow (h : On L w0 W) (k : Nat) {g : Nat} {cs cs' : Array Value} {t : TypeId} (hL : L[k]? = some (g, .cells cs t (0, 0))) (hg : w0.heap.size ≤ g) : On (L.set k (g, .cells cs' t (0, 0))) w0 (W.setRow g cs') := by
  have hk := (List.getElem?_eq_some_iff.1 hL).1
  refine ⟨⟨h.bl.os, h.bl.tape, h.bl.output, by rw [setRow_size]; exact h.bl.size, fun i hi => (setRow_other W g i cs' (by omega)).trans (h.bl.block i hi)⟩, fun k' g' o e => ?_, by rw [set_fst hL]; exact h.nd⟩
  by_cases q : k = k'
  · subst q
    rw [List.getElem?_set_self hk] at e
    obtain ⟨rfl, rfl⟩ := Prod.mk.inj (Option.some.inj e)
    exact setRow_heap W g cs cs' t (0, 0) (h.me k _ _ hL)
  · rw [List.getElem?_set_ne q] at e
    exact (setRow_other W g g' cs' (h.other hL q e)).trans (h.me k' g' o e)
theorem On.setCell (h : On L w0 W) (k : Nat) {g : Nat} {cs : Array Value} {t : TypeId} (hL : L[k]? = some (g, .cells cs t (0, 0))) (hg : w0.heap.size ≤ g) (i : Nat) (v : Value) : On (L.set k (g, .cells (cs.setIfInBounds i v) t (0, 0))) w0 (W.setCell ⟨g, i, none⟩ v) := by
  have hk := (List.getElem?_eq_some_iff.1 hL).1
  refine ⟨below_set h.bl hg, fun k' g' o e => ?_, ?_⟩
  · by_cases q : k = k'
    · subst q
      rw [List.getElem?_set_self hk] at e
      obtain ⟨rfl, rfl⟩ := Prod.mk.inj (Option.some.inj e)
      exact blk_set (h.me k _ _ hL) i v
    · rw [List.getElem?_set_ne q] at e
      have hne : g' ≠ g := h.other hL q e
      exact (Below.heap_setCell W ⟨g, i, none⟩ v g' hne).trans (h.me k' g' o e)
  · rw [set_fst hL]
    exact h.nd
end
/-- Own rows of numbers. -/
def Tw (Ls : List (Value × List Int)) (b : Nat) (W : World) : Prop := ∀ p ∈ Ls, Kd.R (Kd.int .i64) 3 W b (fun _ => True) p.1 p.2
theorem ty3 {t : Nat} (ht : t ≠ 3) : ∀ q, q ∈ 3 :: (Kd.int .i64).E → q ≠ t := fun q hq => by
  obtain rfl : q = 3 := by simpa [Kd.int, Kd.scalar] using hq
  exact fun e => ht e.symm
section
variable {Ls : List (Value × List Int)} {b : Nat} {W W2 : World}
theorem Tw.below (h : Tw Ls b W) (hb : Below W.heap.size W W2) : Tw Ls b W2 := fun p hp => Kd.R_below (h p hp) hb
theorem Tw.drew (h : Tw Ls b W) : Tw Ls b W.drew := fun p hp => Kd.R_drew (h p hp)
theorem Tw.set (h : Tw Ls b W) {g t : Nat} {cs : Array Value} (hb : W.heap[g]? = some (.cells cs t (0, 0))) (ht : t ≠ 3) (j : Nat) (u : Value) : Tw Ls b (W.setCell ⟨g, j, none⟩ u) := fun p hp => Kd.R_set (h p hp) hb (ty3 ht) j u
theorem Tw.row (h : Tw Ls b W) {g t : Nat} {cs : Array Value} (hb : W.heap[g]? = some (.cells cs t (0, 0))) (ht : t ≠ 3) (cs' : Array Value) : Tw Ls b (W.setRow g cs') := fun p hp => Kd.R_mono (Kd.R_move (Kd.R_types (h p hp) hb (ty3 ht)) (fun k hk => setRow_other W g k cs' hk.2)) (fun _ hk => hk.1)
theorem Tw.grown (h : Tw Ls b W) (hg : W.grownBy W2 none) : Tw Ls b W2 := fun p hp => Kd.R_grown (h p hp) hg (fun k _ => by simp)
theorem Tw.cons (h : Tw Ls b W) {b' : Nat} {v : Value} {l : List Int} (hv : Kd.R (Kd.int .i64) 3 W b' (fun _ => True) v l) (hb : b ≤ b') : Tw ((v, l) :: Ls) b W := fun p hp => by
  rcases List.mem_cons.1 hp with e | e
  · subst e; exact Kd.R_lower hv hb
  · exact h p e
end
section
variable {ρ : Operand → Value} {o : Oper} {w : World}
theorem run_st {t g i : Nat} {x y : Operand} {cs : Array Value} {tt : TypeId} {v : Value} (hv : okV t v = true) (ho : o.op = .store t x y) (hx : ρ x = .pointer (some ⟨g, i, none⟩)) (hy : ρ y = v) (hb : w.heap[g]? = some (.cells cs tt (0, 0))) (hi : i < cs.size) : (execOp ρ o).run Tryz.prog w = .ok .skip (w.setCell ⟨g, i, none⟩ v) := by
  have hc : w.cell? ⟨g, i, none⟩ = some cs[i] := (blk_cell hb i).trans (by rw [Array.getElem?_eq_getElem hi])
  have hf := blk_frozen hb i
  generalize cs[i] = old at hc
  unfold execOp; rw [ho]
  unfold okV at hv
  split at hv
  · unfold isI at hv
    rcases Bool.or_eq_true_iff.1 hv with e | e
    · obtain rfl := Nat.eq_of_beq_eq_true e; go_simp
    rcases Bool.or_eq_true_iff.1 e with e | e <;> (obtain rfl := Nat.eq_of_beq_eq_true e; go_simp)
  · obtain rfl := Nat.eq_of_beq_eq_true hv
    go_simp
  · unfold isL at hv
    rcases Bool.or_eq_true_iff.1 hv with e | e <;> (obtain rfl := Nat.eq_of_beq_eq_true e; go_simp)
  · obtain rfl := Nat.eq_of_beq_eq_true hv; go_simp
  · cases hv
theorem results_cell {fn : Func} {t g n : Nat} {T : TypeId} {tmps cs : Array Value} (h : fn.results = #[.cell t T]) (hp : tmps.getD t undef = .pointer (some ⟨g, 0, none⟩)) (hb : w.heap[g]? = some (.cells cs T (0, 0))) (ht : szE T = some n) (hs : cs.size = n) : (results fn tmps).run Tryz.prog w = .ok (.agg cs) w := by
  obtain ⟨hi, fs, hu⟩ := szE_info ht
  have hl := run_loadVar_row (P := Tryz.prog) w g T T cs (0, 0) _ hb hu rfl (by rw [hs]; exact hi)
  rw [Array.getD_eq_getD_getElem?] at hp
  simp [results, h, hp, asAddr, hl]
end
section
variable {N : Nat} {E : Env} {a : Act} {ops : Array Oper} {rest : List Oper} {Q : Exit → Act → World → Prop} {w w0 : World} {o : Oper} {d : Nat} {L : List (Nat × Obj)}
/-- A store into a cell of an own block. -/
theorem stc_ (K : Kn N E a) (M : On L w0 w) (k : Nat) {g i : Nat} {cs : Array Value} {tt t : Nat} {x y : Operand} {v : Value} (hL : L[k]? = some (g, .cells cs tt (0, 0))) (hg : w0.heap.size ≤ g) (hd : o.dst = none) (hw : wantE ops E o = some true) (hop : o.op = .store t x y) (hx : evo E x = some (.pointer (some ⟨g, i, none⟩))) (hy : evo E y = some v) (hv : okV t v = true) (hi : i < cs.size)
    (h : ∀ W, W = w.setCell ⟨g, i, none⟩ v → On (L.set k (g, .cells (cs.setIfInBounds i v) tt (0, 0))) w0 W → wpList Tryz.prog ops Q rest a W) : wpList Tryz.prog ops Q (o :: rest) a w :=
  skp_ hd (want_of K hw) (run_st hv hop (K.of hx) (K.of hy) (M.me k _ _ hL) hi) (h _ rfl (M.setCell k hL hg i v))
/-- A store of a whole struct into an own block. -/
theorem stw_ (K : Kn N E a) (M : On L w0 w) (k : Nat) {g n t : Nat} {cs cs' : Array Value} {x y : Operand} (hL : L[k]? = some (g, .cells cs t (0, 0))) (hg : w0.heap.size ≤ g) (hd : o.dst = none) (hw : wantE ops E o = some true) (hop : o.op = .store t x y) (hx : evo E x = some (.pointer (some ⟨g, 0, none⟩))) (hy : evo E y = some (.agg cs')) (ht : szE t = some n) (hs : cs.size = n) (hs' : cs'.size = n) (h1 : cs'.toList.all (·.oneCell') = true)
    (h : ∀ W, W = w.setRow g cs' → On (L.set k (g, .cells cs' t (0, 0))) w0 W → wpList Tryz.prog ops Q rest a W) : wpList Tryz.prog ops Q (o :: rest) a w := by
  have hr := run_storeVar_row (P := Tryz.prog) w g t t cs cs' (M.me k _ _ hL) (by rw [hs']; exact (szE_info ht).1) (by rw [hs, hs']) (by rw [← Array.all_toList]; exact h1)
  refine skp_ hd (want_of K hw) (w1 := w.setRow g cs') ?_ (h _ rfl (M.setRow k hL hg))
  have hq : (Instr.storeAt t (.pointer (some ⟨g, 0, none⟩)) (.agg cs')).run Tryz.prog w = .ok () (w.setRow g cs') := by
    unfold Instr.storeAt
    rw [Sem.run_bind, sure_]
    exact hr
  unfold execOp
  rw [hop]
  show ((do Instr.storeAt t (a.eval x) (a.eval y); pure Next.skip : Sem Next)).run Tryz.prog _ = _
  rw [K.of hx, K.of hy, Sem.run_bind, hq]
  rfl
/-- A new block, and a struct stored to it; the block is above. -/
theorem nwG_ {o2 : Oper} (K : Kn N E a) (M : On L w0 w) {n t : Nat} {cs : Array Value} {y : Operand} (hd : o.dst = some d) (hb : Nat.blt d N = true) (hw : wantE ops E o = some true) (hop : o.op = .alloc t) (hd2 : o2.dst = none) (hg2 : o2.guard = none) (hop2 : o2.op = .store t (.tmp d) y)
    (hy : ∀ v, evo ((d, v) :: E) y = some (.agg cs)) (ht : szE t = some n) (hs : cs.size = n) (h1 : cs.toList.all (·.oneCell') = true)
    (h : ∀ a' g W, w0.heap.size ≤ g → On ((g, .cells cs t (0, 0)) :: L) w0 W → Kn N ((d, .pointer (some ⟨g, 0, none⟩)) :: E) a' → wpList Tryz.prog ops Q rest a' W) : wpList Tryz.prog ops Q (o :: o2 :: rest) a w := by
  obtain ⟨z, hz, hzs⟩ := szE_zero ht
  exact val_ K hd hb hw (run_al hz hop) (fun a' K' => skp_ hd2 (want_of K' (by unfold wantE; rw [hg2])) (run_sta ht hs h1 hop2 (K'.of (x := .tmp d) (by unfold evo look; simp)) (K'.of (hy _)) hzs) (h a' _ _ M.bl.size (M.new _) K'))
/-- A new block of zeros. -/
theorem al_ (K : Kn N E a) (M : On L w0 w) {n t : Nat} (ht : szE t = some n) (hd : o.dst = some d) (hb : Nat.blt d N = true) (hw : wantE ops E o = some true) (hop : o.op = .alloc t)
    (h : ∀ a' g W z, z.size = n → w0.heap.size ≤ g → On ((g, .cells z t (0, 0)) :: L) w0 W → Kn N ((d, .pointer (some ⟨g, 0, none⟩)) :: E) a' → wpList Tryz.prog ops Q rest a' W) : wpList Tryz.prog ops Q (o :: rest) a w := by
  obtain ⟨z, hz, hzs⟩ := szE_zero ht
  exact val_ K hd hb hw (run_al hz hop) (fun a' K' => h a' _ _ z hzs M.bl.size (M.new _) K')
/-- An append of what is read to an own row. -/
theorem ap_ {α : Type} {k : Kd α} {Rr : α → List Value → Prop} {t e : TypeId} {z : Value} {bytes : Nat} {s x : Operand} {v : Value} {xs ys : List α} {A : Option Addr} {m c : Nat} (K : Kn N E a) (M : On L w0 w) (hd : o.dst = some d) (hb : Nat.blt d N = true) (hgd : o.guard = none)
    (ho : o.op = .call { callee := .builtin .append, args := #[s, x], argTypes := #[t, t] }) (ht : Tryz.prog.underlying t = some (.slice e)) (hinfo : (Tryz.prog.info? e).map (fun i => (i.zero, i.size, i.bytes)) = some (some z, k.sz, bytes)) (hz : z.cells.size = k.sz) (hs0 : 0 < k.sz) (hb0 : 0 < bytes)
    (hs : evo E s = some v) (hx : evo E x = some (.slice A m c)) (HO : k.R e w w0.heap.size (fun _ => True) v xs) (HR : ReadsRow Rr k.sz w A m ys) (hKM : ∀ x cs, Rr x cs → k.M w w0.heap.size (fun _ => False) x cs) (hfar : ∀ p ∈ L, some p.1 ≠ v.ownBlock) (hl : (xs.length + m) * bytes ≤ 140737488355328)
    (h : ∀ a' v1 w1, w.grownBy w1 v.ownBlock → k.R e w1 w0.heap.size (fun _ => True) v1 (xs ++ ys) → On L w0 w1 → (∀ p ∈ L, some p.1 ≠ v1.ownBlock) → Kn N ((d, v1) :: E) a' → wpList Tryz.prog ops Q rest a' w1) : wpList Tryz.prog ops Q (o :: rest) a w := by
  refine Kd.R_append_rows k w0.heap.size hgd s x t e z bytes ho ht hinfo hz hs0 hb0 v xs ys A m c (fun _ => True) (fun _ => False) (K.of hs) (K.of hx) HO HR hKM (fun _ q => q.elim) (fun _ _ => trivial) M.bl M.bl.size hl ?_
  intro v1 w1 h1 h2 h3 h4
  rw [hd]
  refine h _ v1 w1 h3 h1 ⟨h2, fun k g o e => ?_, M.nd⟩ (fun p hp => ?_) (K.put v1 hb)
  · exact blk_grown (M.me k g o e) h3 (hfar (g, o) (List.mem_of_getElem? e))
  · rcases h4 with h4 | ⟨b, h4, h5⟩
    · rw [h4]; exact hfar p hp
    · rw [h4]
      intro q
      have := M.lt hp
      have := Option.some.inj q
      omega
theorem retc_ {fn : Func} {R : Ending → World → Prop} [hQ : RetTo Q fn R] {r k g n : Nat} {T : TypeId} {cs : Array Value} (hr : fn.results = #[.cell r T]) (K : Kn N E a) (M : On L w0 w) (hL : L[k]? = some (g, .cells cs T (0, 0))) (h : look E r = some (.pointer (some ⟨g, 0, none⟩))) (ht : szE T = some n) (hs : cs.size = n) (q : R (.returned (.agg cs)) w) : Code.ret.wp Tryz.prog Q a w :=
  wp_ret (hQ.go _ _ (bodyPost_ret (results_cell hr (val_eq K h) (M.me k _ _ hL) ht hs) K.df q))
end
section
variable {N : Nat} {E : Env} {a : Act} {ops : Array Oper} {Q : Exit → Act → World → Prop} {w w0 w1 : World} {oi : Oper} {S : World → Prop} {fuel : Nat}
/-- A store, the one operation that may come up now. -/
theorem ds_ {n m0 : Nat} (m i : Nat) (K : Kn N E a) (hi : ops[i]? = some oi) (hd : oi.dst = none) (hw : wantE ops E oi = some true) (hl : readyB .any ops (bts n m0) (bts n m) i = true) (hrun : (execOp a.eval oi).run Tryz.prog w = .ok .skip w1) (hS : S w1) (h : wpAnyLast Tryz.prog .any ops Q S [] fuel (bts n m) a w1) : wpAnyLast Tryz.prog .any ops Q S [] (fuel + 1) (bts n m0) a w := by
  refine one_ _ hi hd hl (by simp) (fun R hR => ?_)
  rw [if_pos (want_of K hw)]
  unfold Oper.wp
  rw [hrun, Oper.upon_skip, hd]
  exact hR.out _ _ hS (fun _ => h)
theorem dst_ {L : List (Nat × Obj)} {n m0 : Nat} (m i : Nat) (K : Kn N E a) (M : On L w0 w) (k : Nat) {g f : Nat} {cs : Array Value} {tt t : Nat} {x y : Operand} {v : Value} (hi : ops[i]? = some oi) (hL : L[k]? = some (g, .cells cs tt (0, 0))) (hg : w0.heap.size ≤ g) (hd : oi.dst = none) (hw : wantE ops E oi = some true) (hop : oi.op = .store t x y) (hx : evo E x = some (.pointer (some ⟨g, f, none⟩))) (hy : evo E y = some v) (hv : okV t v = true) (hf : f < cs.size) (hl : readyB .any ops (bts n m0) (bts n m) i = true)
    (hS : ∀ W, On (L.set k (g, .cells (cs.setIfInBounds f v) tt (0, 0))) w0 W → S W) (h : ∀ W, W = w.setCell ⟨g, f, none⟩ v → On (L.set k (g, .cells (cs.setIfInBounds f v) tt (0, 0))) w0 W → wpAnyLast Tryz.prog .any ops Q S [] fuel (bts n m) a W) : wpAnyLast Tryz.prog .any ops Q S [] (fuel + 1) (bts n m0) a w :=
  ds_ m i K hi hd hw hl (run_st hv hop (K.of hx) (K.of hy) (M.me k _ _ hL) hf) (hS _ (M.setCell k hL hg f v)) (h _ rfl (M.setCell k hL hg f v))
end
end Go.Proofs.YtjjaiahfkiojlaaGreat.O

namespace Go.Proofs.YtjjaiahfkiojlaaGreat.Pure
open Go.RowKit Go.Proofs.YtjjaiahfkiojlaaGreat.O Go.Proofs.YtjjaiahfkiojlaaGreatW.PrintWords Go.Proofs.YtjjaiahfkiojlaaGreatW.PrintLast
open Go.Proofs.YtjjaiahfkiojlaaGreat.Civ
set_option linter.unusedVariables false
set_option linter.unusedSimpArgs false
set_option maxRecDepth 100000
set_option maxHeartbeats 4000000
/-- The slices of a rule's lists. -/
structure Sl where
  s6 : Value
  s7 : Value
  s8 : Value
  s9 : Value
  s10 : Value
  s11 : Value
  s12 : Value
  s13 : Value
  s14 : Value
def rc (r : RR) (s : Sl) : Array Value := c16 r s.s6 s.s7 s.s8 s.s9 s.s10 s.s11 s.s12 s.s13 s.s14
/-- The cells of a worker. -/
def wc (r : RR) (s : Sl) (st from_ to_ : Int) (gm : Nat) (ct : Int) (v : Value) : Array Value := #[.int .i64 r.fr, .int .i64 r.iv, .int .i64 r.ct, .bool r.un, .int .i64 r.ua, .bool r.utc, s.s6, s.s7, s.s8, s.s9, s.s10, s.s11, s.s12, s.s13, s.s14, .int .i64 r.wk, .int .i64 st, .int .i64 from_, .int .i64 to_, .pointer (some ⟨gm, 0, none⟩), .int .i64 ct, v]
def mc (sp F : Int) : Array Value := #[.int .i64 sp, .int .i64 F]
theorem rul_rc {w : World} {cs : Array Value} {r : RR} (R : Rul w cs r) : ∃ s, cs = rc r s := by
  obtain ⟨A6, k6, A7, k7, A8, k8, A9, k9, A10, k10, A11, k11, A12, k12, A13, k13, A14, k14, e, _⟩ := rul_opens R
  exact ⟨⟨_, _, _, _, _, _, _, _, _⟩, e⟩
/-- All blocks that are no workers and no meters stay. -/
def Keep (w W : World) : Prop := ∀ (k : Nat) (cs : Array Value) (t : TypeId), t ≠ 84 → t ≠ 86 → w.heap[k]? = some (.cells cs t (0, 0)) → W.heap[k]? = some (.cells cs t (0, 0))
theorem Keep.refl (w : World) : Keep w w := fun _ _ _ _ _ h => h
theorem Keep.trans {w W V : World} (h : Keep w W) (h' : Keep W V) : Keep w V := fun k cs t ht hu e => h' k cs t ht hu (h k cs t ht hu e)
theorem keep_below {w W : World} (h : Below w.heap.size w W) : Keep w W := fun _ _ _ _ _ e => blk_below e h
theorem keep_set {W : World} {g t0 : Nat} {cs0 : Array Value} (hg : W.heap[g]? = some (.cells cs0 t0 (0, 0))) (ht0 : t0 = 84 ∨ t0 = 86) (j : Nat) (u : Value) : Keep W (W.setCell ⟨g, j, none⟩ u) := fun k cs t ht hu e => (Below.heap_setCell W ⟨g, j, none⟩ u k (fun q => by
  subst q
  rw [hg] at e
  injection e with e
  injection e with _ e
  rcases ht0 with q | q
  · exact ht (e.symm.trans q)
  · exact hu (e.symm.trans q))).trans e
theorem keep_R {w W : World} (hk : Keep w W) {b : Nat} {v : Value} {l : List Int} (h : Kd.R (Kd.int .i64) 3 w b (fun _ => True) v l) : Kd.R (Kd.int .i64) 3 W b (fun _ => True) v l := by
  obtain ⟨h0, inner, hown, hr⟩ := h
  refine ⟨h0, inner, ?_, hr⟩
  obtain ⟨hl, h1 | ⟨g, cap, cur, e, hb, hh, r⟩⟩ := hown
  · exact ⟨hl, Or.inl h1⟩
  · exact ⟨hl, Or.inr ⟨g, cap, cur, e, hb, hk _ _ _ (by decide) (by decide) hh, r⟩⟩
section
variable {ρ : Operand → Value} {o : Oper} {w : World}
/-- The rule of a worker. -/
theorem run_ldr {x : Operand} {g gm : Nat} {r : RR} {s : Sl} {st from_ to_ ct : Int} {v : Value} (ho : o.op = .load 25 x) (hx : ρ x = .pointer (some ⟨g, 0, none⟩)) (h : w.heap[g]? = some (.cells (wc r s st from_ to_ gm ct v) 86 (0, 0))) : (execOp ρ o).run Tryz.prog w = .ok (.value (.agg (rc r s))) w := by
  have hl : (loadCells ⟨g, 0, none⟩ (rc r s).toList.length).run Tryz.prog w = .ok (rc r s).toList.toArray w :=
    run_loadCells_list (P := Tryz.prog) w ⟨g, 0, none⟩ (rc r s).toList (fun j u hv => by
      have hadd : (⟨g, 0, none⟩ : Addr).add j = ⟨g, j, none⟩ := by unfold Addr.add; split <;> simp_all
      rw [hadd, blk_cell h j]
      have hj : j < 16 := (List.getElem?_eq_some_iff.1 hv).1
      have : wc r s st from_ to_ gm ct v = rc r s ++ #[.int .i64 st, .int .i64 from_, .int .i64 to_, .pointer (some ⟨gm, 0, none⟩), .int .i64 ct, v] := rfl
      rw [this, Array.getElem?_append_left hj]
      simpa using hv)
  have hi := i25
  have hr : (Instr.loadAt 25 (.pointer (some ⟨g, 0, none⟩))).run Tryz.prog w = .ok (.agg (rc r s)) w := by
    unfold Instr.loadAt
    rw [Sem.run_bind, sure_]
    have hagg : (isAgg 25).run Tryz.prog w = .ok true w := by
      unfold isAgg
      rw [Sem.run_bind, run_underlying Tryz.underlying25 w]
      rfl
    cases hq : Tryz.prog.info? 25 with
    | none => rw [hq] at hi; cases hi
    | some i =>
      rw [hq] at hi
      have hs : i.size = 16 := Option.some.inj hi
      simp only [Array.length_toList, Array.toArray_toList] at hl
      have hl' : (loadCells ⟨g, 0, none⟩ 16).run Tryz.prog w = .ok (rc r s) w := hl
      simp [loadVar, Sem.run_bind, Result.andThen, hagg, sizeOf, typeInfo, hq, hs, hl']
  unfold execOp
  rw [ho]
  show ((do pure (Next.value (← Instr.loadAt 25 (ρ x))) : Sem Next)).run Tryz.prog w = _
  rw [hx, Sem.run_bind, hr]
  rfl
end
section
variable {N : Nat} {E : Env} {a : Act} {ops : Array Oper} {rest : List Oper} {Q : Exit → Act → World → Prop} {w w0 w1 : World} {o oi : Oper} {d : Nat} {L : List (Nat × Obj)} {fuel : Nat}
theorem ldr_ (K : Kn N E a) (M : On L w0 w) (k : Nat) {g gm : Nat} {r : RR} {s : Sl} {st from_ to_ ct : Int} {v : Value} {x : Operand} (hL : L[k]? = some (g, .cells (wc r s st from_ to_ gm ct v) 86 (0, 0))) (hd : o.dst = some d) (hb : Nat.blt d N = true) (hw : wantE ops E o = some true) (hop : o.op = .load 25 x) (hp : evo E x = some (.pointer (some ⟨g, 0, none⟩)))
    (h : ∀ a', Kn N ((d, .agg (rc r s)) :: E) a' → wpList Tryz.prog ops Q rest a' w) : wpList Tryz.prog ops Q (o :: rest) a w :=
  val_ K hd hb hw (run_ldr hop (K.of hp) (M.me k _ _ hL)) h
theorem dldr_ {n' m0 : Nat} (m i : Nat) (K : Kn N E a) (M : On L w0 w) (k : Nat) {g gm : Nat} {r : RR} {s : Sl} {st from_ to_ ct : Int} {v : Value} {x : Operand} (hi : ops[i]? = some oi) (hL : L[k]? = some (g, .cells (wc r s st from_ to_ gm ct v) 86 (0, 0))) (hd : oi.dst = some d) (hb : Nat.blt d N = true) (hw : wantE ops E oi = some true) (hop : oi.op = .load 25 x) (hp : evo E x = some (.pointer (some ⟨g, 0, none⟩))) (hl : takeB .any ops [] (bts n' m0) (bts n' m) i = true)
    (h : ∀ a', Kn N ((d, .agg (rc r s)) :: E) a' → wpAnyLast Tryz.prog .any ops Q (On L w0) [] fuel (bts n' m) a' w) (hQ : ∀ c a w d v, Q (.panic c) (a.put (some d) v) w → Q (.panic c) a w := by exact fun _ _ _ _ _ h => h) : wpAnyLast Tryz.prog .any ops Q (On L w0) [] (fuel + 1) (bts n' m0) a w :=
  dt_ m i K M hi hd hb hw hl (fun W hW => run_ldr hop (K.of hp) (hW.me k _ _ hL)) h hQ
/-- A call that the machine answers itself. -/
theorem xc_ {f : FuncId} {xs : Array Operand} {ts : Array TypeId} {args : List Value} {v : Value} (K : Kn N E a) (hd : o.dst = some d) (hl : Nat.blt d N = true) (hw : wantE ops E o = some true) (hop : o.op = .call { callee := .value (.func f), args := xs, argTypes := ts }) (hargs : O.evs E xs.toList = some args) (hr : (callFunc f args.toArray).run Tryz.prog w = .ok (.value v) w1)
    (h : ∀ a', Kn N ((d, v) :: E) a' → wpList Tryz.prog ops Q rest a' w1) : wpList Tryz.prog ops Q (o :: rest) a w := by
  have ha : xs.map a.eval = args.toArray := by
    obtain ⟨xs⟩ := xs
    have := K.ofs hargs
    simp at this ⊢
    exact this
  refine val_ K hd hl hw ?_ h
  unfold execOp
  simp [hop, resolve, Deferred.ofValue, invoke, Act.eval, ha, hr]
end
/-- A counter is raised. -/
theorem add_on {L : List (Nat × Obj)} {w0 W : World} (M : On L w0 W) (k : Nat) {gm : Nat} {sp F n : Int} (hL : L[k]? = some (gm, .cells (mc sp F) 84 (0, 0))) (G : w0.heap.size ≤ gm) (h1 : 0 ≤ sp ∧ sp ≤ 4611686018427387904) (h2 : 0 ≤ n ∧ n ≤ 4611686018427387) :
    Calls Tryz.prog 120 #[.pointer (some ⟨gm, 0, none⟩), .int .i64 n] W fun e W' => e = .returned (.int .i64 (sp + n)) ∧ On (L.set k (gm, .cells (mc (sp + n) F) 84 (0, 0))) w0 W' ∧ Keep W W' := by
  refine en_ Tryz.func120 rfl rfl rfl fun a K => sr_ (run_ 1 K rfl fun a K => nil_ (sr_ (run_ 4 K rfl fun a K => ?_)))
  have hc : W.cell? ⟨gm, 0, none⟩ = some (.int .i64 sp) := M.cell hL 0
  have hz := blk_frozen (M.me k _ _ hL) 0
  have hs : (Op.intArith .add .i64 sp n).run Tryz.prog W = .ok (.int .i64 (sp + n)) W := by
    have : IntKind.i64.wrap (sp + n) = sp + n := by rw [i64_w, w64 (by omega) (by omega)]
    simp [Op.intArith, this]
  refine xc_ K rfl rfl rfl rfl rfl (run_call_add (f := 124) Tryz.func124 (by kernel_rfl) rfl (by kernel_rfl) .i64 (by kernel_rfl) hc hz hs) fun a K => ?_
  refine run_ 1 K rfl fun a K => nil_ (ret_ rfl K rfl ⟨rfl, ?_, keep_set (M.me k _ _ hL) (Or.inl rfl) 0 _⟩)
  exact M.setCell k hL G 0 _
theorem read_on {L : List (Nat × Obj)} {w0 W : World} (M : On L w0 W) (k : Nat) {gm : Nat} {sp F : Int} (hL : L[k]? = some (gm, .cells (mc sp F) 84 (0, 0))) :
    Calls Tryz.prog 50 #[.pointer (some ⟨gm, 0, none⟩)] W (Rets W (.int .i64 sp)) := by
  refine en_ Tryz.func50 rfl rfl rfl fun a K => sr_ (run_ 1 K rfl fun a K => nil_ (sr_ (run_ 3 K rfl fun a K => ?_)))
  have hc : W.cell? ⟨gm, 0, none⟩ = some (.int .i64 sp) := M.cell hL 0
  refine xc_ K rfl rfl rfl rfl rfl (run_call_load (f := 83) Tryz.func83 (by kernel_rfl) rfl (by kernel_rfl) .i64 (by kernel_rfl) hc) fun a K => ?_
  exact run_ 1 K rfl fun a K => nil_ (ret_ rfl K rfl ⟨rfl, Below.refl _ _⟩)
theorem spend_on {L : List (Nat × Obj)} {w0 W : World} (M : On L w0 W) (k : Nat) {gm : Nat} {sp F n : Int} (hL : L[k]? = some (gm, .cells (mc sp F) 84 (0, 0))) (G : w0.heap.size ≤ gm) (h1 : 0 ≤ sp ∧ sp ≤ 4611686018427387904) (h2 : 0 ≤ n ∧ n ≤ 4611686018427387) :
    Calls Tryz.prog 112 #[.pointer (some ⟨gm, 0, none⟩), .int .i64 n] W fun e W' => e = .returned (.bool (decide (sp + n ≤ F))) ∧ On (L.set k (gm, .cells (mc (sp + n) F) 84 (0, 0))) w0 W' ∧ Keep W W' := by
  have fl : Tryz.prog.follows .mixedOrders = true := by kernel_rfl
  refine en_ Tryz.func112 rfl rfl rfl fun a K => sr_ (run_ 1 K rfl fun a K => nil_ (dseq_ (S := fun V => V.cell? ⟨gm, 1, none⟩ = some (.int .i64 F)) fl rfl rfl (M.drew.cell hL 1) (dp_ 239 4 [0, 1, 2, 3, 5, 6, 7] K rfl rfl (by kernel_rfl) fun a K => dt_ 495 8 K (M.drew.cell hL 1) rfl rfl rfl rfl (by kernel_rfl) (fun V hV => run_ld rfl rfl (K.of (x := .tmp 12) rfl) hV) fun a K => dc_ 511 4 K Tryz.func120 (by kernel_rfl) rfl rfl rfl rfl rfl rfl rfl (by kernel_rfl) ((add_on M.drew k hL G h1 h2).mono ?_))))
  rintro _ W1 ⟨rfl, M1, k1⟩
  have hk : k < L.length := (List.getElem?_eq_some_iff.1 hL).1
  refine ⟨_, rfl, M1.cell (List.getElem?_set_self hk) 1, fun a K => dp_ 2047 0 [9, 10] K rfl rfl (by kernel_rfl) fun a K => dend_ (by kernel_rfl) (ret_ rfl K rfl ⟨rfl, M1, (keep_below (below_drew (Below.refl _ _))).trans k1⟩)⟩
theorem ends_on {L : List (Nat × Obj)} {w0 W : World} (M : On L w0 W) {gw gm : Nat} {r : RR} {s : Sl} {st from_ to_ ct A : Int} {v : Value} (hL : L[0]? = some (gw, .cells (wc r s st from_ to_ gm ct v) 86 (0, 0))) :
    Calls Tryz.prog 81 #[.pointer (some ⟨gw, 0, none⟩), .int .i64 A] W (Rets W (.bool (endsV r to_ ct A))) := by
  have fl : Tryz.prog.follows .mixedOrders = true := by kernel_rfl
  replace M := M.here
  refine en_ Tryz.func81 rfl rfl rfl fun a K => sr_ (run_ 1 K rfl fun a K => nil_ ?_)
  refine dseq_ fl rfl rfl M.drew ( dp_ 15 39 [0, 1, 2, 3] K rfl rfl (by kernel_rfl) fun a K => dld_ 31 4 K M.drew 0 rfl hL rfl rfl rfl rfl rfl rfl rfl (by kernel_rfl) fun a K => dp_ 127 36 [5, 6] K rfl rfl (by kernel_rfl) fun a K => ?_)
  replace M := M.drew
  by_cases c1 : to_ < A
  case pos =>
    refine dp_ 8796093022207 0 [7, 8, 9, 10, 11, 12, 13, 14, 15, 16, 17, 18, 19, 20, 21, 22, 23, 24, 25, 26, 27, 28, 29, 30, 31, 32, 33, 34, 35, 36, 37, 38, 39, 40, 41, 42] (fx_ K (decide_eq_true c1)) rfl rfl (by kernel_rfl) fun a K => dend_ (by kernel_rfl) ?_
    exact ret_ rfl K rfl ⟨by simp [endsV, c1], M.bl⟩
  case neg =>
    refine dp_ 2047 32 [7, 8, 9, 10] (fx_ K (decide_eq_false c1)) rfl rfl (by kernel_rfl) fun a K => dld_ 4095 11 K M 0 rfl hL rfl rfl rfl rfl rfl rfl rfl (by kernel_rfl) fun a K => dp_ 8191 30 [12] K rfl rfl (by kernel_rfl) fun a K => ?_
    cases hu : r.un with
    | true =>
      refine dp_ 262143 25 [13, 14, 15, 16, 17] (fx_ K hu) rfl rfl (by kernel_rfl) fun a K => dld_ 524287 18 K M 0 rfl hL rfl rfl rfl rfl rfl rfl rfl (by kernel_rfl) fun a K => dp_ 8388607 20 [19, 20, 21, 22] K rfl rfl (by kernel_rfl) fun a K => ?_
      by_cases c2 : r.ua < A
      case pos =>
        refine dp_ 8796093022207 0 [23, 24, 25, 26, 27, 28, 29, 30, 31, 32, 33, 34, 35, 36, 37, 38, 39, 40, 41, 42] (fx_ K (decide_eq_true c2)) rfl rfl (by kernel_rfl) fun a K => dend_ (by kernel_rfl) ?_
        exact ret_ rfl K rfl ⟨by simp [endsV, c1, hu, c2], M.bl⟩
      case neg =>
        refine dp_ 134217727 16 [23, 24, 25, 26] (fx_ K (decide_eq_false c2)) rfl rfl (by kernel_rfl) fun a K => dld_ 268435455 27 K M 0 rfl hL rfl rfl rfl rfl rfl rfl rfl (by kernel_rfl) fun a K => dp_ 1073741823 13 [28, 29] K rfl rfl (by kernel_rfl) fun a K => ?_
        by_cases c3 : 0 < r.ct
        case pos =>
          refine dp_ 266287972351 6 [30, 31, 32, 34, 35, 36, 37] (fx_ K (decide_eq_true c3)) rfl rfl (by kernel_rfl) fun a K => dld_ 274877906943 33 K M 0 rfl hL rfl rfl rfl rfl rfl rfl rfl (by kernel_rfl) fun a K => dld_ 549755813887 38 K M 0 rfl hL rfl rfl rfl rfl rfl rfl rfl (by kernel_rfl) fun a K => dp_ 8796093022207 0 [39, 40, 41, 42] K rfl rfl (by kernel_rfl) fun a K => dend_ (by kernel_rfl) ?_
          exact ret_ rfl K rfl ⟨by simp [endsV, c1, hu, c3, c2], M.bl⟩
        case neg =>
          refine dp_ 8796093022207 0 [30, 31, 32, 33, 34, 35, 36, 37, 38, 39, 40, 41, 42] (fx_ K (decide_eq_false c3)) rfl rfl (by kernel_rfl) fun a K => dend_ (by kernel_rfl) ?_
          exact ret_ rfl K rfl ⟨by simp [endsV, c1, hu, c3, c2], M.bl⟩
    | false =>
      refine dp_ 134217727 16 [13, 14, 15, 16, 17, 18, 19, 20, 21, 22, 23, 24, 25, 26] (fx_ K hu) rfl rfl (by kernel_rfl) fun a K => dld_ 268435455 27 K M 0 rfl hL rfl rfl rfl rfl rfl rfl rfl (by kernel_rfl) fun a K => dp_ 1073741823 13 [28, 29] K rfl rfl (by kernel_rfl) fun a K => ?_
      by_cases c3 : 0 < r.ct
      case pos =>
        refine dp_ 266287972351 6 [30, 31, 32, 34, 35, 36, 37] (fx_ K (decide_eq_true c3)) rfl rfl (by kernel_rfl) fun a K => dld_ 274877906943 33 K M 0 rfl hL rfl rfl rfl rfl rfl rfl rfl (by kernel_rfl) fun a K => dld_ 549755813887 38 K M 0 rfl hL rfl rfl rfl rfl rfl rfl rfl (by kernel_rfl) fun a K => dp_ 8796093022207 0 [39, 40, 41, 42] K rfl rfl (by kernel_rfl) fun a K => dend_ (by kernel_rfl) ?_
        exact ret_ rfl K rfl ⟨by simp [endsV, c1, hu, c3], M.bl⟩
      case neg =>
        refine dp_ 8796093022207 0 [30, 31, 32, 33, 34, 35, 36, 37, 38, 39, 40, 41, 42] (fx_ K (decide_eq_false c3)) rfl rfl (by kernel_rfl) fun a K => dend_ (by kernel_rfl) ?_
        exact ret_ rfl K rfl ⟨by simp [endsV, c1, hu, c3], M.bl⟩

end Go.Proofs.YtjjaiahfkiojlaaGreat.Pure
