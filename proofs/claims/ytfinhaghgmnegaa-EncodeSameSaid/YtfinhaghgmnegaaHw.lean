-- Walks over an environment: stores, appends: a text of this claim's own.
import Derived.Test.YtfinhaghgmnegaaHq
namespace Go.Proofs.Ytfinhaghgmnegaa.O
open Go.RowKit Go.Deep Go.Proofs.YtfinhaghgmnegaaW.PrintWords Go.Proofs.YtfinhaghgmnegaaW.PrintLast Go.Proofs.YtfinhaghgmnegaaW.PrintMore
set_option linter.unusedVariables false
set_option linter.unusedSimpArgs false
section
variable {L : List (Nat × Obj)} {w0 W W2 : World}
theorem On.lt (h : On L w0 W) {p : Nat × Obj} (hp : p ∈ L) : p.1 < W.heap.size := by
  obtain ⟨k, hk, e⟩ := List.mem_iff_getElem.1 hp
  exact blk_lt (h.me k p.1 p.2 (by rw [List.getElem?_eq_getElem hk, e]))
theorem On.alloc (h : On L w0 W) (o : Obj) : On L w0 (W.alloc o) := ⟨below_alloc h.bl o, fun k g o' e => blk_alloc (h.me k g o' e) o, h.nd⟩
theorem On.other (h : On L w0 W) {k g : Nat} {o' : Obj} (hL : L[k]? = some (g, o')) {k' g' : Nat} {o : Obj} (q : ¬ k = k') (e : L[k']? = some (g', o)) : g' ≠ g := fun ee => by
  subst ee
  have h1 : (L.map (·.1))[k]? = some g' := by rw [List.getElem?_map, hL]; rfl
  have h2 : (L.map (·.1))[k']? = some g' := by rw [List.getElem?_map, e]; rfl
  have hk2 : k < (L.map (·.1)).length := by simpa using (List.getElem?_eq_some_iff.1 hL).1
  have hk3 : k' < (L.map (·.1)).length := by simpa using (List.getElem?_eq_some_iff.1 e).1
  rw [List.getElem?_eq_getElem hk2] at h1
  rw [List.getElem?_eq_getElem hk3] at h2
  exact q ((List.getElem_inj h.nd).1 ((Option.some.inj h1).trans (Option.some.inj h2).symm))
theorem set_fst {k g : Nat} {o o' : Obj} (hL : L[k]? = some (g, o)) : (L.set k (g, o')).map (·.1) = L.map (·.1) := by
  rw [List.map_set]
  have : (L.map (·.1))[k]? = some g := by rw [List.getElem?_map, hL]; rfl
  obtain ⟨hh, e2⟩ := List.getElem?_eq_some_iff.1 this
  rw [← e2]
  exact List.set_getElem_self hh
theorem On.setRow (h : On L w0 W) (k : Nat) {g : Nat} {cs cs' : Array Value} {t : TypeId} (hL : L[k]? = some (g, .cells cs t (0, 0))) (hg : w0.heap.size ≤ g) : On (L.set k (g, .cells cs' t (0, 0))) w0 (W.setRow g cs') := by
  have hk := (List.getElem?_eq_some_iff.1 hL).1
  refine ⟨⟨h.bl.os, h.bl.tape, h.bl.output, by rw [setRow_size]; exact h.bl.size, fun i hi => (setRow_other W g i cs' (by omega)).trans (h.bl.block i hi)⟩, fun k' g' o e => ?_, by rw [set_fst hL]; exact h.nd⟩
  by_cases q : k = k'
  · subst q
    rw [List.getElem?_set_self hk] at e
    obtain ⟨rfl, rfl⟩ := Prod.mk.inj (Option.some.inj e)
    exact setRow_heap W g cs cs' t (0, 0) (h.me k _ _ hL)
  · rw [List.getElem?_set_ne q] at e
    exact (setRow_other W g g' cs' (h.other hL q e)).trans (h.me k' g' o e)
theorem On.setCell (h : On L w0 W) (k : Nat) {g : Nat} {cs : Array Value} {t : TypeId} (hL : L[k]? = some (g, .cells cs t (0, 0))) (hg : w0.heap.size ≤ g) (i : Nat) (v : Value) : On (L.set k (g, .cells (cs.setIfInBounds i v) t (0, 0))) w0 (W.setCell ⟨g, i, none⟩ v) := by
  have hk := (List.getElem?_eq_some_iff.1 hL).1
  refine ⟨below_set h.bl hg, fun k' g' o e => ?_, ?_⟩
  · by_cases q : k = k'
    · subst q
      rw [List.getElem?_set_self hk] at e
      obtain ⟨rfl, rfl⟩ := Prod.mk.inj (Option.some.inj e)
      exact blk_set (h.me k _ _ hL) i v
    · rw [List.getElem?_set_ne q] at e
      have hne : g' ≠ g := h.other hL q e
      exact (Below.heap_setCell W ⟨g, i, none⟩ v g' hne).trans (h.me k' g' o e)
  · rw [set_fst hL]
    exact h.nd
end
/-- Own rows of numbers. -/
def Tw (Ls : List (Value × List Int)) (b : Nat) (W : World) : Prop := ∀ p ∈ Ls, Kd.R (Kd.int .i64) 3 W b (fun _ => True) p.1 p.2
theorem ty3 {t : Nat} (ht : t ≠ 3) : ∀ q, q ∈ 3 :: (Kd.int .i64).E → q ≠ t := fun q hq => by
  obtain rfl : q = 3 := by simpa [Kd.int, Kd.scalar] using hq
  exact fun e => ht e.symm
section
variable {Ls : List (Value × List Int)} {b : Nat} {W W2 : World}
theorem Tw.below (h : Tw Ls b W) (hb : Below W.heap.size W W2) : Tw Ls b W2 := fun p hp => Kd.R_below (h p hp) hb
theorem Tw.drew (h : Tw Ls b W) : Tw Ls b W.drew := fun p hp => Kd.R_drew (h p hp)
theorem Tw.set (h : Tw Ls b W) {g t : Nat} {cs : Array Value} (hb : W.heap[g]? = some (.cells cs t (0, 0))) (ht : t ≠ 3) (j : Nat) (u : Value) : Tw Ls b (W.setCell ⟨g, j, none⟩ u) := fun p hp => Kd.R_set (h p hp) hb (ty3 ht) j u
theorem Tw.row (h : Tw Ls b W) {g t : Nat} {cs : Array Value} (hb : W.heap[g]? = some (.cells cs t (0, 0))) (ht : t ≠ 3) (cs' : Array Value) : Tw Ls b (W.setRow g cs') := fun p hp => Kd.R_mono (Kd.R_move (Kd.R_types (h p hp) hb (ty3 ht)) (fun k hk => setRow_other W g k cs' hk.2)) (fun _ hk => hk.1)
end
section
variable {ρ : Operand → Value} {o : Oper} {w : World}
theorem run_st {t g i : Nat} {x y : Operand} {cs : Array Value} {tt : TypeId} {v : Value} (hv : okV t v = true) (ho : o.op = .store t x y) (hx : ρ x = .pointer (some ⟨g, i, none⟩)) (hy : ρ y = v) (hb : w.heap[g]? = some (.cells cs tt (0, 0))) (hi : i < cs.size) : (execOp ρ o).run Try.prog w = .ok .skip (w.setCell ⟨g, i, none⟩ v) := by
  have hc : w.cell? ⟨g, i, none⟩ = some cs[i] := (blk_cell hb i).trans (by rw [Array.getElem?_eq_getElem hi])
  have hf := blk_frozen hb i
  generalize cs[i] = old at hc
  unfold execOp; rw [ho]
  unfold okV at hv
  split at hv
  · unfold isI at hv
    rcases Bool.or_eq_true_iff.1 hv with e | e <;> (obtain rfl := Nat.eq_of_beq_eq_true e; go_simp)
  · obtain rfl := Nat.eq_of_beq_eq_true hv
    go_simp
  · unfold isL at hv
    rcases Bool.or_eq_true_iff.1 hv with e | e <;> (obtain rfl := Nat.eq_of_beq_eq_true e; go_simp)
  · cases hv
theorem results_cell {fn : Func} {t g n : Nat} {T : TypeId} {tmps cs : Array Value} (h : fn.results = #[.cell t T]) (hp : tmps.getD t undef = .pointer (some ⟨g, 0, none⟩)) (hb : w.heap[g]? = some (.cells cs T (0, 0))) (ht : szE T = some n) (hs : cs.size = n) : (results fn tmps).run Try.prog w = .ok (.agg cs) w := by
  obtain ⟨hi, fs, hu⟩ := szE_info ht
  have hl := run_loadVar_row (P := Try.prog) w g T T cs (0, 0) _ hb hu rfl (by rw [hs]; exact hi)
  rw [Array.getD_eq_getD_getElem?] at hp
  simp [results, h, hp, asAddr, hl]
end
section
variable {N : Nat} {E : Env} {a : Act} {ops : Array Oper} {rest : List Oper} {Q : Exit → Act → World → Prop} {w w0 : World} {o : Oper} {d : Nat} {L : List (Nat × Obj)}
/-- A store into a cell of an own block. -/
theorem stc_ (K : Kn N E a) (M : On L w0 w) (k : Nat) {g i : Nat} {cs : Array Value} {tt t : Nat} {x y : Operand} {v : Value} (hL : L[k]? = some (g, .cells cs tt (0, 0))) (hg : w0.heap.size ≤ g) (hd : o.dst = none) (hw : wantE ops E o = some true) (hop : o.op = .store t x y) (hx : evo E x = some (.pointer (some ⟨g, i, none⟩))) (hy : evo E y = some v) (hv : okV t v = true) (hi : i < cs.size)
    (h : ∀ W, W = w.setCell ⟨g, i, none⟩ v → On (L.set k (g, .cells (cs.setIfInBounds i v) tt (0, 0))) w0 W → wpList Try.prog ops Q rest a W) : wpList Try.prog ops Q (o :: rest) a w :=
  skp_ hd (want_of K hw) (run_st hv hop (K.of hx) (K.of hy) (M.me k _ _ hL) hi) (h _ rfl (M.setCell k hL hg i v))
/-- A store of a whole struct into an own block. -/
theorem stw_ (K : Kn N E a) (M : On L w0 w) (k : Nat) {g n t : Nat} {cs cs' : Array Value} {x y : Operand} (hL : L[k]? = some (g, .cells cs t (0, 0))) (hg : w0.heap.size ≤ g) (hd : o.dst = none) (hw : wantE ops E o = some true) (hop : o.op = .store t x y) (hx : evo E x = some (.pointer (some ⟨g, 0, none⟩))) (hy : evo E y = some (.agg cs')) (ht : szE t = some n) (hs : cs.size = n) (hs' : cs'.size = n) (h1 : cs'.toList.all (·.oneCell') = true)
    (h : ∀ W, W = w.setRow g cs' → On (L.set k (g, .cells cs' t (0, 0))) w0 W → wpList Try.prog ops Q rest a W) : wpList Try.prog ops Q (o :: rest) a w := by
  have hr := run_storeVar_row (P := Try.prog) w g t t cs cs' (M.me k _ _ hL) (by rw [hs']; exact (szE_info ht).1) (by rw [hs, hs']) (by rw [← Array.all_toList]; exact h1)
  refine skp_ hd (want_of K hw) (w1 := w.setRow g cs') ?_ (h _ rfl (M.setRow k hL hg))
  have hq : (Instr.storeAt t (.pointer (some ⟨g, 0, none⟩)) (.agg cs')).run Try.prog w = .ok () (w.setRow g cs') := by
    unfold Instr.storeAt
    rw [Sem.run_bind, sure_]
    exact hr
  unfold execOp
  rw [hop]
  show ((do Instr.storeAt t (a.eval x) (a.eval y); pure Next.skip : Sem Next)).run Try.prog _ = _
  rw [K.of hx, K.of hy, Sem.run_bind, hq]
  rfl
/-- A new block, and a struct stored to it; the block is above. -/
theorem nwG_ {o2 : Oper} (K : Kn N E a) (M : On L w0 w) {n t : Nat} {cs : Array Value} {y : Operand} (hd : o.dst = some d) (hb : Nat.blt d N = true) (hw : wantE ops E o = some true) (hop : o.op = .alloc t) (hd2 : o2.dst = none) (hg2 : o2.guard = none) (hop2 : o2.op = .store t (.tmp d) y)
    (hy : ∀ v, evo ((d, v) :: E) y = some (.agg cs)) (ht : szE t = some n) (hs : cs.size = n) (h1 : cs.toList.all (·.oneCell') = true)
    (h : ∀ a' g W, w0.heap.size ≤ g → On ((g, .cells cs t (0, 0)) :: L) w0 W → Kn N ((d, .pointer (some ⟨g, 0, none⟩)) :: E) a' → wpList Try.prog ops Q rest a' W) : wpList Try.prog ops Q (o :: o2 :: rest) a w := by
  obtain ⟨z, hz, hzs⟩ := szE_zero ht
  exact val_ K hd hb hw (run_al hz hop) (fun a' K' => skp_ hd2 (want_of K' (by unfold wantE; rw [hg2])) (run_sta ht hs h1 hop2 (K'.of (x := .tmp d) (by unfold evo look; simp)) (K'.of (hy _)) hzs) (h a' _ _ M.bl.size (M.new _) K'))
/-- A new block of zeros. -/
theorem al_ (K : Kn N E a) (M : On L w0 w) {n t : Nat} (ht : szE t = some n) (hd : o.dst = some d) (hb : Nat.blt d N = true) (hw : wantE ops E o = some true) (hop : o.op = .alloc t)
    (h : ∀ a' g W z, z.size = n → w0.heap.size ≤ g → On ((g, .cells z t (0, 0)) :: L) w0 W → Kn N ((d, .pointer (some ⟨g, 0, none⟩)) :: E) a' → wpList Try.prog ops Q rest a' W) : wpList Try.prog ops Q (o :: rest) a w := by
  obtain ⟨z, hz, hzs⟩ := szE_zero ht
  exact val_ K hd hb hw (run_al hz hop) (fun a' K' => h a' _ _ z hzs M.bl.size (M.new _) K')
/-- An append of what is read to an own row. -/
theorem ap_ {α : Type} {k : Kd α} {Rr : α → List Value → Prop} {t e : TypeId} {z : Value} {bytes : Nat} {s x : Operand} {v : Value} {xs ys : List α} {A : Option Addr} {m c : Nat} (K : Kn N E a) (M : On L w0 w) (hd : o.dst = some d) (hb : Nat.blt d N = true) (hgd : o.guard = none)
    (ho : o.op = .call { callee := .builtin .append, args := #[s, x], argTypes := #[t, t] }) (ht : Try.prog.underlying t = some (.slice e)) (hinfo : (Try.prog.info? e).map (fun i => (i.zero, i.size, i.bytes)) = some (some z, k.sz, bytes)) (hz : z.cells.size = k.sz) (hs0 : 0 < k.sz) (hb0 : 0 < bytes)
    (hs : evo E s = some v) (hx : evo E x = some (.slice A m c)) (HO : k.R e w w0.heap.size (fun _ => True) v xs) (HR : ReadsRow Rr k.sz w A m ys) (hKM : ∀ x cs, Rr x cs → k.M w w0.heap.size (fun _ => False) x cs) (hfar : ∀ p ∈ L, some p.1 ≠ v.ownBlock) (hl : (xs.length + m) * bytes ≤ 140737488355328)
    (h : ∀ a' v1 w1, w.grownBy w1 v.ownBlock → k.R e w1 w0.heap.size (fun _ => True) v1 (xs ++ ys) → On L w0 w1 → (∀ p ∈ L, some p.1 ≠ v1.ownBlock) → Kn N ((d, v1) :: E) a' → wpList Try.prog ops Q rest a' w1) : wpList Try.prog ops Q (o :: rest) a w := by
  refine Kd.R_append_rows k w0.heap.size hgd s x t e z bytes ho ht hinfo hz hs0 hb0 v xs ys A m c (fun _ => True) (fun _ => False) (K.of hs) (K.of hx) HO HR hKM (fun _ q => q.elim) (fun _ _ => trivial) M.bl M.bl.size hl ?_
  intro v1 w1 h1 h2 h3 h4
  rw [hd]
  refine h _ v1 w1 h3 h1 ⟨h2, fun k g o e => ?_, M.nd⟩ (fun p hp => ?_) (K.put v1 hb)
  · exact blk_grown (M.me k g o e) h3 (hfar (g, o) (List.mem_of_getElem? e))
  · rcases h4 with h4 | ⟨b, h4, h5⟩
    · rw [h4]; exact hfar p hp
    · rw [h4]
      intro q
      have := M.lt hp
      have := Option.some.inj q
      omega
theorem retc_ {fn : Func} {R : Ending → World → Prop} [hQ : RetTo Q fn R] {r k g n : Nat} {T : TypeId} {cs : Array Value} (hr : fn.results = #[.cell r T]) (K : Kn N E a) (M : On L w0 w) (hL : L[k]? = some (g, .cells cs T (0, 0))) (h : look E r = some (.pointer (some ⟨g, 0, none⟩))) (ht : szE T = some n) (hs : cs.size = n) (q : R (.returned (.agg cs)) w) : Code.ret.wp Try.prog Q a w :=
  wp_ret (hQ.go _ _ (bodyPost_ret (results_cell hr (val_eq K h) (M.me k _ _ hL) ht hs) K.df q))
end
section
variable {N : Nat} {E : Env} {a : Act} {ops : Array Oper} {Q : Exit → Act → World → Prop} {w w0 w1 : World} {oi : Oper} {S : World → Prop} {fuel : Nat}
end
end Go.Proofs.Ytfinhaghgmnegaa.O
