-- Walks over an environment: memory, and regions that draw their order: a text of this claim's own.
import Derived.Test.YtfinhaghgmnegaaHz
import Derived.Deep.WholeRow
namespace Go.Proofs.Ytfinhaghgmnegaa.O
open Go.RowKit Go.Deep Go.Proofs.YtfinhaghgmnegaaW.PrintWords Go.Proofs.YtfinhaghgmnegaaW.PrintLast Go.Proofs.YtfinhaghgmnegaaW.PrintMore
set_option linter.unusedVariables false
set_option linter.unusedSimpArgs false
def szE (t : Nat) : Option Nat := bif Nat.beq t 29 then some 16 else bif Nat.beq t 23 then some 3 else bif Nat.beq t 54 then some 2 else bif Nat.beq t 25 then some 2 else none
theorem i25 : (Try.prog.info? 29).map (·.size) = some 16 := by kernel_rfl
theorem i39 : (Try.prog.info? 23).map (·.size) = some 3 := by kernel_rfl
theorem i25a : (Try.prog.info? 25).map (·.size) = some 2 := by kernel_rfl
theorem i47 : (Try.prog.info? 54).map (·.size) = some 2 := by kernel_rfl
theorem szE_info {t n : Nat} (h : szE t = some n) : (Try.prog.info? t).map (·.size) = some n ∧ ∃ fs, Try.prog.underlying t = some (.struct fs) := by
  unfold szE at h
  cases h1 : Nat.beq t 29 with
  | true => rw [h1] at h; obtain rfl := Nat.eq_of_beq_eq_true h1; obtain rfl := Option.some.inj h; exact ⟨i25, _, Try.underlying29⟩
  | false =>
  cases h2 : Nat.beq t 23 with
  | true => rw [h1, h2] at h; obtain rfl := Nat.eq_of_beq_eq_true h2; obtain rfl := Option.some.inj h; exact ⟨i39, _, Try.underlying23⟩
  | false =>
  cases h3 : Nat.beq t 54 with
  | true => rw [h1, h2, h3] at h; obtain rfl := Nat.eq_of_beq_eq_true h3; obtain rfl := Option.some.inj h; exact ⟨i47, _, Try.underlying54⟩
  | false =>
  cases h4 : Nat.beq t 25 with
  | true => rw [h1, h2, h3, h4] at h; obtain rfl := Nat.eq_of_beq_eq_true h4; obtain rfl := Option.some.inj h; exact ⟨i25a, _, Try.underlying25⟩
  | false => rw [h1, h2, h3, h4] at h; cases h
theorem zz25 : (Try.prog.info? 29).map (fun i => (i.zero, i.size)) = some (some (.agg #[.int .i64 0, .int .i64 0, .int .i64 0, .bool false, .int .i64 0, .bool false, .slice none 0 0, .slice none 0 0, .slice none 0 0, .slice none 0 0, .slice none 0 0, .slice none 0 0, .slice none 0 0, .slice none 0 0, .slice none 0 0, .int .i64 0]), 16) := by kernel_rfl
theorem zz39 : (Try.prog.info? 23).map (fun i => (i.zero, i.size)) = some (some (.agg #[.int .i64 0, .int .i64 0, .int .i64 0]), 3) := by kernel_rfl
theorem zz47 : (Try.prog.info? 54).map (fun i => (i.zero, i.size)) = some (some (.agg #[.int .i64 0, .int .i64 0]), 2) := by kernel_rfl
theorem zz25a : (Try.prog.info? 25).map (fun i => (i.zero, i.size)) = some (some (.agg #[.int .i64 0, .int .i64 0]), 2) := by kernel_rfl
theorem szE_zero {t n : Nat} (h : szE t = some n) : ∃ z : Array Value, (Try.prog.info? t).map (fun i => (i.zero, i.size)) = some (some (.agg z), n) ∧ z.size = n := by
  unfold szE at h
  cases h1 : Nat.beq t 29 with
  | true => rw [h1] at h; obtain rfl := Nat.eq_of_beq_eq_true h1; obtain rfl := Option.some.inj h; exact ⟨_, zz25, rfl⟩
  | false =>
  cases h2 : Nat.beq t 23 with
  | true => rw [h1, h2] at h; obtain rfl := Nat.eq_of_beq_eq_true h2; obtain rfl := Option.some.inj h; exact ⟨_, zz39, rfl⟩
  | false =>
  cases h3 : Nat.beq t 54 with
  | true => rw [h1, h2, h3] at h; obtain rfl := Nat.eq_of_beq_eq_true h3; obtain rfl := Option.some.inj h; exact ⟨_, zz47, rfl⟩
  | false =>
  cases h4 : Nat.beq t 25 with
  | true => rw [h1, h2, h3, h4] at h; obtain rfl := Nat.eq_of_beq_eq_true h4; obtain rfl := Option.some.inj h; exact ⟨_, zz25a, rfl⟩
  | false => rw [h1, h2, h3, h4] at h; cases h
def okV (t : Nat) : Value → Bool
  | .int .i64 _ => isI t
  | .bool _ => Nat.beq t 4
  | .slice _ _ _ => isL t
  | _ => false
section
variable {ρ : Operand → Value} {o : Oper} {w : World}
theorem sure_ (p : Addr) : (Instr.sureAddr (.pointer (some p))).run Try.prog w = Result.ok p w := by simp [Instr.sureAddr, asAddr, go_sem]
theorem run_ld {t : Nat} {x : Operand} {p : Addr} {v : Value} (hv : okV t v = true) (ho : o.op = .load t x) (hx : ρ x = .pointer (some p)) (hc : w.cell? p = some v) : (execOp ρ o).run Try.prog w = .ok (.value v) w := by
  unfold execOp; rw [ho]
  unfold okV at hv
  split at hv
  · unfold isI at hv
    rcases Bool.or_eq_true_iff.1 hv with e | e <;> (obtain rfl := Nat.eq_of_beq_eq_true e; go_simp)
  · obtain rfl := Nat.eq_of_beq_eq_true hv
    go_simp
  · unfold isL at hv
    rcases Bool.or_eq_true_iff.1 hv with e | e <;> (obtain rfl := Nat.eq_of_beq_eq_true e; go_simp)
  · cases hv
theorem run_lda {t n g : Nat} {x : Operand} {cs : Array Value} (ht : szE t = some n) (hs : cs.size = n) (ho : o.op = .load t x) (hx : ρ x = .pointer (some ⟨g, 0, none⟩)) (h : w.heap[g]? = some (.cells cs t (0, 0))) : (execOp ρ o).run Try.prog w = .ok (.value (.agg cs)) w := by
  obtain ⟨hi, fs, hu⟩ := szE_info ht
  have hl := run_loadVar_row (P := Try.prog) w g t t cs (0, 0) _ h hu rfl (by rw [hs]; exact hi)
  have hr : (Instr.loadAt t (.pointer (some ⟨g, 0, none⟩))).run Try.prog w = .ok (.agg cs) w := by
    unfold Instr.loadAt
    rw [Sem.run_bind, sure_]
    refine Eq.trans ?_ hl
    simp only [Result.andThen]
  unfold execOp
  rw [ho]
  show ((do pure (Next.value (← Instr.loadAt t (ρ x))) : Sem Next)).run Try.prog w = _
  rw [hx, Sem.run_bind, hr]
  rfl
theorem run_bxa {t n : Nat} {x : Operand} {cs : Array Value} (ht : szE t = some n) (ho : o.op = .box t x) (hx : ρ x = .agg cs) : (execOp ρ o).run Try.prog w = .ok (.value (.pointer (some ⟨w.heap.size, 0, none⟩))) (w.alloc (.cells cs t (0, 0))) := by
  unfold execOp; rw [ho]; go_simp
theorem run_al {t n : Nat} {z : Array Value} (hz : (Try.prog.info? t).map (fun i => (i.zero, i.size)) = some (some (.agg z), n)) (ho : o.op = .alloc t) : (execOp ρ o).run Try.prog w = .ok (.value (.pointer (some ⟨w.heap.size, 0, none⟩))) (w.alloc (.cells z t (0, 0))) := by
  have hz' := (zero_of_info (P := Try.prog) hz).1
  unfold execOp; rw [ho]; go_simp
theorem run_sta {t n : Nat} {x y : Operand} {old cs : Array Value} (ht : szE t = some n) (hs : cs.size = n) (h1 : cs.toList.all (·.oneCell') = true) (ho : o.op = .store t x y) (hx : ρ x = .pointer (some ⟨w.heap.size, 0, none⟩)) (hy : ρ y = .agg cs) (hz : old.size = n) : (execOp ρ o).run Try.prog (w.alloc (.cells old t (0, 0))) = .ok .skip (w.alloc (.cells cs t (0, 0))) := by
  have hr := run_storeAt_new (P := Try.prog) w t old cs (by rw [hs]; exact (szE_info ht).1) (by rw [hs, hz]) (by rw [← Array.all_toList]; exact h1)
  unfold execOp
  rw [ho]
  show ((do Instr.storeAt t (ρ x) (ρ y); pure Next.skip : Sem Next)).run Try.prog _ = _
  rw [hx, hy, Sem.run_bind, hr]
  rfl
end
section
variable {N : Nat} {E : Env} {a : Act} {ops : Array Oper} {rest : List Oper} {Q : Exit → Act → World → Prop} {w w0 : World} {o : Oper} {d : Nat} {L : List (Nat × Obj)}
theorem skp_ (hd : o.dst = none) (hg : Region.wanted o (yielded ops a.tmps) = true) {w1 : World} (hrun : (execOp a.eval o).run Try.prog w = .ok .skip w1) (k : wpList Try.prog ops Q rest a w1) : wpList Try.prog ops Q (o :: rest) a w := by
  unfold wpList
  rw [if_pos hg]
  left
  unfold Oper.wp
  rw [hrun, Oper.upon_skip, hd]
  exact k
/-- A cell of a known block. -/
theorem ld_ (K : Kn N E a) (M : On L w0 w) (k : Nat) {g i : Nat} {cs : Array Value} {t ty : Nat} {x : Operand} {v : Value} (hL : L[k]? = some (g, .cells cs t (0, 0))) (hd : o.dst = some d) (hb : Nat.blt d N = true) (hw : wantE ops E o = some true) (hop : o.op = .load ty x) (hp : evo E x = some (.pointer (some ⟨g, i, none⟩))) (hc : cs[i]? = some v) (hv : okV ty v = true)
    (h : ∀ a', Kn N ((d, v) :: E) a' → wpList Try.prog ops Q rest a' w) : wpList Try.prog ops Q (o :: rest) a w :=
  val_ K hd hb hw (run_ld hv hop (K.of hp) ((M.cell hL i).trans hc)) h
/-- A whole known block. -/
theorem lda_ (K : Kn N E a) (M : On L w0 w) (k : Nat) {g n : Nat} {cs : Array Value} {t : Nat} {x : Operand} (hL : L[k]? = some (g, .cells cs t (0, 0))) (hd : o.dst = some d) (hb : Nat.blt d N = true) (hw : wantE ops E o = some true) (hop : o.op = .load t x) (hp : evo E x = some (.pointer (some ⟨g, 0, none⟩))) (ht : szE t = some n) (hs : cs.size = n)
    (h : ∀ a', Kn N ((d, .agg cs) :: E) a' → wpList Try.prog ops Q rest a' w) : wpList Try.prog ops Q (o :: rest) a w :=
  val_ K hd hb hw (run_lda ht hs hop (K.of hp) (M.me k _ _ hL)) h
/-- A new block out of a struct. -/
theorem bx_ (K : Kn N E a) (M : On L w0 w) {n t : Nat} {cs : Array Value} {x : Operand} (hd : o.dst = some d) (hb : Nat.blt d N = true) (hw : wantE ops E o = some true) (hop : o.op = .box t x) (hx : evo E x = some (.agg cs)) (ht : szE t = some n)
    (h : ∀ a' g W, On ((g, .cells cs t (0, 0)) :: L) w0 W → Kn N ((d, .pointer (some ⟨g, 0, none⟩)) :: E) a' → wpList Try.prog ops Q rest a' W) : wpList Try.prog ops Q (o :: rest) a w :=
  val_ K hd hb hw (run_bxa ht hop (K.of hx)) (fun a' K' => h a' _ _ (M.new _) K')
/-- A new block, and a struct stored to it. -/
theorem nw_ {o2 : Oper} (K : Kn N E a) (M : On L w0 w) {n t : Nat} {cs : Array Value} {y : Operand} (hd : o.dst = some d) (hb : Nat.blt d N = true) (hw : wantE ops E o = some true) (hop : o.op = .alloc t) (hd2 : o2.dst = none) (hg2 : o2.guard = none) (hop2 : o2.op = .store t (.tmp d) y)
    (hy : ∀ v, evo ((d, v) :: E) y = some (.agg cs)) (ht : szE t = some n) (hs : cs.size = n) (h1 : cs.toList.all (·.oneCell') = true)
    (h : ∀ a' g W, On ((g, .cells cs t (0, 0)) :: L) w0 W → Kn N ((d, .pointer (some ⟨g, 0, none⟩)) :: E) a' → wpList Try.prog ops Q rest a' W) : wpList Try.prog ops Q (o :: o2 :: rest) a w := by
  obtain ⟨z, hz, hzs⟩ := szE_zero ht
  exact val_ K hd hb hw (run_al hz hop) (fun a' K' => skp_ hd2 (want_of K' (by unfold wantE; rw [hg2])) (run_sta ht hs h1 hop2 (K'.of (x := .tmp d) (by unfold evo look; simp)) (K'.of (hy _)) hzs) (h a' _ _ (M.new _) K'))
end
/-! Regions that draw their order -/
def runI (N : Nat) (ops : Array Oper) : List Nat → Env → Option Env
  | [], E => some E
  | i :: is, E => match ops[i]? with
    | some o => match wantE ops E o, o.dst with
      | some true, some d => match Nat.blt d N, pureE E o.op with
        | true, some v => runI N ops is ((d, v) :: E)
        | _, _ => none
      | some false, some d => match Nat.blt d N with
        | true => runI N ops is ((d, undef) :: E)
        | false => none
      | _, _ => none
    | none => none
def anyS (ops : Array Oper) : List Nat → Array Bool → Array Bool → Bool
  | [], l, l' => l == l'
  | i :: is, l, l' => anyB .any ops l (l.setIfInBounds i true) i && anyS ops is (l.setIfInBounds i true) l'
/-- Which operations have come up, as a number's bits. -/
def bts (n m : Nat) : Array Bool := ((List.range n).map fun i => m.testBit i).toArray
section
variable {N : Nat} {E : Env} {a : Act} {ops : Array Oper} {Q : Exit → Act → World → Prop} {w w0 : World} {oi : Oper} {S : World → Prop} {l : Array Bool} {fuel : Nat}
theorem draw_ {id n : Nat} (hm : Try.prog.follows .mixedOrders = true) (hn : ops.size = n) (hl : (Array.replicate n false == bts n 0) = true) (hS : S w.drew) (h : wpAnyLast Try.prog .any ops Q S [] n (bts n 0) a w.drew) : (Code.region id ops true).wp Try.prog Q a w :=
  start_ _ hm hn (by simpa using hl) hS (fun _ => h)
theorem dseq_ {id n : Nat} {y : Code} (hm : Try.prog.follows .mixedOrders = true) (hn : ops.size = n) (hl : (Array.replicate n false == bts n 0) = true) (hS : S w.drew) (h : wpAnyLast Try.prog .any ops (Exit.then (y.wp Try.prog Q) Q) S [] n (bts n 0) a w.drew) : (Code.seq (Code.region id ops true) y).wp Try.prog Q a w :=
  wp_seq (draw_ hm hn hl hS h)
/-- Operations that need no memory, in whatever world. -/
theorem dpl_ (is : List Nat) {E' : Env} {l' : Array Bool} (K : Kn N E a) (hE : runI N ops is E = some E') (hl : anyS ops is l l' = true) (h : ∀ a', Kn N E' a' → wpAnyLast Try.prog .any ops Q S [] fuel l' a' w)
    (hQ : ∀ c a w d v, Q (.panic c) (a.put (some d) v) w → Q (.panic c) a w := by exact fun _ _ _ _ _ h => h) : wpAnyLast Try.prog .any ops Q S [] (fuel + is.length) l a w := by
  induction is generalizing E a l fuel with
  | nil =>
    unfold runI at hE
    unfold anyS at hl
    obtain rfl := Option.some.inj hE
    obtain rfl : l = l' := by simpa using hl
    exact h a K
  | cons i is ih =>
    unfold runI at hE
    unfold anyS at hl
    rw [Bool.and_eq_true] at hl
    have e : fuel + (i :: is).length = (fuel + is.length) + 1 := by simp; omega
    rw [e]
    split at hE
    · rename_i o ho
      split at hE
      · rename_i d hw hd
        split at hE
        · rename_i v hb hv
          exact pure_ _ ho hd hl.1 (fun c a w q => hQ c a w d v (by rw [hd] at q; exact q)) (Or.inl ⟨want_of K hw, fun w' => pure_run K hv w'⟩) rfl (ih (K.put v hb) hE hl.2 h)
        · cases hE
      · rename_i d hw hd
        split at hE
        · rename_i hb
          exact pure_ _ ho hd hl.1 (fun c a w q => hQ c a w d undef (by rw [hd] at q; exact q)) (Or.inr ⟨want_of K hw, rfl⟩) rfl (ih (K.put undef hb) hE hl.2 h)
        · cases hE
      · cases hE
    · cases hE
theorem dp_ {n m0 f0 : Nat} (m f : Nat) (is : List Nat) {E' : Env} (K : Kn N E a) (hf : f0 = f + is.length) (hE : runI N ops is E = some E') (hl : anyS ops is (bts n m0) (bts n m) = true) (h : ∀ a', Kn N E' a' → wpAnyLast Try.prog .any ops Q S [] f (bts n m) a' w)
    (hQ : ∀ c a w d v, Q (.panic c) (a.put (some d) v) w → Q (.panic c) a w := by exact fun _ _ _ _ _ h => h) : wpAnyLast Try.prog .any ops Q S [] f0 (bts n m0) a w := hf ▸ dpl_ is K hE hl h hQ
/-- A load, which gives the same in each world that meets S. -/
theorem dt_ {n m0 : Nat} (m i : Nat) {d : Nat} {v : Value} (K : Kn N E a) (hS : S w) (hi : ops[i]? = some oi) (hd : oi.dst = some d) (hb : Nat.blt d N = true) (hw : wantE ops E oi = some true) (hl : takeB .any ops [] (bts n m0) (bts n m) i = true) (hv : ∀ W, S W → (execOp a.eval oi).run Try.prog W = .ok (.value v) W)
    (h : ∀ a', Kn N ((d, v) :: E) a' → wpAnyLast Try.prog .any ops Q S [] fuel (bts n m) a' w) (hQ : ∀ c a w d v, Q (.panic c) (a.put (some d) v) w → Q (.panic c) a w := by exact fun _ _ _ _ _ h => h) : wpAnyLast Try.prog .any ops Q S [] (fuel + 1) (bts n m0) a w :=
  take_ _ hi hd hl (fun c a w q => hQ c a w d v (by rw [hd] at q; exact q)) (Or.inl ⟨want_of K hw, hv⟩) hS rfl (h _ (K.put v hb))
theorem dld_ {L : List (Nat × Obj)} {n' m0 : Nat} (m i : Nat) {d : Nat} {v : Value} (K : Kn N E a) (M : On L w0 w) (k : Nat) {g f : Nat} {cs : Array Value} {t ty : Nat} {x : Operand} (hi : ops[i]? = some oi) (hL : L[k]? = some (g, .cells cs t (0, 0))) (hd : oi.dst = some d) (hb : Nat.blt d N = true) (hw : wantE ops E oi = some true) (hop : oi.op = .load ty x) (hp : evo E x = some (.pointer (some ⟨g, f, none⟩))) (hc : cs[f]? = some v) (hv : okV ty v = true) (hl : takeB .any ops [] (bts n' m0) (bts n' m) i = true)
    (h : ∀ a', Kn N ((d, v) :: E) a' → wpAnyLast Try.prog .any ops Q (On L w0) [] fuel (bts n' m) a' w) (hQ : ∀ c a w d v, Q (.panic c) (a.put (some d) v) w → Q (.panic c) a w := by exact fun _ _ _ _ _ h => h) : wpAnyLast Try.prog .any ops Q (On L w0) [] (fuel + 1) (bts n' m0) a w :=
  dt_ m i K M hi hd hb hw hl (fun W hW => run_ld hv hop (K.of hp) ((hW.cell hL f).trans hc)) h hQ
/-- The one operation that may come up now is a call. -/
theorem dc_ {n m0 : Nat} (m i : Nat) {f d : Nat} {fn : Func} {xs : Array Operand} {ts : Array TypeId} {args : List Value} (K : Kn N E a) (hf : Try.prog.funcs[f]? = some fn) (hname : (fn.name == "runtime.NumGoroutine") = false) (hbd : fn.body.isSome = true) (hi : ops[i]? = some oi) (hd : oi.dst = some d) (hb : Nat.blt d N = true) (hw : wantE ops E oi = some true)
    (hop : oi.op = .call { callee := .value (.func f), args := xs, argTypes := ts }) (hargs : evs E xs.toList = some args) (hl : readyB .any ops (bts n m0) (bts n m) i = true)
    (h : Calls Try.prog f args.toArray w fun e w' => ∃ v, e = .returned v ∧ S w' ∧ ∀ a', Kn N ((d, v) :: E) a' → wpAnyLast Try.prog .any ops Q S [] fuel (bts n m) a' w') : wpAnyLast Try.prog .any ops Q S [] (fuel + 1) (bts n m0) a w := by
  have ha : xs.map a.eval = args.toArray := by
    obtain ⟨xs⟩ := xs
    have := K.ofs hargs
    simp at this ⊢
    exact this
  refine one_ _ hi hd hl (by simp) (fun R hR => goes_ hf hname hbd args.toArray (want_of K hw) hd hop ha (h.mono fun e w' hh => ?_))
  obtain ⟨v, rfl, hs, hk⟩ := hh
  exact ⟨v, rfl, hR.out _ _ hs (fun _ => hk _ (K.put v hb))⟩
theorem dend_ {n : Nat} {R : Act → World → Prop} (hr : (Region.ready .any ops l == []) = true) (h : R a w) : wpAnyLast Try.prog .any ops (Exit.then R Q) S [] n l a w := done_ hr h
end
end Go.Proofs.Ytfinhaghgmnegaa.O
