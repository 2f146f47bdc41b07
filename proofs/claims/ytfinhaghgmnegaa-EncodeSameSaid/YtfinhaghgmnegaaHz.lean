-- Walks over an environment of known temporaries, and over known blocks of memory: a text of this claim's own.
import Derived.Test.YtfinhaghgmnegaaOx0
namespace Go.Proofs.Ytfinhaghgmnegaa.O
open Go.RowKit Go.Proofs.YtfinhaghgmnegaaW.PrintWords Go.Proofs.YtfinhaghgmnegaaW.PrintLast Go.Proofs.YtfinhaghgmnegaaW.PrintMore
set_option linter.unusedVariables false
set_option linter.unusedSimpArgs false
abbrev Env := List (Nat × Value)
def look : Env → Nat → Option Value
  | [], _ => none
  | p :: l, i => match Nat.beq p.1 i with | true => some p.2 | false => look l i
def evo (E : Env) : Operand → Option Value
  | .tmp i => look E i
  | .const v => some v
  | .func f => some (.func (.func f) #[] #[])
  | .global g => some (.pointer (some ⟨g, 0, none⟩))
def evs (E : Env) : List Operand → Option (List Value)
  | [] => some []
  | x :: l => match evo E x, evs E l with | some v, some vs => some (v :: vs) | _, _ => none
/-- What is known of an activation. -/
structure Kn (N : Nat) (E : Env) (a : Act) : Prop where
  sz : a.tmps.size = N
  df : a.defers = []
  ev : ∀ i v, look E i = some v → a.eval (.tmp i) = v
theorem Kn.of {N : Nat} {E : Env} {a : Act} (K : Kn N E a) {x : Operand} {v : Value} (h : evo E x = some v) : a.eval x = v := by
  cases x with
  | tmp i => exact K.ev i v h
  | const c => exact Option.some.inj h
  | global g => exact Option.some.inj h
  | func f => exact Option.some.inj h
theorem Kn.ofs {N : Nat} {E : Env} {a : Act} (K : Kn N E a) : ∀ {xs : List Operand} {vs : List Value}, evs E xs = some vs → xs.map a.eval = vs
  | [], vs, h => by simpa using Option.some.inj h
  | x :: l, vs, h => by
    unfold evs at h
    split at h
    · rename_i v us h1 h2
      obtain rfl := Option.some.inj h
      rw [List.map_cons, K.of h1, Kn.ofs K h2]
    · cases h
theorem put_eval {a : Act} {d : Nat} {v : Value} (i : Nat) : (a.put (some d) v).eval (.tmp i) = if i = d ∧ d < a.tmps.size then v else a.eval (.tmp i) := by
  unfold Act.put Act.eval
  simp only [Array.getD_eq_getD_getElem?, Array.getElem?_setIfInBounds]
  by_cases h1 : i = d
  · subst h1
    by_cases h2 : i < a.tmps.size
    · simp [h2]
    · simp [h2]
  · have : ¬ d = i := fun e => h1 e.symm
    simp [h1, this]
theorem put_size {a : Act} {d : Nat} {v : Value} : (a.put (some d) v).tmps.size = a.tmps.size := by unfold Act.put; simp
theorem Kn.put {N : Nat} {E : Env} {a : Act} (K : Kn N E a) {d : Nat} (v : Value) (hd : Nat.blt d N = true) : Kn N ((d, v) :: E) (a.put (some d) v) := by
  have hd' : d < N := by simpa using hd
  refine ⟨put_size.trans K.sz, K.df, fun i u h => ?_⟩
  unfold look at h
  rw [put_eval]
  split at h
  · rename_i e
    have e' : d = i := Nat.eq_of_beq_eq_true e
    obtain rfl := Option.some.inj h
    rw [if_pos ⟨e'.symm, by rw [K.sz]; exact hd'⟩]
  · rename_i e
    have e' : ¬ i = d := fun q => by subst q; simp at e
    rw [if_neg (fun q => e' q.1)]
    exact K.ev i u h
/-- Ints as the program has them: type numbers of whole numbers of 64 bits. -/
def isI (t : Nat) : Bool := Nat.beq t 3 || Nat.beq t 30
theorem isI_u {t : Nat} (h : isI t = true) : Try.prog.underlying t = some (.int .i64) := by
  unfold isI at h
  rcases Bool.or_eq_true_iff.1 h with e | e
  · obtain rfl := Nat.eq_of_beq_eq_true e; exact Try.underlying3
  · obtain rfl := Nat.eq_of_beq_eq_true e; exact Try.underlying30
def offE (t f : Nat) : Bool := (Nat.beq t 29 && Nat.blt f 16) || (Nat.beq t 23 && Nat.blt f 3) || (Nat.beq t 54 && Nat.blt f 2) || (Nat.beq t 25 && Nat.blt f 2)
def isL (t : Nat) : Bool := Nat.beq t 26 || Nat.beq t 27
theorem isL_u {t : Nat} (h : isL t = true) : Try.prog.underlying t = some (.slice 3) ∨ Try.prog.underlying t = some (.slice 54) := by
  unfold isL at h
  rcases Bool.or_eq_true_iff.1 h with e | e
  · obtain rfl := Nat.eq_of_beq_eq_true e; exact Or.inl Try.underlying26
  · obtain rfl := Nat.eq_of_beq_eq_true e; exact Or.inr Try.underlying27
def binE : BinOp → Int → Int → Option Value
  | .add, m, n => some (.int .i64 (wrap64 (m + n)))
  | .sub, m, n => some (.int .i64 (wrap64 (m - n)))
  | .mul, m, n => some (.int .i64 (wrap64 (m * n)))
  | .quo, m, n => match decide (n = 0) with | false => some (.int .i64 (wrap64 (Int.tdiv m n))) | true => none
  | .rem, m, n => match decide (n = 0) with | false => some (.int .i64 (Int.tmod m n)) | true => none
  | .eql, m, n => some (.bool (decide (m = n)))
  | .neq, m, n => some (.bool (!decide (m = n)))
  | .lss, m, n => some (.bool (decide (m < n)))
  | .leq, m, n => some (.bool (decide (m ≤ n)))
  | .gtr, m, n => some (.bool (decide (n < m)))
  | .geq, m, n => some (.bool (decide (n ≤ m)))
  | _, _, _ => none
def binU (op : BinOp) (t u : Nat) (m n : Int) : Option Value := match op, Nat.beq t 41 && Nat.beq u 41 with
  | .rem, true => match decide (n = 0) with | false => some (.int .u64 (Int.tmod m n)) | true => none
  | .eql, true => some (.bool (decide (m = n)))
  | _, _ => none
def binB (op : BinOp) (t u : Nat) (b c : Bool) : Option Value := match op, Nat.beq t 4 && Nat.beq u 4 with
  | .eql, true => some (.bool (b == c))
  | .neq, true => some (.bool (!(b == c)))
  | _, _ => none
def pureE (E : Env) : Op → Option Value
  | .move x => evo E x
  | .assign x => evo E x
  | .pick c x y => match evo E c with
    | some (.bool true) => evo E x
    | some (.bool false) => evo E y
    | _ => none
  | .extract x i => match evo E x with | some (.tuple vs) => vs[i]? | _ => none
  | .unOp .not _ x => match evo E x with | some (.bool b) => some (.bool (!b)) | _ => none
  | .binOp op t x y u => match isI t && isI u, evo E x, evo E y with
    | true, some (.int .i64 m), some (.int .i64 n) => binE op m n
    | false, some (.int .u64 m), some (.int .u64 n) => binU op t u m n
    | false, some (.bool b), some (.bool c) => binB op t u b c
    | _, _, _ => none
  | .convert s d x => match Nat.beq s 3 && Nat.beq d 41, evo E x with
    | true, some (.int .i64 n) => some (.int .u64 (IntKind.u64.wrap n))
    | false, some (.int .u64 n) => match Nat.beq s 41 && Nat.beq d 3 with | true => some (.int .i64 (wrap64 n)) | false => none
    | _, _ => none
  | .fieldAddr t x f => match offE t f, evo E x with
    | true, some (.pointer (some ⟨g, o, none⟩)) => some (.pointer (some ⟨g, o + f, none⟩))
    | _, _ => none
  | .call c => match c.callee, c.args.toList, c.argTypes.toList with
    | .builtin .len, [x], [t] => match isL t, evo E x with
      | true, some (.slice _ n _) => some (.int .i64 n)
      | _, _ => none
    | _, _, _ => none
  | .makeFunc (.func f) first captured => match first.toList, evs E captured.toList with
    | [], some vs => some (.func (.func f) #[] vs.toArray)
    | _, _ => none
  | _ => none
section
variable {ρ : Operand → Value} {o : Oper} {w : World}
theorem run_bin {op : BinOp} {t u : Nat} {x y : Operand} {m n : Int} {v : Value} (ho : o.op = .binOp op t x y u) (ht : Try.prog.underlying t = some (.int .i64)) (hu : Try.prog.underlying u = some (.int .i64)) (hx : ρ x = .int .i64 m) (hy : ρ y = .int .i64 n) (h : binE op m n = some v) : (execOp ρ o).run Try.prog w = .ok (.value v) w := by
  unfold execOp; rw [ho]
  cases op <;> simp only [binE, reduceCtorEq] at h
  case quo =>
    split at h
    · rename_i hn
      have hn' : ¬ n = 0 := by simpa using hn
      obtain rfl := Option.some.inj h
      go_simp; rw [i64_w]
    · cases h
  case rem =>
    split at h
    · rename_i hn
      have hn' : ¬ n = 0 := by simpa using hn
      obtain rfl := Option.some.inj h
      go_simp
    · cases h
  all_goals
    obtain rfl := Option.some.inj h
    first
      | (go_simp; done)
      | (go_simp; rw [i64_w]; done)
      | (go_simp; simp; done)
      | (go_simp; rfl)
theorem run_binU {op : BinOp} {t u : Nat} {x y : Operand} {m n : Int} {v : Value} (ho : o.op = .binOp op t x y u) (hx : ρ x = .int .u64 m) (hy : ρ y = .int .u64 n) (h : binU op t u m n = some v) : (execOp ρ o).run Try.prog w = .ok (.value v) w := by
  have hu := Try.underlying41
  unfold binU at h
  split at h
  · rename_i e
    rw [Bool.and_eq_true] at e
    obtain rfl := Nat.eq_of_beq_eq_true e.1
    obtain rfl := Nat.eq_of_beq_eq_true e.2
    split at h
    · rename_i hn
      have hn' : ¬ n = 0 := by simpa using hn
      obtain rfl := Option.some.inj h
      unfold execOp; rw [ho]; go_simp
    · cases h
  · rename_i e
    rw [Bool.and_eq_true] at e
    obtain rfl := Nat.eq_of_beq_eq_true e.1
    obtain rfl := Nat.eq_of_beq_eq_true e.2
    obtain rfl := Option.some.inj h
    unfold execOp; rw [ho]
    first | (go_simp; done) | (go_simp; rfl)
  · cases h
theorem run_binB {op : BinOp} {t u : Nat} {x y : Operand} {b c : Bool} {v : Value} (ho : o.op = .binOp op t x y u) (hx : ρ x = .bool b) (hy : ρ y = .bool c) (h : binB op t u b c = some v) : (execOp ρ o).run Try.prog w = .ok (.value v) w := by
  have hu := Try.underlying4
  unfold binB at h
  split at h
  · rename_i e
    rw [Bool.and_eq_true] at e
    obtain rfl := Nat.eq_of_beq_eq_true e.1
    obtain rfl := Nat.eq_of_beq_eq_true e.2
    obtain rfl := Option.some.inj h
    unfold execOp; rw [ho]
    first | (go_simp; done) | (go_simp; rfl)
  · rename_i e
    rw [Bool.and_eq_true] at e
    obtain rfl := Nat.eq_of_beq_eq_true e.1
    obtain rfl := Nat.eq_of_beq_eq_true e.2
    obtain rfl := Option.some.inj h
    unfold execOp; rw [ho]
    first | (go_simp; done) | (go_simp; rfl) | (go_simp; simp)
  · cases h
theorem run_cv {x : Operand} {n : Int} (ho : o.op = .convert 3 41 x) (hx : ρ x = .int .i64 n) : (execOp ρ o).run Try.prog w = .ok (.value (.int .u64 (IntKind.u64.wrap n))) w := by
  have hu := Try.underlying41
  have hu3 := Try.underlying3
  unfold execOp; rw [ho]
  first | (go_simp; done) | (go_simp; rfl)
theorem run_cvb {x : Operand} {n : Int} (ho : o.op = .convert 41 3 x) (hx : ρ x = .int .u64 n) : (execOp ρ o).run Try.prog w = .ok (.value (.int .i64 (wrap64 n))) w := by
  have hu := Try.underlying41
  have hu3 := Try.underlying3
  unfold execOp; rw [ho]
  first | (go_simp; rw [i64_w]; done) | (go_simp; done) | (go_simp; rfl)
theorem run_fld {t f : Nat} {x : Operand} {g p : Nat} (ht : offE t f = true) (ho : o.op = .fieldAddr t x f) (hx : ρ x = .pointer (some ⟨g, p, none⟩)) : (execOp ρ o).run Try.prog w = .ok (.value (.pointer (some ⟨g, p + f, none⟩))) w := by
  have hu25 := Try.underlying29
  have hu39 := Try.underlying23
  have hu47 := Try.underlying54
  have hu25a := Try.underlying25
  unfold execOp; rw [ho]
  unfold offE at ht
  simp only [Bool.or_eq_true, Bool.and_eq_true, Nat.blt_eq] at ht
  rcases ht with ((⟨e, h⟩ | ⟨e, h⟩) | ⟨e, h⟩) | ⟨e, h⟩
  · obtain rfl := Nat.eq_of_beq_eq_true e
    match f, h with
    | 0, _ => go_simp
    | 1, _ => go_simp
    | 2, _ => go_simp
    | 3, _ => go_simp
    | 4, _ => go_simp
    | 5, _ => go_simp
    | 6, _ => go_simp
    | 7, _ => go_simp
    | 8, _ => go_simp
    | 9, _ => go_simp
    | 10, _ => go_simp
    | 11, _ => go_simp
    | 12, _ => go_simp
    | 13, _ => go_simp
    | 14, _ => go_simp
    | 15, _ => go_simp
    | n + 16, h => exact absurd h (by omega)
  · obtain rfl := Nat.eq_of_beq_eq_true e
    match f, h with
    | 0, _ => go_simp
    | 1, _ => go_simp
    | 2, _ => go_simp
    | n + 3, h => exact absurd h (by omega)
  · obtain rfl := Nat.eq_of_beq_eq_true e
    match f, h with
    | 0, _ => go_simp
    | 1, _ => go_simp
    | n + 2, h => exact absurd h (by omega)
  · obtain rfl := Nat.eq_of_beq_eq_true e
    match f, h with
    | 0, _ => go_simp
    | 1, _ => go_simp
    | n + 2, h => exact absurd h (by omega)
theorem run_ext {x : Operand} {vs : Array Value} {v : Value} {i : Nat} (ho : o.op = .extract x i) (hx : ρ x = .tuple vs) (hv : vs[i]? = some v) : (execOp ρ o).run Try.prog w = .ok (.value v) w := by
  unfold execOp; rw [ho]; go_simp
theorem run_ln {c : Call} {x : Operand} {t : Nat} {A : Option Addr} {n k : Nat} (ht : isL t = true) (ho : o.op = .call c) (hc : c.callee = .builtin .len) (ha : c.args.toList = [x]) (hb : c.argTypes.toList = [t]) (hx : ρ x = .slice A n k) : (execOp ρ o).run Try.prog w = .ok (.value (.int .i64 n)) w := by
  obtain ⟨ce, xs, ts⟩ := c
  obtain ⟨xs⟩ := xs
  obtain ⟨ts⟩ := ts
  dsimp only at hc ha hb
  subst hc
  replace ha : xs = [x] := ha
  replace hb : ts = [t] := hb
  subst ha hb
  unfold execOp; rw [ho]; rcases isL_u ht with ht | ht <;> go_simp
end
theorem pure_run {N : Nat} {E : Env} {a : Act} {o : Oper} {v : Value} (K : Kn N E a) (h : pureE E o.op = some v) (w : World) : (execOp a.eval o).run Try.prog w = .ok (.value v) w := by
  generalize hop : o.op = op at h
  unfold pureE at h
  split at h
  · unfold execOp; rw [hop]; dsimp only; rw [K.of h]; go_simp
  · unfold execOp; rw [hop]; dsimp only; rw [K.of h]; go_simp
  · split at h
    · rename_i hc
      unfold execOp; rw [hop]; dsimp only; rw [K.of hc, K.of h]; go_simp
    · rename_i hc
      unfold execOp; rw [hop]; dsimp only; rw [K.of hc, K.of h]; go_simp
    · cases h
  · split at h
    · rename_i hx
      exact run_ext hop (K.of hx) h
    · cases h
  · split at h
    · rename_i hx
      obtain rfl := Option.some.inj h
      unfold execOp; rw [hop]; dsimp only; rw [K.of hx]; go_simp
    · cases h
  · split at h
    · rename_i ht hx hy
      rw [Bool.and_eq_true] at ht
      exact run_bin hop (isI_u ht.1) (isI_u ht.2) (K.of hx) (K.of hy) h
    · rename_i ht hx hy
      exact run_binU hop (K.of hx) (K.of hy) h
    · rename_i ht hx hy
      exact run_binB hop (K.of hx) (K.of hy) h
    · cases h
  · split at h
    · rename_i ht hx
      rw [Bool.and_eq_true] at ht
      obtain rfl := Nat.eq_of_beq_eq_true ht.1
      obtain rfl := Nat.eq_of_beq_eq_true ht.2
      obtain rfl := Option.some.inj h
      exact run_cv hop (K.of hx)
    · rename_i hx
      split at h
      · rename_i ht
        rw [Bool.and_eq_true] at ht
        obtain rfl := Nat.eq_of_beq_eq_true ht.1
        obtain rfl := Nat.eq_of_beq_eq_true ht.2
        obtain rfl := Option.some.inj h
        exact run_cvb hop (K.of hx)
      · cases h
    · cases h
  · split at h
    · rename_i ht hx
      obtain rfl := Option.some.inj h
      exact run_fld ht hop (K.of hx)
    · cases h
  · split at h
    · split at h
      · rename_i h1 h2 h3 _ _ _ _ _ ht hx
        obtain rfl := Option.some.inj h
        exact run_ln ht hop h1 h2 h3 (K.of hx)
      · cases h
    · cases h
  · split at h
    · rename_i first captured _ _ vs h1 h2
      obtain rfl := Option.some.inj h
      obtain ⟨first⟩ := first
      obtain ⟨captured⟩ := captured
      have e := K.ofs h2
      replace h1 : first = [] := h1
      subst h1
      replace e : captured.map a.eval = _ := e
      unfold execOp; rw [hop]; simp [Instr.makeFunc, e]
    · cases h
  · cases h
def wantE (ops : Array Oper) (E : Env) (o : Oper) : Option Bool := match o.guard with
  | none => some true
  | some (j, b) => match (ops[j]?).bind (·.dst) with
    | some q => match look E q with
      | some (.bool true) => some b
      | some (.bool false) => some (!b)
      | some (.tuple _) => some false
      | _ => none
    | none => none
theorem want_of {N : Nat} {E : Env} {a : Act} {ops : Array Oper} {o : Oper} {c : Bool} (K : Kn N E a) (h : wantE ops E o = some c) : Region.wanted o (yielded ops a.tmps) = c := by
  unfold wantE at h
  unfold Region.wanted
  split at h
  · rename_i hg
    rw [hg]
    exact Option.some.inj h
  · rename_i j b hg
    rw [hg]
    dsimp only
    split at h
    · rename_i q hq
      have hy : ∀ v, look E q = some v → yielded ops a.tmps j = match v with | .bool c => some c | _ => none := fun v hv => by
        have e := K.ev q v hv
        unfold yielded
        rw [hq]
        simp only [Option.bind_some]
        unfold Act.eval at e
        dsimp only at e
        by_cases hl : q < a.tmps.size
        · simp [Array.getD, hl] at e
          rw [Array.getElem?_eq_getElem hl, e]
          cases v <;> rfl
        · simp [Array.getD, hl, undef] at e
          rw [Array.getElem?_eq_none (Nat.le_of_not_lt hl), ← e]
      split at h
      · rename_i hv
        rw [hy _ hv]
        obtain rfl := Option.some.inj h
        cases b <;> rfl
      · rename_i hv
        rw [hy _ hv]
        obtain rfl := Option.some.inj h
        cases b <;> rfl
      · rename_i hv
        rw [hy _ hv]
        obtain rfl := Option.some.inj h
        rfl
      · cases h
    · cases h
/-- Runs n operations that need no memory. -/
def runE (N : Nat) (ops : Array Oper) : Nat → List Oper → Env → Option (Env × List Oper)
  | 0, l, E => some (E, l)
  | _ + 1, [], _ => none
  | n + 1, o :: l, E => match wantE ops E o, o.dst with
    | some true, some d => match Nat.blt d N, pureE E o.op with
      | true, some v => runE N ops n l ((d, v) :: E)
      | _, _ => none
    | some false, some d => match Nat.blt d N with
      | true => runE N ops n l ((d, undef) :: E)
      | false => none
    | _, _ => none
section
variable {N : Nat} {E : Env} {a : Act} {ops : Array Oper} {rest : List Oper} {Q : Exit → Act → World → Prop} {w w1 : World} {o : Oper} {d : Nat}
theorem one_step {v : Value} (hd : o.dst = some d) (hg : Region.wanted o (yielded ops a.tmps) = true) (hrun : (execOp a.eval o).run Try.prog w = .ok (.value v) w1) (k : wpList Try.prog ops Q rest (a.put (some d) v) w1) : wpList Try.prog ops Q (o :: rest) a w := by
  unfold wpList
  rw [if_pos hg]
  left
  unfold Oper.wp
  rw [hrun, Oper.upon_value, hd]
  exact k
theorem one_skip (hd : o.dst = some d) (hg : Region.wanted o (yielded ops a.tmps) = false) (k : wpList Try.prog ops Q rest (a.put (some d) undef) w) : wpList Try.prog ops Q (o :: rest) a w := by
  unfold wpList
  rw [if_neg (by rw [hg]; decide), hd]
  exact k
theorem run_ (n : Nat) {l l' : List Oper} {E' : Env} (K : Kn N E a) (h : runE N ops n l E = some (E', l')) (k : ∀ a', Kn N E' a' → wpList Try.prog ops Q l' a' w) : wpList Try.prog ops Q l a w := by
  induction n generalizing l E a with
  | zero =>
    unfold runE at h
    obtain ⟨rfl, rfl⟩ := Prod.mk.inj (Option.some.inj h)
    exact k a K
  | succ n ih =>
    cases l with
    | nil => unfold runE at h; cases h
    | cons o l =>
      unfold runE at h
      split at h
      · rename_i d hw hd
        split at h
        · rename_i v hb hv
          exact one_step hd (want_of K hw) (pure_run K hv w) (ih (K.put v hb) h)
        · cases h
      · rename_i d hw hd
        split at h
        · rename_i hb
          exact one_skip hd (want_of K hw) (ih (K.put undef hb) h)
        · cases h
      · cases h
/-- A step that gives a value, by its run. -/
theorem val_ {v : Value} (K : Kn N E a) (hd : o.dst = some d) (hb : Nat.blt d N = true) (hw : wantE ops E o = some true) (hrun : (execOp a.eval o).run Try.prog w = .ok (.value v) w1) (k : ∀ a', Kn N ((d, v) :: E) a' → wpList Try.prog ops Q rest a' w1) : wpList Try.prog ops Q (o :: rest) a w :=
  one_step hd (want_of K hw) hrun (k _ (K.put v hb))
theorem nil_ {R : Act → World → Prop} (h : R a w) : wpList Try.prog ops (Exit.then R Q) [] a w := h
theorem sr_ {id : Nat} {l : List Oper} {y : Code} (h : wpList Try.prog l.toArray (Exit.then (y.wp Try.prog Q) Q) l a w) : (Code.seq (Code.region id l.toArray false) y).wp Try.prog Q a w := wp_seq (wp_region_lit h)
/-- A call of a Go function by its contract. -/
theorem cl_ {f : FuncId} {fn : Func} {xs : Array Operand} {ts : Array TypeId} {args : List Value} (K : Kn N E a) (hf : Try.prog.funcs[f]? = some fn) (hname : (fn.name == "runtime.NumGoroutine") = false) (hb : fn.body.isSome = true) (hd : o.dst = some d) (hl : Nat.blt d N = true) (hw : wantE ops E o = some true)
    (hop : o.op = .call { callee := .value (.func f), args := xs, argTypes := ts }) (hargs : evs E xs.toList = some args)
    (h : Calls Try.prog f args.toArray w fun e w' => ∃ v, e = .returned v ∧ ∀ a', Kn N ((d, v) :: E) a' → wpList Try.prog ops Q rest a' w') : wpList Try.prog ops Q (o :: rest) a w := by
  have he := enters_ hf hname hb args.toArray w
  have ha : xs.map a.eval = args.toArray := by
    obtain ⟨xs⟩ := xs
    have := K.ofs hargs
    simp at this ⊢
    exact this
  have hrun : (execOp a.eval o).run Try.prog w = .ok (.enter f args.toArray) w := by
    unfold execOp
    simp [hop, resolve, Deferred.ofValue, invoke, Act.eval, ha, he]
  unfold wpList
  rw [if_pos (want_of K hw)]
  left
  unfold Oper.wp
  rw [hrun, Oper.upon_enter]
  refine h.mono fun e w'' hh => ?_
  obtain ⟨v, rfl, hk⟩ := hh
  rw [hd]
  exact hk _ (K.put v hl)
/-- Less is known. -/
def cov (E : Env) : Env → Prop
  | [] => True
  | p :: l => look E p.1 = some p.2 ∧ cov E l
theorem fg_ {E' : Env} (K : Kn N E a) (h : cov E E') : Kn N E' a := by
  refine ⟨K.sz, K.df, fun i v e => ?_⟩
  induction E' with
  | nil => cases e
  | cons p l ih =>
    unfold look at e
    split at e
    · rename_i q
      obtain rfl := Nat.eq_of_beq_eq_true q
      obtain rfl := Option.some.inj e
      exact K.ev _ _ h.1
    · exact ih h.2 e
/-- Branches. -/
theorem fx_ {b c : Bool} {d : Nat} (K : Kn N ((d, .bool b) :: E) a) (h : b = c) : Kn N ((d, .bool c) :: E) a := h ▸ K
theorem ks_ {i : Nat} {v u : Value} (K : Kn N E a) (h : look E i = some v) (e : v = u) : Kn N ((i, u) :: E) a :=
  ⟨K.sz, K.df, fun j x hj => by
    unfold look at hj
    split at hj
    · rename_i q
      obtain rfl := Nat.eq_of_beq_eq_true q
      obtain rfl := Option.some.inj hj
      rw [K.ev _ _ h, e]
    · exact K.ev j x hj⟩
theorem ct_ {i : Nat} {b : Bool} {x y : Code} (K : Kn N E a) (h : look E i = some (.bool b)) (hb : b = true) (k : x.wp Try.prog Q a w) : (Code.cond (.tmp i) x y).wp Try.prog Q a w := wp_cond_true (hb ▸ K.ev i _ h) k
theorem cf_ {i : Nat} {b : Bool} {x y : Code} (K : Kn N E a) (h : look E i = some (.bool b)) (hb : b = false) (k : y.wp Try.prog Q a w) : (Code.cond (.tmp i) x y).wp Try.prog Q a w := wp_cond_false (hb ▸ K.ev i _ h) k
theorem ck_ {i : Nat} {b : Bool} {y z : Code} {Q' : Exit → Act → World → Prop} (K : Kn N E a) (h : look E i = some (.bool b)) (hb : b = true) (k : z.wp Try.prog Q' a w) : (Code.cond (.tmp i) .skip y).wp Try.prog (Exit.then (z.wp Try.prog Q') Q) a w := wp_cond_true (hb ▸ K.ev i _ h) (wp_skip k)
/-- What is ahead of 'skip' goes on. -/
theorem cs_ {i : Nat} {b : Bool} {x z : Code} {Q' : Exit → Act → World → Prop} (K : Kn N E a) (h : look E i = some (.bool b)) (hb : b = false) (k : z.wp Try.prog Q' a w) : (Code.cond (.tmp i) x .skip).wp Try.prog (Exit.then (z.wp Try.prog Q') Q) a w := wp_cond_false (hb ▸ K.ev i _ h) (wp_skip k)
end
/-- Where 'return' leads out of the parts around it. -/
class RetTo (Q : Exit → Act → World → Prop) (fn : outParam Func) (R : outParam (Ending → World → Prop)) : Prop where
  go : ∀ a w, bodyPost Try.prog fn R .ret a w → Q .ret a w
instance (fn : Func) (R : Ending → World → Prop) : RetTo (bodyPost Try.prog fn R) fn R := ⟨fun _ _ h => h⟩
instance (R' : Act → World → Prop) (Q : Exit → Act → World → Prop) (fn : Func) (R : Ending → World → Prop) [h : RetTo Q fn R] : RetTo (Exit.then R' Q) fn R := ⟨fun a w k => h.go a w k⟩
instance (id : Nat) (Q : Exit → Act → World → Prop) (fn : Func) (R : Ending → World → Prop) [h : RetTo Q fn R] : RetTo (Exit.inBlock id Q) fn R := ⟨fun a w k => h.go a w k⟩
section
variable {N : Nat} {E : Env} {a : Act} {ops : Array Oper} {rest : List Oper} {Q : Exit → Act → World → Prop} {w w1 : World} {o : Oper} {d : Nat} {fn : Func} {R : Ending → World → Prop}
/-- Where 'break' leads. -/
class ExTo (Q' : Exit → Act → World → Prop) (id : Nat) (Q : outParam (Exit → Act → World → Prop)) : Prop where
  go : ∀ a w, Q .normal a w → Q' (.exit id) a w
instance (id : Nat) (Q : Exit → Act → World → Prop) : ExTo (Exit.inBlock id Q) id Q := ⟨fun a w h => by unfold Exit.inBlock; simpa using h⟩
instance (id : Nat) (R' : Act → World → Prop) (Q Q2 : Exit → Act → World → Prop) [h : ExTo Q id Q2] : ExTo (Exit.then R' Q) id Q2 := ⟨fun a w k => h.go a w k⟩
theorem ex_ {id : Nat} {Q' Q : Exit → Act → World → Prop} [h : ExTo Q' id Q] (k : Q .normal a w) : (Code.exit id).wp Try.prog Q' a w := wp_exit (h.go a w k)
theorem thn_ {R' : Act → World → Prop} {Q : Exit → Act → World → Prop} (h : R' a w) : Exit.then R' Q .normal a w := h
theorem val_eq {r : Nat} {v : Value} (K : Kn N E a) (h : look E r = some v) : a.tmps.getD r undef = v := K.ev r v h
theorem ret_ [hQ : RetTo Q fn R] {r : Nat} {v : Value} (hr : fn.results = #[.tmp r]) (K : Kn N E a) (h : look E r = some v) (k : R (.returned v) w) : Code.ret.wp Try.prog Q a w :=
  wp_ret (hQ.go _ _ (bodyPost_ret (results_tmp hr _ _ _) K.df (by rw [val_eq K h]; exact k)))
/-- A block: its end is what follows. -/
theorem bk_ {id : Nat} {x z : Code} (h : x.wp Try.prog (Exit.inBlock id (Exit.then (z.wp Try.prog Q) Q)) a w) : (Code.seq (Code.block id x) z).wp Try.prog Q a w := wp_seq (wp_block h)
theorem nb_ {id : Nat} {z : Code} (h : z.wp Try.prog Q a w) : wpList Try.prog ops (Exit.inBlock id (Exit.then (z.wp Try.prog Q) Q)) [] a w := h
theorem sb_ {id : Nat} {z : Code} (h : z.wp Try.prog Q a w) : Code.skip.wp Try.prog (Exit.inBlock id (Exit.then (z.wp Try.prog Q) Q)) a w := wp_skip h
theorem rg_ {id : Nat} {l : List Oper} (h : wpList Try.prog l.toArray Q l a w) : (Code.region id l.toArray false).wp Try.prog Q a w := wp_region_lit h
def argE : Nat → List Value → Env
  | _, [] => []
  | i, v :: l => (i, v) :: argE (i + 1) l
theorem argE_look {l : List Value} {v : Value} : ∀ {k i : Nat}, look (argE k l) i = some v → k ≤ i ∧ l[i - k]? = some v := by
  induction l with
  | nil => intro k i h; cases h
  | cons u l ih =>
    intro k i h
    unfold argE look at h
    dsimp only at h
    split at h
    · rename_i e
      obtain rfl := Nat.eq_of_beq_eq_true e
      exact ⟨Nat.le_refl _, by simpa using h⟩
    · rename_i e
      have hne : ¬ k = i := fun q => by subst q; simp at e
      obtain ⟨h1, h2⟩ := ih h
      refine ⟨by omega, ?_⟩
      rw [show i - k = (i - (k + 1)) + 1 by omega]
      simpa using h2
/-- A function is entered. -/
theorem en_ {f : FuncId} {fn : Func} {c : Code} {args : List Value} {R : Ending → World → Prop} (hf : Try.prog.funcs[f]? = some fn) (hb : fn.body = some c) (hN : fn.ntmps = N) (hl : Nat.ble args.length N = true) (h : ∀ a, Kn N (argE 0 args) a → c.wp Try.prog (bodyPost Try.prog fn R) a w) : Calls Try.prog f args.toArray w R := by
  have hl' : args.length ≤ N := Nat.le_of_ble_eq_true hl
  refine calls_of_wp hf hb (h _ ⟨by simp [hN]; omega, rfl, fun i v e => ?_⟩)
  obtain ⟨_, e⟩ := argE_look e
  have hi := (List.getElem?_eq_some_iff.1 e).1
  unfold Act.eval
  dsimp only
  rw [Array.getD_eq_getD_getElem?, Array.getElem?_append_left (by simpa using hi)]
  simp only [Nat.sub_zero] at e
  simp [e]
end
/-- Memory: a world above another one, with known blocks. -/
structure On (L : List (Nat × Obj)) (w0 : World) (W : World) : Prop where
  bl : Below w0.heap.size w0 W
  me : ∀ (k g : Nat) (o : Obj), L[k]? = some (g, o) → W.heap[g]? = some o
  nd : (L.map (·.1)).Nodup
theorem On.nil (w : World) : On [] w w := ⟨Below.refl _ _, fun k g o h => by simp at h, List.nodup_nil⟩
section
variable {L : List (Nat × Obj)} {w0 W W2 : World}
theorem On.here (h : On L w0 W) : On L W W := ⟨Below.refl _ _, h.me, h.nd⟩
theorem On.drew (h : On L w0 W) : On L w0 W.drew := ⟨below_drew h.bl, fun k g o e => blk_drew (h.me k g o e), h.nd⟩
theorem On.call (h : On L w0 W) (hb : Below W.heap.size W W2) : On L w0 W2 := ⟨below_step h.bl hb, fun k g o e => blk_below (h.me k g o e) hb, h.nd⟩
theorem On.new (h : On L w0 W) (o : Obj) : On ((W.heap.size, o) :: L) w0 (W.alloc o) := by
  refine ⟨below_alloc h.bl o, fun k g o' e => ?_, ?_⟩
  · cases k with
    | zero => obtain ⟨rfl, rfl⟩ := Prod.mk.inj (Option.some.inj e); exact blk_new W o
    | succ k => exact blk_alloc (h.me k g o' e) o
  · rw [List.map_cons, List.nodup_cons]
    refine ⟨fun hm => ?_, h.nd⟩
    obtain ⟨⟨g, o'⟩, hp, e⟩ := List.mem_map.1 hm
    obtain ⟨k, hk, e2⟩ := List.mem_iff_getElem.1 hp
    have := blk_lt (h.me k g o' (by rw [List.getElem?_eq_getElem hk, e2]))
    dsimp only at e
    omega
theorem On.cell {k g : Nat} {cs : Array Value} {t : TypeId} (h : On L w0 W) (e : L[k]? = some (g, .cells cs t (0, 0))) (i : Nat) : W.cell? ⟨g, i, none⟩ = cs[i]? := blk_cell (h.me k g _ e) i
end
end Go.Proofs.Ytfinhaghgmnegaa.O
