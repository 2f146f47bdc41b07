-- What some functions of the program compute: a text of this claim's own (lines first written by the kit's tool, some proved anew).
import Derived.Test.YtdhljcnilclfbaaOx54
import Derived.Sort.Statements
import Derived.Shelf.SlSortCmp.Insertion
import Derived.Lib.QuietBelow
import Derived.Shelf.SlSortCmp.NoneTotal
namespace Go.Proofs.Ytdhljcnilclfbaa.O
open Go.RowKit Go.Proofs.YtdhljcnilclfbaaW.PrintWords Go.Proofs.YtdhljcnilclfbaaW.PrintLast Go.Proofs.YtdhljcnilclfbaaW.PrintMore Go.Sort Go.Shelf
attribute [local go_sem] max2_int min2_int max_two min_two max_three min_three max_four min_four   -- for this text's walks alone
set_option linter.unusedVariables false
set_option linter.unusedSimpArgs false
def lt37b (x y : S37) : Bool := decide (x.f2 < y.f2) || (decide (x.f2 = y.f2) && (decide (x.f0 < y.f0) || (decide (x.f0 = y.f0) && decide (x.f1 < y.f1))))
def ins37 (x : S37) : List S37 → List S37
  | [] => [x]
  | y :: r => if lt37b y x then y :: ins37 x r else x :: y :: r
def srt37 : List S37 → List S37
  | [] => []
  | x :: r => ins37 x (srt37 r)
theorem lt37b_iff (x y : S37) : lt37b x y = true ↔ (x.f2 < y.f2 ∨ x.f2 = y.f2 ∧ (x.f0 < y.f0 ∨ x.f0 = y.f0 ∧ x.f1 < y.f1)) := by
  unfold lt37b
  simp [Bool.or_eq_true, Bool.and_eq_true]
def le37 (x y : S37) : Prop := lt37b y x = false
theorem le37_iff (x y : S37) : le37 x y ↔ (x.f2 < y.f2 ∨ x.f2 = y.f2 ∧ (x.f0 < y.f0 ∨ x.f0 = y.f0 ∧ x.f1 ≤ y.f1)) := by
  unfold le37
  cases h : lt37b y x with
  | true => have := (lt37b_iff y x).1 h; constructor <;> intro h1 <;> (first | omega | exact absurd h1 (by decide))
  | false =>
    have : ¬ _ := fun g => Bool.noConfusion (((lt37b_iff y x).2 g).symm.trans h)
    constructor
    · intro _; omega
    · intro _; rfl
theorem le37_trans {x y z : S37} (h1 : le37 x y) (h2 : le37 y z) : le37 x z := by
  rw [le37_iff] at *; omega
theorem le37_antisymm {x y : S37} (h1 : le37 x y) (h2 : le37 y x) : x = y := by
  rw [le37_iff] at h1 h2
  obtain ⟨x0, x1, x2⟩ := x
  obtain ⟨y0, y1, y2⟩ := y
  simp only at h1 h2
  have : x0 = y0 ∧ x1 = y1 ∧ x2 = y2 := by omega
  obtain ⟨rfl, rfl, rfl⟩ := this
  rfl
theorem ins37_perm (x : S37) : ∀ l, (ins37 x l).Perm (x :: l)
  | [] => List.Perm.refl _
  | y :: r => by
    unfold ins37
    split
    · exact ((ins37_perm x r).cons y).trans (List.Perm.swap x y r)
    · exact List.Perm.refl _
theorem srt37_perm : ∀ l, (srt37 l).Perm l
  | [] => List.Perm.refl _
  | x :: r => (ins37_perm x (srt37 r)).trans ((srt37_perm r).cons x)
theorem ins37_sorted (x : S37) : ∀ l, l.Pairwise le37 → (ins37 x l).Pairwise le37
  | [], _ => by simp [ins37]
  | y :: r, h => by
    have hy := (List.pairwise_cons.1 h).1
    have hr := (List.pairwise_cons.1 h).2
    unfold ins37
    split
    · rename_i hlt
      refine List.pairwise_cons.2 ⟨fun z hz => ?_, ins37_sorted x r hr⟩
      rcases List.mem_cons.1 ((ins37_perm x r).mem_iff.1 hz) with rfl | hz
      · have := (lt37b_iff y z).1 hlt; rw [le37_iff]; omega
      · exact hy z hz
    · rename_i hlt
      have hxy : le37 x y := by simpa [le37] using hlt
      refine List.pairwise_cons.2 ⟨fun z hz => ?_, h⟩
      rcases List.mem_cons.1 hz with rfl | hz
      · exact hxy
      · exact le37_trans hxy (hy z hz)
theorem srt37_sorted : ∀ l, (srt37 l).Pairwise le37
  | [] => List.Pairwise.nil
  | x :: r => ins37_sorted x _ (srt37_sorted r)
theorem sorted_unique : ∀ (a b : List S37), a.Perm b → a.Pairwise le37 → b.Pairwise le37 → a = b
  | [], b, h, _, _ => (List.Perm.nil_eq h)
  | x :: r, [], h, _, _ => absurd h.length_eq (by simp)
  | x :: r, y :: s, h, ha, hb => by
    have hx : x = y := by
      have m1 : x ∈ y :: s := h.mem_iff.1 (List.mem_cons_self)
      have m2 : y ∈ x :: r := h.mem_iff.2 (List.mem_cons_self)
      rcases List.mem_cons.1 m1 with e | e
      · exact e
      · rcases List.mem_cons.1 m2 with e2 | e2
        · exact e2.symm
        · exact le37_antisymm ((List.pairwise_cons.1 ha).1 y e2) ((List.pairwise_cons.1 hb).1 x e)
    subst hx
    rw [sorted_unique r s (List.Perm.cons_inv h) (List.pairwise_cons.1 ha).2 (List.pairwise_cons.1 hb).2]
def enc37 (x : S37) : List Value := [.int .i64 x.f0, .int .i64 x.f1, .int .i64 x.f2]
instance : Inhabited S37 := ⟨z37⟩
theorem take3_get {inner : List Value} {j : Nat} {x : S37} (h : (inner.drop (j * 3)).take 3 = enc37 x) (c : Nat) (hc : c < 3) : inner[j * 3 + c]? = (enc37 x)[c]? := by
  rw [← h, List.getElem?_take, if_pos hc, List.getElem?_drop]
theorem inner_get {w : World} {base : Nat} {ok : Nat → Prop} {l : List S37} {inner : List Value} (h : Reps (k37.M w base ok) 3 l inner) (t : Nat) (ht : t < l.length * 3) :
    inner[t]? = some ((flatK enc37 3 l.toArray)[t]!) := by
  have hj : t / 3 < l.length := by omega
  have h1 := k37_openM (h.2 (t / 3) l[t / 3] (by simp [hj]))
  have h2 := take3_get (x := l[t / 3]) h1 (t % 3) (by omega)
  rw [show t / 3 * 3 + t % 3 = t by omega] at h2
  rw [h2, get_flatK enc37 3 l.toArray t (by simpa using ht)]
  have h3 : l.toArray[t / 3]! = l[t / 3] := by simp [hj]
  rw [h3]
  have hc : t % 3 < 3 := by omega
  have : t % 3 = 0 ∨ t % 3 = 1 ∨ t % 3 = 2 := by omega
  rcases this with e | e | e <;> rw [e] <;> rfl
theorem holds_of {w : World} {base g : Nat} {ok : Nat → Prop} {l : List S37} {inner : List Value} {cur : Array Value} (h : Reps (k37.M w base ok) 3 l inner)
    (hg : w.heap[g]? = some (.cells cur 37 (0, 0))) (ht : cur.toList.take (l.length * 3) = inner) : HoldsK enc37 3 w g 0 l.toArray := by
  intro j hj
  rw [size_flatK] at hj
  have hj' : j < l.length * 3 := by simpa using hj
  have h1 := inner_get h j hj'
  rw [← ht, List.getElem?_take, if_pos hj', Array.getElem?_toList] at h1
  refine ⟨?_, blk_frozen hg _⟩
  rw [Nat.zero_add]
  exact (blk_cell hg j).trans h1
theorem put_get (F cur : Array Value) (h : F.size ≤ cur.size) : (putCells id 0 F cur).toList.take F.size = F.toList := by
  apply List.ext_getElem?
  intro i
  rw [List.getElem?_take]
  by_cases hi : i < F.size
  · rw [if_pos hi, Array.getElem?_toList, Array.getElem?_toList]
    simp only [putCells, Array.getElem?_mapIdx]
    have hc : i < cur.size := by omega
    rw [Array.getElem?_eq_getElem hc, Option.map_some, if_pos ⟨Nat.zero_le _, by omega⟩]
    simp [hi]
  · rw [if_neg hi, Array.getElem?_toList, Array.getElem?_eq_none (by omega)]
theorem reps_flat (w : World) (base : Nat) (ok : Nat → Prop) (r : List S37) : Reps (k37.M w base ok) 3 r (flatK enc37 3 r.toArray).toList := by
  refine ⟨by simp, fun j p hp => ?_⟩
  obtain ⟨hj, rfl⟩ := List.getElem?_eq_some_iff.1 hp
  have : ((flatK enc37 3 r.toArray).toList.drop (j * 3)).take 3 = enc37 r[j] := by
    apply List.ext_getElem?
    intro c
    rw [List.getElem?_take]
    by_cases hc : c < 3
    · rw [if_pos hc, List.getElem?_drop, Array.getElem?_toList]
      have hlt : j * 3 + c < (flatK enc37 3 r.toArray).size := by simp; omega
      rw [Array.getElem?_eq_getElem hlt]
      have h1 := get_flatK enc37 3 r.toArray (j * 3 + c) (by simpa using hlt)
      rw [getElem!_pos (flatK enc37 3 r.toArray) (j * 3 + c) hlt] at h1
      rw [h1, show (j * 3 + c) / 3 = j by omega, show (j * 3 + c) % 3 = c by omega]
      have h3 : r.toArray[j]! = r[j] := by simp [hj]
      rw [h3]
      have : c = 0 ∨ c = 1 ∨ c = 2 := by omega
      rcases this with e | e | e <;> rw [e] <;> rfl
    · rw [if_neg hc]
      exact (List.getElem?_eq_none (by simp [enc37]; omega)).symm
  rw [this]
  exact k37_mkM w base ok r[j]
theorem sort_world {w : World} {g base n : Nat} {cur : Array Value} {d : Array S37} {os : Array Obj} (hg : w.heap[g]? = some (.cells cur 37 (0, 0))) (hb : base ≤ g) :
    (sortWorldK enc37 3 w g 0 n d os).heap[g]? = some (.cells (putCells id 0 (flatK enc37 3 d) cur) 37 (0, 0)) ∧ Below base w (sortWorldK enc37 3 w g 0 n d os) := by
  have hlt : g < w.heap.size := blk_lt hg
  have hs : (putRowK enc37 3 (Sort.ahead w n) g 0 d).heap.size = w.heap.size := by simp [putRowK, putRow, mapBlock, Sort.ahead]
  have hh : ∀ k, k < w.heap.size → (sortWorldK enc37 3 w g 0 n d os).heap[k]? = (putRowK enc37 3 (Sort.ahead w n) g 0 d).heap[k]? := fun k hk => by
    show ((putRowK enc37 3 (Sort.ahead w n) g 0 d).heap ++ os)[k]? = _
    rw [Array.getElem?_append, if_pos (by rw [hs]; exact hk)]
  refine ⟨?_, rfl, rfl, rfl, ?_, fun k hk => ?_⟩
  · rw [hh g hlt]
    show (w.heap.modify g _)[g]? = _
    rw [Array.getElem?_modify, if_pos rfl, hg]
    rfl
  · show w.heap.size ≤ ((putRowK enc37 3 (Sort.ahead w n) g 0 d).heap ++ os).size
    rw [Array.size_append, hs]; omega
  · by_cases hkw : k < w.heap.size
    · rw [hh k hkw]
      show (w.heap.modify g _)[k]? = _
      rw [Array.getElem?_modify, if_neg (by omega)]
    · omega
def c3 (a b : Int) : Int := if a < b then -1 else if a > b then 1 else 0
def cf (x y : S37) : Int := if c3 x.f2 y.f2 ≠ 0 then c3 x.f2 y.f2 else if c3 x.f0 y.f0 ≠ 0 then c3 x.f0 y.f0 else c3 x.f1 y.f1
def lt37 (x y : S37) : Prop := x.f2 < y.f2 ∨ x.f2 = y.f2 ∧ (x.f0 < y.f0 ∨ x.f0 = y.f0 ∧ x.f1 < y.f1)
theorem lt_cf (x y : S37) : ltOf cf x y = true ↔ lt37 x y := by
  unfold ltOf cf c3 lt37
  simp only [decide_eq_true_eq]
  repeat' split
  all_goals (first | omega | (simp at *; omega))
theorem swo_cf : SWO (ltOf cf) where
  irrefl x := by
    have := lt_cf x x
    cases h : ltOf cf x x
    · rfl
    · exact absurd (this.1 h) (by unfold lt37; omega)
  trans x y z h1 h2 := (lt_cf x z).2 (by have a := (lt_cf x y).1 h1; have b := (lt_cf y z).1 h2; unfold lt37 at *; omega)
  ntrans x y z h1 h2 := by
    cases h : ltOf cf x z
    · rfl
    · have a : ¬ lt37 x y := fun h => by rw [(lt_cf x y).2 h] at h1; exact absurd h1 (by decide)
      have b : ¬ lt37 y z := fun h => by rw [(lt_cf y z).2 h] at h2; exact absurd h2 (by decide)
      have c := (lt_cf x z).1 h
      unfold lt37 at *; omega
theorem total_cf (x y : S37) (h1 : ltOf cf x y = false) (h2 : ltOf cf y x = false) : x = y := by
  have a : ¬ lt37 x y := fun h => by rw [(lt_cf x y).2 h] at h1; exact absurd h1 (by decide)
  have b : ¬ lt37 y x := fun h => by rw [(lt_cf y x).2 h] at h2; exact absurd h2 (by decide)
  obtain ⟨x0, x1, x2⟩ := x
  obtain ⟨y0, y1, y2⟩ := y
  unfold lt37 at *
  simp only at a b
  have : x0 = y0 ∧ x1 = y1 ∧ x2 = y2 := by omega
  obtain ⟨rfl, rfl, rfl⟩ := this
  rfl
theorem compare_f (x y : S37) : onset_compare.f 10 x.f0 x.f1 x.f2 y.f0 y.f1 y.f2 = some (cf x y) := by
  have h (a b : Int) : cmp_Compare_int.f a b = some (c3 a b) := by
    simp only [cmp_Compare_int.f, cmp_isNaN_int.f, c3]
    simp
    repeat' split
    all_goals (first | rfl | omega)
  have o (a b c : Int) : cmp_Or_int.f 10 [a, b, c] = some (if a ≠ 0 then a else if b ≠ 0 then b else c) := by
    simp only [cmp_Or_int.f, cmp_Or_int.l0]
    simp [Go.Proofs.YtdhljcnilclfbaaW.PrintWords.rd, wrap64]
    by_cases ha : a = 0
    · by_cases hb : b = 0
      · by_cases hc : c = 0
        · simp [ha, hb, hc]
        · simp [ha, hb, hc]
      · simp [ha, hb]
    · simp [ha]
  simp only [onset_compare.f, h, o, Option.bind_some, cf]
section
variable {P : Program} {ops : Array Oper} {rest : List Oper} {o : Oper} {a : Act} {Q : Exit → Act → World → Prop}
theorem drawn_drewN (w : World) (n : Nat) : (w.drewN n).drawn = w.drawn + n := rfl
theorem box_eventD {W : World} (hgd : o.guard = none) {N : Tmp} (_hd : o.dst = some N) {cs : Array Value} {t : TypeId}
    (hrun : (execOp a.eval o).run P W = .ok (.value (.pointer (some ⟨W.heap.size, 0, none⟩))) (W.alloc (.cells cs t (0, 0))))
    (h : ∀ g, g = W.heap.size → ∀ w1, w1.heap[g]? = some (.cells cs t (0, 0)) → Below W.heap.size W w1 → w1.drawn = W.drawn → wpList P ops Q rest (a.put o.dst (.pointer (some ⟨g, 0, none⟩))) w1) : wpList P ops Q (o :: rest) a W :=
  Kd.event_run hgd hrun (h _ rfl _ (blk_new W _) (below_alloc (Below.refl _ _) _) rfl)
variable {α : Type} {Kc : Act → World → Prop}
theorem R_lit_stepD (d : Kd α) {w0 W : World} (base e : Nat) (hw : Region.wanted o (yielded ops a.tmps) = true) {N : Tmp} (_hd : o.dst = some N) {xs : List α} {inner : List Value} {ok okp : Nat → Prop}
    (hrun : (execOp a.eval o).run P W = .ok (.value (.slice (some ⟨W.heap.size, 0, none⟩) xs.length xs.length)) (W.alloc (.cells inner.toArray e)))
    (hrep : Reps (d.M W base okp) d.sz xs inner) (hok : ∀ k, okp k → ok k) (hfresh : ok W.heap.size) (HB : Below base w0 W) (hbase : base ≤ W.heap.size) (hm : xs.length ≤ 9223372036854775807)
    (h : ∀ v1 w1, d.R e w1 base ok v1 xs → Below base w0 w1 → W.grownBy w1 none → (∃ b, v1.ownBlock = some b ∧ W.heap.size ≤ b) → w1.drawn = W.drawn → Kc (a.put o.dst v1) w1) : if Region.wanted o (yielded ops a.tmps) = true then Oper.wp P o a W Kc Q else Kc (a.put o.dst undef) W := by
  have h2 := World.ownsRow_lit (base := base) (e := e) (size := d.sz) W inner.toArray xs.length hbase (by simpa [maxLen] using hm) (by simpa using hrep.1)
  have hown : ∀ k, (Value.slice (some ⟨W.heap.size, 0, none⟩) xs.length xs.length).ownBlock = some k → k = W.heap.size := fun k hk => by
    have : W.heap.size = k := by simpa [Value.ownBlock] using hk
    exact this.symm
  refine event_step hw hrun (h _ _ ⟨fun k hk => ?_, inner, by simpa using h2, ?_⟩ (HB.alloc hbase _) (World.grownBy_alloc W _ none) ⟨W.heap.size, by simp [Value.ownBlock], Nat.le_refl _⟩ rfl)
  · rw [hown k hk]
    exact hfresh
  · refine hrep.imp_ (fun p c hp => d.M_mono (fun k hk => ⟨hok k hk.1, fun he => ?_⟩) (Kd.M_below (d.M_bound hp) (below_alloc (Below.refl _ _) _)))
    have h3 := hown k he.symm
    have := hk.2.2.1
    omega
end
set_option maxHeartbeats 8000000 in
set_option maxRecDepth 100000 in
theorem onset_compare.callsD (k : Nat) (a0_0 : Int) (a0_1 : Int) (a0_2 : Int) (a1_0 : Int) (a1_1 : Int) (a1_2 : Int) (r : Int) (w : World) (h : onset_compare.f k a0_0 a0_1 a0_2 a1_0 a1_1 a1_2 = some r) :
    Calls Try.prog 22 #[.agg #[.int .i64 a0_0, .int .i64 a0_1, .int .i64 a0_2], .agg #[.int .i64 a1_0, .int .i64 a1_1, .int .i64 a1_2]] w fun e w' => e = .returned (.int .i64 r) ∧ Below w.heap.size w w' ∧ w.drawn ≤ w'.drawn := by
  have HD := Aside0.mk (Nat.le_refl w.drawn)
  have hu37 := Try.underlying37
  have HB := Aside0.mk (Below.refl w.heap.size w)
  have H : ((cmp_Compare_int.f a0_2 a1_2).bind fun t174 => ((cmp_Compare_int.f a0_0 a1_0).bind fun t175 => ((cmp_Compare_int.f a0_1 a1_1).bind fun t176 => ((cmp_Or_int.f k (([t174, t175, t176] : List Int))).bind fun t180 => (some t180))))) = some r := h
  clear h
  replace H := Option.bind_eq_some_iff.mp H
  obtain ⟨t174, A30, H⟩ := H
  replace H : ((cmp_Compare_int.f a0_0 a1_0).bind fun t175 => ((cmp_Compare_int.f a0_1 a1_1).bind fun t176 => ((cmp_Or_int.f k (([t174, t175, t176] : List Int))).bind fun t180 => (some t180)))) = some r := H
  have A3 := Aside0.mk A30
  clear A30
  replace H := Option.bind_eq_some_iff.mp H
  obtain ⟨t175, A40, H⟩ := H
  replace H : ((cmp_Compare_int.f a0_1 a1_1).bind fun t176 => ((cmp_Or_int.f k (([t174, t175, t176] : List Int))).bind fun t180 => (some t180))) = some r := H
  have A4 := Aside0.mk A40
  clear A40
  replace H := Option.bind_eq_some_iff.mp H
  obtain ⟨t176, A50, H⟩ := H
  replace H : ((cmp_Or_int.f k (([t174, t175, t176] : List Int))).bind fun t180 => (some t180)) = some r := H
  have A5 := Aside0.mk A50
  clear A50
  obtain ⟨y177, hy177⟩ : ∃ y_ : List Int, y_ = (([t174, t175, t176] : List Int)) := ⟨_, rfl⟩
  replace H : ((cmp_Or_int.f k y177).bind fun t180 => (some t180)) = some r := by first | (rw [hy177]; with_reducible exact H) | (have H2_ := (Option.bind_some _ _).symm.trans H; rw [hy177]; with_reducible exact H2_) | (have H2_ := (Option.bind_some _ _).symm.trans H; with_reducible exact H2_) | with_reducible exact H | (rw [hy177]; exact H) | exact H
  have Ny177 := Aside0.mk hy177
  clear hy177
  replace H := Option.bind_eq_some_iff.mp H
  obtain ⟨t180, A60, H⟩ := H
  replace H : (some t180) = some r := H
  have A6 := Aside0.mk A60
  clear A60
  obtain rfl := Option.some.inj H
  go_enter Try.func22, Try.ntmps22
  try go_wp2_with (first | ((with_reducible refine gate_dst (N := 2) rfl ?_); refine box_eventD ?hg (N := 2) ?hd (cs := #[.int .i64 a0_0, .int .i64 a0_1, .int .i64 a0_2]) (t := 37) ?hr ?_; (case hd => rfl); (case hg => rfl); (case hr => first | (go_simp; done) | (go_simp; rfl)); intro gb172 hg w7 hbox hb hd; have HD2 := Aside0.mk (show w.drawn ≤ w7.drawn by (have h1 := HD.out; have h2 := hd; (try simp only [World.drawn_alloc, World.drawn_setCell, World.drawn_drew, drawn_drewN] at h1 h2 ⊢); omega)); clear HD hd; have HD := HD2; clear HD2; have n0_ := Aside0.mk (below_step (by repeat (first | (with_reducible first | exact HB.out | apply below_alloc | apply pw_below_drewN | apply below_drew1) | exact HB.out)) hb); have n1_ := Aside0.mk (hbox); have n2_ := Aside0.mk ((by rw [hg]; exact (below_size (by repeat (first | (with_reducible first | exact HB.out | apply below_alloc | apply pw_below_drewN | apply below_drew1) | exact HB.out))) : w.heap.size ≤ gb172)); have n3_ := Aside0.mk ((by rw [hg]; exact (below_size (by repeat (first | (with_reducible first | exact HB.out | apply below_alloc | apply pw_below_drewN | apply below_drew1) | exact HB.out))) : w.heap.size ≤ gb172)); clear HB; have HB := n0_; have BK172 := n1_; have GW172 := n2_; have GE172 := n3_; clear n0_ n1_ n2_ n3_; clear hb hbox hg) | ((with_reducible refine gate_dst (N := 3) rfl ?_); refine box_eventD ?hg (N := 3) ?hd (cs := #[.int .i64 a1_0, .int .i64 a1_1, .int .i64 a1_2]) (t := 37) ?hr ?_; (case hd => rfl); (case hg => rfl); (case hr => first | (go_simp; done) | (go_simp; rfl)); intro gb173 hg w8 hbox hb hd; have HD2 := Aside0.mk (show w.drawn ≤ w8.drawn by (have h1 := HD.out; have h2 := hd; (try simp only [World.drawn_alloc, World.drawn_setCell, World.drawn_drew, drawn_drewN] at h1 h2 ⊢); omega)); clear HD hd; have HD := HD2; clear HD2; have n0_ := Aside0.mk (blk_below (g := gb172) (o := .cells #[.int .i64 a0_0, .int .i64 a0_1, .int .i64 a0_2] 37 (0, 0)) (by (with_reducible repeat (first | refine blk_drewN ?_ _ | refine blk_drew ?_ | refine blk_alloc ?_ _)); exact BK172.out) hb); have n1_ := Aside0.mk (below_step (by repeat (first | (with_reducible first | exact HB.out | apply below_alloc | apply pw_below_drewN | apply below_drew1 | refine below_set ?_ GE172.out) | exact HB.out)) hb); have n2_ := Aside0.mk (hbox); have n3_ := Aside0.mk ((by rw [hg]; exact (below_size (by repeat (first | (with_reducible first | exact HB.out | apply below_alloc | apply pw_below_drewN | apply below_drew1 | refine below_set ?_ GE172.out) | exact HB.out))) : w.heap.size ≤ gb173)); have n4_ := Aside0.mk ((by rw [hg]; exact (below_size (by repeat (first | (with_reducible first | exact HB.out | apply below_alloc | apply pw_below_drewN | apply below_drew1 | refine below_set ?_ GE172.out) | exact HB.out))) : w.heap.size ≤ gb173)); have n5_ := Aside0.mk ((by rw [hg]; exact Nat.ne_of_lt (blk_lt (g := gb172) (o := .cells #[.int .i64 a0_0, .int .i64 a0_1, .int .i64 a0_2] 37 (0, 0)) (by (with_reducible repeat (first | refine blk_drewN ?_ _ | refine blk_drew ?_ | refine blk_alloc ?_ _)); exact BK172.out)) : gb172 ≠ gb173)); have n6_ := Aside0.mk ((by rw [hg]; exact Nat.ne_of_gt (blk_lt (g := gb172) (o := .cells #[.int .i64 a0_0, .int .i64 a0_1, .int .i64 a0_2] 37 (0, 0)) (by (with_reducible repeat (first | refine blk_drewN ?_ _ | refine blk_drew ?_ | refine blk_alloc ?_ _)); exact BK172.out)) : gb173 ≠ gb172)); clear BK172; clear HB; have BK172 := n0_; have HB := n1_; have BK173 := n2_; have GW173 := n3_; have GE173 := n4_; have NB172_173 := n5_; have NB173_172 := n6_; clear n0_ n1_ n2_ n3_ n4_ n5_ n6_; clear hb hbox hg))
  have n0_ := Aside0.mk (blk_drew BK172.out)
  have n1_ := Aside0.mk (blk_drew BK173.out)
  have n2_ := Aside0.mk (below_drew1 HB.out)
  clear BK172
  clear BK173
  clear HB
  have BK172 := n0_
  have BK173 := n1_
  have HB := n2_
  clear n0_ n1_ n2_
  refine start_ (n := 18) (S := fun w' => w'.cell? ⟨gb172, 0, none⟩ = some (.int .i64 a0_0) ∧ w'.cell? ⟨gb172, 1, none⟩ = some (.int .i64 a0_1) ∧ w'.cell? ⟨gb172, 2, none⟩ = some (.int .i64 a0_2) ∧ w'.cell? ⟨gb173, 0, none⟩ = some (.int .i64 a1_0) ∧ w'.cell? ⟨gb173, 1, none⟩ = some (.int .i64 a1_1) ∧ w'.cell? ⟨gb173, 2, none⟩ = some (.int .i64 a1_2)) (ds := []) #[false, false, false, false, false, false, false, false, false, false, false, false, false, false, false, false, false, false] (by kernel_rfl) rfl rfl ⟨(blk_cell BK172.out 0).trans rfl, (blk_cell BK172.out 1).trans rfl, (blk_cell BK172.out 2).trans rfl, (blk_cell BK173.out 0).trans rfl, (blk_cell BK173.out 1).trans rfl, (blk_cell BK173.out 2).trans rfl⟩ (fun hHeld => ?_); refine with_tabW onset_compare.tab1 onset_compare.bits1 (fun HT_ HW_ => ?_)
  have HD2 := Aside0.mk (show w.drawn ≤ w8.drew.drawn by (rw [World.drawn_drew]; have := HD.out; omega))
  clear HD
  have HD := HD2
  clear HD2
  generalize w8.drew = w9 at BK172 BK173 HB HD hHeld ⊢
  refine pure_ (i := 0) (N := some 5) (v := ?_) (a' := ?_) #[true, false, false, false, false, false, false, false, false, false, false, false, false, false, false, false, false, false] rfl rfl (any_of HT_.out (by kernel_rfl)) (fun _ _ _ h => h) (Or.inl ⟨by rfl, ?_⟩) ?_ ?_
  rotate_left
  · intro w'
    go_simp
    with_reducible rfl
  rotate_left
  · simp only [Act.put, List.setIfInBounds_toArray, List.set_cons_zero, List.set_cons_succ, i64_w, i32_w]
    rfl
  refine pure_ (i := 2) (N := some 7) (v := ?_) (a' := ?_) #[true, false, true, false, false, false, false, false, false, false, false, false, false, false, false, false, false, false] rfl rfl (any_of HT_.out (by kernel_rfl)) (fun _ _ _ h => h) (Or.inl ⟨by rfl, ?_⟩) ?_ ?_
  rotate_left
  · intro w'
    go_simp
    with_reducible rfl
  rotate_left
  · simp only [Act.put, List.setIfInBounds_toArray, List.set_cons_zero, List.set_cons_succ, i64_w, i32_w]
    rfl
  refine pure_ (i := 5) (N := some 10) (v := ?_) (a' := ?_) #[true, false, true, false, false, true, false, false, false, false, false, false, false, false, false, false, false, false] rfl rfl (any_of HT_.out (by kernel_rfl)) (fun _ _ _ h => h) (Or.inl ⟨by rfl, ?_⟩) ?_ ?_
  rotate_left
  · intro w'
    go_simp
    with_reducible rfl
  rotate_left
  · simp only [Act.put, List.setIfInBounds_toArray, List.set_cons_zero, List.set_cons_succ, i64_w, i32_w]
    rfl
  refine pure_ (i := 7) (N := some 12) (v := ?_) (a' := ?_) #[true, false, true, false, false, true, false, true, false, false, false, false, false, false, false, false, false, false] rfl rfl (any_of HT_.out (by kernel_rfl)) (fun _ _ _ h => h) (Or.inl ⟨by rfl, ?_⟩) ?_ ?_
  rotate_left
  · intro w'
    go_simp
    with_reducible rfl
  rotate_left
  · simp only [Act.put, List.setIfInBounds_toArray, List.set_cons_zero, List.set_cons_succ, i64_w, i32_w]
    rfl
  refine pure_ (i := 10) (N := some 15) (v := ?_) (a' := ?_) #[true, false, true, false, false, true, false, true, false, false, true, false, false, false, false, false, false, false] rfl rfl (any_of HT_.out (by kernel_rfl)) (fun _ _ _ h => h) (Or.inl ⟨by rfl, ?_⟩) ?_ ?_
  rotate_left
  · intro w'
    go_simp
    with_reducible rfl
  rotate_left
  · simp only [Act.put, List.setIfInBounds_toArray, List.set_cons_zero, List.set_cons_succ, i64_w, i32_w]
    rfl
  refine pure_ (i := 12) (N := some 17) (v := ?_) (a' := ?_) #[true, false, true, false, false, true, false, true, false, false, true, false, true, false, false, false, false, false] rfl rfl (any_of HT_.out (by kernel_rfl)) (fun _ _ _ h => h) (Or.inl ⟨by rfl, ?_⟩) ?_ ?_
  rotate_left
  · intro w'
    go_simp
    with_reducible rfl
  rotate_left
  · simp only [Act.put, List.setIfInBounds_toArray, List.set_cons_zero, List.set_cons_succ, i64_w, i32_w]
    rfl
  refine take_ (i := 1) (N := some 6) (v := ?_) (a' := ?_) #[true, true, true, false, false, true, false, true, false, false, true, false, true, false, false, false, false, false] rfl rfl (take_ofW HT_.out HW_.out (by kernel_rfl)) (fun _ _ _ h => h) (Or.inl ⟨by rfl, ?_⟩) hHeld ?_ ?_
  rotate_left
  · rintro w' ⟨s0, s1, s2, s3, s4, s5⟩
    go_simp
    with_reducible rfl
  rotate_left
  · simp only [Act.put, List.setIfInBounds_toArray, List.set_cons_zero, List.set_cons_succ, i64_w, i32_w]
    rfl
  refine take_ (i := 3) (N := some 8) (v := ?_) (a' := ?_) #[true, true, true, true, false, true, false, true, false, false, true, false, true, false, false, false, false, false] rfl rfl (take_ofW HT_.out HW_.out (by kernel_rfl)) (fun _ _ _ h => h) (Or.inl ⟨by rfl, ?_⟩) hHeld ?_ ?_
  rotate_left
  · rintro w' ⟨s0, s1, s2, s3, s4, s5⟩
    go_simp
    with_reducible rfl
  rotate_left
  · simp only [Act.put, List.setIfInBounds_toArray, List.set_cons_zero, List.set_cons_succ, i64_w, i32_w]
    rfl
  refine take_ (i := 6) (N := some 11) (v := ?_) (a' := ?_) #[true, true, true, true, false, true, true, true, false, false, true, false, true, false, false, false, false, false] rfl rfl (take_ofW HT_.out HW_.out (by kernel_rfl)) (fun _ _ _ h => h) (Or.inl ⟨by rfl, ?_⟩) hHeld ?_ ?_
  rotate_left
  · rintro w' ⟨s0, s1, s2, s3, s4, s5⟩
    go_simp
    with_reducible rfl
  rotate_left
  · simp only [Act.put, List.setIfInBounds_toArray, List.set_cons_zero, List.set_cons_succ, i64_w, i32_w]
    rfl
  refine take_ (i := 8) (N := some 13) (v := ?_) (a' := ?_) #[true, true, true, true, false, true, true, true, true, false, true, false, true, false, false, false, false, false] rfl rfl (take_ofW HT_.out HW_.out (by kernel_rfl)) (fun _ _ _ h => h) (Or.inl ⟨by rfl, ?_⟩) hHeld ?_ ?_
  rotate_left
  · rintro w' ⟨s0, s1, s2, s3, s4, s5⟩
    go_simp
    with_reducible rfl
  rotate_left
  · simp only [Act.put, List.setIfInBounds_toArray, List.set_cons_zero, List.set_cons_succ, i64_w, i32_w]
    rfl
  refine take_ (i := 11) (N := some 16) (v := ?_) (a' := ?_) #[true, true, true, true, false, true, true, true, true, false, true, true, true, false, false, false, false, false] rfl rfl (take_ofW HT_.out HW_.out (by kernel_rfl)) (fun _ _ _ h => h) (Or.inl ⟨by rfl, ?_⟩) hHeld ?_ ?_
  rotate_left
  · rintro w' ⟨s0, s1, s2, s3, s4, s5⟩
    go_simp
    with_reducible rfl
  rotate_left
  · simp only [Act.put, List.setIfInBounds_toArray, List.set_cons_zero, List.set_cons_succ, i64_w, i32_w]
    rfl
  refine take_ (i := 13) (N := some 18) (v := ?_) (a' := ?_) #[true, true, true, true, false, true, true, true, true, false, true, true, true, true, false, false, false, false] rfl rfl (take_ofW HT_.out HW_.out (by kernel_rfl)) (fun _ _ _ h => h) (Or.inl ⟨by rfl, ?_⟩) hHeld ?_ ?_
  rotate_left
  · rintro w' ⟨s0, s1, s2, s3, s4, s5⟩
    go_simp
    with_reducible rfl
  rotate_left
  · simp only [Act.put, List.setIfInBounds_toArray, List.set_cons_zero, List.set_cons_succ, i64_w, i32_w]
    rfl
  refine one_ (i := 4) (N := some 9) #[true, true, true, true, true, true, true, true, true, false, true, true, true, true, false, false, false, false] rfl rfl (one_of HT_.out (by kernel_rfl)) (by decide) (fun K hK => ?_)
  refine goes_ Try.func39 (by kernel_rfl) rfl #[.int .i64 a0_2, .int .i64 a1_2] (by rfl) rfl rfl (by (try simp only [List.map_toArray, List.map_cons, List.map_nil]); first | done | rfl | (simp only [List.length_drop, List.length_take]; rfl)) ?_
  with_reducible refine (cmp_Compare_int.calls a0_2 a1_2 t174 _ A3.out).mono ?_
  rintro e w' ⟨rfl, ⟨nd, rfl⟩⟩
  refine ⟨_, rfl, ?_⟩
  refine hK.out _ _ ⟨(blk_cell BK172.out 0).trans rfl, (blk_cell BK172.out 1).trans rfl, (blk_cell BK172.out 2).trans rfl, (blk_cell BK173.out 0).trans rfl, (blk_cell BK173.out 1).trans rfl, (blk_cell BK173.out 2).trans rfl⟩ (fun hHeld => ?_)
  clear hK K
  refine norm_ (a' := ?_) ?_ ?_
  rotate_left
  · show Act.put _ (some 9) _ = _
    simp only [Act.put, List.setIfInBounds_toArray, List.set_cons_zero, List.set_cons_succ, i64_w, i32_w]
    rfl
  refine one_ (i := 9) (N := some 14) #[true, true, true, true, true, true, true, true, true, true, true, true, true, true, false, false, false, false] rfl rfl (one_of HT_.out (by kernel_rfl)) (by decide) (fun K hK => ?_)
  refine goes_ Try.func39 (by kernel_rfl) rfl #[.int .i64 a0_0, .int .i64 a1_0] (by rfl) rfl rfl (by (try simp only [List.map_toArray, List.map_cons, List.map_nil]); first | done | rfl | (simp only [List.length_drop, List.length_take]; rfl)) ?_
  with_reducible refine (cmp_Compare_int.calls a0_0 a1_0 t175 _ A4.out).mono ?_
  rintro e w' ⟨rfl, ⟨nd, rfl⟩⟩
  refine ⟨_, rfl, ?_⟩
  refine hK.out _ _ ⟨(blk_cell BK172.out 0).trans rfl, (blk_cell BK172.out 1).trans rfl, (blk_cell BK172.out 2).trans rfl, (blk_cell BK173.out 0).trans rfl, (blk_cell BK173.out 1).trans rfl, (blk_cell BK173.out 2).trans rfl⟩ (fun hHeld => ?_)
  clear hK K
  refine norm_ (a' := ?_) ?_ ?_
  rotate_left
  · show Act.put _ (some 14) _ = _
    simp only [Act.put, List.setIfInBounds_toArray, List.set_cons_zero, List.set_cons_succ, i64_w, i32_w]
    rfl
  refine one_ (i := 14) (N := some 19) #[true, true, true, true, true, true, true, true, true, true, true, true, true, true, true, false, false, false] rfl rfl (one_of HT_.out (by kernel_rfl)) (by decide) (fun K hK => ?_)
  refine goes_ Try.func39 (by kernel_rfl) rfl #[.int .i64 a0_1, .int .i64 a1_1] (by rfl) rfl rfl (by (try simp only [List.map_toArray, List.map_cons, List.map_nil]); first | done | rfl | (simp only [List.length_drop, List.length_take]; rfl)) ?_
  with_reducible refine (cmp_Compare_int.calls a0_1 a1_1 t176 _ A5.out).mono ?_
  rintro e w' ⟨rfl, ⟨nd, rfl⟩⟩
  refine ⟨_, rfl, ?_⟩
  refine hK.out _ _ ⟨(blk_cell BK172.out 0).trans rfl, (blk_cell BK172.out 1).trans rfl, (blk_cell BK172.out 2).trans rfl, (blk_cell BK173.out 0).trans rfl, (blk_cell BK173.out 1).trans rfl, (blk_cell BK173.out 2).trans rfl⟩ (fun hHeld => ?_)
  clear hK K
  refine norm_ (a' := ?_) ?_ ?_
  rotate_left
  · show Act.put _ (some 19) _ = _
    simp only [Act.put, List.setIfInBounds_toArray, List.set_cons_zero, List.set_cons_succ, i64_w, i32_w]
    rfl
  refine one_ (i := 15) (N := some 20) #[true, true, true, true, true, true, true, true, true, true, true, true, true, true, true, true, false, false] rfl rfl (one_of HT_.out (by kernel_rfl)) (by decide) (fun K hK => ?_)
  refine R_lit_stepD (Kd.int .i64) _ 3 ?hg (N := 20) ?hd (xs := ([t174, t175, t176] : List Int)) (inner := [.int .i64 t174, .int .i64 t175, .int .i64 t176]) (ok := fun _ => True) (okp := fun _ => True) ?hr ?hp (fun _ hk => hk) trivial (Below.refl _ _) (Nat.le_refl _) (by simp) ?_; (case hd => rfl); (case hg => rfl); (case hr => first | (go_simp; done) | (go_simp; rfl)); (case hp => exact (Reps.one (show Kd.M (Kd.int .i64) _ _ _ t174 [.int .i64 t174] from rfl) (Reps.one (show Kd.M (Kd.int .i64) _ _ _ t175 [.int .i64 t175] from rfl) (Reps.one (show Kd.M (Kd.int .i64) _ _ _ t176 [.int .i64 t176] from rfl) (Reps.none _ _)))))
  intro v178 w10 ho11 hb hg_ hnew_ hd
  have HD2 := Aside0.mk (show w.drawn ≤ w10.drawn by (have h1 := HD.out; have h2 := hd; (try simp only [World.drawn_alloc, World.drawn_setCell, World.drawn_drew, drawn_drewN] at h1 h2 ⊢); omega))
  clear HD hd
  have HD := HD2
  clear HD2
  clear hg_ hnew_
  (first | rw [← Ny177.out] at ho11 | (simp only [Int.reduceToNat] at ho11; rw [← Ny177.out] at ho11))
  have n0_ := Aside0.mk (Kd.R_lower ho11 (below_size (by repeat (first | (with_reducible first | exact HB.out | apply below_alloc | apply pw_below_drewN | apply below_drew1 | refine below_set ?_ GE172.out | refine below_set ?_ GE173.out) | exact HB.out))))
  have n1_ := Aside0.mk (blk_below (g := gb172) (o := .cells #[.int .i64 a0_0, .int .i64 a0_1, .int .i64 a0_2] 37 (0, 0)) (by (with_reducible repeat (first | refine blk_drewN ?_ _ | refine blk_drew ?_ | refine blk_alloc ?_ _)); exact BK172.out) hb)
  have n2_ := Aside0.mk (blk_below (g := gb173) (o := .cells #[.int .i64 a1_0, .int .i64 a1_1, .int .i64 a1_2] 37 (0, 0)) (by (with_reducible repeat (first | refine blk_drewN ?_ _ | refine blk_drew ?_ | refine blk_alloc ?_ _)); exact BK173.out) hb)
  have n3_ := Aside0.mk (below_step (by repeat (first | (with_reducible first | exact HB.out | apply below_alloc | apply pw_below_drewN | apply below_drew1 | refine below_set ?_ GE172.out | refine below_set ?_ GE173.out) | exact HB.out)) hb)
  clear BK172
  clear BK173
  clear HB
  have HO179 := n0_
  have BK172 := n1_
  have BK173 := n2_
  have HB := n3_
  clear n0_ n1_ n2_ n3_
  clear hb ho11
  obtain ⟨Ao12, co12, eo12⟩ := Kd.R_slice HO179.out
  (first | subst eo12 | (injection eo12 with f1_ f2_ f3_; have f4_ := f1_.symm; have f5_ := f3_.symm; clear f1_ f2_ f3_; subst f4_; subst f5_))
  refine hK.out _ _ ⟨(blk_cell BK172.out 0).trans rfl, (blk_cell BK172.out 1).trans rfl, (blk_cell BK172.out 2).trans rfl, (blk_cell BK173.out 0).trans rfl, (blk_cell BK173.out 1).trans rfl, (blk_cell BK173.out 2).trans rfl⟩ (fun hHeld => ?_)
  clear hK K
  refine norm_ (a' := ?_) ?_ ?_
  rotate_left
  · show Act.put _ (some 20) _ = _
    simp only [Act.put, List.setIfInBounds_toArray, List.set_cons_zero, List.set_cons_succ, i64_w, i32_w]
    rfl
  refine one_ (i := 16) (N := some 21) #[true, true, true, true, true, true, true, true, true, true, true, true, true, true, true, true, true, false] rfl rfl (one_of HT_.out (by kernel_rfl)) (by decide) (fun K hK => ?_)
  refine goes_ Try.func38 (by kernel_rfl) rfl #[.slice Ao12 y177.length co12] (by rfl) rfl rfl (by (try simp only [List.map_toArray, List.map_cons, List.map_nil]); first | done | rfl | (simp only [List.length_drop, List.length_take]; rfl)) ?_
  with_reducible refine (cmp_Or_int.calls k _ _ y177 t180 _ ?side1 ?side2 A6.out).mono ?_
  (case side1 => repeat (first | exact (Kd.R_reads' HO179.out).2.2 | (with_reducible refine Kd.C_alloc ?_ _) | (with_reducible refine Kd.C_drewN ?_ _) | (with_reducible refine Kd.C_drew ?_)))
  (case side2 => exact (Kd.R_reads' HO179.out).2.1)
  rintro e w' ⟨rfl, ⟨nd, rfl⟩⟩
  refine ⟨_, rfl, ?_⟩
  refine hK.out _ _ ⟨(blk_cell BK172.out 0).trans rfl, (blk_cell BK172.out 1).trans rfl, (blk_cell BK172.out 2).trans rfl, (blk_cell BK173.out 0).trans rfl, (blk_cell BK173.out 1).trans rfl, (blk_cell BK173.out 2).trans rfl⟩ (fun hHeld => ?_)
  clear hK K
  refine norm_ (a' := ?_) ?_ ?_
  rotate_left
  · show Act.put _ (some 21) _ = _
    simp only [Act.put, List.setIfInBounds_toArray, List.set_cons_zero, List.set_cons_succ, i64_w, i32_w]
    rfl
  refine pure_ (i := 17) (N := some 4) (v := ?_) (a' := ?_) #[true, true, true, true, true, true, true, true, true, true, true, true, true, true, true, true, true, true] rfl rfl (any_of HT_.out (by kernel_rfl)) (fun _ _ _ h => h) (Or.inl ⟨by rfl, ?_⟩) ?_ ?_
  rotate_left
  · intro w'
    go_simp
    with_reducible rfl
  rotate_left
  · simp only [Act.put, List.setIfInBounds_toArray, List.set_cons_zero, List.set_cons_succ, i64_w, i32_w]
    rfl
  refine done_ (done_of HT_.out (by kernel_rfl)) ?_
  try go_wp2
  go_ret
  exact ⟨by first | rfl | (simp [errW_none, errW_some] <;> rfl) | (simp [*, errW_none, errW_some] <;> rfl), by repeat (first | (with_reducible first | exact HB.out | apply below_alloc | apply pw_below_drewN | apply below_drew1 | refine below_set ?_ GE172.out | refine below_set ?_ GE173.out) | exact HB.out), by (have h1 := HD.out; (try simp only [drawn_drewN, World.drawn_alloc, World.drawn_setCell, World.drawn_drew] at h1 ⊢); omega)⟩

theorem grown_of {w w' : World} (hb : Below w.heap.size w w') (hd : w.drawn ≤ w'.drawn) : ∃ q os, w' = grow (w.drewN q) os := by
  obtain ⟨p, hp⟩ := regrown_of_below hb
  refine ⟨p.d - w.drawn, p.os, ?_⟩
  have h2 : w'.drawn = p.d := by rw [hp]; rfl
  have h3 : w.drawn + (p.d - w.drawn) = p.d := by omega
  rw [hp]
  show _ = grow { w with drawn := w.drawn + (p.d - w.drawn) } p.os
  rw [h3]
  rfl
theorem compare_lays (x y : S37) (w : World) : Calls Try.prog 22 (#[.agg (enc37 x).toArray, .agg (enc37 y).toArray] ++ #[]) w fun e w' => e = .returned (.int .i64 (cf x y)) ∧ ∃ q os, w' = grow (w.drewN q) os := by
  refine (onset_compare.callsD 10 x.f0 x.f1 x.f2 y.f0 y.f1 y.f2 (cf x y) w (compare_f x y)).mono ?_
  rintro e w' ⟨rfl, hb, hd⟩
  exact ⟨rfl, grown_of hb hd⟩
theorem le_ms (x y : S37) : (!(ltOf cf) y x) = true ↔ le37 x y := by
  have h := lt_cf y x
  have h2 := lt37b_iff y x
  unfold le37
  unfold lt37 at h
  have e : ltOf cf y x = true ↔ lt37b y x = true := h.trans h2.symm
  cases h3 : ltOf cf y x with
  | false =>
    cases h4 : lt37b y x with
    | false => simp
    | true => rw [e.2 h4] at h3; exact absurd h3 (by decide)
  | true =>
    have := e.1 h3
    rw [this]
    simp
theorem ms_srt (l : List S37) : l.mergeSort (fun x y => !(ltOf cf) y x) = srt37 l := by
  refine sorted_unique _ _ ((List.mergeSort_perm l _).trans (srt37_perm l).symm) ?_ (srt37_sorted l)
  have h := List.pairwise_mergeSort (le := fun x y => !(ltOf cf) y x) (fun a b c h1 h2 => (le_ms a c).2 (le37_trans ((le_ms a b).1 h1) ((le_ms b c).1 h2))) (fun a b => by
    have e : (!(ltOf cf) b a || !(ltOf cf) a b) = true := by
      cases h1 : ltOf cf b a with
      | false => rfl
      | true =>
        have h3 : ltOf cf a b = false := by
          cases h2 : ltOf cf a b with
          | false => rfl
          | true =>
            have a1 := (lt_cf b a).1 h1
            have a2 := (lt_cf a b).1 h2
            unfold lt37 at a1 a2
            omega
        rw [h3]; rfl
    exact e) l
  exact h.imp (fun {a b} hab => (le_ms a b).1 hab)
def lays6_ren : Go.Shelf.Ren := ⟨fun | 6 => 21 | 15 => 37 | 14 => 36 | 28 => 67 | 29 => 68 | 20 => 59 | 21 => 60 | 22 => 61 | 23 => 62 | 24 => 63 | 25 => 64 | 26 => 65 | 27 => 66 | 46 => 78 | 47 => 79 | 48 => 80 | 49 => 81 | 50 => 82 | 57 => 84 | n => n, fun | 22 => 24 | 24 => 37 | 25 => 60 | 3 => 3 | 39 => 48 | 0 => 0 | 53 => 91 | 55 => 93 | 4 => 4 | 46 => 85 | 45 => 84 | 50 => 46 | 5 => 5 | 9 => 9 | 66 => 99 | 70 => 103 | 76 => 105 | 77 => 79 | n => n, fun | n => n⟩
theorem lays6 : Go.Proofs.SlLaysF0.n6 Try.prog lays6_ren := {
  mixed := by kernel_rfl
  f6 := ⟨Try.f21.name, by decide, Try.func21.trans (congrArg some (by kernel_rfl))⟩
  f14 := ⟨Try.f36.name, by decide, Try.func36.trans (congrArg some (by kernel_rfl))⟩
  f15 := Try.func37.trans (congrArg some (by kernel_rfl))
  f20 := ⟨Try.f59.name, by decide, Try.func59.trans (congrArg some (by kernel_rfl))⟩
  f21 := ⟨Try.f60.name, by decide, Try.func60.trans (congrArg some (by kernel_rfl))⟩
  f22 := ⟨Try.f61.name, by decide, Try.func61.trans (congrArg some (by kernel_rfl))⟩
  f23 := ⟨Try.f62.name, by decide, Try.func62.trans (congrArg some (by kernel_rfl))⟩
  f24 := ⟨Try.f63.name, by decide, Try.func63.trans (congrArg some (by kernel_rfl))⟩
  f25 := ⟨Try.f64.name, by decide, Try.func64.trans (congrArg some (by kernel_rfl))⟩
  f26 := ⟨Try.f65.name, by decide, Try.func65.trans (congrArg some (by kernel_rfl))⟩
  f27 := ⟨Try.f66.name, by decide, Try.func66.trans (congrArg some (by kernel_rfl))⟩
  f28 := Try.func67.trans (congrArg some (by kernel_rfl))
  f29 := Try.func68.trans (congrArg some (by kernel_rfl))
  f46 := ⟨Try.f78.name, by decide, Try.func78.trans (congrArg some (by kernel_rfl))⟩
  f47 := Try.func79.trans (congrArg some (by kernel_rfl))
  f48 := Try.func80.trans (congrArg some (by kernel_rfl))
  f49 := ⟨Try.f81.name, by decide, Try.func81.trans (congrArg some (by kernel_rfl))⟩
  f50 := ⟨Try.f82.name, by decide, Try.func82.trans (congrArg some (by kernel_rfl))⟩
  f57 := ⟨Try.f84.name, by decide, Try.func84.trans (congrArg some (by kernel_rfl))⟩
  t0 := Try.underlying0
  a0 := Try.isAgg0
  z0 := Try.sizeOf0
  v0 := Try.zeroValue0
  t3 := Try.underlying3
  a3 := Try.isAgg3
  z3 := Try.sizeOf3
  v3 := Try.zeroValue3
  t4 := Try.underlying4
  a4 := Try.isAgg4
  z4 := Try.sizeOf4
  v4 := Try.zeroValue4
  t5 := Try.underlying5
  a5 := Try.isAgg5
  z5 := Try.sizeOf5
  v5 := Try.zeroValue5
  t9 := Try.underlying9
  a9 := Try.isAgg9
  z9 := Try.sizeOf9
  v9 := Try.zeroValue9
  t22 := Try.underlying24
  a22 := Try.isAgg24
  z22 := Try.sizeOf24
  v22 := Try.zeroValue24
  t25 := Try.underlying60
  a25 := Try.isAgg60
  z25 := Try.sizeOf60
  v25 := Try.zeroValue60
  t39 := Try.underlying48
  a39 := Try.isAgg48
  z39 := Try.sizeOf48
  v39 := Try.zeroValue48
  t45 := Try.underlying84
  a45 := Try.isAgg84
  z45 := Try.sizeOf84
  v45 := Try.zeroValue84
  t46 := Try.underlying85
  a46 := Try.isAgg85
  z46 := Try.sizeOf85
  v46 := Try.zeroValue85
  t50 := Try.underlying46
  a50 := Try.isAgg46
  z50 := Try.sizeOf46
  v50 := Try.zeroValue46
  t53 := Try.underlying91
  a53 := Try.isAgg91
  z53 := Try.sizeOf91
  v53 := Try.zeroValue91
  t55 := Try.underlying93
  a55 := Try.isAgg93
  z55 := Try.sizeOf93
  v55 := Try.zeroValue93
  t66 := Try.underlying99
  a66 := Try.isAgg99
  z66 := Try.sizeOf99
  v66 := Try.zeroValue99
  t70 := Try.underlying103
  a70 := Try.isAgg103
  z70 := Try.sizeOf103
  v70 := Try.zeroValue103
  t76 := Try.underlying105
  a76 := Try.isAgg105
  z76 := Try.sizeOf105
  v76 := Try.zeroValue105
  t77 := Try.underlying79
  a77 := Try.isAgg79
  z77 := Try.sizeOf79
  v77 := Try.zeroValue79 }

def api_Onset_21.f (l0 : List (S37)) : Option ((List (S37))) := if l0.length < 4611686018427387904 then some (srt37 l0) else none
theorem sort21.calls (v : Value) (l r : List S37) (base : Nat) {ok : Nat → Prop} (w : World) (hR : Kd.R k37 37 w base ok v l) (h : api_Onset_21.f l = some r) :
    Calls Try.prog 21 #[v, .func (.func 22) #[] #[]] w fun e w' => e = .returned (.tuple #[]) ∧ Kd.R k37 37 w' base ok v r ∧ Below base w w' := by
  unfold api_Onset_21.f at h
  by_cases hl : l.length < 4611686018427387904
  · rw [if_pos hl] at h
    obtain rfl := Option.some.inj h
    obtain ⟨h0, inner, ⟨hlen, hc⟩, hr⟩ := hR
    rcases hc with ⟨rfl, hn⟩ | ⟨g, cap, cur, rfl, hb, hg, hnc, hcm, hcs, hin⟩
    · have hl0 : l = [] := List.length_eq_zero_iff.1 hn
      subst hl0
      refine (AnyF.slices_SortFunc_none lays6 none 0 (.func (.func 22) #[] #[]) w).mono ?_
      rintro e w' ⟨rfl, rfl⟩
      exact ⟨rfl, Kd.R_nil _ _ _ _ _, Below.refl _ _⟩
    · have hsz : l.toArray.size = l.length := by simp
      have hcalls := AnyQ.slices_SortFunc_total lays6 3 Try.isAgg37 Try.sizeOf37 enc37 (fun _ => rfl) (fun x v hv => by
        rcases List.mem_cons.1 hv with rfl | hv
        · rfl
        · rcases List.mem_cons.1 hv with rfl | hv
          · rfl
          · rcases List.mem_cons.1 hv with rfl | hv
            · rfl
            · exact absurd hv (by simp)) cf swo_cf 22 #[] g 0 cap l.toArray w (fun args w => enters_of Try.func22 (by kernel_rfl) rfl args w)
        (fun m os dk _ x y => compare_lays x y _) (holds_of hr hg hin) (blk_lt hg) (by rw [hsz]; exact hl) total_cf
      rw [hsz] at hcalls
      refine hcalls.mono ?_
      rintro e w' ⟨rfl, n, os, rfl⟩
      obtain ⟨hg', hB⟩ := sort_world (n := n) (d := (l.toArray.toList.mergeSort fun x y => !(ltOf cf) y x).toArray) (os := os) hg hb
      refine ⟨rfl, ⟨h0, (flatK enc37 3 (srt37 l).toArray).toList, ⟨?_, Or.inr ⟨g, cap, _, ?_, hb, hg', ?_, hcm, ?_, ?_⟩⟩, reps_flat _ _ _ _⟩, hB⟩
      · show (flatK enc37 3 (srt37 l).toArray).toList.length = (srt37 l).length * 3
        simp
      · rw [(srt37_perm l).length_eq]
      · rw [(srt37_perm l).length_eq]; exact hnc
      · simp only [putCells, Array.size_mapIdx]; exact hcs
      · have e1 : (l.toArray.toList.mergeSort fun x y => !(ltOf cf) y x) = srt37 l := ms_srt l
        rw [e1]
        have e2 : (srt37 l).length * 3 = (flatK enc37 3 (srt37 l).toArray).size := by simp
        show List.take ((srt37 l).length * 3) _ = _
        rw [e2]
        exact put_get _ _ (by rw [← e2, (srt37_perm l).length_eq, hcs]; exact Nat.mul_le_mul_right 3 hnc)
  · rw [if_neg hl] at h
    exact absurd h (by simp)
end Go.Proofs.Ytdhljcnilclfbaa.O
