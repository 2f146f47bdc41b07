-- Walks over an environment: blocks, joins, elements of lists: a text of this claim's own.
import Derived.Test.YtdhljcnilclfbaaHm
import Derived.Test.YtdhljcnilclfbaaOx87
import Derived.Test.YtdhljcnilclfbaaWk
import Derived.Deep.MidRow
namespace Go.Proofs.Ytdhljcnilclfbaa.Pure
open Go.RowKit Go.Proofs.Ytdhljcnilclfbaa.O Go.Proofs.YtdhljcnilclfbaaW.PrintWords Go.Proofs.YtdhljcnilclfbaaW.PrintLast
open Go.Proofs.Ytdhljcnilclfbaa.Civ
set_option linter.unusedVariables false
set_option linter.unusedSimpArgs false
set_option maxRecDepth 100000
/-- A call returns this, and leaves what lay below. -/
abbrev Rets (w : World) (v : Value) : Ending → World → Prop := fun e w' => e = .returned v ∧ Below w.heap.size w w'
theorem rets_drawn {v : Value} {w : World} {e : Ending} {w' : World} (h : e = .returned v ∧ Drawn0 w w') : Rets w v e w' := by
  obtain ⟨rfl, n, rfl⟩ := h
  exact ⟨rfl, pw_below_drewN (Below.refl _ _) n⟩
def anyST (T : Bool × List (List Nat × List Nat)) : List Nat → List Bool → List Bool → Bool
  | [], l, l' => l == l'
  | i :: is, l, l' => anyT T l (l.set i true) i && anyST T is (l.set i true) l'
/-- dp_'s condition out of a region's table. -/
theorem anyS_of {ops : Array Oper} {T : Bool × List (List Nat × List Nat)} (hT : rtab .any ops = T) : ∀ (is : List Nat) (l l' : Array Bool), anyST T is l.toList l'.toList = true → anyS ops is l l' = true
  | [], l, l', h => by
    have h2 : l.toList = l'.toList := by simpa [anyST] using h
    obtain rfl : l = l' := Array.ext' h2
    unfold anyS
    exact beq_self_eq_true _
  | i :: is, l, l', h => by
    unfold anyST at h
    rw [Bool.and_eq_true] at h
    have e : (l.setIfInBounds i true).toList = l.toList.set i true := Array.toList_setIfInBounds ..
    unfold anyS
    rw [Bool.and_eq_true]
    exact ⟨any_of hT (by rw [e]; exact h.1), anyS_of hT is _ l' (by rw [e]; exact h.2)⟩
theorem nl_ {ops : Array Oper} {Q : Exit → Act → World → Prop} {a : Act} {w : World} (h : Q .normal a w) : wpList Try.prog ops Q [] a w := h
theorem bjn_ (J : Act → World → Prop) {a : Act} {w : World} {id : Nat} {x : Code} {R : Act → World → Prop} {Q : Exit → Act → World → Prop} (h : x.wp Try.prog (Exit.inBlock id (Exit.then J Q)) a w) (k : ∀ a' w', J a' w' → R a' w') : (Code.block id x).wp Try.prog (Exit.then R Q) a w := by
  have go : ∀ e a' w', Exit.then J Q e a' w' → Exit.then R Q e a' w' := fun e a' w' hq => by
    cases e with
    | normal =>
      exact k _ _ hq
    | _ => exact hq
  refine wp_block (wp_mono h (fun e a' w' hq => ?_))
  cases e with
  | exit i =>
    by_cases q : i = id
    · have hq' : Exit.then J Q .normal a' w' := by unfold Exit.inBlock at hq; simpa [q] using hq
      have := go _ _ _ hq'
      unfold Exit.inBlock
      simpa [q] using this
    · have hq' : Exit.then J Q (.exit i) a' w' := by unfold Exit.inBlock at hq; simpa [q] using hq
      have := go _ _ _ hq'
      unfold Exit.inBlock
      simpa [q] using this
  | normal => exact go .normal a' w' hq
  | _ => exact hq
theorem sj_ (J : Act → World → Prop) {a : Act} {w : World} {x y : Code} {Q : Exit → Act → World → Prop} (h : x.wp Try.prog (Exit.then J Q) a w) (k : ∀ a' w', J a' w' → y.wp Try.prog Q a' w') : (Code.seq x y).wp Try.prog Q a w := by
  refine wp_seq (wp_mono h (fun e a' w' hq => ?_))
  cases e with
  | normal => exact k _ _ hq
  | _ => exact hq
theorem cell_on {L : List (Nat × Obj)} {w W : World} {p : Addr} {v : Value} (M : On L w W) (h : w.cell? p = some v) : W.cell? p = some v := (M.bl.cell (World.block_lt_of_cell? w _ h)).trans h
theorem kp_lt {i n : Nat} (h : i < n) : decide ((i : Int) < (n : Int)) = true := decide_eq_true (by omega)
theorem kp_ge {i n : Nat} (h : ¬ i < n) : decide ((i : Int) < (n : Int)) = false := decide_eq_false (by omega)
theorem kp_inc {i n : Nat} (h : i < n) (hn : n ≤ 4611686018427387904) : wrap64 ((i : Int) + 1) = ((i + 1 : Nat) : Int) := by rw [w64 (by omega) (by omega)]; omega
def leftN (d n : Nat) (a : Act) : Nat := match a.eval (.tmp d) with | .int _ x => ((n : Int) - x).toNat | _ => 0
theorem leftN_ {d n N : Nat} {E : Env} {a : Act} {x : Int} (K : Kn N E a) (h : O.look E d = some (.int .i64 x)) : leftN d n a = ((n : Int) - x).toNat := by unfold leftN; rw [K.ev _ _ h]
theorem leftN_lt {i n : Nat} (h : i < n) : ((n : Int) - ((i + 1 : Nat) : Int)).toNat < ((n : Int) - (i : Int)).toNat := by omega
section
variable {ρ : Operand → Value} {o : Oper} {w : World}
theorem run_min {x y : Operand} {a b : Int} (ho : o.op = .call { callee := .builtin .min, args := #[x, y], argTypes := #[3, 3] }) (hx : ρ x = .int .i64 a) (hy : ρ y = .int .i64 b) : (execOp ρ o).run Try.prog w = .ok (.value (.int .i64 (min a b))) w := by
  unfold execOp; rw [ho]
  simp only [hx, hy, List.map_toArray, List.map_cons, List.map_nil]
  go_simp
  split <;> omega
theorem add_nn (g b n : Nat) : (⟨g, b, none⟩ : Addr).add n = ⟨g, b + n, none⟩ := by unfold Addr.add; split <;> simp_all
theorem run_ix24 {x y : Operand} {g b n c kk : Nat} (hk : kk < n) (hn : n ≤ 4611686018427387904) (ho : o.op = .indexAddr 24 x y) (hx : ρ x = .slice (some ⟨g, b, none⟩) n c) (hy : ρ y = .int .i64 kk) : (execOp ρ o).run Try.prog w = .ok (.value (.pointer (some ⟨g, b + kk * 3, none⟩))) w := by
  have hu24 := Try.underlying24
  have hu37 := Try.underlying37
  have h1 : ¬ (kk : Int) < 0 := by omega
  have h2 : (kk : Int) < n := by omega
  have h3 := add_nn g b (kk * 3)
  unfold execOp; rw [ho]; go_simp
theorem run_ix22 {x y : Operand} {g b n c kk : Nat} (hk : kk < n) (hn : n ≤ 4611686018427387904) (ho : o.op = .indexAddr 22 x y) (hx : ρ x = .slice (some ⟨g, b, none⟩) n c) (hy : ρ y = .int .i64 kk) : (execOp ρ o).run Try.prog w = .ok (.value (.pointer (some ⟨g, b + kk * 11, none⟩))) w := by
  have hu22 := Try.underlying22
  have hu43 := Try.underlying43
  have h1 : ¬ (kk : Int) < 0 := by omega
  have h2 : (kk : Int) < n := by omega
  have h3 := add_nn g b (kk * 11)
  unfold execOp; rw [ho]; go_simp
theorem run_ldp {t g p : Nat} {x : Operand} {cs : List Value} {fs : Array Field} (hu : Try.prog.underlying t = some (.struct fs)) (hi : (Try.prog.info? t).map (·.size) = some cs.length) (ho : o.op = .load t x) (hx : ρ x = .pointer (some ⟨g, p, none⟩)) (hc : ∀ j v, cs[j]? = some v → w.cell? ⟨g, p + j, none⟩ = some v) : (execOp ρ o).run Try.prog w = .ok (.value (.agg cs.toArray)) w := by
  have hr := run_loadAt_mid (P := Try.prog) w g p t cs _ hc hu rfl hi
  unfold execOp
  rw [ho]
  show ((do pure (Next.value (← Instr.loadAt t (ρ x))) : Sem Next)).run Try.prog w = _
  rw [hx, Sem.run_bind, hr]
  rfl
end
theorem i39 : (Try.prog.info? 39).map (·.size) = some 3 := by kernel_rfl
/-- The cells of a list's elements. -/
theorem at43 {w : World} {A : Option Addr} {l : List S43} (h : Kd.C k43 w A l.length l) (hp : 0 < l.length) : ∃ g b, A = some ⟨g, b, none⟩ ∧ ∀ (i : Nat) (hi : i < l.length) (j : Nat) (v : Value), (enc43 l[i])[j]? = some v → w.cell? ⟨g, b + i * 11 + j, none⟩ = some v := by
  obtain ⟨_, _, h3⟩ := h
  obtain ⟨ad, e, hr⟩ := h3 hp
  have all : ∀ (i : Nat) (hi : i < l.length) (j : Nat) (v : Value), (enc43 l[i])[j]? = some v → w.cell? (ad.add (i * 11 + j)) = some v := fun i hi j v hv => by
    obtain ⟨cs, hcs, hK, hcell⟩ := hr i _ (List.getElem?_eq_getElem hi)
    obtain rfl : cs = enc43 l[i] := k43_open hK
    exact hcell j v hv
  have hs : ad.spot = none := by
    have := World.cell?_spot (all 0 hp 0 _ rfl)
    simpa [Addr.add] using this
  obtain ⟨g, b, sp⟩ := ad
  subst hs
  refine ⟨g, b, e, fun i hi j v hv => ?_⟩
  have := all i hi j v hv
  rwa [add_nn, ← Nat.add_assoc] at this
def cel37 (x : S37) : List Value := [.int .i64 x.f0, .int .i64 x.f1, .int .i64 x.f2]
theorem at37 {w : World} {A : Option Addr} {l : List S37} (h : Kd.C k37 w A l.length l) (hp : 0 < l.length) : ∃ g b, A = some ⟨g, b, none⟩ ∧ ∀ (i : Nat) (hi : i < l.length) (j : Nat) (v : Value), (cel37 l[i])[j]? = some v → w.cell? ⟨g, b + i * 3 + j, none⟩ = some v := by
  obtain ⟨_, _, h3⟩ := h
  obtain ⟨ad, e, hr⟩ := h3 hp
  have all : ∀ (i : Nat) (hi : i < l.length) (j : Nat) (v : Value), (cel37 l[i])[j]? = some v → w.cell? (ad.add (i * 3 + j)) = some v := fun i hi j v hv => by
    obtain ⟨cs, hcs, hK, hcell⟩ := hr i _ (List.getElem?_eq_getElem hi)
    obtain rfl : cs = cel37 l[i] := k37_open hK
    exact hcell j v hv
  have hs : ad.spot = none := by
    have := World.cell?_spot (all 0 hp 0 _ rfl)
    simpa [Addr.add] using this
  obtain ⟨g, b, sp⟩ := ad
  subst hs
  refine ⟨g, b, e, fun i hi j v hv => ?_⟩
  have := all i hi j v hv
  rwa [add_nn, ← Nat.add_assoc] at this
end Go.Proofs.Ytdhljcnilclfbaa.Pure
