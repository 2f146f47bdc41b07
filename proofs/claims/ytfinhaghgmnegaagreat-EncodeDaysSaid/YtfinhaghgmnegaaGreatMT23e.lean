/- A worker that tells a time, as a contract. No condition beyond those each lemma names. -/
/- The choice among a period's times, as a contract. No condition beyond those each lemma names. -/
import Derived.Test.YtfinhaghgmnegaaGreatT23c
import Derived.Test.YtfinhaghgmnegaaGreatMOx3
import Derived.Test.YtfinhaghgmnegaaGreatMOx87
namespace Go.Proofs.YtfinhaghgmnegaaGreat.Pure
open Go.RowKit Go.Proofs.YtfinhaghgmnegaaGreat.O Go.Proofs.YtfinhaghgmnegaaGreatW.PrintWords Go.Proofs.YtfinhaghgmnegaaGreatW.PrintLast
open Go.Proofs.YtfinhaghgmnegaaGreat.Civ
set_option linter.unusedVariables false
set_option linter.unusedSimpArgs false
set_option maxRecDepth 100000
set_option maxHeartbeats 4000000
/-- A worker and its meter in memory, beside other known blocks; what it has told is its own. -/
def WS (L : List (Nat × Obj)) (w0 : World) (gw gm : Nat) (r : RR) (s : Sl) (st from_ to_ F : Int) (S : St) (W : World) : Prop :=
  ∃ v, On ((gw, .cells (wc r s st from_ to_ gm S.ct v) 75 (0, 0)) :: (gm, .cells (mc S.sp F) 73 (0, 0)) :: L) w0 W ∧ Kd.R (Kd.int .i64) 3 W w0.heap.size (fun _ => True) v S.out ∧ (∀ g, g = gw ∨ g = gm ∨ g ∈ L.map (·.1) → some g ≠ v.ownBlock)
theorem nl_ {ops : Array Oper} {Q : Exit → Act → World → Prop} {a : Act} {w : World} (h : Q .normal a w) : wpList Tryz.prog ops Q [] a w := h
theorem bxG_ {N : Nat} {E : Env} {a : Act} {ops : Array Oper} {rest : List Oper} {Q : Exit → Act → World → Prop} {w w0 : World} {o : Oper} {d : Nat} {L : List (Nat × Obj)} (K : Kn N E a) (M : On L w0 w) {n t : Nat} {cs : Array Value} {x : Operand} (hd : o.dst = some d) (hb : Nat.blt d N = true) (hw : wantE ops E o = some true) (hop : o.op = .box t x) (hx : evo E x = some (.agg cs)) (ht : szE t = some n)
    (h : ∀ a' g W, w0.heap.size ≤ g → On ((g, .cells cs t (0, 0)) :: L) w0 W → Kn N ((d, .pointer (some ⟨g, 0, none⟩)) :: E) a' → wpList Tryz.prog ops Q rest a' W) : wpList Tryz.prog ops Q (o :: rest) a w :=
  val_ K hd hb hw (run_bxa ht hop (K.of hx)) (fun a' K' => h a' _ _ M.bl.size (M.new _) K')
theorem bjoin_ {N : Nat} {E' : Env} {a : Act} {w : World} {id : Nat} {x : Code} {R : Act → World → Prop} {Q : Exit → Act → World → Prop} (h : x.wp Tryz.prog (Exit.inBlock id (Exit.then (fun a' w' => w' = w ∧ Kn N E' a') Q)) a w) (k : ∀ a', Kn N E' a' → R a' w) : (Code.block id x).wp Tryz.prog (Exit.then R Q) a w := by
  have go : ∀ e a' w', Exit.then (fun a' w' => w' = w ∧ Kn N E' a') Q e a' w' → Exit.then R Q e a' w' := fun e a' w' hq => by
    cases e with
    | normal =>
      obtain ⟨rfl, hk⟩ := hq
      exact k _ hk
    | _ => exact hq
  refine wp_block (wp_mono h (fun e a' w' hq => ?_))
  cases e with
  | exit i =>
    by_cases q : i = id
    · have hq' : Exit.then (fun a' w' => w' = w ∧ Kn N E' a') Q .normal a' w' := by unfold Exit.inBlock at hq; simpa [q] using hq
      have := go _ _ _ hq'
      unfold Exit.inBlock
      simpa [q] using this
    · have hq' : Exit.then (fun a' w' => w' = w ∧ Kn N E' a') Q (.exit i) a' w' := by unfold Exit.inBlock at hq; simpa [q] using hq
      have := go _ _ _ hq'
      unfold Exit.inBlock
      simpa [q] using this
  | normal => exact go .normal a' w' hq
  | _ => exact hq
theorem bjn_ (J : Act → World → Prop) {a : Act} {w : World} {id : Nat} {x : Code} {R : Act → World → Prop} {Q : Exit → Act → World → Prop} (h : x.wp Tryz.prog (Exit.inBlock id (Exit.then J Q)) a w) (k : ∀ a' w', J a' w' → R a' w') : (Code.block id x).wp Tryz.prog (Exit.then R Q) a w := by
  have go : ∀ e a' w', Exit.then J Q e a' w' → Exit.then R Q e a' w' := fun e a' w' hq => by
    cases e with
    | normal =>
      exact k _ _ hq
    | _ => exact hq
  refine wp_block (wp_mono h (fun e a' w' hq => ?_))
  cases e with
  | exit i =>
    by_cases q : i = id
    · have hq' : Exit.then J Q .normal a' w' := by unfold Exit.inBlock at hq; simpa [q] using hq
      have := go _ _ _ hq'
      unfold Exit.inBlock
      simpa [q] using this
    · have hq' : Exit.then J Q (.exit i) a' w' := by unfold Exit.inBlock at hq; simpa [q] using hq
      have := go _ _ _ hq'
      unfold Exit.inBlock
      simpa [q] using this
  | normal => exact go .normal a' w' hq
  | _ => exact hq
theorem info3 : (Tryz.prog.info? 3).map (fun i => (i.zero, i.size, i.bytes)) = some (some (.int .i64 0), 1, 8) := by kernel_rfl
section
variable {ρ : Operand → Value} {o : Oper} {w : World}
theorem run_bs22 {x : Operand} {a : Int} (ho : o.op = .buildSlice 26 1 #[(0, x)]) (hx : ρ x = .int .i64 a) : (execOp ρ o).run Tryz.prog w = .ok (.value (.slice (some ⟨w.heap.size, 0, none⟩) 1 1)) (w.alloc (.cells #[.int .i64 a] 3 (0, 0))) := by
  have hu22 := Tryz.underlying26
  unfold execOp; rw [ho]
  first | (go_simp; done) | (simp only [hx, List.map_toArray, List.map_cons, List.map_nil]; go_simp; done) | (simp only [hx, List.map_toArray, List.map_cons, List.map_nil]; go_simp; rfl)
theorem run_ix22 {x y : Operand} {ad : Addr} {n c kk : Nat} (hk : kk < n) (hn : n ≤ 4611686018427387904) (ho : o.op = .indexAddr 26 x y) (hx : ρ x = .slice (some ad) n c) (hy : ρ y = .int .i64 kk) : (execOp ρ o).run Tryz.prog w = .ok (.value (.pointer (some (ad.add (kk * 1))))) w := by
  have hu22 := Tryz.underlying26
  have hu3 := Tryz.underlying3
  have h1 : ¬ (kk : Int) < 0 := by omega
  have h2 : (kk : Int) < n := by omega
  unfold execOp; rw [ho]; go_simp
end
theorem c_one {W : World} {g : Nat} {x : Int} (h : W.heap[g]? = some (.cells #[.int .i64 x] 3 (0, 0))) : Kd.C (Kd.int .i64) W (some ⟨g, 0, none⟩) 1 [x] := by
  refine ⟨rfl, by simp, fun _ => ⟨_, rfl, fun j p hp => ?_⟩⟩
  have hj := (List.getElem?_eq_some_iff.1 hp).1
  obtain rfl : j = 0 := by simpa using hj
  obtain rfl : x = p := by simpa using hp
  refine ⟨_, rfl, rfl, fun i u hu => ?_⟩
  match i, hu with
  | 0, hu => exact ((blk_cell h 0).trans rfl).trans hu
theorem far_of {L : List (Nat × Obj)} {gw gm : Nat} {o1 o2 : Obj} {v : Value} (F : ∀ g, g = gw ∨ g = gm ∨ g ∈ L.map (·.1) → some g ≠ v.ownBlock) : ∀ p ∈ (gw, o1) :: (gm, o2) :: L, some p.1 ≠ v.ownBlock := fun p hp => by
  rcases List.mem_cons.1 hp with e | hp
  · subst e; exact F _ (Or.inl rfl)
  rcases List.mem_cons.1 hp with e | hp
  · subst e; exact F _ (Or.inr (Or.inl rfl))
  · exact F _ (Or.inr (Or.inr (List.mem_map_of_mem hp)))
theorem far_to {L : List (Nat × Obj)} {gw gm : Nat} {o1 o2 : Obj} {v : Value} (h : ∀ p ∈ (gw, o1) :: (gm, o2) :: L, some p.1 ≠ v.ownBlock) : ∀ g, g = gw ∨ g = gm ∨ g ∈ L.map (·.1) → some g ≠ v.ownBlock := fun g hg => by
  rcases hg with rfl | rfl | hg
  · exact h _ (.head _)
  · exact h _ (.tail _ (.head _))
  · obtain ⟨p, hp, rfl⟩ := List.mem_map.1 hg
    exact h p (.tail _ (.tail _ hp))
theorem ct_inc {c : Int} (h : 0 ≤ c) (h' : c ≤ 4611686018427387904) : wrap64 (c + 1) = c + 1 := w64 (by omega) (by omega)
theorem app_fit {n : Nat} (h : n ≤ 17000000000000) : (n + 1) * 8 ≤ 140737488355328 := by omega
theorem tells_on {L : List (Nat × Obj)} {w0 W : World} {gw gm : Nat} {r : RR} {s : Sl} {st from_ to_ F t : Int} {S : St} (H : WS L w0 gw gm r s st from_ to_ F S W) (G : w0.heap.size ≤ gw) (h1 : 0 ≤ S.ct) (h2 : S.ct ≤ 4611686018427387904) (h3 : S.out.length ≤ 17000000000000) :
    Calls Tryz.prog 29 #[.pointer (some ⟨gw, 0, none⟩), .int .i64 t] W fun e W' => e = .returned (.tuple #[]) ∧ WS L w0 gw gm r s st from_ to_ F (tellV from_ to_ S t) W' := by
  obtain ⟨v, M, Rv, Fv⟩ := H
  have hi := ct_inc h1 h2
  obtain ⟨A0, c0, ev, _⟩ := Kd.R_reads Rv
  refine en_ Tryz.func29 rfl rfl rfl fun a K => sr_ (run_ 3 K rfl fun a K => ld_ K M 0 rfl rfl rfl rfl rfl rfl rfl rfl fun a K => run_ 3 K rfl fun a K => stc_ K M 0 rfl G rfl rfl rfl rfl rfl rfl (show 20 < 22 by decide) fun W1 hW M1 => nil_ ?_)
  have R1 := Kd.R_set Rv (M.me 0 _ _ rfl) (ty3 (show 75 ≠ 3 by decide)) 20 (.int .i64 (wrap64 (S.ct + 1)))
  rw [← hW] at R1
  rw [hi] at M1
  replace M1 : On ((gw, .cells (wc r s st from_ to_ gm (S.ct + 1) v) 75 (0, 0)) :: (gm, .cells (mc S.sp F) 73 (0, 0)) :: L) w0 W1 := M1
  clear M Rv hW
  refine sr_ (run_ 4 K rfl fun a K => ld_ K M1 0 rfl rfl rfl rfl rfl rfl rfl rfl fun a K => run_ 2 K rfl fun a K => ?_)
  by_cases c1 : from_ ≤ t
  case neg =>
    refine run_ 7 (fx_ K (decide_eq_false c1)) rfl fun a K => nil_ (cf_ K rfl rfl (wp_skip (bodyPost_end (results_none rfl _ _ _) K.df ⟨rfl, v, ?_, ?_, Fv⟩)))
    all_goals (unfold tellV; rw [if_neg (fun q => c1 q.1)]; first | exact M1 | exact R1)
  refine run_ 4 (fx_ K (decide_eq_true c1)) rfl fun a K => ld_ K M1 0 rfl rfl rfl rfl rfl rfl rfl rfl fun a K => run_ 2 K rfl fun a K => nil_ ?_
  by_cases c2 : t ≤ to_
  case neg =>
    refine cf_ K rfl (decide_eq_false c2) (wp_skip (bodyPost_end (results_none rfl _ _ _) K.df ⟨rfl, v, ?_, ?_, Fv⟩))
    all_goals (unfold tellV; rw [if_neg (fun q => c2 q.2)]; first | exact M1 | exact R1)
  subst ev
  refine ct_ K rfl (decide_eq_true c2) (rg_ (run_ 4 K rfl fun a K => ld_ K M1 0 rfl rfl rfl rfl rfl rfl rfl rfl fun a K => run_ 1 K rfl fun a K => val_ K rfl rfl rfl (run_bs22 rfl (K.of (x := .tmp 30) rfl)) fun a K => ?_))
  have hn := c_one (blk_new W1 (.cells #[.int .i64 t] 3 (0, 0)))
  refine ap_ (k := Kd.int .i64) (t := 26) (e := 3) K (M1.alloc _) rfl rfl rfl rfl Tryz.underlying26 info3 rfl (by decide) (by decide) rfl rfl (Kd.R_alloc R1 _) hn (fun x cs h => h) (far_of Fv) (app_fit h3) fun a4 v1 W4 g4 R4 M4 F4 K4 => ?_
  obtain ⟨A1, c1', ev, _⟩ := Kd.R_reads R4
  subst ev
  refine run_ 2 K4 rfl fun a4 K4 => stc_ K4 M4 0 rfl G rfl rfl rfl rfl rfl rfl (show 21 < 22 by decide) fun W5 hW M5 => nl_ (bodyPost_end (results_none rfl _ _ _) K4.df ⟨rfl, _, ?_, ?_, far_to F4⟩)
  · unfold tellV
    rw [if_pos ⟨c1, c2⟩]
    exact M5
  · unfold tellV
    rw [if_pos ⟨c1, c2⟩]
    subst hW
    exact Kd.R_set R4 (M4.me 0 _ _ rfl) (ty3 (show 75 ≠ 3 by decide)) 21 _
end Go.Proofs.YtfinhaghgmnegaaGreat.Pure

namespace Go.Proofs.YtfinhaghgmnegaaGreat.Pure
open Go.RowKit Go.Proofs.YtfinhaghgmnegaaGreat.O Go.Proofs.YtfinhaghgmnegaaGreatW.PrintWords Go.Proofs.YtfinhaghgmnegaaGreatW.PrintLast
open Go.Proofs.YtfinhaghgmnegaaGreat.Civ
set_option linter.unusedVariables false
set_option linter.unusedSimpArgs false
set_option maxRecDepth 100000
set_option maxHeartbeats 4000000
theorem cont_on {w : World} {A : Option Addr} {c : Nat} {l : List Int} (n : Int) (hk : Kd.C (Kd.int .i64) w A l.length l) (hc : l.length ≤ c) (hl : l.length ≤ 1000000000) : Calls Tryz.prog 75 #[.slice A l.length c, .int .i64 n] w (Rets w (.bool (decide (n ∈ l)))) := by
  obtain ⟨k, h⟩ := (ccont l n hl).rounds
  exact (slices_Contains_int_int.calls k A c l n _ w hk hc h).mono fun _ _ => rets_drawn
/-- A list's elements, by their cells. -/
theorem C_at {w : World} {A : Option Addr} {n : Nat} {l : List Int} (h : Kd.C (Kd.int .i64) w A n l) (hp : 0 < l.length) : ∃ ad, A = some ad ∧ ∀ (j : Nat) (x : Int), l[j]? = some x → w.cell? (ad.add (j * 1)) = some (.int .i64 x) := by
  obtain ⟨h1, _, h3⟩ := h
  obtain ⟨ad, e, hr⟩ := h3 (h1 ▸ hp)
  refine ⟨ad, e, fun j x hx => ?_⟩
  obtain ⟨cs, hcs, hK, hcell⟩ := hr j x hx
  obtain rfl : cs = [.int .i64 x] := hK
  exact hcell 0 (.int .i64 x) rfl
theorem cell_on {L : List (Nat × Obj)} {w W : World} {p : Addr} {v : Value} (M : On L w W) (h : w.cell? p = some v) : W.cell? p = some v := (M.bl.cell (World.block_lt_of_cell? w _ h)).trans h
theorem kp_lt {i n : Nat} (h : i < n) : decide ((i : Int) < (n : Int)) = true := decide_eq_true (by omega)
theorem kp_ge {i n : Nat} (h : ¬ i < n) : decide ((i : Int) < (n : Int)) = false := decide_eq_false (by omega)
theorem kp_inc {i n : Nat} (h : i < n) (hn : n ≤ 4611686018427387904) : wrap64 ((i : Int) + 1) = ((i + 1 : Nat) : Int) := by rw [w64 (by omega) (by omega)]; omega
def leftN (d n : Nat) (a : Act) : Nat := match a.eval (.tmp d) with | .int _ x => ((n : Int) - x).toNat | _ => 0
theorem leftN_ {d n N : Nat} {E : Env} {a : Act} {x : Int} (K : Kn N E a) (h : O.look E d = some (.int .i64 x)) : leftN d n a = ((n : Int) - x).toNat := by unfold leftN; rw [K.ev _ _ h]
theorem leftN_lt {i n : Nat} (h : i < n) : ((n : Int) - ((i + 1 : Nat) : Int)).toNat < ((n : Int) - (i : Int)).toNat := by omega
section
variable {N : Nat} {E : Env} {a : Act} {ops : Array Oper} {rest : List Oper} {Q : Exit → Act → World → Prop} {w : World} {o : Oper} {d : Nat}
/-- An element's address. -/
theorem ix_ (K : Kn N E a) {x y : Operand} {ad : Addr} {n c i : Nat} (hi : i < n) (hn : n ≤ 4611686018427387904) (hd : o.dst = some d) (hb : Nat.blt d N = true) (hw : wantE ops E o = some true) (hop : o.op = .indexAddr 26 x y) (hx : evo E x = some (.slice (some ad) n c)) (hy : evo E y = some (.int .i64 i))
    (h : ∀ a', Kn N ((d, .pointer (some (ad.add (i * 1)))) :: E) a' → wpList Tryz.prog ops Q rest a' w) : wpList Tryz.prog ops Q (o :: rest) a w :=
  val_ K hd hb hw (run_ix22 hi hn hop (K.of hx) (K.of hy)) h
/-- An element, by its cell. -/
theorem el_ (K : Kn N E a) {x : Operand} {p : Addr} {m : Int} (hc : w.cell? p = some (.int .i64 m)) (hd : o.dst = some d) (hb : Nat.blt d N = true) (hw : wantE ops E o = some true) (hop : o.op = .load 3 x) (hx : evo E x = some (.pointer (some p)))
    (h : ∀ a', Kn N ((d, .int .i64 m) :: E) a' → wpList Tryz.prog ops Q rest a' w) : wpList Tryz.prog ops Q (o :: rest) a w :=
  val_ K hd hb hw (run_ld rfl hop (K.of hx) hc) h
end
/-- An append of one number to an own row. -/
theorem ap1_ {N : Nat} {E : Env} {a : Act} {ops : Array Oper} {rest : List Oper} {Q : Exit → Act → World → Prop} {w w0 : World} {o o2 : Oper} {d e : Nat} {L : List (Nat × Obj)} {x y : Operand} {m : Int} {v : Value} {l : List Int} (K : Kn N E a) (M : On L w0 w)
    (hd : o.dst = some d) (hb : Nat.blt d N = true) (hw : wantE ops E o = some true) (hop : o.op = .buildSlice 26 1 #[(0, x)]) (hx : evo E x = some (.int .i64 m))
    (hd2 : o2.dst = some e) (hb2 : Nat.blt e N = true) (hg2 : o2.guard = none) (hop2 : o2.op = .call { callee := .builtin .append, args := #[y, .tmp d], argTypes := #[26, 26] }) (hy : ∀ u, evo ((d, u) :: E) y = some v)
    (R : Kd.R (Kd.int .i64) 3 w w0.heap.size (fun _ => True) v l) (F : ∀ p ∈ L, some p.1 ≠ v.ownBlock) (hl : l.length ≤ 17000000000000)
    (h : ∀ a' v1 w1 u, Kd.R (Kd.int .i64) 3 w1 w0.heap.size (fun _ => True) v1 (l ++ [m]) → On L w0 w1 → (∀ p ∈ L, some p.1 ≠ v1.ownBlock) → Kn N ((e, v1) :: (d, u) :: E) a' → wpList Tryz.prog ops Q rest a' w1) : wpList Tryz.prog ops Q (o :: o2 :: rest) a w := by
  refine val_ K hd hb hw (run_bs22 hop (K.of hx)) fun a K => ?_
  have hn := c_one (blk_new w (.cells #[.int .i64 m] 3 (0, 0)))
  refine ap_ (k := Kd.int .i64) (t := 26) (e := 3) K (M.alloc _) hd2 hb2 hg2 hop2 Tryz.underlying26 info3 rfl (by decide) (by decide) (hy _) (A := some ⟨w.heap.size, 0, none⟩) (m := 1) (c := 1) (by unfold evo O.look; simp) (Kd.R_alloc R _) hn (fun x cs h => h) F (app_fit hl) fun a4 v1 W4 g4 R4 M4 F4 K4 => ?_
  exact h a4 v1 W4 _ R4 M4 F4 K4
theorem places_nil {w : World} {cs : Array Value} {r : RR} {v : Value} (R : Rul w cs r) (h : r.sp = []) : Calls Tryz.prog 67 #[.agg cs, v] w (Rets w v) := by
  obtain ⟨A14, k14, e14, q14, h14⟩ := R.c14
  refine en_ Tryz.func67 rfl rfl rfl fun a K => sr_ (bx_ K (On.nil w) rfl rfl rfl rfl rfl rfl fun a g0 W M K => run_ 1 K rfl fun a K => nil_ (wp_seq (sr_ (run_ 1 K rfl fun a K => ld_ K M 0 rfl rfl rfl rfl rfl rfl e14 rfl fun a K => run_ 2 K rfl fun a K => nil_ ?_))))
  exact ct_ K rfl ((nil_len _).trans (decide_eq_true ((nil_iff _).2 h))) (sr_ (run_ 2 K rfl fun a K => nil_ (ret_ rfl K rfl ⟨rfl, M.bl⟩)))
theorem pl_in {sp : List Int} {n i : Nat} (hi : i < n) (hn : n ≤ 4000000000000) : wrap64 ((i : Int) + 1) = (i : Int) + 1 ∧ wrap64 ((i : Int) - (n : Int)) = (i : Int) - n := ⟨w64 (by omega) (by omega), w64 (by omega) (by omega)⟩
theorem places_own {w : World} {cs : Array Value} {r : RR} {A : Option Addr} {c : Nat} {l : List Int} (R : Rul w cs r) (h : r.sp ≠ []) (hs : r.sp.length ≤ 1000000000) (hk : Kd.C (Kd.int .i64) w A l.length l) (hl : l.length ≤ 4000000000000) :
    Calls Tryz.prog 67 #[.agg cs, .slice A l.length c] w fun e W' => ∃ v', e = .returned v' ∧ Kd.R (Kd.int .i64) 3 W' w.heap.size (fun _ => True) v' (picksV r.sp l l.length) ∧ Below w.heap.size w W' := by
  obtain ⟨A14, k14, e14, q14, h14⟩ := R.c14
  refine en_ Tryz.func67 rfl rfl rfl fun a K => sr_ (bxG_ K (On.nil w) rfl rfl rfl rfl rfl rfl fun a g0 W G0 M K => run_ 1 K rfl fun a K => nil_ (wp_seq (sr_ (run_ 1 K rfl fun a K => ld_ K M 0 rfl rfl rfl rfl rfl rfl e14 rfl fun a K => run_ 2 K rfl fun a K => nil_ ?_))))
  refine cs_ K rfl ((nil_len _).trans (decide_eq_false fun q => h ((nil_iff _).1 q))) (sr_ (run_ 1 K rfl fun a K => nil_ (wp_seq (sr_ (run_ 3 K rfl fun a K => nil_ (wp_block (wp_loop (fun a W => ∃ (i : Nat) (v : Value), i ≤ l.length ∧ Kn 40 [(15, .int .i64 (i : Int)), (14, .int .i64 (l.length : Int)), (13, .slice A l.length c), (5, v), (2, .pointer (some ⟨g0, 0, none⟩)), (1, .slice A l.length c)] a ∧ On [(g0, .cells cs 29 (0, 0))] w W ∧ Kd.R (Kd.int .i64) 3 W w.heap.size (fun _ => True) v (picksV r.sp l i) ∧ some g0 ≠ v.ownBlock) (fun a _ => leftN 15 l.length a) ⟨0, .slice none 0 0, Nat.zero_le _, fg_ K ⟨rfl, rfl, rfl, rfl, rfl, rfl, trivial⟩, M, Kd.R_nil _ _ _ _ _, fun q => (nomatch (show some g0 = none from q))⟩ ?_)))))))
  clear K M
  rintro a W ⟨i, v, hi, K, M, Rv, F⟩
  refine sr_ (run_ 1 K rfl fun a2 K2 => nil_ (wp_seq ?_))
  by_cases hc : i < l.length
  case neg =>
    obtain rfl : i = l.length := by omega
    exact cf_ K2 rfl (kp_ge hc) (ex_ (thn_ (sr_ (run_ 2 K2 rfl fun a K => nil_ (ret_ rfl K rfl ⟨v, rfl, Rv, M.bl⟩)))))
  obtain ⟨ad, eA, hat⟩ := C_at hk (by omega)
  subst eA
  have hx := List.getElem?_eq_getElem hc
  have e1 := pl_in (sp := r.sp) hc hl
  have e2 := kp_inc hc (by omega)
  have e3 := picks_succ r.sp l hc
  have e4 := picks_len r.sp l i
  generalize l[i] = x at hx e3
  have C1 : ∀ V, Below w.heap.size w V → Calls Tryz.prog 75 #[.slice A14 r.sp.length k14, .int .i64 (wrap64 ((i : Int) + 1))] V (Rets V (.bool (decide ((i : Int) + 1 ∈ r.sp)))) := fun V hV => by
    rw [e1.1]; exact cont_on _ (Kd.C_below h14 hV) q14 hs
  have C2 : ∀ V, Below w.heap.size w V → Calls Tryz.prog 75 #[.slice A14 r.sp.length k14, .int .i64 (wrap64 ((i : Int) - (l.length : Int)))] V (Rets V (.bool (decide ((i : Int) - (l.length : Int) ∈ r.sp)))) := fun V hV => by
    rw [e1.2]; exact cont_on _ (Kd.C_below h14 hV) q14 hs
  clear e1
  obtain ⟨A0, c0, ev, _⟩ := Kd.R_reads Rv
  refine ck_ K2 rfl (kp_lt hc) (wp_seq (bjn_ (fun a' W' => ∃ v', Kn 40 [(15, .int .i64 (i : Int)), (14, .int .i64 (l.length : Int)), (13, .slice (some ad) l.length c), (5, v'), (2, .pointer (some ⟨g0, 0, none⟩)), (1, .slice (some ad) l.length c)] a' ∧ On [(g0, .cells cs 29 (0, 0))] w W' ∧ Kd.R (Kd.int .i64) 3 W' w.heap.size (fun _ => True) v' (picksV r.sp l (i + 1)) ∧ some g0 ≠ v'.ownBlock) (sr_ (run_ 1 K2 rfl fun a K => ix_ K hc (by omega) rfl rfl rfl rfl rfl rfl fun a K => el_ K (cell_on M (hat i x hx)) rfl rfl rfl rfl rfl fun a K => run_ 2 K rfl fun a K => nil_ ?_)) ?_))
  case refine_2 =>
    rintro a' W' ⟨v', K', M', R', F'⟩
    refine rg_ (run_ 2 K' rfl fun a5 K5 => nl_ ⟨⟨i + 1, v', hc, fg_ (ks_ (i := 15) K5 rfl (congrArg (Value.int .i64) e2)) ⟨rfl, rfl, rfl, rfl, rfl, rfl, trivial⟩, M', R', F'⟩, ?_⟩)
    rw [leftN_ (d := 15) K5 rfl, leftN_ (d := 15) K rfl, e2]
    exact leftN_lt hc
  refine sr_ (run_ 1 K rfl fun a K => ld_ K M 0 rfl rfl rfl rfl rfl rfl e14 rfl fun a K => run_ 2 K rfl fun a K => cl_ K Tryz.func75 (by kernel_rfl) rfl rfl rfl rfl rfl rfl ((C1 _ M.bl).mono ?_))
  rintro _ w4 ⟨rfl, b4⟩
  replace M := M.call b4
  replace Rv := Kd.R_below Rv b4
  refine ⟨_, rfl, fun a K => ?_⟩
  by_cases d1 : (i : Int) + 1 ∈ r.sp
  case' pos => refine run_ 9 (fx_ K (decide_eq_true d1)) rfl fun a K => nil_ (ct_ K rfl rfl ?_)
  case' neg =>
    refine run_ 2 (fx_ K (decide_eq_false d1)) rfl fun a K => ld_ K M 0 rfl rfl rfl rfl rfl rfl e14 rfl fun a K => run_ 4 K rfl fun a K => cl_ K Tryz.func75 (by kernel_rfl) rfl rfl rfl rfl rfl rfl ((C2 _ M.bl).mono ?_)
    rintro _ w12 ⟨rfl, b12⟩
    replace M := M.call b12
    replace Rv := Kd.R_below Rv b12
    refine ⟨_, rfl, fun a K => run_ 1 K rfl fun a K => nil_ ?_⟩
    by_cases d2 : (i : Int) - (l.length : Int) ∈ r.sp
    case neg =>
      rw [if_neg (by simp [asked, d1, d2]), List.append_nil] at e3
      exact cf_ K rfl (decide_eq_false d2) (wp_skip ⟨v, fg_ K ⟨rfl, rfl, rfl, rfl, rfl, rfl, trivial⟩, M, by rw [e3]; exact Rv, F⟩)
    case' pos => refine ct_ K rfl (decide_eq_true d2) ?_
  all_goals
    rw [if_pos (by simp only [asked]; simp [*])] at e3
    subst ev
    refine rg_ (run_ 2 K rfl fun a K => ap1_ K M rfl rfl rfl rfl rfl rfl rfl rfl rfl (fun _ => rfl) Rv (fun p hp => by
      obtain rfl : p = (g0, .cells cs 29 (0, 0)) := by simpa using hp
      exact F) (by omega) fun a v1 W4 u R4 M4 F4 K4 => run_ 1 K4 rfl fun a K => nl_ ⟨v1, fg_ K ⟨rfl, rfl, rfl, rfl, rfl, rfl, trivial⟩, M4, by rw [e3]; exact R4, F4 _ (.head _)⟩)
end Go.Proofs.YtfinhaghgmnegaaGreat.Pure
