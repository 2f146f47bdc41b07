/- wakes of the statements of layer 23 answers true. No condition. -/
/- Rules that are one are alike, as a contract. No condition but that their lists are no longer than a million. -/
import Derived.Test.YtjjaiahfkiojlaaGreatMOx104
import Derived.Test.YtjjaiahfkiojlaaGreatMOx10
import Derived.Test.YtjjaiahfkiojlaaGreatMOx0
import Derived.Test.YtjjaiahfkiojlaaGreatT23G
namespace Go.Proofs.YtjjaiahfkiojlaaGreat.Pure
open Go.RowKit Go.Proofs.YtjjaiahfkiojlaaGreat.O Go.Proofs.YtjjaiahfkiojlaaGreatW.PrintWords Go.Proofs.YtjjaiahfkiojlaaGreatW.PrintLast
open Go.Proofs.YtjjaiahfkiojlaaGreat.Civ
set_option linter.unusedVariables false
set_option linter.unusedSimpArgs false
set_option maxRecDepth 100000
set_option maxHeartbeats 4000000
theorem kints (l : List Int) (h : l.length ≤ 1000000) : Ev (fun k => solsticekeep_Ints.f k l l) true := by
  have loop : ∀ (n : Nat) (i : Int), 0 ≤ i → i + n = l.length → Ev (fun k => solsticekeep_Ints.l0 k l l i) true := by
    intro n
    induction n with
    | zero =>
      intro i h0 h1
      refine evstep ?_
      simp only [solsticekeep_Ints.l0, if_neg (show ¬ i < (l.length : Int) by omega)]
      exact Ev.now _
    | succ n ih =>
      intro i h0 h1
      refine evstep ?_
      simp only [solsticekeep_Ints.l0, if_pos (show i < (l.length : Int) by omega), if_pos h0, if_true]
      rw [w64 (by omega) (by omega)]
      exact ih (i + 1) (by omega) (by omega)
  unfold solsticekeep_Ints.f
  simp only [if_true]
  exact loop l.length 0 (by omega) (by omega)
theorem ints_on {w : World} {A B : Option Addr} {c k : Nat} {l : List Int} (h : Kd.C (Kd.int .i64) w A l.length l) (hc : l.length ≤ c) (h' : Kd.C (Kd.int .i64) w B l.length l) (hk : l.length ≤ k) (hl : l.length ≤ 1000000) : Calls Tryz.prog 26 #[.slice A l.length c, .slice B l.length k] w (Rets w (.bool true)) := by
  obtain ⟨q, e⟩ := (kints l hl).rounds
  exact (solsticekeep_Ints.calls q A c l B k l _ w h hc h' hk e).mono fun _ _ => rets_drawn
/-- A list in a block. -/
theorem c_list {W : World} {g : Nat} {l : List Int} {cur : Array Value} (h : W.heap[g]? = some (.cells cur 3 (0, 0))) (hc : ∀ (j : Nat) (x : Int), l[j]? = some x → cur[j]? = some (.int .i64 x)) (hl : l.length ≤ 1000000000) : Kd.C (Kd.int .i64) W (some ⟨g, 0, none⟩) l.length l := by
  refine ⟨rfl, by omega, fun _ => ⟨_, rfl, fun j p hp => ?_⟩⟩
  refine ⟨_, rfl, rfl, fun i u hu => ?_⟩
  match i, hu with
  | 0, hu =>
    have e : u = .int .i64 p := by simpa using hu.symm
    subst e
    have := (blk_cell h j).trans (hc j p hp)
    have a : ((⟨g, 0, none⟩ : Addr).add (j * 1 + 0)) = ⟨g, j, none⟩ := by
      unfold Addr.add
      split
      · rename_i q
        have : j = 0 := by omega
        subst this; rfl
      · simp
    show W.cell? ((⟨g, 0, none⟩ : Addr).add (j * 1 + 0)) = _
    rw [a]
    exact this
def nilS : Sl := ⟨.slice none 0 0, .slice none 0 0, .slice none 0 0, .slice none 0 0, .slice none 0 0, .slice none 0 0, .slice none 0 0, .slice none 0 0, .slice none 0 0⟩
theorem inl_nil (w : World) : InL w (some (.slice none 0 0)) [] := ⟨none, 0, rfl, Nat.le_refl _, rfl, by simp, fun h => absurd h (by simp)⟩
theorem ind_nil (w : World) : InD w (some (.slice none 0 0)) [] := ⟨none, 0, rfl, Nat.le_refl _, rfl, by simp, fun h => absurd h (by simp)⟩
theorem pl_rul (W : World) (fr iv ct ua : Int) (un : Bool) : Rul W (rc (pl fr iv ct un ua) nilS) (pl fr iv ct un ua) := ⟨rfl, rfl, rfl, rfl, rfl, rfl, rfl, inl_nil W, inl_nil W, inl_nil W, ind_nil W, inl_nil W, inl_nil W, inl_nil W, inl_nil W, inl_nil W, rfl⟩
theorem ind_one {W : World} {g : Nat} {x : S67} (h : W.heap[g]? = some (.cells #[.int .i64 x.f0, .int .i64 x.f1] 67 (0, 0))) : InD W (some (.slice (some ⟨g, 0, none⟩) 1 1)) [x] := by
  refine ⟨_, _, rfl, Nat.le_refl _, rfl, by simp, fun _ => ⟨_, rfl, fun j p hp => ?_⟩⟩
  have hj := (List.getElem?_eq_some_iff.1 hp).1
  obtain rfl : j = 0 := by simpa using hj
  obtain rfl : x = p := by simpa using hp
  refine ⟨_, rfl, k67_mk W x, fun i u hu => ?_⟩
  match i, hu with
  | 0, hu => exact ((blk_cell h 0).trans rfl).trans hu
  | 1, hu => exact ((blk_cell h 1).trans rfl).trans hu
theorem inl_one {W : World} {g : Nat} {x : Int} (h : W.heap[g]? = some (.cells #[.int .i64 x] 3 (0, 0))) : InL W (some (.slice (some ⟨g, 0, none⟩) 1 1)) [x] := ⟨_, _, rfl, Nat.le_refl _, c_one h⟩
/-- The slices of wakes' second rule. -/
def sB (g9 g14 : Nat) : Sl := ⟨.slice none 0 0, .slice none 0 0, .slice none 0 0, .slice (some ⟨g9, 0, none⟩) 1 1, .slice none 0 0, .slice none 0 0, .slice none 0 0, .slice none 0 0, .slice (some ⟨g14, 0, none⟩) 1 1⟩
theorem rB_rul {W : World} {g9 g14 : Nat} (h9 : W.heap[g9]? = some (.cells #[.int .i64 0, .int .i64 5] 67 (0, 0))) (h14 : W.heap[g14]? = some (.cells #[.int .i64 (-1)] 3 (0, 0))) : Rul W (rc rB (sB g9 g14)) rB := ⟨rfl, rfl, rfl, rfl, rfl, rfl, rfl, inl_nil W, inl_nil W, inl_nil W, ind_one (x := ⟨0, 5⟩) h9, inl_nil W, inl_nil W, inl_nil W, inl_nil W, inl_one h14, rfl⟩
section
variable {ρ : Operand → Value} {o : Oper} {w : World}
theorem b25a_run (fr iv ct wk : Int) (w : World) : (Instr.build 25 #[(0, .int .i64 fr), (1, .int .i64 iv), (2, .int .i64 ct), (15, .int .i64 wk)]).run Tryz.prog w = .ok (.agg #[.int .i64 fr, .int .i64 iv, .int .i64 ct, .bool false, .int .i64 0, .bool false, .slice none 0 0, .slice none 0 0, .slice none 0 0, .slice none 0 0, .slice none 0 0, .slice none 0 0, .slice none 0 0, .slice none 0 0, .slice none 0 0, .int .i64 wk]) w := by kernel_rfl
theorem run_b25a {x0 x1 x2 : Operand} {fr iv ct : Int} (ho : o.op = .build 25 #[(0, x0), (1, x1), (2, x2), (15, .const (.int .i64 1))]) (hc : ∀ v, ρ (.const v) = v) (h0 : ρ x0 = .int .i64 fr) (h1 : ρ x1 = .int .i64 iv) (h2 : ρ x2 = .int .i64 ct) : (execOp ρ o).run Tryz.prog w = .ok (.value (.agg (rc (pl fr iv ct false 0) nilS))) w := by
  unfold execOp; rw [ho]
  simp only [h0, h1, h2, hc, List.map_toArray, List.map_cons, List.map_nil]
  rw [Sem.run_bind, b25a_run]
  rfl
theorem b25c_run (g9 g14 : Nat) (w : World) : (Instr.build 25 #[(0, .int .i64 6), (1, .int .i64 1), (9, .slice (some ⟨g9, 0, none⟩) 1 1), (14, .slice (some ⟨g14, 0, none⟩) 1 1), (15, .int .i64 1)]).run Tryz.prog w = .ok (.agg (rc rB (sB g9 g14))) w := by kernel_rfl
theorem run_b25c {x9 x14 : Operand} {g9 g14 : Nat} (ho : o.op = .build 25 #[(0, .const (.int .i64 6)), (1, .const (.int .i64 1)), (9, x9), (14, x14), (15, .const (.int .i64 1))]) (hc : ∀ v, ρ (.const v) = v) (h0 : ρ x9 = .slice (some ⟨g9, 0, none⟩) 1 1) (h1 : ρ x14 = .slice (some ⟨g14, 0, none⟩) 1 1) : (execOp ρ o).run Tryz.prog w = .ok (.value (.agg (rc rB (sB g9 g14)))) w := by
  unfold execOp; rw [ho]
  simp only [h0, h1, hc, List.map_toArray, List.map_cons, List.map_nil]
  rw [Sem.run_bind, b25c_run]
  rfl
theorem b67_run (n : Int) (w : World) : (Instr.build 67 #[(1, .int .i64 n)]).run Tryz.prog w = .ok (.agg #[.int .i64 0, .int .i64 n]) w := by kernel_rfl
theorem run_b67 {n : Int} (ho : o.op = .build 67 #[(1, .const (.int .i64 n))]) (hc : ∀ v, ρ (.const v) = v) : (execOp ρ o).run Tryz.prog w = .ok (.value (.agg #[.int .i64 0, .int .i64 n])) w := by
  unfold execOp; rw [ho]
  simp only [hc, List.map_toArray, List.map_cons, List.map_nil]
  rw [Sem.run_bind, b67_run]
  rfl
theorem run_bs23 {x : Operand} {a b : Int} (ho : o.op = .buildSlice 23 1 #[(0, x)]) (hx : ρ x = .agg #[.int .i64 a, .int .i64 b]) : (execOp ρ o).run Tryz.prog w = .ok (.value (.slice (some ⟨w.heap.size, 0, none⟩) 1 1)) (w.alloc (.cells #[.int .i64 a, .int .i64 b] 67 (0, 0))) := by
  have hu67 := Tryz.underlying67
  have hu23 := Tryz.underlying23
  unfold execOp; rw [ho]
  first | (go_simp; done) | (simp only [hx, List.map_toArray, List.map_cons, List.map_nil]; go_simp; done) | (simp only [hx, List.map_toArray, List.map_cons, List.map_nil]; go_simp; rfl)
theorem bs3_run (a b c : Int) (w : World) : (Instr.buildSlice 22 3 #[(0, .int .i64 a), (1, .int .i64 b), (2, .int .i64 c)]).run Tryz.prog w = .ok (.slice (some ⟨w.heap.size, 0, none⟩) 3 3) (w.alloc (.cells #[.int .i64 a, .int .i64 b, .int .i64 c] 3 (0, 0))) := by kernel_rfl
theorem run_bs3 {a b c : Int} (ho : o.op = .buildSlice 22 3 #[(0, .const (.int .i64 a)), (1, .const (.int .i64 b)), (2, .const (.int .i64 c))]) (hc : ∀ v, ρ (.const v) = v) : (execOp ρ o).run Tryz.prog w = .ok (.value (.slice (some ⟨w.heap.size, 0, none⟩) 3 3)) (w.alloc (.cells #[.int .i64 a, .int .i64 b, .int .i64 c] 3 (0, 0))) := by
  unfold execOp; rw [ho]
  simp only [hc, List.map_toArray, List.map_cons, List.map_nil]
  rw [Sem.run_bind, bs3_run]
  rfl
end
section
variable {N : Nat} {E : Env} {a : Act} {ops : Array Oper} {rest : List Oper} {Q : Exit → Act → World → Prop} {w w0 : World} {o : Oper} {d : Nat} {L : List (Nat × Obj)}
/-- A list of one number, new. -/
theorem bsi_ (K : Kn N E a) (M : On L w0 w) {x : Operand} {m : Int} (hd : o.dst = some d) (hb : Nat.blt d N = true) (hw : wantE ops E o = some true) (hop : o.op = .buildSlice 22 1 #[(0, x)]) (hx : evo E x = some (.int .i64 m))
    (h : ∀ a' g W, w0.heap.size ≤ g → Below w.heap.size w W → On ((g, .cells #[.int .i64 m] 3 (0, 0)) :: L) w0 W → Kn N ((d, .slice (some ⟨g, 0, none⟩) 1 1) :: E) a' → wpList Tryz.prog ops Q rest a' W) : wpList Tryz.prog ops Q (o :: rest) a w :=
  val_ K hd hb hw (run_bs22 hop (K.of hx)) (fun a' K' => h a' _ _ M.bl.size (below_alloc (Below.refl _ _) _) (M.new _) K')
/-- A list of one weekday, new. -/
theorem bsd_ (K : Kn N E a) (M : On L w0 w) {x : Operand} {m n : Int} (hd : o.dst = some d) (hb : Nat.blt d N = true) (hw : wantE ops E o = some true) (hop : o.op = .buildSlice 23 1 #[(0, x)]) (hx : evo E x = some (.agg #[.int .i64 m, .int .i64 n]))
    (h : ∀ a' g W, w0.heap.size ≤ g → Below w.heap.size w W → On ((g, .cells #[.int .i64 m, .int .i64 n] 67 (0, 0)) :: L) w0 W → Kn N ((d, .slice (some ⟨g, 0, none⟩) 1 1) :: E) a' → wpList Tryz.prog ops Q rest a' W) : wpList Tryz.prog ops Q (o :: rest) a w :=
  val_ K hd hb hw (run_bs23 hop (K.of hx)) (fun a' K' => h a' _ _ M.bl.size (below_alloc (Below.refl _ _) _) (M.new _) K')
theorem bs3_ (K : Kn N E a) (M : On L w0 w) {x y z : Int} (hd : o.dst = some d) (hb : Nat.blt d N = true) (hw : wantE ops E o = some true) (hop : o.op = .buildSlice 22 3 #[(0, .const (.int .i64 x)), (1, .const (.int .i64 y)), (2, .const (.int .i64 z))])
    (h : ∀ a' g W, w0.heap.size ≤ g → Below w.heap.size w W → On ((g, .cells #[.int .i64 x, .int .i64 y, .int .i64 z] 3 (0, 0)) :: L) w0 W → Kn N ((d, .slice (some ⟨g, 0, none⟩) 3 3) :: E) a' → wpList Tryz.prog ops Q rest a' W) : wpList Tryz.prog ops Q (o :: rest) a w :=
  val_ K hd hb hw (run_bs3 hop (fun _ => rfl)) (fun a' K' => h a' _ _ M.bl.size (below_alloc (Below.refl _ _) _) (M.new _) K')
end
theorem wakes_on {w : World} : Calls Tryz.prog 19 #[] w (Rets w (.bool true)) := by
  refine en_ Tryz.func19 rfl rfl rfl fun a K => sr_ (run_ 1 K rfl fun a K => nil_ (sr_ (val_ K rfl rfl rfl (run_b25a rfl (fun _ => rfl) rfl rfl rfl) fun a K => cl_ K Tryz.func18 (by kernel_rfl) rfl rfl rfl rfl rfl rfl ((Times_on (pl_rul w 4 1 3 0 false) (pl_right (by decide) (by decide) (by decide) (by decide) (by decide) (by decide) (Or.inl ⟨rfl, rfl⟩)) pl_few (by decide)).mono ?_))))
  rintro _ w1 ⟨v1, rfl, R1, b1⟩
  rw [wake_a] at R1 ⊢
  have M := On.nil w1
  obtain ⟨A1, c1, e1, h1, C1⟩ := Kd.R_reads R1
  subst e1
  clear R1
  refine ⟨_, rfl, fun a K => run_ 7 K rfl fun a K => nil_ (sr_ (val_ K rfl rfl rfl (run_b67 rfl (fun _ => rfl)) fun a K => bsd_ K M rfl rfl rfl rfl rfl fun a g9 W9 G9 B9 M K => bsi_ K M rfl rfl rfl rfl rfl fun a g14 W14 G14 B14 M K => val_ K rfl rfl rfl (run_b25c (g9 := g9) (g14 := g14) rfl (fun _ => rfl) (K.of (x := .tmp 21) rfl) (K.of (x := .tmp 22) rfl)) fun a K => nwG_ K M rfl rfl rfl rfl rfl rfl rfl (fun _ => rfl) rfl rfl rfl fun a g4 W4 G4 M K => nil_ ?_))⟩
  have RB : ∀ {L : List (Nat × Obj)} {V : World}, On (L ++ [(g4, .cells (rc rB (sB g9 g14)) 25 (0, 0)), (g14, .cells #[.int .i64 (-1)] 3 (0, 0)), (g9, .cells #[.int .i64 0, .int .i64 5] 67 (0, 0))]) w1 V → Rul V (rc rB (sB g9 g14)) rB := fun M => rB_rul (on_mem M (p := (g9, _)) (by simp)) (on_mem M (p := (g14, _)) (by simp))
  refine sr_ (lda_ K M 0 rfl rfl rfl rfl rfl rfl rfl rfl fun a K => cl_ K Tryz.func24 (by kernel_rfl) rfl rfl rfl rfl rfl rfl ((of_on (RB (L := []) M) rB_right rB_few (show InT 0 by decide)).mono ?_))
  rintro _ w5 ⟨v5, rfl, R5, b5⟩
  rw [wake_b] at R5 ⊢
  replace M := M.call b5
  obtain ⟨A5, c5, e5, h5, C5⟩ := Kd.R_reads R5
  subst e5
  clear R5
  refine ⟨_, rfl, fun a K => run_ 5 K rfl fun a K => nil_ (sr_ (lda_ K M 0 rfl rfl rfl rfl rfl rfl rfl rfl fun a K => cl_ K Tryz.func22 (by kernel_rfl) rfl rfl rfl rfl rfl rfl ((Last_on (RB (L := []) M) rB_right rB_few (show InT 0 by decide)).mono ?_)))⟩
  rintro _ w6 ⟨rfl, b6⟩
  rw [wake_c]
  replace M := M.call b6
  replace C5 := Kd.C_below C5 b6
  refine ⟨_, rfl, fun a K => run_ 9 K rfl fun a K => nil_ (sr_ (lda_ K M 0 rfl rfl rfl rfl rfl rfl rfl rfl fun a K => cl_ K Tryz.func18 (by kernel_rfl) rfl rfl rfl rfl rfl rfl ((Times_on (RB (L := []) M) rB_right rB_few (show InT 0 by decide)).mono ?_)))⟩
  rintro _ w7 ⟨v7, rfl, R7, b7⟩
  rw [wake_d]
  replace M := M.call b7
  replace C5 := Kd.C_below C5 b7
  clear R7 RB
  refine ⟨_, rfl, fun a K => run_ 7 K rfl fun a K => nil_ (sr_ (run_ 3 K rfl fun a K => run_ 1 (fx_ (c := true) K rfl) rfl fun a K => bs3_ K M rfl rfl rfl rfl fun a g W8 G8 B8 M8 K => ?_))⟩
  replace C5 := Kd.C_below C5 B8
  refine cl_ K Tryz.func26 (by kernel_rfl) rfl rfl rfl rfl rfl rfl ((ints_on (l := [0, 86400, 172800]) (Kd.C_below C1 M8.bl) h1 (c_list (l := [0, 86400, 172800]) (M8.me 0 _ _ rfl) (fun j x hx => ?_) (by decide)) (by decide) (by decide)).mono ?_)
  · match j, hx with
    | 0, hx => simp at hx; subst hx; rfl
    | 1, hx => simp at hx; subst hx; rfl
    | 2, hx => simp at hx; subst hx; rfl
  rintro _ w9 ⟨rfl, b9⟩
  replace M := M8.call b9
  replace C5 := Kd.C_below C5 b9
  refine ⟨_, rfl, fun a K => run_ 2 K rfl fun a K => run_ 4 (fx_ (c := true) K rfl) rfl fun a K => run_ 4 (fx_ (c := true) K rfl) rfl fun a K => run_ 1 (fx_ (c := true) K rfl) rfl fun a K => bsi_ K M rfl rfl rfl rfl rfl fun a g' W10 G10 B10 M10 K => ?_⟩
  replace C5 := Kd.C_below C5 B10
  refine cl_ K Tryz.func26 (by kernel_rfl) rfl rfl rfl rfl rfl rfl ((ints_on (l := [2505600]) C5 h5 (c_one (M10.me 0 _ _ rfl)) (by decide) (by decide)).mono ?_)
  rintro _ w11 ⟨rfl, b11⟩
  replace M := M10.call b11
  exact ⟨_, rfl, fun a K => run_ 2 K rfl fun a K => run_ 4 (fx_ (c := true) K rfl) rfl fun a K => run_ 3 (fx_ (c := true) K rfl) rfl fun a K => run_ 4 (fx_ (c := true) K rfl) rfl fun a K => run_ 4 (fx_ (c := true) K rfl) rfl fun a K => nil_ (ret_ rfl K rfl ⟨rfl, below_step b1 M.bl⟩)⟩
end Go.Proofs.YtjjaiahfkiojlaaGreat.Pure

namespace Go.Proofs.YtjjaiahfkiojlaaGreat.Pure
open Go.RowKit Go.Proofs.YtjjaiahfkiojlaaGreat.O Go.Proofs.YtjjaiahfkiojlaaGreatW.PrintWords Go.Proofs.YtjjaiahfkiojlaaGreatW.PrintLast
open Go.Proofs.YtjjaiahfkiojlaaGreat.Civ
set_option linter.unusedVariables false
set_option linter.unusedSimpArgs false
set_option maxRecDepth 100000
set_option maxHeartbeats 4000000
section
variable {ρ : Operand → Value} {o : Oper} {w : World}
theorem run_ne67 {x y : Operand} {a b : Int} (ho : o.op = .binOp .neq 67 x y 67) (hx : ρ x = .agg #[.int .i64 a, .int .i64 b]) (hy : ρ y = .agg #[.int .i64 a, .int .i64 b]) : (execOp ρ o).run Tryz.prog w = .ok (.value (.bool false)) w := by
  have hu67 := Tryz.underlying67
  unfold execOp; rw [ho]; go_simp
theorem run_neB {x y : Operand} {b c : Bool} (ho : o.op = .binOp .neq 4 x y 4) (hx : ρ x = .bool b) (hy : ρ y = .bool c) : (execOp ρ o).run Tryz.prog w = .ok (.value (.bool (!(b == c)))) w := by
  have hu := Tryz.underlying4
  unfold execOp; rw [ho]; go_simp
end
/-- Rules that are one are alike. -/
theorem keep_on {w : World} {cs cs' : Array Value} {r : RR} (R : Rul w cs r) (R' : Rul w cs' r) (hl : r.sec.length ≤ 1000000 ∧ r.mi.length ≤ 1000000 ∧ r.ho.length ≤ 1000000 ∧ r.dy.length ≤ 1000000 ∧ r.md.length ≤ 1000000 ∧ r.yd.length ≤ 1000000 ∧ r.wn.length ≤ 1000000 ∧ r.mo.length ≤ 1000000 ∧ r.sp.length ≤ 1000000) : Calls Tryz.prog 23 #[.agg cs, .agg cs'] w (Rets w (.bool true)) := by
  obtain ⟨l6, l7, l8, l9, l10, l11, l12, l13, l14⟩ := hl
  obtain ⟨A6, k6, e6, q6, h6⟩ := R.c6
  obtain ⟨B6, j6, f6, s6, g6⟩ := R'.c6
  obtain ⟨A7, k7, e7, q7, h7⟩ := R.c7
  obtain ⟨B7, j7, f7, s7, g7⟩ := R'.c7
  obtain ⟨A8, k8, e8, q8, h8⟩ := R.c8
  obtain ⟨B8, j8, f8, s8, g8⟩ := R'.c8
  obtain ⟨A9, k9, e9, q9, h9⟩ := R.c9
  obtain ⟨B9, j9, f9, s9, g9⟩ := R'.c9
  obtain ⟨A10, k10, e10, q10, h10⟩ := R.c10
  obtain ⟨B10, j10, f10, s10, g10⟩ := R'.c10
  obtain ⟨A11, k11, e11, q11, h11⟩ := R.c11
  obtain ⟨B11, j11, f11, s11, g11⟩ := R'.c11
  obtain ⟨A12, k12, e12, q12, h12⟩ := R.c12
  obtain ⟨B12, j12, f12, s12, g12⟩ := R'.c12
  obtain ⟨A13, k13, e13, q13, h13⟩ := R.c13
  obtain ⟨B13, j13, f13, s13, g13⟩ := R'.c13
  obtain ⟨A14, k14, e14, q14, h14⟩ := R.c14
  obtain ⟨B14, j14, f14, s14, g14⟩ := R'.c14
  have fl : Tryz.prog.follows .mixedOrders = true := by kernel_rfl
  refine en_ Tryz.func23 rfl rfl rfl fun a K => sr_ (bx_ K (On.nil w) rfl rfl rfl rfl rfl rfl fun a g0 W M K => bx_ K M rfl rfl rfl rfl rfl rfl fun a g1 W M K => run_ 1 K rfl fun a K => nil_ (wp_seq (sr_ ?_)))
  refine run_ 1 K rfl fun a K => ld_ K M 1 rfl rfl rfl rfl rfl rfl R.c0 rfl fun a K => run_ 1 K rfl fun a K => ld_ K M 0 rfl rfl rfl rfl rfl rfl R'.c0 rfl fun a K => run_ 1 K rfl fun a K => ?_
  replace K := fx_ (c := false) K (by simp)
  refine run_ 2 K rfl fun a K => ld_ K M 1 rfl rfl rfl rfl rfl rfl R.c1 rfl fun a K => run_ 1 K rfl fun a K => ld_ K M 0 rfl rfl rfl rfl rfl rfl R'.c1 rfl fun a K => run_ 1 K rfl fun a K => ?_
  replace K := fx_ (c := false) K (by simp)
  refine run_ 3 K rfl fun a K => ld_ K M 1 rfl rfl rfl rfl rfl rfl R.c2 rfl fun a K => run_ 1 K rfl fun a K => ld_ K M 0 rfl rfl rfl rfl rfl rfl R'.c2 rfl fun a K => run_ 1 K rfl fun a K => ?_
  replace K := fx_ (c := false) K (by simp)
  refine run_ 3 K rfl fun a K => ld_ K M 1 rfl rfl rfl rfl rfl rfl R.c3 rfl fun a K => run_ 1 K rfl fun a K => ld_ K M 0 rfl rfl rfl rfl rfl rfl R'.c3 rfl fun a K => val_ K rfl rfl rfl (run_neB rfl (K.of (x := .tmp 27) rfl) (K.of (x := .tmp 29) rfl)) fun a K => ?_
  replace K := fx_ (c := false) K (by simp)
  refine run_ 3 K rfl fun a K => ld_ K M 1 rfl rfl rfl rfl rfl rfl R.c4 rfl fun a K => run_ 1 K rfl fun a K => ld_ K M 0 rfl rfl rfl rfl rfl rfl R'.c4 rfl fun a K => run_ 1 K rfl fun a K => ?_
  replace K := fx_ (c := false) K (by simp)
  refine run_ 3 K rfl fun a K => ld_ K M 1 rfl rfl rfl rfl rfl rfl R.c5 rfl fun a K => run_ 1 K rfl fun a K => ld_ K M 0 rfl rfl rfl rfl rfl rfl R'.c5 rfl fun a K => val_ K rfl rfl rfl (run_neB rfl (K.of (x := .tmp 41) rfl) (K.of (x := .tmp 43) rfl)) fun a K => ?_
  replace K := fx_ (c := false) K (by simp)
  refine run_ 3 K rfl fun a K => ld_ K M 1 rfl rfl rfl rfl rfl rfl R.c15 rfl fun a K => run_ 1 K rfl fun a K => ld_ K M 0 rfl rfl rfl rfl rfl rfl R'.c15 rfl fun a K => run_ 1 K rfl fun a K => ?_
  replace K := fx_ (c := false) K (by simp)
  refine run_ 3 K rfl fun a K => ld_ K M 1 rfl rfl rfl rfl rfl rfl e9 rfl fun a K => run_ 2 K rfl fun a K => ld_ K M 0 rfl rfl rfl rfl rfl rfl f9 rfl fun a K => run_ 2 K rfl fun a K => ?_
  replace K := fx_ (c := false) K (by simp)
  refine run_ 1 K rfl fun a K => nil_ (cs_ K rfl rfl (wp_seq (sr_ (run_ 1 K rfl fun a K => nil_ (wp_block (wp_loop (fun a W => ∃ i : Nat, i ≤ r.dy.length ∧ Kn 134 [(5, .int .i64 (i : Int)), (3, .pointer (some ⟨g1, 0, none⟩)), (2, .pointer (some ⟨g0, 0, none⟩))] a ∧ On [(g1, .cells cs' 25 (0, 0)), (g0, .cells cs 25 (0, 0))] w W) (fun a _ => leftN 5 r.dy.length a) ⟨0, Nat.zero_le _, fg_ K ⟨rfl, rfl, rfl, trivial⟩, M⟩ ?_))))))
  clear K M
  rintro a W ⟨i, hi, K1, M⟩
  refine wp_seq (sr_ (run_ 2 K1 rfl fun a K2 => ld_ K2 M 1 rfl rfl rfl rfl rfl rfl e9 rfl fun a K2 => run_ 2 K2 rfl fun a K2 => nil_ ?_))
  by_cases hc : i < r.dy.length
  · obtain ⟨ga, ba, ea, x0⟩ := at67 h9 (Nat.lt_of_le_of_lt (Nat.zero_le _) hc)
    obtain ⟨gb, bb, eb, y0⟩ := at67 g9 (Nat.lt_of_le_of_lt (Nat.zero_le _) hc)
    have hx := x0 i hc
    have hy := y0 i hc
    clear x0 y0
    subst ea eb
    generalize r.dy[i] = x at hx hy
    have l9' : r.dy.length ≤ 4611686018427387904 := Nat.le_trans l9 (by decide)
    have ei := kp_inc hc l9'
    refine ck_ K2 rfl (kp_lt hc) (wp_seq (wp_block (dseq_ fl rfl rfl M.drew (dp_ 165 7 [0, 2, 5, 7] K2 rfl rfl (by kernel_rfl) fun a K => dld_ 167 1 K M.drew 1 rfl rfl rfl rfl rfl rfl rfl e9 rfl (by kernel_rfl) fun a K => dld_ 231 6 K M.drew 0 rfl rfl rfl rfl rfl rfl rfl f9 rfl (by kernel_rfl) fun a K => dt_ 239 3 K M.drew rfl rfl rfl rfl (by kernel_rfl) (fun W hW => run_ix23 hc l9' rfl (K.of (x := .tmp 70) rfl) (K.of (x := .tmp 71) rfl)) fun a K => dt_ 495 8 K M.drew rfl rfl rfl rfl (by kernel_rfl) (fun W hW => run_ix23 hc l9' rfl (K.of (x := .tmp 75) rfl) (K.of (x := .tmp 76) rfl)) fun a K => dt_ 511 4 K M.drew rfl rfl rfl rfl (by kernel_rfl) (fun W hW => run_ld67 rfl (K.of (x := .tmp 72) rfl) (fun j v z => cell_on hW (hx j v z))) fun a K => dt_ 1023 9 K M.drew rfl rfl rfl rfl (by kernel_rfl) (fun W hW => run_ld67 rfl (K.of (x := .tmp 77) rfl) (fun j v z => cell_on hW (hy j v z))) fun a K => dt_ 2047 10 K M.drew rfl rfl rfl rfl (by kernel_rfl) (fun W hW => run_ne67 rfl (K.of (x := .tmp 73) rfl) (K.of (x := .tmp 78) rfl)) fun a K => dend_ (by kernel_rfl) (cf_ K rfl rfl (sb_ (rg_ (run_ 3 K rfl fun a K5 => nil_ ?_))))))))
    refine ⟨⟨i + 1, hc, fg_ (ks_ (i := 5) K5 rfl (congrArg (Value.int .i64) ei)) ⟨rfl, rfl, rfl, trivial⟩, M.drew⟩, ?_⟩
    rw [leftN_ (d := 5) K5 rfl, leftN_ (d := 5) K1 rfl, ei]
    exact leftN_lt hc
  refine cf_ K2 rfl (kp_ge hc) (ex_ (thn_ (sr_ ?_)))
  replace K := fg_ (E' := [(3, .pointer (some ⟨g1, 0, none⟩)), (2, .pointer (some ⟨g0, 0, none⟩))]) K2 ⟨rfl, rfl, trivial⟩
  clear K1
  refine run_ 1 K rfl fun a K => ld_ K M 1 rfl rfl rfl rfl rfl rfl e6 rfl fun a K => run_ 1 K rfl fun a K => ld_ K M 0 rfl rfl rfl rfl rfl rfl f6 rfl fun a K => cl_ K Tryz.func26 (by kernel_rfl) rfl rfl rfl rfl rfl rfl ((ints_on (Kd.C_below h6 M.bl) q6 (Kd.C_below g6 M.bl) s6 l6).mono ?_)
  rintro _ w6 ⟨rfl, b6⟩
  replace M := M.call b6
  refine ⟨_, rfl, fun a K => run_ 1 K rfl fun a K => ?_⟩
  refine run_ 1 K rfl fun a K => ld_ K M 1 rfl rfl rfl rfl rfl rfl e7 rfl fun a K => run_ 1 K rfl fun a K => ld_ K M 0 rfl rfl rfl rfl rfl rfl f7 rfl fun a K => cl_ K Tryz.func26 (by kernel_rfl) rfl rfl rfl rfl rfl rfl ((ints_on (Kd.C_below h7 M.bl) q7 (Kd.C_below g7 M.bl) s7 l7).mono ?_)
  rintro _ w7 ⟨rfl, b7⟩
  replace M := M.call b7
  refine ⟨_, rfl, fun a K => run_ 2 K rfl fun a K => ?_⟩
  refine run_ 1 K rfl fun a K => ld_ K M 1 rfl rfl rfl rfl rfl rfl e8 rfl fun a K => run_ 1 K rfl fun a K => ld_ K M 0 rfl rfl rfl rfl rfl rfl f8 rfl fun a K => cl_ K Tryz.func26 (by kernel_rfl) rfl rfl rfl rfl rfl rfl ((ints_on (Kd.C_below h8 M.bl) q8 (Kd.C_below g8 M.bl) s8 l8).mono ?_)
  rintro _ w8 ⟨rfl, b8⟩
  replace M := M.call b8
  refine ⟨_, rfl, fun a K => run_ 2 K rfl fun a K => ?_⟩
  refine run_ 1 K rfl fun a K => ld_ K M 1 rfl rfl rfl rfl rfl rfl e10 rfl fun a K => run_ 1 K rfl fun a K => ld_ K M 0 rfl rfl rfl rfl rfl rfl f10 rfl fun a K => cl_ K Tryz.func26 (by kernel_rfl) rfl rfl rfl rfl rfl rfl ((ints_on (Kd.C_below h10 M.bl) q10 (Kd.C_below g10 M.bl) s10 l10).mono ?_)
  rintro _ w10 ⟨rfl, b10⟩
  replace M := M.call b10
  refine ⟨_, rfl, fun a K => run_ 2 K rfl fun a K => ?_⟩
  refine run_ 1 K rfl fun a K => ld_ K M 1 rfl rfl rfl rfl rfl rfl e11 rfl fun a K => run_ 1 K rfl fun a K => ld_ K M 0 rfl rfl rfl rfl rfl rfl f11 rfl fun a K => cl_ K Tryz.func26 (by kernel_rfl) rfl rfl rfl rfl rfl rfl ((ints_on (Kd.C_below h11 M.bl) q11 (Kd.C_below g11 M.bl) s11 l11).mono ?_)
  rintro _ w11 ⟨rfl, b11⟩
  replace M := M.call b11
  refine ⟨_, rfl, fun a K => run_ 2 K rfl fun a K => ?_⟩
  refine run_ 1 K rfl fun a K => ld_ K M 1 rfl rfl rfl rfl rfl rfl e12 rfl fun a K => run_ 1 K rfl fun a K => ld_ K M 0 rfl rfl rfl rfl rfl rfl f12 rfl fun a K => cl_ K Tryz.func26 (by kernel_rfl) rfl rfl rfl rfl rfl rfl ((ints_on (Kd.C_below h12 M.bl) q12 (Kd.C_below g12 M.bl) s12 l12).mono ?_)
  rintro _ w12 ⟨rfl, b12⟩
  replace M := M.call b12
  refine ⟨_, rfl, fun a K => run_ 2 K rfl fun a K => ?_⟩
  refine run_ 1 K rfl fun a K => ld_ K M 1 rfl rfl rfl rfl rfl rfl e13 rfl fun a K => run_ 1 K rfl fun a K => ld_ K M 0 rfl rfl rfl rfl rfl rfl f13 rfl fun a K => cl_ K Tryz.func26 (by kernel_rfl) rfl rfl rfl rfl rfl rfl ((ints_on (Kd.C_below h13 M.bl) q13 (Kd.C_below g13 M.bl) s13 l13).mono ?_)
  rintro _ w13 ⟨rfl, b13⟩
  replace M := M.call b13
  refine ⟨_, rfl, fun a K => run_ 2 K rfl fun a K => ?_⟩
  refine run_ 1 K rfl fun a K => ld_ K M 1 rfl rfl rfl rfl rfl rfl e14 rfl fun a K => run_ 1 K rfl fun a K => ld_ K M 0 rfl rfl rfl rfl rfl rfl f14 rfl fun a K => cl_ K Tryz.func26 (by kernel_rfl) rfl rfl rfl rfl rfl rfl ((ints_on (Kd.C_below h14 M.bl) q14 (Kd.C_below g14 M.bl) s14 l14).mono ?_)
  rintro _ w14 ⟨rfl, b14⟩
  replace M := M.call b14
  refine ⟨_, rfl, fun a K => run_ 2 K rfl fun a K => ?_⟩
  exact nil_ (ret_ rfl K rfl ⟨rfl, M.bl⟩)
end Go.Proofs.YtjjaiahfkiojlaaGreat.Pure
