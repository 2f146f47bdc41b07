/- wakes of the statements of layer 23 answers true. No condition. -/
/- RruleDays answers true. No condition. -/
import Derived.Test.YtjjaiahfkiojlaaGreatMT23w
import Derived.Test.YtjjaiahfkiojlaaGreatMOx8
import Derived.Test.YtjjaiahfkiojlaaGreatMOx104
import Derived.Test.YtjjaiahfkiojlaaGreatMOx18
namespace Go.Proofs.YtjjaiahfkiojlaaGreat.Pure
open Go.RowKit Go.Proofs.YtjjaiahfkiojlaaGreat.O Go.Proofs.YtjjaiahfkiojlaaGreatW.PrintWords Go.Proofs.YtjjaiahfkiojlaaGreatW.PrintLast
open Go.Proofs.YtjjaiahfkiojlaaGreat.Civ
set_option linter.unusedVariables false
set_option linter.unusedSimpArgs false
set_option maxRecDepth 100000
set_option maxHeartbeats 4000000
theorem kints (l : List Int) (h : l.length ≤ 1000000) : Ev (fun k => solsticekeep_Ints.f k l l) true := by
  have loop : ∀ (n : Nat) (i : Int), 0 ≤ i → i + n = l.length → Ev (fun k => solsticekeep_Ints.l0 k l l i) true := by
    intro n
    induction n with
    | zero =>
      intro i h0 h1
      refine evstep ?_
      simp only [solsticekeep_Ints.l0, if_neg (show ¬ i < (l.length : Int) by omega)]
      exact Ev.now _
    | succ n ih =>
      intro i h0 h1
      refine evstep ?_
      simp only [solsticekeep_Ints.l0, if_pos (show i < (l.length : Int) by omega), if_pos h0, if_true]
      rw [w64 (by omega) (by omega)]
      exact ih (i + 1) (by omega) (by omega)
  unfold solsticekeep_Ints.f
  simp only [if_true]
  exact loop l.length 0 (by omega) (by omega)
theorem ints_on {w : World} {A B : Option Addr} {c k : Nat} {l : List Int} (h : Kd.C (Kd.int .i64) w A l.length l) (hc : l.length ≤ c) (h' : Kd.C (Kd.int .i64) w B l.length l) (hk : l.length ≤ k) (hl : l.length ≤ 1000000) : Calls Tryz.prog 26 #[.slice A l.length c, .slice B l.length k] w (Rets w (.bool true)) := by
  obtain ⟨q, e⟩ := (kints l hl).rounds
  exact (solsticekeep_Ints.calls q A c l B k l _ w h hc h' hk e).mono fun _ _ => rets_drawn
theorem some_on {w : World} (a : Int) : Calls Tryz.prog 14 #[.int .i64 a] w fun e W' => ∃ t, InT t ∧ e = .returned (.int .i64 t) ∧ Below w.heap.size w W' := by
  obtain ⟨t, ht, h⟩ := some20 a
  obtain ⟨k, hk⟩ := h.rounds
  refine (solsticelaw20_Some.calls k a t w hk).mono ?_
  rintro e W' ⟨rfl, hb⟩
  exact ⟨t, ht, rfl, hb⟩
/-- A list in a block. -/
theorem c_list {W : World} {g : Nat} {l : List Int} {cur : Array Value} (h : W.heap[g]? = some (.cells cur 3 (0, 0))) (hc : ∀ (j : Nat) (x : Int), l[j]? = some x → cur[j]? = some (.int .i64 x)) (hl : l.length ≤ 1000000000) : Kd.C (Kd.int .i64) W (some ⟨g, 0, none⟩) l.length l := by
  refine ⟨rfl, by omega, fun _ => ⟨_, rfl, fun j p hp => ?_⟩⟩
  refine ⟨_, rfl, rfl, fun i u hu => ?_⟩
  match i, hu with
  | 0, hu =>
    have e : u = .int .i64 p := by simpa using hu.symm
    subst e
    have := (blk_cell h j).trans (hc j p hp)
    have a : ((⟨g, 0, none⟩ : Addr).add (j * 1 + 0)) = ⟨g, j, none⟩ := by
      unfold Addr.add
      split
      · rename_i q
        have : j = 0 := by omega
        subst this; rfl
      · simp
    show W.cell? ((⟨g, 0, none⟩ : Addr).add (j * 1 + 0)) = _
    rw [a]
    exact this
def nilS : Sl := ⟨.slice none 0 0, .slice none 0 0, .slice none 0 0, .slice none 0 0, .slice none 0 0, .slice none 0 0, .slice none 0 0, .slice none 0 0, .slice none 0 0⟩
theorem inl_nil (w : World) : InL w (some (.slice none 0 0)) [] := ⟨none, 0, rfl, Nat.le_refl _, rfl, by simp, fun h => absurd h (by simp)⟩
theorem ind_nil (w : World) : InD w (some (.slice none 0 0)) [] := ⟨none, 0, rfl, Nat.le_refl _, rfl, by simp, fun h => absurd h (by simp)⟩
theorem pl_rul (W : World) (fr iv ct ua : Int) (un : Bool) : Rul W (rc (pl fr iv ct un ua) nilS) (pl fr iv ct un ua) := ⟨rfl, rfl, rfl, rfl, rfl, rfl, rfl, inl_nil W, inl_nil W, inl_nil W, ind_nil W, inl_nil W, inl_nil W, inl_nil W, inl_nil W, inl_nil W, rfl⟩
theorem ind_one {W : World} {g : Nat} {x : S67} (h : W.heap[g]? = some (.cells #[.int .i64 x.f0, .int .i64 x.f1] 67 (0, 0))) : InD W (some (.slice (some ⟨g, 0, none⟩) 1 1)) [x] := by
  refine ⟨_, _, rfl, Nat.le_refl _, rfl, by simp, fun _ => ⟨_, rfl, fun j p hp => ?_⟩⟩
  have hj := (List.getElem?_eq_some_iff.1 hp).1
  obtain rfl : j = 0 := by simpa using hj
  obtain rfl : x = p := by simpa using hp
  refine ⟨_, rfl, k67_mk W x, fun i u hu => ?_⟩
  match i, hu with
  | 0, hu => exact ((blk_cell h 0).trans rfl).trans hu
  | 1, hu => exact ((blk_cell h 1).trans rfl).trans hu
theorem inl_one {W : World} {g : Nat} {x : Int} (h : W.heap[g]? = some (.cells #[.int .i64 x] 3 (0, 0))) : InL W (some (.slice (some ⟨g, 0, none⟩) 1 1)) [x] := ⟨_, _, rfl, Nat.le_refl _, c_one h⟩
/-- The slices of wakes' second rule. -/
def sB (g9 g14 : Nat) : Sl := ⟨.slice none 0 0, .slice none 0 0, .slice none 0 0, .slice (some ⟨g9, 0, none⟩) 1 1, .slice none 0 0, .slice none 0 0, .slice none 0 0, .slice none 0 0, .slice (some ⟨g14, 0, none⟩) 1 1⟩
theorem rB_rul {W : World} {g9 g14 : Nat} (h9 : W.heap[g9]? = some (.cells #[.int .i64 0, .int .i64 5] 67 (0, 0))) (h14 : W.heap[g14]? = some (.cells #[.int .i64 (-1)] 3 (0, 0))) : Rul W (rc rB (sB g9 g14)) rB := ⟨rfl, rfl, rfl, rfl, rfl, rfl, rfl, inl_nil W, inl_nil W, inl_nil W, ind_one (x := ⟨0, 5⟩) h9, inl_nil W, inl_nil W, inl_nil W, inl_nil W, inl_one h14, rfl⟩
section
variable {ρ : Operand → Value} {o : Oper} {w : World}
theorem b25a_run (fr iv ct wk : Int) (w : World) : (Instr.build 25 #[(0, .int .i64 fr), (1, .int .i64 iv), (2, .int .i64 ct), (15, .int .i64 wk)]).run Tryz.prog w = .ok (.agg #[.int .i64 fr, .int .i64 iv, .int .i64 ct, .bool false, .int .i64 0, .bool false, .slice none 0 0, .slice none 0 0, .slice none 0 0, .slice none 0 0, .slice none 0 0, .slice none 0 0, .slice none 0 0, .slice none 0 0, .slice none 0 0, .int .i64 wk]) w := by kernel_rfl
theorem run_b25a {x0 x1 x2 : Operand} {fr iv ct : Int} (ho : o.op = .build 25 #[(0, x0), (1, x1), (2, x2), (15, .const (.int .i64 1))]) (hc : ∀ v, ρ (.const v) = v) (h0 : ρ x0 = .int .i64 fr) (h1 : ρ x1 = .int .i64 iv) (h2 : ρ x2 = .int .i64 ct) : (execOp ρ o).run Tryz.prog w = .ok (.value (.agg (rc (pl fr iv ct false 0) nilS))) w := by
  unfold execOp; rw [ho]
  simp only [h0, h1, h2, hc, List.map_toArray, List.map_cons, List.map_nil]
  rw [Sem.run_bind, b25a_run]
  rfl
theorem b25c_run (g9 g14 : Nat) (w : World) : (Instr.build 25 #[(0, .int .i64 6), (1, .int .i64 1), (9, .slice (some ⟨g9, 0, none⟩) 1 1), (14, .slice (some ⟨g14, 0, none⟩) 1 1), (15, .int .i64 1)]).run Tryz.prog w = .ok (.agg (rc rB (sB g9 g14))) w := by kernel_rfl
theorem run_b25c {x9 x14 : Operand} {g9 g14 : Nat} (ho : o.op = .build 25 #[(0, .const (.int .i64 6)), (1, .const (.int .i64 1)), (9, x9), (14, x14), (15, .const (.int .i64 1))]) (hc : ∀ v, ρ (.const v) = v) (h0 : ρ x9 = .slice (some ⟨g9, 0, none⟩) 1 1) (h1 : ρ x14 = .slice (some ⟨g14, 0, none⟩) 1 1) : (execOp ρ o).run Tryz.prog w = .ok (.value (.agg (rc rB (sB g9 g14)))) w := by
  unfold execOp; rw [ho]
  simp only [h0, h1, hc, List.map_toArray, List.map_cons, List.map_nil]
  rw [Sem.run_bind, b25c_run]
  rfl
theorem b67_run (n : Int) (w : World) : (Instr.build 67 #[(1, .int .i64 n)]).run Tryz.prog w = .ok (.agg #[.int .i64 0, .int .i64 n]) w := by kernel_rfl
theorem run_b67 {n : Int} (ho : o.op = .build 67 #[(1, .const (.int .i64 n))]) (hc : ∀ v, ρ (.const v) = v) : (execOp ρ o).run Tryz.prog w = .ok (.value (.agg #[.int .i64 0, .int .i64 n])) w := by
  unfold execOp; rw [ho]
  simp only [hc, List.map_toArray, List.map_cons, List.map_nil]
  rw [Sem.run_bind, b67_run]
  rfl
theorem run_bs23 {x : Operand} {a b : Int} (ho : o.op = .buildSlice 23 1 #[(0, x)]) (hx : ρ x = .agg #[.int .i64 a, .int .i64 b]) : (execOp ρ o).run Tryz.prog w = .ok (.value (.slice (some ⟨w.heap.size, 0, none⟩) 1 1)) (w.alloc (.cells #[.int .i64 a, .int .i64 b] 67 (0, 0))) := by
  have hu67 := Tryz.underlying67
  have hu23 := Tryz.underlying23
  unfold execOp; rw [ho]
  first | (go_simp; done) | (simp only [hx, List.map_toArray, List.map_cons, List.map_nil]; go_simp; done) | (simp only [hx, List.map_toArray, List.map_cons, List.map_nil]; go_simp; rfl)
theorem bs3_run (a b c : Int) (w : World) : (Instr.buildSlice 22 3 #[(0, .int .i64 a), (1, .int .i64 b), (2, .int .i64 c)]).run Tryz.prog w = .ok (.slice (some ⟨w.heap.size, 0, none⟩) 3 3) (w.alloc (.cells #[.int .i64 a, .int .i64 b, .int .i64 c] 3 (0, 0))) := by kernel_rfl
theorem run_bs3 {a b c : Int} (ho : o.op = .buildSlice 22 3 #[(0, .const (.int .i64 a)), (1, .const (.int .i64 b)), (2, .const (.int .i64 c))]) (hc : ∀ v, ρ (.const v) = v) : (execOp ρ o).run Tryz.prog w = .ok (.value (.slice (some ⟨w.heap.size, 0, none⟩) 3 3)) (w.alloc (.cells #[.int .i64 a, .int .i64 b, .int .i64 c] 3 (0, 0))) := by
  unfold execOp; rw [ho]
  simp only [hc, List.map_toArray, List.map_cons, List.map_nil]
  rw [Sem.run_bind, bs3_run]
  rfl
end
section
variable {N : Nat} {E : Env} {a : Act} {ops : Array Oper} {rest : List Oper} {Q : Exit → Act → World → Prop} {w w0 : World} {o : Oper} {d : Nat} {L : List (Nat × Obj)}
/-- A list of one number, new. -/
theorem bsi_ (K : Kn N E a) (M : On L w0 w) {x : Operand} {m : Int} (hd : o.dst = some d) (hb : Nat.blt d N = true) (hw : wantE ops E o = some true) (hop : o.op = .buildSlice 22 1 #[(0, x)]) (hx : evo E x = some (.int .i64 m))
    (h : ∀ a' g W, w0.heap.size ≤ g → Below w.heap.size w W → On ((g, .cells #[.int .i64 m] 3 (0, 0)) :: L) w0 W → Kn N ((d, .slice (some ⟨g, 0, none⟩) 1 1) :: E) a' → wpList Tryz.prog ops Q rest a' W) : wpList Tryz.prog ops Q (o :: rest) a w :=
  val_ K hd hb hw (run_bs22 hop (K.of hx)) (fun a' K' => h a' _ _ M.bl.size (below_alloc (Below.refl _ _) _) (M.new _) K')
/-- A list of one weekday, new. -/
theorem bsd_ (K : Kn N E a) (M : On L w0 w) {x : Operand} {m n : Int} (hd : o.dst = some d) (hb : Nat.blt d N = true) (hw : wantE ops E o = some true) (hop : o.op = .buildSlice 23 1 #[(0, x)]) (hx : evo E x = some (.agg #[.int .i64 m, .int .i64 n]))
    (h : ∀ a' g W, w0.heap.size ≤ g → Below w.heap.size w W → On ((g, .cells #[.int .i64 m, .int .i64 n] 67 (0, 0)) :: L) w0 W → Kn N ((d, .slice (some ⟨g, 0, none⟩) 1 1) :: E) a' → wpList Tryz.prog ops Q rest a' W) : wpList Tryz.prog ops Q (o :: rest) a w :=
  val_ K hd hb hw (run_bs23 hop (K.of hx)) (fun a' K' => h a' _ _ M.bl.size (below_alloc (Below.refl _ _) _) (M.new _) K')
theorem bs3_ (K : Kn N E a) (M : On L w0 w) {x y z : Int} (hd : o.dst = some d) (hb : Nat.blt d N = true) (hw : wantE ops E o = some true) (hop : o.op = .buildSlice 22 3 #[(0, .const (.int .i64 x)), (1, .const (.int .i64 y)), (2, .const (.int .i64 z))])
    (h : ∀ a' g W, w0.heap.size ≤ g → Below w.heap.size w W → On ((g, .cells #[.int .i64 x, .int .i64 y, .int .i64 z] 3 (0, 0)) :: L) w0 W → Kn N ((d, .slice (some ⟨g, 0, none⟩) 3 3) :: E) a' → wpList Tryz.prog ops Q rest a' W) : wpList Tryz.prog ops Q (o :: rest) a w :=
  val_ K hd hb hw (run_bs3 hop (fun _ => rfl)) (fun a' K' => h a' _ _ M.bl.size (below_alloc (Below.refl _ _) _) (M.new _) K')
end
theorem wakes_on {w : World} : Calls Tryz.prog 19 #[] w (Rets w (.bool true)) := by
  refine en_ Tryz.func19 rfl rfl rfl fun a K => sr_ (run_ 1 K rfl fun a K => nil_ (sr_ (val_ K rfl rfl rfl (run_b25a rfl (fun _ => rfl) rfl rfl rfl) fun a K => cl_ K Tryz.func18 (by kernel_rfl) rfl rfl rfl rfl rfl rfl ((Times_on (pl_rul w 4 1 3 0 false) (pl_right (by decide) (by decide) (by decide) (by decide) (by decide) (by decide) (Or.inl ⟨rfl, rfl⟩)) pl_few (by decide)).mono ?_))))
  rintro _ w1 ⟨v1, rfl, R1, b1⟩
  rw [wake_a] at R1 ⊢
  have M := On.nil w1
  obtain ⟨A1, c1, e1, h1, C1⟩ := Kd.R_reads R1
  subst e1
  clear R1
  refine ⟨_, rfl, fun a K => run_ 7 K rfl fun a K => nil_ (sr_ (val_ K rfl rfl rfl (run_b67 rfl (fun _ => rfl)) fun a K => bsd_ K M rfl rfl rfl rfl rfl fun a g9 W9 G9 B9 M K => bsi_ K M rfl rfl rfl rfl rfl fun a g14 W14 G14 B14 M K => val_ K rfl rfl rfl (run_b25c (g9 := g9) (g14 := g14) rfl (fun _ => rfl) (K.of (x := .tmp 21) rfl) (K.of (x := .tmp 22) rfl)) fun a K => nwG_ K M rfl rfl rfl rfl rfl rfl rfl (fun _ => rfl) rfl rfl rfl fun a g4 W4 G4 M K => nil_ ?_))⟩
  have RB : ∀ {L : List (Nat × Obj)} {V : World}, On (L ++ [(g4, .cells (rc rB (sB g9 g14)) 25 (0, 0)), (g14, .cells #[.int .i64 (-1)] 3 (0, 0)), (g9, .cells #[.int .i64 0, .int .i64 5] 67 (0, 0))]) w1 V → Rul V (rc rB (sB g9 g14)) rB := fun M => rB_rul (on_mem M (p := (g9, _)) (by simp)) (on_mem M (p := (g14, _)) (by simp))
  refine sr_ (lda_ K M 0 rfl rfl rfl rfl rfl rfl rfl rfl fun a K => cl_ K Tryz.func24 (by kernel_rfl) rfl rfl rfl rfl rfl rfl ((of_on (RB (L := []) M) rB_right rB_few (show InT 0 by decide)).mono ?_))
  rintro _ w5 ⟨v5, rfl, R5, b5⟩
  rw [wake_b] at R5 ⊢
  replace M := M.call b5
  obtain ⟨A5, c5, e5, h5, C5⟩ := Kd.R_reads R5
  subst e5
  clear R5
  refine ⟨_, rfl, fun a K => run_ 5 K rfl fun a K => nil_ (sr_ (lda_ K M 0 rfl rfl rfl rfl rfl rfl rfl rfl fun a K => cl_ K Tryz.func22 (by kernel_rfl) rfl rfl rfl rfl rfl rfl ((Last_on (RB (L := []) M) rB_right rB_few (show InT 0 by decide)).mono ?_)))⟩
  rintro _ w6 ⟨rfl, b6⟩
  rw [wake_c]
  replace M := M.call b6
  replace C5 := Kd.C_below C5 b6
  refine ⟨_, rfl, fun a K => run_ 9 K rfl fun a K => nil_ (sr_ (lda_ K M 0 rfl rfl rfl rfl rfl rfl rfl rfl fun a K => cl_ K Tryz.func18 (by kernel_rfl) rfl rfl rfl rfl rfl rfl ((Times_on (RB (L := []) M) rB_right rB_few (show InT 0 by decide)).mono ?_)))⟩
  rintro _ w7 ⟨v7, rfl, R7, b7⟩
  rw [wake_d]
  replace M := M.call b7
  replace C5 := Kd.C_below C5 b7
  clear R7 RB
  refine ⟨_, rfl, fun a K => run_ 7 K rfl fun a K => nil_ (sr_ (run_ 3 K rfl fun a K => run_ 1 (fx_ (c := true) K rfl) rfl fun a K => bs3_ K M rfl rfl rfl rfl fun a g W8 G8 B8 M8 K => ?_))⟩
  replace C5 := Kd.C_below C5 B8
  refine cl_ K Tryz.func26 (by kernel_rfl) rfl rfl rfl rfl rfl rfl ((ints_on (l := [0, 86400, 172800]) (Kd.C_below C1 M8.bl) h1 (c_list (l := [0, 86400, 172800]) (M8.me 0 _ _ rfl) (fun j x hx => ?_) (by decide)) (by decide) (by decide)).mono ?_)
  · match j, hx with
    | 0, hx => simp at hx; subst hx; rfl
    | 1, hx => simp at hx; subst hx; rfl
    | 2, hx => simp at hx; subst hx; rfl
  rintro _ w9 ⟨rfl, b9⟩
  replace M := M8.call b9
  replace C5 := Kd.C_below C5 b9
  refine ⟨_, rfl, fun a K => run_ 2 K rfl fun a K => run_ 4 (fx_ (c := true) K rfl) rfl fun a K => run_ 4 (fx_ (c := true) K rfl) rfl fun a K => run_ 1 (fx_ (c := true) K rfl) rfl fun a K => bsi_ K M rfl rfl rfl rfl rfl fun a g' W10 G10 B10 M10 K => ?_⟩
  replace C5 := Kd.C_below C5 B10
  refine cl_ K Tryz.func26 (by kernel_rfl) rfl rfl rfl rfl rfl rfl ((ints_on (l := [2505600]) C5 h5 (c_one (M10.me 0 _ _ rfl)) (by decide) (by decide)).mono ?_)
  rintro _ w11 ⟨rfl, b11⟩
  replace M := M10.call b11
  exact ⟨_, rfl, fun a K => run_ 2 K rfl fun a K => run_ 4 (fx_ (c := true) K rfl) rfl fun a K => run_ 3 (fx_ (c := true) K rfl) rfl fun a K => run_ 4 (fx_ (c := true) K rfl) rfl fun a K => run_ 4 (fx_ (c := true) K rfl) rfl fun a K => nil_ (ret_ rfl K rfl ⟨rfl, below_step b1 M.bl⟩)⟩
end Go.Proofs.YtjjaiahfkiojlaaGreat.Pure

namespace Go.Proofs.YtjjaiahfkiojlaaGreat.Pure
open Go.RowKit Go.Proofs.YtjjaiahfkiojlaaGreat.O Go.Proofs.YtjjaiahfkiojlaaGreatW.PrintWords Go.Proofs.YtjjaiahfkiojlaaGreatW.PrintLast
open Go.Proofs.YtjjaiahfkiojlaaGreat.Civ
set_option linter.unusedVariables false
set_option linter.unusedSimpArgs false
set_option maxRecDepth 100000
set_option maxHeartbeats 4000000
theorem tmod_st {t : Int} (h : InT t) : -62135596800 ≤ Int.tmod t 200000000000 ∧ Int.tmod t 200000000000 < 200000000000 := by
  unfold InT at h
  rw [tmod_if]
  split <;> omega
section
variable {ρ : Operand → Value} {o : Oper} {w : World}
theorem bs6_run (w : World) : (Instr.buildSlice 22 6 #[(0, .int .i64 0), (1, .int .i64 1), (2, .int .i64 60), (3, .int .i64 3600), (4, .int .i64 86400), (5, .int .i64 604800)]).run Tryz.prog w = .ok (.slice (some ⟨w.heap.size, 0, none⟩) 6 6) (w.alloc (.cells #[.int .i64 0, .int .i64 1, .int .i64 60, .int .i64 3600, .int .i64 86400, .int .i64 604800] 3 (0, 0))) := by kernel_rfl
theorem run_bs6 (ho : o.op = .buildSlice 22 6 #[(0, .const (.int .i64 0)), (1, .const (.int .i64 1)), (2, .const (.int .i64 60)), (3, .const (.int .i64 3600)), (4, .const (.int .i64 86400)), (5, .const (.int .i64 604800))]) (hc : ∀ v, ρ (.const v) = v) : (execOp ρ o).run Tryz.prog w = .ok (.value (.slice (some ⟨w.heap.size, 0, none⟩) 6 6)) (w.alloc (.cells #[.int .i64 0, .int .i64 1, .int .i64 60, .int .i64 3600, .int .i64 86400, .int .i64 604800] 3 (0, 0))) := by
  unfold execOp; rw [ho]
  simp only [hc, List.map_toArray, List.map_cons, List.map_nil]
  rw [Sem.run_bind, bs6_run]
  rfl
end
theorem cell_mul {w : World} {g i : Nat} {cs : Array Value} (h : w.heap[g]? = some (.cells cs 3 (0, 0))) : w.cell? ((⟨g, 0, none⟩ : Addr).add (i * 1)) = cs[i]? := by
  by_cases q : i = 0
  · subst q; exact blk_cell h 0
  · have : (⟨g, 0, none⟩ : Addr).add (i * 1) = ⟨g, i, none⟩ := by unfold Addr.add; simp [q]
    rw [this]
    exact blk_cell h i
theorem stp_cell {fi : Nat} (h1 : 1 ≤ (fi : Int)) (h2 : (fi : Int) ≤ 5) : (#[.int .i64 0, .int .i64 1, .int .i64 60, .int .i64 3600, .int .i64 86400, .int .i64 604800] : Array Value)[fi]? = some (.int .i64 (stp fi)) := by
  have : fi = 1 ∨ fi = 2 ∨ fi = 3 ∨ fi = 4 ∨ fi = 5 := by omega
  rcases this with rfl | rfl | rfl | rfl | rfl <;> rfl
theorem stp_bd (fr : Int) : 1 ≤ stp fr ∧ stp fr ≤ 604800 := by
  unfold stp
  repeat' split
  all_goals omega
theorem days_up {i m ev : Int} (fr : Int) (h0 : 0 ≤ i) (h1 : i ≤ m) (h2 : m ≤ 30) (h3 : 1 ≤ ev) (h4 : ev ≤ 50) : (0 ≤ i * ev ∧ i * ev ≤ 1500) ∧ 0 ≤ i * ev * stp fr ∧ i * ev * stp fr ≤ 907200000 := by
  have a := stp_bd fr
  have b : 0 ≤ i * ev := Int.mul_nonneg h0 (by omega)
  have c : i * ev ≤ 30 * 50 := Int.le_trans (Int.mul_le_mul_of_nonneg_right (show i ≤ 30 by omega) (by omega)) (Int.mul_le_mul_of_nonneg_left h4 (by omega))
  refine ⟨⟨b, c⟩, Int.mul_nonneg b (by omega), ?_⟩
  have d : i * ev * stp fr ≤ 1500 * stp fr := Int.mul_le_mul_of_nonneg_right c (by omega)
  have e : 1500 * stp fr ≤ 1500 * 604800 := Int.mul_le_mul_of_nonneg_left a.2 (by omega)
  omega
theorem days_w {s i m ev : Int} (fr : Int) (hs : -62135596800 ≤ s) (hs' : s < 200000000000) (h0 : 0 ≤ i) (h1 : i ≤ m) (h2 : m ≤ 30) (h3 : 1 ≤ ev) (h4 : ev ≤ 50) : wrap64 (s + wrap64 (wrap64 (i * ev) * stp fr)) = s + i * ev * stp fr := by
  have a := days_up fr h0 h1 h2 h3 h4
  rw [w64 (x := i * ev) (by omega) (by omega), w64 (x := i * ev * stp fr) (by omega) (by omega), w64 (by omega) (by omega)]
theorem neq_f {a b : Int} (h : a = b) : (!decide (a = b)) = false := by rw [decide_eq_true h]; rfl
theorem RruleDays_on {w : World} (a0 a1 a2 a3 : Int) : Calls Tryz.prog 8 #[.int .i64 a0, .int .i64 a1, .int .i64 a2, .int .i64 a3] w (Rets w (.bool true)) := by
  obtain ⟨fr, f1, f2, ef⟩ := um1 a1 (n := 5) (by decide) (by decide)
  obtain ⟨ev, v1, v2, ee⟩ := um1 a2 (n := 50) (by decide) (by decide)
  obtain ⟨m, m1, m2, em⟩ := um1 a3 (n := 30) (by decide) (by decide)
  obtain ⟨fi, rfl⟩ : ∃ fi : Nat, fr = (fi : Int) := ⟨fr.toNat, by omega⟩
  obtain ⟨mi, rfl⟩ : ∃ mi : Nat, m = (mi : Int) := ⟨m.toNat, by omega⟩
  refine en_ Tryz.func8 rfl rfl rfl fun a K => sr_ (run_ 1 K rfl fun a K => nil_ (sr_ (run_ 1 K rfl fun a K => cl_ K Tryz.func14 (by kernel_rfl) rfl rfl rfl rfl rfl rfl ((some_on a0).mono ?_))))
  rintro _ w1 ⟨t, ht, rfl, b1⟩
  have M := (On.nil w).call b1
  obtain ⟨s1, s2⟩ := tmod_st ht
  refine ⟨_, rfl, fun a K => run_ 2 K rfl fun a K => nil_ (sr_ (run_ 18 K rfl fun a K => nil_ ?_))⟩
  replace K := fg_ (E' := [(0, .int .i64 (Int.tmod t 200000000000)), (1, .int .i64 (fi : Int)), (2, .int .i64 ev), (3, .int .i64 (mi : Int))]) (ks_ (i := 1) (u := .int .i64 (fi : Int)) (ks_ (i := 2) (u := .int .i64 ev) (ks_ (i := 3) (u := .int .i64 (mi : Int)) K rfl (congrArg (Value.int .i64) em)) rfl (congrArg (Value.int .i64) ee)) rfl (congrArg (Value.int .i64) ef)) ⟨rfl, rfl, rfl, rfl, trivial⟩
  clear ef ee em
  generalize Int.tmod t 200000000000 = s at s1 s2 K
  have tc := times_count (F := 3000) f1 f2 v1 (show ev ≤ 1000 by omega) (show 0 < mi by omega) (show mi ≤ 1000 by omega) s1 (by have := days_up (i := (mi : Int)) (fi : Int) (by omega) (Int.le_refl _) m2 v1 v2; omega) (by omega) (by decide)
  have hR : Right (pl (fi : Int) ev (mi : Int) false 0) := pl_right f1 (by omega) v1 (by omega) (by omega) (by omega) (Or.inl ⟨rfl, rfl⟩)
  have hI : InT s := by unfold InT; omega
  have hw := fun (i : Nat) (hi : i < mi) => days_w (s := s) (i := (i : Int)) (m := (mi : Int)) (ev := ev) (fi : Int) s1 s2 (by omega) (by omega) m2 v1 v2
  have hf6 : fi < 6 := by omega
  have hm30 : mi ≤ 30 := by omega
  have hcell := stp_cell f1 f2
  have mp : 0 < mi := by omega
  clear s1 s2 v1 v2 m1 m2 f1 f2
  refine sr_ (val_ K rfl rfl rfl (run_bs6 rfl (fun _ => rfl)) fun a K => run_ 1 K rfl fun a K => ix_ K hf6 (by decide) rfl rfl rfl rfl rfl rfl fun a K => el_ K ((cell_mul (blk_new w1 _)).trans hcell) rfl rfl rfl rfl rfl fun a K => run_ 1 K rfl fun a K => nil_ ?_)
  replace M := M.alloc (.cells #[.int .i64 0, .int .i64 1, .int .i64 60, .int .i64 3600, .int .i64 86400, .int .i64 604800] 3 (0, 0))
  refine sr_ (run_ 3 K rfl fun a K => val_ K rfl rfl rfl (run_b25a rfl (fun _ => rfl) (K.of (x := .tmp 37) rfl) (K.of (x := .tmp 38) rfl) (K.of (x := .tmp 39) rfl)) fun a K => run_ 2 K rfl fun a K => cl_ K Tryz.func18 (by kernel_rfl) rfl rfl rfl rfl rfl rfl ((Times_on (pl_rul _ _ _ _ _ _) hR pl_few hI).mono ?_))
  rintro _ w3 ⟨v3, rfl, R3, b3⟩
  rw [tc] at R3 ⊢
  replace M := M.call b3
  clear tc hR hI
  have hlen : ((List.range mi).map fun (i : Nat) => s + (i : Int) * ev * stp (fi : Int)).length = mi := by simp
  have hget : ∀ i (hi : i < mi), ((List.range mi).map fun (i : Nat) => s + (i : Int) * ev * stp (fi : Int))[i]? = some (s + (i : Int) * ev * stp (fi : Int)) := fun i hi => by simp [hi]
  generalize ((List.range mi).map fun (i : Nat) => s + (i : Int) * ev * stp (fi : Int)) = X at R3 hlen hget
  obtain ⟨A3, c3, e3, h3, C3⟩ := Kd.R_reads R3
  subst e3
  clear R3
  obtain ⟨ad, eA, hat⟩ := C_at C3 (by rw [hlen]; exact mp)
  subst eA
  refine ⟨_, rfl, fun a K => run_ 7 K rfl fun a K => nil_ (wp_seq (sr_ (run_ 3 K rfl fun a K => run_ 5 (fx_ (c := false) K rfl) rfl fun a K => nil_ ?_)))⟩
  refine cs_ K rfl (neq_f (by rw [hlen])) ?_
  refine wp_seq (sr_ (run_ 1 K rfl fun a K => nil_ ?_))
  refine wp_block (wp_loop (fun a W => ∃ (i : Nat), i ≤ mi ∧ Kn 73 [(13, .int .i64 (i : Int)), (10, .slice (some ad) X.length c3), (9, .int .i64 (stp (fi : Int))), (0, .int .i64 s), (2, .int .i64 ev), (3, .int .i64 (mi : Int))] a ∧ On [] w W ∧ (∀ (j : Nat) (x : Int), X[j]? = some x → W.cell? (ad.add (j * 1)) = some (.int .i64 x))) (fun a _ => leftN 13 mi a) ⟨0, Nat.zero_le _, fg_ K ⟨rfl, rfl, rfl, rfl, rfl, rfl, trivial⟩, M, hat⟩ ?_)
  clear K M hat C3
  rintro a W ⟨i, hi, K, M, hat⟩
  refine wp_seq (sr_ (run_ 3 K rfl fun a2 K2 => nil_ ?_))
  by_cases hc : i < mi
  case neg =>
    refine cf_ K2 rfl (kp_ge hc) (ex_ (thn_ (sr_ (cl_ K2 Tryz.func19 (by kernel_rfl) rfl rfl rfl rfl rfl rfl (wakes_on.mono ?_)))))
    rintro _ w5 ⟨rfl, b5⟩
    exact ⟨_, rfl, fun a K => run_ 1 K rfl fun a K => nil_ (ret_ rfl K rfl ⟨rfl, (M.call b5).bl⟩)⟩
  have ei := kp_inc hc (Nat.le_trans hm30 (by decide))
  refine ck_ K2 rfl (kp_lt hc) (wp_seq (bjn_ (fun a' W' => W' = W ∧ Kn 73 [(13, .int .i64 (i : Int)), (10, .slice (some ad) X.length c3), (9, .int .i64 (stp (fi : Int))), (0, .int .i64 s), (2, .int .i64 ev), (3, .int .i64 (mi : Int))] a') ?_ ?_))
  · refine sr_ (run_ 2 K2 rfl fun a K => ix_ K (show i < X.length by rw [hlen]; exact hc) (by rw [hlen]; exact Nat.le_trans hm30 (by decide)) rfl rfl rfl rfl rfl rfl fun a K => el_ K (hat i _ (hget i hc)) rfl rfl rfl rfl rfl fun a K => run_ 8 K rfl fun a K => nil_ ?_)
    exact cf_ K rfl (neq_f (hw i hc).symm) (wp_skip ⟨rfl, fg_ K ⟨rfl, rfl, rfl, rfl, rfl, rfl, trivial⟩⟩)
  rintro a' _ ⟨rfl, K'⟩
  refine rg_ (run_ 3 K' rfl fun a5 K5 => nl_ ⟨⟨i + 1, hc, fg_ (ks_ (i := 13) K5 rfl (congrArg (Value.int .i64) ei)) ⟨rfl, rfl, rfl, rfl, rfl, rfl, trivial⟩, M, hat⟩, ?_⟩)
  rw [leftN_ (d := 13) K5 rfl, leftN_ (d := 13) K rfl, ei]
  exact leftN_lt hc
end Go.Proofs.YtjjaiahfkiojlaaGreat.Pure
