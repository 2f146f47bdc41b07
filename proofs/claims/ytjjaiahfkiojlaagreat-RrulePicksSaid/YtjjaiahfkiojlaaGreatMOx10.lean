/- wakes of the statements of layer 23 answers true. No condition. -/
-- What some functions of the program compute: a text of this claim's own (lines first written by the kit's tool, some proved anew).
import Derived.Test.YtjjaiahfkiojlaaGreatMT23w
import Derived.Test.YtjjaiahfkiojlaaGreatMOx8
import Derived.Test.YtjjaiahfkiojlaaGreatMOx104
import Derived.Test.YtjjaiahfkiojlaaGreatMOx0
namespace Go.Proofs.YtjjaiahfkiojlaaGreat.Pure
open Go.RowKit Go.Proofs.YtjjaiahfkiojlaaGreat.O Go.Proofs.YtjjaiahfkiojlaaGreatW.PrintWords Go.Proofs.YtjjaiahfkiojlaaGreatW.PrintLast
open Go.Proofs.YtjjaiahfkiojlaaGreat.Civ
set_option linter.unusedVariables false
set_option linter.unusedSimpArgs false
set_option maxRecDepth 100000
set_option maxHeartbeats 4000000
theorem kints (l : List Int) (h : l.length ≤ 1000000) : Ev (fun k => solsticekeep_Ints.f k l l) true := by
  have loop : ∀ (n : Nat) (i : Int), 0 ≤ i → i + n = l.length → Ev (fun k => solsticekeep_Ints.l0 k l l i) true := by
    intro n
    induction n with
    | zero =>
      intro i h0 h1
      refine evstep ?_
      simp only [solsticekeep_Ints.l0, if_neg (show ¬ i < (l.length : Int) by omega)]
      exact Ev.now _
    | succ n ih =>
      intro i h0 h1
      refine evstep ?_
      simp only [solsticekeep_Ints.l0, if_pos (show i < (l.length : Int) by omega), if_pos h0, if_true]
      rw [w64 (by omega) (by omega)]
      exact ih (i + 1) (by omega) (by omega)
  unfold solsticekeep_Ints.f
  simp only [if_true]
  exact loop l.length 0 (by omega) (by omega)
theorem ints_on {w : World} {A B : Option Addr} {c k : Nat} {l : List Int} (h : Kd.C (Kd.int .i64) w A l.length l) (hc : l.length ≤ c) (h' : Kd.C (Kd.int .i64) w B l.length l) (hk : l.length ≤ k) (hl : l.length ≤ 1000000) : Calls Tryz.prog 26 #[.slice A l.length c, .slice B l.length k] w (Rets w (.bool true)) := by
  obtain ⟨q, e⟩ := (kints l hl).rounds
  exact (solsticekeep_Ints.calls q A c l B k l _ w h hc h' hk e).mono fun _ _ => rets_drawn
theorem some_on {w : World} (a : Int) : Calls Tryz.prog 14 #[.int .i64 a] w fun e W' => ∃ t, InT t ∧ e = .returned (.int .i64 t) ∧ Below w.heap.size w W' := by
  obtain ⟨t, ht, h⟩ := some20 a
  obtain ⟨k, hk⟩ := h.rounds
  refine (solsticelaw20_Some.calls k a t w hk).mono ?_
  rintro e W' ⟨rfl, hb⟩
  exact ⟨t, ht, rfl, hb⟩
/-- A list in a block. -/
theorem c_list {W : World} {g : Nat} {l : List Int} {cur : Array Value} (h : W.heap[g]? = some (.cells cur 3 (0, 0))) (hc : ∀ (j : Nat) (x : Int), l[j]? = some x → cur[j]? = some (.int .i64 x)) (hl : l.length ≤ 1000000000) : Kd.C (Kd.int .i64) W (some ⟨g, 0, none⟩) l.length l := by
  refine ⟨rfl, by omega, fun _ => ⟨_, rfl, fun j p hp => ?_⟩⟩
  refine ⟨_, rfl, rfl, fun i u hu => ?_⟩
  match i, hu with
  | 0, hu =>
    have e : u = .int .i64 p := by simpa using hu.symm
    subst e
    have := (blk_cell h j).trans (hc j p hp)
    have a : ((⟨g, 0, none⟩ : Addr).add (j * 1 + 0)) = ⟨g, j, none⟩ := by
      unfold Addr.add
      split
      · rename_i q
        have : j = 0 := by omega
        subst this; rfl
      · simp
    show W.cell? ((⟨g, 0, none⟩ : Addr).add (j * 1 + 0)) = _
    rw [a]
    exact this
def nilS : Sl := ⟨.slice none 0 0, .slice none 0 0, .slice none 0 0, .slice none 0 0, .slice none 0 0, .slice none 0 0, .slice none 0 0, .slice none 0 0, .slice none 0 0⟩
theorem inl_nil (w : World) : InL w (some (.slice none 0 0)) [] := ⟨none, 0, rfl, Nat.le_refl _, rfl, by simp, fun h => absurd h (by simp)⟩
theorem ind_nil (w : World) : InD w (some (.slice none 0 0)) [] := ⟨none, 0, rfl, Nat.le_refl _, rfl, by simp, fun h => absurd h (by simp)⟩
theorem pl_rul (W : World) (fr iv ct ua : Int) (un : Bool) : Rul W (rc (pl fr iv ct un ua) nilS) (pl fr iv ct un ua) := ⟨rfl, rfl, rfl, rfl, rfl, rfl, rfl, inl_nil W, inl_nil W, inl_nil W, ind_nil W, inl_nil W, inl_nil W, inl_nil W, inl_nil W, inl_nil W, rfl⟩
theorem ind_one {W : World} {g : Nat} {x : S67} (h : W.heap[g]? = some (.cells #[.int .i64 x.f0, .int .i64 x.f1] 67 (0, 0))) : InD W (some (.slice (some ⟨g, 0, none⟩) 1 1)) [x] := by
  refine ⟨_, _, rfl, Nat.le_refl _, rfl, by simp, fun _ => ⟨_, rfl, fun j p hp => ?_⟩⟩
  have hj := (List.getElem?_eq_some_iff.1 hp).1
  obtain rfl : j = 0 := by simpa using hj
  obtain rfl : x = p := by simpa using hp
  refine ⟨_, rfl, k67_mk W x, fun i u hu => ?_⟩
  match i, hu with
  | 0, hu => exact ((blk_cell h 0).trans rfl).trans hu
  | 1, hu => exact ((blk_cell h 1).trans rfl).trans hu
theorem inl_one {W : World} {g : Nat} {x : Int} (h : W.heap[g]? = some (.cells #[.int .i64 x] 3 (0, 0))) : InL W (some (.slice (some ⟨g, 0, none⟩) 1 1)) [x] := ⟨_, _, rfl, Nat.le_refl _, c_one h⟩
/-- The slices of wakes' second rule. -/
def sB (g9 g14 : Nat) : Sl := ⟨.slice none 0 0, .slice none 0 0, .slice none 0 0, .slice (some ⟨g9, 0, none⟩) 1 1, .slice none 0 0, .slice none 0 0, .slice none 0 0, .slice none 0 0, .slice (some ⟨g14, 0, none⟩) 1 1⟩
theorem rB_rul {W : World} {g9 g14 : Nat} (h9 : W.heap[g9]? = some (.cells #[.int .i64 0, .int .i64 5] 67 (0, 0))) (h14 : W.heap[g14]? = some (.cells #[.int .i64 (-1)] 3 (0, 0))) : Rul W (rc rB (sB g9 g14)) rB := ⟨rfl, rfl, rfl, rfl, rfl, rfl, rfl, inl_nil W, inl_nil W, inl_nil W, ind_one (x := ⟨0, 5⟩) h9, inl_nil W, inl_nil W, inl_nil W, inl_nil W, inl_one h14, rfl⟩
section
variable {ρ : Operand → Value} {o : Oper} {w : World}
theorem b25a_run (fr iv ct wk : Int) (w : World) : (Instr.build 25 #[(0, .int .i64 fr), (1, .int .i64 iv), (2, .int .i64 ct), (15, .int .i64 wk)]).run Tryz.prog w = .ok (.agg #[.int .i64 fr, .int .i64 iv, .int .i64 ct, .bool false, .int .i64 0, .bool false, .slice none 0 0, .slice none 0 0, .slice none 0 0, .slice none 0 0, .slice none 0 0, .slice none 0 0, .slice none 0 0, .slice none 0 0, .slice none 0 0, .int .i64 wk]) w := by kernel_rfl
theorem run_b25a {x0 x1 x2 : Operand} {fr iv ct : Int} (ho : o.op = .build 25 #[(0, x0), (1, x1), (2, x2), (15, .const (.int .i64 1))]) (hc : ∀ v, ρ (.const v) = v) (h0 : ρ x0 = .int .i64 fr) (h1 : ρ x1 = .int .i64 iv) (h2 : ρ x2 = .int .i64 ct) : (execOp ρ o).run Tryz.prog w = .ok (.value (.agg (rc (pl fr iv ct false 0) nilS))) w := by
  unfold execOp; rw [ho]
  simp only [h0, h1, h2, hc, List.map_toArray, List.map_cons, List.map_nil]
  rw [Sem.run_bind, b25a_run]
  rfl
theorem b25c_run (g9 g14 : Nat) (w : World) : (Instr.build 25 #[(0, .int .i64 6), (1, .int .i64 1), (9, .slice (some ⟨g9, 0, none⟩) 1 1), (14, .slice (some ⟨g14, 0, none⟩) 1 1), (15, .int .i64 1)]).run Tryz.prog w = .ok (.agg (rc rB (sB g9 g14))) w := by kernel_rfl
theorem run_b25c {x9 x14 : Operand} {g9 g14 : Nat} (ho : o.op = .build 25 #[(0, .const (.int .i64 6)), (1, .const (.int .i64 1)), (9, x9), (14, x14), (15, .const (.int .i64 1))]) (hc : ∀ v, ρ (.const v) = v) (h0 : ρ x9 = .slice (some ⟨g9, 0, none⟩) 1 1) (h1 : ρ x14 = .slice (some ⟨g14, 0, none⟩) 1 1) : (execOp ρ o).run Tryz.prog w = .ok (.value (.agg (rc rB (sB g9 g14)))) w := by
  unfold execOp; rw [ho]
  simp only [h0, h1, hc, List.map_toArray, List.map_cons, List.map_nil]
  rw [Sem.run_bind, b25c_run]
  rfl
theorem b67_run (n : Int) (w : World) : (Instr.build 67 #[(1, .int .i64 n)]).run Tryz.prog w = .ok (.agg #[.int .i64 0, .int .i64 n]) w := by kernel_rfl
theorem run_b67 {n : Int} (ho : o.op = .build 67 #[(1, .const (.int .i64 n))]) (hc : ∀ v, ρ (.const v) = v) : (execOp ρ o).run Tryz.prog w = .ok (.value (.agg #[.int .i64 0, .int .i64 n])) w := by
  unfold execOp; rw [ho]
  simp only [hc, List.map_toArray, List.map_cons, List.map_nil]
  rw [Sem.run_bind, b67_run]
  rfl
theorem run_bs23 {x : Operand} {a b : Int} (ho : o.op = .buildSlice 23 1 #[(0, x)]) (hx : ρ x = .agg #[.int .i64 a, .int .i64 b]) : (execOp ρ o).run Tryz.prog w = .ok (.value (.slice (some ⟨w.heap.size, 0, none⟩) 1 1)) (w.alloc (.cells #[.int .i64 a, .int .i64 b] 67 (0, 0))) := by
  have hu67 := Tryz.underlying67
  have hu23 := Tryz.underlying23
  unfold execOp; rw [ho]
  first | (go_simp; done) | (simp only [hx, List.map_toArray, List.map_cons, List.map_nil]; go_simp; done) | (simp only [hx, List.map_toArray, List.map_cons, List.map_nil]; go_simp; rfl)
theorem bs3_run (a b c : Int) (w : World) : (Instr.buildSlice 22 3 #[(0, .int .i64 a), (1, .int .i64 b), (2, .int .i64 c)]).run Tryz.prog w = .ok (.slice (some ⟨w.heap.size, 0, none⟩) 3 3) (w.alloc (.cells #[.int .i64 a, .int .i64 b, .int .i64 c] 3 (0, 0))) := by kernel_rfl
theorem run_bs3 {a b c : Int} (ho : o.op = .buildSlice 22 3 #[(0, .const (.int .i64 a)), (1, .const (.int .i64 b)), (2, .const (.int .i64 c))]) (hc : ∀ v, ρ (.const v) = v) : (execOp ρ o).run Tryz.prog w = .ok (.value (.slice (some ⟨w.heap.size, 0, none⟩) 3 3)) (w.alloc (.cells #[.int .i64 a, .int .i64 b, .int .i64 c] 3 (0, 0))) := by
  unfold execOp; rw [ho]
  simp only [hc, List.map_toArray, List.map_cons, List.map_nil]
  rw [Sem.run_bind, bs3_run]
  rfl
end
section
variable {N : Nat} {E : Env} {a : Act} {ops : Array Oper} {rest : List Oper} {Q : Exit → Act → World → Prop} {w w0 : World} {o : Oper} {d : Nat} {L : List (Nat × Obj)}
/-- A list of one number, new. -/
theorem bsi_ (K : Kn N E a) (M : On L w0 w) {x : Operand} {m : Int} (hd : o.dst = some d) (hb : Nat.blt d N = true) (hw : wantE ops E o = some true) (hop : o.op = .buildSlice 22 1 #[(0, x)]) (hx : evo E x = some (.int .i64 m))
    (h : ∀ a' g W, w0.heap.size ≤ g → Below w.heap.size w W → On ((g, .cells #[.int .i64 m] 3 (0, 0)) :: L) w0 W → Kn N ((d, .slice (some ⟨g, 0, none⟩) 1 1) :: E) a' → wpList Tryz.prog ops Q rest a' W) : wpList Tryz.prog ops Q (o :: rest) a w :=
  val_ K hd hb hw (run_bs22 hop (K.of hx)) (fun a' K' => h a' _ _ M.bl.size (below_alloc (Below.refl _ _) _) (M.new _) K')
/-- A list of one weekday, new. -/
theorem bsd_ (K : Kn N E a) (M : On L w0 w) {x : Operand} {m n : Int} (hd : o.dst = some d) (hb : Nat.blt d N = true) (hw : wantE ops E o = some true) (hop : o.op = .buildSlice 23 1 #[(0, x)]) (hx : evo E x = some (.agg #[.int .i64 m, .int .i64 n]))
    (h : ∀ a' g W, w0.heap.size ≤ g → Below w.heap.size w W → On ((g, .cells #[.int .i64 m, .int .i64 n] 67 (0, 0)) :: L) w0 W → Kn N ((d, .slice (some ⟨g, 0, none⟩) 1 1) :: E) a' → wpList Tryz.prog ops Q rest a' W) : wpList Tryz.prog ops Q (o :: rest) a w :=
  val_ K hd hb hw (run_bs23 hop (K.of hx)) (fun a' K' => h a' _ _ M.bl.size (below_alloc (Below.refl _ _) _) (M.new _) K')
theorem bs3_ (K : Kn N E a) (M : On L w0 w) {x y z : Int} (hd : o.dst = some d) (hb : Nat.blt d N = true) (hw : wantE ops E o = some true) (hop : o.op = .buildSlice 22 3 #[(0, .const (.int .i64 x)), (1, .const (.int .i64 y)), (2, .const (.int .i64 z))])
    (h : ∀ a' g W, w0.heap.size ≤ g → Below w.heap.size w W → On ((g, .cells #[.int .i64 x, .int .i64 y, .int .i64 z] 3 (0, 0)) :: L) w0 W → Kn N ((d, .slice (some ⟨g, 0, none⟩) 3 3) :: E) a' → wpList Tryz.prog ops Q rest a' W) : wpList Tryz.prog ops Q (o :: rest) a w :=
  val_ K hd hb hw (run_bs3 hop (fun _ => rfl)) (fun a' K' => h a' _ _ M.bl.size (below_alloc (Below.refl _ _) _) (M.new _) K')
end
theorem wakes_on {w : World} : Calls Tryz.prog 19 #[] w (Rets w (.bool true)) := by
  refine en_ Tryz.func19 rfl rfl rfl fun a K => sr_ (run_ 1 K rfl fun a K => nil_ (sr_ (val_ K rfl rfl rfl (run_b25a rfl (fun _ => rfl) rfl rfl rfl) fun a K => cl_ K Tryz.func18 (by kernel_rfl) rfl rfl rfl rfl rfl rfl ((Times_on (pl_rul w 4 1 3 0 false) (pl_right (by decide) (by decide) (by decide) (by decide) (by decide) (by decide) (Or.inl ⟨rfl, rfl⟩)) pl_few (by decide)).mono ?_))))
  rintro _ w1 ⟨v1, rfl, R1, b1⟩
  rw [wake_a] at R1 ⊢
  have M := On.nil w1
  obtain ⟨A1, c1, e1, h1, C1⟩ := Kd.R_reads R1
  subst e1
  clear R1
  refine ⟨_, rfl, fun a K => run_ 7 K rfl fun a K => nil_ (sr_ (val_ K rfl rfl rfl (run_b67 rfl (fun _ => rfl)) fun a K => bsd_ K M rfl rfl rfl rfl rfl fun a g9 W9 G9 B9 M K => bsi_ K M rfl rfl rfl rfl rfl fun a g14 W14 G14 B14 M K => val_ K rfl rfl rfl (run_b25c (g9 := g9) (g14 := g14) rfl (fun _ => rfl) (K.of (x := .tmp 21) rfl) (K.of (x := .tmp 22) rfl)) fun a K => nwG_ K M rfl rfl rfl rfl rfl rfl rfl (fun _ => rfl) rfl rfl rfl fun a g4 W4 G4 M K => nil_ ?_))⟩
  have RB : ∀ {L : List (Nat × Obj)} {V : World}, On (L ++ [(g4, .cells (rc rB (sB g9 g14)) 25 (0, 0)), (g14, .cells #[.int .i64 (-1)] 3 (0, 0)), (g9, .cells #[.int .i64 0, .int .i64 5] 67 (0, 0))]) w1 V → Rul V (rc rB (sB g9 g14)) rB := fun M => rB_rul (on_mem M (p := (g9, _)) (by simp)) (on_mem M (p := (g14, _)) (by simp))
  refine sr_ (lda_ K M 0 rfl rfl rfl rfl rfl rfl rfl rfl fun a K => cl_ K Tryz.func24 (by kernel_rfl) rfl rfl rfl rfl rfl rfl ((of_on (RB (L := []) M) rB_right rB_few (show InT 0 by decide)).mono ?_))
  rintro _ w5 ⟨v5, rfl, R5, b5⟩
  rw [wake_b] at R5 ⊢
  replace M := M.call b5
  obtain ⟨A5, c5, e5, h5, C5⟩ := Kd.R_reads R5
  subst e5
  clear R5
  refine ⟨_, rfl, fun a K => run_ 5 K rfl fun a K => nil_ (sr_ (lda_ K M 0 rfl rfl rfl rfl rfl rfl rfl rfl fun a K => cl_ K Tryz.func22 (by kernel_rfl) rfl rfl rfl rfl rfl rfl ((Last_on (RB (L := []) M) rB_right rB_few (show InT 0 by decide)).mono ?_)))⟩
  rintro _ w6 ⟨rfl, b6⟩
  rw [wake_c]
  replace M := M.call b6
  replace C5 := Kd.C_below C5 b6
  refine ⟨_, rfl, fun a K => run_ 9 K rfl fun a K => nil_ (sr_ (lda_ K M 0 rfl rfl rfl rfl rfl rfl rfl rfl fun a K => cl_ K Tryz.func18 (by kernel_rfl) rfl rfl rfl rfl rfl rfl ((Times_on (RB (L := []) M) rB_right rB_few (show InT 0 by decide)).mono ?_)))⟩
  rintro _ w7 ⟨v7, rfl, R7, b7⟩
  rw [wake_d]
  replace M := M.call b7
  replace C5 := Kd.C_below C5 b7
  clear R7 RB
  refine ⟨_, rfl, fun a K => run_ 7 K rfl fun a K => nil_ (sr_ (run_ 3 K rfl fun a K => run_ 1 (fx_ (c := true) K rfl) rfl fun a K => bs3_ K M rfl rfl rfl rfl fun a g W8 G8 B8 M8 K => ?_))⟩
  replace C5 := Kd.C_below C5 B8
  refine cl_ K Tryz.func26 (by kernel_rfl) rfl rfl rfl rfl rfl rfl ((ints_on (l := [0, 86400, 172800]) (Kd.C_below C1 M8.bl) h1 (c_list (l := [0, 86400, 172800]) (M8.me 0 _ _ rfl) (fun j x hx => ?_) (by decide)) (by decide) (by decide)).mono ?_)
  · match j, hx with
    | 0, hx => simp at hx; subst hx; rfl
    | 1, hx => simp at hx; subst hx; rfl
    | 2, hx => simp at hx; subst hx; rfl
  rintro _ w9 ⟨rfl, b9⟩
  replace M := M8.call b9
  replace C5 := Kd.C_below C5 b9
  refine ⟨_, rfl, fun a K => run_ 2 K rfl fun a K => run_ 4 (fx_ (c := true) K rfl) rfl fun a K => run_ 4 (fx_ (c := true) K rfl) rfl fun a K => run_ 1 (fx_ (c := true) K rfl) rfl fun a K => bsi_ K M rfl rfl rfl rfl rfl fun a g' W10 G10 B10 M10 K => ?_⟩
  replace C5 := Kd.C_below C5 B10
  refine cl_ K Tryz.func26 (by kernel_rfl) rfl rfl rfl rfl rfl rfl ((ints_on (l := [2505600]) C5 h5 (c_one (M10.me 0 _ _ rfl)) (by decide) (by decide)).mono ?_)
  rintro _ w11 ⟨rfl, b11⟩
  replace M := M10.call b11
  exact ⟨_, rfl, fun a K => run_ 2 K rfl fun a K => run_ 4 (fx_ (c := true) K rfl) rfl fun a K => run_ 3 (fx_ (c := true) K rfl) rfl fun a K => run_ 4 (fx_ (c := true) K rfl) rfl fun a K => run_ 4 (fx_ (c := true) K rfl) rfl fun a K => nil_ (ret_ rfl K rfl ⟨rfl, below_step b1 M.bl⟩)⟩
end Go.Proofs.YtjjaiahfkiojlaaGreat.Pure

namespace Go.Proofs.YtjjaiahfkiojlaaGreat.O
open Go.RowKit Go.Proofs.YtjjaiahfkiojlaaGreatW.PrintWords Go.Proofs.YtjjaiahfkiojlaaGreatW.PrintLast Go.Proofs.YtjjaiahfkiojlaaGreatW.PrintMore
attribute [local go_sem] max2_int min2_int max_two min_two max_three min_three max_four min_four   -- for this text's walks alone
set_option linter.unusedVariables false
set_option linter.unusedSimpArgs false

/-! ### solsticeref01_Most: function 38 -/
def solsticeref01_Most.f (k : Nat)  : Option (Int) := (solsticeref01_Number.f k 10000 12 31).bind fun t113 => (some t113)
theorem solsticeref01_Most.mono : ∀ k, LeO (solsticeref01_Most.f k ) (solsticeref01_Most.f (k + 1) ) := by
  intro  k
  unfold solsticeref01_Most.f
  repeat' first
      | (with_reducible exact solsticeref01_Number.mono _ _ _ _)
      | (with_reducible exact LeO.refl _)
      | (with_reducible exact LeO.none _)
      | (with_reducible refine LeO.ite ?_ ?_)
      | (with_reducible refine LeO.bind ?_ (fun _ => ?_))
      | exact solsticeref01_Number.mono _ _ _ _
      | exact LeO.none _
      | refine LeO.ite ?_ ?_
      | refine LeO.bind ?_ (fun _ => ?_)
set_option maxHeartbeats 8000000 in
set_option maxRecDepth 100000 in
theorem solsticeref01_Most.calls (k : Nat)  (r : Int) (w : World) (h : solsticeref01_Most.f k  = some r) :
    Calls Tryz.prog 38 #[] w fun e w' => e = .returned (.int .i64 r) ∧ Below w.heap.size w w' := by
  have hu30 := Tryz.underlying30
  have HB := Aside0.mk (Below.refl w.heap.size w)
  have H : ((solsticeref01_Number.f k 10000 12 31).bind fun t113 => (some t113)) = some r := h
  clear h
  replace H := Option.bind_eq_some_iff.mp H
  obtain ⟨t113, A10, H⟩ := H
  replace H : (some t113) = some r := H
  have A1 := Aside0.mk A10
  clear A10
  obtain rfl := Option.some.inj H
  go_enter Tryz.func38, Tryz.ntmps38
  go_wp2_with (first | ((with_reducible refine gate_callee (f := 32) rfl ?_); refine goesL_ (some 2) rfl rfl Tryz.func32 (by kernel_rfl) rfl #[.agg #[.int .i64 10000, .int .i64 12, .int .i64 31]] rfl (by (try simp only [List.map_toArray, List.map_cons, List.map_nil]); first | done | rfl | (simp only [List.length_drop, List.length_take]; rfl)) ?_; (with_reducible refine (solsticeref01_Number.calls k 10000 12 31 t113 _ A1.out).mono ?_); rintro e w2 ⟨rfl, hb⟩; refine ⟨_, rfl, ?_⟩; have n0_ := Aside0.mk (below_step (by repeat (first | (with_reducible first | exact HB.out | apply below_alloc | apply pw_below_drewN | apply below_drew1) | exact HB.out)) hb); clear HB; have HB := n0_; clear n0_; (try clear hb); (try clear hb2); (try clear hk); (try clear hi)))
  go_ret
  exact ⟨by first | rfl | (simp [errW_none, errW_some] <;> rfl) | (simp [*, errW_none, errW_some] <;> rfl), by repeat (first | (with_reducible first | exact HB.out | apply below_alloc | apply pw_below_drewN | apply below_drew1) | exact HB.out)⟩

end Go.Proofs.YtjjaiahfkiojlaaGreat.O
