/- RruleSpans answers true. No condition but that the rule's end is an int. -/
import Derived.Test.YtjjaiahfkiojlaaGreatMT23u
import Derived.Test.YtjjaiahfkiojlaaGreatT23A
import Derived.Test.YtjjaiahfkiojlaaGreatMHT
import Derived.Test.YtjjaiahfkiojlaaGreatMOx0
import Derived.Test.YtjjaiahfkiojlaaGreatMOx150
namespace Go.Proofs.YtjjaiahfkiojlaaGreat.Pure
open Go.RowKit Go.Proofs.YtjjaiahfkiojlaaGreat.O Go.Proofs.YtjjaiahfkiojlaaGreatW.PrintWords Go.Proofs.YtjjaiahfkiojlaaGreatW.PrintLast
open Go.Proofs.YtjjaiahfkiojlaaGreat.Civ
set_option linter.unusedVariables false
set_option linter.unusedSimpArgs false
set_option maxRecDepth 100000
set_option maxHeartbeats 4000000
section
variable {ρ : Operand → Value} {o : Oper} {w : World}
theorem add0_ (A : Option Addr) : A.map (fun p => p.add (0 * 1)) = A := by
  cases A with
  | none => rfl
  | some p => simp [Addr.add]
/-- A slice's first so many. -/
theorem run_sl22 {x y : Operand} {A : Option Addr} {n c m : Nat} (hm : m ≤ c) (ho : o.op = .slice 22 x none (some y) none) (hx : ρ x = .slice A n c) (hy : ρ y = .int .i64 (m : Int)) : (execOp ρ o).run Tryz.prog w = .ok (.value (.slice A m c)) w := by
  have hu22 := Tryz.underlying22
  have hu3 := Tryz.underlying3
  have h1 : (0 : Int) ≤ (m : Int) ∧ (m : Int) ≤ (c : Int) := ⟨by omega, by omega⟩
  have a0 := add0_ A
  unfold execOp; rw [ho]
  go_simp
theorem run_min {x y : Operand} {a b : Int} (ho : o.op = .call { callee := .builtin .min, args := #[x, y], argTypes := #[3, 3] }) (hx : ρ x = .int .i64 a) (hy : ρ y = .int .i64 b) : (execOp ρ o).run Tryz.prog w = .ok (.value (.int .i64 (min a b))) w := by
  unfold execOp; rw [ho]
  simp only [hx, hy, List.map_toArray, List.map_cons, List.map_nil]
  go_simp
end
theorem ung_ {ops : Array Oper} {Q : Exit → Act → World → Prop} {N : Nat} {E : O.Env} {a : Act} {w : World} {o : Oper} {rest : List Oper} (K : Kn N E a) (hw : wantE ops E o = some true) (h : wpList Tryz.prog ops Q ({ o with guard := none } :: rest) a w) : wpList Tryz.prog ops Q (o :: rest) a w := by
  have h1 := want_of K hw
  have h2 : Region.wanted { o with guard := none } (yielded ops a.tmps) = true := rfl
  unfold wpList at h ⊢
  rw [if_pos h1]
  rw [if_pos h2] at h
  exact h
theorem few_of {r : RR} (h : heavyB r.sec r.mi r.ho r.dy r.md r.yd r.wn r.mo r.sp = false) : Few r := by
  unfold heavyB at h
  have := of_decide_eq_false h
  exact ⟨by omega, by omega, by omega⟩
theorem umB (a : Int) {n : Int} (hn : 0 < n) (hn' : n ≤ 1000000000000) : ∃ r, 0 ≤ r ∧ r < n ∧ wrap64 (Int.tmod (IntKind.u64.wrap a) n) = r := by
  have h1 := Int.emod_nonneg (IntKind.u64.wrap a) (show n ≠ 0 by omega)
  have h2 := Int.emod_lt_of_pos (IntKind.u64.wrap a) hn
  refine ⟨IntKind.u64.wrap a % n, h1, h2, ?_⟩
  rw [tmod_nn n (by rw [u64w]; omega), w64 (by omega) (by omega)]
theorem umA (a : Int) {n : Int} (hn : 0 < n) (hn' : n ≤ 1000000000000) : ∃ r : Nat, 1 ≤ r ∧ (r : Int) ≤ n ∧ wrap64 (1 + wrap64 (Int.tmod (IntKind.u64.wrap a) n)) = (r : Int) := by
  obtain ⟨u, h1, h2, h3⟩ := umB a hn hn'
  refine ⟨(1 + u).toNat, by omega, by omega, ?_⟩
  rw [h3, w64 (by omega) (by omega)]
  omega
/-- A row that was made later stays when an earlier one grows. -/
theorem later_keep {w8 w9 w10 : World} {vx vz : Value} {lx lz : List Int} {b : Nat} (Rx : Kd.R (Kd.int .i64) 3 w8 b (fun _ => True) vx lx) (Rz : Kd.R (Kd.int .i64) 3 w9 w8.heap.size (fun _ => True) vz lz) (hg : w9.grownBy w10 vx.ownBlock) : Kd.R (Kd.int .i64) 3 w10 w8.heap.size (fun _ => True) vz lz :=
  Kd.R_mono (Kd.R_grown (Kd.R_bound Rz) hg (fun k hk e => by
    have := Kd.R_lt Rx k e.symm
    have := hk.2.1
    omega)) (fun _ _ => trivial)
theorem C_take {w : World} {A : Option Addr} {n m : Nat} {l : List Int} (h : Kd.C (Kd.int .i64) w A n l) (hm : m ≤ n) : Kd.C (Kd.int .i64) w A m (l.take m) := by
  obtain ⟨h1, h2, h3⟩ := h
  refine ⟨by rw [List.length_take, h1]; omega, by omega, fun hp => ?_⟩
  obtain ⟨ad, e, hh⟩ := h3 (by omega)
  refine ⟨ad, e, fun j p hj => hh j p ?_⟩
  rw [List.getElem?_take] at hj
  split at hj
  · exact hj
  · cases hj
theorem rul_one {w : World} {cs : Array Value} {r : RR} (R : Rul w cs r) : cs.toList.all (·.oneCell') = true := by
  obtain ⟨A6, k6, A7, k7, A8, k8, A9, k9, A10, k10, A11, k11, A12, k12, A13, k13, A14, k14, rfl, h6, h7, h8, h9, h10, h11, h12, h13, h14⟩ := rul_opens R
  rfl
theorem rul_cnt {w : World} {cs : Array Value} {r : RR} (R : Rul w cs r) (n : Int) : Rul w (cs.setIfInBounds 2 (.int .i64 n)) (cntR r n) := by
  have e : ∀ j, ¬ 2 = j → (cs.setIfInBounds 2 (.int .i64 n))[j]? = cs[j]? := fun j hj => Array.getElem?_setIfInBounds_ne hj
  refine ⟨by rw [Array.size_setIfInBounds]; exact R.sz, (e 0 (by decide)).trans R.c0, (e 1 (by decide)).trans R.c1, ?_, (e 3 (by decide)).trans R.c3, (e 4 (by decide)).trans R.c4, (e 5 (by decide)).trans R.c5, ?_, ?_, ?_, ?_, ?_, ?_, ?_, ?_, ?_, (e 15 (by decide)).trans R.c15⟩
  · rw [Array.getElem?_setIfInBounds_self_of_lt (by rw [R.sz]; decide)]; rfl
  · rw [e 6 (by decide)]; exact R.c6
  · rw [e 7 (by decide)]; exact R.c7
  · rw [e 8 (by decide)]; exact R.c8
  · rw [e 9 (by decide)]; exact R.c9
  · rw [e 10 (by decide)]; exact R.c10
  · rw [e 11 (by decide)]; exact R.c11
  · rw [e 12 (by decide)]; exact R.c12
  · rw [e 13 (by decide)]; exact R.c13
  · rw [e 14 (by decide)]; exact R.c14
theorem right_cnt {r : RR} {n : Int} (h : Right r) (hu : r.un = false) (h0 : 0 ≤ n) (h1 : n ≤ 100000) : Right (cntR r n) := by
  refine ⟨?_, h0, h1, Or.inl ?_⟩
  · have := h.ok
    unfold okRecur at this ⊢
    exact this
  · rcases h.en with q | q
    · exact q
    · rw [hu] at q; exact absurd q.1 (by decide)
theorem few_cnt {r : RR} {n : Int} (h : Few r) : Few (cntR r n) := ⟨h.1, h.2, h.3⟩
theorem RruleSpans_on {w : World} {cs : Array Value} {r : RR} (R : Rul w cs r) (u1 : -9223372036854775808 ≤ r.ua) (u2 : r.ua < 9223372036854775808) (a1 a2 a3 a4 a5 : Int) : Calls Tryz.prog 5 #[.agg cs, .int .i64 a1, .int .i64 a2, .int .i64 a3, .int .i64 a4, .int .i64 a5] w (Rets w (.bool true)) := by
  obtain ⟨b, hb, hrec⟩ := recur_on R u1 u2
  obtain ⟨x1, x2, x3, ex⟩ := umB a2 (n := 100000000) (by decide) (by decide)
  obtain ⟨y1, y2, y3, ey⟩ := umB a3 (n := 10000000) (by decide) (by decide)
  obtain ⟨z1, z2, z3, ezz⟩ := umB a4 (n := 10000000) (by decide) (by decide)
  obtain ⟨n, n1, n2, en⟩ := umA a5 (n := 50) (by decide) (by decide)
  refine en_ Tryz.func5 rfl rfl rfl fun a K => sr_ (bx_ K (On.nil w) rfl rfl rfl rfl rfl rfl fun a g0 W M K => run_ 1 K rfl fun a K => nil_ (wp_seq (sr_ (lda_ K M 0 rfl rfl rfl rfl rfl rfl rfl R.sz fun a K => cl_ K Tryz.func12 (by kernel_rfl) rfl rfl rfl rfl rfl rfl ((heavy_on (R.below M.bl)).mono ?_)))))
  rintro _ w1 ⟨rfl, b1⟩
  replace M := M.call b1
  refine ⟨_, rfl, fun a K => run_ 1 K rfl fun a K => ?_⟩
  cases hh : heavyB r.sec r.mi r.ho r.dy r.md r.yd r.wn r.mo r.sp with
  | true => exact run_ 4 (fx_ K hh) rfl fun a K => nil_ (ct_ K rfl rfl (sr_ (run_ 1 K rfl fun a K => nil_ (ret_ rfl K rfl ⟨rfl, M.bl⟩))))
  | false =>
  have hw := few_of hh
  refine lda_ (fx_ K hh) M 0 rfl rfl rfl rfl rfl rfl rfl R.sz fun a K => cl_ K Tryz.func13 (by kernel_rfl) rfl rfl rfl rfl rfl rfl ((hrec _ M.bl).mono ?_)
  rintro _ w2 ⟨rfl, b2⟩
  replace M := M.call b2
  refine ⟨_, rfl, fun a K => run_ 2 K rfl fun a K => nil_ ?_⟩
  cases b with
  | false => exact ct_ K rfl rfl (sr_ (run_ 1 K rfl fun a K => nil_ (ret_ rfl K rfl ⟨rfl, M.bl⟩)))
  | true =>
  have h := hb rfl
  refine cs_ K rfl rfl (sr_ (run_ 1 K rfl fun a K => cl_ K Tryz.func14 (by kernel_rfl) rfl rfl rfl rfl rfl rfl ((some_on a1).mono ?_)))
  rintro _ w3 ⟨st, ht, rfl, b3⟩
  replace M := M.call b3
  have t1 : -62135596800 ≤ st ∧ st ≤ 253402300799 := by unfold InT at ht; exact ht
  obtain ⟨f, ef⟩ : ∃ f, f = st + x1 := ⟨_, rfl⟩
  obtain ⟨m, em⟩ : ∃ m, m = f + y1 := ⟨_, rfl⟩
  obtain ⟨t, et⟩ : ∃ t, t = m + 1 + z1 := ⟨_, rfl⟩
  have wf : wrap64 (st + wrap64 (Int.tmod (IntKind.u64.wrap a2) 100000000)) = f := by rw [ex, w64 (by omega) (by omega), ef]
  have wm : wrap64 (f + wrap64 (Int.tmod (IntKind.u64.wrap a3) 10000000)) = m := by rw [ey, w64 (by omega) (by omega), em]
  have wm1 : wrap64 (m + 1) = m + 1 := w64 (by omega) (by omega)
  have wt : wrap64 (wrap64 (m + 1) + wrap64 (Int.tmod (IntKind.u64.wrap a4) 10000000)) = t := by rw [wm1, ezz, w64 (by omega) (by omega), et]
  have fm : f ≤ m := by omega
  have mt : m < t := by omega
  have hf : -4611686018427387904 ≤ f := by omega
  have htt : t ≤ 4611686018427387904 := by omega
  have hmay : mayT st t 3000 := by unfold mayT; omega
  have side := times_side (r := r) (a := f) (m := m) (b := t) h ht fm mt hf htt
  have cnt := fun (hc : r.ct = 0) (hr : Right (cntR r n)) => times_cnt (r := r) (b := t) (n := n) h hr ht hc (by omega) hmay
  have lx := times_len (r := r) (st := st) (from_ := f) (to_ := m) (F := 3000)
  have ly := times_len (r := r) (st := st) (from_ := m + 1) (to_ := t) (F := 3000)
  have lz := times_len (r := r) (st := st) (from_ := f) (to_ := t) (F := 3000)
  clear ex ey ezz ef em et fm mt hf htt hmay x2 x3 y2 y3 z2 z3 t1
  refine ⟨_, rfl, fun a K => run_ 1 K rfl fun a K => nil_ (sr_ (run_ 7 K rfl fun a K => nil_ ?_))⟩
  replace K := fg_ (E' := [(2, .int .i64 f), (1, .int .i64 st), (3, .int .i64 a3), (4, .int .i64 a4), (5, .int .i64 a5), (6, .pointer (some ⟨g0, 0, none⟩))]) (ks_ (i := 2) (u := .int .i64 f) K rfl (congrArg (Value.int .i64) wf)) ⟨rfl, rfl, rfl, rfl, rfl, rfl, trivial⟩
  refine sr_ (run_ 7 K rfl fun a K => nil_ ?_)
  replace K := fg_ (E' := [(13, .int .i64 m), (2, .int .i64 f), (1, .int .i64 st), (4, .int .i64 a4), (5, .int .i64 a5), (6, .pointer (some ⟨g0, 0, none⟩))]) (ks_ (i := 13) (u := .int .i64 m) K rfl (congrArg (Value.int .i64) wm)) ⟨rfl, rfl, rfl, rfl, rfl, rfl, trivial⟩
  refine sr_ (run_ 8 K rfl fun a K => nil_ ?_)
  replace K := fg_ (E' := [(14, .int .i64 t), (13, .int .i64 m), (2, .int .i64 f), (1, .int .i64 st), (5, .int .i64 a5), (6, .pointer (some ⟨g0, 0, none⟩))]) (ks_ (i := 14) (u := .int .i64 t) K rfl (congrArg (Value.int .i64) wt)) ⟨rfl, rfl, rfl, rfl, rfl, rfl, trivial⟩
  clear wf wm wt
  have B3 := M.bl
  have fin : ∀ {V : World}, Below w3.heap.size w3 V → Below w.heap.size w V := fun q => below_step B3 q
  replace R := R.below B3
  replace M := M.here
  have N := On.nil w3
  refine sr_ (lda_ K M 0 rfl rfl rfl rfl rfl rfl rfl R.sz fun a K => run_ 3 K rfl fun a K => cl_ K Tryz.func18 (by kernel_rfl) rfl rfl rfl rfl rfl rfl ((Times_on (R.below N.bl) h hw ht).mono ?_))
  rintro _ w4 ⟨v4, rfl, R4, b4⟩
  replace N := N.call b4
  refine ⟨_, rfl, fun a K => run_ 7 K rfl fun a K => nil_ ?_⟩
  replace K := fg_ (E' := [(17, .int .i64 (timesV r st f m 3000).2.2), (15, v4), (14, .int .i64 t), (13, .int .i64 m), (2, .int .i64 f), (1, .int .i64 st), (5, .int .i64 a5), (6, .pointer (some ⟨g0, 0, none⟩))]) K ⟨rfl, rfl, rfl, rfl, rfl, rfl, rfl, rfl, trivial⟩
  have T2 : ∀ V, Rul V cs r → Calls Tryz.prog 18 #[.agg cs, .int .i64 st, .int .i64 (wrap64 (m + 1)), .int .i64 t, .int .i64 3000] V fun e W' => ∃ v', e = .returned (.tuple #[v', .int .i64 (timesV r st (m + 1) t 3000).2.1, .int .i64 (timesV r st (m + 1) t 3000).2.2]) ∧ Kd.R (Kd.int .i64) 3 W' V.heap.size (fun _ => True) v' (timesV r st (m + 1) t 3000).1 ∧ Below V.heap.size V W' := fun V hV => by rw [wm1]; exact Times_on hV h hw ht
  refine sr_ (lda_ K (M.call N.bl) 0 rfl rfl rfl rfl rfl rfl rfl R.sz fun a K => run_ 4 K rfl fun a K => cl_ K Tryz.func18 (by kernel_rfl) rfl rfl rfl rfl rfl rfl ((T2 _ (R.below N.bl)).mono ?_))
  rintro _ w5 ⟨v5, rfl, R5, b5⟩
  replace N := N.call b5
  refine ⟨_, rfl, fun a K => run_ 7 K rfl fun a K => nil_ ?_⟩
  replace K := fg_ (E' := [(20, .int .i64 (timesV r st (m + 1) t 3000).2.2), (18, v5), (17, .int .i64 (timesV r st f m 3000).2.2), (15, v4), (14, .int .i64 t), (2, .int .i64 f), (1, .int .i64 st), (5, .int .i64 a5), (6, .pointer (some ⟨g0, 0, none⟩))]) K ⟨rfl, rfl, rfl, rfl, rfl, rfl, rfl, rfl, rfl, trivial⟩
  refine sr_ (lda_ K (M.call N.bl) 0 rfl rfl rfl rfl rfl rfl rfl R.sz fun a K => run_ 3 K rfl fun a K => cl_ K Tryz.func18 (by kernel_rfl) rfl rfl rfl rfl rfl rfl ((Times_on (R.below N.bl) h hw ht).mono ?_))
  rintro _ w6 ⟨v6, rfl, R6, b6⟩
  replace N := N.call b6
  refine ⟨_, rfl, fun a K => run_ 7 K rfl fun a K => nil_ ?_⟩
  replace K := fg_ (E' := [(23, .int .i64 (timesV r st f t 3000).2.2), (21, v6), (20, .int .i64 (timesV r st (m + 1) t 3000).2.2), (18, v5), (17, .int .i64 (timesV r st f m 3000).2.2), (15, v4), (14, .int .i64 t), (1, .int .i64 st), (5, .int .i64 a5), (6, .pointer (some ⟨g0, 0, none⟩))]) K ⟨rfl, rfl, rfl, rfl, rfl, rfl, rfl, rfl, rfl, rfl, trivial⟩
  generalize (timesV r st f m 3000).1 = l4 at side R4 lx
  generalize (timesV r st f m 3000).2.2 = e4 at side K
  generalize (timesV r st (m + 1) t 3000).1 = l5 at side R5 ly
  generalize (timesV r st (m + 1) t 3000).2.2 = e5 at side K
  generalize (timesV r st f t 3000).1 = l6 at side R6 lz
  generalize (timesV r st f t 3000).2.2 = e6 at side K
  refine wp_seq (sj_ (fun a' W' => Kn 158 [(104, .bool false), (14, .int .i64 t), (1, .int .i64 st), (5, .int .i64 a5), (6, .pointer (some ⟨g0, 0, none⟩))] a' ∧ On [] w3 W') (rg_ (run_ 2 K rfl fun a K => ?_)) ?_)
  · by_cases q4 : e4 = 0
    case neg => exact run_ 16 (fx_ K (decide_eq_false q4)) rfl fun a K => nl_ ⟨fg_ K ⟨rfl, rfl, rfl, rfl, rfl, trivial⟩, N⟩
    refine run_ 3 (fx_ K (decide_eq_true q4)) rfl fun a K => ?_
    by_cases q5 : e5 = 0
    case neg => exact run_ 13 (fx_ K (decide_eq_false q5)) rfl fun a K => nl_ ⟨fg_ K ⟨rfl, rfl, rfl, rfl, rfl, trivial⟩, N⟩
    refine run_ 4 (fx_ K (decide_eq_true q5)) rfl fun a K => ?_
    by_cases q6 : e6 = 0
    case neg => exact run_ 9 (fx_ K (decide_eq_false q6)) rfl fun a K => nl_ ⟨fg_ K ⟨rfl, rfl, rfl, rfl, rfl, trivial⟩, N⟩
    obtain rfl := side q4 q5 q6
    obtain ⟨A5, c5, ev5, h5, C5⟩ := Kd.R_reads (Kd.R_below R5 b6)
    subst ev5
    refine run_ 5 (fx_ K (decide_eq_true q6)) rfl fun a K => ung_ K rfl (ap_ (k := Kd.int .i64) (t := 22) (e := 3) K N rfl rfl rfl rfl Tryz.underlying22 info3 rfl (by decide) (by decide) rfl rfl (Kd.R_below (Kd.R_below R4 b5) b6) C5 (fun x cs h => h) (fun p hp => absurd hp List.not_mem_nil) (by omega) fun a v7 w7 g7 R7 N7 F7 K => ?_)
    have R6' := later_keep (Kd.R_below R4 b5) R6 g7
    obtain ⟨A6, c6, ev6, h6, C6⟩ := Kd.R_reads R6'
    subst ev6
    obtain ⟨A7, c7, ev7, h7, C7⟩ := Kd.R_reads R7
    subst ev7
    refine cl_ K Tryz.func26 (by kernel_rfl) rfl rfl rfl rfl rfl rfl ((ints_on C6 h6 C7 h7 (by rw [List.length_append]; omega)).mono ?_)
    rintro _ w8 ⟨rfl, b8⟩
    exact ⟨_, rfl, fun a K => run_ 2 K rfl fun a K => nl_ ⟨fg_ K ⟨rfl, rfl, rfl, rfl, rfl, trivial⟩, N7.call b8⟩⟩
  clear K N b4 b5 b6 R4 R5 R6 side lx ly lz T2
  rintro a W8 ⟨K, N⟩
  refine cs_ K rfl rfl (wp_seq (sr_ (run_ 1 K rfl fun a K => ld_ K (M.call N.bl) 0 rfl rfl rfl rfl rfl rfl R.c2 rfl fun a K => run_ 1 K rfl fun a K => ?_)))
  by_cases hc : 0 < r.ct
  case pos =>
    refine run_ 4 (fx_ K (decide_eq_true hc)) rfl fun a K => nil_ (ct_ K rfl rfl (sr_ (cl_ K Tryz.func19 (by kernel_rfl) rfl rfl rfl rfl rfl rfl (wakes_on.mono ?_))))
    rintro _ w9 ⟨rfl, b9⟩
    exact ⟨_, rfl, fun a K => run_ 1 K rfl fun a K => nil_ (ret_ rfl K rfl ⟨rfl, fin (N.call b9).bl⟩)⟩
  refine run_ 2 (fx_ K (decide_eq_false hc)) rfl fun a K => ld_ K (M.call N.bl) 0 rfl rfl rfl rfl rfl rfl R.c3 rfl fun a K => ?_
  cases hu : r.un with
  | true =>
    refine run_ 1 (fx_ K hu) rfl fun a K => nil_ (ct_ K rfl rfl (sr_ (cl_ K Tryz.func19 (by kernel_rfl) rfl rfl rfl rfl rfl rfl (wakes_on.mono ?_))))
    rintro _ w9 ⟨rfl, b9⟩
    exact ⟨_, rfl, fun a K => run_ 1 K rfl fun a K => nil_ (ret_ rfl K rfl ⟨rfl, fin (N.call b9).bl⟩)⟩
  | false =>
  have hc0 : r.ct = 0 := by have := h.ct0; omega
  have hr := right_cnt (n := n) h hu (by omega) (by omega)
  have hw' := few_cnt (n := n) hw
  replace cnt := cnt hc0 hr
  refine run_ 1 (fx_ K hu) rfl fun a K => nil_ (cs_ K rfl rfl (sr_ (run_ 6 K rfl fun a K => nil_ ?_)))
  replace K := fg_ (E' := [(5, .int .i64 (n : Int)), (14, .int .i64 t), (1, .int .i64 st), (6, .pointer (some ⟨g0, 0, none⟩))]) (ks_ (i := 5) (u := .int .i64 (n : Int)) K rfl (congrArg (Value.int .i64) en)) ⟨rfl, rfl, rfl, rfl, trivial⟩
  have ln := h.lens
  refine sr_ (lda_ K (M.call N.bl) 0 rfl rfl rfl rfl rfl rfl rfl R.sz fun a K => cl_ K Tryz.func21 (by kernel_rfl) rfl rfl rfl rfl rfl rfl ((twin_on (R.below N.bl) ⟨ln.sec, ln.mi, ln.ho, ln.dy, ln.md, ln.yd, ln.wn, ln.mo, ln.sp⟩).mono ?_))
  rintro _ w9 ⟨cs', rfl, R', b9⟩
  have B9 := (N.call b9).bl
  replace fin : ∀ {V : World}, Below w9.heap.size w9 V → Below w.heap.size w V := fun q => fin (below_step B9 q)
  replace R := R.below B9
  replace M := (M.call B9).here
  clear N
  refine ⟨_, rfl, fun a K => nwG_ K M rfl rfl rfl rfl rfl rfl rfl (fun _ => rfl) rfl R'.sz (rul_one R') fun a g1 W9 G1 M K => nil_ (sr_ (run_ 2 K rfl fun a K => stc_ K M 0 rfl G1 rfl rfl rfl rfl rfl rfl (by rw [R'.sz]; decide) fun W hW M2 => nil_ ?_))⟩
  clear M
  replace M : On [(g1, .cells (cs'.setIfInBounds 2 (.int .i64 (n : Int))) 25 (0, 0)), (g0, .cells cs 25 (0, 0))] w9 W := M2
  clear M2 hW
  replace R' := rul_cnt R' (n : Int)
  refine sr_ (lda_ K M 1 rfl rfl rfl rfl rfl rfl rfl R.sz fun a K => run_ 3 K rfl fun a K => cl_ K Tryz.func18 (by kernel_rfl) rfl rfl rfl rfl rfl rfl ((Times_on (R.below M.bl) h hw ht).mono ?_))
  rintro _ w10 ⟨v10, rfl, R10, b10⟩
  replace M := M.call b10
  refine ⟨_, rfl, fun a K => run_ 7 K rfl fun a K => nil_ ?_⟩
  refine sr_ (lda_ K M 0 rfl rfl rfl rfl rfl rfl rfl R'.sz fun a K => run_ 3 K rfl fun a K => cl_ K Tryz.func18 (by kernel_rfl) rfl rfl rfl rfl rfl rfl ((Times_on (R'.below M.bl) hr hw' ht).mono ?_))
  rintro _ w11 ⟨v11, rfl, R11, b11⟩
  replace M := M.call b11
  replace R10 := Kd.R_below R10 b11
  have l10 := times_len (r := r) (st := st) (from_ := st) (to_ := t) (F := 3000)
  refine ⟨_, rfl, fun a K => run_ 7 K rfl fun a K => nil_ ?_⟩
  replace K := fg_ (E' := [(30, .int .i64 (timesV (cntR r n) st st t 3000).2.2), (28, v11), (27, .int .i64 (timesV r st st t 3000).2.2), (25, v10), (5, .int .i64 (n : Int))]) K ⟨rfl, rfl, rfl, rfl, rfl, trivial⟩
  generalize (timesV r st st t 3000).1 = l at cnt R10 l10
  generalize (timesV r st st t 3000).2.2 = z10 at cnt K
  generalize (timesV (cntR r n) st st t 3000).1 = l' at cnt R11
  generalize (timesV (cntR r n) st st t 3000).2.2 = z11 at cnt K
  refine wp_seq (sr_ (run_ 2 K rfl fun a K => ?_))
  by_cases q10 : z10 = 0
  case neg =>
    refine run_ 4 (fx_ K (ne0_ q10)) rfl fun a K => nil_ (ct_ K rfl rfl (sr_ (cl_ K Tryz.func19 (by kernel_rfl) rfl rfl rfl rfl rfl rfl (wakes_on.mono ?_))))
    rintro _ w12 ⟨rfl, b12⟩
    exact ⟨_, rfl, fun a K => run_ 1 K rfl fun a K => nil_ (ret_ rfl K rfl ⟨rfl, fin (M.call b12).bl⟩)⟩
  refine run_ 3 (fx_ K (ne0f_ q10)) rfl fun a K => ?_
  by_cases q11 : z11 = 0
  case neg =>
    refine run_ 1 (fx_ K (ne0_ q11)) rfl fun a K => nil_ (ct_ K rfl rfl (sr_ (cl_ K Tryz.func19 (by kernel_rfl) rfl rfl rfl rfl rfl rfl (wakes_on.mono ?_))))
    rintro _ w12 ⟨rfl, b12⟩
    exact ⟨_, rfl, fun a K => run_ 1 K rfl fun a K => nil_ (ret_ rfl K rfl ⟨rfl, fin (M.call b12).bl⟩)⟩
  obtain rfl := cnt q10 q11
  obtain ⟨A10, c10, ev10, h10, C10⟩ := Kd.R_reads R10
  subst ev10
  obtain ⟨A11, c11, ev11, h11, C11⟩ := Kd.R_reads R11
  subst ev11
  have lt : (l.take n).length = min n l.length := by rw [List.length_take]
  have em : min (n : Int) ((l.length : Nat) : Int) = (((l.take n).length : Nat) : Int) := by rw [lt]; omega
  have tk : l.take n = l.take (l.take n).length := by rw [lt]; simp
  have C10' := C_take C10 (m := (l.take n).length) (by rw [lt]; omega)
  rw [← tk] at C10'
  have mc : (l.take n).length ≤ c10 := by rw [lt]; omega
  have sm : (l.take n).length ≤ 1000000 := by rw [lt]; omega
  generalize l.take n = k at *
  refine run_ 1 (fx_ K (ne0f_ q11)) rfl fun a K => nil_ (cs_ K rfl rfl (sr_ (run_ 5 K rfl fun a K => val_ K rfl rfl rfl (run_min rfl (K.of (x := .tmp 149) rfl) (K.of (x := .tmp 151) rfl)) fun a K => val_ (ks_ (i := 152) K rfl (congrArg (Value.int .i64) em)) rfl rfl rfl (run_sl22 mc rfl (K.of (x := .tmp 148) rfl) ((K.of (x := .tmp 152) rfl).trans (congrArg (Value.int .i64) em))) fun a K => cl_ K Tryz.func26 (by kernel_rfl) rfl rfl rfl rfl rfl rfl ((ints_on C11 h11 C10' mc sm).mono ?_))))
  rintro _ w12 ⟨rfl, b12⟩
  replace M := M.call b12
  refine ⟨_, rfl, fun a K => run_ 1 K rfl fun a K => cl_ K Tryz.func19 (by kernel_rfl) rfl rfl rfl rfl rfl rfl (wakes_on.mono ?_)⟩
  rintro _ w13 ⟨rfl, b13⟩
  exact ⟨_, rfl, fun a K => run_ 2 K rfl fun a K => nil_ (ret_ rfl K rfl ⟨rfl, fin (M.call b13).bl⟩)⟩
end Go.Proofs.YtjjaiahfkiojlaaGreat.Pure
