/- RruleLets answers true. No condition but that the rule's end is an int. -/
import Derived.Test.YtjjaiahfkiojlaaGreatMT23u
import Derived.Test.YtjjaiahfkiojlaaGreatMT23R
namespace Go.Proofs.YtjjaiahfkiojlaaGreat.Pure
open Go.RowKit Go.Proofs.YtjjaiahfkiojlaaGreat.O Go.Proofs.YtjjaiahfkiojlaaGreatW.PrintWords Go.Proofs.YtjjaiahfkiojlaaGreatW.PrintLast
open Go.Proofs.YtjjaiahfkiojlaaGreat.Civ
set_option linter.unusedVariables false
set_option linter.unusedSimpArgs false
set_option maxRecDepth 100000
set_option maxHeartbeats 4000000
theorem few_of {r : RR} (h : heavyB r.sec r.mi r.ho r.dy r.md r.yd r.wn r.mo r.sp = false) : Few r := by
  unfold heavyB at h
  have := of_decide_eq_false h
  exact ⟨by omega, by omega, by omega⟩
theorem umB (a : Int) {n : Int} (hn : 0 < n) (hn' : n ≤ 1000000000000) : ∃ r, 0 ≤ r ∧ r < n ∧ wrap64 (Int.tmod (IntKind.u64.wrap a) n) = r := by
  have h1 := Int.emod_nonneg (IntKind.u64.wrap a) (show n ≠ 0 by omega)
  have h2 := Int.emod_lt_of_pos (IntKind.u64.wrap a) hn
  refine ⟨IntKind.u64.wrap a % n, h1, h2, ?_⟩
  rw [tmod_nn n (by rw [u64w]; omega), w64 (by omega) (by omega)]
theorem rem_ {m n : Int} (h : n ≠ 0) : binE .rem m n = some (.int .i64 (Int.tmod m n)) := by
  simp only [binE, decide_eq_false h]
theorem times_errno {r : RR} {st from_ to_ F : Int} (h : mayT from_ to_ F) : (timesV r st from_ to_ F).2.2 = 0 ∨ (timesV r st from_ to_ F).2.2 = 22 := by
  unfold timesV
  rw [if_pos h]
  split
  · exact Or.inr rfl
  · exact Or.inl rfl
theorem times_nil {r : RR} {st from_ to_ F : Int} (h : (timesV r st from_ to_ F).2.2 ≠ 0) : (timesV r st from_ to_ F).1 = [] := by
  revert h
  unfold timesV
  split
  · cases goneV r st from_ to_ F with
    | none => exact fun _ => rfl
    | some s => exact fun h => absurd rfl h
  · exact fun _ => rfl
theorem pt_facts {r : RR} {st from_ to_ x : Int} (h : Right r) (hst : InT st) (p : PT r st from_ to_ x) : decide (x < from_) = false ∧ decide (to_ < x) = false ∧ decide (x < st) = false := by
  obtain ⟨p1, p2, p3⟩ := p
  exact ⟨decide_eq_false (by omega), decide_eq_false (by omega), decide_eq_false (by omega)⟩
theorem pt_more {r : RR} {st from_ to_ x : Int} (h : Right r) (hst : InT st) (p : PT r st from_ to_ x) (hx : ¬ x = st) : InT x ∧ letsV r st x = true ∧ (r.un = true → decide (r.ua < x) = false) ∧ (!decide (Int.tmod (wrap64 (perV r x - perV r st)) r.iv = 0)) = false := by
  obtain ⟨p1, p2, p3⟩ := p
  obtain ⟨q1, q2, q3, ⟨m, q4⟩, q5⟩ := p3.resolve_left hx
  have a := inP_small h.lens (inP_per h.lens hst)
  have b := inP_small h.lens (inP_per h.lens q3)
  refine ⟨q3, q5, fun u => decide_eq_false (by have := q2 u; omega), ?_⟩
  rw [w64 (by omega) (by omega), show perV r x - perV r st = m * r.iv by omega, decide_eq_true (Int.mul_tmod_left m r.iv)]
  rfl
theorem lt_at {l : List Int} (h : l.Pairwise (· < ·)) {i : Nat} (hi : i < l.length) (h0 : 0 < i) : decide (l[i] ≤ l[i - 1]'(Nat.lt_of_le_of_lt (Nat.sub_le _ _) hi)) = false := by
  have := List.pairwise_iff_getElem.1 h (i - 1) i (Nat.lt_of_le_of_lt (Nat.sub_le _ _) hi) hi (Nat.sub_lt h0 Nat.one_pos)
  exact decide_eq_false (by omega)
theorem pre_i {i n : Nat} (h : i < n) (h0 : 0 < i) (hn : n ≤ 4611686018427387904) : wrap64 ((i : Int) - 1) = ((i - 1 : Nat) : Int) := by
  rw [w64 (by omega) (by omega)]
  omega
theorem nxt_i {i n : Nat} (h : i < n) (hn : n ≤ 4611686018427387904) : wrap64 ((i : Int) + 1) = ((i + 1 : Nat) : Int) := by
  rw [w64 (by omega) (by omega)]
  omega
theorem let_un {x : Int} (a : InT x) : -9223372036854775808 ≤ x ∧ x < 9223372036854775808 := by unfold InT at a; omega
theorem RruleLets_on {w : World} {cs : Array Value} {r : RR} (R : Rul w cs r) (u1 : -9223372036854775808 ≤ r.ua) (u2 : r.ua < 9223372036854775808) (a1 a2 a3 : Int) : Calls Tryz.prog 11 #[.agg cs, .int .i64 a1, .int .i64 a2, .int .i64 a3] w (Rets w (.bool true)) := by
  have fl : Tryz.prog.follows .mixedOrders = true := by kernel_rfl
  obtain ⟨b, hb, hrec⟩ := recur_on R u1 u2
  obtain ⟨u, v1, v2, eu⟩ := umB a2 (n := 1000000000) (by decide) (by decide)
  obtain ⟨q, q1, q2, eq⟩ := umB a3 (n := 100000000) (by decide) (by decide)
  obtain ⟨A14, k14, e14, _⟩ := R.c14
  refine en_ Tryz.func11 rfl rfl rfl fun a K => sr_ (bx_ K (On.nil w) rfl rfl rfl rfl rfl rfl fun a g0 W M K => run_ 1 K rfl fun a K => nil_ (wp_seq (sr_ (lda_ K M 0 rfl rfl rfl rfl rfl rfl rfl R.sz fun a K => cl_ K Tryz.func12 (by kernel_rfl) rfl rfl rfl rfl rfl rfl ((heavy_on (R.below M.bl)).mono ?_)))))
  rintro _ w1 ⟨rfl, b1⟩
  replace M := M.call b1
  refine ⟨_, rfl, fun a K => run_ 1 K rfl fun a K => ?_⟩
  cases hh : heavyB r.sec r.mi r.ho r.dy r.md r.yd r.wn r.mo r.sp with
  | true => exact run_ 10 (fx_ K hh) rfl fun a K => nil_ (ct_ K rfl rfl (sr_ (run_ 1 K rfl fun a K => nil_ (ret_ rfl K rfl ⟨rfl, M.bl⟩))))
  | false =>
  have hw := few_of hh
  refine lda_ (fx_ K hh) M 0 rfl rfl rfl rfl rfl rfl rfl R.sz fun a K => cl_ K Tryz.func13 (by kernel_rfl) rfl rfl rfl rfl rfl rfl ((hrec _ M.bl).mono ?_)
  rintro _ w2 ⟨rfl, b2⟩
  replace M := M.call b2
  cases b with
  | false => exact ⟨_, rfl, fun a K => run_ 8 K rfl fun a K => nil_ (ct_ K rfl rfl (sr_ (run_ 1 K rfl fun a K => nil_ (ret_ rfl K rfl ⟨rfl, M.bl⟩))))⟩
  | true =>
  have h := hb rfl
  refine ⟨_, rfl, fun a K => run_ 4 K rfl fun a K => ld_ K M 0 rfl rfl rfl rfl rfl rfl e14 rfl fun a K => run_ 3 K rfl fun a K => nil_ ?_⟩
  by_cases hsp : r.sp = []
  case neg => exact ct_ K rfl (decide_eq_true (by have := List.length_pos_iff.2 hsp; omega)) (sr_ (run_ 1 K rfl fun a K => nil_ (ret_ rfl K rfl ⟨rfl, M.bl⟩)))
  refine cs_ K rfl (by rw [hsp]; rfl) (sr_ (run_ 1 K rfl fun a K => cl_ K Tryz.func14 (by kernel_rfl) rfl rfl rfl rfl rfl rfl ((some_on a1).mono ?_)))
  rintro _ w3 ⟨t, ht, rfl, b3⟩
  replace M := M.call b3
  have t1 : -62135596800 ≤ t ∧ t ≤ 253402300799 := by unfold InT at ht; exact ht
  obtain ⟨f, ef⟩ : ∃ f, f = t - 86400 + u := ⟨_, rfl⟩
  have hmay : mayT f (f + q) 3000 := by unfold mayT; omega
  have efr : wrap64 (wrap64 (t - 86400) + wrap64 (Int.tmod (IntKind.u64.wrap a2) 1000000000)) = f := by rw [eu, w64 (x := t - 86400) (by omega) (by omega), w64 (by omega) (by omega), ef]
  have eto : wrap64 (f + wrap64 (Int.tmod (IntKind.u64.wrap a3) 100000000)) = f + q := by rw [eq, w64 (by omega) (by omega)]
  have en := times_errno (r := r) (st := t) hmay
  have nil := times_nil (r := r) (st := t) (from_ := f) (to_ := f + q) (F := 3000)
  have told := times_told (r := r) (st := t) (from_ := f) (to_ := f + q) (F := 3000) h ht hsp
  have len := times_len (r := r) (st := t) (from_ := f) (to_ := f + q) (F := 3000)
  clear eq q1 q2 t1 hmay eu v1 v2 ef
  refine ⟨_, rfl, fun a K => run_ 1 K rfl fun a K => nil_ (sr_ (run_ 8 K rfl fun a K => nil_ ?_))⟩
  replace K := fg_ (E' := [(2, .int .i64 f), (1, .int .i64 t), (3, .int .i64 a3), (4, .pointer (some ⟨g0, 0, none⟩))]) (ks_ (i := 2) (u := .int .i64 f) K rfl (congrArg (Value.int .i64) efr)) ⟨rfl, rfl, rfl, rfl, trivial⟩
  clear efr
  refine sr_ (run_ 7 K rfl fun a K => nil_ ?_)
  replace K := fg_ (E' := [(9, .int .i64 (f + q)), (2, .int .i64 f), (1, .int .i64 t), (4, .pointer (some ⟨g0, 0, none⟩))]) (ks_ (i := 9) (u := .int .i64 (f + q)) K rfl (congrArg (Value.int .i64) eto)) ⟨rfl, rfl, rfl, rfl, trivial⟩
  clear eto
  refine sr_ (lda_ K M 0 rfl rfl rfl rfl rfl rfl rfl R.sz fun a K => run_ 3 K rfl fun a K => cl_ K Tryz.func18 (by kernel_rfl) rfl rfl rfl rfl rfl rfl ((Times_on (R.below M.bl) h hw ht).mono ?_))
  rintro _ w4 ⟨v4, rfl, R4, b4⟩
  replace M := M.call b4
  generalize (timesV r t f (f + q) 3000).1 = l at R4 nil told len
  generalize (timesV r t f (f + q) 3000).2.1 = c at ⊢
  generalize (timesV r t f (f + q) 3000).2.2 = z at en nil ⊢
  obtain ⟨A4, c4, e4, h4, C4⟩ := Kd.R_reads R4
  subst e4
  clear R4
  refine ⟨_, rfl, fun a K => run_ 7 K rfl fun a K => nil_ (wp_seq (sr_ (run_ 2 K rfl fun a K => nil_ ?_)))⟩
  by_cases ez : z = 0
  case neg =>
    obtain rfl : z = 22 := en.resolve_left ez
    obtain rfl := nil ez
    refine ct_ K rfl (ne0_ ez) (sr_ (run_ 3 K rfl fun a K => run_ 5 (fx_ (c := true) K rfl) rfl fun a K => cl_ K Tryz.func19 (by kernel_rfl) rfl rfl rfl rfl rfl rfl (wakes_on.mono ?_)))
    rintro _ w5 ⟨rfl, b5⟩
    exact ⟨_, rfl, fun a K => run_ 2 K rfl fun a K => nil_ (ret_ rfl K rfl ⟨rfl, (M.call b5).bl⟩)⟩
  obtain ⟨rise, told⟩ := told
  have hiv : r.iv ≠ 0 := by have := h.iv; omega
  have P1 : ∀ V x, InT x → Rul V cs r → Calls Tryz.prog 16 #[.agg cs, .int .i64 x] V (Rets V (.tuple #[.int .i64 (perV r x), .int .i64 0])) := fun V x hx hV => by
    have := Period_on hV h x
    rw [if_pos hx] at this
    exact this
  have tt := let_un ht
  refine cs_ K rfl (ne0f_ ez) (sr_ (lda_ K M 0 rfl rfl rfl rfl rfl rfl rfl R.sz fun a K => run_ 1 K rfl fun a K => cl_ K Tryz.func16 (by kernel_rfl) rfl rfl rfl rfl rfl rfl ((P1 _ _ ht (R.below M.bl)).mono ?_)))
  rintro _ w5 ⟨rfl, b5⟩
  replace C4 := Kd.C_below C4 b5
  replace M := M.call b5
  replace R := R.below M.bl
  have B5 := M.bl
  replace M := M.here
  clear hb hrec en nil
  have fin : ∀ {V : World}, Below w5.heap.size w5 V → Below w.heap.size w V := fun q => below_step B5 q
  refine ⟨_, rfl, fun a K => run_ 5 K rfl fun a K => nil_ (wp_seq (sr_ (run_ 2 K rfl fun a K => nil_ (cs_ K rfl rfl (wp_seq (sr_ (run_ 1 K rfl fun a K => nil_ ?_)))))))⟩
  refine wp_block (wp_loop (fun a W => ∃ i : Nat, i ≤ l.length ∧ Kn 169 [(15, .int .i64 (i : Int)), (13, .int .i64 (perV r t)), (10, .slice A4 l.length c4), (9, .int .i64 (f + q)), (2, .int .i64 f), (1, .int .i64 t), (4, .pointer (some ⟨g0, 0, none⟩))] a ∧ On [(g0, .cells cs 25 (0, 0))] w5 W) (fun a _ => leftN 15 l.length a) ⟨0, Nat.zero_le _, fg_ K ⟨rfl, rfl, rfl, rfl, rfl, rfl, rfl, trivial⟩, M⟩ ?_)
  clear K M
  rintro a W ⟨i, hi, K, M⟩
  refine wp_seq (sr_ (run_ 3 K rfl fun a2 K2 => ?_))
  by_cases hc : i < l.length
  case neg =>
    obtain rfl : i = l.length := Nat.le_antisymm hi (Nat.le_of_not_lt hc)
    refine run_ 1 K2 rfl fun a K => nil_ (cf_ K rfl (decide_eq_false (Int.lt_irrefl _)) (ex_ (thn_ (sr_ (cl_ K Tryz.func19 (by kernel_rfl) rfl rfl rfl rfl rfl rfl (wakes_on.mono ?_))))))
    rintro _ w6 ⟨rfl, b6⟩
    exact ⟨_, rfl, fun a K => run_ 1 K rfl fun a K => nil_ (ret_ rfl K rfl ⟨rfl, fin (M.call b6).bl⟩)⟩
  clear hi
  have hi := hc
  have hn : l.length ≤ 4611686018427387904 := Nat.le_trans len (by decide)
  obtain ⟨ad, rfl, hat⟩ := C_at C4 (Nat.lt_of_le_of_lt (Nat.zero_le _) hc)
  have hp := told _ (List.getElem_mem hc)
  have xi : ∀ V, On [(g0, .cells cs 25 (0, 0))] w5 V → V.cell? (ad.add (i * 1)) = some (.int .i64 l[i]) := fun V hV => cell_on hV (hat i _ (List.getElem?_eq_getElem hc))
  obtain ⟨e1, e2, e3⟩ := pt_facts h ht hp
  have enx := nxt_i hc hn
  refine run_ 1 K2 rfl fun a K2 => nil_ (ck_ K2 rfl (decide_eq_true (Int.ofNat_lt.2 hc)) ?_)
  refine wp_seq (bjn_ (fun a' W' => Kn 169 [(15, .int .i64 (i : Int)), (13, .int .i64 (perV r t)), (10, .slice (some ad) l.length c4), (9, .int .i64 (f + q)), (2, .int .i64 f), (1, .int .i64 t), (4, .pointer (some ⟨g0, 0, none⟩))] a' ∧ On [(g0, .cells cs 25 (0, 0))] w5 W') (wp_seq ?_) ?_)
  case refine_2 =>
    rintro a' W' ⟨K', M'⟩
    refine rg_ (run_ 3 K' rfl fun a5 K5 => nl_ ⟨⟨i + 1, hc, fg_ (ks_ (i := 15) K5 rfl (congrArg (Value.int .i64) enx)) ⟨rfl, rfl, rfl, rfl, rfl, rfl, rfl, trivial⟩, M'⟩, ?_⟩)
    rw [leftN_ (d := 15) K5 rfl, leftN_ (d := 15) K rfl, enx]
    exact leftN_lt hc
  replace K := fg_ (E' := [(15, .int .i64 (i : Int)), (13, .int .i64 (perV r t)), (10, .slice (some ad) l.length c4), (9, .int .i64 (f + q)), (2, .int .i64 f), (1, .int .i64 t), (4, .pointer (some ⟨g0, 0, none⟩))]) K2 ⟨rfl, rfl, rfl, rfl, rfl, rfl, rfl, trivial⟩
  refine sj_ (fun a' W' => Kn 169 [(118, .bool false), (15, .int .i64 (i : Int)), (13, .int .i64 (perV r t)), (10, .slice (some ad) l.length c4), (9, .int .i64 (f + q)), (2, .int .i64 f), (1, .int .i64 t), (4, .pointer (some ⟨g0, 0, none⟩))] a' ∧ On [(g0, .cells cs 25 (0, 0))] w5 W') ?_ ?_
  · by_cases i0 : 0 < i
    case neg =>
      have e4 : decide (0 < (i : Int)) = false := decide_eq_false (by omega)
      refine draw_ fl rfl rfl M.drew ( dp_ 19 35 [0, 1, 4] K rfl rfl (by kernel_rfl) fun a K => dt_ 23 2 K M.drew rfl rfl rfl rfl (by kernel_rfl) (fun W hW => run_ix22 (kk := i) hi hn rfl (K.of (x := .tmp 81) rfl) (K.of (x := .tmp 82) rfl)) fun a K => dt_ 31 3 K M.drew rfl rfl rfl rfl (by kernel_rfl) (fun W hW => run_ld rfl rfl (K.of (x := .tmp 83) rfl) (xi W hW)) fun a K => dp_ 63 32 [5] K rfl rfl (by kernel_rfl) fun a K => dp_ 2559 28 [6, 7, 8, 11] (fx_ K e1) rfl rfl (by kernel_rfl) fun a K => dt_ 3071 9 K M.drew rfl rfl rfl rfl (by kernel_rfl) (fun W hW => run_ix22 (kk := i) hi hn rfl (K.of (x := .tmp 88) rfl) (K.of (x := .tmp 89) rfl)) fun a K => dt_ 4095 10 K M.drew rfl rfl rfl rfl (by kernel_rfl) (fun W hW => run_ld rfl rfl (K.of (x := .tmp 90) rfl) (xi W hW)) fun a K => dp_ 8191 25 [12] K rfl rfl (by kernel_rfl) fun a K => dp_ 655359 20 [13, 14, 15, 16, 19] (fx_ K e2) rfl rfl (by kernel_rfl) fun a K => dt_ 786431 17 K M.drew rfl rfl rfl rfl (by kernel_rfl) (fun W hW => run_ix22 (kk := i) hi hn rfl (K.of (x := .tmp 96) rfl) (K.of (x := .tmp 97) rfl)) fun a K => dt_ 1048575 18 K M.drew rfl rfl rfl rfl (by kernel_rfl) (fun W hW => run_ld rfl rfl (K.of (x := .tmp 98) rfl) (xi W hW)) fun a K => dp_ 2097151 17 [20] K rfl rfl (by kernel_rfl) fun a K => dp_ 33554431 13 [21, 22, 23, 24] (fx_ K e3) rfl rfl (by kernel_rfl) fun a K => dp_ 274877906943 0 [25, 26, 27, 28, 29, 30, 31, 32, 33, 34, 35, 36, 37] (fx_ K e4) rfl rfl (by kernel_rfl) fun a K => dend_ (by kernel_rfl) ?_)
      exact ⟨fg_ K ⟨rfl, rfl, rfl, rfl, rfl, rfl, rfl, rfl, trivial⟩, M.drew⟩
    case pos =>
      have e4 : decide (0 < (i : Int)) = true := decide_eq_true (Int.ofNat_lt.2 i0)
      have hi1 : i - 1 < l.length := Nat.lt_of_le_of_lt (Nat.sub_le _ _) hc
      have xj : ∀ V, On [(g0, .cells cs 25 (0, 0))] w5 V → V.cell? (ad.add ((i - 1) * 1)) = some (.int .i64 l[i - 1]) := fun V hV => cell_on hV (hat (i - 1) _ (List.getElem?_eq_getElem hi1))
      have ei1 := pre_i hc i0 hn
      have e5 := lt_at rise hc i0
      refine draw_ fl rfl rfl M.drew ( dp_ 19 35 [0, 1, 4] K rfl rfl (by kernel_rfl) fun a K => dt_ 23 2 K M.drew rfl rfl rfl rfl (by kernel_rfl) (fun W hW => run_ix22 (kk := i) hi hn rfl (K.of (x := .tmp 81) rfl) (K.of (x := .tmp 82) rfl)) fun a K => dt_ 31 3 K M.drew rfl rfl rfl rfl (by kernel_rfl) (fun W hW => run_ld rfl rfl (K.of (x := .tmp 83) rfl) (xi W hW)) fun a K => dp_ 63 32 [5] K rfl rfl (by kernel_rfl) fun a K => dp_ 2559 28 [6, 7, 8, 11] (fx_ K e1) rfl rfl (by kernel_rfl) fun a K => dt_ 3071 9 K M.drew rfl rfl rfl rfl (by kernel_rfl) (fun W hW => run_ix22 (kk := i) hi hn rfl (K.of (x := .tmp 88) rfl) (K.of (x := .tmp 89) rfl)) fun a K => dt_ 4095 10 K M.drew rfl rfl rfl rfl (by kernel_rfl) (fun W hW => run_ld rfl rfl (K.of (x := .tmp 90) rfl) (xi W hW)) fun a K => dp_ 8191 25 [12] K rfl rfl (by kernel_rfl) fun a K => dp_ 655359 20 [13, 14, 15, 16, 19] (fx_ K e2) rfl rfl (by kernel_rfl) fun a K => dt_ 786431 17 K M.drew rfl rfl rfl rfl (by kernel_rfl) (fun W hW => run_ix22 (kk := i) hi hn rfl (K.of (x := .tmp 96) rfl) (K.of (x := .tmp 97) rfl)) fun a K => dt_ 1048575 18 K M.drew rfl rfl rfl rfl (by kernel_rfl) (fun W hW => run_ld rfl rfl (K.of (x := .tmp 98) rfl) (xi W hW)) fun a K => dp_ 2097151 17 [20] K rfl rfl (by kernel_rfl) fun a K => dp_ 33554431 13 [21, 22, 23, 24] (fx_ K e3) rfl rfl (by kernel_rfl) fun a K => dp_ 7784628223 7 [25, 26, 27, 30, 31, 32] (fx_ K e4) rfl rfl (by kernel_rfl) fun a K => dt_ 8053063679 28 K M.drew rfl rfl rfl rfl (by kernel_rfl) (fun W hW => run_ix22 (kk := i) hi hn rfl (K.of (x := .tmp 107) rfl) (K.of (x := .tmp 108) rfl)) fun a K => dt_ 8589934591 29 K M.drew rfl rfl rfl rfl (by kernel_rfl) (fun W hW => run_ld rfl rfl (K.of (x := .tmp 109) rfl) (xi W hW)) fun a K => dt_ 17179869183 33 K M.drew rfl rfl rfl rfl (by kernel_rfl) (fun W hW => run_ix22 (kk := i - 1) hi1 hn rfl (K.of (x := .tmp 111) rfl) ((K.of (x := .tmp 113) rfl).trans (congrArg (Value.int .i64) ei1))) fun a K => dt_ 34359738367 34 K M.drew rfl rfl rfl rfl (by kernel_rfl) (fun W hW => run_ld rfl rfl (K.of (x := .tmp 114) rfl) (xj W hW)) fun a K => dp_ 68719476735 2 [35] K rfl rfl (by kernel_rfl) fun a K => dp_ 274877906943 0 [36, 37] (fx_ K e5) rfl rfl (by kernel_rfl) fun a K => dend_ (by kernel_rfl) ?_)
      exact ⟨fg_ K ⟨rfl, rfl, rfl, rfl, rfl, rfl, rfl, rfl, trivial⟩, M.drew⟩
  clear K K2 M
  rintro a W ⟨K, M⟩
  refine cs_ K rfl rfl (wp_seq (sr_ ?_))
  refine run_ 2 K rfl fun a K => val_ K rfl rfl rfl (run_ix22 (kk := i) hi hn rfl (K.of (x := .tmp 119) rfl) (K.of (x := .tmp 120) rfl)) fun a K => val_ K rfl rfl rfl (run_ld rfl rfl (K.of (x := .tmp 121) rfl) (xi _ M)) fun a K => run_ 2 K rfl fun a K => nil_ ?_
  by_cases hx : l[i] = t
  case pos => exact ct_ K rfl (decide_eq_true hx) (ex_ (thn_ ⟨fg_ K ⟨rfl, rfl, rfl, rfl, rfl, rfl, rfl, trivial⟩, M⟩))
  obtain ⟨m1, m2, m3, e6⟩ := pt_more h ht hp hx
  have ll : ∀ V, Rul V cs r → Calls Tryz.prog 20 #[.agg cs, .int .i64 t, .int .i64 l[i]] V (Rets V (.bool true)) := fun V hV => by
    have := lets_on hV h tt.1 tt.2 (let_un m1).1 (let_un m1).2
    rw [m2] at this
    exact this
  refine cs_ K rfl (decide_eq_false hx) ?_
  refine dseq_ fl rfl rfl M.drew ( dp_ 6 9 [1, 2] K rfl rfl (by kernel_rfl) fun a K => dlda_ 7 0 K M.drew 0 rfl rfl rfl rfl rfl rfl rfl rfl R.sz (by kernel_rfl) fun a K => dt_ 15 3 K M.drew rfl rfl rfl rfl (by kernel_rfl) (fun W hW => run_ix22 (kk := i) hi hn rfl (K.of (x := .tmp 127) rfl) (K.of (x := .tmp 128) rfl)) fun a K => dt_ 31 4 K M.drew rfl rfl rfl rfl (by kernel_rfl) (fun W hW => run_ld rfl rfl (K.of (x := .tmp 129) rfl) (xi W hW)) fun a K => dc_ 63 5 K Tryz.func16 (by kernel_rfl) rfl rfl rfl rfl rfl rfl rfl (by kernel_rfl) ((P1 _ _ m1 (R.below M.drew.bl)).mono ?_))
  rintro _ w5 ⟨rfl, b5⟩
  replace M := M.drew.call b5
  refine ⟨_, rfl, M, fun a K => dp_ 2047 0 [6, 7, 9, 8, 10] K rfl rfl (by kernel_rfl) fun a K => dend_ (by kernel_rfl) ?_⟩
  replace K := fg_ (E' := [(17, .int .i64 0), (16, .int .i64 (perV r l[i])), (15, .int .i64 (i : Int)), (13, .int .i64 (perV r t)), (10, .slice (some ad) l.length c4), (9, .int .i64 (f + q)), (2, .int .i64 f), (1, .int .i64 t), (4, .pointer (some ⟨g0, 0, none⟩))]) K ⟨rfl, rfl, rfl, rfl, rfl, rfl, rfl, rfl, rfl, trivial⟩
  cases hun : r.un with
  | false =>
    have c3 : cs[3]? = some (.bool false) := R.c3.trans (by rw [hun])
    refine dseq_ fl rfl rfl M.drew ( dp_ 3 32 [0, 1] K rfl rfl (by kernel_rfl) fun a K => dp_ 127 27 [2, 3, 4, 5, 6] (fx_ K rfl) rfl rfl (by kernel_rfl) fun a K => dld_ 255 7 K M.drew 0 rfl rfl rfl rfl rfl rfl rfl R.c1 rfl (by kernel_rfl) fun a K => dt_ 511 8 K M.drew rfl rfl rfl rfl (by kernel_rfl) (fun W hW => run_bin rfl Tryz.underlying3 Tryz.underlying3 (K.of (x := .tmp 139) rfl) (K.of (x := .tmp 141) rfl) (rem_ hiv)) fun a K => dp_ 1023 24 [9] K rfl rfl (by kernel_rfl) fun a K => dp_ 61439 19 [10, 11, 13, 14, 15] (fx_ K e6) rfl rfl (by kernel_rfl) fun a K => dlda_ 65535 12 K M.drew 0 rfl rfl rfl rfl rfl rfl rfl rfl R.sz (by kernel_rfl) fun a K => dt_ 131071 16 K M.drew rfl rfl rfl rfl (by kernel_rfl) (fun W hW => run_ix22 (kk := i) hi hn rfl (K.of (x := .tmp 148) rfl) (K.of (x := .tmp 149) rfl)) fun a K => dt_ 262143 17 K M.drew rfl rfl rfl rfl (by kernel_rfl) (fun W hW => run_ld rfl rfl (K.of (x := .tmp 150) rfl) (xi W hW)) fun a K => dc_ 524287 18 K Tryz.func20 (by kernel_rfl) rfl rfl rfl rfl rfl rfl rfl (by kernel_rfl) ((ll _ (R.below M.drew.bl)).mono ?_))
    rintro _ w18 ⟨rfl, b18⟩
    replace M := M.drew.call b18
    refine ⟨_, rfl, M, fun a K => dp_ 8388607 11 [19, 20, 21, 22] K rfl rfl (by kernel_rfl) fun a K => dld_ 16777215 23 K M 0 rfl rfl rfl rfl rfl rfl rfl c3 rfl (by kernel_rfl) fun a K => dp_ 17179869183 0 [24, 25, 26, 27, 28, 29, 30, 31, 32, 33] K rfl rfl (by kernel_rfl) fun a K => dend_ (by kernel_rfl) ?_⟩
    exact cf_ K rfl rfl (wp_skip ⟨fg_ K ⟨rfl, rfl, rfl, rfl, rfl, rfl, rfl, trivial⟩, M⟩)
  | true =>
    have c3 : cs[3]? = some (.bool true) := R.c3.trans (by rw [hun])
    have e7 := m3 hun
    refine dseq_ fl rfl rfl M.drew ( dp_ 3 32 [0, 1] K rfl rfl (by kernel_rfl) fun a K => dp_ 127 27 [2, 3, 4, 5, 6] (fx_ K rfl) rfl rfl (by kernel_rfl) fun a K => dld_ 255 7 K M.drew 0 rfl rfl rfl rfl rfl rfl rfl R.c1 rfl (by kernel_rfl) fun a K => dt_ 511 8 K M.drew rfl rfl rfl rfl (by kernel_rfl) (fun W hW => run_bin rfl Tryz.underlying3 Tryz.underlying3 (K.of (x := .tmp 139) rfl) (K.of (x := .tmp 141) rfl) (rem_ hiv)) fun a K => dp_ 1023 24 [9] K rfl rfl (by kernel_rfl) fun a K => dp_ 61439 19 [10, 11, 13, 14, 15] (fx_ K e6) rfl rfl (by kernel_rfl) fun a K => dlda_ 65535 12 K M.drew 0 rfl rfl rfl rfl rfl rfl rfl rfl R.sz (by kernel_rfl) fun a K => dt_ 131071 16 K M.drew rfl rfl rfl rfl (by kernel_rfl) (fun W hW => run_ix22 (kk := i) hi hn rfl (K.of (x := .tmp 148) rfl) (K.of (x := .tmp 149) rfl)) fun a K => dt_ 262143 17 K M.drew rfl rfl rfl rfl (by kernel_rfl) (fun W hW => run_ld rfl rfl (K.of (x := .tmp 150) rfl) (xi W hW)) fun a K => dc_ 524287 18 K Tryz.func20 (by kernel_rfl) rfl rfl rfl rfl rfl rfl rfl (by kernel_rfl) ((ll _ (R.below M.drew.bl)).mono ?_))
    rintro _ w18 ⟨rfl, b18⟩
    replace M := M.drew.call b18
    refine ⟨_, rfl, M, fun a K => dp_ 8388607 11 [19, 20, 21, 22] K rfl rfl (by kernel_rfl) fun a K => dld_ 16777215 23 K M 0 rfl rfl rfl rfl rfl rfl rfl c3 rfl (by kernel_rfl) fun a K => dp_ 671088639 6 [24, 25, 26, 29] K rfl rfl (by kernel_rfl) fun a K => dld_ 1744830463 30 K M 0 rfl rfl rfl rfl rfl rfl rfl R.c4 rfl (by kernel_rfl) fun a K => dt_ 1879048191 27 K M rfl rfl rfl rfl (by kernel_rfl) (fun W hW => run_ix22 (kk := i) hi hn rfl (K.of (x := .tmp 159) rfl) (K.of (x := .tmp 160) rfl)) fun a K => dt_ 2147483647 28 K M rfl rfl rfl rfl (by kernel_rfl) (fun W hW => run_ld rfl rfl (K.of (x := .tmp 161) rfl) (xi W hW)) fun a K => dp_ 4294967295 2 [31] K rfl rfl (by kernel_rfl) fun a K => dp_ 17179869183 0 [32, 33] (fx_ K e7) rfl rfl (by kernel_rfl) fun a K => dend_ (by kernel_rfl) ?_⟩
    exact cf_ K rfl rfl (wp_skip ⟨fg_ K ⟨rfl, rfl, rfl, rfl, rfl, rfl, rfl, trivial⟩, M⟩)
end Go.Proofs.YtjjaiahfkiojlaaGreat.Pure
