/- RruleAll answers true. No condition but that the rule's end is an int. -/
import Derived.Test.YtjjaiahfkiojlaaGreatMT23u
import Derived.Test.YtjjaiahfkiojlaaGreatT23A
namespace Go.Proofs.YtjjaiahfkiojlaaGreat.Pure
open Go.RowKit Go.Proofs.YtjjaiahfkiojlaaGreat.O Go.Proofs.YtjjaiahfkiojlaaGreatW.PrintWords Go.Proofs.YtjjaiahfkiojlaaGreatW.PrintLast
open Go.Proofs.YtjjaiahfkiojlaaGreat.Civ
set_option linter.unusedVariables false
set_option linter.unusedSimpArgs false
set_option maxRecDepth 100000
set_option maxHeartbeats 4000000
theorem few_of {r : RR} (h : heavyB r.sec r.mi r.ho r.dy r.md r.yd r.wn r.mo r.sp = false) : Few r := by
  unfold heavyB at h
  have := of_decide_eq_false h
  exact ⟨by omega, by omega, by omega⟩
theorem umB (a : Int) {n : Int} (hn : 0 < n) (hn' : n ≤ 1000000000000) : ∃ r, 0 ≤ r ∧ r < n ∧ wrap64 (Int.tmod (IntKind.u64.wrap a) n) = r := by
  have h1 := Int.emod_nonneg (IntKind.u64.wrap a) (show n ≠ 0 by omega)
  have h2 := Int.emod_lt_of_pos (IntKind.u64.wrap a) hn
  refine ⟨IntKind.u64.wrap a % n, h1, h2, ?_⟩
  rw [tmod_nn n (by rw [u64w]; omega), w64 (by omega) (by omega)]
theorem rem_ {m n : Int} (h : n ≠ 0) : binE .rem m n = some (.int .i64 (Int.tmod m n)) := by
  simp only [binE, decide_eq_false h]
theorem times_errno {r : RR} {st from_ to_ F : Int} (h : mayT from_ to_ F) : (timesV r st from_ to_ F).2.2 = 0 ∨ (timesV r st from_ to_ F).2.2 = 22 := by
  unfold timesV
  rw [if_pos h]
  split
  · exact Or.inr rfl
  · exact Or.inl rfl
theorem year_cap {t : Int} (it : InT t) (h : (dt (t / 86400)).1 ≤ 9997) : t ≤ 253370159999 := by
  have y := dt_year it
  obtain ⟨⟨y0, y1, m0, m1, d0, d1⟩, e⟩ := dt_spec (n := t / 86400) (by omega) (by omega)
  have := num_in ⟨y0, y1, m0, m1, d0, d1⟩
  rw [e] at this
  have l := ah_le (a := (dt (t / 86400)).1 + 1) (b := 9998) (by omega)
  have e : ah 9998 = 3651695 := by decide
  omega
theorem sub_per {r : RR} {s t : Int} (h : Right r) (hs : InT s) (ht : InT t) : wrap64 (perV r t - perV r s) = perV r t - perV r s := by
  have a := inP_small h.lens (inP_per h.lens hs)
  have b := inP_small h.lens (inP_per h.lens ht)
  exact w64 (by omega) (by omega)
theorem RruleAll_on {w : World} {cs : Array Value} {r : RR} (R : Rul w cs r) (u1 : -9223372036854775808 ≤ r.ua) (u2 : r.ua < 9223372036854775808) (a1 a2 : Int) : Calls Tryz.prog 3 #[.agg cs, .int .i64 a1, .int .i64 a2] w (Rets w (.bool true)) := by
  obtain ⟨b, hb, hrec⟩ := recur_on R u1 u2
  obtain ⟨q, q1, q2, eq⟩ := umB a2 (n := 4000000000) (by decide) (by decide)
  obtain ⟨A14, k14, e14, _⟩ := R.c14
  refine en_ Tryz.func3 rfl rfl rfl fun a K => sr_ (bx_ K (On.nil w) rfl rfl rfl rfl rfl rfl fun a g0 W M K => run_ 1 K rfl fun a K => nil_ (wp_seq (sr_ (lda_ K M 0 rfl rfl rfl rfl rfl rfl rfl R.sz fun a K => cl_ K Tryz.func12 (by kernel_rfl) rfl rfl rfl rfl rfl rfl ((heavy_on (R.below M.bl)).mono ?_)))))
  rintro _ w1 ⟨rfl, b1⟩
  replace M := M.call b1
  refine ⟨_, rfl, fun a K => run_ 1 K rfl fun a K => ?_⟩
  cases hh : heavyB r.sec r.mi r.ho r.dy r.md r.yd r.wn r.mo r.sp with
  | true => exact run_ 19 (fx_ K hh) rfl fun a K => nil_ (ct_ K rfl rfl (sr_ (run_ 1 K rfl fun a K => nil_ (ret_ rfl K rfl ⟨rfl, M.bl⟩))))
  | false =>
  have hw := few_of hh
  refine lda_ (fx_ K hh) M 0 rfl rfl rfl rfl rfl rfl rfl R.sz fun a K => cl_ K Tryz.func13 (by kernel_rfl) rfl rfl rfl rfl rfl rfl ((hrec _ M.bl).mono ?_)
  rintro _ w2 ⟨rfl, b2⟩
  replace M := M.call b2
  cases b with
  | false => exact ⟨_, rfl, fun a K => run_ 17 K rfl fun a K => nil_ (ct_ K rfl rfl (sr_ (run_ 1 K rfl fun a K => nil_ (ret_ rfl K rfl ⟨rfl, M.bl⟩))))⟩
  | true =>
  have h := hb rfl
  refine ⟨_, rfl, fun a K => run_ 4 K rfl fun a K => ld_ K M 0 rfl rfl rfl rfl rfl rfl R.c2 rfl fun a K => run_ 1 K rfl fun a K => ?_⟩
  by_cases hc : 0 < r.ct
  case pos => exact run_ 11 (fx_ K (decide_eq_true hc)) rfl fun a K => nil_ (ct_ K rfl rfl (sr_ (run_ 1 K rfl fun a K => nil_ (ret_ rfl K rfl ⟨rfl, M.bl⟩))))
  refine run_ 3 (fx_ K (decide_eq_false hc)) rfl fun a K => ld_ K M 0 rfl rfl rfl rfl rfl rfl R.c3 rfl fun a K => ?_
  cases hu : r.un with
  | true => exact run_ 7 (fx_ K hu) rfl fun a K => nil_ (ct_ K rfl rfl (sr_ (run_ 1 K rfl fun a K => nil_ (ret_ rfl K rfl ⟨rfl, M.bl⟩))))
  | false =>
  refine run_ 3 (fx_ K hu) rfl fun a K => ld_ K M 0 rfl rfl rfl rfl rfl rfl e14 rfl fun a K => run_ 3 K rfl fun a K => nil_ ?_
  by_cases hsp : r.sp = []
  case neg => exact ct_ K rfl (decide_eq_true (by have := List.length_pos_iff.2 hsp; omega)) (sr_ (run_ 1 K rfl fun a K => nil_ (ret_ rfl K rfl ⟨rfl, M.bl⟩)))
  refine cs_ K rfl (by rw [hsp]; rfl) (sr_ (run_ 1 K rfl fun a K => cl_ K Tryz.func14 (by kernel_rfl) rfl rfl rfl rfl rfl rfl ((some_on a1).mono ?_)))
  rintro _ w3 ⟨st, ht, rfl, b3⟩
  replace M := M.call b3
  have hc0 : r.ct = 0 := by have := h.ct0; omega
  have t1 : -62135596800 ≤ st ∧ st ≤ 253402300799 := by unfold InT at ht; exact ht
  obtain ⟨t, et⟩ : ∃ t, t = st + q := ⟨_, rfl⟩
  have hlt : st ≤ t := by omega
  have t64 : -9223372036854775808 ≤ t ∧ t < 9223372036854775808 := by omega
  have hmay : mayT t t 3000 := by unfold mayT; omega
  have ew : wrap64 (st + wrap64 (Int.tmod (IntKind.u64.wrap a2) 4000000000)) = t := by rw [eq, w64 (by omega) (by omega), et]
  have en := times_errno (r := r) (st := st) hmay
  clear eq q1 q2 hmay et
  refine ⟨_, rfl, fun a K => run_ 1 K rfl fun a K => nil_ (sr_ (run_ 7 K rfl fun a K => nil_ ?_))⟩
  replace K := fg_ (E' := [(7, .int .i64 t), (1, .int .i64 st), (3, .pointer (some ⟨g0, 0, none⟩))]) (ks_ (i := 7) (u := .int .i64 t) K rfl (congrArg (Value.int .i64) ew)) ⟨rfl, rfl, rfl, trivial⟩
  clear ew
  refine sr_ (run_ 1 K rfl fun a K => cl_ K Tryz.func15 (by kernel_rfl) rfl rfl rfl rfl rfl rfl ((years_on t64.1 t64.2 _).mono ?_))
  rintro _ w4 ⟨rfl, b4⟩
  refine ⟨_, rfl, fun a K => run_ 3 K rfl fun a K => nw_ K (M.call b4) rfl rfl rfl rfl rfl rfl rfl (fun _ => rfl) rfl rfl rfl fun a g1 W1 M K => run_ 1 K rfl fun a K => nil_ (wp_seq (sr_ ?_))⟩
  by_cases hy : (yearsV t).2.2.2 = true
  case neg =>
    have hy : (yearsV t).2.2.2 = false := by simpa using hy
    rw [hy] at K
    exact run_ 7 K rfl fun a K => nil_ (ct_ K rfl rfl (sr_ (run_ 1 K rfl fun a K => nil_ (ret_ rfl K rfl ⟨rfl, M.bl⟩))))
  have it := years_ok hy
  rw [years_in it] at K M
  refine run_ 4 K rfl fun a K => ld_ K M 0 rfl rfl rfl rfl rfl rfl rfl rfl fun a K => run_ 2 K rfl fun a K => nil_ ?_
  by_cases hcap : 9997 < (dt (t / 86400)).1
  case pos => exact ct_ K rfl (decide_eq_true hcap) (sr_ (run_ 1 K rfl fun a K => nil_ (ret_ rfl K rfl ⟨rfl, M.bl⟩)))
  have cap := year_cap it (by omega)
  have P1 : ∀ V x, InT x → Rul V cs r → Calls Tryz.prog 16 #[.agg cs, .int .i64 x] V (Rets V (.tuple #[.int .i64 (perV r x), .int .i64 0])) := fun V x hx hV => by
    have := Period_on hV h x
    rw [if_pos hx] at this
    exact this
  refine cs_ K rfl (decide_eq_false hcap) ?_
  replace K := fg_ (E' := [(7, .int .i64 t), (1, .int .i64 st), (3, .pointer (some ⟨g0, 0, none⟩))]) K ⟨rfl, rfl, rfl, trivial⟩
  refine sr_ (lda_ K M 1 rfl rfl rfl rfl rfl rfl rfl R.sz fun a K => run_ 1 K rfl fun a K => cl_ K Tryz.func16 (by kernel_rfl) rfl rfl rfl rfl rfl rfl ((P1 _ _ ht (R.below M.bl)).mono ?_))
  rintro _ w5 ⟨rfl, b5⟩
  replace M := M.call b5
  refine ⟨_, rfl, fun a K => run_ 5 K rfl fun a K => nil_ ?_⟩
  refine sr_ (lda_ K M 1 rfl rfl rfl rfl rfl rfl rfl R.sz fun a K => run_ 1 K rfl fun a K => cl_ K Tryz.func16 (by kernel_rfl) rfl rfl rfl rfl rfl rfl ((P1 _ _ it (R.below M.bl)).mono ?_))
  rintro _ w6 ⟨rfl, b6⟩
  replace M := M.call b6
  refine ⟨_, rfl, fun a K => run_ 5 K rfl fun a K => nil_ ?_⟩
  refine sr_ (lda_ K M 1 rfl rfl rfl rfl rfl rfl rfl R.sz fun a K => run_ 1 K rfl fun a K => cl_ K Tryz.func17 (by kernel_rfl) rfl rfl rfl rfl rfl rfl ((Span_on (R.below M.bl) h (perV r st)).mono ?_))
  rintro _ w7 ⟨rfl, b7⟩
  replace M := M.call b7
  refine ⟨_, rfl, fun a K => run_ 7 K rfl fun a K => nil_ ?_⟩
  replace K := fg_ (E' := [(16, .int .i64 (spanV r (perV r st)).2.2), (13, .int .i64 0), (12, .int .i64 (perV r t)), (11, .int .i64 0), (10, .int .i64 (perV r st)), (7, .int .i64 t), (1, .int .i64 st), (3, .pointer (some ⟨g0, 0, none⟩))]) K ⟨rfl, rfl, rfl, rfl, rfl, rfl, rfl, rfl, trivial⟩
  refine sr_ (lda_ K M 1 rfl rfl rfl rfl rfl rfl rfl R.sz fun a K => run_ 3 K rfl fun a K => cl_ K Tryz.func18 (by kernel_rfl) rfl rfl rfl rfl rfl rfl ((Times_on (from_ := t) (to_ := t) (F := 3000) (R.below M.bl) h hw ht).mono ?_))
  rintro _ w8 ⟨v8, rfl, R8, b8⟩
  replace M := M.call b8
  have ai := all_iff h ht hsp hc0 hu hlt cap
  generalize (timesV r st t t 3000).1 = l at R8 ai
  generalize (timesV r st t t 3000).2.1 = c at ⊢
  generalize (timesV r st t t 3000).2.2 = z at en ai ⊢
  obtain ⟨A8, c8, e8, h8, C8⟩ := Kd.R_reads R8
  subst e8
  clear R8
  refine ⟨_, rfl, fun a K => run_ 7 K rfl fun a K => nil_ (wp_seq (sr_ (run_ 6 K rfl fun a K => nil_ (cs_ K rfl rfl (wp_seq (sr_ (run_ 2 K rfl fun a K => nil_ ?_)))))))⟩
  by_cases ez : z = 0
  case neg =>
    obtain rfl : z = 22 := en.resolve_left ez
    refine ct_ K rfl (ne0_ ez) (sr_ (run_ 3 K rfl fun a K => cl_ (fx_ (c := true) K rfl) Tryz.func19 (by kernel_rfl) rfl rfl rfl rfl rfl rfl (wakes_on.mono ?_)))
    rintro _ w9 ⟨rfl, b9⟩
    exact ⟨_, rfl, fun a K => run_ 2 K rfl fun a K => nil_ (ret_ rfl K rfl ⟨rfl, (M.call b9).bl⟩)⟩
  replace ai := ai ez
  have hiv : r.iv ≠ 0 := by have := h.iv; omega
  have es := sub_per h ht it
  have st64 : -9223372036854775808 ≤ st ∧ st < 9223372036854775808 := by omega
  have ll : ∀ V, Rul V cs r → Calls Tryz.prog 20 #[.agg cs, .int .i64 st, .int .i64 t] V (Rets V (.bool (letsV r st t))) := fun V hV => lets_on hV h st64.1 st64.2 t64.1 t64.2
  refine cs_ K rfl (ne0f_ ez) ?_
  replace K := fg_ (E' := [(17, .slice A8 l.length c8), (16, .int .i64 (spanV r (perV r st)).2.2), (12, .int .i64 (perV r t)), (10, .int .i64 (perV r st)), (7, .int .i64 t), (1, .int .i64 st), (3, .pointer (some ⟨g0, 0, none⟩))]) K ⟨rfl, rfl, rfl, rfl, rfl, rfl, rfl, trivial⟩
  have B8 := M.bl
  replace R := R.below M.bl
  replace M := M.here
  have fin : ∀ {V : World}, Below w8.heap.size w8 V → Below w.heap.size w V := fun q => below_step B8 q
  clear hb hrec en
  generalize hW : decide (t = st ∨ ((spanV r (perV r st)).2.2 = 0 ∧ Int.tmod (perV r t - perV r st) r.iv = 0 ∧ letsV r st t = true)) = wv
  refine sj_ (fun a' W' => Kn 149 [(20, .bool wv), (17, .slice A8 l.length c8), (7, .int .i64 t)] a' ∧ On [(g1, .cells #[.int .i64 (dt (t / 86400)).1, .int .i64 (dt (t / 86400)).2.1, .int .i64 (dt (t / 86400)).2.2] 30 (0, 0)), (g0, .cells cs 25 (0, 0))] w8 W') (rg_ (run_ 3 K rfl fun a K => ?_)) ?_
  · by_cases k1 : t = st
    · exact run_ 20 (fx_ K (decide_eq_true k1)) rfl fun a K => nl_ ⟨fg_ (ks_ (i := 20) (u := .bool wv) K rfl (congrArg Value.bool (by rw [← hW]; simp [k1]))) ⟨rfl, rfl, rfl, trivial⟩, M⟩
    refine run_ 3 (fx_ K (decide_eq_false k1)) rfl fun a K => ?_
    by_cases k2 : (spanV r (perV r st)).2.2 = 0
    case neg => exact run_ 17 (fx_ K (decide_eq_false k2)) rfl fun a K => nl_ ⟨fg_ (ks_ (i := 20) (u := .bool wv) K rfl (congrArg Value.bool (by rw [← hW]; simp [k1, k2]))) ⟨rfl, rfl, rfl, trivial⟩, M⟩
    refine run_ 5 (fx_ K (decide_eq_true k2)) rfl fun a K => ld_ K M 1 rfl rfl rfl rfl rfl rfl R.c1 rfl fun a K => val_ K rfl rfl rfl (run_bin rfl Tryz.underlying3 Tryz.underlying3 (K.of (x := .tmp 113) rfl) (K.of (x := .tmp 115) rfl) (rem_ hiv)) fun a K => run_ 1 K rfl fun a K => ?_
    by_cases k3 : Int.tmod (perV r t - perV r st) r.iv = 0
    case neg => exact run_ 9 (fx_ K (decide_eq_false (by rw [es]; exact k3))) rfl fun a K => nl_ ⟨fg_ (ks_ (i := 20) (u := .bool wv) K rfl (congrArg Value.bool (by rw [← hW]; simp [k1, k3]))) ⟨rfl, rfl, rfl, trivial⟩, M⟩
    refine run_ 2 (fx_ K (decide_eq_true (by rw [es]; exact k3))) rfl fun a K => lda_ K M 1 rfl rfl rfl rfl rfl rfl rfl R.sz fun a K => run_ 2 K rfl fun a K => cl_ K Tryz.func20 (by kernel_rfl) rfl rfl rfl rfl rfl rfl ((ll _ (R.below M.bl)).mono ?_)
    rintro _ w9 ⟨rfl, b9⟩
    exact ⟨_, rfl, fun a K => run_ 3 K rfl fun a K => nl_ ⟨fg_ (ks_ (i := 20) (u := .bool wv) K rfl (congrArg Value.bool (by rw [← hW]; simp [k1, k2, k3]))) ⟨rfl, rfl, rfl, trivial⟩, M.call b9⟩⟩
  clear K M
  rintro a W9 ⟨K, M⟩
  rcases ai with ⟨rfl, hw1⟩ | ⟨rfl, hw1⟩
  · rw [decide_eq_true hw1] at hW
    subst hW
    obtain ⟨ad, rfl, hat⟩ := C_at C8 (Nat.succ_pos 0)
    have xi : ∀ V, On [(g1, .cells #[.int .i64 (dt (t / 86400)).1, .int .i64 (dt (t / 86400)).2.1, .int .i64 (dt (t / 86400)).2.2] 30 (0, 0)), (g0, .cells cs 25 (0, 0))] w8 V → V.cell? (ad.add (0 * 1)) = some (.int .i64 t) := fun V hV => cell_on hV (hat 0 _ rfl)
    refine sr_ (run_ 5 K rfl fun a K => val_ K rfl rfl rfl (run_ix22 (kk := 0) (show 0 < 1 by decide) (by decide) rfl (K.of (x := .tmp 130) rfl) rfl) fun a K => val_ K rfl rfl rfl (run_ld rfl rfl (K.of (x := .tmp 131) rfl) (xi _ M)) fun a K => run_ 2 K rfl fun a K => run_ 12 (fx_ K (decide_eq_true rfl)) rfl fun a K => cl_ K Tryz.func19 (by kernel_rfl) rfl rfl rfl rfl rfl rfl (wakes_on.mono ?_))
    rintro _ w10 ⟨rfl, b10⟩
    exact ⟨_, rfl, fun a K => run_ 2 K rfl fun a K => nil_ (ret_ rfl K rfl ⟨rfl, fin (M.call b10).bl⟩)⟩
  · rw [decide_eq_false hw1] at hW
    subst hW
    refine sr_ (run_ 21 K rfl fun a K => cl_ K Tryz.func19 (by kernel_rfl) rfl rfl rfl rfl rfl rfl (wakes_on.mono ?_))
    rintro _ w10 ⟨rfl, b10⟩
    exact ⟨_, rfl, fun a K => run_ 2 K rfl fun a K => nil_ (ret_ rfl K rfl ⟨rfl, fin (M.call b10).bl⟩)⟩
end Go.Proofs.YtjjaiahfkiojlaaGreat.Pure
