/- RrulePicks answers true. No condition but that the rule's end is an int and the places are read. -/
import Derived.Test.YtjjaiahfkiojlaaGreatMT23S
import Derived.Test.YtjjaiahfkiojlaaGreatMHT
import Derived.Test.YtjjaiahfkiojlaaGreatMOx150
namespace Go.Proofs.YtjjaiahfkiojlaaGreat.Pure
open Go.RowKit Go.Proofs.YtjjaiahfkiojlaaGreat.O Go.Proofs.YtjjaiahfkiojlaaGreatW.PrintWords Go.Proofs.YtjjaiahfkiojlaaGreatW.PrintLast
open Go.Proofs.YtjjaiahfkiojlaaGreat.Civ
set_option linter.unusedVariables false
set_option linter.unusedSimpArgs false
set_option maxRecDepth 100000
set_option maxHeartbeats 4000000
theorem few_of {r : RR} (h : heavyB r.sec r.mi r.ho r.dy r.md r.yd r.wn r.mo r.sp = false) : Few r := by
  unfold heavyB at h
  have := of_decide_eq_false h
  exact ⟨by omega, by omega, by omega⟩
def spR (r : RR) (l : List Int) : RR := { r with sp := l }
theorem rul_one {w : World} {cs : Array Value} {r : RR} (R : Rul w cs r) : cs.toList.all (·.oneCell') = true := by
  obtain ⟨A6, k6, A7, k7, A8, k8, A9, k9, A10, k10, A11, k11, A12, k12, A13, k13, A14, k14, rfl, h6, h7, h8, h9, h10, h11, h12, h13, h14⟩ := rul_opens R
  rfl
theorem rul_sp {w : World} {cs : Array Value} {r : RR} {l : List Int} {A : Option Addr} {c : Nat} (R : Rul w cs r) (hc : l.length ≤ c) (hk : Kd.C (Kd.int .i64) w A l.length l) : Rul w (cs.setIfInBounds 14 (.slice A l.length c)) (spR r l) := by
  have e : ∀ j, ¬ 14 = j → (cs.setIfInBounds 14 (.slice A l.length c))[j]? = cs[j]? := fun j hj => Array.getElem?_setIfInBounds_ne hj
  refine ⟨by rw [Array.size_setIfInBounds]; exact R.sz, (e 0 (by decide)).trans R.c0, (e 1 (by decide)).trans R.c1, (e 2 (by decide)).trans R.c2, (e 3 (by decide)).trans R.c3, (e 4 (by decide)).trans R.c4, (e 5 (by decide)).trans R.c5, ?_, ?_, ?_, ?_, ?_, ?_, ?_, ?_, ⟨A, c, ?_, hc, hk⟩, (e 15 (by decide)).trans R.c15⟩
  · rw [e 6 (by decide)]; exact R.c6
  · rw [e 7 (by decide)]; exact R.c7
  · rw [e 8 (by decide)]; exact R.c8
  · rw [e 9 (by decide)]; exact R.c9
  · rw [e 10 (by decide)]; exact R.c10
  · rw [e 11 (by decide)]; exact R.c11
  · rw [e 12 (by decide)]; exact R.c12
  · rw [e 13 (by decide)]; exact R.c13
  · rw [Array.getElem?_setIfInBounds_self_of_lt (by rw [R.sz]; decide)]; rfl
theorem right_nil {r : RR} (h : Right r) : Right (spR r []) := by
  refine ⟨?_, h.ct0, h.ct1, h.en⟩
  have := h.ok
  unfold okRecur at this ⊢
  simp only [Bool.and_eq_true] at this ⊢
  obtain ⟨⟨⟨⟨⟨a, b⟩, c⟩, d⟩, e⟩, f⟩ := this
  refine ⟨⟨⟨⟨⟨a, b⟩, c⟩, ⟨d.1, show okList [] 1 366 true = true by decide⟩⟩, e⟩, ?_⟩
  unfold okBeside spR at *
  dsimp only
  simp only [Bool.and_eq_true] at f ⊢
  exact ⟨f.1, by simp⟩
theorem few_sp {r : RR} {l : List Int} (h : Few r) : Few (spR r l) := ⟨h.1, h.2, h.3⟩
theorem lets_small {r : RR} {s p : Int} (h : (spanV r p).2.2 = 0) (hf : ¬ r.fr < 4) (h6 : ¬ 4 < (r.sec.length : Int)) (h7 : ¬ 4 < (r.mi.length : Int)) (hw : Few r) : (letsL r s (spanV r p).1 (spanV r p).2.1).length ≤ 1000000 := by
  obtain ⟨_, es, i1, i2⟩ := ok_span h
  rw [es]
  dsimp only
  have L1 : (hoursV r (s % 86400) ((spanW r p).1 % 86400)).length ≤ 101 := Nat.le_trans (choice_len _ _) (by have := hw.ho; omega)
  have L2 : (minsV r (s % 86400) ((spanW r p).1 % 86400)).length ≤ 5 := Nat.le_trans (choice_len _ _) (by omega)
  have L3 : (secsV r (s % 86400) ((spanW r p).1 % 86400)).length ≤ 5 := Nat.le_trans (choice_len _ _) (by omega)
  have L4 : (clocksV r (s % 86400) ((spanW r p).1 % 86400)).length ≤ 2525 := by
    unfold clocksV
    rw [clk3_len]
    exact Nat.mul_le_mul L1 (Nat.mul_le_mul L2 L3)
  have L5 := daysL_len r (s / 86400) (spanW r p).1 (spanW r p).2 (clocksV r (s % 86400) ((spanW r p).1 % 86400)) ((spanW r p).1 / 86400) ((spanW r p).2 / 86400 + 1 - (spanW r p).1 / 86400).toNat
  have L6 : ((spanW r p).2 / 86400 + 1 - (spanW r p).1 / 86400).toNat ≤ 372 := by
    have := whole_len r p
    unfold spanW
    rw [if_neg (by omega), if_neg (by omega), if_neg (by omega)]
    dsimp only
    omega
  have L7 := Nat.mul_le_mul L6 L4
  unfold letsL
  omega
/-- Is a place asked for by the first so many? -/
def isV (pos : List Int) (n i j : Nat) : Bool := (pos.take j).any fun x => decide (x = (i : Int) + 1) || decide (x = (i : Int) - n)
theorem isV_all (pos : List Int) (n i : Nat) : isV pos n i pos.length = asked pos n i := by
  unfold isV asked
  rw [List.take_length]
  induction pos with
  | nil => rfl
  | cons x l ih =>
    rw [List.any_cons, ih]
    simp only [List.mem_cons]
    rw [Bool.eq_iff_iff]
    simp only [Bool.or_eq_true, decide_eq_true_eq]
    constructor
    · rintro ((q | q) | (q | q))
      · exact Or.inl (Or.inl q.symm)
      · exact Or.inr (Or.inl q.symm)
      · exact Or.inl (Or.inr q)
      · exact Or.inr (Or.inr q)
    · rintro ((q | q) | (q | q))
      · exact Or.inl (Or.inl q.symm)
      · exact Or.inr (Or.inl q)
      · exact Or.inl (Or.inr q.symm)
      · exact Or.inr (Or.inr q)
theorem isV_succ (pos : List Int) (n i : Nat) {j : Nat} (hj : j < pos.length) : isV pos n i (j + 1) = (isV pos n i j || (decide (pos[j] = (i : Int) + 1) || decide (pos[j] = (i : Int) - n))) := by
  unfold isV
  rw [List.take_succ_eq_append_getElem hj, List.any_append]
  simp
theorem ofs {r : RR} {st p : Int} {pos : List Int} (hf : ¬ r.fr < 4) (h6 : ¬ 4 < (r.sec.length : Int)) (h7 : ¬ 4 < (r.mi.length : Int)) (hw : Few r) (hp : pos ≠ []) : ∃ (l k : List Int) (z : Int), ofV (spR r []) st p = (l, z) ∧ ofV (spR (spR r []) pos) st p = (k, z) ∧ ((z = 0 ∧ k = picksV pos l l.length ∧ l.length ≤ 1000000) ∨ z = 23) := by
  by_cases h : (spanV r p).2.2 = 0
  · refine ⟨letsL r st (spanV r p).1 (spanV r p).2.1, picksV pos (letsL r st (spanV r p).1 (spanV r p).2.1) (letsL r st (spanV r p).1 (spanV r p).2.1).length, 0, ?_, ?_, Or.inl ⟨rfl, rfl, lets_small h hf h6 h7 hw⟩⟩
    · have h' : (spanV (spR r []) p).2.2 = 0 := h
      unfold ofV placesV
      rw [if_pos h', if_pos (show (spR r []).sp = [] from rfl)]
      rfl
    · have h' : (spanV (spR (spR r []) pos) p).2.2 = 0 := h
      have hp' : ¬ (spR (spR r []) pos).sp = [] := hp
      unfold ofV placesV
      rw [if_pos h', if_neg hp']
      rfl
  · refine ⟨[], [], (spanV r p).2.2, ?_, ?_, Or.inr (span_errno h)⟩
    · have h' : ¬ (spanV (spR r []) p).2.2 = 0 := h
      unfold ofV
      rw [if_neg h']
      rfl
    · have h' : ¬ (spanV (spR (spR r []) pos) p).2.2 = 0 := h
      unfold ofV
      rw [if_neg h']
      rfl
theorem umB (a : Int) {n : Int} (hn : 0 < n) (hn' : n ≤ 1000000000000) : ∃ r, 0 ≤ r ∧ r < n ∧ wrap64 (Int.tmod (IntKind.u64.wrap a) n) = r := by
  have h1 := Int.emod_nonneg (IntKind.u64.wrap a) (show n ≠ 0 by omega)
  have h2 := Int.emod_lt_of_pos (IntKind.u64.wrap a) hn
  refine ⟨IntKind.u64.wrap a % n, h1, h2, ?_⟩
  rw [tmod_nn n (by rw [u64w]; omega), w64 (by omega) (by omega)]
theorem RrulePicks_on {w : World} {cs : Array Value} {r : RR} (R : Rul w cs r) (u1 : -9223372036854775808 ≤ r.ua) (u2 : r.ua < 9223372036854775808) (a1 a2 : Int) {A3 : Option Addr} {c3 : Nat} {pos : List Int} (hc3 : pos.length ≤ c3) (C3 : Kd.C (Kd.int .i64) w A3 pos.length pos) : Calls Tryz.prog 6 #[.agg cs, .int .i64 a1, .int .i64 a2, .slice A3 pos.length c3] w (Rets w (.bool true)) := by
  obtain ⟨b, hb, hrec⟩ := recur_on R u1 u2
  obtain ⟨A6, k6, e6, _⟩ := R.c6
  obtain ⟨A7, k7, e7, _⟩ := R.c7
  obtain ⟨A8, k8, e8, _⟩ := R.c8
  obtain ⟨A9, k9, e9, _⟩ := R.c9
  obtain ⟨A13, k13, e13, _⟩ := R.c13
  refine en_ Tryz.func6 rfl rfl rfl fun a K => sr_ (bx_ K (On.nil w) rfl rfl rfl rfl rfl rfl fun a g0 W M K => run_ 1 K rfl fun a K => nil_ (wp_seq (sr_ (lda_ K M 0 rfl rfl rfl rfl rfl rfl rfl R.sz fun a K => cl_ K Tryz.func12 (by kernel_rfl) rfl rfl rfl rfl rfl rfl ((heavy_on (R.below M.bl)).mono ?_)))))
  rintro _ w1 ⟨rfl, b1⟩
  replace M := M.call b1
  refine ⟨_, rfl, fun a K => run_ 1 K rfl fun a K => ?_⟩
  cases hh : heavyB r.sec r.mi r.ho r.dy r.md r.yd r.wn r.mo r.sp with
  | true => exact run_ 35 (fx_ K hh) rfl fun a K => nil_ (ct_ K rfl rfl (sr_ (run_ 1 K rfl fun a K => nil_ (ret_ rfl K rfl ⟨rfl, M.bl⟩))))
  | false =>
  have hw := few_of hh
  refine lda_ (fx_ K hh) M 0 rfl rfl rfl rfl rfl rfl rfl R.sz fun a K => cl_ K Tryz.func13 (by kernel_rfl) rfl rfl rfl rfl rfl rfl ((hrec _ M.bl).mono ?_)
  rintro _ w2 ⟨rfl, b2⟩
  replace M := M.call b2
  cases b with
  | false => exact ⟨_, rfl, fun a K => run_ 33 K rfl fun a K => nil_ (ct_ K rfl rfl (sr_ (run_ 1 K rfl fun a K => nil_ (ret_ rfl K rfl ⟨rfl, M.bl⟩))))⟩
  | true =>
  have h := hb rfl
  refine ⟨_, rfl, fun a K => run_ 4 K rfl fun a K => ld_ K M 0 rfl rfl rfl rfl rfl rfl R.c0 rfl fun a K => run_ 1 K rfl fun a K => ?_⟩
  by_cases hf : r.fr < 4
  case pos => exact run_ 27 (fx_ K (decide_eq_true hf)) rfl fun a K => nil_ (ct_ K rfl rfl (sr_ (run_ 1 K rfl fun a K => nil_ (ret_ rfl K rfl ⟨rfl, M.bl⟩))))
  refine run_ 3 (fx_ K (decide_eq_false hf)) rfl fun a K => ld_ K M 0 rfl rfl rfl rfl rfl rfl e6 rfl fun a K => run_ 2 K rfl fun a K => ?_
  by_cases h6 : 4 < (r.sec.length : Int)
  case pos => exact run_ 21 (fx_ K (decide_eq_true h6)) rfl fun a K => nil_ (ct_ K rfl rfl (sr_ (run_ 1 K rfl fun a K => nil_ (ret_ rfl K rfl ⟨rfl, M.bl⟩))))
  refine run_ 3 (fx_ K (decide_eq_false h6)) rfl fun a K => ld_ K M 0 rfl rfl rfl rfl rfl rfl e7 rfl fun a K => run_ 2 K rfl fun a K => ?_
  by_cases h7 : 4 < (r.mi.length : Int)
  case pos => exact run_ 15 (fx_ K (decide_eq_true h7)) rfl fun a K => nil_ (ct_ K rfl rfl (sr_ (run_ 1 K rfl fun a K => nil_ (ret_ rfl K rfl ⟨rfl, M.bl⟩))))
  refine run_ 3 (fx_ K (decide_eq_false h7)) rfl fun a K => ld_ K M 0 rfl rfl rfl rfl rfl rfl e9 rfl fun a K => run_ 2 K rfl fun a K => ld_ K M 0 rfl rfl rfl rfl rfl rfl e13 rfl fun a K => run_ 3 K rfl fun a K => ld_ K M 0 rfl rfl rfl rfl rfl rfl e8 rfl fun a K => run_ 4 K rfl fun a K => nil_ ?_
  by_cases hz : wrap64 (wrap64 ((r.dy.length : Int) + (r.mo.length : Int)) + (r.ho.length : Int)) = 0
  case pos => exact ct_ K rfl (decide_eq_true hz) (sr_ (run_ 1 K rfl fun a K => nil_ (ret_ rfl K rfl ⟨rfl, M.bl⟩)))
  refine cs_ K rfl (decide_eq_false hz) (sr_ (run_ 1 K rfl fun a K => cl_ K Tryz.func14 (by kernel_rfl) rfl rfl rfl rfl rfl rfl ((some_on a1).mono ?_)))
  rintro _ w3 ⟨st, ht, rfl, b3⟩
  replace M := M.call b3
  refine ⟨_, rfl, fun a K => run_ 1 K rfl fun a K => nil_ ?_⟩
  replace K := fg_ (E' := [(1, .int .i64 st), (2, .int .i64 a2), (3, .slice A3 pos.length c3), (4, .pointer (some ⟨g0, 0, none⟩))]) K ⟨rfl, rfl, rfl, rfl, trivial⟩
  have ln := h.lens
  have hx := right_nil h
  -- the first twin
  refine sr_ (lda_ K M 0 rfl rfl rfl rfl rfl rfl rfl R.sz fun a K => cl_ K Tryz.func21 (by kernel_rfl) rfl rfl rfl rfl rfl rfl ((twin_on (R.below M.bl) ⟨ln.sec, ln.mi, ln.ho, ln.dy, ln.md, ln.yd, ln.wn, ln.mo, ln.sp⟩).mono ?_))
  rintro _ w4 ⟨cs1, rfl, R1, b4⟩
  have B4 := (M.call b4).bl
  have fin : ∀ {V : World}, Below w4.heap.size w4 V → Below w.heap.size w V := fun q => below_step B4 q
  replace R := R.below B4
  replace C3 := Kd.C_below C3 B4
  replace M := (M.call b4).here
  refine ⟨_, rfl, fun a K => nwG_ K M rfl rfl rfl rfl rfl rfl rfl (fun _ => rfl) rfl R1.sz (rul_one R1) fun a g1 W1 G1 M K => nil_ (sr_ (run_ 1 K rfl fun a K => stc_ K M 0 rfl G1 rfl rfl rfl rfl rfl rfl (by rw [R1.sz]; decide) fun W hW M2 => nil_ ?_))⟩
  clear M
  replace M : On [(g1, .cells (cs1.setIfInBounds 14 (.slice none ([] : List Int).length 0)) 25 (0, 0)), (g0, .cells cs 25 (0, 0))] w4 W := M2
  clear M2 hW
  replace R1 := rul_sp (l := []) (A := none) (c := 0) R1 (Nat.le_refl _) (Kd.C_nil _ _)
  generalize cs1.setIfInBounds 14 (.slice none ([] : List Int).length 0) = csx at M R1
  -- the second twin
  refine sr_ (lda_ K M 0 rfl rfl rfl rfl rfl rfl rfl R1.sz fun a K => cl_ K Tryz.func21 (by kernel_rfl) rfl rfl rfl rfl rfl rfl ((twin_on (R1.below M.bl) ⟨ln.sec, ln.mi, ln.ho, ln.dy, ln.md, ln.yd, ln.wn, ln.mo, Nat.zero_le _⟩).mono ?_))
  rintro _ w6 ⟨cs2, rfl, R2, b6⟩
  have B6 := (M.call b6).bl
  replace fin : ∀ {V : World}, Below w6.heap.size w6 V → Below w.heap.size w V := fun q => fin (below_step B6 q)
  replace R := R.below B6
  replace R1 := R1.below B6
  replace C3 := Kd.C_below C3 B6
  replace M := (M.call b6).here
  refine ⟨_, rfl, fun a K => nwG_ K M rfl rfl rfl rfl rfl rfl rfl (fun _ => rfl) rfl R2.sz (rul_one R2) fun a g2 W2 G2 M K => nil_ (sr_ (run_ 2 K rfl fun a K => stc_ K M 0 rfl G2 rfl rfl rfl rfl rfl rfl (by rw [R2.sz]; decide) fun W hW M2 => nil_ ?_))⟩
  clear M
  replace M : On [(g2, .cells (cs2.setIfInBounds 14 (.slice A3 pos.length c3)) 25 (0, 0)), (g1, .cells csx 25 (0, 0)), (g0, .cells cs 25 (0, 0))] w6 W := M2
  clear M2 hW
  replace R2 := rul_sp R2 hc3 C3
  generalize cs2.setIfInBounds 14 (.slice A3 pos.length c3) = csy at M R2
  have B8 := M.bl
  replace fin : ∀ {V : World}, Below W.heap.size W V → Below w.heap.size w V := fun q => fin (below_step B8 q)
  replace R := R.below B8
  replace R1 := R1.below B8
  replace R2 := R2.below B8
  replace C3 := Kd.C_below C3 B8
  replace M := M.here
  obtain ⟨by_, hby, hrecy⟩ := recur_on R2 u1 u2
  replace K := fg_ (E' := [(10, .pointer (some ⟨g2, 0, none⟩)), (9, .pointer (some ⟨g1, 0, none⟩)), (1, .int .i64 st), (2, .int .i64 a2), (3, .slice A3 pos.length c3), (4, .pointer (some ⟨g0, 0, none⟩))]) K ⟨rfl, rfl, rfl, rfl, rfl, rfl, trivial⟩
  refine wp_seq (sr_ (run_ 3 K rfl fun a K => ?_))
  by_cases h60 : 60 < (pos.length : Int)
  case pos => exact run_ 10 (fx_ K (decide_eq_true h60)) rfl fun a K => nil_ (ct_ K rfl rfl (sr_ (run_ 1 K rfl fun a K => nil_ (ret_ rfl K rfl ⟨rfl, fin M.bl⟩))))
  refine run_ 1 (fx_ K (decide_eq_false h60)) rfl fun a K => lda_ K M 0 rfl rfl rfl rfl rfl rfl rfl R2.sz fun a K => cl_ K Tryz.func13 (by kernel_rfl) rfl rfl rfl rfl rfl rfl ((hrecy _ M.bl).mono ?_)
  rintro _ w9 ⟨rfl, b9⟩
  replace M := M.call b9
  cases by_ with
  | false => exact ⟨_, rfl, fun a K => run_ 7 K rfl fun a K => nil_ (ct_ K rfl rfl (sr_ (run_ 1 K rfl fun a K => nil_ (ret_ rfl K rfl ⟨rfl, fin M.bl⟩))))⟩
  | true =>
  have hy := hby rfl
  refine ⟨_, rfl, fun a K => run_ 7 K rfl fun a K => nil_ ?_⟩
  by_cases hp : pos = []
  case pos => exact ct_ K rfl (by rw [hp]; rfl) (sr_ (run_ 1 K rfl fun a K => nil_ (ret_ rfl K rfl ⟨rfl, fin M.bl⟩)))
  refine cs_ K rfl (decide_eq_false (by have := List.length_pos_iff.2 hp; omega)) ?_
  have P1 : ∀ V, Rul V cs r → Calls Tryz.prog 16 #[.agg cs, .int .i64 st] V (Rets V (.tuple #[.int .i64 (perV r st), .int .i64 0])) := fun V hV => by
    have := Period_on hV h st
    rw [if_pos ht] at this
    exact this
  refine sr_ (lda_ K M 2 rfl rfl rfl rfl rfl rfl rfl R.sz fun a K => run_ 1 K rfl fun a K => cl_ K Tryz.func16 (by kernel_rfl) rfl rfl rfl rfl rfl rfl ((P1 _ (R.below M.bl)).mono ?_))
  rintro _ w10 ⟨rfl, b10⟩
  replace M := M.call b10
  refine ⟨_, rfl, fun a K => run_ 5 K rfl fun a K => nil_ (wp_seq (sr_ (run_ 2 K rfl fun a K => nil_ (cs_ K rfl rfl (sr_ (run_ 7 K rfl fun a K => nil_ ?_))))))⟩
  generalize wrap64 (perV r st + wrap64 (Int.tmod (IntKind.u64.wrap a2) 20)) = p at K
  replace K := fg_ (E' := [(2, .int .i64 p), (10, .pointer (some ⟨g2, 0, none⟩)), (9, .pointer (some ⟨g1, 0, none⟩)), (1, .int .i64 st), (3, .slice A3 pos.length c3)]) K ⟨rfl, rfl, rfl, rfl, rfl, trivial⟩
  obtain ⟨l, k, z, ex, ey, hzz⟩ := ofs (st := st) (p := p) (pos := pos) hf h6 h7 hw hp
  have Ox := fun (V : World) (hV : Rul V csx (spR r [])) => of_on (p := p) hV hx (few_sp hw) ht
  have Oy := fun (V : World) (hV : Rul V csy (spR (spR r []) pos)) => of_on (p := p) hV hy (few_sp (few_sp hw)) ht
  rw [ex] at Ox
  rw [ey] at Oy
  refine sr_ (lda_ K M 1 rfl rfl rfl rfl rfl rfl rfl R1.sz fun a K => run_ 2 K rfl fun a K => cl_ K Tryz.func24 (by kernel_rfl) rfl rfl rfl rfl rfl rfl ((Ox _ (R1.below M.bl)).mono ?_))
  rintro _ w11 ⟨v11, rfl, R11, b11⟩
  replace M := M.call b11
  refine ⟨_, rfl, fun a K => run_ 5 K rfl fun a K => nil_ ?_⟩
  refine sr_ (lda_ K M 0 rfl rfl rfl rfl rfl rfl rfl R2.sz fun a K => run_ 2 K rfl fun a K => cl_ K Tryz.func24 (by kernel_rfl) rfl rfl rfl rfl rfl rfl ((Oy _ (R2.below M.bl)).mono ?_))
  rintro _ w12 ⟨v12, rfl, R12, b12⟩
  replace M := M.call b12
  replace R11 := Kd.R_below R11 b12
  obtain ⟨A11, c11, ev11, h11, C11⟩ := Kd.R_reads R11
  subst ev11
  obtain ⟨A12, c12, ev12, h12, C12⟩ := Kd.R_reads R12
  subst ev12
  replace C3 := Kd.C_below C3 M.bl
  replace fin : ∀ {V : World}, Below w12.heap.size w12 V → Below w.heap.size w V := fun q => fin (below_step M.bl q)
  have N := On.nil w12
  clear M
  refine ⟨_, rfl, fun a K => run_ 5 K rfl fun a K => nil_ ?_⟩
  replace K := fg_ (E' := [(16, .int .i64 z), (15, .slice A12 k.length c12), (14, .int .i64 z), (13, .slice A11 l.length c11), (3, .slice A3 pos.length c3)]) K ⟨rfl, rfl, rfl, rfl, rfl, trivial⟩
  refine wp_seq (sr_ (run_ 3 K rfl fun a K => ?_))
  rcases hzz with ⟨rfl, rfl, hl⟩ | rfl
  case inr =>
    refine run_ 4 (fx_ (c := false) K rfl) rfl fun a K => nil_ (ct_ K rfl rfl (sr_ (run_ 8 K rfl fun a K => cl_ K Tryz.func19 (by kernel_rfl) rfl rfl rfl rfl rfl rfl (wakes_on.mono ?_))))
    rintro _ w13 ⟨rfl, b13⟩
    exact ⟨_, rfl, fun a K => run_ 2 K rfl fun a K => nil_ (ret_ rfl K rfl ⟨rfl, fin b13⟩)⟩
  have hl2 : l.length ≤ 4611686018427387904 := Nat.le_trans hl (by decide)
  have hl3 : l.length ≤ 4000000000000 := Nat.le_trans hl (by decide)
  have hp2 : pos.length ≤ 4611686018427387904 := by omega
  refine run_ 4 (fx_ (c := false) K rfl) rfl fun a K => nil_ (cs_ K rfl rfl (sr_ (run_ 1 K rfl fun a K => nil_ (wp_seq (sr_ (run_ 1 K rfl fun a K => nil_ ?_))))))
  refine wp_block (wp_loop (fun a W => ∃ (i : Nat) (v : Value), i ≤ l.length ∧ Kn 173 [(18, .int .i64 (i : Int)), (17, v), (15, .slice A12 (picksV pos l l.length).length c12), (13, .slice A11 l.length c11), (3, .slice A3 pos.length c3)] a ∧ On [] w12 W ∧ Kd.R (Kd.int .i64) 3 W w12.heap.size (fun _ => True) v (picksV pos l i)) (fun a _ => leftN 18 l.length a) ⟨0, .slice none 0 0, Nat.zero_le _, fg_ K ⟨rfl, rfl, rfl, rfl, rfl, trivial⟩, N, Kd.R_nil _ _ _ _ _⟩ ?_)
  clear K N
  rintro a W ⟨i, v, hi, K, N, Rv⟩
  refine wp_seq (sr_ (run_ 4 K rfl fun a2 K2 => nil_ ?_))
  by_cases hc : i < l.length
  case neg =>
    obtain rfl : i = l.length := Nat.le_antisymm hi (Nat.le_of_not_lt hc)
    obtain ⟨A, c, ev, hv, Cv⟩ := Kd.R_reads Rv
    subst ev
    refine cf_ K2 rfl (kp_ge hc) (ex_ (thn_ (sr_ (run_ 2 K2 rfl fun a K => cl_ K Tryz.func26 (by kernel_rfl) rfl rfl rfl rfl rfl rfl ((ints_on (Kd.C_below C12 N.bl) h12 Cv hv (Nat.le_trans (picks_len pos l l.length) hl)).mono ?_)))))
    rintro _ w13 ⟨rfl, b13⟩
    replace N := N.call b13
    refine ⟨_, rfl, fun a K => run_ 1 K rfl fun a K => cl_ K Tryz.func19 (by kernel_rfl) rfl rfl rfl rfl rfl rfl (wakes_on.mono ?_)⟩
    rintro _ w14 ⟨rfl, b14⟩
    exact ⟨_, rfl, fun a K => run_ 2 K rfl fun a K => nil_ (ret_ rfl K rfl ⟨rfl, fin (N.call b14).bl⟩)⟩
  obtain ⟨ad, eA, hat⟩ := C_at C11 (Nat.lt_of_le_of_lt (Nat.zero_le _) hc)
  subst eA
  have e1 := pl_in (sp := pos) hc hl3
  have e2 := kp_inc hc hl2
  have e3 := picks_succ pos l hc
  have e4 := picks_len pos l i
  have xi : ∀ V, On [] w12 V → V.cell? (ad.add (i * 1)) = some (.int .i64 l[i]) := fun V hV => cell_on hV (hat i _ (List.getElem?_eq_getElem hc))
  generalize l[i] = y at e3 xi
  refine ck_ K2 rfl (kp_lt hc) (wp_seq (bjn_ (fun a' W' => ∃ v', Kn 173 [(18, .int .i64 (i : Int)), (17, v'), (15, .slice A12 (picksV pos l l.length).length c12), (13, .slice (some ad) l.length c11), (3, .slice A3 pos.length c3)] a' ∧ On [] w12 W' ∧ Kd.R (Kd.int .i64) 3 W' w12.heap.size (fun _ => True) v' (picksV pos l (i + 1))) (sr_ (run_ 1 K2 rfl fun a K => nil_ (wp_seq (sr_ (run_ 1 K rfl fun a K => nil_ ?_))))) ?_))
  case refine_2 =>
    rintro a' W' ⟨v', K', N', R'⟩
    refine rg_ (run_ 3 K' rfl fun a5 K5 => nl_ ⟨⟨i + 1, v', hc, fg_ (ks_ (i := 18) K5 rfl (congrArg (Value.int .i64) e2)) ⟨rfl, rfl, rfl, rfl, rfl, trivial⟩, N', R'⟩, ?_⟩)
    rw [leftN_ (d := 18) K5 rfl, leftN_ (d := 18) K rfl, e2]
    exact leftN_lt hc
  refine wp_block (wp_loop (fun a W' => W' = W ∧ ∃ j : Nat, j ≤ pos.length ∧ Kn 173 [(20, .int .i64 (j : Int)), (19, .bool (isV pos l.length i j)), (18, .int .i64 (i : Int)), (17, v), (15, .slice A12 (picksV pos l l.length).length c12), (13, .slice (some ad) l.length c11), (3, .slice A3 pos.length c3)] a) (fun a _ => leftN 20 pos.length a) ⟨rfl, 0, Nat.zero_le _, fg_ K ⟨rfl, rfl, rfl, rfl, rfl, rfl, rfl, trivial⟩⟩ ?_)
  clear K
  rintro a W ⟨hWW, j, hj, K⟩
  subst hWW
  refine wp_seq (sr_ (run_ 4 K rfl fun a3 K3 => nil_ ?_))
  by_cases hd : j < pos.length
  case neg =>
    obtain rfl : j = pos.length := Nat.le_antisymm hj (Nat.le_of_not_lt hd)
    rw [isV_all] at K3
    refine cf_ K3 rfl (kp_ge hd) (ex_ (thn_ (sr_ (run_ 1 K3 rfl fun a K => nil_ ?_))))
    cases ha : asked pos l.length i with
    | false =>
      rw [ha, if_neg (by decide), List.append_nil] at e3
      exact cf_ K rfl ha (wp_skip ⟨v, fg_ K ⟨rfl, rfl, rfl, rfl, rfl, trivial⟩, N, by rw [e3]; exact Rv⟩)
    | true =>
      rw [ha, if_pos rfl] at e3
      have fit : (picksV pos l i).length ≤ 17000000000000 := Nat.le_trans e4 (Nat.le_trans (Nat.le_of_lt hc) (Nat.le_trans hl (by decide)))
      have ek : picksV pos l (i + 1) = picksV pos l i ++ [y] := e3
      generalize picksV pos l (i + 1) = k1 at ek ⊢
      generalize picksV pos l i = k0 at ek fit Rv
      subst ek
      obtain ⟨A0, c0, ev, _⟩ := Kd.R_reads Rv
      subst ev
      exact ct_ K rfl ha (rg_ (run_ 3 K rfl fun a K => val_ K rfl rfl rfl (run_ix22 (kk := i) hc hl2 rfl (K.of (x := .tmp 161) rfl) (K.of (x := .tmp 162) rfl)) fun a K => val_ K rfl rfl rfl (run_ld rfl rfl (K.of (x := .tmp 163) rfl) (xi _ N)) fun a K => ap1_ K N rfl rfl rfl rfl rfl rfl rfl rfl rfl (fun _ => rfl) Rv (fun p hp => absurd hp List.not_mem_nil) fit fun a v1 W4 u R4 N4 F4 K4 => run_ 1 K4 rfl fun a K => nl_ ⟨v1, fg_ K ⟨rfl, rfl, rfl, rfl, rfl, trivial⟩, N4, R4⟩))
  obtain ⟨ap, eP, pat⟩ := C_at C3 (Nat.lt_of_le_of_lt (Nat.zero_le _) hd)
  subst eP
  have f2 := kp_inc hd hp2
  have f3 := isV_succ pos l.length i hd
  have xj : W.cell? (ap.add (j * 1)) = some (.int .i64 pos[j]) := cell_on N (pat j _ (List.getElem?_eq_getElem hd))
  generalize pos[j] = x at f3 xj
  refine ck_ K3 rfl (kp_lt hd) (wp_seq (bjn_ (fun a' W' => W' = W ∧ Kn 173 [(20, .int .i64 (j : Int)), (19, .bool (isV pos l.length i (j + 1))), (18, .int .i64 (i : Int)), (17, v), (15, .slice A12 (picksV pos l l.length).length c12), (13, .slice (some ad) l.length c11), (3, .slice (some ap) pos.length c3)] a') (rg_ (run_ 1 K3 rfl fun a K => ?_)) ?_))
  case refine_2 =>
    rintro a' _ ⟨rfl, K'⟩
    refine rg_ (run_ 3 K' rfl fun a5 K5 => nl_ ⟨⟨rfl, j + 1, hd, fg_ (ks_ (i := 20) K5 rfl (congrArg (Value.int .i64) f2)) ⟨rfl, rfl, rfl, rfl, rfl, rfl, rfl, trivial⟩⟩, ?_⟩)
    rw [leftN_ (d := 20) K5 rfl, leftN_ (d := 20) K rfl, f2]
    exact leftN_lt hd
  cases hv : isV pos l.length i j with
  | true =>
    rw [hv, Bool.true_or] at f3
    exact run_ 21 (fx_ K hv) rfl fun a K => nl_ ⟨rfl, fg_ (ks_ (i := 19) (u := .bool (isV pos l.length i (j + 1))) K rfl (congrArg Value.bool f3.symm)) ⟨rfl, rfl, rfl, rfl, rfl, rfl, rfl, trivial⟩⟩
  | false =>
  rw [hv, Bool.false_or] at f3
  refine run_ 3 (fx_ K hv) rfl fun a K => val_ K rfl rfl rfl (run_ix22 (kk := j) hd hp2 rfl (K.of (x := .tmp 140) rfl) (K.of (x := .tmp 141) rfl)) fun a K => val_ K rfl rfl rfl (run_ld rfl rfl (K.of (x := .tmp 142) rfl) xj) fun a K => run_ 3 K rfl fun a K => ?_
  by_cases d1 : x = (i : Int) + 1
  case pos =>
    rw [decide_eq_true d1, Bool.true_or] at f3
    exact run_ 13 (fx_ K (decide_eq_true (by rw [e1.1]; exact d1))) rfl fun a K => nl_ ⟨rfl, fg_ (ks_ (i := 19) (u := .bool (isV pos l.length i (j + 1))) K rfl (congrArg Value.bool f3.symm)) ⟨rfl, rfl, rfl, rfl, rfl, rfl, rfl, trivial⟩⟩
  rw [decide_eq_false d1, Bool.false_or] at f3
  refine run_ 4 (fx_ K (decide_eq_false (by rw [e1.1]; exact d1))) rfl fun a K => val_ K rfl rfl rfl (run_ix22 (kk := j) hd hp2 rfl (K.of (x := .tmp 149) rfl) (K.of (x := .tmp 150) rfl)) fun a K => val_ K rfl rfl rfl (run_ld rfl rfl (K.of (x := .tmp 151) rfl) xj) fun a K => run_ 7 K rfl fun a K => nl_ ?_
  exact ⟨rfl, fg_ (ks_ (i := 19) (u := .bool (isV pos l.length i (j + 1))) K rfl (congrArg Value.bool (by rw [e1.2]; exact f3.symm))) ⟨rfl, rfl, rfl, rfl, rfl, rfl, rfl, trivial⟩⟩
end Go.Proofs.YtjjaiahfkiojlaaGreat.Pure
