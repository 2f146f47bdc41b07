/- The reference's Day, as a contract. No condition beyond those each lemma names. -/
import Derived.Test.YtjjaiahfkiojlaaGreatMT23T
import Derived.Test.YtjjaiahfkiojlaaGreatMOx0
namespace Go.Proofs.YtjjaiahfkiojlaaGreat.Pure
open Go.RowKit Go.Proofs.YtjjaiahfkiojlaaGreat.O Go.Proofs.YtjjaiahfkiojlaaGreatW.PrintWords Go.Proofs.YtjjaiahfkiojlaaGreatW.PrintLast
open Go.Proofs.YtjjaiahfkiojlaaGreat.Civ
set_option linter.unusedVariables false
set_option linter.unusedSimpArgs false
set_option maxHeartbeats 4000000
set_option maxRecDepth 100000
theorem on_tail {p : Nat × Obj} {L : List (Nat × Obj)} {w0 W : World} (M : On (p :: L) w0 W) : On L w0 W := ⟨M.bl, fun k g o e => M.me (k + 1) g o e, (List.nodup_cons.1 M.nd).2⟩
section
variable {ρ : Operand → Value} {o : Oper} {w : World}
theorem run_neg {x : Operand} {m : Int} (ho : o.op = .unOp .neg 3 x) (hx : ρ x = .int .i64 m) : (execOp ρ o).run Tryz.prog w = .ok (.value (.int .i64 (wrap64 (-m)))) w := by
  have hu := Tryz.underlying3
  unfold execOp; rw [ho]; go_simp
  exact i64_w _
theorem add_n2 (g b n : Nat) : (⟨g, b, none⟩ : Addr).add n = ⟨g, b + n, none⟩ := by unfold Addr.add; split <;> simp_all
theorem run_ix23 {x y : Operand} {g b n c kk : Nat} (hk : kk < n) (hn : n ≤ 4611686018427387904) (ho : o.op = .indexAddr 23 x y) (hx : ρ x = .slice (some ⟨g, b, none⟩) n c) (hy : ρ y = .int .i64 kk) : (execOp ρ o).run Tryz.prog w = .ok (.value (.pointer (some ⟨g, b + kk * 2, none⟩))) w := by
  have hu23 := Tryz.underlying23
  have hu67 := Tryz.underlying67
  have h1 : ¬ (kk : Int) < 0 := by omega
  have h2 : (kk : Int) < n := by omega
  have h3 := add_n2 g b (kk * 2)
  unfold execOp; rw [ho]; go_simp
theorem run_ld67 {g p : Nat} {x : Operand} {a b : Int} (ho : o.op = .load 67 x) (hx : ρ x = .pointer (some ⟨g, p, none⟩)) (hc : ∀ (j : Nat) (v : Value), [Value.int .i64 a, .int .i64 b][j]? = some v → w.cell? ⟨g, p + j, none⟩ = some v) : (execOp ρ o).run Tryz.prog w = .ok (.value (.agg #[.int .i64 a, .int .i64 b])) w := by
  have hr := run_loadAt_mid (P := Tryz.prog) w g p 67 [.int .i64 a, .int .i64 b] _ hc Tryz.underlying67 rfl i47
  unfold execOp
  rw [ho]
  show ((do pure (Next.value (← Instr.loadAt 67 (ρ x))) : Sem Next)).run Tryz.prog w = _
  rw [hx, Sem.run_bind, hr]
  rfl
end
theorem at67 {w : World} {A : Option Addr} {l : List S67} (h : Kd.C k67 w A l.length l) (hp : 0 < l.length) : ∃ g b, A = some ⟨g, b, none⟩ ∧ ∀ (i : Nat) (hi : i < l.length) (j : Nat) (v : Value), [Value.int .i64 l[i].f0, .int .i64 l[i].f1][j]? = some v → w.cell? ⟨g, b + i * 2 + j, none⟩ = some v := by
  obtain ⟨_, _, h3⟩ := h
  obtain ⟨ad, e, hr⟩ := h3 hp
  have all : ∀ (i : Nat) (hi : i < l.length) (j : Nat) (v : Value), [Value.int .i64 l[i].f0, .int .i64 l[i].f1][j]? = some v → w.cell? (ad.add (i * 2 + j)) = some v := fun i hi j v hv => by
    obtain ⟨cs, hcs, hK, hcell⟩ := hr i _ (List.getElem?_eq_getElem hi)
    obtain rfl : cs = [Value.int .i64 l[i].f0, .int .i64 l[i].f1] := k67_open hK
    exact hcell j v hv
  have hs : ad.spot = none := by
    have := World.cell?_spot (all 0 hp 0 _ rfl)
    simpa [Addr.add] using this
  obtain ⟨g, b, sp⟩ := ad
  subst hs
  refine ⟨g, b, e, fun i hi j v hv => ?_⟩
  have := all i hi j v hv
  rwa [add_n2, ← Nat.add_assoc] at this
theorem pos_l9 {l : List S67} (h : l ≠ []) : decide (0 < (l.length : Int)) = true := decide_eq_true (by have := List.length_pos_iff.2 h; omega)
theorem nil_pos9 {l : List S67} (h : l = []) : decide (0 < (l.length : Int)) = false := by rw [h]; rfl
theorem Day2_on {w : World} {cs : Array Value} {r : RR} (R : Rul w cs r) (h : Lens r) {st n : Int} (hs : InT st) (hn : -719162 ≤ n) (hn' : n ≤ 2932896) : Calls Tryz.prog 59 #[.agg cs, .int .i64 st, .int .i64 n] w (Rets w (.bool (dayV r (st / 86400) n))) := by
  have fl : Tryz.prog.follows .mixedOrders = true := by kernel_rfl
  obtain ⟨A9, k9, e9, h9, C9⟩ := R.c9
  obtain ⟨A10, k10, e10, h10, C10⟩ := R.c10
  obtain ⟨A11, k11, e11, h11, C11⟩ := R.c11
  obtain ⟨A12, k12, e12, h12, C12⟩ := R.c12
  obtain ⟨A13, k13, e13, h13, C13⟩ := R.c13
  have H10 : ∀ V, Below w.heap.size w V → ∀ x, Calls Tryz.prog 58 #[.slice A10 r.md.length k10, .int .i64 x] V (Rets V (.bool (decide (x ∈ r.md)))) := fun V hV x => has_on x (Kd.C_below C10 hV) h.md
  have H11 : ∀ V, Below w.heap.size w V → ∀ x, Calls Tryz.prog 58 #[.slice A11 r.yd.length k11, .int .i64 x] V (Rets V (.bool (decide (x ∈ r.yd)))) := fun V hV x => has_on x (Kd.C_below C11 hV) h.yd
  have H12 : ∀ V, Below w.heap.size w V → ∀ x, Calls Tryz.prog 58 #[.slice A12 r.wn.length k12, .int .i64 x] V (Rets V (.bool (decide (x ∈ r.wn)))) := fun V hV x => has_on x (Kd.C_below C12 hV) h.wn
  have H13 : ∀ V, Below w.heap.size w V → ∀ x, Calls Tryz.prog 58 #[.slice A13 r.mo.length k13, .int .i64 x] V (Rets V (.bool (decide (x ∈ r.mo)))) := fun V hV x => has_on x (Kd.C_below C13 hV) h.mo
  have q0 := h.w0
  have q1 := h.w1
  have D := dayN h hs hn hn'
  have wW := D.wW
  have wY := D.wY
  have wM := D.wM
  have hl9 : r.dy.length ≤ 4611686018427387904 := Nat.le_trans h.dy (by decide)
  have LK := like_3 h n (st / 86400)
  have PM := place_m (r := r) hn hn'
  have PY := place_y (r := r) hn hn'
  have AR := any_ref h hn hn'
  have hyd := h.yd
  have hmd := h.md
  have hN : ∀ W, Calls Tryz.prog 95 #[.int .i64 n, .int .i64 r.wk] W (Rets W (.tuple #[.int .i64 (noV n r.wk).1, .int .i64 (noV n r.wk).2.1])) := fun W => no_on hn hn' q0 q1
  clear hn hn'
  have dv : dayV r (st / 86400) n = (oneV r.mo (dt n).2.1 0 false && (weekNoV r n && eitherV r.yd (yd n) (365 + lpi (dt n).1) && eitherV r.md (dt n).2.2 (ln (dt n).1 (dt n).2.1)) && (decide (r.dy = []) || r.dy.any (numberedV r n)) && likeV r n (st / 86400)) := rfl
  have noA : oneV r.mo (dt n).2.1 0 false = false → false = dayV r (st / 86400) n := fun q => by simp only [dv, q, Bool.false_and]
  have noB : weekNoV r n = false → false = dayV r (st / 86400) n := fun q => by simp only [dv, q, Bool.false_and, Bool.and_false]
  have noC : eitherV r.yd (yd n) (365 + lpi (dt n).1) = false → false = dayV r (st / 86400) n := fun q => by simp only [dv, q, Bool.false_and, Bool.and_false]
  have noD : eitherV r.md (dt n).2.2 (ln (dt n).1 (dt n).2.1) = false → false = dayV r (st / 86400) n := fun q => by simp only [dv, q, Bool.false_and, Bool.and_false]
  have wv : r.wn ≠ [] → weekNoV r n = eitherV r.wn (noV n r.wk).2.1 ((fw ((noV n r.wk).1 + 1) r.wk - fw (noV n r.wk).1 r.wk) / 7) := fun q => by unfold weekNoV; rw [if_neg q]; rfl
  have M := On.nil w
  refine en_ Tryz.func59 rfl rfl rfl fun a K => sr_ (bx_ K M rfl rfl rfl rfl rfl rfl fun a g3 W3 M K => run_ 1 K rfl fun a K => nil_ ?_)
  refine sr_ (run_ 1 K rfl fun a K => cl_ K Tryz.func39 (by kernel_rfl) rfl rfl rfl rfl rfl rfl ((rdate_on D.n1 D.n2).mono ?_))
  rintro _ w1 ⟨rfl, b1⟩
  replace M := M.call b1
  refine ⟨_, rfl, fun a K => nw_ K M rfl rfl rfl rfl rfl rfl rfl (fun _ => rfl) rfl rfl rfl fun a g7 W7 M K => nil_ ?_⟩
  refine sr_ (run_ 1 K rfl fun a K => cl_ K Tryz.func35 (by kernel_rfl) rfl rfl rfl rfl rfl rfl ((rdiv_on (by decide) (by decide) D.s1 D.s2).mono ?_))
  rintro _ w1 ⟨rfl, b1⟩
  replace M := M.call b1
  refine ⟨_, rfl, fun a K => run_ 5 K rfl fun a K => nil_ ?_⟩
  refine sr_ (run_ 1 K rfl fun a K => cl_ K Tryz.func39 (by kernel_rfl) rfl rfl rfl rfl rfl rfl ((rdate_on D.f1 D.f2).mono ?_))
  rintro _ w1 ⟨rfl, b1⟩
  replace M := M.call b1
  refine ⟨_, rfl, fun a K => nw_ K M rfl rfl rfl rfl rfl rfl rfl (fun _ => rfl) rfl rfl rfl fun a g10 W10 M K => nil_ ?_⟩
  refine sj_ (fun a' w' => oneV r.mo (dt n).2.1 0 false = true ∧ Kn 252 [(10, .pointer (some ⟨g10, 0, none⟩)), (8, .int .i64 (st / 86400)), (7, .pointer (some ⟨g7, 0, none⟩)), (3, .pointer (some ⟨g3, 0, none⟩)), (2, .int .i64 n)] a' ∧ On [(g10, .cells #[.int .i64 (dt (st / 86400)).1, .int .i64 (dt (st / 86400)).2.1, .int .i64 (dt (st / 86400)).2.2] 30 (0, 0)), (g7, .cells #[.int .i64 (dt n).1, .int .i64 (dt n).2.1, .int .i64 (dt n).2.2] 30 (0, 0)), (g3, .cells cs 25 (0, 0))] w w') (sr_ ?_) ?_
  · by_cases q : r.mo = []
    · have u3 := nil_pos q
      exact run_ 1 K rfl fun a K => ld_ K M 2 rfl rfl rfl rfl rfl rfl e13 rfl fun a K => run_ 2 K rfl fun a K => run_ 8 (fx_ K u3) rfl fun a K => nil_ (cf_ K rfl rfl (wp_skip (thn_ ⟨by unfold oneV; rw [if_pos q]; rfl, fg_ K ⟨rfl, rfl, rfl, rfl, rfl, trivial⟩, M⟩)))
    have u3 := pos_l q
    have e : oneV r.mo (dt n).2.1 0 false = decide ((dt n).2.1 ∈ r.mo) := by unfold oneV; rw [if_neg q]
    refine run_ 1 K rfl fun a K => ld_ K M 2 rfl rfl rfl rfl rfl rfl e13 rfl fun a K => run_ 2 K rfl fun a K => run_ 2 (fx_ K u3) rfl fun a K => ld_ K M 2 rfl rfl rfl rfl rfl rfl e13 rfl fun a K => run_ 1 K rfl fun a K => ld_ K M 1 rfl rfl rfl rfl rfl rfl rfl rfl fun a K => cl_ K Tryz.func58 (by kernel_rfl) rfl rfl rfl rfl rfl rfl ((H13 _ M.bl _).mono ?_)
    rintro _ w9 ⟨rfl, b9⟩
    replace M := M.call b9
    refine ⟨_, rfl, fun a K => run_ 2 K rfl fun a K => nil_ ?_⟩
    by_cases m : (dt n).2.1 ∈ r.mo
    · exact cf_ K rfl (by rw [decide_eq_true m]; rfl) (wp_skip (thn_ ⟨by rw [e]; exact decide_eq_true m, fg_ K ⟨rfl, rfl, rfl, rfl, rfl, trivial⟩, M⟩))
    · exact ct_ K rfl (by rw [decide_eq_false m]; rfl) (sr_ (run_ 1 K rfl fun a K => nil_ (ret_ rfl K rfl ⟨bool_ret (noA (by rw [e]; exact decide_eq_false m)), M.bl⟩)))
  clear K M
  rintro a W ⟨hA, K, M⟩
  refine sj_ (fun a' w' => weekNoV r n = true ∧ Kn 252 [(10, .pointer (some ⟨g10, 0, none⟩)), (8, .int .i64 (st / 86400)), (7, .pointer (some ⟨g7, 0, none⟩)), (3, .pointer (some ⟨g3, 0, none⟩)), (2, .int .i64 n)] a' ∧ On [(g10, .cells #[.int .i64 (dt (st / 86400)).1, .int .i64 (dt (st / 86400)).2.1, .int .i64 (dt (st / 86400)).2.2] 30 (0, 0)), (g7, .cells #[.int .i64 (dt n).1, .int .i64 (dt n).2.1, .int .i64 (dt n).2.2] 30 (0, 0)), (g3, .cells cs 25 (0, 0))] w w') (sr_ (run_ 1 K rfl fun a K => ld_ K M 2 rfl rfl rfl rfl rfl rfl e12 rfl fun a K => run_ 2 K rfl fun a K => nil_ ?_)) ?_
  · by_cases q : r.wn = []
    · exact cf_ K rfl (nil_pos q) (wp_skip (thn_ ⟨by unfold weekNoV; rw [if_pos q], fg_ K ⟨rfl, rfl, rfl, rfl, rfl, trivial⟩, M⟩))
    have e := wv q
    refine ct_ K rfl (pos_l q) (sr_ (run_ 2 K rfl fun a K => ld_ K M 2 rfl rfl rfl rfl rfl rfl R.c15 rfl fun a K => cl_ K Tryz.func95 (by kernel_rfl) rfl rfl rfl rfl rfl rfl ((hN _).mono ?_)))
    rintro _ w3 ⟨rfl, b3⟩
    replace M := M.call b3
    refine ⟨_, rfl, fun a K => run_ 5 K rfl fun a K => nil_ ?_⟩
    by_cases m : (noV n r.wk).2.1 ∈ r.wn
    · have u5 : (!decide ((noV n r.wk).2.1 ∈ r.wn)) = false := by rw [decide_eq_true m]; rfl
      refine dseq_ fl rfl rfl M.drew ( dp_ 5 16 [0, 2] K rfl rfl (by kernel_rfl) fun a K => dld_ 7 1 K M.drew 2 rfl rfl rfl rfl rfl rfl rfl e12 rfl (by kernel_rfl) fun a K => dc_ 15 3 K Tryz.func58 (by kernel_rfl) rfl rfl rfl rfl rfl rfl rfl (by kernel_rfl) ((H12 _ M.drew.bl _).mono ?_))
      rintro _ w3 ⟨rfl, b3⟩
      replace M := M.drew.call b3
      refine ⟨_, rfl, M, fun a K => dp_ 63 12 [4, 5] K rfl rfl (by kernel_rfl) fun a K => dp_ 262143 0 [6, 7, 8, 9, 10, 11, 12, 13, 14, 15, 16, 17] (fx_ K u5) rfl rfl (by kernel_rfl) fun a K => dend_ (by kernel_rfl) ?_⟩
      exact cf_ K rfl rfl (wp_skip (thn_ ⟨by rw [e]; exact either_1 m, fg_ K ⟨rfl, rfl, rfl, rfl, rfl, trivial⟩, M⟩))
    have u5 : (!decide ((noV n r.wk).2.1 ∈ r.wn)) = true := by rw [decide_eq_false m]; rfl
    refine dseq_ fl rfl rfl M.drew ( dp_ 5 16 [0, 2] K rfl rfl (by kernel_rfl) fun a K => dld_ 7 1 K M.drew 2 rfl rfl rfl rfl rfl rfl rfl e12 rfl (by kernel_rfl) fun a K => dc_ 15 3 K Tryz.func58 (by kernel_rfl) rfl rfl rfl rfl rfl rfl rfl (by kernel_rfl) ((H12 _ M.drew.bl _).mono ?_))
    rintro _ w3 ⟨rfl, b3⟩
    replace M := M.drew.call b3
    refine ⟨_, rfl, M, fun a K => dp_ 63 12 [4, 5] K rfl rfl (by kernel_rfl) fun a K => dp_ 1919 8 [6, 8, 9, 10] (fx_ K u5) rfl rfl (by kernel_rfl) fun a K => dld_ 2047 7 K M 2 rfl rfl rfl rfl rfl rfl rfl e12 rfl (by kernel_rfl) fun a K => dld_ 4095 11 K M 2 rfl rfl rfl rfl rfl rfl rfl R.c15 rfl (by kernel_rfl) fun a K => dc_ 8191 12 K Tryz.func96 (by kernel_rfl) rfl rfl rfl rfl rfl rfl rfl (by kernel_rfl) ((weeks2_on D.o1 D.o2 q0 q1).mono ?_)⟩
    rintro _ w12 ⟨rfl, b12⟩
    replace M := M.call b12
    refine ⟨_, rfl, M, fun a K => dp_ 32767 3 [13, 14] K rfl rfl (by kernel_rfl) fun a K => dc_ 65535 15 K Tryz.func58 (by kernel_rfl) rfl rfl rfl rfl rfl rfl rfl (by kernel_rfl) ((H12 _ M.bl _).mono ?_)⟩
    rintro _ w15 ⟨rfl, b15⟩
    replace M := M.call b15
    refine ⟨_, rfl, M, fun a K => dp_ 262143 0 [16, 17] K rfl rfl (by kernel_rfl) fun a K => dend_ (by kernel_rfl) ?_⟩
    rw [wW] at K
    by_cases m2 : (noV n r.wk).2.1 - (fw ((noV n r.wk).1 + 1) r.wk - fw (noV n r.wk).1 r.wk) / 7 - 1 ∈ r.wn
    · exact cf_ K rfl (by rw [decide_eq_true m2]; rfl) (wp_skip (thn_ ⟨by rw [e]; exact either_2 m2, fg_ K ⟨rfl, rfl, rfl, rfl, rfl, trivial⟩, M⟩))
    · exact ct_ K rfl (by rw [decide_eq_false m2]; rfl) (sr_ (run_ 1 K rfl fun a K => nil_ (ret_ rfl K rfl ⟨bool_ret (noB (by rw [e]; exact either_no q m m2)), M.bl⟩)))
  clear K M
  rintro a W ⟨hB, K, M⟩
  refine sr_ (run_ 1 K rfl fun a K => cl_ K Tryz.func97 (by kernel_rfl) rfl rfl rfl rfl rfl rfl ((yday2_on D.n1 D.n2).mono ?_))
  rintro _ w1 ⟨rfl, b1⟩
  replace M := M.call b1
  refine ⟨_, rfl, fun a K => run_ 2 K rfl fun a K => nil_ ?_⟩
  refine sj_ (fun a' w' => Kn 252 [(14, .int .i64 (365 + lpi (dt n).1)), (13, .int .i64 (yd n)), (10, .pointer (some ⟨g10, 0, none⟩)), (8, .int .i64 (st / 86400)), (7, .pointer (some ⟨g7, 0, none⟩)), (3, .pointer (some ⟨g3, 0, none⟩)), (2, .int .i64 n)] a' ∧ On [(g10, .cells #[.int .i64 (dt (st / 86400)).1, .int .i64 (dt (st / 86400)).2.1, .int .i64 (dt (st / 86400)).2.2] 30 (0, 0)), (g7, .cells #[.int .i64 (dt n).1, .int .i64 (dt n).2.1, .int .i64 (dt n).2.2] 30 (0, 0)), (g3, .cells cs 25 (0, 0))] w w') (sr_ (run_ 1 K rfl fun a K => ld_ K M 1 rfl rfl rfl rfl rfl rfl rfl rfl fun a K => cl_ K Tryz.func64 (by kernel_rfl) rfl rfl rfl rfl rfl rfl ((rlong_on D.y1 D.y2).mono ?_))) ?_
  rintro _ w2 ⟨rfl, b2⟩
  replace M := M.call b2
  refine ⟨_, rfl, fun a K => nil_ ?_⟩
  · by_cases c : lp (dt n).1 = true
    · exact ct_ K rfl c (rg_ (run_ 1 K rfl fun a K => nil_ ⟨fg_ (ks_ (i := 14) K rfl (congrArg (Value.int .i64) (lpi_366 c))) ⟨rfl, rfl, rfl, rfl, rfl, rfl, rfl, trivial⟩, M⟩))
    · exact cf_ K rfl (Bool.eq_false_iff.2 c) (wp_skip (thn_ ⟨fg_ (ks_ (i := 14) K rfl (congrArg (Value.int .i64) (lpi_365 c))) ⟨rfl, rfl, rfl, rfl, rfl, rfl, rfl, trivial⟩, M⟩))
  clear K M
  rintro a W ⟨K, M⟩
  refine sj_ (fun a' w' => eitherV r.yd (yd n) (365 + lpi (dt n).1) = true ∧ Kn 252 [(14, .int .i64 (365 + lpi (dt n).1)), (13, .int .i64 (yd n)), (10, .pointer (some ⟨g10, 0, none⟩)), (8, .int .i64 (st / 86400)), (7, .pointer (some ⟨g7, 0, none⟩)), (3, .pointer (some ⟨g3, 0, none⟩)), (2, .int .i64 n)] a' ∧ On [(g10, .cells #[.int .i64 (dt (st / 86400)).1, .int .i64 (dt (st / 86400)).2.1, .int .i64 (dt (st / 86400)).2.2] 30 (0, 0)), (g7, .cells #[.int .i64 (dt n).1, .int .i64 (dt n).2.1, .int .i64 (dt n).2.2] 30 (0, 0)), (g3, .cells cs 25 (0, 0))] w w') (sr_ ?_) ?_
  · by_cases q : r.yd = []
    · have u3 := nil_pos q
      exact run_ 1 K rfl fun a K => ld_ K M 2 rfl rfl rfl rfl rfl rfl e11 rfl fun a K => run_ 2 K rfl fun a K => run_ 17 (fx_ K u3) rfl fun a K => nil_ (cf_ K rfl rfl (wp_skip (thn_ ⟨either_0 q, fg_ K ⟨rfl, rfl, rfl, rfl, rfl, rfl, rfl, trivial⟩, M⟩)))
    have u3 := pos_l q
    by_cases m : yd n ∈ r.yd
    · have u11 : (!decide (yd n ∈ r.yd)) = false := by rw [decide_eq_true m]; rfl
      refine run_ 1 K rfl fun a K => ld_ K M 2 rfl rfl rfl rfl rfl rfl e11 rfl fun a K => run_ 2 K rfl fun a K => run_ 2 (fx_ K u3) rfl fun a K => ld_ K M 2 rfl rfl rfl rfl rfl rfl e11 rfl fun a K => run_ 1 K rfl fun a K => cl_ K Tryz.func58 (by kernel_rfl) rfl rfl rfl rfl rfl rfl ((H11 _ M.bl _).mono ?_)
      rintro _ w8 ⟨rfl, b8⟩
      replace M := M.call b8
      refine ⟨_, rfl, fun a K => run_ 3 K rfl fun a K => run_ 9 (fx_ K u11) rfl fun a K => nil_ ?_⟩
      exact cf_ K rfl rfl (wp_skip (thn_ ⟨either_1 m, fg_ K ⟨rfl, rfl, rfl, rfl, rfl, rfl, rfl, trivial⟩, M⟩))
    have u11 : (!decide (yd n ∈ r.yd)) = true := by rw [decide_eq_false m]; rfl
    refine run_ 1 K rfl fun a K => ld_ K M 2 rfl rfl rfl rfl rfl rfl e11 rfl fun a K => run_ 2 K rfl fun a K => run_ 2 (fx_ K u3) rfl fun a K => ld_ K M 2 rfl rfl rfl rfl rfl rfl e11 rfl fun a K => run_ 1 K rfl fun a K => cl_ K Tryz.func58 (by kernel_rfl) rfl rfl rfl rfl rfl rfl ((H11 _ M.bl _).mono ?_)
    rintro _ w8 ⟨rfl, b8⟩
    replace M := M.call b8
    refine ⟨_, rfl, fun a K => run_ 3 K rfl fun a K => run_ 1 (fx_ K u11) rfl fun a K => ld_ K M 2 rfl rfl rfl rfl rfl rfl e11 rfl fun a K => run_ 4 K rfl fun a K => cl_ K Tryz.func58 (by kernel_rfl) rfl rfl rfl rfl rfl rfl ((H11 _ M.bl _).mono ?_)⟩
    rintro _ w18 ⟨rfl, b18⟩
    replace M := M.call b18
    refine ⟨_, rfl, fun a K => run_ 2 K rfl fun a K => nil_ ?_⟩
    rw [wY] at K
    by_cases m2 : yd n - (365 + lpi (dt n).1) - 1 ∈ r.yd
    · exact cf_ K rfl (by rw [decide_eq_true m2]; rfl) (wp_skip (thn_ ⟨either_2 m2, fg_ K ⟨rfl, rfl, rfl, rfl, rfl, rfl, rfl, trivial⟩, M⟩))
    · exact ct_ K rfl (by rw [decide_eq_false m2]; rfl) (sr_ (run_ 1 K rfl fun a K => nil_ (ret_ rfl K rfl ⟨bool_ret (noC (either_no q m m2)), M.bl⟩)))
  clear K M
  rintro a W ⟨hC, K, M⟩
  refine sr_ (run_ 1 K rfl fun a K => ld_ K M 1 rfl rfl rfl rfl rfl rfl rfl rfl fun a K => run_ 1 K rfl fun a K => ld_ K M 1 rfl rfl rfl rfl rfl rfl rfl rfl fun a K => cl_ K Tryz.func31 (by kernel_rfl) rfl rfl rfl rfl rfl rfl ((rlenm_on D.y1 D.y2).mono ?_))
  rintro _ w4 ⟨rfl, b4⟩
  replace M := M.call b4
  refine ⟨_, rfl, fun a K => run_ 1 K rfl fun a K => nil_ ?_⟩
  refine sj_ (fun a' w' => eitherV r.md (dt n).2.2 (ln (dt n).1 (dt n).2.1) = true ∧ Kn 252 [(15, .int .i64 (ln (dt n).1 (dt n).2.1)), (14, .int .i64 (365 + lpi (dt n).1)), (13, .int .i64 (yd n)), (10, .pointer (some ⟨g10, 0, none⟩)), (8, .int .i64 (st / 86400)), (7, .pointer (some ⟨g7, 0, none⟩)), (3, .pointer (some ⟨g3, 0, none⟩)), (2, .int .i64 n)] a' ∧ On [(g10, .cells #[.int .i64 (dt (st / 86400)).1, .int .i64 (dt (st / 86400)).2.1, .int .i64 (dt (st / 86400)).2.2] 30 (0, 0)), (g7, .cells #[.int .i64 (dt n).1, .int .i64 (dt n).2.1, .int .i64 (dt n).2.2] 30 (0, 0)), (g3, .cells cs 25 (0, 0))] w w') (sr_ ?_) ?_
  · by_cases q : r.md = []
    · have u3 := nil_pos q
      exact run_ 1 K rfl fun a K => ld_ K M 2 rfl rfl rfl rfl rfl rfl e10 rfl fun a K => run_ 2 K rfl fun a K => run_ 19 (fx_ K u3) rfl fun a K => nil_ (cf_ K rfl rfl (wp_skip (thn_ ⟨either_0 q, fg_ K ⟨rfl, rfl, rfl, rfl, rfl, rfl, rfl, rfl, trivial⟩, M⟩)))
    have u3 := pos_l q
    by_cases m : (dt n).2.2 ∈ r.md
    · have u12 : (!decide ((dt n).2.2 ∈ r.md)) = false := by rw [decide_eq_true m]; rfl
      refine run_ 1 K rfl fun a K => ld_ K M 2 rfl rfl rfl rfl rfl rfl e10 rfl fun a K => run_ 2 K rfl fun a K => run_ 2 (fx_ K u3) rfl fun a K => ld_ K M 2 rfl rfl rfl rfl rfl rfl e10 rfl fun a K => run_ 1 K rfl fun a K => ld_ K M 1 rfl rfl rfl rfl rfl rfl rfl rfl fun a K => cl_ K Tryz.func58 (by kernel_rfl) rfl rfl rfl rfl rfl rfl ((H10 _ M.bl _).mono ?_)
      rintro _ w9 ⟨rfl, b9⟩
      replace M := M.call b9
      refine ⟨_, rfl, fun a K => run_ 3 K rfl fun a K => run_ 10 (fx_ K u12) rfl fun a K => nil_ ?_⟩
      exact cf_ K rfl rfl (wp_skip (thn_ ⟨either_1 m, fg_ K ⟨rfl, rfl, rfl, rfl, rfl, rfl, rfl, rfl, trivial⟩, M⟩))
    have u12 : (!decide ((dt n).2.2 ∈ r.md)) = true := by rw [decide_eq_false m]; rfl
    refine run_ 1 K rfl fun a K => ld_ K M 2 rfl rfl rfl rfl rfl rfl e10 rfl fun a K => run_ 2 K rfl fun a K => run_ 2 (fx_ K u3) rfl fun a K => ld_ K M 2 rfl rfl rfl rfl rfl rfl e10 rfl fun a K => run_ 1 K rfl fun a K => ld_ K M 1 rfl rfl rfl rfl rfl rfl rfl rfl fun a K => cl_ K Tryz.func58 (by kernel_rfl) rfl rfl rfl rfl rfl rfl ((H10 _ M.bl _).mono ?_)
    rintro _ w9 ⟨rfl, b9⟩
    replace M := M.call b9
    refine ⟨_, rfl, fun a K => run_ 3 K rfl fun a K => run_ 1 (fx_ K u12) rfl fun a K => ld_ K M 2 rfl rfl rfl rfl rfl rfl e10 rfl fun a K => run_ 1 K rfl fun a K => ld_ K M 1 rfl rfl rfl rfl rfl rfl rfl rfl fun a K => run_ 3 K rfl fun a K => cl_ K Tryz.func58 (by kernel_rfl) rfl rfl rfl rfl rfl rfl ((H10 _ M.bl _).mono ?_)⟩
    rintro _ w20 ⟨rfl, b20⟩
    replace M := M.call b20
    refine ⟨_, rfl, fun a K => run_ 2 K rfl fun a K => nil_ ?_⟩
    rw [wM] at K
    by_cases m2 : (dt n).2.2 - ln (dt n).1 (dt n).2.1 - 1 ∈ r.md
    · exact cf_ K rfl (by rw [decide_eq_true m2]; rfl) (wp_skip (thn_ ⟨either_2 m2, fg_ K ⟨rfl, rfl, rfl, rfl, rfl, rfl, rfl, rfl, trivial⟩, M⟩))
    · exact ct_ K rfl (by rw [decide_eq_false m2]; rfl) (sr_ (run_ 1 K rfl fun a K => nil_ (ret_ rfl K rfl ⟨bool_ret (noD (either_no q m m2)), M.bl⟩)))
  clear K M
  rintro a W ⟨hD, K, M⟩
  have dv2 : dayV r (st / 86400) n = ((decide (r.dy = []) || r.dy.any (numberedV r n)) && likeV r n (st / 86400)) := by rw [dv, hA, hB, hC, hD]; rfl
  clear noA noB noC noD hA hB hC hD wv wW wY dv H10 H11 H12 H13
  refine sr_ (run_ 1 K rfl fun a K => cl_ K Tryz.func94 (by kernel_rfl) rfl rfl rfl rfl rfl rfl ((rwd_on D.n3 D.n4).mono ?_))
  rintro _ w1 ⟨rfl, b1⟩
  replace M := M.call b1
  refine ⟨_, rfl, fun a K => run_ 1 K rfl fun a K => nil_ ?_⟩
  refine wp_seq (sr_ (run_ 1 K rfl fun a K => ld_ K M 2 rfl rfl rfl rfl rfl rfl e9 rfl fun a K => run_ 2 K rfl fun a K => nil_ ?_))
  by_cases q9 : r.dy = []
  case neg =>
    have dv3 : dayV r (st / 86400) n = r.dy.any (byP r n) := by
      have e : likeV r n (st / 86400) = true := by exact like_2 _ _ q9
      rw [dv2, e, decide_eq_false q9, Bool.false_or, Bool.and_true, AR]
    refine ct_ K rfl (pos_l9 q9) (sr_ (run_ 9 K rfl fun a K => val_ K rfl rfl rfl (run_neg rfl (K.of (x := .tmp 140) rfl)) fun a K => run_ 2 K rfl fun a K => nil_ ?_))
    refine sj_ (fun a' w' => Kn 252 [(18, .int .i64 (bkV r n)), (17, .int .i64 (plV r n)), (16, .int .i64 (wd n)), (3, .pointer (some ⟨g3, 0, none⟩))] a' ∧ On [(g10, .cells #[.int .i64 (dt (st / 86400)).1, .int .i64 (dt (st / 86400)).2.1, .int .i64 (dt (st / 86400)).2.2] 30 (0, 0)), (g7, .cells #[.int .i64 (dt n).1, .int .i64 (dt n).2.1, .int .i64 (dt n).2.2] 30 (0, 0)), (g3, .cells cs 25 (0, 0))] w w') (sr_ ?_) ?_
    · by_cases c : r.fr = 6
      · have u2 := decide_eq_true c
        have pw := PM (Or.inl c : r.fr = 6 ∨ r.mo ≠ [])
        refine run_ 1 K rfl fun a K => ld_ K M 2 rfl rfl rfl rfl rfl rfl R.c0 rfl fun a K => run_ 1 K rfl fun a K => run_ 6 (fx_ K u2) rfl fun a K => nil_ ?_
        refine ct_ K rfl rfl (draw_ fl rfl rfl M.drew ( dp_ 1 13 [0] K rfl rfl (by kernel_rfl) fun a K => dld_ 3 1 K M.drew 1 rfl rfl rfl rfl rfl rfl rfl rfl rfl (by kernel_rfl) fun a K => dp_ 4223 6 [2, 3, 4, 12, 5, 6] K rfl rfl (by kernel_rfl) fun a K => dld_ 4351 7 K M.drew 1 rfl rfl rfl rfl rfl rfl rfl rfl rfl (by kernel_rfl) fun a K => dp_ 6143 2 [8, 9, 10] K rfl rfl (by kernel_rfl) fun a K => dt_ 8191 11 K M.drew rfl rfl rfl rfl (by kernel_rfl) (fun W hW => run_neg rfl (K.of (x := .tmp 161) rfl)) fun a K => dp_ 16383 0 [13] K rfl rfl (by kernel_rfl) fun a K => dend_ (by kernel_rfl) ?_))
        exact ⟨fg_ (ks_ (i := 18) (ks_ (i := 17) K rfl (congrArg (Value.int .i64) pw.1)) rfl (congrArg (Value.int .i64) pw.2)) ⟨rfl, rfl, rfl, rfl, trivial⟩, M.drew⟩
      have u2 := decide_eq_false c
      refine run_ 1 K rfl fun a K => ld_ K M 2 rfl rfl rfl rfl rfl rfl R.c0 rfl fun a K => run_ 1 K rfl fun a K => run_ 2 (fx_ K u2) rfl fun a K => ld_ K M 2 rfl rfl rfl rfl rfl rfl e13 rfl fun a K => run_ 3 K rfl fun a K => nil_ ?_
      by_cases q : r.mo = []
      · have pw := PY (fun z => z.elim c (fun z => z q) : ¬ (r.fr = 6 ∨ r.mo ≠ []))
        exact cf_ K rfl (nil_pos q) (wp_skip (thn_ ⟨fg_ (ks_ (i := 18) (ks_ (i := 17) K rfl (congrArg (Value.int .i64) pw.1)) rfl (congrArg (Value.int .i64) pw.2)) ⟨rfl, rfl, rfl, rfl, trivial⟩, M⟩))
      · have pw := PM (Or.inr q : r.fr = 6 ∨ r.mo ≠ [])
        refine ct_ K rfl (pos_l q) (draw_ fl rfl rfl M.drew ( dp_ 1 13 [0] K rfl rfl (by kernel_rfl) fun a K => dld_ 3 1 K M.drew 1 rfl rfl rfl rfl rfl rfl rfl rfl rfl (by kernel_rfl) fun a K => dp_ 4223 6 [2, 3, 4, 12, 5, 6] K rfl rfl (by kernel_rfl) fun a K => dld_ 4351 7 K M.drew 1 rfl rfl rfl rfl rfl rfl rfl rfl rfl (by kernel_rfl) fun a K => dp_ 6143 2 [8, 9, 10] K rfl rfl (by kernel_rfl) fun a K => dt_ 8191 11 K M.drew rfl rfl rfl rfl (by kernel_rfl) (fun W hW => run_neg rfl (K.of (x := .tmp 161) rfl)) fun a K => dp_ 16383 0 [13] K rfl rfl (by kernel_rfl) fun a K => dend_ (by kernel_rfl) ?_))
        exact ⟨fg_ (ks_ (i := 18) (ks_ (i := 17) K rfl (congrArg (Value.int .i64) pw.1)) rfl (congrArg (Value.int .i64) pw.2)) ⟨rfl, rfl, rfl, rfl, trivial⟩, M.drew⟩
    clear K M
    rintro a W ⟨K, M⟩
    refine sr_ (run_ 1 K rfl fun a K => nil_ (wp_seq (sr_ (run_ 1 K rfl fun a K => nil_ (wp_block (wp_loop (fun a W => ∃ i : Nat, i ≤ r.dy.length ∧ Kn 252 [(20, .int .i64 (i : Int)), (19, .bool ((r.dy.take i).any (byP r n))), (18, .int .i64 (bkV r n)), (17, .int .i64 (plV r n)), (16, .int .i64 (wd n)), (3, .pointer (some ⟨g3, 0, none⟩))] a ∧ On [(g10, .cells #[.int .i64 (dt (st / 86400)).1, .int .i64 (dt (st / 86400)).2.1, .int .i64 (dt (st / 86400)).2.2] 30 (0, 0)), (g7, .cells #[.int .i64 (dt n).1, .int .i64 (dt n).2.1, .int .i64 (dt n).2.2] 30 (0, 0)), (g3, .cells cs 25 (0, 0))] w W) (fun a _ => leftN 20 r.dy.length a) ⟨0, Nat.zero_le _, fg_ K ⟨rfl, rfl, rfl, rfl, rfl, rfl, trivial⟩, M⟩ ?_))))))
    clear K M
    rintro a W ⟨i, hi, K, M⟩
    have KL := leftN_ (n := r.dy.length) (d := 20) K rfl
    refine wp_seq (sr_ (run_ 2 K rfl fun a K => ld_ K M 2 rfl rfl rfl rfl rfl rfl e9 rfl fun a K => run_ 2 K rfl fun a K => nil_ ?_))
    by_cases hc : i < r.dy.length
    case neg =>
      obtain rfl : i = r.dy.length := Nat.le_antisymm hi (Nat.le_of_not_lt hc)
      rw [List.take_length] at K
      exact cf_ K rfl (kp_ge hc) (ex_ (thn_ (sr_ (run_ 2 K rfl fun a K => nil_ (ret_ rfl K rfl ⟨bool_ret dv3.symm, M.bl⟩)))))
    obtain ⟨g9, b9, eA9, hat⟩ := at67 (Kd.C_below C9 M.bl) (Nat.lt_of_le_of_lt (Nat.zero_le _) hc)
    have hx := hat i hc
    have et := any_take (p := byP r n) hc
    have ei := kp_inc hc hl9
    subst eA9
    generalize hxx : r.dy[i] = x at hx et
    refine ck_ K rfl (kp_lt hc) (wp_seq (bjn_ (fun a' w' => Kn 252 [(20, .int .i64 (i : Int)), (19, .bool ((r.dy.take (i + 1)).any (byP r n))), (18, .int .i64 (bkV r n)), (17, .int .i64 (plV r n)), (16, .int .i64 (wd n)), (3, .pointer (some ⟨g3, 0, none⟩))] a' ∧ On [(g10, .cells #[.int .i64 (dt (st / 86400)).1, .int .i64 (dt (st / 86400)).2.1, .int .i64 (dt (st / 86400)).2.2] 30 (0, 0)), (g7, .cells #[.int .i64 (dt n).1, .int .i64 (dt n).2.1, .int .i64 (dt n).2.2] 30 (0, 0)), (g3, .cells cs 25 (0, 0))] w w') (sr_ (run_ 1 K rfl fun a K => ld_ K M 2 rfl rfl rfl rfl rfl rfl e9 rfl fun a K => run_ 1 K rfl fun a K => val_ K rfl rfl rfl (run_ix23 (kk := i) hc hl9 rfl (K.of (x := .tmp 171) rfl) (K.of (x := .tmp 172) rfl)) fun a K => val_ K rfl rfl rfl (run_ld67 rfl (K.of (x := .tmp 173) rfl) hx) fun a K => nw_ K M rfl rfl rfl rfl rfl rfl rfl (fun _ => rfl) rfl rfl rfl fun a g21 W21 M K => nil_ ?_)) ?_))
    case refine_2 =>
      rintro a' W' ⟨K', M'⟩
      refine rg_ (run_ 3 K' rfl fun a5 K5 => nl_ ⟨⟨i + 1, hc, fg_ (ks_ (i := 20) K5 rfl (congrArg (Value.int .i64) ei)) ⟨rfl, rfl, rfl, rfl, rfl, rfl, trivial⟩, M'⟩, ?_⟩)
      rw [leftN_ (d := 20) K5 rfl, KL, ei]
      exact leftN_lt hc
    have lift : ∀ b : Bool, b = (r.dy.take (i + 1)).any (byP r n) → Value.bool b = .bool ((r.dy.take (i + 1)).any (byP r n)) := fun b z => by rw [z]
    have done : ∀ {b : Bool} {E : O.Env} {a' : Act} {p : Nat × Obj} {W' : World}, Kn 252 ((19, .bool b) :: E) a' → cov ((19, .bool b) :: E) [(20, .int .i64 (i : Int)), (19, .bool b), (18, .int .i64 (bkV r n)), (17, .int .i64 (plV r n)), (16, .int .i64 (wd n)), (3, .pointer (some ⟨g3, 0, none⟩))] → b = (r.dy.take (i + 1)).any (byP r n) → On (p :: [(g10, .cells #[.int .i64 (dt (st / 86400)).1, .int .i64 (dt (st / 86400)).2.1, .int .i64 (dt (st / 86400)).2.2] 30 (0, 0)), (g7, .cells #[.int .i64 (dt n).1, .int .i64 (dt n).2.1, .int .i64 (dt n).2.2] 30 (0, 0)), (g3, .cells cs 25 (0, 0))]) w W' → Kn 252 [(20, .int .i64 (i : Int)), (19, .bool ((r.dy.take (i + 1)).any (byP r n))), (18, .int .i64 (bkV r n)), (17, .int .i64 (plV r n)), (16, .int .i64 (wd n)), (3, .pointer (some ⟨g3, 0, none⟩))] a' ∧ On [(g10, .cells #[.int .i64 (dt (st / 86400)).1, .int .i64 (dt (st / 86400)).2.1, .int .i64 (dt (st / 86400)).2.2] 30 (0, 0)), (g7, .cells #[.int .i64 (dt n).1, .int .i64 (dt n).2.1, .int .i64 (dt n).2.2] 30 (0, 0)), (g3, .cells cs 25 (0, 0))] w W' := fun K' hcv e M' => ⟨by rw [← e]; exact fg_ K' hcv, on_tail M'⟩
    refine rg_ ?_
    cases hb : (r.dy.take i).any (byP r n) with
    | true =>
      rw [hb] at et
      replace K := ks_ (i := 19) K rfl (congrArg Value.bool hb)
      exact run_ 25 K rfl fun a K => nl_ (done K ⟨rfl, rfl, rfl, rfl, rfl, rfl, trivial⟩ (by rw [et]; rfl) M)
    | false =>
    rw [hb, Bool.false_or] at et
    replace K := ks_ (i := 19) K rfl (congrArg Value.bool hb)
    by_cases w1 : x.f1 = wd n
    case neg =>
      have u5 := decide_eq_false w1
      exact run_ 3 K rfl fun a K => ld_ K M 0 rfl rfl rfl rfl rfl rfl rfl rfl fun a K => run_ 2 K rfl fun a K => run_ 19 (fx_ K u5) rfl fun a K => nl_ (done K ⟨rfl, rfl, rfl, rfl, rfl, rfl, trivial⟩ (by rw [et]; unfold byP; rw [u5]; rfl) M)
    have u5 := decide_eq_true w1
    by_cases w2 : x.f0 = 0
    case pos =>
      have u9 := decide_eq_true w2
      exact run_ 3 K rfl fun a K => ld_ K M 0 rfl rfl rfl rfl rfl rfl rfl rfl fun a K => run_ 2 K rfl fun a K => run_ 2 (fx_ K u5) rfl fun a K => ld_ K M 0 rfl rfl rfl rfl rfl rfl rfl rfl fun a K => run_ 1 K rfl fun a K => run_ 15 (fx_ K u9) rfl fun a K => nl_ (done K ⟨rfl, rfl, rfl, rfl, rfl, rfl, trivial⟩ (by rw [et]; unfold byP; rw [u5, u9]; rfl) M)
    have u9 := decide_eq_false w2
    by_cases w3 : x.f0 = plV r n
    case pos =>
      have u14 := decide_eq_true w3
      exact run_ 3 K rfl fun a K => ld_ K M 0 rfl rfl rfl rfl rfl rfl rfl rfl fun a K => run_ 2 K rfl fun a K => run_ 2 (fx_ K u5) rfl fun a K => ld_ K M 0 rfl rfl rfl rfl rfl rfl rfl rfl fun a K => run_ 1 K rfl fun a K => run_ 2 (fx_ K u9) rfl fun a K => ld_ K M 0 rfl rfl rfl rfl rfl rfl rfl rfl fun a K => run_ 2 K rfl fun a K => run_ 10 (fx_ K u14) rfl fun a K => nl_ (done K ⟨rfl, rfl, rfl, rfl, rfl, rfl, trivial⟩ (by rw [et]; unfold byP; rw [u5, u9, u14]; rfl) M)
    have u14 := decide_eq_false w3
    exact run_ 3 K rfl fun a K => ld_ K M 0 rfl rfl rfl rfl rfl rfl rfl rfl fun a K => run_ 2 K rfl fun a K => run_ 2 (fx_ K u5) rfl fun a K => ld_ K M 0 rfl rfl rfl rfl rfl rfl rfl rfl fun a K => run_ 1 K rfl fun a K => run_ 2 (fx_ K u9) rfl fun a K => ld_ K M 0 rfl rfl rfl rfl rfl rfl rfl rfl fun a K => run_ 2 K rfl fun a K => run_ 3 (fx_ K u14) rfl fun a K => ld_ K M 0 rfl rfl rfl rfl rfl rfl rfl rfl fun a K => run_ 6 K rfl fun a K => nl_ (done K ⟨rfl, rfl, rfl, rfl, rfl, rfl, trivial⟩ (by rw [et]; unfold byP; rw [u5, u9, u14]; rfl) M)
  rw [decide_eq_true q9, Bool.true_or, Bool.true_and] at dv2
  refine cs_ K rfl (nil_pos9 q9) (wp_seq (sr_ (run_ 1 K rfl fun a K => ld_ K M 2 rfl rfl rfl rfl rfl rfl e11 rfl fun a K => run_ 2 K rfl fun a K => ld_ K M 2 rfl rfl rfl rfl rfl rfl e10 rfl fun a K => run_ 3 K rfl fun a K => nil_ ?_)))
  by_cases q30 : 0 < r.yd.length + r.md.length
  case pos => exact ct_ K rfl (pos_sum q30 hyd hmd) (sr_ (run_ 1 K rfl fun a K => nil_ (ret_ rfl K rfl ⟨bool_ret (by rw [dv2, like_1 _ _ q30]), M.bl⟩)))
  obtain ⟨l1, l2, l3, l4, l5, l6⟩ := LK q9 q30
  refine cs_ K rfl (nil_sum q30) ?_
  refine wp_seq (sr_ ?_)
  by_cases q12 : r.wn = []
  case neg =>
    have u3 := pos_l q12
    refine run_ 1 K rfl fun a K => ld_ K M 2 rfl rfl rfl rfl rfl rfl e12 rfl fun a K => run_ 2 K rfl fun a K => run_ 5 (fx_ K u3) rfl fun a K => nil_ ?_
    refine ct_ K rfl rfl (sr_ (run_ 2 K rfl fun a K => cl_ K Tryz.func94 (by kernel_rfl) rfl rfl rfl rfl rfl rfl ((rwd_on D.f3 D.f4).mono ?_)))
    rintro _ w2 ⟨rfl, b2⟩
    replace M := M.call b2
    refine ⟨_, rfl, fun a K => run_ 2 K rfl fun a K => nil_ ?_⟩
    exact ret_ rfl K rfl ⟨bool_ret (dv2.trans (l1 (Or.inl q12))).symm, M.bl⟩
  have u3 := nil_pos q12
  refine run_ 1 K rfl fun a K => ld_ K M 2 rfl rfl rfl rfl rfl rfl e12 rfl fun a K => run_ 2 K rfl fun a K => run_ 2 (fx_ K u3) rfl fun a K => ld_ K M 2 rfl rfl rfl rfl rfl rfl R.c0 rfl fun a K => run_ 2 K rfl fun a K => nil_ ?_
  by_cases c5 : r.fr = 5
  case pos =>
    refine ct_ K rfl (decide_eq_true c5) (sr_ (run_ 2 K rfl fun a K => cl_ K Tryz.func94 (by kernel_rfl) rfl rfl rfl rfl rfl rfl ((rwd_on D.f3 D.f4).mono ?_)))
    rintro _ w2 ⟨rfl, b2⟩
    replace M := M.call b2
    refine ⟨_, rfl, fun a K => run_ 2 K rfl fun a K => nil_ ?_⟩
    exact ret_ rfl K rfl ⟨bool_ret (dv2.trans (l1 (Or.inr c5))).symm, M.bl⟩
  refine cs_ K rfl (decide_eq_false c5) (wp_seq (sr_ ?_))
  by_cases c6 : r.fr = 6
  case pos =>
    have u2 := decide_eq_true c6
    refine run_ 1 K rfl fun a K => ld_ K M 2 rfl rfl rfl rfl rfl rfl R.c0 rfl fun a K => run_ 1 K rfl fun a K => run_ 5 (fx_ K u2) rfl fun a K => nil_ ?_
    refine ct_ K rfl rfl (sr_ ?_)
    by_cases d : (dt n).2.2 = (dt (st / 86400)).2.2
    · have u4 := decide_eq_true d
      exact run_ 1 K rfl fun a K => ld_ K M 1 rfl rfl rfl rfl rfl rfl rfl rfl fun a K => run_ 1 K rfl fun a K => ld_ K M 0 rfl rfl rfl rfl rfl rfl rfl rfl fun a K => run_ 1 K rfl fun a K => run_ 2 (fx_ K u4) rfl fun a K => ld_ K M 2 rfl rfl rfl rfl rfl rfl R.c0 rfl fun a K => run_ 1 K rfl fun a K => run_ 15 (fx_ K u2) rfl fun a K => nil_ (ret_ rfl K rfl ⟨bool_ret ((dv2.trans (l3 q12 c6)).trans u4).symm, M.bl⟩)
    · have u4 := decide_eq_false d
      exact run_ 1 K rfl fun a K => ld_ K M 1 rfl rfl rfl rfl rfl rfl rfl rfl fun a K => run_ 1 K rfl fun a K => ld_ K M 0 rfl rfl rfl rfl rfl rfl rfl rfl fun a K => run_ 1 K rfl fun a K => run_ 19 (fx_ K u4) rfl fun a K => nil_ (ret_ rfl K rfl ⟨bool_ret ((dv2.trans (l3 q12 c6)).trans u4).symm, M.bl⟩)
  have u2 := decide_eq_false c6
  refine run_ 1 K rfl fun a K => ld_ K M 2 rfl rfl rfl rfl rfl rfl R.c0 rfl fun a K => run_ 1 K rfl fun a K => run_ 2 (fx_ K u2) rfl fun a K => ld_ K M 2 rfl rfl rfl rfl rfl rfl R.c0 rfl fun a K => run_ 2 K rfl fun a K => nil_ ?_
  by_cases c7 : r.fr = 7
  case neg => exact cs_ K rfl (decide_eq_false c7) (sr_ (run_ 1 K rfl fun a K => nil_ (ret_ rfl K rfl ⟨bool_ret (dv2.trans (l2 q12 c5 c6 c7)).symm, M.bl⟩)))
  have u8 : decide (r.fr = 6) = false := u2
  refine ct_ K rfl (decide_eq_true c7) (sr_ ?_)
  by_cases d : (dt n).2.2 = (dt (st / 86400)).2.2
  case neg =>
    have u4 := decide_eq_false d
    exact run_ 1 K rfl fun a K => ld_ K M 1 rfl rfl rfl rfl rfl rfl rfl rfl fun a K => run_ 1 K rfl fun a K => ld_ K M 0 rfl rfl rfl rfl rfl rfl rfl rfl fun a K => run_ 1 K rfl fun a K => run_ 19 (fx_ K u4) rfl fun a K => nil_ (ret_ rfl K rfl ⟨bool_ret (dv2.trans (l5 q12 c7 d)).symm, M.bl⟩)
  have u4 := decide_eq_true d
  by_cases q : r.mo = []
  case neg =>
    have u13 := pos_l q
    exact run_ 1 K rfl fun a K => ld_ K M 1 rfl rfl rfl rfl rfl rfl rfl rfl fun a K => run_ 1 K rfl fun a K => ld_ K M 0 rfl rfl rfl rfl rfl rfl rfl rfl fun a K => run_ 1 K rfl fun a K => run_ 2 (fx_ K u4) rfl fun a K => ld_ K M 2 rfl rfl rfl rfl rfl rfl R.c0 rfl fun a K => run_ 1 K rfl fun a K => run_ 2 (fx_ K u8) rfl fun a K => ld_ K M 2 rfl rfl rfl rfl rfl rfl e13 rfl fun a K => run_ 2 K rfl fun a K => run_ 10 (fx_ K u13) rfl fun a K => nil_ (ret_ rfl K rfl ⟨bool_ret ((dv2.trans (l4 q12 c7 q)).trans u4).symm, M.bl⟩)
  have u13 := nil_pos q
  refine run_ 1 K rfl fun a K => ld_ K M 1 rfl rfl rfl rfl rfl rfl rfl rfl fun a K => run_ 1 K rfl fun a K => ld_ K M 0 rfl rfl rfl rfl rfl rfl rfl rfl fun a K => run_ 1 K rfl fun a K => run_ 2 (fx_ K u4) rfl fun a K => ld_ K M 2 rfl rfl rfl rfl rfl rfl R.c0 rfl fun a K => run_ 1 K rfl fun a K => run_ 2 (fx_ K u8) rfl fun a K => ld_ K M 2 rfl rfl rfl rfl rfl rfl e13 rfl fun a K => run_ 2 K rfl fun a K => run_ 3 (fx_ K u13) rfl fun a K => ld_ K M 1 rfl rfl rfl rfl rfl rfl rfl rfl fun a K => run_ 1 K rfl fun a K => ld_ K M 0 rfl rfl rfl rfl rfl rfl rfl rfl fun a K => run_ 4 K rfl fun a K => nil_ ?_
  exact ret_ rfl K rfl ⟨bool_ret (dv2.trans (l6 q12 c7 q d)).symm, M.bl⟩
end Go.Proofs.YtjjaiahfkiojlaaGreat.Pure
