/- RruleExact answers true. No condition but that the rule's end and the start are ints. -/
import Derived.Test.YtjjaiahfkiojlaaGreatMT23P5
import Derived.Test.YtjjaiahfkiojlaaGreatMHT
import Derived.Test.YtjjaiahfkiojlaaGreatOx152
import Derived.Test.YtjjaiahfkiojlaaGreatMOx63
namespace Go.Proofs.YtjjaiahfkiojlaaGreat.Pure
open Go.RowKit Go.Proofs.YtjjaiahfkiojlaaGreat.O Go.Proofs.YtjjaiahfkiojlaaGreatW.PrintWords Go.Proofs.YtjjaiahfkiojlaaGreatW.PrintLast
open Go.Proofs.YtjjaiahfkiojlaaGreat.Civ
set_option linter.unusedVariables false
set_option linter.unusedSimpArgs false
set_option maxHeartbeats 4000000
set_option maxRecDepth 100000
theorem on_up {L : List (Nat × Obj)} {w0 w1 W : World} (B : Below w0.heap.size w0 w1) (M : On L w1 W) : On L w0 W := ⟨below_step B M.bl, M.me, M.nd⟩
theorem c_of {W : World} {b n c : Nat} {A : Option Addr} {l : List Int} (h : Kd.R (Kd.int .i64) 3 W b (fun _ => True) (.slice A n c) l) : Kd.C (Kd.int .i64) W A l.length l ∧ l.length ≤ c := by
  obtain ⟨A2, c2, e, hc, C⟩ := Kd.R_reads h
  injection e with q1 q2 q3
  subst q1 q3
  exact ⟨C, hc⟩
theorem bound_on {w : World} (x : Int) : Calls Tryz.prog 29 #[.int .i64 x] w (Rets w (.bool (decide (-4611686018427387904 ≤ x ∧ x ≤ 4611686018427387904)))) := by
  have M := On.nil w
  have e : solsticeref01_In.f x (-4611686018427387904) 4611686018427387904 = some (decide (-4611686018427387904 ≤ x ∧ x ≤ 4611686018427387904)) := by
    unfold solsticeref01_In.f
    by_cases h1 : -4611686018427387904 ≤ x <;> by_cases h2 : x ≤ 4611686018427387904 <;> simp [h1, h2]
  have C : ∀ V, Calls Tryz.prog 61 #[.int .i64 x, .int .i64 (-4611686018427387904), .int .i64 4611686018427387904] V (Rets V (.bool (decide (-4611686018427387904 ≤ x ∧ x ≤ 4611686018427387904)))) := fun V => (solsticeref01_In.calls x _ _ _ V e).mono fun _ _ => rets_drawn
  refine en_ Tryz.func29 rfl rfl rfl fun a K => sr_ (run_ 1 K rfl fun a K => nil_ (sr_ (run_ 1 K rfl fun a K => cl_ K Tryz.func61 (by kernel_rfl) rfl rfl rfl rfl rfl rfl ((C _).mono ?_))))
  rintro _ w1 ⟨rfl, b1⟩
  replace M := M.call b1
  refine ⟨_, rfl, fun a K => run_ 1 K rfl fun a K => nil_ ?_⟩
  exact ret_ rfl K rfl ⟨rfl, M.bl⟩
section
variable {w : World} {cs : Array Value} {r : RR}
theorem recur2_on (R : Rul w cs r) (hua : -9223372036854775808 ≤ r.ua) (hua' : r.ua < 9223372036854775808) : ∃ b, (b = true ↔ Right r) ∧ ∀ W, Below w.heap.size w W → Calls Tryz.prog 13 #[.agg cs] W (Rets W (.bool b)) := by
  obtain ⟨b, hb, h⟩ := rrecur2 r hua hua'
  obtain ⟨k, hk⟩ := hb.rounds
  refine ⟨b, h, fun W hW => ?_⟩
  obtain ⟨A6, k6, A7, k7, A8, k8, A9, k9, A10, k10, A11, k11, A12, k12, A13, k13, A14, k14, rfl, h6, h7, h8, h9, h10, h11, h12, h13, h14⟩ := rul_opens (R.below hW)
  exact solsticeref21_Recur.calls k r.fr r.iv r.ct r.un r.ua r.utc A6 k6 r.sec A7 k7 r.mi A8 k8 r.ho A9 k9 r.dy A10 k10 r.md A11 k11 r.yd A12 k12 r.wn A13 k13 r.mo A14 k14 r.sp r.wk b W h6.2 h6.1 h7.2 h7.1 h8.2 h8.1 h9.2 h9.1 h10.2 h10.1 h11.2 h11.1 h12.2 h12.1 h13.2 h13.1 h14.2 h14.1 hk
theorem rul_one3 (R : Rul w cs r) : cs.toList.all (·.oneCell') = true := by
  obtain ⟨A6, k6, A7, k7, A8, k8, A9, k9, A10, k10, A11, k11, A12, k12, A13, k13, A14, k14, rfl, h6, h7, h8, h9, h10, h11, h12, h13, h14⟩ := rul_opens R
  rfl
/-- Picked, of an own row. -/
theorem picked2_on (R : Rul w cs r) (hl : Lens r) {A : Option Addr} {c b5 : Nat} {l : List Int} (R5 : Kd.R (Kd.int .i64) 3 w b5 (fun _ => True) (.slice A l.length c) l) (hlen : l.length ≤ 4000000000000) : Calls Tryz.prog 27 #[.agg cs, .slice A l.length c] w fun e W' => ∃ v6 b, e = .returned v6 ∧ Kd.R (Kd.int .i64) 3 W' b (fun _ => True) v6 (placesV r l) ∧ Below w.heap.size w W' := by
  unfold placesV
  by_cases d : r.sp = []
  · rw [if_pos d]
    refine (picked_nil R d).mono ?_
    rintro _ W4 ⟨rfl, b4⟩
    exact ⟨_, _, rfl, Kd.R_below R5 b4, b4⟩
  · rw [if_neg d]
    refine (picked_own R d hl.sp (c_of R5).1 hlen).mono ?_
    rintro _ W4 ⟨v6, rfl, R6, b4⟩
    exact ⟨_, _, rfl, R6, b4⟩
end
theorem heavy_len3 {r : RR} (h : heavyB r.sec r.mi r.ho r.dy r.md r.yd r.wn r.mo r.sp = false) : Lens9 r ∧ Few r ∧ (r.sec.length ≤ 1000000 ∧ r.mi.length ≤ 1000000 ∧ r.ho.length ≤ 1000000 ∧ r.dy.length ≤ 1000000 ∧ r.md.length ≤ 1000000 ∧ r.yd.length ≤ 1000000 ∧ r.wn.length ≤ 1000000 ∧ r.mo.length ≤ 1000000 ∧ r.sp.length ≤ 1000000) := by
  have q := of_decide_eq_false h
  refine ⟨⟨by omega, by omega, by omega, by omega, by omega, by omega, by omega, by omega, by omega⟩, ⟨by omega, by omega, by omega⟩, by omega⟩
theorem wf_b3 {a : Int} (h : (Lit.int .i64 a).wf = true) : -9223372036854775808 ≤ a ∧ a < 9223372036854775808 := by
  have m1 : IntKind.i64.min = -9223372036854775808 := rfl
  have m2 : IntKind.i64.max = 9223372036854775807 := rfl
  simp only [Lit.wf, m1, m2, Bool.and_eq_true, decide_eq_true_eq] at h
  omega
theorem ne_int3 (x : Int) : (!decide (x = x)) = false := by rw [decide_eq_true rfl]; rfl
theorem eq_int3 (x : Int) : decide (x = x) = true := decide_eq_true rfl
theorem lt5 {n : Nat} (h : n < 5) : decide ((n : Int) < 5) = true := decide_eq_true (by omega)
theorem ge5 {n : Nat} (h : ¬ n < 5) : decide ((n : Int) < 5) = false := decide_eq_false (by omega)
set_option maxHeartbeats 16000000 in
theorem RruleExact_on {w : World} {cs : Array Value} {r : RR} (R : Rul w cs r) (hua : -9223372036854775808 ≤ r.ua) (hua' : r.ua < 9223372036854775808) {st : Int} (s1 : -9223372036854775808 ≤ st) (s2 : st < 9223372036854775808) (from_ to_ f p back : Int) :
    Calls Tryz.prog 4 #[.agg cs, .int .i64 st, .int .i64 from_, .int .i64 to_, .int .i64 f, .int .i64 p, .int .i64 back] w (Rets w (.bool true)) := by
  have fl : Tryz.prog.follows .mixedOrders = true := by kernel_rfl
  obtain ⟨b, hb, hrec⟩ := recur2_on R hua hua'
  refine en_ Tryz.func4 rfl rfl rfl fun a K => sr_ (bx_ K (On.nil w) rfl rfl rfl rfl rfl rfl fun a g7 W M K => run_ 1 K rfl fun a K => nil_ (wp_seq (sr_ (lda_ K M 0 rfl rfl rfl rfl rfl rfl rfl R.sz fun a K => cl_ K Tryz.func12 (by kernel_rfl) rfl rfl rfl rfl rfl rfl ((heavy_on (R.below M.bl)).mono ?_)))))
  rintro _ w1 ⟨rfl, b1⟩
  replace M := M.call b1
  refine ⟨_, rfl, fun a K => nil_ ?_⟩
  cases hv : heavyB r.sec r.mi r.ho r.dy r.md r.yd r.wn r.mo r.sp with
  | true => exact ct_ K rfl hv (sr_ (run_ 1 K rfl fun a K => nil_ (ret_ rfl K rfl ⟨rfl, M.bl⟩)))
  | false =>
  obtain ⟨h9, few, hm⟩ := heavy_len3 hv
  refine cs_ K rfl hv ?_
  refine sj_ (fun a' w' => ∃ F : Int, Kn 377 [(1, .int .i64 st), (2, .int .i64 from_), (3, .int .i64 to_), (4, .int .i64 F), (5, .int .i64 p), (6, .int .i64 back), (7, .pointer (some ⟨g7, 0, none⟩))] a' ∧ On [(g7, .cells cs 25 (0, 0))] w w') (sr_ ?_) ?_
  · by_cases c1 : 3000 < f
    case neg =>
      have u1 := decide_eq_false c1
      refine run_ 2 K rfl fun a K => run_ 4 (fx_ K u1) rfl fun a K => nil_ ?_
      exact cf_ K rfl rfl (wp_skip (thn_ ⟨f, fg_ K ⟨rfl, rfl, rfl, rfl, rfl, rfl, rfl, trivial⟩, M⟩))
    have u1 := decide_eq_true c1
    refine run_ 2 K rfl fun a K => run_ 4 (fx_ K u1) rfl fun a K => nil_ ?_
    by_cases c2 : f ≤ 200000
    · exact ct_ K rfl (decide_eq_true c2) (rg_ (run_ 3 K rfl fun a K => nil_ ⟨Int.tmod f 3000, fg_ K ⟨rfl, rfl, rfl, rfl, rfl, rfl, rfl, trivial⟩, M⟩))
    · exact cf_ K rfl (decide_eq_false c2) (wp_skip (thn_ ⟨f, fg_ K ⟨rfl, rfl, rfl, rfl, rfl, rfl, rfl, trivial⟩, M⟩))
  clear K M b1
  rintro a W ⟨F, K, M⟩
  refine sr_ (lda_ K M 0 rfl rfl rfl rfl rfl rfl rfl R.sz fun a K => cl_ K Tryz.func21 (by kernel_rfl) rfl rfl rfl rfl rfl rfl ((twin_on (R.below M.bl) ⟨h9.sec, h9.mi, h9.ho, h9.dy, h9.md, h9.yd, h9.wn, h9.mo, h9.sp⟩).mono ?_))
  rintro _ w6 ⟨cs', rfl, R', b6⟩
  replace M := M.call b6
  have B := M.bl
  replace M := M.here
  replace hrec := fun W (hW : Below w6.heap.size w6 W) => hrec W (below_step B hW)
  replace R := R.below B
  refine ⟨_, rfl, fun a K => nw_ K M rfl rfl rfl rfl rfl rfl rfl (fun _ => rfl) rfl R'.sz (rul_one3 R') fun a g15 W15 M K => nil_ ?_⟩
  have fin : ∀ {V : World}, Below w6.heap.size w6 V → Below w.heap.size w V := fun q => below_step B q
  clear B b6
  obtain ⟨A6, k6, e6, h6, C6⟩ := R.c6
  by_cases hgood : Right r ∧ InT st
  case neg =>
    have he := why_ne hgood
    have C : ∀ V, Rul V cs' r → Calls Tryz.prog 46 #[.agg cs', .int .i64 st] V (Rets V (.int .i64 (whyV r st))) := fun V hV => check46_not hV h9 hua hua' s1 s2 hgood
    refine sr_ (lda_ K M 0 rfl rfl rfl rfl rfl rfl rfl R'.sz fun a K => run_ 4 K rfl fun a K => cl_ K Tryz.func18 (by kernel_rfl) rfl rfl rfl rfl rfl rfl ((times_not (R'.below M.bl) he C from_ to_ F).mono ?_))
    rintro _ w5 ⟨rfl, b5⟩
    replace M := M.call b5
    refine ⟨_, rfl, fun a K => run_ 7 K rfl fun a K => nil_ ?_⟩
    refine sr_ (lda_ K M 0 rfl rfl rfl rfl rfl rfl rfl R'.sz fun a K => run_ 4 K rfl fun a K => cl_ K Tryz.func22 (by kernel_rfl) rfl rfl rfl rfl rfl rfl ((last_not (R'.below M.bl) he C to_ back F).mono ?_))
    rintro _ w5 ⟨rfl, b5⟩
    replace M := M.call b5
    refine ⟨_, rfl, fun a K => run_ 9 K rfl fun a K => nil_ ?_⟩
    refine wp_seq (sr_ (lda_ K M 0 rfl rfl rfl rfl rfl rfl rfl R'.sz fun a K => lda_ K M 1 rfl rfl rfl rfl rfl rfl rfl R.sz fun a K => cl_ K Tryz.func23 (by kernel_rfl) rfl rfl rfl rfl rfl rfl ((keep_on (R'.below M.bl) (R.below M.bl) hm).mono ?_)))
    rintro _ w2 ⟨rfl, b2⟩
    replace M := M.call b2
    refine ⟨_, rfl, fun a K => run_ 1 K rfl fun a K => nil_ ?_⟩
    refine cs_ K rfl rfl (sr_ (run_ 1 K rfl fun a K => cl_ K Tryz.func15 (by kernel_rfl) rfl rfl rfl rfl rfl rfl ((ryears_on s1 s2).mono ?_)))
    rintro _ w1 ⟨rfl, b1⟩
    replace M := M.call b1
    refine ⟨_, rfl, fun a K => run_ 3 K rfl fun a K => nw_ K M rfl rfl rfl rfl rfl rfl rfl (fun _ => rfl) rfl rfl rfl fun a g23 W23 M K => run_ 1 K rfl fun a K => nil_ ?_⟩
    replace M := on_tail M
    refine wp_seq (sr_ ?_)
    have v29 : (!false) = true := rfl
    by_cases hR : Right r
    case neg =>
      have we := why_no (st := st) hR
      rw [we] at K C he
      have hb2 : b = false := Bool.eq_false_iff.2 fun q => hR (hb.1 q)
      have u2 : (!b) = true := by rw [hb2]; rfl
      have v2 : decide ((21 : Int) = 21) = true := rfl
      refine lda_ K M 1 rfl rfl rfl rfl rfl rfl rfl R.sz fun a K => cl_ K Tryz.func13 (by kernel_rfl) rfl rfl rfl rfl rfl rfl ((hrec _ M.bl).mono ?_)
      rintro _ w1 ⟨rfl, b1⟩
      replace M := M.call b1
      refine ⟨_, rfl, fun a K => run_ 1 K rfl fun a K => run_ 4 (fx_ K u2) rfl fun a K => nil_ ?_⟩
      refine ct_ K rfl rfl (sr_ (run_ 1 K rfl fun a K => nil_ (wp_seq (sr_ (lda_ K M 1 rfl rfl rfl rfl rfl rfl rfl R.sz fun a K => cl_ K Tryz.func13 (by kernel_rfl) rfl rfl rfl rfl rfl rfl ((hrec _ M.bl).mono ?_))))))
      rintro _ w1 ⟨rfl, b1⟩
      replace M := M.call b1
      refine ⟨_, rfl, fun a K => run_ 1 K rfl fun a K => nil_ ?_⟩
      refine ct_ K rfl u2 (rg_ (run_ 1 K rfl fun a K => nil_ (sr_ (lda_ K M 0 rfl rfl rfl rfl rfl rfl rfl R'.sz fun a K => run_ 2 K rfl fun a K => cl_ K Tryz.func24 (by kernel_rfl) rfl rfl rfl rfl rfl rfl ((of_not (R'.below M.bl) he C p).mono ?_)))))
      rintro _ w3 ⟨rfl, b3⟩
      replace M := M.call b3
      refine ⟨_, rfl, fun a K => run_ 5 K rfl fun a K => nil_ ?_⟩
      refine sr_ (run_ 3 K rfl fun a K => run_ 4 (fx_ K v2) rfl fun a K => run_ 5 (fx_ K v2) rfl fun a K => run_ 14 (fx_ K v2) rfl fun a K => run_ 4 (fx_ K z_16) rfl fun a K => run_ 2 (fx_ K v29) rfl fun a K => cl_ K Tryz.func19 (by kernel_rfl) rfl rfl rfl rfl rfl rfl ((wakes_on).mono ?_))
      rintro _ w32 ⟨rfl, b32⟩
      replace M := M.call b32
      refine ⟨_, rfl, fun a K => run_ 2 K rfl fun a K => nil_ ?_⟩
      exact ret_ rfl K rfl ⟨rfl, fin M.bl⟩
    have hs : ¬ InT st := fun q => hgood ⟨hR, q⟩
    have we := why_yr hR hs
    rw [we] at K C he
    have hb2 : b = true := hb.2 hR
    have u2 : (!b) = false := by rw [hb2]; rfl
    have v2 : decide ((23 : Int) = 23) = true := rfl
    refine lda_ K M 1 rfl rfl rfl rfl rfl rfl rfl R.sz fun a K => cl_ K Tryz.func13 (by kernel_rfl) rfl rfl rfl rfl rfl rfl ((hrec _ M.bl).mono ?_)
    rintro _ w1 ⟨rfl, b1⟩
    replace M := M.call b1
    refine ⟨_, rfl, fun a K => run_ 1 K rfl fun a K => run_ 4 (fx_ K u2) rfl fun a K => nil_ ?_⟩
    refine ct_ K rfl (by rw [decide_eq_false hs]; rfl) (sr_ (run_ 1 K rfl fun a K => nil_ (wp_seq (sr_ (lda_ K M 1 rfl rfl rfl rfl rfl rfl rfl R.sz fun a K => cl_ K Tryz.func13 (by kernel_rfl) rfl rfl rfl rfl rfl rfl ((hrec _ M.bl).mono ?_))))))
    rintro _ w1 ⟨rfl, b1⟩
    replace M := M.call b1
    refine ⟨_, rfl, fun a K => run_ 1 K rfl fun a K => nil_ ?_⟩
    refine cs_ K rfl u2 (sr_ (lda_ K M 0 rfl rfl rfl rfl rfl rfl rfl R'.sz fun a K => run_ 2 K rfl fun a K => cl_ K Tryz.func24 (by kernel_rfl) rfl rfl rfl rfl rfl rfl ((of_not (R'.below M.bl) he C p).mono ?_)))
    rintro _ w3 ⟨rfl, b3⟩
    replace M := M.call b3
    refine ⟨_, rfl, fun a K => run_ 5 K rfl fun a K => nil_ ?_⟩
    refine sr_ (run_ 3 K rfl fun a K => run_ 4 (fx_ K v2) rfl fun a K => run_ 5 (fx_ K v2) rfl fun a K => run_ 14 (fx_ K v2) rfl fun a K => run_ 4 (fx_ K z_16) rfl fun a K => run_ 2 (fx_ K v29) rfl fun a K => cl_ K Tryz.func19 (by kernel_rfl) rfl rfl rfl rfl rfl rfl ((wakes_on).mono ?_))
    rintro _ w32 ⟨rfl, b32⟩
    replace M := M.call b32
    refine ⟨_, rfl, fun a K => run_ 2 K rfl fun a K => nil_ ?_⟩
    exact ret_ rfl K rfl ⟨rfl, fin M.bl⟩
  obtain ⟨hR, hs⟩ := hgood
  have hl := hR.lens
  have u2 : (!b) = false := by rw [hb.2 hR]; rfl
  have TT : ∀ V, Rul V cs' r → _ := fun V hV => Times_on (F := F) (from_ := from_) (to_ := to_) hV hR few hs
  have LT : ∀ V, Rul V cs' r → _ := fun V hV => Last_on (F := F) (to_ := to_) (back := back) hV hR few hs
  have lenX : (timesV r st from_ to_ F).1.length ≤ 200001 := times_len
  have XN : ¬ mayT from_ to_ F → timesV r st from_ to_ F = ([], 0, 1) := times_may
  have X0 : mayT from_ to_ F → goneV r st from_ to_ F = none → timesV r st from_ to_ F = ([], 0, 22) := times_none
  have X1 : ∀ S, mayT from_ to_ F → goneV r st from_ to_ F = some S → timesV r st from_ to_ F = (S.out, S.sp, 0) := fun S => times_some
  have YB : ¬ okL to_ back F → lastV r st to_ back F = (0, false, 0, 1) := last_bad
  have Y0 : okL to_ back F → goneV r st (to_ - back) to_ F = none → lastV r st to_ back F = (0, false, 0, 22) := last_none
  have Y1 : ∀ S, okL to_ back F → goneV r st (to_ - back) to_ F = some S → S.out = [] → lastV r st to_ back F = (0, false, S.sp, 0) := fun S => last_nil
  have Y2 : ∀ S, okL to_ back F → goneV r st (to_ - back) to_ F = some S → S.out ≠ [] → lastV r st to_ back F = (S.out.getD (S.out.length - 1) 0, true, S.sp, 0) := fun S => last_some
  generalize timesV r st from_ to_ F = X at TT lenX XN X0 X1
  generalize lastV r st to_ back F = Y at LT YB Y0 Y1 Y2
  refine sr_ (lda_ K M 0 rfl rfl rfl rfl rfl rfl rfl R'.sz fun a K => run_ 4 K rfl fun a K => cl_ K Tryz.func18 (by kernel_rfl) rfl rfl rfl rfl rfl rfl ((TT _ (R'.below M.bl)).mono ?_))
  rintro _ w5 ⟨vX, rfl, RX, b5⟩
  obtain ⟨AX, cX, eX, _, _⟩ := Kd.R_reads RX
  subst eX
  obtain ⟨bX, RX⟩ : ∃ b, Kd.R (Kd.int .i64) 3 w5 b (fun _ => True) (.slice AX X.1.length cX) X.1 := ⟨_, RX⟩
  replace M := M.call b5
  refine ⟨_, rfl, fun a K => run_ 7 K rfl fun a K => nil_ ?_⟩
  refine sr_ (lda_ K M 0 rfl rfl rfl rfl rfl rfl rfl R'.sz fun a K => run_ 4 K rfl fun a K => cl_ K Tryz.func22 (by kernel_rfl) rfl rfl rfl rfl rfl rfl ((LT _ (R'.below M.bl)).mono ?_))
  rintro _ w5 ⟨rfl, b5⟩
  replace M := M.call b5
  refine ⟨_, rfl, fun a K => run_ 9 K rfl fun a K => nil_ ?_⟩
  replace RX := Kd.R_below RX b5
  refine wp_seq (sr_ (lda_ K M 0 rfl rfl rfl rfl rfl rfl rfl R'.sz fun a K => lda_ K M 1 rfl rfl rfl rfl rfl rfl rfl R.sz fun a K => cl_ K Tryz.func23 (by kernel_rfl) rfl rfl rfl rfl rfl rfl ((keep_on (R'.below M.bl) (R.below M.bl) hm).mono ?_)))
  rintro _ w2 ⟨rfl, b2⟩
  replace M := M.call b2
  refine ⟨_, rfl, fun a K => run_ 1 K rfl fun a K => nil_ ?_⟩
  replace RX := Kd.R_below RX b2
  refine cs_ K rfl rfl (sr_ (run_ 1 K rfl fun a K => cl_ K Tryz.func15 (by kernel_rfl) rfl rfl rfl rfl rfl rfl ((ryears_on s1 s2).mono ?_)))
  rintro _ w1 ⟨rfl, b1⟩
  replace M := M.call b1
  have B10 := M.bl
  replace M := M.here
  replace RX := Kd.R_below RX b1
  refine ⟨_, rfl, fun a K => run_ 3 K rfl fun a K => nw_ K M rfl rfl rfl rfl rfl rfl rfl (fun _ => rfl) rfl rfl rfl fun a g23 W23 M K => run_ 1 K rfl fun a K => nil_ ?_⟩
  replace RX := Kd.R_below RX M.bl
  replace M := on_up B10 (on_tail M)
  clear B10
  refine wp_seq (sr_ (lda_ K M 1 rfl rfl rfl rfl rfl rfl rfl R.sz fun a K => cl_ K Tryz.func13 (by kernel_rfl) rfl rfl rfl rfl rfl rfl ((hrec _ M.bl).mono ?_)))
  rintro _ w1 ⟨rfl, b1⟩
  replace M := M.call b1
  refine ⟨_, rfl, fun a K => run_ 1 K rfl fun a K => run_ 4 (fx_ K u2) rfl fun a K => nil_ ?_⟩
  replace RX := Kd.R_below RX b1
  refine cs_ K rfl (by rw [decide_eq_true hs]; rfl) (sr_ (lda_ K M 1 rfl rfl rfl rfl rfl rfl rfl R.sz fun a K => run_ 1 K rfl fun a K => cl_ K Tryz.func25 (by kernel_rfl) rfl rfl rfl rfl rfl rfl ((Span2_on (R.below M.bl) hl p).mono ?_)))
  rintro _ w2 ⟨rfl, b2⟩
  replace M := M.call b2
  refine ⟨_, rfl, fun a K => run_ 7 K rfl fun a K => nil_ ?_⟩
  replace RX := Kd.R_below RX b2
  replace K := fg_ (E' := [(28, .int .i64 (spanV r p).1), (29, .int .i64 (spanV r p).2.1), (30, .bool (decide ((spanV r p).2.2 = 0))), (16, .slice AX X.1.length cX), (17, .int .i64 X.2.1), (18, .int .i64 X.2.2), (19, .int .i64 Y.1), (20, .bool Y.2.1), (21, .int .i64 Y.2.2.1), (22, .int .i64 Y.2.2.2), (15, .pointer (some ⟨g15, 0, none⟩)), (1, .int .i64 st), (2, .int .i64 from_), (3, .int .i64 to_), (4, .int .i64 F), (5, .int .i64 p), (6, .int .i64 back), (7, .pointer (some ⟨g7, 0, none⟩))]) K ⟨rfl, rfl, rfl, rfl, rfl, rfl, rfl, rfl, rfl, rfl, rfl, rfl, rfl, rfl, rfl, rfl, rfl, rfl, trivial⟩
  clear TT LT hrec hua hua' s1 s2 hm h9
  refine sj_ (fun a' w' => Kn 377 [(16, .slice AX X.1.length cX), (17, .int .i64 X.2.1), (18, .int .i64 X.2.2), (19, .int .i64 Y.1), (20, .bool Y.2.1), (21, .int .i64 Y.2.2.1), (22, .int .i64 Y.2.2.2), (15, .pointer (some ⟨g15, 0, none⟩)), (1, .int .i64 st), (2, .int .i64 from_), (3, .int .i64 to_), (4, .int .i64 F), (5, .int .i64 p), (6, .int .i64 back), (7, .pointer (some ⟨g7, 0, none⟩))] a' ∧ On [(g15, .cells cs' 25 (0, 0)), (g7, .cells cs 25 (0, 0))] w6 w' ∧ Kd.R (Kd.int .i64) 3 w' bX (fun _ => True) (.slice AX X.1.length cX) X.1) (sj_ (fun a' w' => ∃ B : Bool, (B = true → (spanV r p).2.2 = 0 → r.fr ≤ 4 ∧ r.sec.length < 5) ∧ Kn 377 [(152, .bool B), (28, .int .i64 (spanV r p).1), (29, .int .i64 (spanV r p).2.1), (30, .bool (decide ((spanV r p).2.2 = 0))), (16, .slice AX X.1.length cX), (17, .int .i64 X.2.1), (18, .int .i64 X.2.2), (19, .int .i64 Y.1), (20, .bool Y.2.1), (21, .int .i64 Y.2.2.1), (22, .int .i64 Y.2.2.2), (15, .pointer (some ⟨g15, 0, none⟩)), (1, .int .i64 st), (2, .int .i64 from_), (3, .int .i64 to_), (4, .int .i64 F), (5, .int .i64 p), (6, .int .i64 back), (7, .pointer (some ⟨g7, 0, none⟩))] a' ∧ On [(g15, .cells cs' 25 (0, 0)), (g7, .cells cs 25 (0, 0))] w6 w' ∧ Kd.R (Kd.int .i64) 3 w' bX (fun _ => True) (.slice AX X.1.length cX) X.1) (rg_ ?_) ?_) ?_
  · by_cases c1 : r.fr ≤ 4
    case neg =>
      have v2 := decide_eq_false c1
      refine run_ 1 K rfl fun a K => ld_ K M 1 rfl rfl rfl rfl rfl rfl R.c0 rfl fun a K => run_ 1 K rfl fun a K => run_ 10 (fx_ K v2) rfl fun a K => nil_ ?_
      by_cases ok : (spanV r p).2.2 = 0
      · exact ⟨false, (fun q => by cases q), fg_ (ks_ (i := 152) (u := .bool false) K rfl (congrArg Value.bool (by rw [decide_eq_true ok]; rfl))) ⟨rfl, rfl, rfl, rfl, rfl, rfl, rfl, rfl, rfl, rfl, rfl, rfl, rfl, rfl, rfl, rfl, rfl, rfl, rfl, trivial⟩, M, RX⟩
      · exact ⟨true, fun _ q => absurd q ok, fg_ (ks_ (i := 152) (u := .bool true) K rfl (congrArg Value.bool (by rw [decide_eq_false ok]; rfl))) ⟨rfl, rfl, rfl, rfl, rfl, rfl, rfl, rfl, rfl, rfl, rfl, rfl, rfl, rfl, rfl, rfl, rfl, rfl, rfl, trivial⟩, M, RX⟩
    have v2 := decide_eq_true c1
    by_cases c2 : r.sec.length < 5
    · have v7 := lt5 c2
      refine run_ 1 K rfl fun a K => ld_ K M 1 rfl rfl rfl rfl rfl rfl R.c0 rfl fun a K => run_ 1 K rfl fun a K => run_ 2 (fx_ K v2) rfl fun a K => ld_ K M 1 rfl rfl rfl rfl rfl rfl e6 rfl fun a K => run_ 2 K rfl fun a K => run_ 5 (fx_ K v7) rfl fun a K => nil_ ?_
      exact ⟨true, fun _ _ => ⟨c1, c2⟩, fg_ K ⟨rfl, rfl, rfl, rfl, rfl, rfl, rfl, rfl, rfl, rfl, rfl, rfl, rfl, rfl, rfl, rfl, rfl, rfl, rfl, trivial⟩, M, RX⟩
    · have v7 := ge5 c2
      refine run_ 1 K rfl fun a K => ld_ K M 1 rfl rfl rfl rfl rfl rfl R.c0 rfl fun a K => run_ 1 K rfl fun a K => run_ 2 (fx_ K v2) rfl fun a K => ld_ K M 1 rfl rfl rfl rfl rfl rfl e6 rfl fun a K => run_ 2 K rfl fun a K => run_ 5 (fx_ K v7) rfl fun a K => nil_ ?_
      by_cases ok : (spanV r p).2.2 = 0
      · exact ⟨false, (fun q => by cases q), fg_ (ks_ (i := 152) (u := .bool false) K rfl (congrArg Value.bool (by rw [decide_eq_true ok]; rfl))) ⟨rfl, rfl, rfl, rfl, rfl, rfl, rfl, rfl, rfl, rfl, rfl, rfl, rfl, rfl, rfl, rfl, rfl, rfl, rfl, trivial⟩, M, RX⟩
      · exact ⟨true, fun _ q => absurd q ok, fg_ (ks_ (i := 152) (u := .bool true) K rfl (congrArg Value.bool (by rw [decide_eq_false ok]; rfl))) ⟨rfl, rfl, rfl, rfl, rfl, rfl, rfl, rfl, rfl, rfl, rfl, rfl, rfl, rfl, rfl, rfl, rfl, rfl, rfl, trivial⟩, M, RX⟩
  · clear K M RX
    rintro a W ⟨B, hB, K, M, RX⟩
    cases B with
    | false => exact cf_ K rfl rfl (wp_skip (thn_ ⟨fg_ K ⟨rfl, rfl, rfl, rfl, rfl, rfl, rfl, rfl, rfl, rfl, rfl, rfl, rfl, rfl, rfl, trivial⟩, M, RX⟩))
    | true =>
    replace hB := hB rfl
    have OO : ∀ V, Rul V cs' r → _ := fun V hV => of_on (p := p) hV hR few hs
    refine ct_ K rfl rfl (sr_ (lda_ K M 0 rfl rfl rfl rfl rfl rfl rfl R'.sz fun a K => run_ 2 K rfl fun a K => cl_ K Tryz.func24 (by kernel_rfl) rfl rfl rfl rfl rfl rfl ((OO _ (R'.below M.bl)).mono ?_)))
    rintro _ w3 ⟨vO, rfl, RO, b3⟩
    obtain ⟨AO, cO, eO, _, _⟩ := Kd.R_reads RO
    subst eO
    replace M := M.call b3
    refine ⟨_, rfl, fun a K => run_ 5 K rfl fun a K => nil_ ?_⟩
    replace RX := Kd.R_below RX b3
    clear OO
    by_cases ok : (spanV r p).2.2 = 0
    case neg =>
      have eo : ofV r st p = ([], 23) := by unfold ofV; rw [if_neg ok, span_errno ok]
      rw [eo] at K
      have w1 : (!decide ((spanV r p).2.2 = 0)) = true := by rw [decide_eq_false ok]; rfl
      have w4 : (!decide ((23 : Int) = 23)) = false := rfl
      have w0 : decide ((spanV r p).2.2 = 0) = false := decide_eq_false ok
      refine wp_seq (sr_ (run_ 2 K rfl fun a K => run_ 3 (fx_ K w1) rfl fun a K => run_ 6 (fx_ K w4) rfl fun a K => nil_ ?_))
      refine cs_ K rfl rfl ?_
      refine dseq_ fl rfl rfl M.drew ( dp_ 3 20 [0, 1] K rfl rfl (by kernel_rfl) fun a K => dp_ 4194303 0 [2, 3, 4, 5, 6, 7, 8, 9, 10, 11, 12, 13, 14, 15, 16, 17, 18, 19, 20, 21] (fx_ K w0) rfl rfl (by kernel_rfl) fun a K => dend_ (by kernel_rfl) ?_)
      exact cf_ K rfl rfl (wp_skip (thn_ ⟨fg_ K ⟨rfl, rfl, rfl, rfl, rfl, rfl, rfl, rfl, rfl, rfl, rfl, rfl, rfl, rfl, rfl, trivial⟩, M.drew, Kd.R_drew RX⟩))
    have eo : ofV r st p = (placesV r (letsL r st (spanV r p).1 (spanV r p).2.1), 0) := by unfold ofV; rw [if_pos ok]
    rw [eo] at K RO
    dsimp only at K RO
    have w1 : (!decide ((spanV r p).2.2 = 0)) = false := by rw [decide_eq_true ok]; rfl
    have w0 : decide ((spanV r p).2.2 = 0) = true := decide_eq_true ok
    refine wp_seq (sr_ (run_ 2 K rfl fun a K => run_ 9 (fx_ K w1) rfl fun a K => nil_ ?_))
    refine cs_ K rfl rfl ?_
    by_cases c3 : 3 ≤ r.fr
    case neg =>
      have w4 := decide_eq_false c3
      refine dseq_ fl rfl rfl M.drew ( dp_ 3 20 [0, 1] K rfl rfl (by kernel_rfl) fun a K => dp_ 7 19 [2] (fx_ K w0) rfl rfl (by kernel_rfl) fun a K => dld_ 15 3 K M.drew 1 rfl rfl rfl rfl rfl rfl rfl R.c0 rfl (by kernel_rfl) fun a K => dp_ 31 17 [4] K rfl rfl (by kernel_rfl) fun a K => dp_ 4194303 0 [5, 6, 7, 8, 9, 10, 11, 12, 13, 14, 15, 16, 17, 18, 19, 20, 21] (fx_ K w4) rfl rfl (by kernel_rfl) fun a K => dend_ (by kernel_rfl) ?_)
      exact cf_ K rfl rfl (wp_skip (thn_ ⟨fg_ K ⟨rfl, rfl, rfl, rfl, rfl, rfl, rfl, rfl, rfl, rfl, rfl, rfl, rfl, rfl, rfl, trivial⟩, M.drew, Kd.R_drew RX⟩))
    have w4 := decide_eq_true c3
    have w8 : (!decide ((0 : Int) = 0)) = false := rfl
    have fewT := few_times (st := st) few c3 (hB ok).1 (hB ok).2 ok
    have oks := ok_span ok
    have OF : ∀ V, Rul V cs r → Calls Tryz.prog 28 #[.agg cs, .int .i64 st, .int .i64 (spanV r p).1, .int .i64 (spanV r p).2.1, .int .i64 100000] V fun e W' => ∃ v', e = .returned v' ∧ Kd.R (Kd.int .i64) 3 W' V.heap.size (fun _ => True) v' (letsL r st (spanV r p).1 (spanV r p).2.1) ∧ Below V.heap.size V W' := fun V hV => by
      have e1 : (letsL r st (spanV r p).1 (spanV r p).2.1).take (100000 + 1) = letsL r st (spanV r p).1 (spanV r p).2.1 := List.take_of_length_le (Nat.le_succ_of_le fewT)
      rw [← e1, oks.2.1]
      exact Of2_on hV hR hs oks.2.2.1 oks.2.2.2 (most := 100000) (by decide)
    generalize letsL r st (spanV r p).1 (spanV r p).2.1 = LL at OF RO fewT K
    have plen := places_len r LL
    have pl6 : (placesV r LL).length ≤ 1000000 := Nat.le_trans plen (Nat.le_trans fewT (by decide))
    refine dseq_ fl rfl rfl M.drew ( dp_ 3 20 [0, 1] K rfl rfl (by kernel_rfl) fun a K => dp_ 7 19 [2] (fx_ K w0) rfl rfl (by kernel_rfl) fun a K => dld_ 15 3 K M.drew 1 rfl rfl rfl rfl rfl rfl rfl R.c0 rfl (by kernel_rfl) fun a K => dp_ 31 17 [4] K rfl rfl (by kernel_rfl) fun a K => dp_ 511 13 [5, 6, 7, 8] (fx_ K w4) rfl rfl (by kernel_rfl) fun a K => dp_ 59391 8 [9, 10, 13, 14, 15] (fx_ K w8) rfl rfl (by kernel_rfl) fun a K => dlda_ 61439 11 K M.drew 1 rfl rfl rfl rfl rfl rfl rfl rfl R.sz (by kernel_rfl) fun a K => dlda_ 65535 12 K M.drew 1 rfl rfl rfl rfl rfl rfl rfl rfl R.sz (by kernel_rfl) fun a K => dc_ 131071 16 K Tryz.func28 (by kernel_rfl) rfl rfl rfl rfl rfl rfl rfl (by kernel_rfl) ((OF _ (R.below M.drew.bl)).mono ?_))
    rintro _ w16 ⟨v16, rfl, R16, b16⟩
    obtain ⟨A16, c16, e16, _, _⟩ := Kd.R_reads R16
    subst e16
    replace RX := Kd.R_below (Kd.R_drew RX) b16
    replace RO := Kd.R_below (Kd.R_drew RO) b16
    replace M := M.drew.call b16
    refine ⟨_, rfl, M, fun a K => dc_ 262143 17 K Tryz.func27 (by kernel_rfl) rfl rfl rfl rfl rfl rfl rfl (by kernel_rfl) ((picked2_on (R.below M.bl) hl R16 (Nat.le_trans fewT (by decide))).mono ?_)⟩
    rintro _ w17 ⟨v17, b17b, rfl, R17, b17⟩
    obtain ⟨A17, c17, e17, _, _⟩ := Kd.R_reads R17
    subst e17
    replace RX := Kd.R_below RX b17
    replace RO := Kd.R_below RO b17
    replace M := M.call b17
    refine ⟨_, rfl, M, fun a K => dc_ 524287 18 K Tryz.func26 (by kernel_rfl) rfl rfl rfl rfl rfl rfl rfl (by kernel_rfl) ((ints_on (c_of RO).1 (c_of RO).2 (c_of R17).1 (c_of R17).2 pl6).mono ?_)⟩
    rintro _ w18 ⟨rfl, b18⟩
    replace RX := Kd.R_below RX b18
    replace M := M.call b18
    refine ⟨_, rfl, M, fun a K => dp_ 4194303 0 [19, 20, 21] K rfl rfl (by kernel_rfl) fun a K => dend_ (by kernel_rfl) ?_⟩
    exact cf_ K rfl rfl (wp_skip (thn_ ⟨fg_ K ⟨rfl, rfl, rfl, rfl, rfl, rfl, rfl, rfl, rfl, rfl, rfl, rfl, rfl, rfl, rfl, trivial⟩, M, RX⟩))
  clear K M RX
  rintro a W ⟨K, M, RX⟩
  refine sj_ (fun a' w' => Kn 377 [(33, .bool (decide (mayT from_ to_ F))), (16, .slice AX X.1.length cX), (17, .int .i64 X.2.1), (18, .int .i64 X.2.2), (19, .int .i64 Y.1), (20, .bool Y.2.1), (21, .int .i64 Y.2.2.1), (22, .int .i64 Y.2.2.2), (15, .pointer (some ⟨g15, 0, none⟩)), (1, .int .i64 st), (2, .int .i64 from_), (3, .int .i64 to_), (4, .int .i64 F), (5, .int .i64 p), (6, .int .i64 back), (7, .pointer (some ⟨g7, 0, none⟩))] a' ∧ On [(g15, .cells cs' 25 (0, 0)), (g7, .cells cs 25 (0, 0))] w6 w' ∧ Kd.R (Kd.int .i64) 3 w' bX (fun _ => True) (.slice AX X.1.length cX) X.1) (rg_ ?_) ?_
  · by_cases c1 : from_ ≤ to_
    case neg =>
      have v2 := decide_eq_false c1
      refine run_ 3 K rfl fun a K => run_ 17 (fx_ K v2) rfl fun a K => nil_ ?_
      exact ⟨fg_ (ks_ (i := 33) K rfl (congrArg Value.bool (decide_eq_false (fun q => c1 q.1)).symm)) ⟨rfl, rfl, rfl, rfl, rfl, rfl, rfl, rfl, rfl, rfl, rfl, rfl, rfl, rfl, rfl, rfl, trivial⟩, M, RX⟩
    have v2 := decide_eq_true c1
    by_cases c2 : -4611686018427387904 ≤ from_ ∧ from_ ≤ 4611686018427387904
    case neg =>
      have v6 := decide_eq_false c2
      refine run_ 3 K rfl fun a K => run_ 2 (fx_ K v2) rfl fun a K => cl_ K Tryz.func29 (by kernel_rfl) rfl rfl rfl rfl rfl rfl ((bound_on from_).mono ?_)
      rintro _ w5 ⟨rfl, b5⟩
      replace M := M.call b5
      refine ⟨_, rfl, fun a K => run_ 1 K rfl fun a K => run_ 13 (fx_ K v6) rfl fun a K => nil_ ?_⟩
      exact ⟨fg_ (ks_ (i := 33) K rfl (congrArg Value.bool (decide_eq_false (fun q => c2 ⟨q.2.1, q.2.2.1⟩)).symm)) ⟨rfl, rfl, rfl, rfl, rfl, rfl, rfl, rfl, rfl, rfl, rfl, rfl, rfl, rfl, rfl, rfl, trivial⟩, M, Kd.R_below RX b5⟩
    have v6 := decide_eq_true c2
    by_cases c3 : -4611686018427387904 ≤ to_ ∧ to_ ≤ 4611686018427387904
    case neg =>
      have v10 := decide_eq_false c3
      refine run_ 3 K rfl fun a K => run_ 2 (fx_ K v2) rfl fun a K => cl_ K Tryz.func29 (by kernel_rfl) rfl rfl rfl rfl rfl rfl ((bound_on from_).mono ?_)
      rintro _ w5 ⟨rfl, b5⟩
      replace M := M.call b5
      refine ⟨_, rfl, fun a K => run_ 1 K rfl fun a K => run_ 2 (fx_ K v6) rfl fun a K => cl_ K Tryz.func29 (by kernel_rfl) rfl rfl rfl rfl rfl rfl ((bound_on to_).mono ?_)⟩
      rintro _ w9 ⟨rfl, b9⟩
      replace M := M.call b9
      refine ⟨_, rfl, fun a K => run_ 1 K rfl fun a K => run_ 9 (fx_ K v10) rfl fun a K => nil_ ?_⟩
      exact ⟨fg_ (ks_ (i := 33) K rfl (congrArg Value.bool (decide_eq_false (fun q => c3 ⟨q.2.2.2.1, q.2.2.2.2.1⟩)).symm)) ⟨rfl, rfl, rfl, rfl, rfl, rfl, rfl, rfl, rfl, rfl, rfl, rfl, rfl, rfl, rfl, rfl, trivial⟩, M, Kd.R_below (Kd.R_below RX b5) b9⟩
    have v10 := decide_eq_true c3
    by_cases c4 : 0 ≤ F
    case neg =>
      have v14 := decide_eq_false c4
      refine run_ 3 K rfl fun a K => run_ 2 (fx_ K v2) rfl fun a K => cl_ K Tryz.func29 (by kernel_rfl) rfl rfl rfl rfl rfl rfl ((bound_on from_).mono ?_)
      rintro _ w5 ⟨rfl, b5⟩
      replace M := M.call b5
      refine ⟨_, rfl, fun a K => run_ 1 K rfl fun a K => run_ 2 (fx_ K v6) rfl fun a K => cl_ K Tryz.func29 (by kernel_rfl) rfl rfl rfl rfl rfl rfl ((bound_on to_).mono ?_)⟩
      rintro _ w9 ⟨rfl, b9⟩
      replace M := M.call b9
      refine ⟨_, rfl, fun a K => run_ 1 K rfl fun a K => run_ 3 (fx_ K v10) rfl fun a K => run_ 6 (fx_ K v14) rfl fun a K => nil_ ?_⟩
      exact ⟨fg_ (ks_ (i := 33) K rfl (congrArg Value.bool (decide_eq_false (fun q => c4 q.2.2.2.2.2.1)).symm)) ⟨rfl, rfl, rfl, rfl, rfl, rfl, rfl, rfl, rfl, rfl, rfl, rfl, rfl, rfl, rfl, rfl, trivial⟩, M, Kd.R_below (Kd.R_below RX b5) b9⟩
    have v14 := decide_eq_true c4
    refine run_ 3 K rfl fun a K => run_ 2 (fx_ K v2) rfl fun a K => cl_ K Tryz.func29 (by kernel_rfl) rfl rfl rfl rfl rfl rfl ((bound_on from_).mono ?_)
    rintro _ w5 ⟨rfl, b5⟩
    replace M := M.call b5
    refine ⟨_, rfl, fun a K => run_ 1 K rfl fun a K => run_ 2 (fx_ K v6) rfl fun a K => cl_ K Tryz.func29 (by kernel_rfl) rfl rfl rfl rfl rfl rfl ((bound_on to_).mono ?_)⟩
    rintro _ w9 ⟨rfl, b9⟩
    replace M := M.call b9
    refine ⟨_, rfl, fun a K => run_ 1 K rfl fun a K => run_ 3 (fx_ K v10) rfl fun a K => run_ 6 (fx_ K v14) rfl fun a K => nil_ ?_⟩
    exact ⟨fg_ (ks_ (i := 33) K rfl (congrArg Value.bool (decide_eq_decide.2 ⟨fun q => ⟨c1, c2.1, c2.2, c3.1, c3.2, c4, q⟩, fun q => q.2.2.2.2.2.2⟩))) ⟨rfl, rfl, rfl, rfl, rfl, rfl, rfl, rfl, rfl, rfl, rfl, rfl, rfl, rfl, rfl, rfl, trivial⟩, M, Kd.R_below (Kd.R_below RX b5) b9⟩
  clear K M RX
  rintro a W ⟨K, M, RX⟩
  refine sj_ (fun a' w' => Kn 377 [(19, .int .i64 Y.1), (20, .bool Y.2.1), (21, .int .i64 Y.2.2.1), (22, .int .i64 Y.2.2.2), (15, .pointer (some ⟨g15, 0, none⟩)), (1, .int .i64 st), (2, .int .i64 from_), (3, .int .i64 to_), (4, .int .i64 F), (5, .int .i64 p), (6, .int .i64 back), (7, .pointer (some ⟨g7, 0, none⟩))] a' ∧ On [(g15, .cells cs' 25 (0, 0)), (g7, .cells cs 25 (0, 0))] w6 w') (sr_ (run_ 2 K rfl fun a K => nil_ ?_)) ?_
  · by_cases may : mayT from_ to_ F
    case neg =>
      have ex := XN may
      refine ct_ K rfl (by rw [decide_eq_false may]; rfl) (sr_ ?_)
      subst ex
      have w1 : (!decide ((1 : Int) = 1)) = false := rfl
      have w7 := z_26
      refine run_ 2 K rfl fun a K => run_ 7 (fx_ K w1) rfl fun a K => nil_ ?_
      exact cf_ K rfl w7 (wp_skip (thn_ ⟨fg_ K ⟨rfl, rfl, rfl, rfl, rfl, rfl, rfl, rfl, rfl, rfl, rfl, rfl, trivial⟩, M⟩))
    refine cf_ K rfl (by rw [decide_eq_true may]; rfl) (sr_ ?_)
    have may2 := may
    obtain ⟨_, _, _, _, _, F0, F1⟩ := may2
    refine lda_ K M 1 rfl rfl rfl rfl rfl rfl rfl R.sz fun a K => run_ 4 K rfl fun a K => cl_ K Tryz.func30 (by kernel_rfl) rfl rfl rfl rfl rfl rfl ((Times2_on (R.below M.bl) hR hs F0 F1).mono ?_)
    intro e W2 hE
    cases hg : goneV r st from_ to_ F with
    | none =>
      rw [hg] at hE
      obtain ⟨rfl, b5⟩ := hE
      have ex := X0 may hg
      replace M := M.call b5
      refine ⟨_, rfl, fun a K => run_ 7 K rfl fun a K => nil_ (sr_ ?_)⟩
      subst ex
      have w4 : (!decide ((22 : Int) = 22)) = false := rfl
      have w10 := z_26
      refine run_ 5 K rfl fun a K => run_ 6 (fx_ K w4) rfl fun a K => run_ 20 (fx_ K w10) rfl fun a K => nil_ ?_
      exact cf_ K rfl rfl (wp_skip (thn_ ⟨fg_ K ⟨rfl, rfl, rfl, rfl, rfl, rfl, rfl, rfl, rfl, rfl, rfl, rfl, trivial⟩, M⟩))
    | some S =>
      rw [hg] at hE
      obtain ⟨vZ, rfl, RZ, b5⟩ := hE
      have ex := X1 S may hg
      replace M := M.call b5
      replace RX := Kd.R_below RX b5
      obtain ⟨AZ, cZ, eZ, _, _⟩ := Kd.R_reads RZ
      subst eZ
      refine ⟨_, rfl, fun a K => run_ 7 K rfl fun a K => nil_ (sr_ ?_)⟩
      subst ex
      dsimp only at RX lenX K
      have w17 : (!decide ((0 : Int) = 0)) = false := rfl
      have w27 := ne_int3 S.sp
      have l6 : S.out.length ≤ 1000000 := Nat.le_trans lenX (by decide)
      refine run_ 18 K rfl fun a K => run_ 3 (fx_ K w17) rfl fun a K => cl_ K Tryz.func26 (by kernel_rfl) rfl rfl rfl rfl rfl rfl ((ints_on (c_of RX).1 (c_of RX).2 (c_of RZ).1 (c_of RZ).2 l6).mono ?_)
      rintro _ w21 ⟨rfl, b21⟩
      replace M := M.call b21
      refine ⟨_, rfl, fun a K => run_ 6 K rfl fun a K => run_ 3 (fx_ K w27) rfl fun a K => nil_ ?_⟩
      exact cf_ K rfl rfl (wp_skip (thn_ ⟨fg_ K ⟨rfl, rfl, rfl, rfl, rfl, rfl, rfl, rfl, rfl, rfl, rfl, rfl, trivial⟩, M⟩))
  clear K M RX
  rintro a W ⟨K, M⟩
  refine wp_seq (sj_ (fun a' w' => Kn 377 [(288, .bool (!decide (okL to_ back F))), (19, .int .i64 Y.1), (20, .bool Y.2.1), (21, .int .i64 Y.2.2.1), (22, .int .i64 Y.2.2.2), (15, .pointer (some ⟨g15, 0, none⟩)), (1, .int .i64 st), (2, .int .i64 from_), (3, .int .i64 to_), (4, .int .i64 F), (5, .int .i64 p), (6, .int .i64 back), (7, .pointer (some ⟨g7, 0, none⟩))] a' ∧ On [(g15, .cells cs' 25 (0, 0)), (g7, .cells cs 25 (0, 0))] w6 w') (rg_ ?_) ?_)
  · by_cases c1 : back < 0
    case pos =>
      have v1 := decide_eq_true c1
      refine run_ 2 K rfl fun a K => run_ 23 (fx_ K v1) rfl fun a K => nil_ ?_
      exact ⟨fg_ (ks_ (i := 288) K rfl (congrArg Value.bool (show true = _ by rw [decide_eq_false (fun q : okL to_ back F => absurd c1 (Int.not_lt.2 q.1))]; rfl))) ⟨rfl, rfl, rfl, rfl, rfl, rfl, rfl, rfl, rfl, rfl, rfl, rfl, rfl, trivial⟩, M⟩
    have v1 := decide_eq_false c1
    by_cases c2 : 4611686018427387904 < back
    case pos =>
      have v4 := decide_eq_true c2
      refine run_ 2 K rfl fun a K => run_ 3 (fx_ K v1) rfl fun a K => run_ 20 (fx_ K v4) rfl fun a K => nil_ ?_
      exact ⟨fg_ (ks_ (i := 288) K rfl (congrArg Value.bool (show true = _ by rw [decide_eq_false (fun q : okL to_ back F => absurd c2 (Int.not_lt.2 q.2.1))]; rfl))) ⟨rfl, rfl, rfl, rfl, rfl, rfl, rfl, rfl, rfl, rfl, rfl, rfl, rfl, trivial⟩, M⟩
    have v4 := decide_eq_false c2
    by_cases c3 : -4611686018427387904 ≤ to_ ∧ to_ ≤ 4611686018427387904
    case neg =>
      have v9 : (!decide (-4611686018427387904 ≤ to_ ∧ to_ ≤ 4611686018427387904)) = true := by rw [decide_eq_false c3]; rfl
      refine run_ 2 K rfl fun a K => run_ 3 (fx_ K v1) rfl fun a K => run_ 3 (fx_ K v4) rfl fun a K => cl_ K Tryz.func29 (by kernel_rfl) rfl rfl rfl rfl rfl rfl ((bound_on to_).mono ?_)
      rintro _ w8 ⟨rfl, b8⟩
      replace M := M.call b8
      refine ⟨_, rfl, fun a K => run_ 1 K rfl fun a K => run_ 15 (fx_ K v9) rfl fun a K => nil_ ?_⟩
      exact ⟨fg_ (ks_ (i := 288) K rfl (congrArg Value.bool (show true = _ by rw [decide_eq_false (fun q : okL to_ back F => c3 q.2.2.1)]; rfl))) ⟨rfl, rfl, rfl, rfl, rfl, rfl, rfl, rfl, rfl, rfl, rfl, rfl, rfl, trivial⟩, M⟩
    have v9 : (!decide (-4611686018427387904 ≤ to_ ∧ to_ ≤ 4611686018427387904)) = false := by rw [decide_eq_true c3]; rfl
    by_cases c4 : F < 0
    case pos =>
      have v13 := decide_eq_true c4
      refine run_ 2 K rfl fun a K => run_ 3 (fx_ K v1) rfl fun a K => run_ 3 (fx_ K v4) rfl fun a K => cl_ K Tryz.func29 (by kernel_rfl) rfl rfl rfl rfl rfl rfl ((bound_on to_).mono ?_)
      rintro _ w8 ⟨rfl, b8⟩
      replace M := M.call b8
      refine ⟨_, rfl, fun a K => run_ 1 K rfl fun a K => run_ 4 (fx_ K v9) rfl fun a K => run_ 11 (fx_ K v13) rfl fun a K => nil_ ?_⟩
      exact ⟨fg_ (ks_ (i := 288) K rfl (congrArg Value.bool (show true = _ by rw [decide_eq_false (fun q : okL to_ back F => absurd c4 (Int.not_lt.2 q.2.2.2.1))]; rfl))) ⟨rfl, rfl, rfl, rfl, rfl, rfl, rfl, rfl, rfl, rfl, rfl, rfl, rfl, trivial⟩, M⟩
    have v13 := decide_eq_false c4
    by_cases c5 : 200000 < F
    case pos =>
      have v17 := decide_eq_true c5
      refine run_ 2 K rfl fun a K => run_ 3 (fx_ K v1) rfl fun a K => run_ 3 (fx_ K v4) rfl fun a K => cl_ K Tryz.func29 (by kernel_rfl) rfl rfl rfl rfl rfl rfl ((bound_on to_).mono ?_)
      rintro _ w8 ⟨rfl, b8⟩
      replace M := M.call b8
      refine ⟨_, rfl, fun a K => run_ 1 K rfl fun a K => run_ 4 (fx_ K v9) rfl fun a K => run_ 4 (fx_ K v13) rfl fun a K => run_ 7 (fx_ K v17) rfl fun a K => nil_ ?_⟩
      exact ⟨fg_ (ks_ (i := 288) K rfl (congrArg Value.bool (show true = _ by rw [decide_eq_false (fun q : okL to_ back F => absurd c5 (Int.not_lt.2 q.2.2.2.2.1))]; rfl))) ⟨rfl, rfl, rfl, rfl, rfl, rfl, rfl, rfl, rfl, rfl, rfl, rfl, rfl, trivial⟩, M⟩
    have v17 := decide_eq_false c5
    have bw := back_w c1 c2
    refine run_ 2 K rfl fun a K => run_ 3 (fx_ K v1) rfl fun a K => run_ 3 (fx_ K v4) rfl fun a K => cl_ K Tryz.func29 (by kernel_rfl) rfl rfl rfl rfl rfl rfl ((bound_on to_).mono ?_)
    rintro _ w8 ⟨rfl, b8⟩
    replace M := M.call b8
    refine ⟨_, rfl, fun a K => run_ 1 K rfl fun a K => run_ 4 (fx_ K v9) rfl fun a K => run_ 4 (fx_ K v13) rfl fun a K => run_ 7 (fx_ K v17) rfl fun a K => nil_ ?_⟩
    refine ⟨fg_ (ks_ (i := 288) K rfl (congrArg Value.bool ?_)) ⟨rfl, rfl, rfl, rfl, rfl, rfl, rfl, rfl, rfl, rfl, rfl, rfl, rfl, trivial⟩, M⟩
    rw [bw]
    by_cases c6 : to_ < back - 4611686018427387904
    · rw [decide_eq_true c6, decide_eq_false (fun q : okL to_ back F => absurd c6 (Int.not_lt.2 q.2.2.2.2.2))]; rfl
    · rw [decide_eq_false c6, decide_eq_true (show okL to_ back F from ⟨Int.not_lt.1 c1, Int.not_lt.1 c2, c3, Int.not_lt.1 c4, Int.not_lt.1 c5, Int.not_lt.1 c6⟩)]; rfl
  clear K M
  rintro a W ⟨K, M⟩
  have t1 : (!false) = true := rfl
  have z32 := z_32
  by_cases okl : okL to_ back F
  case neg =>
    have ey := YB okl
    subst ey
    have w1 : decide ((1 : Int) = 1) = true := rfl
    refine ct_ K rfl (by rw [decide_eq_false okl]; rfl) (sr_ (run_ 2 K rfl fun a K => run_ 3 (fx_ K w1) rfl fun a K => run_ 6 (fx_ K t1) rfl fun a K => run_ 2 (fx_ K z32) rfl fun a K => cl_ K Tryz.func19 (by kernel_rfl) rfl rfl rfl rfl rfl rfl ((wakes_on).mono ?_)))
    rintro _ w13 ⟨rfl, b13⟩
    replace M := M.call b13
    refine ⟨_, rfl, fun a K => run_ 2 K rfl fun a K => nil_ ?_⟩
    exact ret_ rfl K rfl ⟨rfl, fin M.bl⟩
  have om := okL_may okl
  have TM : ∀ V, Rul V cs r → Calls Tryz.prog 30 #[.agg cs, .int .i64 st, .int .i64 (wrap64 (to_ - back)), .int .i64 to_, .int .i64 F] V (TPost V (goneV r st (to_ - back) to_ F)) := fun V hV => by
    rw [om.2]; exact Times2_on hV hR hs okl.2.2.2.1 okl.2.2.2.2.1
  refine cs_ K rfl (by rw [decide_eq_true okl]; rfl) (sr_ (lda_ K M 1 rfl rfl rfl rfl rfl rfl rfl R.sz fun a K => run_ 6 K rfl fun a K => cl_ K Tryz.func30 (by kernel_rfl) rfl rfl rfl rfl rfl rfl ((TM _ (R.below M.bl)).mono ?_)))
  intro e W2 hE
  cases hg : goneV r st (to_ - back) to_ F with
  | none =>
    rw [hg] at hE
    obtain ⟨rfl, b7⟩ := hE
    have ey := Y0 okl hg
    replace M := M.call b7
    subst ey
    have w1 : decide ((22 : Int) = 22) = true := rfl
    refine ⟨_, rfl, fun a K => run_ 7 K rfl fun a K => nil_ (wp_seq (sr_ (run_ 2 K rfl fun a K => nil_ (ct_ K rfl rfl (sr_ ?_)))))⟩
    refine run_ 2 K rfl fun a K => run_ 3 (fx_ K w1) rfl fun a K => run_ 6 (fx_ K t1) rfl fun a K => run_ 2 (fx_ K z32) rfl fun a K => cl_ K Tryz.func19 (by kernel_rfl) rfl rfl rfl rfl rfl rfl ((wakes_on).mono ?_)
    rintro _ w13 ⟨rfl, b13⟩
    replace M := M.call b13
    refine ⟨_, rfl, fun a K => run_ 2 K rfl fun a K => nil_ ?_⟩
    exact ret_ rfl K rfl ⟨rfl, fin M.bl⟩
  | some S =>
  rw [hg] at hE
  obtain ⟨vZ, rfl, RZ, b7⟩ := hE
  have glen := gone_len om.1 hg
  replace M := M.call b7
  obtain ⟨AZ, cZ, eZ, _, _⟩ := Kd.R_reads RZ
  subst eZ
  have w1 : decide ((0 : Int) = 0) = true := rfl
  refine ⟨_, rfl, fun a K => run_ 7 K rfl fun a K => nil_ (wp_seq (sr_ (run_ 2 K rfl fun a K => nil_ (cs_ K rfl rfl (wp_seq (sr_ (run_ 3 K rfl fun a K => nil_ ?_)))))))⟩
  have wS := eq_int3 S.sp
  by_cases eo : S.out = []
  case pos =>
    have ey := Y1 S okl hg eo
    subst ey
    refine ct_ K rfl (by rw [eo]; rfl) (sr_ ?_)
    refine run_ 2 K rfl fun a K => run_ 3 (fx_ K w1) rfl fun a K => run_ 4 (fx_ K t1) rfl fun a K => run_ 5 (fx_ K w1) rfl fun a K => run_ 2 (fx_ K wS) rfl fun a K => cl_ K Tryz.func19 (by kernel_rfl) rfl rfl rfl rfl rfl rfl ((wakes_on).mono ?_)
    rintro _ w16 ⟨rfl, b16⟩
    replace M := M.call b16
    refine ⟨_, rfl, fun a K => run_ 2 K rfl fun a K => nil_ ?_⟩
    exact ret_ rfl K rfl ⟨rfl, fin M.bl⟩
  have ey := Y2 S okl hg eo
  obtain ⟨x, gx, hx, hlt⟩ := getD_at eo
  rw [gx] at ey
  subst ey
  have lw := len_w1 eo glen
  have g17 : S.out.length ≤ 4611686018427387904 := Nat.le_trans glen (by decide)
  obtain ⟨ad, eA, hat⟩ := C_at (c_of RZ).1 (List.length_pos_iff.2 eo)
  subst eA
  have hcell := hat _ x hx
  have wx := eq_int3 x
  have nz : decide ((S.out.length : Int) = 0) = false := by rw [len0_]; exact decide_eq_false fun q => eo (List.eq_nil_of_length_eq_zero q)
  refine cs_ K rfl nz (sr_ ?_)
  refine run_ 2 K rfl fun a K => run_ 9 (fx_ K w1) rfl fun a K => val_ K rfl rfl rfl (run_ix22 (kk := S.out.length - 1) hlt g17 rfl (K.of (x := .tmp 361) rfl) ((K.of (x := .tmp 364) rfl).trans (congrArg (Value.int .i64) lw))) fun a K => val_ K rfl rfl rfl (run_ld rfl rfl (K.of (x := .tmp 365) rfl) hcell) fun a K => run_ 1 K rfl fun a K => run_ 5 (fx_ K wx) rfl fun a K => run_ 2 (fx_ K wS) rfl fun a K => cl_ K Tryz.func19 (by kernel_rfl) rfl rfl rfl rfl rfl rfl ((wakes_on).mono ?_)
  rintro _ w21 ⟨rfl, b21⟩
  replace M := M.call b21
  refine ⟨_, rfl, fun a K => run_ 2 K rfl fun a K => nil_ ?_⟩
  exact ret_ rfl K rfl ⟨rfl, fin M.bl⟩
end Go.Proofs.YtjjaiahfkiojlaaGreat.Pure
