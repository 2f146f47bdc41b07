/- recur.Check of a rule that may be wrong: its weekdays, its parts beside one another. No condition beyond those each lemma names. -/
import Derived.Test.YtjjaiahfkiojlaaGreatMT23j
import Derived.Test.YtjjaiahfkiojlaaGreatMT23W
import Derived.Test.YtjjaiahfkiojlaaGreatMOx0
import Derived.Test.YtjjaiahfkiojlaaGreatOx150
namespace Go.Proofs.YtjjaiahfkiojlaaGreat.Pure
open Go.RowKit Go.Proofs.YtjjaiahfkiojlaaGreat.O Go.Proofs.YtjjaiahfkiojlaaGreatW.PrintWords Go.Proofs.YtjjaiahfkiojlaaGreatW.PrintLast
open Go.Proofs.YtjjaiahfkiojlaaGreat.Civ
set_option linter.unusedVariables false
set_option linter.unusedSimpArgs false
set_option maxHeartbeats 4000000
set_option maxRecDepth 100000
theorem bool_ret {b c : Bool} (h : b = c) : Ending.returned (Value.bool b) = Ending.returned (Value.bool c) := by rw [h]
/-- A weekday, right or wrong. -/
theorem days1_on {num : Bool} {x : S67} {g : Nat} {w : World} (hg : w.cell? ⟨g, 0, none⟩ = some (.bool num)) : Calls Tryz.prog 104 #[.agg #[.int .i64 x.f0, .int .i64 x.f1], .pointer (some ⟨g, 0, none⟩)] w (Rets w (.bool (!okBy num x))) := by
  obtain ⟨p, q⟩ := x
  refine en_ Tryz.func104 rfl rfl rfl fun a K => sr_ (bx_ K (On.nil w) rfl rfl rfl rfl rfl rfl fun a g0 W M K => run_ 1 K rfl fun a K => nil_ (sr_ ?_))
  by_cases c1 : q < 0
  case pos =>
    have e3 : decide (q < 0) = true := decide_eq_true c1
    refine run_ 1 K rfl fun a K => ld_ K M 0 rfl rfl rfl rfl rfl rfl rfl rfl fun a K => run_ 2 K rfl fun a K => run_ 24 (fx_ K e3) rfl fun a K => nil_ ?_
    exact ret_ rfl K rfl ⟨bool_ret (by simp [okBy]; omega), M.bl⟩
  have e3 : decide (q < 0) = false := decide_eq_false c1
  by_cases c2 : 6 < q
  case pos =>
    have e8 : decide (6 < q) = true := decide_eq_true c2
    refine run_ 1 K rfl fun a K => ld_ K M 0 rfl rfl rfl rfl rfl rfl rfl rfl fun a K => run_ 2 K rfl fun a K => run_ 1 (fx_ K e3) rfl fun a K => ld_ K M 0 rfl rfl rfl rfl rfl rfl rfl rfl fun a K => run_ 3 K rfl fun a K => run_ 19 (fx_ K e8) rfl fun a K => nil_ ?_
    exact ret_ rfl K rfl ⟨bool_ret (by simp [okBy]; omega), M.bl⟩
  have e8 : decide (6 < q) = false := decide_eq_false c2
  by_cases c3 : p < -53
  case pos =>
    have e13 : decide (p < -53) = true := decide_eq_true c3
    refine run_ 1 K rfl fun a K => ld_ K M 0 rfl rfl rfl rfl rfl rfl rfl rfl fun a K => run_ 2 K rfl fun a K => run_ 1 (fx_ K e3) rfl fun a K => ld_ K M 0 rfl rfl rfl rfl rfl rfl rfl rfl fun a K => run_ 3 K rfl fun a K => run_ 1 (fx_ K e8) rfl fun a K => ld_ K M 0 rfl rfl rfl rfl rfl rfl rfl rfl fun a K => run_ 3 K rfl fun a K => run_ 14 (fx_ K e13) rfl fun a K => nil_ ?_
    exact ret_ rfl K rfl ⟨bool_ret (by simp [okBy]; omega), M.bl⟩
  have e13 : decide (p < -53) = false := decide_eq_false c3
  by_cases c4 : 53 < p
  case pos =>
    have e18 : decide (53 < p) = true := decide_eq_true c4
    refine run_ 1 K rfl fun a K => ld_ K M 0 rfl rfl rfl rfl rfl rfl rfl rfl fun a K => run_ 2 K rfl fun a K => run_ 1 (fx_ K e3) rfl fun a K => ld_ K M 0 rfl rfl rfl rfl rfl rfl rfl rfl fun a K => run_ 3 K rfl fun a K => run_ 1 (fx_ K e8) rfl fun a K => ld_ K M 0 rfl rfl rfl rfl rfl rfl rfl rfl fun a K => run_ 3 K rfl fun a K => run_ 1 (fx_ K e13) rfl fun a K => ld_ K M 0 rfl rfl rfl rfl rfl rfl rfl rfl fun a K => run_ 3 K rfl fun a K => run_ 9 (fx_ K e18) rfl fun a K => nil_ ?_
    exact ret_ rfl K rfl ⟨bool_ret (by simp [okBy]; omega), M.bl⟩
  have e18 : decide (53 < p) = false := decide_eq_false c4
  by_cases c5 : p = 0
  case pos =>
    have e22 : (!decide (p = 0)) = false := by rw [decide_eq_true c5]; rfl
    refine run_ 1 K rfl fun a K => ld_ K M 0 rfl rfl rfl rfl rfl rfl rfl rfl fun a K => run_ 2 K rfl fun a K => run_ 1 (fx_ K e3) rfl fun a K => ld_ K M 0 rfl rfl rfl rfl rfl rfl rfl rfl fun a K => run_ 3 K rfl fun a K => run_ 1 (fx_ K e8) rfl fun a K => ld_ K M 0 rfl rfl rfl rfl rfl rfl rfl rfl fun a K => run_ 3 K rfl fun a K => run_ 1 (fx_ K e13) rfl fun a K => ld_ K M 0 rfl rfl rfl rfl rfl rfl rfl rfl fun a K => run_ 3 K rfl fun a K => run_ 1 (fx_ K e18) rfl fun a K => ld_ K M 0 rfl rfl rfl rfl rfl rfl rfl rfl fun a K => run_ 2 K rfl fun a K => run_ 5 (fx_ K e22) rfl fun a K => nil_ ?_
    exact ret_ rfl K rfl ⟨bool_ret (by simp [okBy, c5]; omega), M.bl⟩
  have e22 : (!decide (p = 0)) = true := by rw [decide_eq_false c5]; rfl
  refine run_ 1 K rfl fun a K => ld_ K M 0 rfl rfl rfl rfl rfl rfl rfl rfl fun a K => run_ 2 K rfl fun a K => run_ 1 (fx_ K e3) rfl fun a K => ld_ K M 0 rfl rfl rfl rfl rfl rfl rfl rfl fun a K => run_ 3 K rfl fun a K => run_ 1 (fx_ K e8) rfl fun a K => ld_ K M 0 rfl rfl rfl rfl rfl rfl rfl rfl fun a K => run_ 3 K rfl fun a K => run_ 1 (fx_ K e13) rfl fun a K => ld_ K M 0 rfl rfl rfl rfl rfl rfl rfl rfl fun a K => run_ 3 K rfl fun a K => run_ 1 (fx_ K e18) rfl fun a K => ld_ K M 0 rfl rfl rfl rfl rfl rfl rfl rfl fun a K => run_ 2 K rfl fun a K => val_ (fx_ K e22) rfl rfl rfl (run_ld rfl rfl (K.of (x := .tmp 1) rfl) (cell_on M hg)) fun a K => run_ 4 K rfl fun a K => nil_ ?_
  refine ret_ rfl K rfl ⟨bool_ret ?_, M.bl⟩
  cases num
  · simp [okBy, c5]
  · simp [okBy, c5]; omega
/-- A new block of one bool. -/
theorem alb_ {N : Nat} {E : Env} {a : Act} {ops : Array Oper} {rest : List Oper} {Q : Exit → Act → World → Prop} {w w0 : World} {o : Oper} {d : Nat} {L : List (Nat × Obj)} (K : Kn N E a) (M : On L w0 w) (hd : o.dst = some d) (hb : Nat.blt d N = true) (hw : wantE ops E o = some true) (hop : o.op = .alloc 4)
    (h : ∀ a' g W, w0.heap.size ≤ g → On ((g, .cells #[.bool false] 4 (0, 0)) :: L) w0 W → Kn N ((d, .pointer (some ⟨g, 0, none⟩)) :: E) a' → wpList Tryz.prog ops Q rest a' W) : wpList Tryz.prog ops Q (o :: rest) a w := by
  have hrun : (execOp a.eval o).run Tryz.prog w = .ok (.value (.pointer (some ⟨w.heap.size, 0, none⟩))) (w.alloc (.cells #[.bool false] 4 (0, 0))) := by
    have h4 := zero4
    unfold execOp; rw [hop]; go_simp
  exact val_ K hd hb hw hrun (fun a' K' => h a' _ _ M.bl.size (M.new _) K')
/-- Weekdays, right or wrong. -/
def daysB (r : RR) : Bool := r.dy.all (okBy ((decide (r.fr = 6) || decide (r.fr = 7)) && decide ((r.wn.length : Int) = 0))) && dis67 r.dy
theorem any_all {α : Type} (l : List α) (p : α → Bool) : (l.any fun x => !p x) = !l.all p := by
  induction l with
  | nil => rfl
  | cons x l ih => rw [List.any_cons, List.all_cons, ih]; cases p x <;> rfl
theorem days2_on {w : World} {cs : Array Value} {r : RR} (R : Rul w cs r) (hl : r.dy.length ≤ 1000000000) : Calls Tryz.prog 71 #[.agg cs] w (Rets w (.bool (daysB r))) := by
  obtain ⟨A9, k9, e9, h9, C9⟩ := R.c9
  obtain ⟨A12, k12, e12, h12, C12⟩ := R.c12
  obtain ⟨num, hnum⟩ : ∃ num, num = ((decide (r.fr = 6) || decide (r.fr = 7)) && decide ((r.wn.length : Int) = 0)) := ⟨_, rfl⟩
  refine en_ Tryz.func71 rfl rfl rfl fun a K => sr_ (bx_ K (On.nil w) rfl rfl rfl rfl rfl rfl fun a g0 W M K => run_ 1 K rfl fun a K => nil_ (sj_ (fun a' W' => ∃ g1, w.heap.size ≤ g1 ∧ Kn 31 [(3, .pointer (some ⟨g1, 0, none⟩)), (1, .pointer (some ⟨g0, 0, none⟩))] a' ∧ On [(g1, .cells #[.bool num] 4 (0, 0)), (g0, .cells cs 25 (0, 0))] w W') ?_ ?_))
  · refine rg_ ?_
    by_cases c1 : r.fr = 6
    case pos =>
      have e3 : decide (r.fr = 6) = true := decide_eq_true c1
      have e8 : (true : Bool) = true := rfl
      refine run_ 1 K rfl fun a K => ld_ K M 0 rfl rfl rfl rfl rfl rfl R.c0 rfl fun a K => run_ 2 K rfl fun a K => run_ 5 (fx_ K e3) rfl fun a K => run_ 1 (fx_ K e8) rfl fun a K => ld_ K M 0 rfl rfl rfl rfl rfl rfl e12 rfl fun a K => run_ 3 K rfl fun a K => ?_
      exact alb_ K M rfl rfl rfl rfl fun a g1 W1 G1 M K => stc_ K M 0 rfl G1 rfl rfl rfl rfl rfl rfl (by decide) fun W2 _ M2 => nl_ (thn_ ⟨g1, G1, fg_ K ⟨rfl, rfl, trivial⟩, by rw [hnum]; first | (simpa [c1] using M2) | (simpa [c1, c2] using M2) | exact M2⟩)
    case neg =>
      have e3 : decide (r.fr = 6) = false := decide_eq_false c1
      by_cases c2 : r.fr = 7
      case pos =>
        have e8 : decide (r.fr = 7) = true := decide_eq_true c2
        refine run_ 1 K rfl fun a K => ld_ K M 0 rfl rfl rfl rfl rfl rfl R.c0 rfl fun a K => run_ 2 K rfl fun a K => run_ 1 (fx_ K e3) rfl fun a K => ld_ K M 0 rfl rfl rfl rfl rfl rfl R.c0 rfl fun a K => run_ 3 K rfl fun a K => run_ 1 (fx_ K e8) rfl fun a K => ld_ K M 0 rfl rfl rfl rfl rfl rfl e12 rfl fun a K => run_ 3 K rfl fun a K => ?_
        exact alb_ K M rfl rfl rfl rfl fun a g1 W1 G1 M K => stc_ K M 0 rfl G1 rfl rfl rfl rfl rfl rfl (by decide) fun W2 _ M2 => nl_ (thn_ ⟨g1, G1, fg_ K ⟨rfl, rfl, trivial⟩, by rw [hnum]; first | (simpa [c1] using M2) | (simpa [c1, c2] using M2) | exact M2⟩)
      case neg =>
        have e8 : decide (r.fr = 7) = false := decide_eq_false c2
        refine run_ 1 K rfl fun a K => ld_ K M 0 rfl rfl rfl rfl rfl rfl R.c0 rfl fun a K => run_ 2 K rfl fun a K => run_ 1 (fx_ K e3) rfl fun a K => ld_ K M 0 rfl rfl rfl rfl rfl rfl R.c0 rfl fun a K => run_ 3 K rfl fun a K => run_ 5 (fx_ K e8) rfl fun a K => ?_
        exact alb_ K M rfl rfl rfl rfl fun a g1 W1 G1 M K => stc_ K M 0 rfl G1 rfl rfl rfl rfl rfl rfl (by decide) fun W2 _ M2 => nl_ (thn_ ⟨g1, G1, fg_ K ⟨rfl, rfl, trivial⟩, by rw [hnum]; first | (simpa [c1] using M2) | (simpa [c1, c2] using M2) | exact M2⟩)
  clear K M
  rintro a W ⟨g1, G1, K, M⟩
  have hb : W.cell? ⟨g1, 0, none⟩ = some (.bool num) := (M.cell (k := 0) rfl 0).trans rfl
  have CF := conf_by (fun x => !okBy num x) 104 #[.pointer (some ⟨g1, 0, none⟩)] enters87 A9 k9 r.dy W (Kd.C_below C9 M.bl) hl (fun V hV x hx => days1_on ((hV.cell (World.block_lt_of_cell? W _ hb)).trans hb))
  rw [any_all] at CF
  refine sr_ (run_ 2 K rfl fun a K => nil_ (sr_ ?_))
  cases ha : r.dy.all (okBy num) with
  | false =>
    rw [ha] at CF
    have e5 : (!(!false : Bool)) = false := rfl
    have ed : daysB r = false := by unfold daysB; rw [← hnum, ha]; rfl
    refine run_ 1 K rfl fun a K => ld_ K M 1 rfl rfl rfl rfl rfl rfl e9 rfl fun a K => run_ 1 K rfl fun a K => cl_ K Tryz.func88 (by kernel_rfl) rfl rfl rfl rfl rfl rfl ((CF).mono ?_)
    rintro _ w3 ⟨rfl, b3⟩
    replace M := M.call b3
    refine ⟨_, rfl, fun a K => run_ 2 K rfl fun a K => run_ 6 (fx_ K e5) rfl fun a K => nil_ ?_⟩
    exact ret_ rfl K rfl ⟨bool_ret ed.symm, M.bl⟩
  | true =>
    rw [ha] at CF
    have e5 : (!(!true : Bool)) = true := rfl
    have ed : daysB r = dis67 r.dy := by unfold daysB; rw [← hnum, ha]; rfl
    have hwf : ∀ x ∈ r.dy, (Lit.int .i64 x.f0).wf = true ∧ (Lit.int .i64 x.f1).wf = true := fun x hx => okBy_wf (List.all_eq_true.1 ha x hx)
    have TW := fun V (hV : Below w.heap.size w V) => twice2_by (H := Unit) A9 k9 r.dy V (Kd.C_below C9 hV) hl hwf
    refine run_ 1 K rfl fun a K => ld_ K M 1 rfl rfl rfl rfl rfl rfl e9 rfl fun a K => run_ 1 K rfl fun a K => cl_ K Tryz.func88 (by kernel_rfl) rfl rfl rfl rfl rfl rfl ((CF).mono ?_)
    rintro _ w3 ⟨rfl, b3⟩
    replace M := M.call b3
    refine ⟨_, rfl, fun a K => run_ 2 K rfl fun a K => run_ 1 (fx_ K e5) rfl fun a K => ld_ K M 1 rfl rfl rfl rfl rfl rfl e9 rfl fun a K => cl_ K Tryz.func105 (by kernel_rfl) rfl rfl rfl rfl rfl rfl ((TW _ M.bl).mono ?_)⟩
    rintro _ w8 ⟨rfl, b8⟩
    replace M := M.call b8
    refine ⟨_, rfl, fun a K => run_ 3 K rfl fun a K => nil_ ?_⟩
    exact ret_ rfl K rfl ⟨bool_ret (by rw [ed, Bool.not_not]), M.bl⟩
/-! Parts beside one another -/
theorem beside_iff {a : Int} {n6 n7 n8 n9 n10 n11 n12 n13 n14 : Nat} : okBeside a n6 n7 n8 n9 n10 n11 n12 n13 n14 = true ↔ ¬ (a = 5 ∧ 0 < n10) ∧ ¬ ((a = 4 ∨ a = 5 ∨ a = 6) ∧ 0 < n11) ∧ ¬ (a ≠ 7 ∧ 0 < n12) ∧ (n14 = 0 ∨ 0 < n6 + n7 + n8 + n9 + n10 + n11 + n12 + n13) := by
  simp only [okBeside, Bool.and_eq_true, Bool.or_eq_true, Bool.not_eq_true', Bool.and_eq_false_iff, Bool.not_eq_false', Bool.or_eq_false_iff, decide_eq_true_eq, decide_eq_false_iff_not]
  omega
theorem sum_w {n6 n7 n8 n9 n10 n11 n12 n13 : Nat} (h6 : n6 ≤ 1000000000) (h7 : n7 ≤ 1000000000) (h8 : n8 ≤ 1000000000) (h9 : n9 ≤ 1000000000) (h10 : n10 ≤ 1000000000) (h11 : n11 ≤ 1000000000) (h12 : n12 ≤ 1000000000) (h13 : n13 ≤ 1000000000) :
    wrap64 (wrap64 (wrap64 (wrap64 (wrap64 (wrap64 (wrap64 ((n6 : Int) + n7) + n8) + n9) + n10) + n11) + n12) + n13) = ((n6 + n7 + n8 + n9 + n10 + n11 + n12 + n13 : Nat) : Int) := by
  rw [ws_ ((n6 : Int) + n7) (by omega) (by omega), ws_ ((n6 : Int) + n7 + n8) (by omega) (by omega), ws_ ((n6 : Int) + n7 + n8 + n9) (by omega) (by omega), ws_ ((n6 : Int) + n7 + n8 + n9 + n10) (by omega) (by omega), ws_ ((n6 : Int) + n7 + n8 + n9 + n10 + n11) (by omega) (by omega), ws_ ((n6 : Int) + n7 + n8 + n9 + n10 + n11 + n12) (by omega) (by omega), ws_ ((n6 : Int) + n7 + n8 + n9 + n10 + n11 + n12 + n13) (by omega) (by omega)]
  omega
def besB (r : RR) : Bool := okBeside r.fr r.sec.length r.mi.length r.ho.length r.dy.length r.md.length r.yd.length r.wn.length r.mo.length r.sp.length
structure Lens9 (r : RR) : Prop where
  sec : r.sec.length ≤ 1000000000
  mi : r.mi.length ≤ 1000000000
  ho : r.ho.length ≤ 1000000000
  dy : r.dy.length ≤ 1000000000
  md : r.md.length ≤ 1000000000
  yd : r.yd.length ≤ 1000000000
  wn : r.wn.length ≤ 1000000000
  mo : r.mo.length ≤ 1000000000
  sp : r.sp.length ≤ 1000000000
theorem beside2_on {w : World} {cs : Array Value} {r : RR} (R : Rul w cs r) (h : Lens9 r) : Calls Tryz.prog 72 #[.agg cs] w (Rets w (.bool (besB r))) := by
  obtain ⟨A6, k6, e6, h6, C6⟩ := R.c6
  obtain ⟨A7, k7, e7, h7, C7⟩ := R.c7
  obtain ⟨A8, k8, e8, h8, C8⟩ := R.c8
  obtain ⟨A9, k9, e9', h9, C9⟩ := R.c9
  obtain ⟨A10, k10, e10, h10, C10⟩ := R.c10
  obtain ⟨A11, k11, e11', h11, C11⟩ := R.c11
  obtain ⟨A12, k12, e12, h12, C12⟩ := R.c12
  obtain ⟨A13, k13, e13, h13, C13⟩ := R.c13
  obtain ⟨A14, k14, e14, h14, C14⟩ := R.c14
  have h0 := R.c0
  have hs := R.sz
  have hsum := sum_w h.sec h.mi h.ho h.dy h.md h.yd h.wn h.mo
  have hiff := beside_iff (a := r.fr) (n6 := r.sec.length) (n7 := r.mi.length) (n8 := r.ho.length) (n9 := r.dy.length) (n10 := r.md.length) (n11 := r.yd.length) (n12 := r.wn.length) (n13 := r.mo.length) (n14 := r.sp.length)
  have hbes : besB r = okBeside r.fr r.sec.length r.mi.length r.ho.length r.dy.length r.md.length r.yd.length r.wn.length r.mo.length r.sp.length := rfl
  clear R h C6 C7 C8 C9 C10 C11 C12 C13 C14 h6 h7 h8 h9 h10 h11 h12 h13 h14
  generalize r.sec.length = n6 at *
  generalize r.mi.length = n7 at *
  generalize r.ho.length = n8 at *
  generalize r.dy.length = n9 at *
  generalize r.md.length = n10 at *
  generalize r.yd.length = n11 at *
  generalize r.wn.length = n12 at *
  generalize r.mo.length = n13 at *
  generalize r.sp.length = n14 at *
  generalize besB r = bb at hbes ⊢
  generalize r.fr = fr at *
  subst hbes
  generalize okBeside fr n6 n7 n8 n9 n10 n11 n12 n13 n14 = bb at hiff ⊢
  refine en_ Tryz.func72 rfl rfl rfl fun a K => sr_ (bx_ K (On.nil w) rfl rfl rfl rfl rfl rfl fun a g0 W M K => run_ 1 K rfl fun a K => nil_ (sj_ (fun a' W' => Kn 86 [(3, .bool (decide (fr = 4 ∨ fr = 5 ∨ fr = 6))), (1, .pointer (some ⟨g0, 0, none⟩))] a' ∧ On [(g0, .cells cs 25 (0, 0))] w W') ?_ ?_))
  · refine rg_ ?_
    by_cases c1 : fr = 4
    case pos =>
      have e3 : decide (fr = 4) = true := decide_eq_true c1
      have e8 : (true : Bool) = true := rfl
      refine run_ 1 K rfl fun a K => ld_ K M 0 rfl rfl rfl rfl rfl rfl h0 rfl fun a K => run_ 2 K rfl fun a K => run_ 5 (fx_ K e3) rfl fun a K => run_ 5 (fx_ K e8) rfl fun a K => nil_ ?_
      exact ⟨fg_ (ks_ (i := 3) (u := .bool (decide (fr = 4 ∨ fr = 5 ∨ fr = 6))) K rfl (congrArg Value.bool (decide_eq_true (Or.inl c1)).symm)) ⟨rfl, rfl, trivial⟩, M⟩
    case neg =>
      have e3 : decide (fr = 4) = false := decide_eq_false c1
      by_cases c2 : fr = 5
      case pos =>
        have e8 : decide (fr = 5) = true := decide_eq_true c2
        refine run_ 1 K rfl fun a K => ld_ K M 0 rfl rfl rfl rfl rfl rfl h0 rfl fun a K => run_ 2 K rfl fun a K => run_ 1 (fx_ K e3) rfl fun a K => ld_ K M 0 rfl rfl rfl rfl rfl rfl h0 rfl fun a K => run_ 3 K rfl fun a K => run_ 5 (fx_ K e8) rfl fun a K => nil_ ?_
        exact ⟨fg_ (ks_ (i := 3) (u := .bool (decide (fr = 4 ∨ fr = 5 ∨ fr = 6))) K rfl (congrArg Value.bool (decide_eq_true (Or.inr (Or.inl c2))).symm)) ⟨rfl, rfl, trivial⟩, M⟩
      case neg =>
        have e8 : decide (fr = 5) = false := decide_eq_false c2
        refine run_ 1 K rfl fun a K => ld_ K M 0 rfl rfl rfl rfl rfl rfl h0 rfl fun a K => run_ 2 K rfl fun a K => run_ 1 (fx_ K e3) rfl fun a K => ld_ K M 0 rfl rfl rfl rfl rfl rfl h0 rfl fun a K => run_ 3 K rfl fun a K => run_ 1 (fx_ K e8) rfl fun a K => ld_ K M 0 rfl rfl rfl rfl rfl rfl h0 rfl fun a K => run_ 3 K rfl fun a K => nil_ ?_
        exact ⟨fg_ (ks_ (i := 3) (u := .bool (decide (fr = 4 ∨ fr = 5 ∨ fr = 6))) K rfl (congrArg Value.bool (decide_eq_decide.2 (by omega)))) ⟨rfl, rfl, trivial⟩, M⟩
  clear K M
  rintro a W ⟨K, M⟩
  refine sj_ (fun a' W' => (¬ (fr = 5 ∧ 0 < n10) ∧ ¬ ((fr = 4 ∨ fr = 5 ∨ fr = 6) ∧ 0 < n11) ∧ ¬ (fr ≠ 7 ∧ 0 < n12)) ∧ Kn 86 [(1, .pointer (some ⟨g0, 0, none⟩))] a' ∧ On [(g0, .cells cs 25 (0, 0))] w W') (sr_ ?_) ?_
  · have no : ∀ {a : Act} {W : World}, (¬ (¬ (fr = 5 ∧ 0 < n10) ∧ ¬ ((fr = 4 ∨ fr = 5 ∨ fr = 6) ∧ 0 < n11) ∧ ¬ (fr ≠ 7 ∧ 0 < n12))) → bb = false := fun q => by
      cases bb with
      | false => rfl
      | true => exact absurd (let h := hiff.1 rfl; ⟨h.1, h.2.1, h.2.2.1⟩) q
    by_cases c5 : fr = 5
    case pos =>
      have e3 : decide (fr = 5) = true := decide_eq_true c5
      by_cases c10 : (0 : Int) < (n10 : Int)
      case pos =>
        have e9 : decide ((0 : Int) < (n10 : Int)) = true := decide_eq_true c10
        have e18 : (true : Bool) = true := rfl
        refine run_ 1 K rfl fun a K => ld_ K M 0 rfl rfl rfl rfl rfl rfl h0 rfl fun a K => run_ 2 K rfl fun a K => run_ 1 (fx_ K e3) rfl fun a K => ld_ K M 0 rfl rfl rfl rfl rfl rfl e10 rfl fun a K => run_ 4 K rfl fun a K => run_ 9 (fx_ K e9) rfl fun a K => run_ 10 (fx_ K e18) rfl fun a K => nil_ ?_
        exact ct_ K rfl rfl (sr_ (run_ 1 K rfl fun a K => nil_ (ret_ rfl K rfl ⟨bool_ret (no (a := a) (W := W) (by omega)).symm, M.bl⟩)))
      case neg =>
        have e9 : decide ((0 : Int) < (n10 : Int)) = false := decide_eq_false c10
        have e11 : decide (fr = 4 ∨ fr = 5 ∨ fr = 6) = true := decide_eq_true (by omega)
        by_cases c11 : (0 : Int) < (n11 : Int)
        case pos =>
          have e18 : decide ((0 : Int) < (n11 : Int)) = true := decide_eq_true c11
          refine run_ 1 K rfl fun a K => ld_ K M 0 rfl rfl rfl rfl rfl rfl h0 rfl fun a K => run_ 2 K rfl fun a K => run_ 1 (fx_ K e3) rfl fun a K => ld_ K M 0 rfl rfl rfl rfl rfl rfl e10 rfl fun a K => run_ 4 K rfl fun a K => run_ 2 (fx_ K e9) rfl fun a K => run_ 1 (fx_ K e11) rfl fun a K => ld_ K M 0 rfl rfl rfl rfl rfl rfl e11' rfl fun a K => run_ 5 K rfl fun a K => run_ 10 (fx_ K e18) rfl fun a K => nil_ ?_
          exact ct_ K rfl rfl (sr_ (run_ 1 K rfl fun a K => nil_ (ret_ rfl K rfl ⟨bool_ret (no (a := a) (W := W) (by omega)).symm, M.bl⟩)))
        case neg =>
          have e18 : decide ((0 : Int) < (n11 : Int)) = false := decide_eq_false c11
          have e22 : (!decide (fr = 7)) = true := by rw [decide_eq_false (by omega)]; rfl
          refine run_ 1 K rfl fun a K => ld_ K M 0 rfl rfl rfl rfl rfl rfl h0 rfl fun a K => run_ 2 K rfl fun a K => run_ 1 (fx_ K e3) rfl fun a K => ld_ K M 0 rfl rfl rfl rfl rfl rfl e10 rfl fun a K => run_ 4 K rfl fun a K => run_ 2 (fx_ K e9) rfl fun a K => run_ 1 (fx_ K e11) rfl fun a K => ld_ K M 0 rfl rfl rfl rfl rfl rfl e11' rfl fun a K => run_ 5 K rfl fun a K => run_ 1 (fx_ K e18) rfl fun a K => ld_ K M 0 rfl rfl rfl rfl rfl rfl h0 rfl fun a K => run_ 2 K rfl fun a K => run_ 1 (fx_ K e22) rfl fun a K => ld_ K M 0 rfl rfl rfl rfl rfl rfl e12 rfl fun a K => run_ 4 K rfl fun a K => nil_ ?_
          by_cases c12 : (0 : Int) < (n12 : Int)
          case pos => exact ct_ K rfl (decide_eq_true c12) (sr_ (run_ 1 K rfl fun a K => nil_ (ret_ rfl K rfl ⟨bool_ret (no (a := a) (W := W) (by omega)).symm, M.bl⟩)))
          case neg => exact cf_ K rfl (decide_eq_false c12) (wp_skip (thn_ ⟨by omega, fg_ K ⟨rfl, trivial⟩, M⟩))
    case neg =>
      have e3 : decide (fr = 5) = false := decide_eq_false c5
      have e9 : (false : Bool) = false := rfl
      by_cases cd : fr = 4 ∨ fr = 5 ∨ fr = 6
      case pos =>
        have e11 : decide (fr = 4 ∨ fr = 5 ∨ fr = 6) = true := decide_eq_true cd
        by_cases c11 : (0 : Int) < (n11 : Int)
        case pos =>
          have e18 : decide ((0 : Int) < (n11 : Int)) = true := decide_eq_true c11
          refine run_ 1 K rfl fun a K => ld_ K M 0 rfl rfl rfl rfl rfl rfl h0 rfl fun a K => run_ 2 K rfl fun a K => run_ 6 (fx_ K e3) rfl fun a K => run_ 2 (fx_ K e9) rfl fun a K => run_ 1 (fx_ K e11) rfl fun a K => ld_ K M 0 rfl rfl rfl rfl rfl rfl e11' rfl fun a K => run_ 5 K rfl fun a K => run_ 10 (fx_ K e18) rfl fun a K => nil_ ?_
          exact ct_ K rfl rfl (sr_ (run_ 1 K rfl fun a K => nil_ (ret_ rfl K rfl ⟨bool_ret (no (a := a) (W := W) (by omega)).symm, M.bl⟩)))
        case neg =>
          have e18 : decide ((0 : Int) < (n11 : Int)) = false := decide_eq_false c11
          have e22 : (!decide (fr = 7)) = true := by rw [decide_eq_false (by omega)]; rfl
          refine run_ 1 K rfl fun a K => ld_ K M 0 rfl rfl rfl rfl rfl rfl h0 rfl fun a K => run_ 2 K rfl fun a K => run_ 6 (fx_ K e3) rfl fun a K => run_ 2 (fx_ K e9) rfl fun a K => run_ 1 (fx_ K e11) rfl fun a K => ld_ K M 0 rfl rfl rfl rfl rfl rfl e11' rfl fun a K => run_ 5 K rfl fun a K => run_ 1 (fx_ K e18) rfl fun a K => ld_ K M 0 rfl rfl rfl rfl rfl rfl h0 rfl fun a K => run_ 2 K rfl fun a K => run_ 1 (fx_ K e22) rfl fun a K => ld_ K M 0 rfl rfl rfl rfl rfl rfl e12 rfl fun a K => run_ 4 K rfl fun a K => nil_ ?_
          by_cases c12 : (0 : Int) < (n12 : Int)
          case pos => exact ct_ K rfl (decide_eq_true c12) (sr_ (run_ 1 K rfl fun a K => nil_ (ret_ rfl K rfl ⟨bool_ret (no (a := a) (W := W) (by omega)).symm, M.bl⟩)))
          case neg => exact cf_ K rfl (decide_eq_false c12) (wp_skip (thn_ ⟨by omega, fg_ K ⟨rfl, trivial⟩, M⟩))
      case neg =>
        have e11 : decide (fr = 4 ∨ fr = 5 ∨ fr = 6) = false := decide_eq_false cd
        have e18 : (false : Bool) = false := rfl
        by_cases c7 : fr = 7
        case pos =>
          have e22 : (!decide (fr = 7)) = false := by rw [decide_eq_true c7]; rfl
          refine run_ 1 K rfl fun a K => ld_ K M 0 rfl rfl rfl rfl rfl rfl h0 rfl fun a K => run_ 2 K rfl fun a K => run_ 6 (fx_ K e3) rfl fun a K => run_ 2 (fx_ K e9) rfl fun a K => run_ 7 (fx_ K e11) rfl fun a K => run_ 1 (fx_ K e18) rfl fun a K => ld_ K M 0 rfl rfl rfl rfl rfl rfl h0 rfl fun a K => run_ 2 K rfl fun a K => run_ 6 (fx_ K e22) rfl fun a K => nil_ ?_
          exact cf_ K rfl rfl (wp_skip (thn_ ⟨by omega, fg_ K ⟨rfl, trivial⟩, M⟩))
        case neg =>
          have e22 : (!decide (fr = 7)) = true := by rw [decide_eq_false c7]; rfl
          refine run_ 1 K rfl fun a K => ld_ K M 0 rfl rfl rfl rfl rfl rfl h0 rfl fun a K => run_ 2 K rfl fun a K => run_ 6 (fx_ K e3) rfl fun a K => run_ 2 (fx_ K e9) rfl fun a K => run_ 7 (fx_ K e11) rfl fun a K => run_ 1 (fx_ K e18) rfl fun a K => ld_ K M 0 rfl rfl rfl rfl rfl rfl h0 rfl fun a K => run_ 2 K rfl fun a K => run_ 1 (fx_ K e22) rfl fun a K => ld_ K M 0 rfl rfl rfl rfl rfl rfl e12 rfl fun a K => run_ 4 K rfl fun a K => nil_ ?_
          by_cases c12 : (0 : Int) < (n12 : Int)
          case pos => exact ct_ K rfl (decide_eq_true c12) (sr_ (run_ 1 K rfl fun a K => nil_ (ret_ rfl K rfl ⟨bool_ret (no (a := a) (W := W) (by omega)).symm, M.bl⟩)))
          case neg => exact cf_ K rfl (decide_eq_false c12) (wp_skip (thn_ ⟨by omega, fg_ K ⟨rfl, trivial⟩, M⟩))
  clear K M
  rintro a W ⟨hp, K, M⟩
  refine sr_ (run_ 1 K rfl fun a K => ld_ K M 0 rfl rfl rfl rfl rfl rfl e6 rfl fun a K => run_ 2 K rfl fun a K => ld_ K M 0 rfl rfl rfl rfl rfl rfl e7 rfl fun a K => run_ 3 K rfl fun a K => ld_ K M 0 rfl rfl rfl rfl rfl rfl e8 rfl fun a K => run_ 3 K rfl fun a K => ld_ K M 0 rfl rfl rfl rfl rfl rfl e9' rfl fun a K => run_ 3 K rfl fun a K => ld_ K M 0 rfl rfl rfl rfl rfl rfl e10 rfl fun a K => run_ 3 K rfl fun a K => ld_ K M 0 rfl rfl rfl rfl rfl rfl e11' rfl fun a K => run_ 3 K rfl fun a K => ld_ K M 0 rfl rfl rfl rfl rfl rfl e12 rfl fun a K => run_ 3 K rfl fun a K => ld_ K M 0 rfl rfl rfl rfl rfl rfl e13 rfl fun a K => run_ 3 K rfl fun a K => nil_ ?_)
  refine sr_ ?_
  by_cases c14 : (n14 : Int) = 0
  case pos =>
    have e4 : decide ((n14 : Int) = 0) = true := decide_eq_true c14
    refine run_ 1 K rfl fun a K => ld_ K M 0 rfl rfl rfl rfl rfl rfl e14 rfl fun a K => run_ 3 K rfl fun a K => run_ 4 (fx_ K e4) rfl fun a K => nil_ ?_
    refine ret_ rfl K rfl ⟨bool_ret ?_, M.bl⟩
    exact (hiff.2 ⟨hp.1, hp.2.1, hp.2.2, Or.inl (by omega)⟩).symm
  case neg =>
    have e4 : decide ((n14 : Int) = 0) = false := decide_eq_false c14
    refine run_ 1 K rfl fun a K => ld_ K M 0 rfl rfl rfl rfl rfl rfl e14 rfl fun a K => run_ 3 K rfl fun a K => run_ 4 (fx_ K e4) rfl fun a K => nil_ ?_
    refine ret_ rfl K rfl ⟨bool_ret ?_, M.bl⟩
    rw [hsum, Bool.eq_iff_iff, hiff, decide_eq_true_eq]
    omega
end Go.Proofs.YtjjaiahfkiojlaaGreat.Pure
