/- recur.Check of a rule that may be wrong. No condition beyond those each lemma names. -/
import Derived.Test.YtmhpmkbifhgnbaaT23X
namespace Go.Proofs.Ytmhpmkbifhgnbaa.Pure
open Go.RowKit Go.Proofs.Ytmhpmkbifhgnbaa.O Go.Proofs.YtmhpmkbifhgnbaaW.PrintWords Go.Proofs.YtmhpmkbifhgnbaaW.PrintLast
open Go.Proofs.Ytmhpmkbifhgnbaa.Civ
set_option linter.unusedVariables false
set_option linter.unusedSimpArgs false
set_option maxHeartbeats 4000000
set_option maxRecDepth 100000
/-- An operation whose guard holds may be taken as unguarded. -/
theorem ung2_ {ops : Array Oper} {Q : Exit → Act → World → Prop} {N : Nat} {E : O.Env} {a : Act} {w : World} {o : Oper} {rest : List Oper} (K : Kn N E a) (hw : wantE ops E o = some true) (h : wpList Try.prog ops Q ({ o with guard := none } :: rest) a w) : wpList Try.prog ops Q (o :: rest) a w := by
  have h1 := want_of K hw
  have h2 : Region.wanted { o with guard := none } (yielded ops a.tmps) = true := rfl
  unfold wpList at h ⊢
  rw [if_pos h1]
  rw [if_pos h2] at h
  exact h
/-! The end -/
def endsB (r : RR) : Bool := decide (0 ≤ r.ct ∧ r.ct ≤ 100000) && (if r.un = true then decide (r.ct = 0 ∧ InT r.ua) else decide (r.ua = 0) && !r.utc)
theorem fyear2 {t : Int} (h : -9223372036854775808 ≤ t) (h' : t < 9223372036854775808) : Ev (fun k => recur_year.f k t) (decide (InT t)) := by
  by_cases ht : InT t
  · rw [decide_eq_true ht]; exact fyear ht
  rw [decide_eq_false ht]
  unfold InT at ht
  unfold recur_year.f
  simp only [csplit (t := t) (by omega) (by omega), Option.bind_some]
  by_cases hn : -719528 ≤ t / 86400 ∧ t / 86400 ≤ 2933262
  · refine evb (cdate_dt hn.1 hn.2) ?_
    simp only [if_true]
    have hy := (yr_range hn.1 hn.2)
    unfold yr at hy
    have hno : ¬ (1 ≤ (dt (t / 86400)).1 ∧ (dt (t / 86400)).1 ≤ 9999) := fun q => by have := hy.1 q; omega
    refine evif (fun h1 => evs ?_) (fun h1 => Ev.now _)
    rw [decide_eq_false_iff_not]; omega
  · refine evb (cdate_no (by omega)) ?_
    simp only [if_neg (show ¬ (23 : Int) = 0 by omega)]
    exact Ev.now _
theorem year_on2 {t : Int} (h : -9223372036854775808 ≤ t) (h' : t < 9223372036854775808) (w : World) : Calls Try.prog 85 #[.int .i64 t] w (Rets w (.bool (decide (InT t)))) := by
  obtain ⟨k, hk⟩ := (fyear2 h h').rounds
  exact recur_year.calls k t _ w hk
theorem ends2_on {w : World} {cs : Array Value} {r : RR} (R : Rul w cs r) (u1 : -9223372036854775808 ≤ r.ua) (u2 : r.ua < 9223372036854775808) : Calls Try.prog 62 #[.agg cs] w (Rets w (.bool (endsB r))) := by
  refine en_ Try.func62 rfl rfl rfl fun a K => sr_ (bx_ K (On.nil w) rfl rfl rfl rfl rfl rfl fun a g0 W M K => run_ 1 K rfl fun a K => nil_ (wp_seq (sr_ ?_)))
  by_cases c1 : r.ct < 0
  case pos =>
    have e3 := decide_eq_true c1
    refine run_ 1 K rfl fun a K => ld_ K M 0 rfl rfl rfl rfl rfl rfl R.c2 rfl fun a K => run_ 2 K rfl fun a K => run_ 13 (fx_ K e3) rfl fun a K => nil_ ?_
    exact ct_ K rfl rfl (sr_ (run_ 1 K rfl fun a K => nil_ (ret_ rfl K rfl ⟨bool_ret (by unfold endsB; rw [decide_eq_false (by omega)]; rfl), M.bl⟩)))
  have e3 := decide_eq_false c1
  by_cases c2 : 100000 < r.ct
  case pos =>
    have e8 := decide_eq_true c2
    refine run_ 1 K rfl fun a K => ld_ K M 0 rfl rfl rfl rfl rfl rfl R.c2 rfl fun a K => run_ 2 K rfl fun a K => run_ 1 (fx_ K e3) rfl fun a K => ld_ K M 0 rfl rfl rfl rfl rfl rfl R.c2 rfl fun a K => run_ 1 K rfl fun a K => run_ 10 (fx_ K e8) rfl fun a K => nil_ ?_
    exact ct_ K rfl rfl (sr_ (run_ 1 K rfl fun a K => nil_ (ret_ rfl K rfl ⟨bool_ret (by unfold endsB; rw [decide_eq_false (by omega)]; rfl), M.bl⟩)))
  have e8 := decide_eq_false c2
  have ec : decide (0 ≤ r.ct ∧ r.ct ≤ 100000) = true := decide_eq_true (by omega)
  cases hu : r.un with
  | false =>
    have R3 := R.c3
    rw [hu] at R3
    have ee : endsB r = (decide (r.ua = 0) && !r.utc) := by unfold endsB; rw [ec, hu]; rfl
    refine run_ 1 K rfl fun a K => ld_ K M 0 rfl rfl rfl rfl rfl rfl R.c2 rfl fun a K => run_ 2 K rfl fun a K => run_ 1 (fx_ K e3) rfl fun a K => ld_ K M 0 rfl rfl rfl rfl rfl rfl R.c2 rfl fun a K => run_ 1 K rfl fun a K => run_ 3 (fx_ K e8) rfl fun a K => ld_ K M 0 rfl rfl rfl rfl rfl rfl R3 rfl fun a K => run_ 6 K rfl fun a K => nil_ ?_
    refine cs_ K rfl rfl (wp_seq (sr_ (run_ 1 K rfl fun a K => ld_ K M 0 rfl rfl rfl rfl rfl rfl R3 rfl fun a K => run_ 1 K rfl fun a K => nil_ ?_)))
    refine ct_ K rfl rfl (sr_ ?_)
    by_cases c3 : r.ua = 0
    · have v3 := decide_eq_true c3
      exact run_ 1 K rfl fun a K => ld_ K M 0 rfl rfl rfl rfl rfl rfl R.c4 rfl fun a K => run_ 2 K rfl fun a K => run_ 1 (fx_ K v3) rfl fun a K => ld_ K M 0 rfl rfl rfl rfl rfl rfl R.c5 rfl fun a K => run_ 3 K rfl fun a K => nil_ (ret_ rfl K rfl ⟨bool_ret (by rw [ee, v3]; rfl), M.bl⟩)
    · have v3 := decide_eq_false c3
      exact run_ 1 K rfl fun a K => ld_ K M 0 rfl rfl rfl rfl rfl rfl R.c4 rfl fun a K => run_ 2 K rfl fun a K => run_ 5 (fx_ K v3) rfl fun a K => nil_ (ret_ rfl K rfl ⟨bool_ret (by rw [ee, v3]; rfl), M.bl⟩)
  | true =>
    have R3 := R.c3
    rw [hu] at R3
    have ee : endsB r = decide (r.ct = 0 ∧ InT r.ua) := by unfold endsB; rw [ec, hu]; rfl
    refine run_ 1 K rfl fun a K => ld_ K M 0 rfl rfl rfl rfl rfl rfl R.c2 rfl fun a K => run_ 2 K rfl fun a K => run_ 1 (fx_ K e3) rfl fun a K => ld_ K M 0 rfl rfl rfl rfl rfl rfl R.c2 rfl fun a K => run_ 1 K rfl fun a K => run_ 3 (fx_ K e8) rfl fun a K => ld_ K M 0 rfl rfl rfl rfl rfl rfl R3 rfl fun a K => run_ 2 K rfl fun a K => ld_ K M 0 rfl rfl rfl rfl rfl rfl R.c2 rfl fun a K => run_ 3 K rfl fun a K => nil_ ?_
    by_cases c3 : 0 < r.ct
    · exact ct_ K rfl (decide_eq_true c3) (sr_ (run_ 1 K rfl fun a K => nil_ (ret_ rfl K rfl ⟨bool_ret (by rw [ee, decide_eq_false (fun q => by omega)]), M.bl⟩)))
    refine cs_ K rfl (decide_eq_false c3) (wp_seq (sr_ (run_ 1 K rfl fun a K => ld_ K M 0 rfl rfl rfl rfl rfl rfl R3 rfl fun a K => run_ 1 K rfl fun a K => nil_ ?_)))
    refine cs_ K rfl rfl (sr_ (run_ 1 K rfl fun a K => ld_ K M 0 rfl rfl rfl rfl rfl rfl R.c4 rfl fun a K => cl_ K Try.func85 (by kernel_rfl) rfl rfl rfl rfl rfl rfl ((year_on2 u1 u2 _).mono ?_)))
    rintro _ w2 ⟨rfl, b2⟩
    replace M := M.call b2
    refine ⟨_, rfl, fun a K => run_ 1 K rfl fun a K => nil_ ?_⟩
    exact ret_ rfl K rfl ⟨bool_ret (by rw [ee, decide_eq_decide]; exact ⟨fun q => ⟨by omega, q⟩, fun q => q.2⟩), M.bl⟩
/-! The lists of numbers -/
theorem wrong_wf {l : List Int} {least most : Int} {neg : Bool} (hl : 0 ≤ least) (hm : most ≤ 1000) (hl' : least ≤ 1000) (hm' : 0 ≤ most) (h : (l.any fun x => wrongB x least most neg) = false) : ∀ x ∈ l, (Lit.int .i64 x).wf = true := fun x hx => by
  have h2 := List.any_eq_false.1 h x hx
  have m1 : IntKind.i64.min = -9223372036854775808 := rfl
  have m2 : IntKind.i64.max = 9223372036854775807 := rfl
  simp only [Lit.wf, m1, m2, Bool.and_eq_true, decide_eq_true_eq]
  cases neg <;> simp only [wrongB, Bool.not_eq_true, Bool.and_eq_false_iff, Bool.or_eq_false_iff, decide_eq_false_iff_not, Bool.not_true, Bool.not_false, Bool.true_eq_false, Bool.false_eq_true, false_or, or_false, true_or, false_and, Bool.true_or, Bool.false_or] at h2 <;> omega
def listsB (r : RR) : Bool := rightB r.mo 1 12 false && (rightB r.wn 1 53 true && (rightB r.yd 1 366 true && (rightB r.md 1 31 true && (rightB r.ho 0 23 false && (rightB r.mi 0 59 false && (rightB r.sec 0 59 false && (rightB r.sp 1 366 true)))))))
theorem lists_on {r : RR} {g0 g c : Nat} {W : World} {cs : Array Value} (h : Lens9 r) (R : Rul W cs r) (hb : W.heap[g0]? = some (.cells cs 25 (0, 0))) (hcell : ∀ j u, (bef g0 ++ beh g0)[j]? = some u → W.cell? ((⟨g, 0, none⟩ : Addr).add j) = some u) :
    Calls Try.prog 63 #[.slice (some ⟨g, 0, none⟩) 8 c, .func (.func 60) #[] #[]] W (Rets W (.bool (!listsB r))) := by
  obtain ⟨A13, c13, e13, h13, r13⟩ := R.c13
  have x13 : W.cell? ⟨g0, 13, none⟩ = some (.slice A13 r.mo.length c13) := (blk_cell hb 13).trans e13
  obtain ⟨A12, c12, e12, h12, r12⟩ := R.c12
  have x12 : W.cell? ⟨g0, 12, none⟩ = some (.slice A12 r.wn.length c12) := (blk_cell hb 12).trans e12
  obtain ⟨A11, c11, e11, h11, r11⟩ := R.c11
  have x11 : W.cell? ⟨g0, 11, none⟩ = some (.slice A11 r.yd.length c11) := (blk_cell hb 11).trans e11
  obtain ⟨A10, c10, e10, h10, r10⟩ := R.c10
  have x10 : W.cell? ⟨g0, 10, none⟩ = some (.slice A10 r.md.length c10) := (blk_cell hb 10).trans e10
  obtain ⟨A8, c8, e8, h8, r8⟩ := R.c8
  have x8 : W.cell? ⟨g0, 8, none⟩ = some (.slice A8 r.ho.length c8) := (blk_cell hb 8).trans e8
  obtain ⟨A7, c7, e7, h7, r7⟩ := R.c7
  have x7 : W.cell? ⟨g0, 7, none⟩ = some (.slice A7 r.mi.length c7) := (blk_cell hb 7).trans e7
  obtain ⟨A6, c6, e6, h6, r6⟩ := R.c6
  have x6 : W.cell? ⟨g0, 6, none⟩ = some (.slice A6 r.sec.length c6) := (blk_cell hb 6).trans e6
  obtain ⟨A14, c14, e14, h14, r14⟩ := R.c14
  have x14 : W.cell? ⟨g0, 14, none⟩ = some (.slice A14 r.sp.length c14) := (blk_cell hb 14).trans e14
  have C := conf_list2 8 60 enters60 ⟨g, 0, none⟩ c (fun i => match i with | 0 => sA | 1 => sB | 2 => sC | 3 => sD | 4 => sE | 5 => sF | 6 => sG | _ => sH) (fun i => match i with | 0 => ⟨g0, 13, none⟩ | 1 => ⟨g0, 12, none⟩ | 2 => ⟨g0, 11, none⟩ | 3 => ⟨g0, 10, none⟩ | 4 => ⟨g0, 8, none⟩ | 5 => ⟨g0, 7, none⟩ | 6 => ⟨g0, 6, none⟩ | _ => ⟨g0, 14, none⟩) (fun i => match i with | 0 => 1 | 1 => 1 | 2 => 1 | 3 => 1 | 4 => 0 | 5 => 0 | 6 => 0 | _ => 1) (fun i => match i with | 0 => 12 | 1 => 53 | 2 => 366 | 3 => 31 | 4 => 23 | 5 => 59 | 6 => 59 | _ => 366) (fun i => match i with | 0 => false | 1 => true | 2 => true | 3 => true | 4 => false | 5 => false | 6 => false | _ => true) (fun i => match i with | 0 => !rightB r.mo 1 12 false | 1 => !rightB r.wn 1 53 true | 2 => !rightB r.yd 1 366 true | 3 => !rightB r.md 1 31 true | 4 => !rightB r.ho 0 23 false | 5 => !rightB r.mi 0 59 false | 6 => !rightB r.sec 0 59 false | _ => !rightB r.sp 1 366 true) W ?_ (by decide) ?_
  · have e : ((List.range 8).any (fun i => match i with | 0 => !rightB r.mo 1 12 false | 1 => !rightB r.wn 1 53 true | 2 => !rightB r.yd 1 366 true | 3 => !rightB r.md 1 31 true | 4 => !rightB r.ho 0 23 false | 5 => !rightB r.mi 0 59 false | 6 => !rightB r.sec 0 59 false | _ => !rightB r.sp 1 366 true)) = !listsB r := by
      unfold listsB
      show ((!rightB r.mo 1 12 false) || ((!rightB r.wn 1 53 true) || ((!rightB r.yd 1 366 true) || ((!rightB r.md 1 31 true) || ((!rightB r.ho 0 23 false) || ((!rightB r.mi 0 59 false) || ((!rightB r.sec 0 59 false) || ((!rightB r.sp 1 366 true) || false)))))))) = _
      simp only [Bool.not_and, Bool.or_assoc, Bool.or_false]
    rwa [e] at C
  · intro i hi
    match i, hi with
    | 0, _ => exact ⟨hcell 0 _ rfl, hcell 1 _ rfl, hcell 2 _ rfl, hcell 3 _ rfl, hcell 4 _ rfl⟩
    | 1, _ => exact ⟨hcell 5 _ rfl, hcell 6 _ rfl, hcell 7 _ rfl, hcell 8 _ rfl, hcell 9 _ rfl⟩
    | 2, _ => exact ⟨hcell 10 _ rfl, hcell 11 _ rfl, hcell 12 _ rfl, hcell 13 _ rfl, hcell 14 _ rfl⟩
    | 3, _ => exact ⟨hcell 15 _ rfl, hcell 16 _ rfl, hcell 17 _ rfl, hcell 18 _ rfl, hcell 19 _ rfl⟩
    | 4, _ => exact ⟨hcell 20 _ rfl, hcell 21 _ rfl, hcell 22 _ rfl, hcell 23 _ rfl, hcell 24 _ rfl⟩
    | 5, _ => exact ⟨hcell 25 _ rfl, hcell 26 _ rfl, hcell 27 _ rfl, hcell 28 _ rfl, hcell 29 _ rfl⟩
    | 6, _ => exact ⟨hcell 30 _ rfl, hcell 31 _ rfl, hcell 32 _ rfl, hcell 33 _ rfl, hcell 34 _ rfl⟩
    | 7, _ => exact ⟨hcell 35 _ rfl, hcell 36 _ rfl, hcell 37 _ rfl, hcell 38 _ rfl, hcell 39 _ rfl⟩
  · intro W2 hb i hi
    match i, hi with
    | 0, _ => exact check2_calls (H := Unit) sA ⟨g0, 13, none⟩ 1 12 false A13 c13 r.mo W2 (by decide) (by decide) (by decide) (by decide) ((hb.cell (World.block_lt_of_cell? W _ x13)).trans x13) (Kd.C_below r13 hb) h.mo (wrong_wf (by decide) (by decide) (by decide) (by decide))
    | 1, _ => exact check2_calls (H := Unit) sB ⟨g0, 12, none⟩ 1 53 true A12 c12 r.wn W2 (by decide) (by decide) (by decide) (by decide) ((hb.cell (World.block_lt_of_cell? W _ x12)).trans x12) (Kd.C_below r12 hb) h.wn (wrong_wf (by decide) (by decide) (by decide) (by decide))
    | 2, _ => exact check2_calls (H := Unit) sC ⟨g0, 11, none⟩ 1 366 true A11 c11 r.yd W2 (by decide) (by decide) (by decide) (by decide) ((hb.cell (World.block_lt_of_cell? W _ x11)).trans x11) (Kd.C_below r11 hb) h.yd (wrong_wf (by decide) (by decide) (by decide) (by decide))
    | 3, _ => exact check2_calls (H := Unit) sD ⟨g0, 10, none⟩ 1 31 true A10 c10 r.md W2 (by decide) (by decide) (by decide) (by decide) ((hb.cell (World.block_lt_of_cell? W _ x10)).trans x10) (Kd.C_below r10 hb) h.md (wrong_wf (by decide) (by decide) (by decide) (by decide))
    | 4, _ => exact check2_calls (H := Unit) sE ⟨g0, 8, none⟩ 0 23 false A8 c8 r.ho W2 (by decide) (by decide) (by decide) (by decide) ((hb.cell (World.block_lt_of_cell? W _ x8)).trans x8) (Kd.C_below r8 hb) h.ho (wrong_wf (by decide) (by decide) (by decide) (by decide))
    | 5, _ => exact check2_calls (H := Unit) sF ⟨g0, 7, none⟩ 0 59 false A7 c7 r.mi W2 (by decide) (by decide) (by decide) (by decide) ((hb.cell (World.block_lt_of_cell? W _ x7)).trans x7) (Kd.C_below r7 hb) h.mi (wrong_wf (by decide) (by decide) (by decide) (by decide))
    | 6, _ => exact check2_calls (H := Unit) sG ⟨g0, 6, none⟩ 0 59 false A6 c6 r.sec W2 (by decide) (by decide) (by decide) (by decide) ((hb.cell (World.block_lt_of_cell? W _ x6)).trans x6) (Kd.C_below r6 hb) h.sec (wrong_wf (by decide) (by decide) (by decide) (by decide))
    | 7, _ => exact check2_calls (H := Unit) sH ⟨g0, 14, none⟩ 1 366 true A14 c14 r.sp W2 (by decide) (by decide) (by decide) (by decide) ((hb.cell (World.block_lt_of_cell? W _ x14)).trans x14) (Kd.C_below r14 hb) h.sp (wrong_wf (by decide) (by decide) (by decide) (by decide))
/-! Check -/
def headB (r : RR) : Bool := decide (1 ≤ r.fr) && (decide (r.fr ≤ 7) && (decide (1 ≤ r.iv) && (decide (r.iv ≤ 1000) && (decide (0 ≤ r.wk) && decide (r.wk ≤ 6)))))
def chkB (r : RR) : Bool := headB r && (endsB r && (listsB r && (daysB r && besB r)))
theorem Check2_on {w : World} {cs : Array Value} {r : RR} (R : Rul w cs r) (h : Lens9 r) (u1 : -9223372036854775808 ≤ r.ua) (u2 : r.ua < 9223372036854775808) : Calls Try.prog 33 #[.agg cs] w (Rets w (.int .i64 (if chkB r = true then 0 else 21))) := by
  have no : chkB r = false → Ending.returned (Value.int .i64 21) = Ending.returned (.int .i64 (if chkB r = true then 0 else 21)) := fun q => by rw [q]; rfl
  have hno : headB r = false → chkB r = false := fun q => by unfold chkB; rw [q]; rfl
  refine en_ Try.func33 rfl rfl rfl fun a K => sr_ (bx_ K (On.nil w) rfl rfl rfl rfl rfl rfl fun a g0 W M K => run_ 1 K rfl fun a K => nil_ (wp_seq (sr_ ?_)))
  by_cases c1 : r.fr < 1
  case pos =>
    have e3 : decide (r.fr < 1) = true := decide_eq_true c1
    refine run_ 1 K rfl fun a K => ld_ K M 0 rfl rfl rfl rfl rfl rfl R.c0 rfl fun a K => run_ 2 K rfl fun a K => run_ 24 (fx_ K e3) rfl fun a K => nil_ ?_
    exact ct_ K rfl rfl (sr_ (run_ 1 K rfl fun a K => nil_ (ret_ rfl K rfl ⟨no (hno (by unfold headB; rw [decide_eq_false (by omega)]; rfl)), M.bl⟩)))
  have e3 : decide (r.fr < 1) = false := decide_eq_false c1
  by_cases c2 : 7 < r.fr
  case pos =>
    have e8 : decide (7 < r.fr) = true := decide_eq_true c2
    refine run_ 1 K rfl fun a K => ld_ K M 0 rfl rfl rfl rfl rfl rfl R.c0 rfl fun a K => run_ 2 K rfl fun a K => run_ 1 (fx_ K e3) rfl fun a K => ld_ K M 0 rfl rfl rfl rfl rfl rfl R.c0 rfl fun a K => run_ 3 K rfl fun a K => run_ 19 (fx_ K e8) rfl fun a K => nil_ ?_
    exact ct_ K rfl rfl (sr_ (run_ 1 K rfl fun a K => nil_ (ret_ rfl K rfl ⟨no (hno (by simp [headB]; omega)), M.bl⟩)))
  have e8 : decide (7 < r.fr) = false := decide_eq_false c2
  by_cases c3 : r.iv < 1
  case pos =>
    have e13 : decide (r.iv < 1) = true := decide_eq_true c3
    refine run_ 1 K rfl fun a K => ld_ K M 0 rfl rfl rfl rfl rfl rfl R.c0 rfl fun a K => run_ 2 K rfl fun a K => run_ 1 (fx_ K e3) rfl fun a K => ld_ K M 0 rfl rfl rfl rfl rfl rfl R.c0 rfl fun a K => run_ 3 K rfl fun a K => run_ 1 (fx_ K e8) rfl fun a K => ld_ K M 0 rfl rfl rfl rfl rfl rfl R.c1 rfl fun a K => run_ 3 K rfl fun a K => run_ 14 (fx_ K e13) rfl fun a K => nil_ ?_
    exact ct_ K rfl rfl (sr_ (run_ 1 K rfl fun a K => nil_ (ret_ rfl K rfl ⟨no (hno (by simp [headB]; omega)), M.bl⟩)))
  have e13 : decide (r.iv < 1) = false := decide_eq_false c3
  by_cases c4 : 1000 < r.iv
  case pos =>
    have e18 : decide (1000 < r.iv) = true := decide_eq_true c4
    refine run_ 1 K rfl fun a K => ld_ K M 0 rfl rfl rfl rfl rfl rfl R.c0 rfl fun a K => run_ 2 K rfl fun a K => run_ 1 (fx_ K e3) rfl fun a K => ld_ K M 0 rfl rfl rfl rfl rfl rfl R.c0 rfl fun a K => run_ 3 K rfl fun a K => run_ 1 (fx_ K e8) rfl fun a K => ld_ K M 0 rfl rfl rfl rfl rfl rfl R.c1 rfl fun a K => run_ 3 K rfl fun a K => run_ 1 (fx_ K e13) rfl fun a K => ld_ K M 0 rfl rfl rfl rfl rfl rfl R.c1 rfl fun a K => run_ 3 K rfl fun a K => run_ 9 (fx_ K e18) rfl fun a K => nil_ ?_
    exact ct_ K rfl rfl (sr_ (run_ 1 K rfl fun a K => nil_ (ret_ rfl K rfl ⟨no (hno (by simp [headB]; omega)), M.bl⟩)))
  have e18 : decide (1000 < r.iv) = false := decide_eq_false c4
  by_cases c5 : r.wk < 0
  case pos =>
    have e23 : decide (r.wk < 0) = true := decide_eq_true c5
    refine run_ 1 K rfl fun a K => ld_ K M 0 rfl rfl rfl rfl rfl rfl R.c0 rfl fun a K => run_ 2 K rfl fun a K => run_ 1 (fx_ K e3) rfl fun a K => ld_ K M 0 rfl rfl rfl rfl rfl rfl R.c0 rfl fun a K => run_ 3 K rfl fun a K => run_ 1 (fx_ K e8) rfl fun a K => ld_ K M 0 rfl rfl rfl rfl rfl rfl R.c1 rfl fun a K => run_ 3 K rfl fun a K => run_ 1 (fx_ K e13) rfl fun a K => ld_ K M 0 rfl rfl rfl rfl rfl rfl R.c1 rfl fun a K => run_ 3 K rfl fun a K => run_ 1 (fx_ K e18) rfl fun a K => ld_ K M 0 rfl rfl rfl rfl rfl rfl R.c15 rfl fun a K => run_ 3 K rfl fun a K => run_ 4 (fx_ K e23) rfl fun a K => nil_ ?_
    exact ct_ K rfl rfl (sr_ (run_ 1 K rfl fun a K => nil_ (ret_ rfl K rfl ⟨no (hno (by simp [headB]; omega)), M.bl⟩)))
  have e23 : decide (r.wk < 0) = false := decide_eq_false c5
  refine run_ 1 K rfl fun a K => ld_ K M 0 rfl rfl rfl rfl rfl rfl R.c0 rfl fun a K => run_ 2 K rfl fun a K => run_ 1 (fx_ K e3) rfl fun a K => ld_ K M 0 rfl rfl rfl rfl rfl rfl R.c0 rfl fun a K => run_ 3 K rfl fun a K => run_ 1 (fx_ K e8) rfl fun a K => ld_ K M 0 rfl rfl rfl rfl rfl rfl R.c1 rfl fun a K => run_ 3 K rfl fun a K => run_ 1 (fx_ K e13) rfl fun a K => ld_ K M 0 rfl rfl rfl rfl rfl rfl R.c1 rfl fun a K => run_ 3 K rfl fun a K => run_ 1 (fx_ K e18) rfl fun a K => ld_ K M 0 rfl rfl rfl rfl rfl rfl R.c15 rfl fun a K => run_ 3 K rfl fun a K => run_ 1 (fx_ K e23) rfl fun a K => ld_ K M 0 rfl rfl rfl rfl rfl rfl R.c15 rfl fun a K => run_ 2 K rfl fun a K => nil_ ?_
  by_cases c6 : 6 < r.wk
  case pos => exact ct_ K rfl (decide_eq_true c6) (sr_ (run_ 1 K rfl fun a K => nil_ (ret_ rfl K rfl ⟨no (hno (by simp [headB]; omega)), M.bl⟩)))
  have hh : headB r = true := by simp [headB]; omega
  have hchk : chkB r = (endsB r && (listsB r && (daysB r && besB r))) := by unfold chkB; rw [hh, Bool.true_and]
  clear e3 e8 e13 e18 e23 c1 c2 c3 c4 c5 hno hh
  refine cs_ K rfl (decide_eq_false c6) (sr_ (run_ 1 K rfl fun a K => nil_ (wp_seq (sr_ (lda_ K M 0 rfl rfl rfl rfl rfl rfl rfl R.sz fun a K => cl_ K Try.func62 (by kernel_rfl) rfl rfl rfl rfl rfl rfl ((ends2_on (R.below M.bl) u1 u2).mono ?_))))))
  rintro _ w1 ⟨rfl, b1⟩
  replace M := M.call b1
  cases he : endsB r with
  | false =>
    rw [he, Bool.false_and] at hchk
    exact ⟨_, rfl, fun a K => run_ 18 K rfl fun a K => nil_ (ct_ K rfl rfl (sr_ (run_ 1 K rfl fun a K => nil_ (ret_ rfl K rfl ⟨no hchk, M.bl⟩))))⟩
  | true =>
  rw [he, Bool.true_and] at hchk
  refine ⟨_, rfl, fun a K => run_ 2 K rfl fun a K => cl_ K Try.func64 (by kernel_rfl) rfl rfl rfl rfl rfl rfl ((before_calls g0 w1).mono ?_)⟩
  rintro _ w2 ⟨rfl, b2, k2⟩
  have hne : some g0 ≠ some w1.heap.size := fun q => by
    have h1 := blk_lt (M.me 0 _ _ rfl)
    have h2 := Option.some.inj q
    omega
  have hg1 : w.heap.size ≤ w1.heap.size := M.bl.size
  replace M := M.call b2
  refine ⟨_, rfl, fun a K => cl_ K Try.func65 (by kernel_rfl) rfl rfl rfl rfl rfl rfl ((behind_calls g0 w2).mono ?_)⟩
  rintro _ w3 ⟨rfl, b3, k3⟩
  replace k2 := (b3.block _ (blk_lt k2)).trans k2
  replace M := M.call b3
  refine ⟨_, rfl, fun a K => ung2_ K rfl ?_⟩
  have I71 := inf71
  have hl1 : w1.heap.size ≤ w3.heap.size := Nat.le_of_lt (blk_lt k2)
  refine wpList_append_own_at _ rfl (.tmp 36) (.tmp 37) 74 rfl w1.heap.size 71 I71.choose _ 5 48 Try.underlying74 I71.choose_spec.1 I71.choose_spec.2.1 I71.choose_spec.2.2.1 I71.choose_spec.2.2.2 rfl (by decide) _ 4 (bef g0) (K.of (x := .tmp 36) rfl) (own_bef k2) ⟨w2.heap.size, 0, none⟩ 4 4 (beh g0) (K.of (x := .tmp 37) rfl) rfl (fun j u hu => news_ k3 j u hu) (one_beh _) (by unfold maxLen; omega) (by omega) hl1 ?_
  intro v4 w4 hown4 hgrow4 hnil4 hat4
  have hg4 : w3.grownBy w4 (some w1.heap.size) := hgrow4
  obtain ⟨g4, cap4, rfl, hcell4⟩ := row8 hown4
  have b4 : Below w.heap.size w w4 := pw_below_grown M.bl (some w1.heap.size) M.bl.size hg4 (fun q hq => by injection hq with hq; rw [← hq]; exact hg1)
  have hk4 := blk_grown (M.me 0 _ _ rfl) hg4 hne
  replace M : On [(g0, .cells cs 25 (0, 0))] w w4 := on_of b4 (fun p hp => by obtain rfl := List.mem_singleton.1 hp; exact hk4) (List.nodup_cons.2 ⟨List.not_mem_nil, List.nodup_nil⟩)
  clear hown4 hgrow4 hnil4 hat4 hg4 hne k2 k3
  replace K := K.put (d := 38) (.slice (some ⟨g4, 0, none⟩) 8 cap4) rfl
  refine run_ 1 K rfl fun a K => cl_ K Try.func63 (by kernel_rfl) rfl rfl rfl rfl rfl rfl ((lists_on h (R.below M.bl) hk4 hcell4).mono ?_)
  rintro _ w5 ⟨rfl, b5⟩
  replace M := M.call b5
  cases hL : listsB r with
  | false =>
    rw [hL, Bool.false_and] at hchk
    exact ⟨_, rfl, fun a K => run_ 11 K rfl fun a K => nil_ (ct_ K rfl rfl (sr_ (run_ 1 K rfl fun a K => nil_ (ret_ rfl K rfl ⟨no hchk, M.bl⟩))))⟩
  | true =>
  rw [hL, Bool.true_and] at hchk
  refine ⟨_, rfl, fun a K => run_ 2 K rfl fun a K => lda_ K M 0 rfl rfl rfl rfl rfl rfl rfl R.sz fun a K => cl_ K Try.func66 (by kernel_rfl) rfl rfl rfl rfl rfl rfl ((days2_on (R.below M.bl) h.dy).mono ?_)⟩
  rintro _ w6 ⟨rfl, b6⟩
  replace M := M.call b6
  cases hD : daysB r with
  | false =>
    rw [hD, Bool.false_and] at hchk
    exact ⟨_, rfl, fun a K => run_ 7 K rfl fun a K => nil_ (ct_ K rfl rfl (sr_ (run_ 1 K rfl fun a K => nil_ (ret_ rfl K rfl ⟨no hchk, M.bl⟩))))⟩
  | true =>
  rw [hD, Bool.true_and] at hchk
  refine ⟨_, rfl, fun a K => run_ 3 K rfl fun a K => lda_ K M 0 rfl rfl rfl rfl rfl rfl rfl R.sz fun a K => cl_ K Try.func67 (by kernel_rfl) rfl rfl rfl rfl rfl rfl ((beside2_on (R.below M.bl) h).mono ?_)⟩
  rintro _ w7 ⟨rfl, b7⟩
  replace M := M.call b7
  cases hB : besB r with
  | false =>
    rw [hB] at hchk
    exact ⟨_, rfl, fun a K => run_ 2 K rfl fun a K => nil_ (ct_ K rfl rfl (sr_ (run_ 1 K rfl fun a K => nil_ (ret_ rfl K rfl ⟨no hchk, M.bl⟩))))⟩
  | true =>
  rw [hB] at hchk
  exact ⟨_, rfl, fun a K => run_ 2 K rfl fun a K => nil_ (cs_ K rfl rfl (sr_ (run_ 1 K rfl fun a K => nil_ (ret_ rfl K rfl ⟨by rw [hchk]; rfl, M.bl⟩))))⟩
/-- A rule is right just if Check says so. -/
theorem chk_iff {r : RR} (h : Lens9 r) : chkB r = true ↔ Right r := by
  have hl : ∀ {l : List Int} {a b : Int} {n : Bool}, l.length ≤ 1000000000 → okList l a b n = rightB l a b n := fun {l a b n} q => by unfold okList; rw [decide_eq_true q, Bool.and_true]
  have e : okRecur r.fr r.iv r.ct r.un r.ua r.utc r.sec r.mi r.ho r.dy r.md r.yd r.wn r.mo r.sp r.wk = (headB r && (listsB r && (daysB r && besB r))) := by
    unfold okRecur headB listsB daysB besB
    rw [hl h.sec, hl h.mi, hl h.ho, hl h.md, hl h.yd, hl h.wn, hl h.mo, hl h.sp, decide_eq_true h.dy, Bool.and_true]
    generalize decide (1 ≤ r.fr) = b1
    generalize decide (r.fr ≤ 7) = b2
    generalize decide (1 ≤ r.iv) = b3
    generalize decide (r.iv ≤ 1000) = b4
    generalize decide (0 ≤ r.wk) = b5
    generalize decide (r.wk ≤ 6) = b6
    ac_rfl
  have en : endsB r = true ↔ 0 ≤ r.ct ∧ r.ct ≤ 100000 ∧ ((r.un = false ∧ r.ua = 0 ∧ r.utc = false) ∨ (r.un = true ∧ r.ct = 0 ∧ InT r.ua)) := by
    unfold endsB
    cases r.un <;> cases r.utc <;> simp [and_assoc]
  unfold chkB
  constructor
  · intro q
    simp only [Bool.and_eq_true] at q
    obtain ⟨q1, q2, q3, q4, q5⟩ := q
    have q2 := en.1 q2
    exact ⟨by rw [e, q1, q3, q4, q5]; rfl, q2.1, q2.2.1, q2.2.2⟩
  · intro q
    have q1 := q.ok
    rw [e] at q1
    simp only [Bool.and_eq_true] at q1 ⊢
    exact ⟨q1.1, en.2 ⟨q.ct0, q.ct1, q.en⟩, q1.2.1, q1.2.2.1, q1.2.2.2⟩
theorem check_yes {w : World} {cs : Array Value} {r : RR} (R : Rul w cs r) (h : Lens9 r) (u1 : -9223372036854775808 ≤ r.ua) (u2 : r.ua < 9223372036854775808) (q : Right r) : Calls Try.prog 33 #[.agg cs] w (Rets w (.int .i64 0)) := by
  have := Check2_on R h u1 u2
  rwa [(chk_iff h).2 q] at this
theorem check_not {w : World} {cs : Array Value} {r : RR} (R : Rul w cs r) (h : Lens9 r) (u1 : -9223372036854775808 ≤ r.ua) (u2 : r.ua < 9223372036854775808) (q : ¬ Right r) : Calls Try.prog 33 #[.agg cs] w (Rets w (.int .i64 21)) := by
  have := Check2_on R h u1 u2
  rwa [if_neg (fun e => q ((chk_iff h).1 e))] at this
end Go.Proofs.Ytmhpmkbifhgnbaa.Pure
