/- recur.Check of a rule that may be wrong. No condition beyond those each lemma names. -/
-- What some functions of the program compute: a text of this claim's own (lines first written by the kit's tool, some proved anew).
/- What the reference's numbers of days and Some of the statements compute. No condition beyond those each lemma names. -/
import Derived.Test.YtjjaiahfkiojlaaGreatT23X
import Derived.Test.YtjjaiahfkiojlaaGreatOx150
import Derived.Test.YtjjaiahfkiojlaaGreatMHd
import Derived.Test.YtjjaiahfkiojlaaGreatMOx0
import Derived.Test.YtjjaiahfkiojlaaGreatMOx7
import Derived.Test.YtjjaiahfkiojlaaGreatMHS0
namespace Go.Proofs.YtjjaiahfkiojlaaGreat.Pure
open Go.RowKit Go.Proofs.YtjjaiahfkiojlaaGreat.O Go.Proofs.YtjjaiahfkiojlaaGreatW.PrintWords Go.Proofs.YtjjaiahfkiojlaaGreatW.PrintLast
open Go.Proofs.YtjjaiahfkiojlaaGreat.Civ
set_option linter.unusedVariables false
set_option linter.unusedSimpArgs false
set_option maxHeartbeats 4000000
set_option maxRecDepth 100000
/-- An operation whose guard holds may be taken as unguarded. -/
theorem ung2_ {ops : Array Oper} {Q : Exit → Act → World → Prop} {N : Nat} {E : O.Env} {a : Act} {w : World} {o : Oper} {rest : List Oper} (K : Kn N E a) (hw : wantE ops E o = some true) (h : wpList Tryz.prog ops Q ({ o with guard := none } :: rest) a w) : wpList Tryz.prog ops Q (o :: rest) a w := by
  have h1 := want_of K hw
  have h2 : Region.wanted { o with guard := none } (yielded ops a.tmps) = true := rfl
  unfold wpList at h ⊢
  rw [if_pos h1]
  rw [if_pos h2] at h
  exact h
/-! The end -/
def endsB (r : RR) : Bool := decide (0 ≤ r.ct ∧ r.ct ≤ 100000) && (if r.un = true then decide (r.ct = 0 ∧ InT r.ua) else decide (r.ua = 0) && !r.utc)
theorem fyear2 {t : Int} (h : -9223372036854775808 ≤ t) (h' : t < 9223372036854775808) : Ev (fun k => recur_year.f k t) (decide (InT t)) := by
  by_cases ht : InT t
  · rw [decide_eq_true ht]; exact fyear ht
  rw [decide_eq_false ht]
  unfold InT at ht
  unfold recur_year.f
  simp only [csplit (t := t) (by omega) (by omega), Option.bind_some]
  by_cases hn : -719528 ≤ t / 86400 ∧ t / 86400 ≤ 2933262
  · refine evb (cdate_dt hn.1 hn.2) ?_
    simp only [if_true]
    have hy := (yr_range hn.1 hn.2)
    unfold yr at hy
    have hno : ¬ (1 ≤ (dt (t / 86400)).1 ∧ (dt (t / 86400)).1 ≤ 9999) := fun q => by have := hy.1 q; omega
    refine evif (fun h1 => evs ?_) (fun h1 => Ev.now _)
    rw [decide_eq_false_iff_not]; omega
  · refine evb (cdate_no (by omega)) ?_
    simp only [if_neg (show ¬ (23 : Int) = 0 by omega)]
    exact Ev.now _
theorem fends2 {r : RR} (u1 : -9223372036854775808 ≤ r.ua) (u2 : r.ua < 9223372036854775808) : Ev (fun k => recur_ends.f k r.fr r.iv r.ct r.un r.ua r.utc r.sec r.mi r.ho r.dy r.md r.yd r.wn r.mo r.sp r.wk) (endsB r) := by
  have jt : endsB r = false → Ev (fun k => recur_ends.j0 k true r.fr r.iv r.ct r.un r.ua r.utc r.sec r.mi r.ho r.dy r.md r.yd r.wn r.mo r.sp r.wk) (endsB r) := fun e => by
    rw [e]
    refine evstep ?_
    simp only [recur_ends.j0, if_true]
    exact Ev.now _
  unfold recur_ends.f
  refine evif (fun h1 => jt (by unfold endsB; rw [decide_eq_false (by omega)]; rfl)) (fun h1 => evif (fun h2 => jt (by unfold endsB; rw [decide_eq_false (by omega)]; rfl)) (fun h2 => evif (fun h3 => ?_) (fun h3 => ?_)))
  · by_cases hc : r.ct > 0
    · rw [decide_eq_true hc]
      exact jt (by unfold endsB; rw [if_pos h3, decide_eq_false (fun q => by omega : ¬ (r.ct = 0 ∧ InT r.ua)), Bool.and_false])
    · rw [decide_eq_false hc]
      refine evstep ?_
      simp only [recur_ends.j0, Bool.false_eq_true, if_false, if_pos h3]
      refine evb (fyear2 u1 u2) (evs ?_)
      unfold endsB
      rw [if_pos h3, decide_eq_true (show 0 ≤ r.ct ∧ r.ct ≤ 100000 from ⟨by omega, by omega⟩), Bool.true_and, decide_eq_decide]
      exact ⟨fun q => ⟨by omega, q⟩, fun q => q.2⟩
  · refine evstep ?_
    simp only [recur_ends.j0, Bool.false_eq_true, if_false, if_neg h3]
    unfold endsB
    rw [if_neg h3, decide_eq_true (by omega : 0 ≤ r.ct ∧ r.ct ≤ 100000), Bool.true_and]
    refine evif (fun h4 => evs (by rw [decide_eq_true h4, Bool.true_and])) (fun h4 => evs (by rw [decide_eq_false h4, Bool.false_and]))
theorem ends2_on {w : World} {cs : Array Value} {r : RR} (R : Rul w cs r) (u1 : -9223372036854775808 ≤ r.ua) (u2 : r.ua < 9223372036854775808) : Calls Tryz.prog 67 #[.agg cs] w (Rets w (.bool (endsB r))) := by
  obtain ⟨A6, k6, A7, k7, A8, k8, A9, k9, A10, k10, A11, k11, A12, k12, A13, k13, A14, k14, rfl, h6, h7, h8, h9, h10, h11, h12, h13, h14⟩ := rul_opens R
  obtain ⟨k, hk⟩ := (fends2 u1 u2).rounds
  exact recur_ends.calls k r.fr r.iv r.ct r.un r.ua r.utc A6 k6 r.sec A7 k7 r.mi A8 k8 r.ho A9 k9 r.dy A10 k10 r.md A11 k11 r.yd A12 k12 r.wn A13 k13 r.mo A14 k14 r.sp r.wk _ w h6.2 h6.1 h7.2 h7.1 h8.2 h8.1 h9.2 h9.1 h10.2 h10.1 h11.2 h11.1 h12.2 h12.1 h13.2 h13.1 h14.2 h14.1 hk
/-! The lists of numbers -/
theorem wrong_wf {l : List Int} {least most : Int} {neg : Bool} (hl : 0 ≤ least) (hm : most ≤ 1000) (hl' : least ≤ 1000) (hm' : 0 ≤ most) (h : (l.any fun x => wrongB x least most neg) = false) : ∀ x ∈ l, (Lit.int .i64 x).wf = true := fun x hx => by
  have h2 := List.any_eq_false.1 h x hx
  have m1 : IntKind.i64.min = -9223372036854775808 := rfl
  have m2 : IntKind.i64.max = 9223372036854775807 := rfl
  simp only [Lit.wf, m1, m2, Bool.and_eq_true, decide_eq_true_eq]
  cases neg <;> simp only [wrongB, Bool.not_eq_true, Bool.and_eq_false_iff, Bool.or_eq_false_iff, decide_eq_false_iff_not, Bool.not_true, Bool.not_false, Bool.true_eq_false, Bool.false_eq_true, false_or, or_false, true_or, false_and, Bool.true_or, Bool.false_or] at h2 <;> omega
def listsB (r : RR) : Bool := rightB r.mo 1 12 false && (rightB r.wn 1 53 true && (rightB r.yd 1 366 true && (rightB r.md 1 31 true && (rightB r.ho 0 23 false && (rightB r.mi 0 59 false && (rightB r.sec 0 59 false && (rightB r.sp 1 366 true)))))))
theorem lists_on {r : RR} {g0 g c : Nat} {W : World} {cs : Array Value} (h : Lens9 r) (R : Rul W cs r) (hb : W.heap[g0]? = some (.cells cs 25 (0, 0))) (hcell : ∀ j u, (bef g0 ++ beh g0)[j]? = some u → W.cell? ((⟨g, 0, none⟩ : Addr).add j) = some u) :
    Calls Tryz.prog 68 #[.slice (some ⟨g, 0, none⟩) 8 c, .func (.func 65) #[] #[]] W (Rets W (.bool (!listsB r))) := by
  obtain ⟨A13, c13, e13, h13, r13⟩ := R.c13
  have x13 : W.cell? ⟨g0, 13, none⟩ = some (.slice A13 r.mo.length c13) := (blk_cell hb 13).trans e13
  obtain ⟨A12, c12, e12, h12, r12⟩ := R.c12
  have x12 : W.cell? ⟨g0, 12, none⟩ = some (.slice A12 r.wn.length c12) := (blk_cell hb 12).trans e12
  obtain ⟨A11, c11, e11, h11, r11⟩ := R.c11
  have x11 : W.cell? ⟨g0, 11, none⟩ = some (.slice A11 r.yd.length c11) := (blk_cell hb 11).trans e11
  obtain ⟨A10, c10, e10, h10, r10⟩ := R.c10
  have x10 : W.cell? ⟨g0, 10, none⟩ = some (.slice A10 r.md.length c10) := (blk_cell hb 10).trans e10
  obtain ⟨A8, c8, e8, h8, r8⟩ := R.c8
  have x8 : W.cell? ⟨g0, 8, none⟩ = some (.slice A8 r.ho.length c8) := (blk_cell hb 8).trans e8
  obtain ⟨A7, c7, e7, h7, r7⟩ := R.c7
  have x7 : W.cell? ⟨g0, 7, none⟩ = some (.slice A7 r.mi.length c7) := (blk_cell hb 7).trans e7
  obtain ⟨A6, c6, e6, h6, r6⟩ := R.c6
  have x6 : W.cell? ⟨g0, 6, none⟩ = some (.slice A6 r.sec.length c6) := (blk_cell hb 6).trans e6
  obtain ⟨A14, c14, e14, h14, r14⟩ := R.c14
  have x14 : W.cell? ⟨g0, 14, none⟩ = some (.slice A14 r.sp.length c14) := (blk_cell hb 14).trans e14
  have C := conf_list2 8 65 enters60 ⟨g, 0, none⟩ c (fun i => match i with | 0 => sA | 1 => sB | 2 => sC | 3 => sD | 4 => sE | 5 => sF | 6 => sG | _ => sH) (fun i => match i with | 0 => ⟨g0, 13, none⟩ | 1 => ⟨g0, 12, none⟩ | 2 => ⟨g0, 11, none⟩ | 3 => ⟨g0, 10, none⟩ | 4 => ⟨g0, 8, none⟩ | 5 => ⟨g0, 7, none⟩ | 6 => ⟨g0, 6, none⟩ | _ => ⟨g0, 14, none⟩) (fun i => match i with | 0 => 1 | 1 => 1 | 2 => 1 | 3 => 1 | 4 => 0 | 5 => 0 | 6 => 0 | _ => 1) (fun i => match i with | 0 => 12 | 1 => 53 | 2 => 366 | 3 => 31 | 4 => 23 | 5 => 59 | 6 => 59 | _ => 366) (fun i => match i with | 0 => false | 1 => true | 2 => true | 3 => true | 4 => false | 5 => false | 6 => false | _ => true) (fun i => match i with | 0 => !rightB r.mo 1 12 false | 1 => !rightB r.wn 1 53 true | 2 => !rightB r.yd 1 366 true | 3 => !rightB r.md 1 31 true | 4 => !rightB r.ho 0 23 false | 5 => !rightB r.mi 0 59 false | 6 => !rightB r.sec 0 59 false | _ => !rightB r.sp 1 366 true) W ?_ (by decide) ?_
  · have e : ((List.range 8).any (fun i => match i with | 0 => !rightB r.mo 1 12 false | 1 => !rightB r.wn 1 53 true | 2 => !rightB r.yd 1 366 true | 3 => !rightB r.md 1 31 true | 4 => !rightB r.ho 0 23 false | 5 => !rightB r.mi 0 59 false | 6 => !rightB r.sec 0 59 false | _ => !rightB r.sp 1 366 true)) = !listsB r := by
      unfold listsB
      show ((!rightB r.mo 1 12 false) || ((!rightB r.wn 1 53 true) || ((!rightB r.yd 1 366 true) || ((!rightB r.md 1 31 true) || ((!rightB r.ho 0 23 false) || ((!rightB r.mi 0 59 false) || ((!rightB r.sec 0 59 false) || ((!rightB r.sp 1 366 true) || false)))))))) = _
      simp only [Bool.not_and, Bool.or_assoc, Bool.or_false]
    rwa [e] at C
  · intro i hi
    match i, hi with
    | 0, _ => exact ⟨hcell 0 _ rfl, hcell 1 _ rfl, hcell 2 _ rfl, hcell 3 _ rfl, hcell 4 _ rfl⟩
    | 1, _ => exact ⟨hcell 5 _ rfl, hcell 6 _ rfl, hcell 7 _ rfl, hcell 8 _ rfl, hcell 9 _ rfl⟩
    | 2, _ => exact ⟨hcell 10 _ rfl, hcell 11 _ rfl, hcell 12 _ rfl, hcell 13 _ rfl, hcell 14 _ rfl⟩
    | 3, _ => exact ⟨hcell 15 _ rfl, hcell 16 _ rfl, hcell 17 _ rfl, hcell 18 _ rfl, hcell 19 _ rfl⟩
    | 4, _ => exact ⟨hcell 20 _ rfl, hcell 21 _ rfl, hcell 22 _ rfl, hcell 23 _ rfl, hcell 24 _ rfl⟩
    | 5, _ => exact ⟨hcell 25 _ rfl, hcell 26 _ rfl, hcell 27 _ rfl, hcell 28 _ rfl, hcell 29 _ rfl⟩
    | 6, _ => exact ⟨hcell 30 _ rfl, hcell 31 _ rfl, hcell 32 _ rfl, hcell 33 _ rfl, hcell 34 _ rfl⟩
    | 7, _ => exact ⟨hcell 35 _ rfl, hcell 36 _ rfl, hcell 37 _ rfl, hcell 38 _ rfl, hcell 39 _ rfl⟩
  · intro W2 hb i hi
    match i, hi with
    | 0, _ => exact check2_calls (H := Unit) sA ⟨g0, 13, none⟩ 1 12 false A13 c13 r.mo W2 (by decide) (by decide) (by decide) (by decide) ((hb.cell (World.block_lt_of_cell? W _ x13)).trans x13) (Kd.C_below r13 hb) h.mo (wrong_wf (by decide) (by decide) (by decide) (by decide))
    | 1, _ => exact check2_calls (H := Unit) sB ⟨g0, 12, none⟩ 1 53 true A12 c12 r.wn W2 (by decide) (by decide) (by decide) (by decide) ((hb.cell (World.block_lt_of_cell? W _ x12)).trans x12) (Kd.C_below r12 hb) h.wn (wrong_wf (by decide) (by decide) (by decide) (by decide))
    | 2, _ => exact check2_calls (H := Unit) sC ⟨g0, 11, none⟩ 1 366 true A11 c11 r.yd W2 (by decide) (by decide) (by decide) (by decide) ((hb.cell (World.block_lt_of_cell? W _ x11)).trans x11) (Kd.C_below r11 hb) h.yd (wrong_wf (by decide) (by decide) (by decide) (by decide))
    | 3, _ => exact check2_calls (H := Unit) sD ⟨g0, 10, none⟩ 1 31 true A10 c10 r.md W2 (by decide) (by decide) (by decide) (by decide) ((hb.cell (World.block_lt_of_cell? W _ x10)).trans x10) (Kd.C_below r10 hb) h.md (wrong_wf (by decide) (by decide) (by decide) (by decide))
    | 4, _ => exact check2_calls (H := Unit) sE ⟨g0, 8, none⟩ 0 23 false A8 c8 r.ho W2 (by decide) (by decide) (by decide) (by decide) ((hb.cell (World.block_lt_of_cell? W _ x8)).trans x8) (Kd.C_below r8 hb) h.ho (wrong_wf (by decide) (by decide) (by decide) (by decide))
    | 5, _ => exact check2_calls (H := Unit) sF ⟨g0, 7, none⟩ 0 59 false A7 c7 r.mi W2 (by decide) (by decide) (by decide) (by decide) ((hb.cell (World.block_lt_of_cell? W _ x7)).trans x7) (Kd.C_below r7 hb) h.mi (wrong_wf (by decide) (by decide) (by decide) (by decide))
    | 6, _ => exact check2_calls (H := Unit) sG ⟨g0, 6, none⟩ 0 59 false A6 c6 r.sec W2 (by decide) (by decide) (by decide) (by decide) ((hb.cell (World.block_lt_of_cell? W _ x6)).trans x6) (Kd.C_below r6 hb) h.sec (wrong_wf (by decide) (by decide) (by decide) (by decide))
    | 7, _ => exact check2_calls (H := Unit) sH ⟨g0, 14, none⟩ 1 366 true A14 c14 r.sp W2 (by decide) (by decide) (by decide) (by decide) ((hb.cell (World.block_lt_of_cell? W _ x14)).trans x14) (Kd.C_below r14 hb) h.sp (wrong_wf (by decide) (by decide) (by decide) (by decide))
/-! Check -/
def headB (r : RR) : Bool := decide (1 ≤ r.fr) && (decide (r.fr ≤ 7) && (decide (1 ≤ r.iv) && (decide (r.iv ≤ 1000) && (decide (0 ≤ r.wk) && decide (r.wk ≤ 6)))))
def chkB (r : RR) : Bool := headB r && (endsB r && (listsB r && (daysB r && besB r)))
theorem Check2_on {w : World} {cs : Array Value} {r : RR} (R : Rul w cs r) (h : Lens9 r) (u1 : -9223372036854775808 ≤ r.ua) (u2 : r.ua < 9223372036854775808) : Calls Tryz.prog 40 #[.agg cs] w (Rets w (.int .i64 (if chkB r = true then 0 else 21))) := by
  have no : chkB r = false → Ending.returned (Value.int .i64 21) = Ending.returned (.int .i64 (if chkB r = true then 0 else 21)) := fun q => by rw [q]; rfl
  have hno : headB r = false → chkB r = false := fun q => by unfold chkB; rw [q]; rfl
  refine en_ Tryz.func40 rfl rfl rfl fun a K => sr_ (bx_ K (On.nil w) rfl rfl rfl rfl rfl rfl fun a g0 W M K => run_ 1 K rfl fun a K => nil_ (wp_seq (sr_ ?_)))
  by_cases c1 : r.fr < 1
  case pos =>
    have e3 : decide (r.fr < 1) = true := decide_eq_true c1
    refine run_ 1 K rfl fun a K => ld_ K M 0 rfl rfl rfl rfl rfl rfl R.c0 rfl fun a K => run_ 2 K rfl fun a K => run_ 24 (fx_ K e3) rfl fun a K => nil_ ?_
    exact ct_ K rfl rfl (sr_ (run_ 1 K rfl fun a K => nil_ (ret_ rfl K rfl ⟨no (hno (by unfold headB; rw [decide_eq_false (by omega)]; rfl)), M.bl⟩)))
  have e3 : decide (r.fr < 1) = false := decide_eq_false c1
  by_cases c2 : 7 < r.fr
  case pos =>
    have e8 : decide (7 < r.fr) = true := decide_eq_true c2
    refine run_ 1 K rfl fun a K => ld_ K M 0 rfl rfl rfl rfl rfl rfl R.c0 rfl fun a K => run_ 2 K rfl fun a K => run_ 1 (fx_ K e3) rfl fun a K => ld_ K M 0 rfl rfl rfl rfl rfl rfl R.c0 rfl fun a K => run_ 3 K rfl fun a K => run_ 19 (fx_ K e8) rfl fun a K => nil_ ?_
    exact ct_ K rfl rfl (sr_ (run_ 1 K rfl fun a K => nil_ (ret_ rfl K rfl ⟨no (hno (by simp [headB]; omega)), M.bl⟩)))
  have e8 : decide (7 < r.fr) = false := decide_eq_false c2
  by_cases c3 : r.iv < 1
  case pos =>
    have e13 : decide (r.iv < 1) = true := decide_eq_true c3
    refine run_ 1 K rfl fun a K => ld_ K M 0 rfl rfl rfl rfl rfl rfl R.c0 rfl fun a K => run_ 2 K rfl fun a K => run_ 1 (fx_ K e3) rfl fun a K => ld_ K M 0 rfl rfl rfl rfl rfl rfl R.c0 rfl fun a K => run_ 3 K rfl fun a K => run_ 1 (fx_ K e8) rfl fun a K => ld_ K M 0 rfl rfl rfl rfl rfl rfl R.c1 rfl fun a K => run_ 3 K rfl fun a K => run_ 14 (fx_ K e13) rfl fun a K => nil_ ?_
    exact ct_ K rfl rfl (sr_ (run_ 1 K rfl fun a K => nil_ (ret_ rfl K rfl ⟨no (hno (by simp [headB]; omega)), M.bl⟩)))
  have e13 : decide (r.iv < 1) = false := decide_eq_false c3
  by_cases c4 : 1000 < r.iv
  case pos =>
    have e18 : decide (1000 < r.iv) = true := decide_eq_true c4
    refine run_ 1 K rfl fun a K => ld_ K M 0 rfl rfl rfl rfl rfl rfl R.c0 rfl fun a K => run_ 2 K rfl fun a K => run_ 1 (fx_ K e3) rfl fun a K => ld_ K M 0 rfl rfl rfl rfl rfl rfl R.c0 rfl fun a K => run_ 3 K rfl fun a K => run_ 1 (fx_ K e8) rfl fun a K => ld_ K M 0 rfl rfl rfl rfl rfl rfl R.c1 rfl fun a K => run_ 3 K rfl fun a K => run_ 1 (fx_ K e13) rfl fun a K => ld_ K M 0 rfl rfl rfl rfl rfl rfl R.c1 rfl fun a K => run_ 3 K rfl fun a K => run_ 9 (fx_ K e18) rfl fun a K => nil_ ?_
    exact ct_ K rfl rfl (sr_ (run_ 1 K rfl fun a K => nil_ (ret_ rfl K rfl ⟨no (hno (by simp [headB]; omega)), M.bl⟩)))
  have e18 : decide (1000 < r.iv) = false := decide_eq_false c4
  by_cases c5 : r.wk < 0
  case pos =>
    have e23 : decide (r.wk < 0) = true := decide_eq_true c5
    refine run_ 1 K rfl fun a K => ld_ K M 0 rfl rfl rfl rfl rfl rfl R.c0 rfl fun a K => run_ 2 K rfl fun a K => run_ 1 (fx_ K e3) rfl fun a K => ld_ K M 0 rfl rfl rfl rfl rfl rfl R.c0 rfl fun a K => run_ 3 K rfl fun a K => run_ 1 (fx_ K e8) rfl fun a K => ld_ K M 0 rfl rfl rfl rfl rfl rfl R.c1 rfl fun a K => run_ 3 K rfl fun a K => run_ 1 (fx_ K e13) rfl fun a K => ld_ K M 0 rfl rfl rfl rfl rfl rfl R.c1 rfl fun a K => run_ 3 K rfl fun a K => run_ 1 (fx_ K e18) rfl fun a K => ld_ K M 0 rfl rfl rfl rfl rfl rfl R.c15 rfl fun a K => run_ 3 K rfl fun a K => run_ 4 (fx_ K e23) rfl fun a K => nil_ ?_
    exact ct_ K rfl rfl (sr_ (run_ 1 K rfl fun a K => nil_ (ret_ rfl K rfl ⟨no (hno (by simp [headB]; omega)), M.bl⟩)))
  have e23 : decide (r.wk < 0) = false := decide_eq_false c5
  refine run_ 1 K rfl fun a K => ld_ K M 0 rfl rfl rfl rfl rfl rfl R.c0 rfl fun a K => run_ 2 K rfl fun a K => run_ 1 (fx_ K e3) rfl fun a K => ld_ K M 0 rfl rfl rfl rfl rfl rfl R.c0 rfl fun a K => run_ 3 K rfl fun a K => run_ 1 (fx_ K e8) rfl fun a K => ld_ K M 0 rfl rfl rfl rfl rfl rfl R.c1 rfl fun a K => run_ 3 K rfl fun a K => run_ 1 (fx_ K e13) rfl fun a K => ld_ K M 0 rfl rfl rfl rfl rfl rfl R.c1 rfl fun a K => run_ 3 K rfl fun a K => run_ 1 (fx_ K e18) rfl fun a K => ld_ K M 0 rfl rfl rfl rfl rfl rfl R.c15 rfl fun a K => run_ 3 K rfl fun a K => run_ 1 (fx_ K e23) rfl fun a K => ld_ K M 0 rfl rfl rfl rfl rfl rfl R.c15 rfl fun a K => run_ 2 K rfl fun a K => nil_ ?_
  by_cases c6 : 6 < r.wk
  case pos => exact ct_ K rfl (decide_eq_true c6) (sr_ (run_ 1 K rfl fun a K => nil_ (ret_ rfl K rfl ⟨no (hno (by simp [headB]; omega)), M.bl⟩)))
  have hh : headB r = true := by simp [headB]; omega
  have hchk : chkB r = (endsB r && (listsB r && (daysB r && besB r))) := by unfold chkB; rw [hh, Bool.true_and]
  clear e3 e8 e13 e18 e23 c1 c2 c3 c4 c5 hno hh
  refine cs_ K rfl (decide_eq_false c6) (sr_ (run_ 1 K rfl fun a K => nil_ (wp_seq (sr_ (lda_ K M 0 rfl rfl rfl rfl rfl rfl rfl R.sz fun a K => cl_ K Tryz.func67 (by kernel_rfl) rfl rfl rfl rfl rfl rfl ((ends2_on (R.below M.bl) u1 u2).mono ?_))))))
  rintro _ w1 ⟨rfl, b1⟩
  replace M := M.call b1
  cases he : endsB r with
  | false =>
    rw [he, Bool.false_and] at hchk
    exact ⟨_, rfl, fun a K => run_ 18 K rfl fun a K => nil_ (ct_ K rfl rfl (sr_ (run_ 1 K rfl fun a K => nil_ (ret_ rfl K rfl ⟨no hchk, M.bl⟩))))⟩
  | true =>
  rw [he, Bool.true_and] at hchk
  refine ⟨_, rfl, fun a K => run_ 2 K rfl fun a K => cl_ K Tryz.func69 (by kernel_rfl) rfl rfl rfl rfl rfl rfl ((before_calls g0 w1).mono ?_)⟩
  rintro _ w2 ⟨rfl, b2, k2⟩
  have hne : some g0 ≠ some w1.heap.size := fun q => by
    have h1 := blk_lt (M.me 0 _ _ rfl)
    have h2 := Option.some.inj q
    omega
  have hg1 : w.heap.size ≤ w1.heap.size := M.bl.size
  replace M := M.call b2
  refine ⟨_, rfl, fun a K => cl_ K Tryz.func70 (by kernel_rfl) rfl rfl rfl rfl rfl rfl ((behind_calls g0 w2).mono ?_)⟩
  rintro _ w3 ⟨rfl, b3, k3⟩
  replace k2 := (b3.block _ (blk_lt k2)).trans k2
  replace M := M.call b3
  refine ⟨_, rfl, fun a K => ung2_ K rfl ?_⟩
  have I71 := inf71
  have hl1 : w1.heap.size ≤ w3.heap.size := Nat.le_of_lt (blk_lt k2)
  refine wpList_append_own_at _ rfl (.tmp 36) (.tmp 37) 98 rfl w1.heap.size 95 I71.choose _ 5 48 Tryz.underlying98 I71.choose_spec.1 I71.choose_spec.2.1 I71.choose_spec.2.2.1 I71.choose_spec.2.2.2 rfl (by decide) _ 4 (bef g0) (K.of (x := .tmp 36) rfl) (own_bef k2) ⟨w2.heap.size, 0, none⟩ 4 4 (beh g0) (K.of (x := .tmp 37) rfl) rfl (fun j u hu => news_ k3 j u hu) (one_beh _) (by unfold maxLen; omega) (by omega) hl1 ?_
  intro v4 w4 hown4 hgrow4 hnil4 hat4
  have hg4 : w3.grownBy w4 (some w1.heap.size) := hgrow4
  obtain ⟨g4, cap4, rfl, hcell4⟩ := row8 hown4
  have b4 : Below w.heap.size w w4 := pw_below_grown M.bl (some w1.heap.size) M.bl.size hg4 (fun q hq => by injection hq with hq; rw [← hq]; exact hg1)
  have hk4 := blk_grown (M.me 0 _ _ rfl) hg4 hne
  replace M : On [(g0, .cells cs 25 (0, 0))] w w4 := on_of b4 (fun p hp => by obtain rfl := List.mem_singleton.1 hp; exact hk4) (List.nodup_cons.2 ⟨List.not_mem_nil, List.nodup_nil⟩)
  clear hown4 hgrow4 hnil4 hat4 hg4 hne k2 k3
  replace K := K.put (d := 38) (.slice (some ⟨g4, 0, none⟩) 8 cap4) rfl
  refine run_ 1 K rfl fun a K => cl_ K Tryz.func68 (by kernel_rfl) rfl rfl rfl rfl rfl rfl ((lists_on h (R.below M.bl) hk4 hcell4).mono ?_)
  rintro _ w5 ⟨rfl, b5⟩
  replace M := M.call b5
  cases hL : listsB r with
  | false =>
    rw [hL, Bool.false_and] at hchk
    exact ⟨_, rfl, fun a K => run_ 11 K rfl fun a K => nil_ (ct_ K rfl rfl (sr_ (run_ 1 K rfl fun a K => nil_ (ret_ rfl K rfl ⟨no hchk, M.bl⟩))))⟩
  | true =>
  rw [hL, Bool.true_and] at hchk
  refine ⟨_, rfl, fun a K => run_ 2 K rfl fun a K => lda_ K M 0 rfl rfl rfl rfl rfl rfl rfl R.sz fun a K => cl_ K Tryz.func71 (by kernel_rfl) rfl rfl rfl rfl rfl rfl ((days2_on (R.below M.bl) h.dy).mono ?_)⟩
  rintro _ w6 ⟨rfl, b6⟩
  replace M := M.call b6
  cases hD : daysB r with
  | false =>
    rw [hD, Bool.false_and] at hchk
    exact ⟨_, rfl, fun a K => run_ 7 K rfl fun a K => nil_ (ct_ K rfl rfl (sr_ (run_ 1 K rfl fun a K => nil_ (ret_ rfl K rfl ⟨no hchk, M.bl⟩))))⟩
  | true =>
  rw [hD, Bool.true_and] at hchk
  refine ⟨_, rfl, fun a K => run_ 3 K rfl fun a K => lda_ K M 0 rfl rfl rfl rfl rfl rfl rfl R.sz fun a K => cl_ K Tryz.func72 (by kernel_rfl) rfl rfl rfl rfl rfl rfl ((beside2_on (R.below M.bl) h).mono ?_)⟩
  rintro _ w7 ⟨rfl, b7⟩
  replace M := M.call b7
  cases hB : besB r with
  | false =>
    rw [hB] at hchk
    exact ⟨_, rfl, fun a K => run_ 2 K rfl fun a K => nil_ (ct_ K rfl rfl (sr_ (run_ 1 K rfl fun a K => nil_ (ret_ rfl K rfl ⟨no hchk, M.bl⟩))))⟩
  | true =>
  rw [hB] at hchk
  exact ⟨_, rfl, fun a K => run_ 2 K rfl fun a K => nil_ (cs_ K rfl rfl (sr_ (run_ 1 K rfl fun a K => nil_ (ret_ rfl K rfl ⟨by rw [hchk]; rfl, M.bl⟩))))⟩
/-- A rule is right just if Check says so. -/
theorem chk_iff {r : RR} (h : Lens9 r) : chkB r = true ↔ Right r := by
  have hl : ∀ {l : List Int} {a b : Int} {n : Bool}, l.length ≤ 1000000000 → okList l a b n = rightB l a b n := fun {l a b n} q => by unfold okList; rw [decide_eq_true q, Bool.and_true]
  have e : okRecur r.fr r.iv r.ct r.un r.ua r.utc r.sec r.mi r.ho r.dy r.md r.yd r.wn r.mo r.sp r.wk = (headB r && (listsB r && (daysB r && besB r))) := by
    unfold okRecur headB listsB daysB besB
    rw [hl h.sec, hl h.mi, hl h.ho, hl h.md, hl h.yd, hl h.wn, hl h.mo, hl h.sp, decide_eq_true h.dy, Bool.and_true]
    generalize decide (1 ≤ r.fr) = b1
    generalize decide (r.fr ≤ 7) = b2
    generalize decide (1 ≤ r.iv) = b3
    generalize decide (r.iv ≤ 1000) = b4
    generalize decide (0 ≤ r.wk) = b5
    generalize decide (r.wk ≤ 6) = b6
    ac_rfl
  have en : endsB r = true ↔ 0 ≤ r.ct ∧ r.ct ≤ 100000 ∧ ((r.un = false ∧ r.ua = 0 ∧ r.utc = false) ∨ (r.un = true ∧ r.ct = 0 ∧ InT r.ua)) := by
    unfold endsB
    cases r.un <;> cases r.utc <;> simp [and_assoc]
  unfold chkB
  constructor
  · intro q
    simp only [Bool.and_eq_true] at q
    obtain ⟨q1, q2, q3, q4, q5⟩ := q
    have q2 := en.1 q2
    exact ⟨by rw [e, q1, q3, q4, q5]; rfl, q2.1, q2.2.1, q2.2.2⟩
  · intro q
    have q1 := q.ok
    rw [e] at q1
    simp only [Bool.and_eq_true] at q1 ⊢
    exact ⟨q1.1, en.2 ⟨q.ct0, q.ct1, q.en⟩, q1.2.1, q1.2.2.1, q1.2.2.2⟩
theorem check_yes {w : World} {cs : Array Value} {r : RR} (R : Rul w cs r) (h : Lens9 r) (u1 : -9223372036854775808 ≤ r.ua) (u2 : r.ua < 9223372036854775808) (q : Right r) : Calls Tryz.prog 40 #[.agg cs] w (Rets w (.int .i64 0)) := by
  have := Check2_on R h u1 u2
  rwa [(chk_iff h).2 q] at this
theorem check_not {w : World} {cs : Array Value} {r : RR} (R : Rul w cs r) (h : Lens9 r) (u1 : -9223372036854775808 ≤ r.ua) (u2 : r.ua < 9223372036854775808) (q : ¬ Right r) : Calls Tryz.prog 40 #[.agg cs] w (Rets w (.int .i64 21)) := by
  have := Check2_on R h u1 u2
  rwa [if_neg (fun e => q ((chk_iff h).1 e))] at this
end Go.Proofs.YtjjaiahfkiojlaaGreat.Pure

namespace Go.Proofs.YtjjaiahfkiojlaaGreat.O
open Go.RowKit Go.Proofs.YtjjaiahfkiojlaaGreatW.PrintWords Go.Proofs.YtjjaiahfkiojlaaGreatW.PrintLast Go.Proofs.YtjjaiahfkiojlaaGreatW.PrintMore
attribute [local go_sem] max2_int min2_int max_two min_two max_three min_three max_four min_four   -- for this text's walks alone
set_option linter.unusedVariables false
set_option linter.unusedSimpArgs false

/-! ### solsticeref01_Number: function 32 -/
def solsticeref01_Number.l0 : Nat → Int → Int → Int → Int → Int → Int → Option (Int)
  | 0, _, _, _, _, _, _ => none
  | k + 1, x3, x4, x5, x111000, x111001, x111002 => if x5 < x111001 then ((solsticeref01_Len.f k x3 x5).bind fun t111 => (solsticeref01_Number.l0 k x3 (wrap64 (x4 + t111)) (wrap64 (x5 + 1)) x111000 x111001 x111002)) else (some (wrap64 ((wrap64 ((wrap64 (x4 + x111002)) - 1)) - 719528)))
def solsticeref01_Number.f (k : Nat) (a0_0 : Int) (a0_1 : Int) (a0_2 : Int) : Option (Int) := solsticeref01_Number.l0 k a0_0 (wrap64 ((wrap64 ((wrap64 ((wrap64 (365 * a0_0)) + (wrap64 (Int.tdiv (wrap64 (a0_0 + 3)) 4)))) - (wrap64 (Int.tdiv (wrap64 (a0_0 + 99)) 100)))) + (wrap64 (Int.tdiv (wrap64 (a0_0 + 399)) 400)))) 1 a0_0 a0_1 a0_2
set_option maxHeartbeats 8000000 in
set_option maxRecDepth 100000 in
theorem solsticeref01_Number.calls (k : Nat) (a0_0 : Int) (a0_1 : Int) (a0_2 : Int) (r : Int) (w : World) (h : solsticeref01_Number.f k a0_0 a0_1 a0_2 = some r) :
    Calls Tryz.prog 32 #[.agg #[.int .i64 a0_0, .int .i64 a0_1, .int .i64 a0_2]] w fun e w' => e = .returned (.int .i64 r) ∧ Below w.heap.size w w' := by
  have hu30 := Tryz.underlying30
  have HB := Aside0.mk (Below.refl w.heap.size w)
  have H : (solsticeref01_Number.l0 k a0_0 (wrap64 ((wrap64 ((wrap64 ((wrap64 (365 * a0_0)) + (wrap64 (Int.tdiv (wrap64 (a0_0 + 3)) 4)))) - (wrap64 (Int.tdiv (wrap64 (a0_0 + 99)) 100)))) + (wrap64 (Int.tdiv (wrap64 (a0_0 + 399)) 400)))) 1 a0_0 a0_1 a0_2) = some r := h
  clear h
  have H' := Aside0.mk H
  clear H
  go_enter Tryz.func32, Tryz.ntmps32
  go_wp2_with (first | ((with_reducible refine gate_dst (N := 1) rfl ?_); refine box_event ?hg (N := 1) ?hd (cs := #[.int .i64 a0_0, .int .i64 a0_1, .int .i64 a0_2]) (t := 30) ?hr ?_; (case hd => rfl); (case hg => rfl); (case hr => first | (go_simp; done) | (go_simp; rfl)); intro gb110 hg w2 hbox hb; have n0_ := Aside0.mk (below_step (by repeat (first | (with_reducible first | exact HB.out | apply below_alloc | apply pw_below_drewN | apply below_drew1) | exact HB.out)) hb); have n1_ := Aside0.mk (hbox); have n2_ := Aside0.mk ((by rw [hg]; exact (below_size (by repeat (first | (with_reducible first | exact HB.out | apply below_alloc | apply pw_below_drewN | apply below_drew1) | exact HB.out))) : w.heap.size ≤ gb110)); have n3_ := Aside0.mk ((by rw [hg]; exact (below_size (by repeat (first | (with_reducible first | exact HB.out | apply below_alloc | apply pw_below_drewN | apply below_drew1) | exact HB.out))) : w.heap.size ≤ gb110)); clear HB; have HB := n0_; have BK110 := n1_; have GW110 := n2_; have GE110 := n3_; clear n0_ n1_ n2_ n3_; clear hb hbox hg; have hcz3_0 : w2.cell? ⟨gb110, 0, none⟩ = some (.int .i64 a0_0) := (blk_cell BK110.out 0).trans rfl; have hcz3_1 : w2.cell? ⟨gb110, 1, none⟩ = some (.int .i64 a0_1) := (blk_cell BK110.out 1).trans rfl; have hcz3_2 : w2.cell? ⟨gb110, 2, none⟩ = some (.int .i64 a0_2) := (blk_cell BK110.out 2).trans rfl; have hfz3_0 := blk_frozen BK110.out 0; have hfz3_1 := blk_frozen BK110.out 1; have hfz3_2 := blk_frozen BK110.out 2))
  go_loopg [4, 5] k (fun kq v4 v5 w' => ∃ (x4_1 : Int) (x5_1 : Int), v4 = .int .i64 x4_1 ∧ v5 = .int .i64 x5_1 ∧ Aside0 (solsticeref01_Number.l0 kq a0_0 x4_1 x5_1 a0_0 a0_1 a0_2 = some r) ∧ Aside0 (kq ≤ k) ∧ Aside0 (w'.heap[gb110]? = some (.cells #[.int .i64 a0_0, .int .i64 a0_1, .int .i64 a0_2] 30 (0, 0))) ∧ Aside0 (Below w.heap.size w w'))
  case atStart => exact ⟨(wrap64 ((wrap64 ((wrap64 ((wrap64 (365 * a0_0)) + (wrap64 (Int.tdiv (wrap64 (a0_0 + 3)) 4)))) - (wrap64 (Int.tdiv (wrap64 (a0_0 + 99)) 100)))) + (wrap64 (Int.tdiv (wrap64 (a0_0 + 399)) 400)))), (1), (by first | rfl | (simp; done) | (simp [*]; done)), (by first | rfl | (simp; done) | (simp [*]; done)), H', ⟨Nat.le_refl _⟩, ⟨by (with_reducible repeat (first | refine blk_drewN ?_ _ | refine blk_drew ?_ | refine blk_alloc ?_ _)); exact BK110.out⟩, ⟨by repeat (first | (with_reducible first | exact HB.out | apply below_alloc | apply pw_below_drewN | apply below_drew1 | refine below_set ?_ GE110.out) | exact HB.out)⟩⟩
  case round =>
    clear H'
    try clear p2
    try clear c3
    try clear hcz3_0
    try clear hcz3_1
    try clear hcz3_2
    try clear hfz3_0
    try clear hfz3_1
    try clear hfz3_2
    obtain ⟨x4_1, x5_1, rfl, rfl, HA, HK1, BK110, HB⟩ := hrel
    cases gk with
    | zero => exact absurd HA.out (by simp [solsticeref01_Number.l0])
    | succ k1 =>
      have H := HA.out
      clear HA
      simp only [solsticeref01_Number.l0] at H
      by_cases c4 : x5_1 < a0_1
      · rw [if_pos c4] at H
        have c4b0 : decide (x5_1 < a0_1) = true := decide_eq_true c4
        clear c4
        replace H := Option.bind_eq_some_iff.mp H
        obtain ⟨t111, A50, H⟩ := H
        replace H : (solsticeref01_Number.l0 k1 a0_0 (wrap64 (x4_1 + t111)) (wrap64 (x5_1 + 1)) a0_0 a0_1 a0_2) = some r := H
        have A5 := Aside0.mk A50
        clear A50
        have H' := Aside0.mk H
        clear H
        have hcz6_0 : wr.cell? ⟨gb110, 0, none⟩ = some (.int .i64 a0_0) := (blk_cell BK110.out 0).trans rfl
        have hcz6_1 : wr.cell? ⟨gb110, 1, none⟩ = some (.int .i64 a0_1) := (blk_cell BK110.out 1).trans rfl
        have hcz6_2 : wr.cell? ⟨gb110, 2, none⟩ = some (.int .i64 a0_2) := (blk_cell BK110.out 2).trans rfl
        have hfz6_0 := blk_frozen BK110.out 0
        have hfz6_1 := blk_frozen BK110.out 1
        have hfz6_2 := blk_frozen BK110.out 2
        go_wp2_with (first | ((with_reducible refine gate_callee (f := 31) rfl ?_); refine goesL_ (some 31) rfl rfl Tryz.func31 (by kernel_rfl) rfl #[.int .i64 a0_0, .int .i64 x5_1] rfl (by (try simp only [List.map_toArray, List.map_cons, List.map_nil]); first | done | rfl | (simp only [List.length_drop, List.length_take]; rfl)) ?_; (with_reducible refine (solsticeref01_Len.calls k1 a0_0 x5_1 t111 _ A5.out).mono ?_); rintro e w' ⟨rfl, ⟨nd, rfl⟩⟩; refine ⟨_, rfl, ?_⟩))
        go_roundg k1
        case measure => have := HK1.out; omega
        case rel => exact ⟨(wrap64 (x4_1 + t111)), (wrap64 (x5_1 + 1)), (by first | rfl | (simp; done) | (simp [*]; done)), (by first | rfl | (simp; done) | (simp [*]; done)), H', ⟨by have := HK1.out; omega⟩, ⟨by (with_reducible repeat (first | refine blk_drewN ?_ _ | refine blk_drew ?_ | refine blk_alloc ?_ _)); exact BK110.out⟩, ⟨by repeat (first | (with_reducible first | exact HB.out | apply below_alloc | apply pw_below_drewN | apply below_drew1 | refine below_set ?_ GE110.out) | exact HB.out)⟩⟩
      · rw [if_neg c4] at H
        have c4b0 : decide (x5_1 < a0_1) = false := decide_eq_false c4
        clear c4
        obtain rfl := Option.some.inj H
        have hcz7_0 : wr.cell? ⟨gb110, 0, none⟩ = some (.int .i64 a0_0) := (blk_cell BK110.out 0).trans rfl
        have hcz7_1 : wr.cell? ⟨gb110, 1, none⟩ = some (.int .i64 a0_1) := (blk_cell BK110.out 1).trans rfl
        have hcz7_2 : wr.cell? ⟨gb110, 2, none⟩ = some (.int .i64 a0_2) := (blk_cell BK110.out 2).trans rfl
        have hfz7_0 := blk_frozen BK110.out 0
        have hfz7_1 := blk_frozen BK110.out 1
        have hfz7_2 := blk_frozen BK110.out 2
        go_wp2
        go_ret
        exact ⟨by first | rfl | (simp [errW_none, errW_some] <;> rfl) | (simp [*, errW_none, errW_some] <;> rfl), by repeat (first | (with_reducible first | exact HB.out | apply below_alloc | apply pw_below_drewN | apply below_drew1 | refine below_set ?_ GE110.out) | exact HB.out)⟩

end Go.Proofs.YtjjaiahfkiojlaaGreat.O

namespace Go.Proofs.YtjjaiahfkiojlaaGreat.O
open Go.RowKit Go.Proofs.YtjjaiahfkiojlaaGreatW.PrintWords Go.Proofs.YtjjaiahfkiojlaaGreatW.PrintLast Go.Proofs.YtjjaiahfkiojlaaGreatW.PrintMore
attribute [local go_sem] max2_int min2_int max_two min_two max_three min_three max_four min_four   -- for this text's walks alone
set_option linter.unusedVariables false
set_option linter.unusedSimpArgs false

end Go.Proofs.YtjjaiahfkiojlaaGreat.O

namespace Go.Proofs.YtjjaiahfkiojlaaGreat.Pure
open Go.RowKit Go.Proofs.YtjjaiahfkiojlaaGreat.O Go.Proofs.YtjjaiahfkiojlaaGreatW.PrintWords Go.Proofs.YtjjaiahfkiojlaaGreatW.PrintLast
open Go.Proofs.YtjjaiahfkiojlaaGreat.Civ
set_option linter.unusedVariables false
set_option linter.unusedSimpArgs false
theorem rnum_l (y m d b : Int) (hy : 0 ≤ y) (hy' : y ≤ 20000) (hb : -1000000000 ≤ b) (hb' : b ≤ 1000000000) (hm : m ≤ 13) (hd : 0 ≤ d) (hd' : d ≤ 1000000) : ∀ (n : Nat) (j : Int), 1 ≤ j → j + n = m → Ev (fun k => solsticeref01_Number.l0 k y (b + cum y j) j y m d) (b + cum y m + d - 1 - 719528) := by
  intro n
  induction n with
  | zero =>
    intro j h1 h2
    obtain rfl : j = m := by omega
    have hc := cum_bd y j h1 (by omega)
    have hp := lpi_01 y
    refine evstep ?_
    simp only [solsticeref01_Number.l0, Int.lt_irrefl, if_false]
    refine evs ?_
    rw [w64 (x := b + cum y j + d) (by omega) (by omega), w64 (x := b + cum y j + d - 1) (by omega) (by omega), w64 (by omega) (by omega)]
  | succ n ih =>
    intro j h1 h2
    refine evstep ?_
    simp only [solsticeref01_Number.l0, if_pos (show j < m by omega)]
    refine evb (rlen j (by omega) (by omega)) ?_
    have hc := cum_bd y j h1 (by omega)
    have hl := ln_bd y j h1 (by omega)
    have hp := lpi_01 y
    rw [w64 (x := b + cum y j + ln y j) (by omega) (by omega), w64 (x := j + 1) (by omega) (by omega), show b + cum y j + ln y j = b + cum y (j + 1) by rw [cum_succ y j h1 (by omega)]; omega]
    exact ih (j + 1) (by omega) (by omega)
theorem rnum' {y m d : Int} (hy : 0 ≤ y) (hy' : y ≤ 20000) (hm : 1 ≤ m) (hm' : m ≤ 13) (hd : 0 ≤ d) (hd' : d ≤ 1000000) : Ev (fun k => solsticeref01_Number.f k y m d) (num y m d) := by
  have ha : 365 * y + (y + 3) / 4 - (y + 99) / 100 + (y + 399) / 400 = ah y := by unfold ah; omega
  unfold solsticeref01_Number.f
  rw [w64 (x := y + 3) (by omega) (by omega), w64 (x := y + 99) (by omega) (by omega), w64 (x := y + 399) (by omega) (by omega), tdiv_nn 4 (by omega), tdiv_nn 100 (by omega), tdiv_nn 400 (by omega)]
  rw [w64 (x := 365 * y) (by omega) (by omega), w64 (x := (y + 3) / 4) (by omega) (by omega), w64 (x := (y + 99) / 100) (by omega) (by omega), w64 (x := (y + 399) / 400) (by omega) (by omega)]
  rw [w64 (x := 365 * y + (y + 3) / 4) (by omega) (by omega), w64 (x := 365 * y + (y + 3) / 4 - (y + 99) / 100) (by omega) (by omega), w64 (x := 365 * y + (y + 3) / 4 - (y + 99) / 100 + (y + 399) / 400) (by omega) (by omega), ha]
  have h1 := ah_le hy
  rw [ah_0] at h1
  have := rnum_l y m d (ah y) hy hy' (by omega) (by omega) hm' hd hd' (m - 1).toNat 1 (by omega) (by omega)
  rw [cum_1, Int.add_zero] at this
  rwa [show num y m d = ah y + cum y m + d - 1 - 719528 by unfold num; omega]
theorem rnum {y m d : Int} (h : Rt y m d) : Ev (fun k => solsticeref01_Number.f k y m d) (num y m d) := by
  obtain ⟨h1, h2, h3, h4, h5, h6⟩ := h
  have := ln_bd y m h3 h4
  exact rnum' h1 (by omega) h3 (by omega) (by omega) (by omega)
end Go.Proofs.YtjjaiahfkiojlaaGreat.Pure

namespace Go.Proofs.YtjjaiahfkiojlaaGreat.O
open Go.RowKit Go.Proofs.YtjjaiahfkiojlaaGreatW.PrintWords Go.Proofs.YtjjaiahfkiojlaaGreatW.PrintLast Go.Proofs.YtjjaiahfkiojlaaGreatW.PrintMore
attribute [local go_sem] max2_int min2_int max_two min_two max_three min_three max_four min_four   -- for this text's walks alone
set_option linter.unusedVariables false
set_option linter.unusedSimpArgs false

/-! ### solsticeref01_Most: function 38 -/
def solsticeref01_Most.f (k : Nat)  : Option (Int) := (solsticeref01_Number.f k 10000 12 31).bind fun t113 => (some t113)
set_option maxHeartbeats 8000000 in
set_option maxRecDepth 100000 in
theorem solsticeref01_Most.calls (k : Nat)  (r : Int) (w : World) (h : solsticeref01_Most.f k  = some r) :
    Calls Tryz.prog 38 #[] w fun e w' => e = .returned (.int .i64 r) ∧ Below w.heap.size w w' := by
  have hu30 := Tryz.underlying30
  have HB := Aside0.mk (Below.refl w.heap.size w)
  have H : ((solsticeref01_Number.f k 10000 12 31).bind fun t113 => (some t113)) = some r := h
  clear h
  replace H := Option.bind_eq_some_iff.mp H
  obtain ⟨t113, A10, H⟩ := H
  replace H : (some t113) = some r := H
  have A1 := Aside0.mk A10
  clear A10
  obtain rfl := Option.some.inj H
  go_enter Tryz.func38, Tryz.ntmps38
  go_wp2_with (first | ((with_reducible refine gate_callee (f := 32) rfl ?_); refine goesL_ (some 2) rfl rfl Tryz.func32 (by kernel_rfl) rfl #[.agg #[.int .i64 10000, .int .i64 12, .int .i64 31]] rfl (by (try simp only [List.map_toArray, List.map_cons, List.map_nil]); first | done | rfl | (simp only [List.length_drop, List.length_take]; rfl)) ?_; (with_reducible refine (solsticeref01_Number.calls k 10000 12 31 t113 _ A1.out).mono ?_); rintro e w2 ⟨rfl, hb⟩; refine ⟨_, rfl, ?_⟩; have n0_ := Aside0.mk (below_step (by repeat (first | (with_reducible first | exact HB.out | apply below_alloc | apply pw_below_drewN | apply below_drew1) | exact HB.out)) hb); clear HB; have HB := n0_; clear n0_; (try clear hb); (try clear hb2); (try clear hk); (try clear hi)))
  go_ret
  exact ⟨by first | rfl | (simp [errW_none, errW_some] <;> rfl) | (simp [*, errW_none, errW_some] <;> rfl), by repeat (first | (with_reducible first | exact HB.out | apply below_alloc | apply pw_below_drewN | apply below_drew1) | exact HB.out)⟩

end Go.Proofs.YtjjaiahfkiojlaaGreat.O
