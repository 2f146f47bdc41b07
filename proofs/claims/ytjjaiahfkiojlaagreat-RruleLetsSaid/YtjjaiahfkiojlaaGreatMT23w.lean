/- The last of a rule's times, as a contract. No condition beyond those each lemma names. -/
/- What rules without lists tell, in plain numbers. No condition beyond those each lemma names. -/
import Derived.Test.YtjjaiahfkiojlaaGreatMT23n
import Derived.Test.YtjjaiahfkiojlaaGreatMT23j
import Derived.Test.YtjjaiahfkiojlaaGreatMT23g
import Derived.Test.YtjjaiahfkiojlaaGreatMOx150
namespace Go.Proofs.YtjjaiahfkiojlaaGreat.Pure
open Go.RowKit Go.Proofs.YtjjaiahfkiojlaaGreat.O Go.Proofs.YtjjaiahfkiojlaaGreatW.PrintWords Go.Proofs.YtjjaiahfkiojlaaGreatW.PrintLast
open Go.Proofs.YtjjaiahfkiojlaaGreat.Civ
set_option linter.unusedVariables false
set_option linter.unusedSimpArgs false
set_option maxRecDepth 100000
set_option maxHeartbeats 4000000
theorem results_tmp4 {fn : Func} {t u x y : Tmp} (h : fn.results = #[.tmp t, .tmp u, .tmp x, .tmp y]) (tmps : Array Value) (P : Program) (w : World) :
    (results fn tmps).run P w = .ok (.tuple #[tmps.getD t undef, tmps.getD u undef, tmps.getD x undef, tmps.getD y undef]) w := by
  simp [results, h]
theorem ret4_ {N : Nat} {E : Env} {a : Act} {Q : Exit → Act → World → Prop} {w : World} {fn : Func} {R : Ending → World → Prop} [hQ : RetTo Q fn R] {r s t q : Nat} {v u x y : Value} (hr : fn.results = #[.tmp r, .tmp s, .tmp t, .tmp q]) (K : Kn N E a) (h : O.look E r = some v) (h2 : O.look E s = some u) (h3 : O.look E t = some x) (h4 : O.look E q = some y) (k : R (.returned (.tuple #[v, u, x, y])) w) : Code.ret.wp Tryz.prog Q a w :=
  wp_ret (hQ.go _ _ (bodyPost_ret (results_tmp4 hr _ _ _) K.df (by rw [val_eq K h, val_eq K h2, val_eq K h3, val_eq K h4]; exact k)))
theorem last_ix {n : Nat} (h : 0 < n) (hn : n ≤ 17000000000000) : wrap64 ((n : Int) - 1) = ((n - 1 : Nat) : Int) := by rw [w64 (by omega) (by omega)]; omega
theorem len0_ {n : Nat} : decide ((n : Int) = 0) = decide (n = 0) := decide_eq_decide.2 (by omega)
theorem times_len {r : RR} {st from_ to_ F : Int} : (timesV r st from_ to_ F).1.length ≤ 200001 := by
  unfold timesV
  split
  · rename_i hm
    have key : ∀ (k : Nat) (p : Int) (S S' : St), Tame F S → worksV r st from_ to_ F k p S = some S' → Tame F S' := fun k => by
      induction k with
      | zero => intro p S S' _ e; cases e
      | succ k ih =>
        intro p S S' hS e
        unfold worksV at e
        split at e
        · obtain rfl := Option.some.inj e; exact hS
        · split at e
          · cases e
          · rename_i S2 hs
            exact ih _ _ _ (step_tame hS hs).1 e
    unfold mayT at hm
    have t0 := tame_0 (from_ := from_) (to_ := to_) (st := st) hm.2.2.2.2.2.1
    cases hg : goneV r st from_ to_ F with
    | none => exact Nat.zero_le _
    | some S =>
      have : Tame F S := by
        unfold goneV at hg
        split at hg
        · exact key _ _ _ _ t0 hg
        · obtain rfl := Option.some.inj hg; exact t0
      obtain ⟨q1, q2, q3, q4, q5⟩ := this
      dsimp only
      omega
  · exact Nat.zero_le _
theorem Last_on {w : World} {cs : Array Value} {r : RR} {st to_ back F : Int} (R : Rul w cs r) (h : Right r) (hw : Few r) (hst : InT st) :
    Calls Tryz.prog 22 #[.agg cs, .int .i64 st, .int .i64 to_, .int .i64 back, .int .i64 F] w (Rets w (.tuple #[.int .i64 (lastV r st to_ back F).1, .bool (lastV r st to_ back F).2.1, .int .i64 (lastV r st to_ back F).2.2.1, .int .i64 (lastV r st to_ back F).2.2.2])) := by
  refine en_ Tryz.func22 rfl rfl rfl fun a K => sr_ (bxG_ K (On.nil w) rfl rfl rfl rfl rfl rfl fun a g0 W G0 M K => run_ 4 K rfl fun a K => nil_ (wp_seq (sr_ (run_ 1 K rfl fun a K => cl_ K Tryz.func47 (by kernel_rfl) rfl rfl rfl rfl rfl rfl ((in_on to_).mono ?_)))))
  rintro _ w2 ⟨rfl, b2⟩
  replace M := M.call b2
  refine ⟨_, rfl, fun a K => run_ 2 K rfl fun a K => ?_⟩
  have bd := ask_bd to_ back
  unfold lastV
  have ebad : ¬ ((-4611686018427387904 ≤ to_ ∧ to_ ≤ 4611686018427387904) ∧ 0 ≤ back ∧ back ≤ 4611686018427387904) → (askV to_ back).1 = 0 ∧ (askV to_ back).2 = -1 := fun q => by unfold askV; rw [if_neg q]; exact ⟨rfl, rfl⟩
  have eok : ((-4611686018427387904 ≤ to_ ∧ to_ ≤ 4611686018427387904) ∧ 0 ≤ back ∧ back ≤ 4611686018427387904) → (askV to_ back).1 = to_ ∧ (askV to_ back).2 = back := fun q => by unfold askV; rw [if_pos q]; exact ⟨rfl, rfl⟩
  generalize (askV to_ back).1 = t1 at bd ebad eok ⊢
  generalize (askV to_ back).2 = t2 at bd ebad eok ⊢
  have ew := w64 bd.1 bd.2
  clear bd
  by_cases c1 : -4611686018427387904 ≤ to_ ∧ to_ ≤ 4611686018427387904
  case' neg =>
    refine run_ 7 (fx_ K (notin_ c1)) rfl fun a K => nil_ (ct_ K rfl rfl (rg_ (run_ 2 K rfl fun a K => nl_ ?_)))
    obtain ⟨e1, e2⟩ := ebad (fun q => c1 q.1)
  case' pos =>
    refine run_ 4 (fx_ K (isin_ c1)) rfl fun a K => ?_
    by_cases c2 : back < 0
    case' pos =>
      refine run_ 3 (fx_ K (decide_eq_true c2)) rfl fun a K => nil_ (ct_ K rfl rfl (rg_ (run_ 2 K rfl fun a K => nl_ ?_)))
      obtain ⟨e1, e2⟩ := ebad (fun q => absurd q.2.1 (Int.not_le.2 c2))
    case' neg =>
      refine run_ 3 (fx_ K (decide_eq_false c2)) rfl fun a K => nil_ ?_
      by_cases c3 : 4611686018427387904 < back
      case' pos =>
        refine ct_ K rfl (decide_eq_true c3) (rg_ (run_ 2 K rfl fun a K => nl_ ?_))
        obtain ⟨e1, e2⟩ := ebad (fun q => absurd q.2.2 (Int.not_le.2 c3))
      case' neg =>
        refine cf_ K rfl (decide_eq_false c3) (wp_skip ?_)
        obtain ⟨e1, e2⟩ := eok ⟨c1, Int.not_lt.1 c2, Int.not_lt.1 c3⟩
  all_goals
    replace K := fg_ (E' := [(2, .int .i64 t1), (3, .int .i64 t2), (1, .int .i64 st), (4, .int .i64 F), (5, .pointer (some ⟨g0, 0, none⟩))]) (ks_ (i := 2) (u := .int .i64 t1) (ks_ (i := 3) (u := .int .i64 t2) K rfl (congrArg (Value.int .i64) e2.symm)) rfl (congrArg (Value.int .i64) e1.symm)) ⟨rfl, rfl, rfl, rfl, rfl, trivial⟩
    clear ebad eok e1 e2
    have Tm : ∀ V, Rul V cs r → Calls Tryz.prog 18 #[.agg cs, .int .i64 st, .int .i64 (wrap64 (t1 - t2)), .int .i64 t1, .int .i64 F] V fun e W' => ∃ v', e = .returned (.tuple #[v', .int .i64 (timesV r st (t1 - t2) t1 F).2.1, .int .i64 (timesV r st (t1 - t2) t1 F).2.2]) ∧ Kd.R (Kd.int .i64) 3 W' V.heap.size (fun _ => True) v' (timesV r st (t1 - t2) t1 F).1 ∧ Below V.heap.size V W' := fun V hV => by rw [ew]; exact Times_on hV h hw hst
    refine sr_ (lda_ K M 0 rfl rfl rfl rfl rfl rfl rfl R.sz fun a K => run_ 6 K rfl fun a K => cl_ K Tryz.func18 (by kernel_rfl) rfl rfl rfl rfl rfl rfl ((Tm _ (R.below M.bl)).mono ?_))
    rintro _ w3 ⟨v', rfl, Rv, b3⟩
    replace M := M.call b3
    have hl := times_len (r := r) (st := st) (from_ := t1 - t2) (to_ := t1) (F := F)
    generalize (timesV r st (t1 - t2) t1 F).1 = X at Rv hl ⊢
    generalize (timesV r st (t1 - t2) t1 F).2.1 = C
    generalize (timesV r st (t1 - t2) t1 F).2.2 = Z
    clear Tm ew
    obtain ⟨A0, c0, ev, _, C0⟩ := Kd.R_reads Rv
    subst ev
    refine ⟨_, rfl, fun a K => run_ 7 K rfl fun a K => nil_ (wp_seq (sr_ (run_ 3 K rfl fun a K => ?_)))⟩
    by_cases d1 : Z = 0
    case neg =>
      rw [if_pos (Or.inl d1)]
      exact run_ 4 (fx_ K (ne0_ d1)) rfl fun a K => nil_ (ct_ K rfl rfl (sr_ (run_ 6 K rfl fun a K => nil_ (ret4_ rfl K rfl rfl rfl rfl ⟨rfl, M.bl⟩))))
    refine run_ 4 (fx_ K (ne0f_ d1)) rfl fun a K => nil_ ?_
    by_cases d2 : X = []
    case pos =>
      rw [if_pos (Or.inr d2)]
      exact ct_ K rfl ((nil_len _).trans (decide_eq_true ((nil_iff _).2 d2))) (sr_ (run_ 6 K rfl fun a K => nil_ (ret4_ rfl K rfl rfl rfl rfl ⟨rfl, M.bl⟩)))
    rw [if_neg (fun q => q.elim (fun q => q d1) d2)]
    have hp : 0 < X.length := List.length_pos_iff.2 d2
    obtain ⟨ad, eA, hat⟩ := C_at C0 hp
    subst eA
    have ei := last_ix hp (Nat.le_trans hl (by decide))
    have hi : X.length - 1 < X.length := Nat.sub_lt hp (by decide)
    have hx := hat (X.length - 1) _ (List.getElem?_eq_getElem hi)
    have eg : X.getD (X.length - 1) 0 = X[X.length - 1] := by simp [List.getD, List.getElem?_eq_getElem hi]
    rw [eg]
    refine cs_ K rfl ((nil_len _).trans (decide_eq_false fun q => d2 ((nil_iff _).1 q))) (sr_ (run_ 4 K rfl fun a K => ?_))
    replace K := ks_ (i := 50) K rfl (congrArg (Value.int .i64) ei)
    exact ix_ K hi (Nat.le_trans hl (by decide)) rfl rfl rfl rfl rfl rfl fun a K => el_ K hx rfl rfl rfl rfl rfl fun a K => run_ 5 K rfl fun a K => nil_ (ret4_ rfl K rfl rfl rfl rfl ⟨rfl, M.bl⟩)
end Go.Proofs.YtjjaiahfkiojlaaGreat.Pure

namespace Go.Proofs.YtjjaiahfkiojlaaGreat.Pure
open Go.RowKit Go.Proofs.YtjjaiahfkiojlaaGreat.O Go.Proofs.YtjjaiahfkiojlaaGreatW.PrintWords Go.Proofs.YtjjaiahfkiojlaaGreatW.PrintLast
open Go.Proofs.YtjjaiahfkiojlaaGreat.Civ
set_option linter.unusedVariables false
set_option linter.unusedSimpArgs false
/-! Rules without lists -/
def pl (fr iv ct : Int) (un : Bool) (ua : Int) : RR := ⟨fr, iv, ct, un, ua, false, [], [], [], [], [], [], [], [], [], 1⟩
theorem pl_right {fr iv ct ua : Int} {un : Bool} (h1 : 1 ≤ fr) (h2 : fr ≤ 7) (h3 : 1 ≤ iv) (h4 : iv ≤ 1000) (h5 : 0 ≤ ct) (h6 : ct ≤ 100000) (h7 : (un = false ∧ ua = 0) ∨ (un = true ∧ ct = 0 ∧ InT ua)) : Right (pl fr iv ct un ua) := by
  refine ⟨?_, h5, h6, ?_⟩
  · have e : okRecur (pl fr iv ct un ua).fr (pl fr iv ct un ua).iv (pl fr iv ct un ua).ct (pl fr iv ct un ua).un (pl fr iv ct un ua).ua (pl fr iv ct un ua).utc (pl fr iv ct un ua).sec (pl fr iv ct un ua).mi (pl fr iv ct un ua).ho (pl fr iv ct un ua).dy (pl fr iv ct un ua).md (pl fr iv ct un ua).yd (pl fr iv ct un ua).wn (pl fr iv ct un ua).mo (pl fr iv ct un ua).sp (pl fr iv ct un ua).wk = ((decide (1 ≤ fr) && decide (fr ≤ 7)) && (decide (1 ≤ iv) && decide (iv ≤ 1000)) && true && true && true && okBeside fr 0 0 0 0 0 0 0 0 0) := rfl
    rw [e]
    simp [h1, h2, h3, h4, okBeside]
  · rcases h7 with ⟨a, b⟩ | ⟨a, b, c⟩
    · exact Or.inl ⟨a, b, rfl⟩
    · exact Or.inr ⟨a, b, c⟩
theorem pl_few {fr iv ct ua : Int} {un : Bool} : Few (pl fr iv ct un ua) := ⟨Nat.zero_le 100, Nat.zero_le 100, Nat.zero_le 100⟩
theorem pl_day (fr iv ct ua : Int) (un : Bool) (first n : Int) : dayV (pl fr iv ct un ua) first n = if fr = 5 then wd n == wd first else if fr < 5 then true else if fr = 7 ∧ (dt n).2.1 ≠ (dt first).2.1 then false else (dt n).2.2 == (dt first).2.2 := by
  unfold dayV likeV weekNoV
  simp [pl, oneV, eitherV]
theorem pl_clock (fr iv ct ua : Int) (un : Bool) (s f : Int) : clocksV (pl fr iv ct un ua) s f = [(if 3 < fr then s / 3600 else f / 3600) * 3600 + (if 2 < fr then s % 3600 / 60 else f % 3600 / 60) * 60 + (if 1 < fr then s % 60 else f % 60)] := by
  unfold clocksV hoursV minsV secsV choiceV
  rw [if_pos (show (pl fr iv ct un ua).ho = [] from rfl), if_pos (show (pl fr iv ct un ua).mi = [] from rfl), if_pos (show (pl fr iv ct un ua).sec = [] from rfl)]
  rfl
theorem flat_none {f : Nat → List Int} {n : Nat} (h : ∀ i, i < n → f i = []) : (List.range n).flatMap f = [] := by
  induction n with
  | zero => rfl
  | succ n ih =>
    rw [List.range_succ, List.flatMap_append, ih (fun i hi => h i (by omega))]
    simp [h n (by omega)]
theorem flat_one {f : Nat → List Int} {n j : Nat} (hj : j < n) (h : ∀ i, i < n → i ≠ j → f i = []) : (List.range n).flatMap f = f j := by
  induction n with
  | zero => omega
  | succ n ih =>
    rw [List.range_succ, List.flatMap_append]
    by_cases q : j = n
    · subst q
      rw [flat_none (fun i hi => h i (by omega) (by omega))]
      simp
    · rw [ih (by omega) (fun i hi => h i (by omega))]
      simp [h n (by omega) (fun e => q e.symm)]
def stp (fr : Int) : Int := if fr = 1 then 1 else if fr = 2 then 60 else if fr = 3 then 3600 else if fr = 4 then 86400 else 604800
theorem inL_one {a b d x : Int} (h : a ≤ d * 86400 + x) (h' : d * 86400 + x ≤ b) : inL a b d [x] = [d * 86400 + x] := by
  unfold inL
  simp only [List.map_cons, List.map_nil, List.filter_cons, List.filter_nil]
  rw [decide_eq_false (by omega), decide_eq_false (by omega)]
  rfl
theorem pl_spanW {fr iv ct ua : Int} {un : Bool} (h1 : 1 ≤ fr) (h2 : fr ≤ 5) (s k : Int) : spanW (pl fr iv ct un ua) (perV (pl fr iv ct un ua) s + k) = if fr = 1 then (s + k, s + k) else if fr = 2 then (60 * (s / 60 + k), 60 * (s / 60 + k) + 59) else if fr = 3 then (3600 * (s / 3600 + k), 3600 * (s / 3600 + k) + 3599) else if fr = 4 then (86400 * (s / 86400 + k), 86400 * (s / 86400 + k) + 86399) else (86400 * (7 * ((s / 86400 + 3) / 7 + k) - 3), 86400 * (7 * ((s / 86400 + 3) / 7 + k) - 3 + 6) + 86399) := by
  have : fr = 1 ∨ fr = 2 ∨ fr = 3 ∨ fr = 4 ∨ fr = 5 := by omega
  rcases this with rfl | rfl | rfl | rfl | rfl
  · simp [spanW, perV, pl]
  · simp [spanW, perV, pl]
  · simp [spanW, perV, pl]
  · simp [spanW, perV, pl, wholeV]
  · have e : s / 86400 + 4 - 1 = s / 86400 + 3 := by omega
    have e2 : 7 * ((s / 86400 + 3) / 7 + k) - 4 + 1 = 7 * ((s / 86400 + 3) / 7 + k) - 3 := by omega
    simp [spanW, perV, pl, wholeV, e, e2]
theorem pl_lets {fr iv ct ua : Int} {un : Bool} (h1 : 1 ≤ fr) (h2 : fr ≤ 5) (s k : Int) : letsL (pl fr iv ct un ua) s (spanW (pl fr iv ct un ua) (perV (pl fr iv ct un ua) s + k)).1 (spanW (pl fr iv ct un ua) (perV (pl fr iv ct un ua) s + k)).2 = [s + k * stp fr] := by
  rw [pl_spanW h1 h2]
  unfold letsL
  have one : ∀ (a b t : Int), 1 ≤ fr → fr < 5 → a / 86400 = b / 86400 → (∀ x, x ∈ clocksV (pl fr iv ct un ua) (s % 86400) (a % 86400) → a / 86400 * 86400 + x = t) → a ≤ t → t ≤ b → daysL (pl fr iv ct un ua) (s / 86400) a b (clocksV (pl fr iv ct un ua) (s % 86400) (a % 86400)) (a / 86400) (b / 86400 + 1 - a / 86400).toNat = [t] := by
    intro a b t _ h5 hab ht ha hb
    rw [show (b / 86400 + 1 - a / 86400).toNat = 1 by omega]
    have e : daysL (pl fr iv ct un ua) (s / 86400) a b (clocksV (pl fr iv ct un ua) (s % 86400) (a % 86400)) (a / 86400) 1 = dayL (pl fr iv ct un ua) (s / 86400) a b (clocksV (pl fr iv ct un ua) (s % 86400) (a % 86400)) (a / 86400) := by
      simp [daysL, List.range_succ]
    rw [e]
    have hd : dayV (pl fr iv ct un ua) (s / 86400) (a / 86400) = true := by rw [pl_day, if_neg (show ¬ fr = 5 by omega), if_pos h5]
    unfold dayL
    rw [hd, if_pos rfl]
    rw [pl_clock] at ht ⊢
    have := ht _ (.head _)
    rw [inL_one (by omega) (by omega), this]
  have : fr = 1 ∨ fr = 2 ∨ fr = 3 ∨ fr = 4 ∨ fr = 5 := by omega
  rcases this with rfl | rfl | rfl | rfl | rfl
  · simp only [if_true]
    refine one _ _ _ (by omega) (by omega) rfl (fun x hx => ?_) (by simp [stp]) (by simp [stp])
    rw [pl_clock] at hx
    simp at hx
    simp [stp]
    omega
  · simp only [show ¬ ((2 : Int) = 1) by decide, if_false, if_true]
    refine one _ _ _ (by omega) (by omega) (by omega) (fun x hx => ?_) (by simp [stp]; omega) (by simp [stp]; omega)
    rw [pl_clock] at hx
    simp at hx
    simp [stp]
    omega
  · simp only [show ¬ ((3 : Int) = 1) by decide, show ¬ ((3 : Int) = 2) by decide, if_false, if_true]
    refine one _ _ _ (by omega) (by omega) (by omega) (fun x hx => ?_) (by simp [stp]; omega) (by simp [stp]; omega)
    rw [pl_clock] at hx
    simp at hx
    simp [stp]
    omega
  · simp only [show ¬ ((4 : Int) = 1) by decide, show ¬ ((4 : Int) = 2) by decide, show ¬ ((4 : Int) = 3) by decide, if_false, if_true]
    refine one _ _ _ (by omega) (by omega) (by omega) (fun x hx => ?_) (by simp [stp]; omega) (by simp [stp]; omega)
    rw [pl_clock] at hx
    simp at hx
    simp [stp]
    omega
  · simp only [show ¬ ((5 : Int) = 1) by decide, show ¬ ((5 : Int) = 2) by decide, show ¬ ((5 : Int) = 3) by decide, show ¬ ((5 : Int) = 4) by decide, if_false]
    generalize hp : (s / 86400 + 3) / 7 + k = p
    have ea : 86400 * (7 * p - 3) / 86400 = 7 * p - 3 := by omega
    have eb : (86400 * (7 * p - 3 + 6) + 86399) / 86400 = 7 * p - 3 + 6 := by omega
    have em : 86400 * (7 * p - 3) % 86400 = 0 := by omega
    rw [ea, eb, em, show (7 * p - 3 + 6 + 1 - (7 * p - 3)).toNat = 7 by omega, pl_clock]
    simp only [show (3 : Int) < 5 by decide, show (2 : Int) < 5 by decide, show (1 : Int) < 5 by decide, if_true]
    unfold daysL
    rw [flat_one (j := ((s / 86400 + 3) % 7).toNat) (by omega) (fun i hi hne => ?_)]
    · unfold dayL
      rw [if_pos (show dayV (pl 5 iv ct un ua) (s / 86400) (7 * p - 3 + ((((s / 86400 + 3) % 7).toNat : Nat) : Int)) = true by rw [pl_day, if_pos rfl]; unfold wd; simp only [beq_iff_eq]; omega), inL_one (by omega) (by omega)]
      simp [stp]
      omega
    · unfold dayL
      rw [if_neg (show ¬ dayV (pl 5 iv ct un ua) (s / 86400) (7 * p - 3 + ((i : Nat) : Int)) = true by rw [pl_day, if_pos rfl]; unfold wd; simp only [beq_iff_eq]; omega)]
theorem pl_span {fr iv ct ua : Int} {un : Bool} (h1 : 1 ≤ fr) (h2 : fr ≤ 5) (s k : Int) : s + k * stp fr - 604800 < (spanW (pl fr iv ct un ua) (perV (pl fr iv ct un ua) s + k)).1 ∧ (spanW (pl fr iv ct un ua) (perV (pl fr iv ct un ua) s + k)).1 ≤ s + k * stp fr ∧ s + k * stp fr ≤ (spanW (pl fr iv ct un ua) (perV (pl fr iv ct un ua) s + k)).2 ∧ (spanW (pl fr iv ct un ua) (perV (pl fr iv ct un ua) s + k)).2 < s + k * stp fr + 604800 ∧ (-62135596800 ≤ s → 0 ≤ k → -62135596800 ≤ (spanW (pl fr iv ct un ua) (perV (pl fr iv ct un ua) s + k)).1) := by
  rw [pl_spanW h1 h2]
  have : fr = 1 ∨ fr = 2 ∨ fr = 3 ∨ fr = 4 ∨ fr = 5 := by omega
  rcases this with rfl | rfl | rfl | rfl | rfl
  all_goals (simp [stp]; try omega)
theorem spanV_ok {r : RR} (h : Lens r) {p : Int} (b6 : r.fr = 6 → 0 ≤ p ∧ p ≤ 120011) (i1 : InT (spanW r p).1) (i2 : InT (spanW r p).2) : spanV r p = ((spanW r p).1, (spanW r p).2, 0) := by
  have e := span_eq h i1 b6 (Int.le_refl _) (spanW_le r p)
  have := inP_per h i1
  rw [e] at this
  unfold spanV
  rw [if_pos ⟨this, i1, i2⟩]
end Go.Proofs.YtjjaiahfkiojlaaGreat.Pure
