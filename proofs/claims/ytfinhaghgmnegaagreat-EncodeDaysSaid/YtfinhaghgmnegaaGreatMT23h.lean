/- What rules without lists tell, in plain numbers. No condition beyond those each lemma names. -/
/- Runs of rules that tell one time a period, in plain numbers. No condition beyond those each lemma names. -/
/- A period's times that a rule lets, as a contract. No condition beyond those each lemma names. -/
import Derived.Test.YtfinhaghgmnegaaGreatMHS0
import Derived.Test.YtfinhaghgmnegaaGreatT23g
import Derived.Test.YtfinhaghgmnegaaGreatOx150
namespace Go.Proofs.YtfinhaghgmnegaaGreat.Pure
open Go.RowKit Go.Proofs.YtfinhaghgmnegaaGreat.O Go.Proofs.YtfinhaghgmnegaaGreatW.PrintWords Go.Proofs.YtfinhaghgmnegaaGreatW.PrintLast
open Go.Proofs.YtfinhaghgmnegaaGreat.Civ
set_option linter.unusedVariables false
set_option linter.unusedSimpArgs false
/-! Rules without lists -/
def pl (fr iv ct : Int) (un : Bool) (ua : Int) : RR := ⟨fr, iv, ct, un, ua, false, [], [], [], [], [], [], [], [], [], 1⟩
theorem flat_none {f : Nat → List Int} {n : Nat} (h : ∀ i, i < n → f i = []) : (List.range n).flatMap f = [] := by
  induction n with
  | zero => rfl
  | succ n ih =>
    rw [List.range_succ, List.flatMap_append, ih (fun i hi => h i (by omega))]
    simp [h n (by omega)]
theorem flat_one {f : Nat → List Int} {n j : Nat} (hj : j < n) (h : ∀ i, i < n → i ≠ j → f i = []) : (List.range n).flatMap f = f j := by
  induction n with
  | zero => omega
  | succ n ih =>
    rw [List.range_succ, List.flatMap_append]
    by_cases q : j = n
    · subst q
      rw [flat_none (fun i hi => h i (by omega) (by omega))]
      simp
    · rw [ih (by omega) (fun i hi => h i (by omega))]
      simp [h n (by omega) (fun e => q e.symm)]
theorem inL_one {a b d x : Int} (h : a ≤ d * 86400 + x) (h' : d * 86400 + x ≤ b) : inL a b d [x] = [d * 86400 + x] := by
  unfold inL
  simp only [List.map_cons, List.map_nil, List.filter_cons, List.filter_nil]
  rw [decide_eq_false (by omega), decide_eq_false (by omega)]
  rfl
theorem spanV_ok {r : RR} (h : Lens r) {p : Int} (b6 : r.fr = 6 → 0 ≤ p ∧ p ≤ 120011) (i1 : InT (spanW r p).1) (i2 : InT (spanW r p).2) : spanV r p = ((spanW r p).1, (spanW r p).2, 0) := by
  have e := span_eq h i1 b6 (Int.le_refl _) (spanW_le r p)
  have := inP_per h i1
  rw [e] at this
  unfold spanV
  rw [if_pos ⟨this, i1, i2⟩]
end Go.Proofs.YtfinhaghgmnegaaGreat.Pure

namespace Go.Proofs.YtfinhaghgmnegaaGreat.Pure
open Go.RowKit Go.Proofs.YtfinhaghgmnegaaGreat.O Go.Proofs.YtfinhaghgmnegaaGreatW.PrintWords Go.Proofs.YtfinhaghgmnegaaGreatW.PrintLast
open Go.Proofs.YtfinhaghgmnegaaGreat.Civ
set_option linter.unusedVariables false
set_option linter.unusedSimpArgs false
/-! Runs of rules that tell one time a period, or none -/
theorem places_id {r : RR} (h : r.sp = []) (l : List Int) : placesV r l = l := if_pos h
theorem step_one {r : RR} {st from_ to_ F p a b t : Int} {S : St} {k : Nat} (hs : spanV r p = (a, b, 0)) (he : endsV r to_ S.ct a = false) (hp : r.sp = []) (hl : letsL r st a b = [t]) (hF : 0 ≤ S.sp) (h2 : S.sp + 2 ≤ F) :
    worksV r st from_ to_ F (k + 1) p S = worksV r st from_ to_ F k (p + r.iv) (if goesV r st S.ct t then tellV from_ to_ ⟨S.sp + 2, S.ct, S.out⟩ t else ⟨S.sp + 2, S.ct, S.out⟩) := by
  have e1 : ([t] : List Int).take (F.toNat + 1) = [t] := by simp
  rw [worksV]
  rw [hs, he, if_neg (by simp)]
  have : stepV r st from_ to_ F S a b = some (if goesV r st S.ct t then tellV from_ to_ ⟨S.sp + 2, S.ct, S.out⟩ t else ⟨S.sp + 2, S.ct, S.out⟩) := by
    unfold stepV
    rw [hl, e1, if_neg (by omega), if_neg (by simp; omega), places_id hp]
    have : S.sp + 1 + (([t] : List Int).length : Nat) = S.sp + 2 := by simp; omega
    rw [this]
    rfl
  dsimp only
  rw [this]
theorem step_end {r : RR} {st from_ to_ F p : Int} {S : St} {k : Nat} (he : (spanV r p).2.2 ≠ 0 ∨ endsV r to_ S.ct (spanV r p).1 = true) : worksV r st from_ to_ F (k + 1) p S = some S := by
  rw [worksV, if_pos he]
end Go.Proofs.YtfinhaghgmnegaaGreat.Pure

namespace Go.Proofs.YtfinhaghgmnegaaGreat.Pure
open Go.RowKit Go.Proofs.YtfinhaghgmnegaaGreat.O Go.Proofs.YtfinhaghgmnegaaGreatW.PrintWords Go.Proofs.YtfinhaghgmnegaaGreatW.PrintLast
open Go.Proofs.YtfinhaghgmnegaaGreat.Civ
set_option linter.unusedVariables false
set_option linter.unusedSimpArgs false
set_option maxRecDepth 100000
set_option maxHeartbeats 4000000
def leftZ (d : Nat) (z : Int) (a : Act) : Nat := match a.eval (.tmp d) with | .int _ x => (z - x).toNat | _ => 0
theorem leftZ_ {d N : Nat} {z : Int} {E : Env} {a : Act} {x : Int} (K : Kn N E a) (h : O.look E d = some (.int .i64 x)) : leftZ d z a = (z - x).toNat := by unfold leftZ; rw [K.ev _ _ h]
theorem clk_day {r : RR} (h : Right r) {s f : Int} (hs : 0 ≤ s) (hs' : s < 86400) (hf : 0 ≤ f) (hf' : f < 86400) : ∀ x ∈ clocksV r s f, 0 ≤ x ∧ x < 86400 := fun x hx => by
  obtain ⟨h1, h2, h3⟩ := clk_in h hs hs' hf hf'
  unfold clocksV clk3 clk2 clk1 at hx
  simp only [List.mem_flatMap, List.mem_map] at hx
  obtain ⟨a, ha, b, hb, c, hc, rfl⟩ := hx
  have := h1 a ha
  have := h2 b hb
  have := h3 c hc
  omega
theorem clk_len {r : RR} (hw : Few r) (s f : Int) : (clocksV r s f).length ≤ 1030301 := by
  have L1 : (hoursV r s f).length ≤ 101 := Nat.le_trans (choice_len _ _) (by have := hw.ho; omega)
  have L2 : (minsV r s f).length ≤ 101 := Nat.le_trans (choice_len _ _) (by have := hw.mi; omega)
  have L3 : (secsV r s f).length ≤ 101 := Nat.le_trans (choice_len _ _) (by have := hw.sec; omega)
  exact clk_len3 L1 L2 L3
theorem let_day {a b : Int} (ha : InT a) (hb : InT b) {i : Nat} (hi : i < (b / 86400 + 1 - a / 86400).toNat) : (-719162 ≤ a / 86400 + (i : Int) ∧ a / 86400 + (i : Int) ≤ 2932896) ∧ wrap64 (a / 86400 + (i : Int) + 1) = a / 86400 + ((i + 1 : Nat) : Int) ∧ decide (a / 86400 + (i : Int) ≤ b / 86400) = true ∧ (b / 86400 + 1 - (a / 86400 + ((i + 1 : Nat) : Int))).toNat < (b / 86400 + 1 - (a / 86400 + (i : Int))).toNat := by
  have h1 := (dt_year ha).2.2
  have h2 := (dt_year hb).2.2
  refine ⟨by omega, ?_, decide_eq_true (by omega), by omega⟩
  rw [w64 (by omega) (by omega)]
  omega
theorem let_end {a b : Int} {i : Nat} (hi : ¬ i < (b / 86400 + 1 - a / 86400).toNat) : decide (a / 86400 + (i : Int) ≤ b / 86400) = false := decide_eq_false (by omega)
theorem let_n {a b : Int} (ha : InT a) (hb : InT b) : (b / 86400 + 1 - a / 86400).toNat ≤ 3652059 := by
  have h1 := (dt_year ha).2.2
  have h2 := (dt_year hb).2.2
  omega
theorem let_t {d x : Int} (h : -719162 ≤ d ∧ d ≤ 2932896) (hx : 0 ≤ x ∧ x < 86400) : wrap64 (wrap64 (d * 86400) + x) = d * 86400 + x := by rw [w64 (x := d * 86400) (by omega) (by omega), w64 (by omega) (by omega)]
theorem let_pre {r : RR} {first a b : Int} {ts : List Int} {d : Int} {i n : Nat} (hi : i < n) (hd : dayV r first (d + (i : Int)) = true) (j : Nat) : daysL r first a b ts d i ++ inL a b (d + (i : Int)) (ts.take j) <+: daysL r first a b ts d n := by
  refine List.IsPrefix.trans ?_ (daysL_pre r first a b ts d (show i + 1 ≤ n by omega))
  rw [daysL_succ]
  unfold dayL
  rw [if_pos hd]
  exact (List.prefix_append_right_inj _).2 (inL_pre _ _ _ _ _)
theorem let_fit {r : RR} {first a b : Int} {ts : List Int} {d : Int} {n : Nat} (hn : n ≤ 3652059) (ht : ts.length ≤ 1030301) {l : List Int} (h : l <+: daysL r first a b ts d n) : l.length ≤ 17000000000000 := by
  have h1 := h.length_le
  have h2 := daysL_len r first a b ts d n
  have h3 : n * ts.length ≤ 3652059 * 1030301 := Nat.mul_le_mul hn ht
  omega
theorem day_split {t : Int} (h : InT t) : -9223372036854775808 ≤ t ∧ t < 9223372036854775808 ∧ 0 ≤ t % 86400 ∧ t % 86400 < 86400 := by unfold InT at h; omega
theorem big_take {l L : List Int} {m : Int} (hp : l <+: L) (h0 : 0 ≤ m) (h1 : (l.length : Int) - 1 ≤ m) (h2 : m < l.length) : L.take (m.toNat + 1) = l := take_pre hp (by omega)
theorem all_take {L : List Int} {m : Int} (h1 : (L.length : Int) ≤ m) : L.take (m.toNat + 1) = L := List.take_of_length_le (by omega)
theorem len_cast {l : List Int} {x m : Int} (h : ¬ m < (((l ++ [x]).length : Nat) : Int)) : (((l ++ [x]).length : Nat) : Int) ≤ m := by omega
theorem len_le1 {l : List Int} {x m : Int} (h : (l.length : Int) ≤ m) : (((l ++ [x]).length : Nat) : Int) - 1 ≤ m := by simp; omega
theorem letss_on {w : World} {cs : Array Value} {r : RR} (R : Rul w cs r) (h : Right r) (hw : Few r) {s p q m : Int} (hs : InT s) (hp : InT p) (hq : InT q) (hm : 0 ≤ m) :
    Calls Tryz.prog 66 #[.agg cs, .int .i64 s, .int .i64 p, .int .i64 q, .int .i64 m] w fun e W' => ∃ v', e = .returned v' ∧ Kd.R (Kd.int .i64) 3 W' w.heap.size (fun _ => True) v' ((letsL r s p q).take (m.toNat + 1)) ∧ Below w.heap.size w W' := by
  have s1 := day_split hs
  have s2 := day_split hp
  have s3 := day_split hq
  have f1 := (dt_year hs).2.2
  obtain ⟨T, hT⟩ : ∃ T, T = letsL r s p q := ⟨_, rfl⟩
  rw [← hT]
  refine en_ Tryz.func66 rfl rfl rfl fun a K => sr_ (bxG_ K (On.nil w) rfl rfl rfl rfl rfl rfl fun a g0 W G0 M K => run_ 1 K rfl fun a K => nil_ ?_)
  refine sr_ (run_ 1 K rfl fun a K => cl_ K Tryz.func36 (by kernel_rfl) rfl rfl rfl rfl rfl rfl ((split_on s1.1 s1.2.1).mono ?_))
  rintro _ w1 ⟨rfl, b1⟩
  replace M := M.call b1
  refine ⟨_, rfl, fun a K => run_ 5 K rfl fun a K => nil_ (sr_ (run_ 1 K rfl fun a K => cl_ K Tryz.func36 (by kernel_rfl) rfl rfl rfl rfl rfl rfl ((split_on s2.1 s2.2.1).mono ?_)))⟩
  rintro _ w2 ⟨rfl, b2⟩
  replace M := M.call b2
  refine ⟨_, rfl, fun a K => run_ 5 K rfl fun a K => nil_ (sr_ (run_ 1 K rfl fun a K => cl_ K Tryz.func36 (by kernel_rfl) rfl rfl rfl rfl rfl rfl ((split_on s3.1 s3.2.1).mono ?_)))⟩
  rintro _ w3 ⟨rfl, b3⟩
  replace M := M.call b3
  refine ⟨_, rfl, fun a K => run_ 5 K rfl fun a K => nil_ (sr_ (lda_ K M 0 rfl rfl rfl rfl rfl rfl rfl R.sz fun a K => run_ 2 K rfl fun a K => cl_ K Tryz.func73 (by kernel_rfl) rfl rfl rfl rfl rfl rfl ((clocks_on (R.below M.bl) h hw s1.2.2.1 s1.2.2.2 s2.2.2.1 s2.2.2.2).mono ?_)))⟩
  rintro _ w4 ⟨v4, rfl, R4, b4⟩
  replace M := M.call b4
  have B4 := M.bl
  replace R := R.below B4
  have fin : ∀ (W : World) (v : Value) (l : List Int), Below w4.heap.size w4 W → Kd.R (Kd.int .i64) 3 W w4.heap.size (fun _ => True) v l → (letsL r s p q).take (m.toNat + 1) = l → ∃ v', Ending.returned v = .returned v' ∧ Kd.R (Kd.int .i64) 3 W w.heap.size (fun _ => True) v' (T.take (m.toNat + 1)) ∧ Below w.heap.size w W := fun W v l hb hR e => ⟨v, rfl, by rw [hT, e]; exact Kd.R_lower hR B4.size, below_step B4 hb⟩
  replace M := M.here
  clear b1 b2 b3 b4 B4
  have hin := clk_day h s1.2.2.1 s1.2.2.2 s2.2.2.1 s2.2.2.2
  have hlen := clk_len hw (s % 86400) (p % 86400)
  have hn := let_n hp hq
  clear s1 s2 s3
  unfold letsL at fin
  clear hT
  generalize clocksV r (s % 86400) (p % 86400) = ts at R4 fin hin hlen
  obtain ⟨A1, c1, e1, _, C1⟩ := Kd.R_reads R4
  subst e1
  clear R4
  refine ⟨_, rfl, fun a K => run_ 1 K rfl fun a K => nil_ (sr_ (run_ 1 K rfl fun a K => nil_ (wp_seq (wp_block (wp_loop (fun a W => ∃ (i : Nat) (v : Value), i ≤ (q / 86400 + 1 - p / 86400).toNat ∧ Kn 80 [(13, .int .i64 (p / 86400 + (i : Int))), (18, v), (17, .slice A1 ts.length c1), (15, .int .i64 (q / 86400)), (11, .int .i64 (s / 86400)), (5, .pointer (some ⟨g0, 0, none⟩)), (4, .int .i64 m), (3, .int .i64 q), (2, .int .i64 p)] a ∧ On [(g0, .cells cs 29 (0, 0))] w4 W ∧ Kd.R (Kd.int .i64) 3 W w4.heap.size (fun _ => True) v (daysL r (s / 86400) p q ts (p / 86400) i) ∧ some g0 ≠ v.ownBlock ∧ ((daysL r (s / 86400) p q ts (p / 86400) i).length : Int) ≤ m) (fun a _ => leftZ 13 (q / 86400 + 1) a) ⟨0, .slice none 0 0, Nat.zero_le _, fg_ (ks_ (i := 13) (u := .int .i64 (p / 86400 + ((0 : Nat) : Int))) K rfl (congrArg (Value.int .i64) (Int.add_zero _).symm)) ⟨rfl, rfl, rfl, rfl, rfl, rfl, rfl, rfl, rfl, trivial⟩, M, Kd.R_nil _ _ _ _ _, fun q => (nomatch (show some g0 = none from q)), hm⟩ ?_)))))⟩
  clear K M
  rintro a W ⟨i, v, hi, K, M, Rv, F, hv⟩
  refine wp_seq (sr_ (run_ 3 K rfl fun a2 K2 => nil_ ?_))
  by_cases hc : i < (q / 86400 + 1 - p / 86400).toNat
  case neg =>
    obtain rfl : i = (q / 86400 + 1 - p / 86400).toNat := Nat.le_antisymm hi (Nat.le_of_not_lt hc)
    exact cf_ K2 rfl (let_end hc) (ex_ (thn_ (sr_ (run_ 2 K2 rfl fun a K => nil_ (ret_ rfl K rfl (fin W v _ M.bl Rv (all_take hv)))))))
  obtain ⟨d1, d2, d3, d4⟩ := let_day hp hq hc
  have ek := daysL_succ r (s / 86400) p q ts (p / 86400) i
  refine ck_ K2 rfl d3 (wp_seq (bjn_ (fun a' W' => ∃ v', Kn 80 [(13, .int .i64 (p / 86400 + (i : Int))), (18, v'), (17, .slice A1 ts.length c1), (15, .int .i64 (q / 86400)), (11, .int .i64 (s / 86400)), (5, .pointer (some ⟨g0, 0, none⟩)), (4, .int .i64 m), (3, .int .i64 q), (2, .int .i64 p)] a' ∧ On [(g0, .cells cs 29 (0, 0))] w4 W' ∧ Kd.R (Kd.int .i64) 3 W' w4.heap.size (fun _ => True) v' (daysL r (s / 86400) p q ts (p / 86400) (i + 1)) ∧ some g0 ≠ v'.ownBlock ∧ ((daysL r (s / 86400) p q ts (p / 86400) (i + 1)).length : Int) ≤ m) (wp_seq (sr_ (lda_ K2 M 0 rfl rfl rfl rfl rfl rfl rfl R.sz fun a K => run_ 2 K rfl fun a K => cl_ K Tryz.func74 (by kernel_rfl) rfl rfl rfl rfl rfl rfl ((day_on (R.below M.bl) h.lens f1.1 f1.2 d1.1 d1.2).mono ?_)))) ?_))
  case refine_2 =>
    rintro a' W' ⟨v', K', M', R', F', hv'⟩
    refine rg_ (run_ 3 K' rfl fun a5 K5 => nl_ ⟨⟨i + 1, v', hc, fg_ (ks_ (i := 13) K5 rfl (congrArg (Value.int .i64) d2)) ⟨rfl, rfl, rfl, rfl, rfl, rfl, rfl, rfl, rfl, trivial⟩, M', R', F', hv'⟩, ?_⟩)
    rw [leftZ_ (d := 13) K5 rfl, leftZ_ (d := 13) K rfl, d2]
    exact d4
  rintro _ w5 ⟨rfl, b5⟩
  replace M := M.call b5
  replace Rv := Kd.R_below Rv b5
  refine ⟨_, rfl, fun a K => ?_⟩
  cases hd : dayV r (s / 86400) (p / 86400 + (i : Int)) with
  | false =>
    have e0 : daysL r (s / 86400) p q ts (p / 86400) (i + 1) = daysL r (s / 86400) p q ts (p / 86400) i := by
      rw [ek]
      unfold dayL
      rw [hd]
      exact List.append_nil _
    rw [e0]
    exact run_ 1 (fx_ K hd) rfl fun a K => nil_ (ct_ K rfl rfl (ex_ (thn_ ⟨v, fg_ K ⟨rfl, rfl, rfl, rfl, rfl, rfl, rfl, rfl, rfl, trivial⟩, M, Rv, F, hv⟩)))
  | true =>
  have e0 : daysL r (s / 86400) p q ts (p / 86400) (i + 1) = daysL r (s / 86400) p q ts (p / 86400) i ++ inL p q (p / 86400 + (i : Int)) ts := by
    rw [ek]
    unfold dayL
    rw [hd]
    rfl
  have hpre := let_pre (a := p) (b := q) (ts := ts) hc hd
  rw [e0]
  clear ek e0 d3 d4 d2
  generalize daysL r (s / 86400) p q ts (p / 86400) i = D at Rv hv hpre ⊢
  refine run_ 1 (fx_ K hd) rfl fun a K => nil_ (cs_ K rfl rfl (sr_ (run_ 3 K rfl fun a K => nil_ (wp_block (wp_loop (fun a W => ∃ (j : Nat) (v : Value), j ≤ ts.length ∧ Kn 80 [(53, .int .i64 (j : Int)), (52, .int .i64 (ts.length : Int)), (51, .slice A1 ts.length c1), (13, .int .i64 (p / 86400 + (i : Int))), (18, v), (17, .slice A1 ts.length c1), (15, .int .i64 (q / 86400)), (11, .int .i64 (s / 86400)), (5, .pointer (some ⟨g0, 0, none⟩)), (4, .int .i64 m), (3, .int .i64 q), (2, .int .i64 p)] a ∧ On [(g0, .cells cs 29 (0, 0))] w4 W ∧ Kd.R (Kd.int .i64) 3 W w4.heap.size (fun _ => True) v (D ++ inL p q (p / 86400 + (i : Int)) (ts.take j)) ∧ some g0 ≠ v.ownBlock ∧ ((D ++ inL p q (p / 86400 + (i : Int)) (ts.take j)).length : Int) ≤ m) (fun a _ => leftN 53 ts.length a) ⟨0, v, Nat.zero_le _, fg_ K ⟨rfl, rfl, rfl, rfl, rfl, rfl, rfl, rfl, rfl, rfl, rfl, rfl, trivial⟩, M, by rw [show inL p q (p / 86400 + (i : Int)) (ts.take 0) = [] from rfl, List.append_nil]; exact Rv, F, by rw [show inL p q (p / 86400 + (i : Int)) (ts.take 0) = [] from rfl, List.append_nil]; exact hv⟩ ?_)))))
  clear K K2 M Rv F hv b5
  rintro a W ⟨j, v, hj, K, M, Rv, F, hv⟩
  refine sr_ (run_ 1 K rfl fun a2 K2 => nil_ (wp_seq ?_))
  by_cases hg : j < ts.length
  case neg =>
    obtain rfl : j = ts.length := Nat.le_antisymm hj (Nat.le_of_not_lt hg)
    rw [List.take_length] at Rv hv
    exact cf_ K2 rfl (kp_ge hg) (ex_ (nbx_ ⟨v, fg_ K2 ⟨rfl, rfl, rfl, rfl, rfl, rfl, rfl, rfl, rfl, trivial⟩, M, Rv, F, hv⟩))
  have eg := kp_inc hg (Nat.le_trans hlen (by decide))
  have hx' := hin _ (List.getElem_mem hg)
  have ek := inL_succ p q (p / 86400 + (i : Int)) ts hg
  have pre0 := hpre j
  have pre1 := hpre (j + 1)
  obtain ⟨ad3, eA, hat3⟩ := C_at C1 (Nat.lt_of_le_of_lt (Nat.zero_le _) hg)
  subst eA
  have hx := List.getElem?_eq_getElem hg
  have hcell := cell_on M (hat3 j _ hx)
  generalize ts[j] = x at hx ek hx' hcell
  have ew := let_t d1 hx'
  have hfit := let_fit hn hlen pre0
  obtain ⟨A0, c0, ev, _⟩ := Kd.R_reads Rv
  refine ck_ K2 rfl (kp_lt hg) (wp_seq (bjn_ (fun a' W' => ∃ v', Kn 80 [(53, .int .i64 (j : Int)), (52, .int .i64 (ts.length : Int)), (51, .slice (some ad3) ts.length c1), (13, .int .i64 (p / 86400 + (i : Int))), (18, v'), (17, .slice (some ad3) ts.length c1), (15, .int .i64 (q / 86400)), (11, .int .i64 (s / 86400)), (5, .pointer (some ⟨g0, 0, none⟩)), (4, .int .i64 m), (3, .int .i64 q), (2, .int .i64 p)] a' ∧ On [(g0, .cells cs 29 (0, 0))] w4 W' ∧ Kd.R (Kd.int .i64) 3 W' w4.heap.size (fun _ => True) v' (D ++ inL p q (p / 86400 + (i : Int)) (ts.take (j + 1))) ∧ some g0 ≠ v'.ownBlock ∧ ((D ++ inL p q (p / 86400 + (i : Int)) (ts.take (j + 1))).length : Int) ≤ m) (sr_ (ix_ K2 hg (Nat.le_trans hlen (by decide)) rfl rfl rfl rfl rfl rfl fun a K => el_ K hcell rfl rfl rfl rfl rfl fun a K => run_ 1 K rfl fun a K => nil_ (sr_ (run_ 5 K rfl fun a K => nil_ ?_)))) ?_))
  case refine_2 =>
    rintro a' W' ⟨v', K', M', R', F', hv'⟩
    refine rg_ (run_ 2 K' rfl fun a5 K5 => nl_ ⟨⟨j + 1, v', hg, fg_ (ks_ (i := 53) K5 rfl (congrArg (Value.int .i64) eg)) ⟨rfl, rfl, rfl, rfl, rfl, rfl, rfl, rfl, rfl, rfl, rfl, rfl, trivial⟩, M', R', F', hv'⟩, ?_⟩)
    rw [leftN_ (d := 53) K5 rfl, leftN_ (d := 53) K rfl, eg]
    exact leftN_lt hg
  replace K := ks_ (i := 21) K rfl (congrArg (Value.int .i64) ew)
  rw [ek] at pre1 ⊢
  clear ek hcell hx hat3
  generalize (p / 86400 + (i : Int)) * 86400 + x = t at K pre1 ⊢
  refine wp_seq (sr_ (run_ 4 K rfl fun a K => ?_))
  by_cases c1' : t < p
  case pos =>
    rw [if_pos (by rw [decide_eq_true c1']; rfl), List.append_nil]
    exact run_ 4 (fx_ K (decide_eq_true c1')) rfl fun a K => nil_ (ct_ K rfl rfl (ex_ (thn_ ⟨v, fg_ K ⟨rfl, rfl, rfl, rfl, rfl, rfl, rfl, rfl, rfl, rfl, rfl, rfl, trivial⟩, M, Rv, F, hv⟩)))
  refine run_ 4 (fx_ K (decide_eq_false c1')) rfl fun a K => nil_ ?_
  by_cases c2' : q < t
  case pos =>
    rw [if_pos (by rw [decide_eq_true c2']; exact Bool.or_true _), List.append_nil]
    exact ct_ K rfl (decide_eq_true c2') (ex_ (thn_ ⟨v, fg_ K ⟨rfl, rfl, rfl, rfl, rfl, rfl, rfl, rfl, rfl, rfl, rfl, rfl, trivial⟩, M, Rv, F, hv⟩))
  have ec : ¬ (decide (t < p) || decide (q < t)) = true := by rw [decide_eq_false c1', decide_eq_false c2']; decide
  rw [if_neg ec] at pre1 ⊢
  rw [← List.append_assoc] at pre1 ⊢
  generalize D ++ inL p q (p / 86400 + (i : Int)) (ts.take j) = X at Rv hv hfit pre1 ⊢
  subst ev
  refine cs_ K rfl (decide_eq_false c2') (sr_ (run_ 2 K rfl fun a K => ap1_ K M rfl rfl rfl rfl rfl rfl rfl rfl rfl (fun _ => rfl) Rv (fun p hp => by
      obtain rfl : p = (g0, .cells cs 29 (0, 0)) := by simpa using hp
      exact F) hfit fun a v1 W4 u R5 M5 F5 K5 => run_ 1 K5 rfl fun a K => nil_ ?_))
  obtain ⟨A2, c2, ev2, _⟩ := Kd.R_reads R5
  subst ev2
  refine sr_ (run_ 4 K rfl fun a K => nil_ ?_)
  by_cases c3' : m < (((X ++ [t]).length : Nat) : Int)
  case pos => exact ct_ K rfl (decide_eq_true c3') (sr_ (run_ 2 K rfl fun a K => nil_ (ret_ rfl K rfl (fin W4 _ _ M5.bl R5 (big_take pre1 hm (len_le1 hv) c3')))))
  exact cf_ K rfl (decide_eq_false c3') (wp_skip ⟨_, fg_ K ⟨rfl, rfl, rfl, rfl, rfl, rfl, rfl, rfl, rfl, rfl, rfl, rfl, trivial⟩, M5, R5, F5 _ (.head _), len_cast c3'⟩)
end Go.Proofs.YtfinhaghgmnegaaGreat.Pure
