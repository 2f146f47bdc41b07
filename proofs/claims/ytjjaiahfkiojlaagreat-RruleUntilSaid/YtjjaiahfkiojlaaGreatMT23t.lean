/- What daily rules with an end tell, in plain numbers. No condition beyond those each lemma names. -/
/- RruleUntil answers true. No condition. -/
import Derived.Test.YtjjaiahfkiojlaaGreatMOx8
import Derived.Test.YtjjaiahfkiojlaaGreatMT23s
namespace Go.Proofs.YtjjaiahfkiojlaaGreat.Pure
open Go.RowKit Go.Proofs.YtjjaiahfkiojlaaGreat.O Go.Proofs.YtjjaiahfkiojlaaGreatW.PrintWords Go.Proofs.YtjjaiahfkiojlaaGreatW.PrintLast
open Go.Proofs.YtjjaiahfkiojlaaGreat.Civ
set_option linter.unusedVariables false
set_option linter.unusedSimpArgs false
/-! A daily rule with an end -/
theorem pl4_span {iv ct ua : Int} {un : Bool} (s k : Int) : spanW (pl 4 iv ct un ua) (perV (pl 4 iv ct un ua) s + k) = (86400 * (s / 86400 + k), 86400 * (s / 86400 + k) + 86399) := by
  rw [pl_spanW (by decide) (by decide)]
  rfl
theorem until_end {iv st ua : Int} {ct A : Int} : endsV (pl 4 iv 0 true ua) 4611686018427387904 ct A = (decide (4611686018427387904 < A) || decide (ua < A)) := by
  show (decide (4611686018427387904 < A) || (true && decide (ua < A)) || (decide ((0 : Int) < 0) && decide ((0 : Int) ≤ ct))) = _
  simp
theorem until_goes {iv st ua ct t : Int} : goesV (pl 4 iv 0 true ua) st ct t = (decide (st < t) && decide (t ≤ ua)) := by
  show (decide (st < t) && (!true || decide (t ≤ ua)) && (decide ((0 : Int) = 0) || decide (ct < 0))) = _
  simp
structure UntilB (iv st ua : Int) : Prop where
  i1 : 1 ≤ iv
  i2 : iv ≤ 1000
  s1 : -62000000000 ≤ st
  s2 : st ≤ 200000000000
  u1 : InT ua
theorem until_span {iv st ua : Int} (h : UntilB iv st ua) {k : Int} (hk : 0 ≤ k) (hk' : k ≤ 100000) : spanV (pl 4 iv 0 true ua) (perV (pl 4 iv 0 true ua) st + k) = (86400 * (st / 86400 + k), 86400 * (st / 86400 + k) + 86399, 0) := by
  have hR : Right (pl 4 iv 0 true ua) := pl_right (by decide) (by decide) h.i1 h.i2 (by decide) (by decide) (Or.inr ⟨rfl, rfl, h.u1⟩)
  have s1 := h.s1
  have s2 := h.s2
  have := spanV_ok (p := perV (pl 4 iv 0 true ua) st + k) hR.lens (fun q => by cases q) (by rw [pl4_span]; unfold InT; dsimp only; omega) (by rw [pl4_span]; unfold InT; dsimp only; omega)
  rw [pl4_span] at this
  exact this
theorem until_lets {iv st ua k : Int} : letsL (pl 4 iv 0 true ua) st (86400 * (st / 86400 + k)) (86400 * (st / 86400 + k) + 86399) = [st + k * 86400] := by
  have := pl_lets (fr := 4) (iv := iv) (ct := 0) (ua := ua) (un := true) (by decide) (by decide) st k
  rw [pl4_span] at this
  exact this
theorem until_step {iv st ua from_ : Int} (h : UntilB iv st ua) {k : Nat} {q : Int} (hq : 0 ≤ q) (hq' : q ≤ 100000) (hu : 86400 * (st / 86400 + q) ≤ ua) {S : St} (h0 : 0 ≤ S.sp) (h2 : S.sp + 2 ≤ 3000) :
    worksV (pl 4 iv 0 true ua) st from_ 4611686018427387904 3000 (k + 1) (perV (pl 4 iv 0 true ua) st + q) S = worksV (pl 4 iv 0 true ua) st from_ 4611686018427387904 3000 k (perV (pl 4 iv 0 true ua) st + q + iv) (if (decide (st < st + q * 86400) && decide (st + q * 86400 ≤ ua)) = true then tellV from_ 4611686018427387904 ⟨S.sp + 2, S.ct, S.out⟩ (st + q * 86400) else ⟨S.sp + 2, S.ct, S.out⟩) := by
  have s2 := h.s2
  have := step_one (from_ := from_) (to_ := 4611686018427387904) (F := 3000) (S := S) (k := k) (until_span h hq hq') (by rw [until_end (st := st), decide_eq_false (by omega), decide_eq_false (by omega)]; rfl) rfl (until_lets (iv := iv) (ua := ua)) h0 h2
  rw [this, until_goes]
  rfl
theorem until_stop {iv st ua from_ : Int} (h : UntilB iv st ua) {k : Nat} {q : Int} (hq : 0 ≤ q) (hq' : q ≤ 100000) (hu : ua < 86400 * (st / 86400 + q)) {S : St} : worksV (pl 4 iv 0 true ua) st from_ 4611686018427387904 3000 (k + 1) (perV (pl 4 iv 0 true ua) st + q) S = some S := by
  refine step_end (Or.inr ?_)
  rw [until_span h hq hq', until_end (st := st), decide_eq_true hu]
  exact Bool.or_true _
theorem until_begin {iv st ua from_ : Int} (h : UntilB iv st ua) (hf : from_ ≤ st) : beginV (pl 4 iv 0 true ua) st from_ = (perV (pl 4 iv 0 true ua) st, true) := by
  have s0 := until_span h (k := 0) (by decide) (by decide)
  rw [Int.add_zero] at s0
  unfold beginV
  rw [if_pos (Or.inr (Or.inr hf)), s0]
  rfl
theorem times_until {iv st more : Int} {n : Nat} (h1 : 1 ≤ iv) (h2 : iv ≤ 10) (hn : n < 20) (hm : 0 ≤ more) (hm' : more < 86400) (hs : -62000000000 ≤ st) (hs' : st ≤ 200000000000) :
    ∃ c, timesV (pl 4 iv 0 true (st + (n : Int) * iv * 86400 + more)) st st 4611686018427387904 3000 = ((List.range (n + 1)).map fun (i : Nat) => st + (i : Int) * iv * 86400, c, 0) := by
  have hnv : 0 ≤ (n : Int) * iv ∧ (n : Int) * iv ≤ 200 := by
    refine ⟨Int.mul_nonneg (by omega) (by omega), ?_⟩
    calc (n : Int) * iv ≤ 20 * iv := Int.mul_le_mul_of_nonneg_right (by omega) (by omega)
      _ ≤ 20 * 10 := Int.mul_le_mul_of_nonneg_left (by omega) (by omega)
      _ = 200 := rfl
  have h : UntilB iv st (st + (n : Int) * iv * 86400 + more) := ⟨h1, by omega, hs, hs', by unfold InT; omega⟩
  generalize hua : st + (n : Int) * iv * 86400 + more = ua at h ⊢
  have run : ∀ (j i k : Nat), i + j = n + 1 → 0 < i → worksV (pl 4 iv 0 true ua) st st 4611686018427387904 3000 (k + j) (perV (pl 4 iv 0 true ua) st + (i : Int) * iv) ⟨2 * (i : Int), i, (List.range i).map fun (i : Nat) => st + (i : Int) * iv * 86400⟩ = worksV (pl 4 iv 0 true ua) st st 4611686018427387904 3000 k (perV (pl 4 iv 0 true ua) st + ((n + 1 : Nat) : Int) * iv) ⟨2 * ((n + 1 : Nat) : Int), ((n + 1 : Nat) : Int), (List.range (n + 1)).map fun (i : Nat) => st + (i : Int) * iv * 86400⟩ := by
    intro j
    induction j with
    | zero =>
      intro i k hij hi
      obtain rfl : i = n + 1 := by omega
      rfl
    | succ j ih =>
      intro i k hij hi
      have hi' : i ≤ n := by omega
      have b0 : 0 < (i : Int) * iv := Int.mul_pos (by omega) (by omega)
      have b1 : (i : Int) * iv ≤ (n : Int) * iv := Int.mul_le_mul_of_nonneg_right (by omega) (by omega)
      have e2 : perV (pl 4 iv 0 true ua) st + (i : Int) * iv + iv = perV (pl 4 iv 0 true ua) st + ((i + 1 : Nat) : Int) * iv := by
        rw [Int.natCast_succ, Int.add_mul, Int.one_mul]; omega
      rw [show k + (j + 1) = (k + j) + 1 by omega, until_step h (by omega) (by omega) (by omega) (by dsimp only; omega) (by dsimp only; omega), if_pos (by rw [decide_eq_true (by omega), decide_eq_true (by omega)]; rfl), e2]
      have e : tellV st 4611686018427387904 ⟨2 * (i : Int) + 2, (i : Int), (List.range i).map fun (i : Nat) => st + (i : Int) * iv * 86400⟩ (st + (i : Int) * iv * 86400) = ⟨2 * ((i + 1 : Nat) : Int), ((i + 1 : Nat) : Int), (List.range (i + 1)).map fun (i : Nat) => st + (i : Int) * iv * 86400⟩ := by
        unfold tellV
        rw [if_pos (by omega), List.range_succ, List.map_append]
        simp
        omega
      rw [e]
      exact ih (i + 1) k (by omega) (by omega)
  have e0 : tellV st 4611686018427387904 ⟨0, 0, []⟩ st = ⟨0, 1, [st]⟩ := by
    unfold tellV
    rw [if_pos (by omega)]
    rfl
  have first : ∀ k, worksV (pl 4 iv 0 true ua) st st 4611686018427387904 3000 (k + 1) (perV (pl 4 iv 0 true ua) st) ⟨0, 1, [st]⟩ = worksV (pl 4 iv 0 true ua) st st 4611686018427387904 3000 k (perV (pl 4 iv 0 true ua) st + ((1 : Nat) : Int) * iv) ⟨2 * ((1 : Nat) : Int), ((1 : Nat) : Int), (List.range 1).map fun (i : Nat) => st + (i : Int) * iv * 86400⟩ := fun k => by
    have := until_step (from_ := st) (k := k) (q := 0) (S := ⟨0, 1, [st]⟩) h (by decide) (by decide) (by omega) (by dsimp only; omega) (by dsimp only; omega)
    rw [Int.add_zero] at this
    rw [this, if_neg (by rw [decide_eq_false (by omega)]; simp)]
    simp [List.range_succ]
  have ex : ∃ c, goneV (pl 4 iv 0 true ua) st st 4611686018427387904 3000 = some ⟨c, ((n + 1 : Nat) : Int), (List.range (n + 1)).map fun (i : Nat) => st + (i : Int) * iv * 86400⟩ := by
    unfold goneV
    rw [until_begin h (Int.le_refl _), if_pos rfl, e0]
    dsimp only
    rw [show (3000 : Int).toNat = 3000 from rfl, show 3000 + 2 = (3001 - n + n) + 1 by omega, first, run n 1 (3001 - n) (by omega) (by omega)]
    have b1 : ((n + 1 : Nat) : Int) * iv = (n : Int) * iv + iv := by rw [Int.natCast_succ, Int.add_mul, Int.one_mul]
    by_cases c : 86400 * (st / 86400 + ((n + 1 : Nat) : Int) * iv) ≤ ua
    · rw [show 3001 - n = (2999 - n + 1) + 1 by omega, until_step h (by omega) (by omega) c (by dsimp only; omega) (by dsimp only; omega), if_neg (by rw [decide_eq_false (show ¬ st + ((n + 1 : Nat) : Int) * iv * 86400 ≤ ua by omega)]; simp)]
      rw [show perV (pl 4 iv 0 true ua) st + ((n + 1 : Nat) : Int) * iv + iv = perV (pl 4 iv 0 true ua) st + (((n + 1 : Nat) : Int) * iv + iv) by omega]
      exact ⟨_, until_stop h (by omega) (by omega) (by omega)⟩
    · rw [show 3001 - n = (3000 - n) + 1 by omega]
      exact ⟨_, until_stop h (by omega) (by omega) (by omega)⟩
  obtain ⟨c, hc⟩ := ex
  refine ⟨c, ?_⟩
  unfold timesV
  rw [if_pos (by unfold mayT; omega), hc]
theorem times_past {iv st : Int} (h1 : 1 ≤ iv) (h2 : iv ≤ 10) (hs : -62000000000 ≤ st) (hs' : st ≤ 200000000000) :
    ∃ c, c ≤ 2 ∧ timesV (pl 4 iv 0 true (st - 1)) st (st - 86400) 4611686018427387904 3000 = ([st], c, 0) := by
  have h : UntilB iv st (st - 1) := ⟨h1, by omega, hs, hs', by unfold InT; omega⟩
  have e0 : tellV (st - 86400) 4611686018427387904 ⟨0, 0, []⟩ st = ⟨0, 1, [st]⟩ := by
    unfold tellV
    rw [if_pos (by omega)]
    rfl
  have ex : ∃ c, c ≤ 2 ∧ goneV (pl 4 iv 0 true (st - 1)) st (st - 86400) 4611686018427387904 3000 = some ⟨c, 1, [st]⟩ := by
    unfold goneV
    rw [until_begin h (by omega), if_pos rfl, e0]
    dsimp only
    rw [show (3000 : Int).toNat + 2 = 3000 + 1 + 1 from rfl]
    by_cases c : 86400 * (st / 86400 + 0) ≤ st - 1
    · have := until_step (from_ := st - 86400) (k := 3000 + 1) (q := 0) (S := ⟨0, 1, [st]⟩) h (by decide) (by decide) c (by dsimp only; omega) (by dsimp only; omega)
      rw [Int.add_zero] at this
      rw [this, if_neg (by rw [decide_eq_false (by omega)]; simp)]
      exact ⟨2, by decide, until_stop h (by omega) (by omega) (by omega)⟩
    · have := until_stop (from_ := st - 86400) (k := 3000 + 1) (q := 0) (S := ⟨0, 1, [st]⟩) h (by decide) (by decide) (by omega)
      rw [Int.add_zero] at this
      exact ⟨0, by decide, this⟩
  obtain ⟨c, hc, e⟩ := ex
  refine ⟨c, hc, ?_⟩
  unfold timesV
  rw [if_pos (by unfold mayT; omega), e]
end Go.Proofs.YtjjaiahfkiojlaaGreat.Pure

namespace Go.Proofs.YtjjaiahfkiojlaaGreat.Pure
open Go.RowKit Go.Proofs.YtjjaiahfkiojlaaGreat.O Go.Proofs.YtjjaiahfkiojlaaGreatW.PrintWords Go.Proofs.YtjjaiahfkiojlaaGreatW.PrintLast
open Go.Proofs.YtjjaiahfkiojlaaGreat.Civ
set_option linter.unusedVariables false
set_option linter.unusedSimpArgs false
set_option maxRecDepth 100000
set_option maxHeartbeats 4000000
section
variable {ρ : Operand → Value} {o : Oper} {w : World}
theorem run_max {x y : Operand} {a b : Int} (ho : o.op = .call { callee := .builtin .max, args := #[x, y], argTypes := #[3, 3] }) (hx : ρ x = .int .i64 a) (hy : ρ y = .int .i64 b) : (execOp ρ o).run Tryz.prog w = .ok (.value (.int .i64 (max a b))) w := by
  have hu3 := Tryz.underlying3
  unfold execOp; rw [ho]
  first | (go_simp; done) | (go_simp; rfl)
theorem b25u_run (iv ua : Int) (w : World) : (Instr.build 25 #[(0, .int .i64 4), (1, .int .i64 iv), (3, .bool true), (4, .int .i64 ua), (15, .int .i64 1)]).run Tryz.prog w = .ok (.agg (rc (pl 4 iv 0 true ua) nilS)) w := by kernel_rfl
theorem run_b25u {x1 x4 : Operand} {iv ua : Int} (ho : o.op = .build 25 #[(0, .const (.int .i64 4)), (1, x1), (3, .const (.bool true)), (4, x4), (15, .const (.int .i64 1))]) (hc : ∀ v, ρ (.const v) = v) (h1 : ρ x1 = .int .i64 iv) (h2 : ρ x4 = .int .i64 ua) : (execOp ρ o).run Tryz.prog w = .ok (.value (.agg (rc (pl 4 iv 0 true ua) nilS))) w := by
  unfold execOp; rw [ho]
  simp only [h1, h2, hc, List.map_toArray, List.map_cons, List.map_nil]
  rw [Sem.run_bind, b25u_run]
  rfl
end
theorem max_st {t : Int} (h : InT t) : -62000000000 ≤ max (Int.tmod t 200000000000) (-62000000000) ∧ max (Int.tmod t 200000000000) (-62000000000) ≤ 200000000000 := by
  have := tmod_st h
  omega
theorem until_w {s n ev mo : Int} (hs : -62000000000 ≤ s) (hs' : s ≤ 200000000000) (h0 : 0 ≤ n) (h1 : n ≤ 20) (h3 : 1 ≤ ev) (h4 : ev ≤ 10) (h5 : 0 ≤ mo) (h6 : mo < 86400) : wrap64 (wrap64 (s + wrap64 (wrap64 (n * ev) * 86400)) + mo) = s + n * ev * 86400 + mo ∧ wrap64 (s + wrap64 (wrap64 (n * ev) * 86400)) = s + n * ev * 86400 ∧ InT (s + n * ev * 86400 + mo) := by
  have b : 0 ≤ n * ev := Int.mul_nonneg h0 (by omega)
  have c : n * ev ≤ 20 * 10 := Int.le_trans (Int.mul_le_mul_of_nonneg_right h1 (by omega)) (Int.mul_le_mul_of_nonneg_left h4 (by omega))
  rw [w64 (x := n * ev) (by omega) (by omega), w64 (x := n * ev * 86400) (by omega) (by omega), w64 (x := s + n * ev * 86400) (by omega) (by omega), w64 (by omega) (by omega)]
  exact ⟨rfl, rfl, by unfold InT; omega⟩
theorem RruleUntil_on {w : World} (a0 a1 a2 a3 : Int) : Calls Tryz.prog 10 #[.int .i64 a0, .int .i64 a1, .int .i64 a2, .int .i64 a3] w (Rets w (.bool true)) := by
  obtain ⟨ev, v1, v2, ee⟩ := um1 a1 (n := 10) (by decide) (by decide)
  obtain ⟨m, m1, m2, em⟩ := um a2 (n := 20) (by decide) (by decide)
  obtain ⟨mo, o1, o2, eo⟩ := um a3 (n := 86400) (by decide) (by decide)
  obtain ⟨mi, rfl⟩ : ∃ mi : Nat, m = (mi : Int) := ⟨m.toNat, by omega⟩
  refine en_ Tryz.func10 rfl rfl rfl fun a K => sr_ (run_ 1 K rfl fun a K => nil_ (sr_ (run_ 1 K rfl fun a K => cl_ K Tryz.func14 (by kernel_rfl) rfl rfl rfl rfl rfl rfl ((some_on a0).mono ?_))))
  rintro _ w1 ⟨t, ht, rfl, b1⟩
  have M := (On.nil w).call b1
  obtain ⟨s1, s2⟩ := max_st ht
  refine ⟨_, rfl, fun a K => run_ 1 K rfl fun a K => val_ K rfl rfl rfl (run_max rfl (K.of (x := .tmp 18) rfl) rfl) fun a K => run_ 1 K rfl fun a K => nil_ (sr_ (run_ 16 K rfl fun a K => nil_ ?_))⟩
  replace K := fg_ (E' := [(0, .int .i64 (max (Int.tmod t 200000000000) (-62000000000))), (1, .int .i64 ev), (2, .int .i64 (mi : Int)), (3, .int .i64 mo)]) (ks_ (i := 1) (u := .int .i64 ev) (ks_ (i := 2) (u := .int .i64 (mi : Int)) (ks_ (i := 3) (u := .int .i64 mo) K rfl (congrArg (Value.int .i64) eo)) rfl (congrArg (Value.int .i64) em)) rfl (congrArg (Value.int .i64) ee)) ⟨rfl, rfl, rfl, rfl, trivial⟩
  clear ee em eo
  generalize max (Int.tmod t 200000000000) (-62000000000) = s at s1 s2 K
  obtain ⟨w1', w2', w3'⟩ := until_w s1 s2 (show (0 : Int) ≤ mi by omega) (show (mi : Int) ≤ 20 by omega) v1 v2 o1 o2
  obtain ⟨c1, t1⟩ := times_until v1 v2 (show mi < 20 by omega) o1 o2 s1 s2
  obtain ⟨c2, hc2, t2⟩ := times_past v1 v2 s1 s2
  have hI : InT s := by unfold InT; omega
  have hI1 : InT (s - 1) := by unfold InT; omega
  have hR1 : Right (pl 4 ev 0 true (s + (mi : Int) * ev * 86400 + mo)) := pl_right (by decide) (by decide) v1 (by omega) (by decide) (by decide) (Or.inr ⟨rfl, rfl, w3'⟩)
  have hR2 : Right (pl 4 ev 0 true (s - 1)) := pl_right (by decide) (by decide) v1 (by omega) (by decide) (by decide) (Or.inr ⟨rfl, rfl, hI1⟩)
  have ws1 : wrap64 (s - 1) = s - 1 := w64 (by omega) (by omega)
  have ws2 : wrap64 (s - 86400) = s - 86400 := w64 (by omega) (by omega)
  have hmi : mi < mi + 1 := by omega
  have hm30 : mi + 1 ≤ 30 := by omega
  have wn : wrap64 ((mi : Int) + 1) = ((mi + 1 : Nat) : Int) := by rw [w64 (by omega) (by omega)]; omega
  clear v1 v2 m1 m2 o1 o2 s1 s2 w3' hI1
  refine sr_ (run_ 9 K rfl fun a K => ?_)
  replace K := ks_ (i := 41) K rfl (congrArg (Value.int .i64) w1')
  refine val_ K rfl rfl rfl (run_b25u rfl (fun _ => rfl) (K.of (x := .tmp 33) rfl) (K.of (x := .tmp 41) rfl)) fun a K => nwG_ K M rfl rfl rfl rfl rfl rfl rfl (fun _ => rfl) rfl rfl rfl fun a g W G M K => nil_ ?_
  refine sr_ (lda_ K M 0 rfl rfl rfl rfl rfl rfl rfl rfl fun a K => run_ 2 K rfl fun a K => cl_ K Tryz.func18 (by kernel_rfl) rfl rfl rfl rfl rfl rfl ((Times_on (pl_rul _ _ _ _ _ _) hR1 pl_few hI).mono ?_))
  rintro _ w3 ⟨v3, rfl, R3, b3⟩
  rw [t1] at R3 ⊢
  replace M := M.call b3
  clear t1 hR1
  have hlen : ((List.range (mi + 1)).map fun (i : Nat) => s + (i : Int) * ev * 86400).length = mi + 1 := by simp
  have hget : ((List.range (mi + 1)).map fun (i : Nat) => s + (i : Int) * ev * 86400)[mi]? = some (s + (mi : Int) * ev * 86400) := by simp
  generalize ((List.range (mi + 1)).map fun (i : Nat) => s + (i : Int) * ev * 86400) = X at R3 hlen hget
  refine ⟨_, rfl, fun a K => run_ 7 K rfl fun a K => nil_ (sr_ (run_ 3 K rfl fun a K => ?_))⟩
  replace K := ks_ (i := 52) K rfl (congrArg (Value.int .i64) ws1)
  refine stc_ K M 0 rfl G rfl rfl rfl rfl rfl rfl (show 4 < 16 by decide) fun W4 hW M4 => nil_ ?_
  have R4 : Kd.R (Kd.int .i64) 3 W4 W.heap.size (fun _ => True) v3 X := by rw [hW]; exact Kd.R_set R3 (M.me 0 _ _ rfl) (ty3 (show 25 ≠ 3 by decide)) 4 _
  replace M4 : On [(g, .cells (rc (pl 4 ev 0 true (s - 1)) nilS) 25 (0, 0))] w W4 := M4
  clear R3 M hW
  obtain ⟨A3, c3, e3, h3, C3⟩ := Kd.R_reads R4
  subst e3
  clear R4
  obtain ⟨ad, eA, hat⟩ := C_at C3 (by rw [hlen]; exact Nat.succ_pos _)
  subst eA
  have hx := hat mi _ hget
  refine sr_ (lda_ K M4 0 rfl rfl rfl rfl rfl rfl rfl rfl fun a K => run_ 3 K rfl fun a K => ?_)
  replace K := ks_ (i := 58) K rfl (congrArg (Value.int .i64) ws2)
  refine cl_ K Tryz.func18 (by kernel_rfl) rfl rfl rfl rfl rfl rfl ((Times_on (pl_rul _ _ _ _ _ _) hR2 pl_few hI).mono ?_)
  rintro _ w5 ⟨v5, rfl, R5, b5⟩
  rw [t2] at R5 ⊢
  replace M4 := M4.call b5
  have hx5 := (b5.cell (World.block_lt_of_cell? _ _ hx)).trans hx
  obtain ⟨A5, c5, e5, h5, C5⟩ := Kd.R_reads R5
  subst e5
  clear R5 hR2 hI t2
  refine ⟨_, rfl, fun a K => run_ 7 K rfl fun a K => nil_ (wp_seq (sr_ (run_ 3 K rfl fun a K => run_ 7 (fx_ (c := false) K rfl) rfl fun a K => ?_)))⟩
  have e10 : (!decide (((X.length : Nat) : Int) = wrap64 ((mi : Int) + 1))) = false := neq_f (by rw [hlen, wn])
  refine run_ 2 (fx_ (c := false) K e10) rfl fun a K => ix_ K (show mi < X.length by rw [hlen]; exact hmi) (by rw [hlen]; exact Nat.le_trans hm30 (by decide)) rfl rfl rfl rfl rfl rfl fun a K => el_ K hx5 rfl rfl rfl rfl rfl fun a K => run_ 8 K rfl fun a K => nil_ ?_
  refine cs_ K rfl (neq_f w2'.symm) (sr_ (run_ 3 K rfl fun a K => run_ 2 (fx_ (c := true) K rfl) rfl fun a K => bsi_ K M4 rfl rfl rfl rfl rfl fun a g' W6 G6 B6 M6 K => cl_ K Tryz.func26 (by kernel_rfl) rfl rfl rfl rfl rfl rfl ((ints_on (l := [s]) (Kd.C_below C5 B6) h5 (c_one (M6.me 0 _ _ rfl)) (Nat.le_refl 1) (show (1 : Nat) ≤ 1000000 by decide)).mono ?_)))
  rintro _ w7 ⟨rfl, b7⟩
  replace M6 := M6.call b7
  refine ⟨_, rfl, fun a K => run_ 2 K rfl fun a K => run_ 4 (fx_ (c := true) K rfl) rfl fun a K => cl_ (fx_ (c := true) K (decide_eq_true hc2)) Tryz.func19 (by kernel_rfl) rfl rfl rfl rfl rfl rfl (wakes_on.mono ?_)⟩
  rintro _ w8 ⟨rfl, b8⟩
  exact ⟨_, rfl, fun a K => run_ 2 K rfl fun a K => nil_ (ret_ rfl K rfl ⟨rfl, (M6.call b8).bl⟩)⟩
end Go.Proofs.YtjjaiahfkiojlaaGreat.Pure
