/- A rule with a list more: right, and what it lets, in plain numbers. No condition beyond those each lemma names. -/
import Derived.Test.YtmhpmkbifhgnbaaMHS6
import Derived.Test.YtmhpmkbifhgnbaaOx23
namespace Go.Proofs.Ytmhpmkbifhgnbaa.Pure
open Go.RowKit Go.Proofs.Ytmhpmkbifhgnbaa.O Go.Proofs.YtmhpmkbifhgnbaaW.PrintWords Go.Proofs.YtmhpmkbifhgnbaaW.PrintLast
open Go.Proofs.Ytmhpmkbifhgnbaa.Civ
set_option linter.unusedVariables false
set_option linter.unusedSimpArgs false
theorem right_parts {r : RR} (h : Right r) : (1 ≤ r.fr ∧ r.fr ≤ 7) ∧ (1 ≤ r.iv ∧ r.iv ≤ 1000) ∧ (0 ≤ r.wk ∧ r.wk ≤ 6) ∧ okList r.sec 0 59 false = true ∧ okList r.mi 0 59 false = true ∧ okList r.ho 0 23 false = true ∧ okList r.md 1 31 true = true ∧ okList r.yd 1 366 true = true ∧ okList r.wn 1 53 true = true ∧ okList r.mo 1 12 false = true ∧ okList r.sp 1 366 true = true ∧ (r.dy.all (okBy ((decide (r.fr = 6) || decide (r.fr = 7)) && decide ((r.wn.length : Int) = 0))) && dis47 r.dy && decide (r.dy.length ≤ 1000000000)) = true ∧ okBeside r.fr r.sec.length r.mi.length r.ho.length r.dy.length r.md.length r.yd.length r.wn.length r.mo.length r.sp.length = true := by
  have hh := h.ok
  simp only [okRecur, Bool.and_eq_true, decide_eq_true_eq] at hh
  obtain ⟨⟨⟨⟨⟨q1, q2⟩, q3⟩, ⟨⟨⟨⟨⟨⟨⟨p6, p7⟩, p8⟩, p10⟩, p11⟩, p12⟩, p13⟩, p14⟩⟩, p9⟩, pb⟩ := hh
  exact ⟨q1, q2, q3, p6, p7, p8, p10, p11, p12, p13, p14, by simp only [Bool.and_eq_true, decide_eq_true_eq]; exact p9, pb⟩
theorem right_of {r : RR} (q1 : 1 ≤ r.fr ∧ r.fr ≤ 7) (q2 : 1 ≤ r.iv ∧ r.iv ≤ 1000) (q3 : 0 ≤ r.wk ∧ r.wk ≤ 6) (p6 : okList r.sec 0 59 false = true) (p7 : okList r.mi 0 59 false = true) (p8 : okList r.ho 0 23 false = true) (p10 : okList r.md 1 31 true = true) (p11 : okList r.yd 1 366 true = true) (p12 : okList r.wn 1 53 true = true) (p13 : okList r.mo 1 12 false = true) (p14 : okList r.sp 1 366 true = true)
    (p9 : (r.dy.all (okBy ((decide (r.fr = 6) || decide (r.fr = 7)) && decide ((r.wn.length : Int) = 0))) && dis47 r.dy && decide (r.dy.length ≤ 1000000000)) = true) (pb : okBeside r.fr r.sec.length r.mi.length r.ho.length r.dy.length r.md.length r.yd.length r.wn.length r.mo.length r.sp.length = true)
    (c0 : 0 ≤ r.ct) (c1 : r.ct ≤ 100000) (en : (r.un = false ∧ r.ua = 0 ∧ r.utc = false) ∨ (r.un = true ∧ r.ct = 0 ∧ InT r.ua)) : Right r := by
  refine ⟨?_, c0, c1, en⟩
  simp only [Bool.and_eq_true, decide_eq_true_eq] at p9
  simp only [okRecur, Bool.and_eq_true, decide_eq_true_eq]
  exact ⟨⟨⟨⟨⟨q1, q2⟩, q3⟩, ⟨⟨⟨⟨⟨⟨⟨p6, p7⟩, p8⟩, p10⟩, p11⟩, p12⟩, p13⟩, p14⟩⟩, p9⟩, pb⟩
def upTo (lo : Int) (n : Nat) : List Int := (List.range n).map fun k : Nat => lo + (k : Int)
theorem upTo_succ (lo : Int) (n : Nat) : upTo lo (n + 1) = upTo lo n ++ [lo + (n : Int)] := by unfold upTo; rw [List.range_succ, List.map_append]; rfl
theorem upTo_len (lo : Int) (n : Nat) : (upTo lo n).length = n := by unfold upTo; simp
theorem mem_upTo {lo x : Int} {n : Nat} (h : lo ≤ x) (h' : x < lo + n) : x ∈ upTo lo n := by
  unfold upTo
  rw [List.mem_map]
  exact ⟨(x - lo).toNat, List.mem_range.2 (by omega), by omega⟩
theorem ok_mo : okList (upTo 1 12) 1 12 false = true := by decide
theorem ok_ho : okList (upTo 0 24) 0 23 false = true := by decide
theorem ok_md : okList [1] 1 31 true = true := by decide
theorem right_mo {r : RR} (h : Right r) : Right { r with mo := upTo 1 12 } := by
  obtain ⟨q1, q2, q3, p6, p7, p8, p10, p11, p12, p13, p14, p9, pb⟩ := right_parts h
  refine right_of q1 q2 q3 p6 p7 p8 p10 p11 p12 ok_mo p14 p9 ?_ h.ct0 h.ct1 h.en
  simp only [okBeside, Bool.and_eq_true, Bool.not_eq_true', Bool.and_eq_false_iff, Bool.or_eq_false_iff, Bool.or_eq_true, decide_eq_true_eq, decide_eq_false_iff_not, upTo_len] at pb ⊢
  exact ⟨pb.1, Or.inr (by omega)⟩
theorem right_ho {r : RR} (h : Right r) : Right { r with ho := upTo 0 24 } := by
  obtain ⟨q1, q2, q3, p6, p7, p8, p10, p11, p12, p13, p14, p9, pb⟩ := right_parts h
  refine right_of q1 q2 q3 p6 p7 ok_ho p10 p11 p12 p13 p14 p9 ?_ h.ct0 h.ct1 h.en
  simp only [okBeside, Bool.and_eq_true, Bool.not_eq_true', Bool.and_eq_false_iff, Bool.or_eq_false_iff, Bool.or_eq_true, decide_eq_true_eq, decide_eq_false_iff_not, upTo_len] at pb ⊢
  exact ⟨pb.1, Or.inr (by omega)⟩
theorem right_md {r : RR} (h : Right r) (h5 : ¬ r.fr = 5) : Right { r with md := [1] } := by
  obtain ⟨q1, q2, q3, p6, p7, p8, p10, p11, p12, p13, p14, p9, pb⟩ := right_parts h
  refine right_of q1 q2 q3 p6 p7 p8 ok_md p11 p12 p13 p14 p9 ?_ h.ct0 h.ct1 h.en
  simp only [okBeside, Bool.and_eq_true, Bool.not_eq_true', Bool.and_eq_false_iff, Bool.or_eq_false_iff, Bool.or_eq_true, decide_eq_true_eq, decide_eq_false_iff_not, List.length_cons, List.length_nil] at pb ⊢
  exact ⟨⟨⟨Or.inl h5, pb.1.1.2⟩, pb.1.2⟩, Or.inr (by omega)⟩
theorem right_wn {r : RR} (h : Right r) (h7 : ¬ r.fr = 7) : r.wn = [] := by
  obtain ⟨_, _, _, _, _, _, _, _, _, _, _, _, pb⟩ := right_parts h
  simp only [okBeside, Bool.and_eq_true, Bool.not_eq_true', Bool.and_eq_false_iff, Bool.not_eq_false', decide_eq_true_eq, decide_eq_false_iff_not] at pb
  exact List.length_eq_zero_iff.1 (by have := pb.1.2; omega)
theorem like_4 {r : RR} (h : Right r) (h4 : r.fr ≤ 4) (n first : Int) : likeV r n first = true := by
  unfold likeV
  split
  · rfl
  · rw [if_neg (by rw [right_wn h (by omega)]; simp; omega), if_pos (by omega)]
theorem lets_mo {r : RR} (h : Right r) (hm : r.mo = []) (hd : r.dy = []) (h4 : r.fr ≤ 4) {s t : Int} (ht : InT t) : letsV { r with mo := upTo 1 12 } s t = letsV r s t := by
  have y := dt_year ht
  have hR := (dt_spec (n := t / 86400) (by omega) (by omega)).1
  have e1 : oneV (upTo 1 12) (dt (t / 86400)).2.1 0 false = true := by
    unfold oneV
    rw [if_neg (by decide)]
    exact decide_eq_true (mem_upTo (by have := hR.2.2.1; omega) (by have := hR.2.2.2.1; omega))
  have e2 : oneV r.mo (dt (t / 86400)).2.1 0 false = true := by rw [hm]; rfl
  unfold letsV dayV
  rw [like_4 h h4, like_4 (right_mo h) h4]
  dsimp only
  rw [e1, e2, hd]
  rfl
theorem lets_ho {r : RR} (h : Right r) (hm : r.ho = []) (h3 : r.fr ≤ 3) {s t : Int} : letsV { r with ho := upTo 0 24 } s t = letsV r s t := by
  have e1 : oneV (upTo 0 24) (t % 86400 / 3600) (s % 86400 / 3600) (decide (r.fr > 3)) = true := by
    unfold oneV
    rw [if_neg (by decide)]
    exact decide_eq_true (mem_upTo (by omega) (by omega))
  have e2 : oneV r.ho (t % 86400 / 3600) (s % 86400 / 3600) (decide (r.fr > 3)) = true := by rw [hm]; unfold oneV; rw [if_pos rfl, decide_eq_false (by omega)]; rfl
  unfold letsV clockV
  dsimp only
  rw [e1, e2]
  rfl
theorem lets_md {r : RR} (h : Right r) (hm : r.md = []) (h5 : ¬ r.fr = 5) (h4 : r.fr ≤ 4) {s t : Int} (ht : InT t) : letsV { r with md := [1] } s t = (letsV r s t && decide ((dt (t / 86400)).2.2 = 1)) := by
  have y := dt_year ht
  have hR := (dt_spec (n := t / 86400) (by omega) (by omega)).1
  have e1 : eitherV [1] (dt (t / 86400)).2.2 (ln (dt (t / 86400)).1 (dt (t / 86400)).2.1) = decide ((dt (t / 86400)).2.2 = 1) := by
    unfold eitherV
    rw [Bool.eq_iff_iff]
    simp only [Bool.or_eq_true, decide_eq_true_eq, List.mem_singleton, reduceCtorEq, false_or]
    have := hR.2.2.2.2
    omega
  have e2 : eitherV r.md (dt (t / 86400)).2.2 (ln (dt (t / 86400)).1 (dt (t / 86400)).2.1) = true := by rw [hm]; rfl
  unfold letsV dayV
  rw [like_4 h h4, like_4 (right_md h h5) h4]
  dsimp only
  rw [e1, e2]
  show (_ && _ && (clockV r _ _ && (_ && (weekNoV r _ && _ && _) && (_ || r.dy.any (numberedV r _)) && true))) = _
  generalize decide (InT s) = x1
  generalize decide (InT t) = x2
  generalize clockV r (s % 86400) (t % 86400) = x3
  generalize oneV r.mo (dt (t / 86400)).2.1 0 false = x4
  generalize weekNoV r (t / 86400) = x5
  generalize eitherV r.yd (yd (t / 86400)) (365 + lpi (dt (t / 86400)).1) = x6
  generalize (decide (r.dy = []) || r.dy.any (numberedV r (t / 86400))) = x7
  generalize decide ((dt (t / 86400)).2.2 = 1) = x8
  cases x1 <;> cases x2 <;> cases x3 <;> cases x4 <;> cases x5 <;> cases x6 <;> cases x7 <;> cases x8 <;> rfl
theorem rul_set13 {w : World} {cs : Array Value} {r : RR} (R : Rul w cs r) {v : Value} {l : List Int} (h : InL w (some v) l) : Rul w (cs.setIfInBounds 13 v) { r with mo := l } := by
  have hs := R.sz
  have e : ∀ i : Nat, 13 ≠ i → (cs.setIfInBounds 13 v)[i]? = cs[i]? := fun i q => Array.getElem?_setIfInBounds_ne q
  have e' : (cs.setIfInBounds 13 v)[13]? = some v := by simp [hs]
  exact ⟨by simp [hs], by rw [e 0 (by decide)]; exact R.c0, by rw [e 1 (by decide)]; exact R.c1, by rw [e 2 (by decide)]; exact R.c2, by rw [e 3 (by decide)]; exact R.c3, by rw [e 4 (by decide)]; exact R.c4, by rw [e 5 (by decide)]; exact R.c5, by rw [e 6 (by decide)]; exact R.c6, by rw [e 7 (by decide)]; exact R.c7, by rw [e 8 (by decide)]; exact R.c8, by rw [e 9 (by decide)]; exact R.c9, by rw [e 10 (by decide)]; exact R.c10, by rw [e 11 (by decide)]; exact R.c11, by rw [e 12 (by decide)]; exact R.c12, by rw [e']; exact h, by rw [e 14 (by decide)]; exact R.c14, by rw [e 15 (by decide)]; exact R.c15⟩
theorem rul_set8 {w : World} {cs : Array Value} {r : RR} (R : Rul w cs r) {v : Value} {l : List Int} (h : InL w (some v) l) : Rul w (cs.setIfInBounds 8 v) { r with ho := l } := by
  have hs := R.sz
  have e : ∀ i : Nat, 8 ≠ i → (cs.setIfInBounds 8 v)[i]? = cs[i]? := fun i q => Array.getElem?_setIfInBounds_ne q
  have e' : (cs.setIfInBounds 8 v)[8]? = some v := by simp [hs]
  exact ⟨by simp [hs], by rw [e 0 (by decide)]; exact R.c0, by rw [e 1 (by decide)]; exact R.c1, by rw [e 2 (by decide)]; exact R.c2, by rw [e 3 (by decide)]; exact R.c3, by rw [e 4 (by decide)]; exact R.c4, by rw [e 5 (by decide)]; exact R.c5, by rw [e 6 (by decide)]; exact R.c6, by rw [e 7 (by decide)]; exact R.c7, by rw [e']; exact h, by rw [e 9 (by decide)]; exact R.c9, by rw [e 10 (by decide)]; exact R.c10, by rw [e 11 (by decide)]; exact R.c11, by rw [e 12 (by decide)]; exact R.c12, by rw [e 13 (by decide)]; exact R.c13, by rw [e 14 (by decide)]; exact R.c14, by rw [e 15 (by decide)]; exact R.c15⟩
theorem rul_set10 {w : World} {cs : Array Value} {r : RR} (R : Rul w cs r) {v : Value} {l : List Int} (h : InL w (some v) l) : Rul w (cs.setIfInBounds 10 v) { r with md := l } := by
  have hs := R.sz
  have e : ∀ i : Nat, 10 ≠ i → (cs.setIfInBounds 10 v)[i]? = cs[i]? := fun i q => Array.getElem?_setIfInBounds_ne q
  have e' : (cs.setIfInBounds 10 v)[10]? = some v := by simp [hs]
  exact ⟨by simp [hs], by rw [e 0 (by decide)]; exact R.c0, by rw [e 1 (by decide)]; exact R.c1, by rw [e 2 (by decide)]; exact R.c2, by rw [e 3 (by decide)]; exact R.c3, by rw [e 4 (by decide)]; exact R.c4, by rw [e 5 (by decide)]; exact R.c5, by rw [e 6 (by decide)]; exact R.c6, by rw [e 7 (by decide)]; exact R.c7, by rw [e 8 (by decide)]; exact R.c8, by rw [e 9 (by decide)]; exact R.c9, by rw [e']; exact h, by rw [e 11 (by decide)]; exact R.c11, by rw [e 12 (by decide)]; exact R.c12, by rw [e 13 (by decide)]; exact R.c13, by rw [e 14 (by decide)]; exact R.c14, by rw [e 15 (by decide)]; exact R.c15⟩
theorem rul_one {w : World} {cs : Array Value} {r : RR} (R : Rul w cs r) : cs.toList.all (·.oneCell') = true := by
  obtain ⟨A6, k6, A7, k7, A8, k8, A9, k9, A10, k10, A11, k11, A12, k12, A13, k13, A14, k14, rfl, _⟩ := rul_opens R
  rfl
theorem c_one {W : World} {g : Nat} {x : Int} (h : W.heap[g]? = some (.cells #[.int .i64 x] 3 (0, 0))) : Kd.C (Kd.int .i64) W (some ⟨g, 0, none⟩) 1 [x] := by
  refine ⟨rfl, by simp, fun _ => ⟨_, rfl, fun j p hp => ?_⟩⟩
  have hj := (List.getElem?_eq_some_iff.1 hp).1
  obtain rfl : j = 0 := by simpa using hj
  obtain rfl : x = p := by simpa using hp
  refine ⟨_, rfl, rfl, fun i u hu => ?_⟩
  match i, hu with
  | 0, hu => exact ((blk_cell h 0).trans rfl).trans hu
end Go.Proofs.Ytmhpmkbifhgnbaa.Pure
