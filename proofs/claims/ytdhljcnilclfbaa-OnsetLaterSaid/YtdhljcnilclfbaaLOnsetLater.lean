/- OnsetLater in plain lists: what the law computes is true at all arguments. No condition. -/
import Derived.Test.YtdhljcnilclfbaaG413n
import Derived.Test.YtdhljcnilclfbaaOx0
import Derived.Test.YtdhljcnilclfbaaOx50
import Derived.Test.YtdhljcnilclfbaaOx59
import Derived.Test.YtdhljcnilclfbaaOx80
import Derived.Test.YtdhljcnilclfbaaOx85
namespace Go.Proofs.Ytdhljcnilclfbaa.Pure
open Go.RowKit Go.Proofs.Ytdhljcnilclfbaa.O Go.Proofs.YtdhljcnilclfbaaW.PrintWords Go.Proofs.YtdhljcnilclfbaaW.PrintLast
open Go.Proofs.Ytdhljcnilclfbaa.Civ
theorem um (a : Int) {n : Int} (hn : 0 < n) (hn' : n ≤ 1000000) : ∃ r, 0 ≤ r ∧ r < n ∧ wrap64 (Int.tmod (IntKind.u64.wrap a) n) = r := by
  have h0 : 0 ≤ IntKind.u64.wrap a := by rw [u64w]; omega
  have h1 := Int.emod_nonneg (IntKind.u64.wrap a) (Int.ne_of_gt hn)
  have h2 := Int.emod_lt_of_pos (IntKind.u64.wrap a) hn
  exact ⟨IntKind.u64.wrap a % n, h1, h2, by rw [tmod_nn n h0, w64 (by omega) (by omega)]⟩
theorem um1 (a : Int) {n : Int} (hn : 0 < n) (hn' : n ≤ 1000000) : ∃ r, 1 ≤ r ∧ r ≤ n ∧ wrap64 (1 + wrap64 (Int.tmod (IntKind.u64.wrap a) n)) = r := by
  obtain ⟨r, h0, h1, e⟩ := um a hn hn'
  exact ⟨1 + r, by omega, by omega, by rw [e, w64 (by omega) (by omega)]⟩
/-- A local time as UTC. -/
def utcV (s kd std sv : Int) : Int := if kd = 1 then s - std - sv else if kd = 2 then s - std else s
def utcP (s kd std sv : Int) : Prop := 1 ≤ kd ∧ kd ≤ 3 ∧ -4611686018427387904 ≤ s ∧ s ≤ 4611686018427387904 ∧ -345600 ≤ std ∧ std ≤ 345600 ∧ -345600 ≤ sv ∧ sv ≤ 345600
instance (s kd std sv : Int) : Decidable (utcP s kd std sv) := by unfold utcP; infer_instance
theorem yrs_filter (r : S43) (i a : Int) : ∀ (n : Nat) (y : Int), (yrs r i n y).filter (fun x => decide (x.f1 ≤ a)) = yrs r i (min n (a - y + 1).toNat) y
  | 0, y => by simp [yrs]
  | n + 1, y => by
    have ih := yrs_filter r i a n (y + 1)
    rw [yrs, List.filter_append, ih]
    by_cases h : y ≤ a
    · have e : min (n + 1) (a - y + 1).toNat = (min n (a - (y + 1) + 1).toNat) + 1 := by omega
      rw [e, yrs]
      congr 1
      split
      · simp [h]
      · rfl
    · have e : min (n + 1) (a - y + 1).toNat = 0 := by omega
      have e2 : min n (a - (y + 1) + 1).toNat = 0 := by omega
      rw [e, e2, yrs, yrs, List.append_nil]
      split
      · simp [h]
      · rfl
theorem gen_filter (name : ByteArray) {a b : Int} (hb : 0 ≤ b) : ∀ (l : List S43) (i : Int), (gen name (a + b) l i).filter (fun x => decide (x.f1 ≤ a)) = gen name a l i
  | [], _ => rfl
  | r :: rs, i => by
    rw [gen, gen, List.filter_append, gen_filter name hb rs (i + 1)]
    congr 1
    split
    · rw [yrs_filter]
      congr 1
      omega
    · rfl
theorem gen_len (name : ByteArray) (last : Int) : ∀ (l : List S43) (i : Int), (∀ r ∈ l, RuleOk r) → (gen name last l i).length ≤ 10000 * l.length
  | [], _, _ => Nat.le_refl _
  | r :: rs, i, h => by
    have ih := gen_len name last rs (i + 1) (fun x hx => h x (List.mem_cons_of_mem _ hx))
    have ho := h r List.mem_cons_self
    have hy := yrs_len r i (min r.f2 last - r.f1 + 1).toNat r.f1
    have hb : (min r.f2 last - r.f1 + 1).toNat ≤ 9999 := by
      have := ho.fr; have := ho.too; omega
    rw [gen, List.length_append, List.length_cons]
    split
    · omega
    · simp; omega
theorem srt_filter (name : ByteArray) {a b : Int} (hb : 0 ≤ b) (l : List S43) : (srt37 (gen name (a + b) l 0)).filter (fun x => decide (x.f1 ≤ a)) = srt37 (gen name a l 0) := by
  refine sorted_unique _ _ ?_ ((srt37_sorted _).filter _) (srt37_sorted _)
  have h1 := (srt37_perm (gen name (a + b) l 0)).filter (fun x => decide (x.f1 ≤ a))
  rw [gen_filter name hb] at h1
  exact h1.trans (srt37_perm _).symm
theorem keep_l (x : List S37) (hx : x.length < 4611686018427387904) : ∀ (n i : Nat), i + n = x.length → Ev (fun k => solsticekeep_Onsets.l0 k x x i) true
  | 0, i, h => by
    refine evstep ?_
    simp only [solsticekeep_Onsets.l0, if_neg (show ¬ ((i : Nat) : Int) < (x.length : Int) by omega)]
    exact Ev.now _
  | n + 1, i, h => by
    have ih := keep_l x hx n (i + 1) (by omega)
    refine evstep ?_
    simp only [solsticekeep_Onsets.l0, if_pos (show ((i : Nat) : Int) < (x.length : Int) by omega), if_pos (show (0 : Int) ≤ ((i : Nat) : Int) by omega), wsuc i (by omega)]
    simpa using ih
theorem keep_ev (x : List S37) (hx : x.length < 4611686018427387904) : Ev (fun k => solsticekeep_Onsets.f k x x) true := by
  unfold solsticekeep_Onsets.f
  simp only [if_true]
  exact keep_l x hx x.length 0 (by omega)
theorem wakes13 : Ev (fun k => solsticelaw13_wakes.f k) true := Ev.of solsticelaw13_wakes.mono (k := 60) (by decide +kernel)
theorem later_l (a : Int) (x y : List S37) (hx : x.length < 4611686018427387904) (hy : y.length < 5864062014805) : ∀ (n i : Nat) (z : List S37), i + n = y.length → z.length ≤ i → z ++ (y.drop i).filter (fun q => decide (q.f1 ≤ a)) = x →
    Ev (fun k => solsticelaw13_OnsetLater.l0 k a x y z i) true
  | 0, i, z, h, hz, he => by
    rw [List.drop_eq_nil_of_le (by omega)] at he
    have hzx : z = x := by simpa using he
    subst hzx
    refine evstep ?_
    simp only [solsticelaw13_OnsetLater.l0, if_neg (show ¬ ((i : Nat) : Int) < (y.length : Int) by omega)]
    refine evb (keep_ev z hx) ?_
    simp only [if_true]
    exact evb wakes13 (Ev.now _)
  | n + 1, i, z, h, hz, he => by
    have hi : i < y.length := by omega
    have hd : y.drop i = y[i] :: y.drop (i + 1) := List.drop_eq_getElem_cons hi
    rw [hd] at he
    refine evstep ?_
    simp only [solsticelaw13_OnsetLater.l0, if_pos (show ((i : Nat) : Int) < (y.length : Int) by omega), if_pos (show (0 : Int) ≤ ((i : Nat) : Int) by omega), wsuc i (by omega), rd37 y i hi]
    refine evif (fun hc => ?_) (fun hc => ?_)
    · simp only [if_pos (show z.length < 5864062014805 by omega)]
      refine later_l a x y hx hy n (i + 1) (z ++ [y[i]]) (by omega) (by simp; omega) ?_
      rw [List.filter_cons, if_pos (decide_eq_true hc)] at he
      rw [← he]; simp
    · refine later_l a x y hx hy n (i + 1) z (by omega) (by omega) ?_
      rw [List.filter_cons, if_neg (by simp only [decide_eq_true_eq]; exact hc)] at he
      exact he
theorem OnsetLater (l : List S43) (name : ByteArray) (a b : Int) : ∃ k, solsticelaw13_OnsetLater.f k l name a b = some true := by
  suffices h : Ev (fun k => solsticelaw13_OnsetLater.f k l name a b) true from h.rounds
  have jt : Ev (fun k => solsticelaw13_OnsetLater.j0 k l name a b true) true := by
    refine evstep ?_
    simp only [solsticelaw13_OnsetLater.j0, if_true]
    exact Ev.now _
  unfold solsticelaw13_OnsetLater.f
  obtain ⟨hv, hev, hlen⟩ := heavy l
  refine evb hev ?_
  cases hv with
  | true => simpa using jt
  | false =>
  simp only [Bool.false_eq_true, if_false]
  obtain ⟨rt, rev, rok⟩ := right l (hlen rfl)
  refine evb rev ?_
  cases rt with
  | false => simpa using jt
  | true =>
  simp only [if_true]
  by_cases h200 : l.length > 200
  · rw [decide_eq_true (show (l.length : Int) > 200 by omega)]; exact jt
  rw [decide_eq_false (show ¬ (l.length : Int) > 200 by omega)]
  have hok := rok rfl
  obtain ⟨a', ha1, ha2, ea⟩ := um1 a (n := 9000) (by omega) (by omega)
  obtain ⟨b', hb1, hb2, eb⟩ := um b (n := 900) (by omega) (by omega)
  have eab : wrap64 (a' + b') = a' + b' := w64 (by omega) (by omega)
  refine evstep ?_
  simp only [solsticelaw13_OnsetLater.j0, Bool.false_eq_true, if_false, ea, eb, eab]
  refine evb (of_ev name l (by omega) ha1 (by omega) hok) ?_
  refine evb (of_ev name l (by omega) (last := a' + b') (by omega) (by omega) hok) ?_
  simp only [if_true]
  refine evstep ?_
  have e0 : ((0 : Int) != 0) = false := rfl
  simp only [solsticelaw13_OnsetLater.j1, e0, Bool.false_eq_true, if_false]
  have hmem : ∀ r ∈ l, RuleOk r := fun r hr => by
    obtain ⟨j, hj, rfl⟩ := List.getElem_of_mem hr
    exact hok j hj
  have g1 := gen_len name a' l 0 hmem
  have g2 := gen_len name (a' + b') l 0 hmem
  have p1 := (srt37_perm (gen name a' l 0)).length_eq
  have p2 := (srt37_perm (gen name (a' + b') l 0)).length_eq
  exact later_l a' _ _ (by omega) (by omega) _ 0 [] (Nat.zero_add _) (Nat.le_refl _) (by rw [List.nil_append, List.drop_zero]; exact srt_filter name hb1 l)
end Go.Proofs.Ytdhljcnilclfbaa.Pure
