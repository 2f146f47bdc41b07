/- A right rule is right for the reference, and none but it. No condition beyond those each lemma names. -/
import Derived.Test.YtmhpmkbifhgnbaaT23Y
namespace Go.Proofs.Ytmhpmkbifhgnbaa.Pure
open Go.RowKit Go.Proofs.Ytmhpmkbifhgnbaa.O Go.Proofs.YtmhpmkbifhgnbaaW.PrintWords Go.Proofs.YtmhpmkbifhgnbaaW.PrintLast
open Go.Proofs.Ytmhpmkbifhgnbaa.Civ
set_option linter.unusedVariables false
set_option linter.unusedSimpArgs false
/-! A right rule is right for the reference -/
theorem nodup_le (lo : Int) : ∀ (n : Nat) (l : List Int), l.Nodup → (∀ x ∈ l, lo ≤ x ∧ x < lo + n) → l.length ≤ n
  | 0, [], _, _ => Nat.le_refl _
  | 0, x :: l, _, h => by
    have := h x List.mem_cons_self
    omega
  | n + 1, l, hd, h => by
    by_cases hm : lo + (n : Int) ∈ l
    · have ih := nodup_le lo n (l.erase (lo + (n : Int))) (hd.erase _) (fun x hx => by
        have hx2 := (List.Nodup.mem_erase_iff hd).1 hx
        have := h x hx2.2
        have h3 := hx2.1
        constructor <;> omega)
      have := List.length_erase_of_mem hm
      omega
    · have ih := nodup_le lo n l hd (fun x hx => by
        have := h x hx
        have h3 : x ≠ lo + (n : Int) := fun e => hm (e ▸ hx)
        constructor <;> omega)
      omega
theorem okL_in {l : List Int} {lo hi : Int} {both : Bool} (h : okList l lo hi both = true) : l.Nodup ∧ ∀ x ∈ l, okN x lo hi both := by
  simp only [okList, rightB, Bool.and_eq_true, Bool.not_eq_true', decide_eq_true_eq] at h
  obtain ⟨⟨h1, h2⟩, _⟩ := h
  refine ⟨?_, fun x hx => ?_⟩
  · unfold dupI at h2
    exact Decidable.not_not.1 (of_decide_eq_false h2)
  · have h3 := List.any_eq_false.1 h1 x hx
    unfold okN
    cases both <;> simp only [wrongB, Bool.not_eq_true, Bool.and_eq_false_iff, Bool.or_eq_false_iff, decide_eq_false_iff_not, Bool.not_true, Bool.not_false, Bool.true_eq_false, Bool.false_eq_true, false_or, or_false, true_or, false_and, Bool.true_or, Bool.false_or] at h3 <;> (first | (left; omega) | (rcases h3 with h3 | h3 <;> first | (left; omega) | (right; exact ⟨rfl, by omega, by omega⟩)))
theorem okL_len {l : List Int} {lo hi : Int} (h : okList l lo hi false = true) {n : Nat} (hn : hi - lo + 1 = n) : l.length ≤ n := by
  obtain ⟨h1, h2⟩ := okL_in h
  refine nodup_le lo n l h1 (fun x hx => ?_)
  rcases h2 x hx with q | q
  · omega
  · cases q.1
theorem okL_len2 {l : List Int} {hi : Int} (h : okList l 1 hi true = true) {n : Nat} (hn : 2 * hi = n) : l.length ≤ n := by
  obtain ⟨h1, h2⟩ := okL_in h
  have h0 : (0 : Int) ∉ l := fun q => by
    have := h2 0 q
    unfold okN at this
    omega
  have := nodup_le (-hi) (n + 1) (0 :: l) (List.nodup_cons.2 ⟨h0, h1⟩) (fun x hx => by
    rcases List.mem_cons.1 hx with rfl | hx
    · by_cases hz : 0 ≤ hi
      · omega
      · exfalso; omega
    · have := h2 x hx
      unfold okN at this
      omega)
  rw [List.length_cons] at this
  omega
theorem days_len {l : List S47} {b : Bool} (h : l.all (okBy b) = true) (hd : dis47 l = true) : l.length ≤ 749 := by
  have hx : ∀ x ∈ l, 0 ≤ x.f1 ∧ x.f1 ≤ 6 ∧ -53 ≤ x.f0 ∧ x.f0 ≤ 53 := fun x hx => by
    have := List.all_eq_true.1 h x hx
    simp only [okBy, Bool.and_eq_true, decide_eq_true_eq] at this
    omega
  have hn : (l.map fun x => x.f1 * 107 + x.f0).Nodup := by
    unfold List.Nodup
    rw [List.pairwise_map]
    refine List.Pairwise.imp_of_mem (fun {a c} ha hc q e => ?_) (dis47_pw hd)
    have h1 := hx a ha
    have h2 := hx c hc
    unfold eq47 at q
    rw [Bool.and_eq_false_iff, decide_eq_false_iff_not, decide_eq_false_iff_not] at q
    omega
  have := nodup_le (-53) 749 _ hn (fun x hx2 => by
    obtain ⟨y, hy, rfl⟩ := List.mem_map.1 hx2
    have := hx y hy
    omega)
  rwa [List.length_map] at this
theorem rlistY1 (l : List Int) (lo hi : Int) (both : Bool) (hl : l.length ≤ 1000000) (i : Nat) (hi' : i < l.length) (hd : ∀ j (hj : j < i), l[j] ≠ l[i]) (ih : Ev (fun k => solsticeref21_list.l0 k l lo hi both ((i + 1 : Nat) : Int)) true) :
    ∀ (m j : Nat), j + m = i → Ev (fun k => solsticeref21_list.l1 k l lo hi both (i : Int) (j : Int)) true := by
  intro m
  induction m with
  | zero =>
    intro j hj
    refine evstep ?_
    simp only [solsticeref21_list.l1]
    refine evn (by omega) ?_
    rw [w64 (by omega) (by omega)]
    exact ih
  | succ m ihm =>
    intro j hj
    have hb := ihm (j + 1) (by omega)
    have r1 : rd l (j : Int) = l[j]'(by omega) := by unfold rd; simp [List.getD, show j < l.length by omega]
    have r2 : rd l (i : Int) = l[i] := by unfold rd; simp [List.getD, hi']
    refine evstep ?_
    simp only [solsticeref21_list.l1]
    refine evp (by omega) (evp (by omega) (evp (by omega) (evp (by omega) (evp (by omega) ?_))))
    refine evn (by rw [r1, r2]; exact hd j (by omega)) ?_
    rw [w64 (by omega) (by omega)]
    exact hb
theorem rlistY (l : List Int) (lo hi : Int) (both : Bool) (hl : l.length ≤ 1000000) (h1 : -1000 ≤ lo) (h2 : lo ≤ 1000) (h3 : -1000 ≤ hi) (h4 : hi ≤ 1000) (h : okList l lo hi both = true) : Ev (fun k => solsticeref21_list.f k l lo hi both) true := by
  obtain ⟨hnd, hin⟩ := okL_in h
  have loop : ∀ (n i : Nat), i + n = l.length → Ev (fun k => solsticeref21_list.l0 k l lo hi both (i : Int)) true := by
    intro n
    induction n with
    | zero =>
      intro i hi'
      refine evstep ?_
      simp only [solsticeref21_list.l0]
      exact evn (by omega) (evs rfl)
    | succ n ih =>
      intro i hi'
      have hlt : i < l.length := by omega
      have r2 : rd l (i : Int) = l[i] := by unfold rd; simp [List.getD, hlt]
      have hb := rlistY1 l lo hi both hl i hlt (fun j hj e => absurd ((List.nodup_iff_pairwise_ne.1 hnd |> List.pairwise_iff_getElem.1) j i (by omega) hlt hj) (fun q => q e)) (ih (i + 1) (by omega)) i 0 (by omega)
      have good : ∀ c : Bool, c = false → Ev (fun k => solsticeref21_list.j1 k l lo hi both (i : Int) c) true := fun c hc => evstep (by subst hc; simp only [solsticeref21_list.j1, Bool.false_eq_true, if_false]; exact hb)
      have c := hin l[i] (List.getElem_mem hlt)
      refine evstep ?_
      simp only [solsticeref21_list.l0, rin21, Option.bind_some]
      refine evp (by omega) (evp (by omega) ?_)
      rw [r2, w64 (x := -hi) (by omega) (by omega), w64 (x := -lo) (by omega) (by omega)]
      refine evif (fun _ => good false rfl) (fun q => ?_)
      rcases c with c | c
      · exact absurd (decide_eq_true c) q
      · refine evp c.1 (good _ ?_)
        rw [decide_eq_true c.2]; rfl
  exact loop l.length 0 (by omega)
theorem ok_refBy {fr : Int} {nw : Nat} {x : S47} (hf : fr ≤ 7) (h : okBy ((decide (fr = 6) || decide (fr = 7)) && decide ((nw : Int) = 0)) x = true) : refBy fr nw x := by
  simp only [okBy, Bool.and_eq_true, Bool.or_eq_true, decide_eq_true_eq] at h
  unfold refBy
  omega
theorem recur_right {r : RR} (h : Right r) (u1 : -9223372036854775808 ≤ r.ua) (u2 : r.ua < 9223372036854775808) : Ev (fun k => solsticeref21_Recur.f k r.fr r.iv r.ct r.un r.ua r.utc r.sec r.mi r.ho r.dy r.md r.yd r.wn r.mo r.sp r.wk) true := by
  have hk := h.ok
  simp only [okRecur, Bool.and_eq_true, decide_eq_true_eq] at hk
  obtain ⟨⟨⟨⟨⟨⟨f1, f2⟩, i1, i2⟩, w1, w2⟩, ⟨⟨⟨⟨⟨⟨⟨p6, p7⟩, p8⟩, p10⟩, p11⟩, p12⟩, p13⟩, p14⟩⟩, ⟨p91, p92⟩, p93⟩, pb⟩ := hk
  have l6 := okL_len p6 (n := 60) (by omega)
  have l7 := okL_len p7 (n := 60) (by omega)
  have l8 := okL_len p8 (n := 24) (by omega)
  have l13 := okL_len p13 (n := 12) (by omega)
  have l10 := okL_len2 p10 (n := 62) (by omega)
  have l11 := okL_len2 p11 (n := 732) (by omega)
  have l12 := okL_len2 p12 (n := 106) (by omega)
  have l14 := okL_len2 p14 (n := 732) (by omega)
  have l9 := days_len p91 p92
  have hen := h.en
  have c0 := h.ct0
  have c1 := h.ct1
  have hbes := beside_iff.1 pb
  unfold solsticeref21_Recur.f
  refine evn (by omega) (evn ?_ (evb (ryears u1 u2) (evn ?_ ?_)))
  · rintro (q | q | q | q | q | q | q)
    · omega
    · omega
    · omega
    · rcases hen with e | e
      · rw [e.1] at q; cases q.2
      · omega
    · rcases hen with e | e
      · rw [e.2.2] at q; cases q.1
      · rw [e.1] at q; cases q.2
    · rcases hen with e | e
      · exact q.2 e.2.1
      · rw [e.1] at q; cases q.1
    · omega
  · rintro ⟨q1, q2⟩
    rcases hen with e | e
    · rw [e.1] at q1; cases q1
    · rw [years_in e.2.2] at q2; cases q2
  refine evb (rlistY r.sec 0 59 false (by omega) (by omega) (by omega) (by omega) (by omega) p6) (evb (rlistY r.mi 0 59 false (by omega) (by omega) (by omega) (by omega) (by omega) p7) (evb (rlistY r.ho 0 23 false (by omega) (by omega) (by omega) (by omega) (by omega) p8) (evb (rlistY r.mo 1 12 false (by omega) (by omega) (by omega) (by omega) (by omega) p13) (evb (rlistY r.md 1 31 true (by omega) (by omega) (by omega) (by omega) (by omega) p10) (evb (rlistY r.yd 1 366 true (by omega) (by omega) (by omega) (by omega) (by omega) p11) (evb (rlistY r.wn 1 53 true (by omega) (by omega) (by omega) (by omega) (by omega) p12) (evb (rlistY r.sp 1 366 true (by omega) (by omega) (by omega) (by omega) (by omega) p14) ?_)))))))
  refine evn (by decide) (evn (fun q => q ⟨fun x hx => ok_refBy f2 (List.all_eq_true.1 p91 x hx), dis47_pw p92⟩) (evn (by omega) (evs ?_)))
  rw [Bool.or_eq_true, decide_eq_true_eq, decide_eq_true_eq]
  omega
/-- The reference's Recur, both ways. -/
theorem rrecur2 (r : RR) (u1 : -9223372036854775808 ≤ r.ua) (u2 : r.ua < 9223372036854775808) : ∃ b, Ev (fun k => solsticeref21_Recur.f k r.fr r.iv r.ct r.un r.ua r.utc r.sec r.mi r.ho r.dy r.md r.yd r.wn r.mo r.sp r.wk) b ∧ (b = true ↔ Right r) := by
  obtain ⟨b, hb, h⟩ := rrecur r u1 u2
  by_cases hr : Right r
  · exact ⟨true, recur_right hr u1 u2, fun _ => hr, fun _ => rfl⟩
  · refine ⟨b, hb, h, fun q => absurd q hr⟩
end Go.Proofs.Ytmhpmkbifhgnbaa.Pure
