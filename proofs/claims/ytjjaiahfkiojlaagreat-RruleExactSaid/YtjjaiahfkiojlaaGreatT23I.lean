/- The reference's ends, jump, Picked, as contracts. No condition beyond those each lemma names. -/
import Derived.Test.YtjjaiahfkiojlaaGreatMT23j
import Derived.Test.YtjjaiahfkiojlaaGreatMT23H
namespace Go.Proofs.YtjjaiahfkiojlaaGreat.Pure
open Go.RowKit Go.Proofs.YtjjaiahfkiojlaaGreat.O Go.Proofs.YtjjaiahfkiojlaaGreatW.PrintWords Go.Proofs.YtjjaiahfkiojlaaGreatW.PrintLast
open Go.Proofs.YtjjaiahfkiojlaaGreat.Civ
set_option linter.unusedVariables false
set_option linter.unusedSimpArgs false
set_option maxHeartbeats 4000000
set_option maxRecDepth 100000
theorem ends98_on {w : World} {cs : Array Value} {r : RR} (R : Rul w cs r) (h : Lens r) (p f : Int) : Calls Tryz.prog 98 #[.agg cs, .int .i64 p, .int .i64 f] w (Rets w (.bool (endB r f p))) := by
  have M := On.nil w
  have eb : endB r f p = (decide ((spanV r p).2.2 = 0) && decide ((spanV r p).2.1 < f)) := rfl
  refine en_ Tryz.func98 rfl rfl rfl fun a K => sr_ (bx_ K M rfl rfl rfl rfl rfl rfl fun a g3 W3 M K => run_ 1 K rfl fun a K => nil_ ?_)
  refine sr_ (lda_ K M 0 rfl rfl rfl rfl rfl rfl rfl R.sz fun a K => run_ 1 K rfl fun a K => cl_ K Tryz.func25 (by kernel_rfl) rfl rfl rfl rfl rfl rfl ((Span2_on (R.below M.bl) h p).mono ?_))
  rintro _ w2 ⟨rfl, b2⟩
  replace M := M.call b2
  refine ⟨_, rfl, fun a K => run_ 7 K rfl fun a K => nil_ ?_⟩
  refine sr_ ?_
  by_cases c : (spanV r p).2.2 = 0
  · have u1 := decide_eq_true c
    rw [u1, Bool.true_and] at eb
    refine run_ 2 K rfl fun a K => run_ 5 (fx_ K u1) rfl fun a K => nil_ ?_
    exact ret_ rfl K rfl ⟨bool_ret eb.symm, M.bl⟩
  · have u1 := decide_eq_false c
    rw [u1, Bool.false_and] at eb
    refine run_ 2 K rfl fun a K => run_ 5 (fx_ K u1) rfl fun a K => nil_ ?_
    exact ret_ rfl K rfl ⟨bool_ret eb.symm, M.bl⟩
def gapT (a : Act) : Nat := match a.eval (.tmp 8), a.eval (.tmp 7) with | .int _ x, .int _ y => (x - y).toNat | _, _ => 0
theorem gapT_ {N : Nat} {E : Env} {a : Act} {x y : Int} (K : Kn N E a) (h : O.look E 8 = some (.int .i64 x)) (h' : O.look E 7 = some (.int .i64 y)) : gapT a = (x - y).toNat := by unfold gapT; rw [K.ev _ _ h, K.ev _ _ h']
/-- jump's numbers. -/
structure JumpN (r : RR) (p f : Int) (lo hi : Nat) : Prop where
  lt : lo < hi
  le : (hi : Int) ≤ 1000000000000
  at0 : lo = 0 ∨ endB r f (p + (lo : Int) * r.iv) = true
theorem jumpN_two {r : RR} (h : Right r) {p f : Int} (hp : -62135596800 ≤ p ∧ p ≤ 253402300799) {lo hi : Nat} (J : JumpN r p f lo hi) (e : endB r f (p + (hi : Int) * r.iv) = true) : JumpN r p f hi (2 * hi) ∧ wrap64 (2 * (hi : Int)) = ((2 * hi : Nat) : Int) ∧ (1000000000000 - ((2 * hi : Nat) : Int)).toNat < (1000000000000 - (hi : Int)).toNat := by
  have b := jump_bd h hp e
  have l := J.lt
  refine ⟨⟨by omega, by omega, Or.inr e⟩, ?_, by omega⟩
  rw [w64 (by omega) (by omega)]; omega
theorem jumpN_mid {r : RR} {p f : Int} {lo hi : Nat} (J : JumpN r p f lo hi) (g : 1 < hi - lo) : ∃ m : Nat, lo < m ∧ m < hi ∧ wrap64 (Int.tdiv (wrap64 ((lo : Int) + (hi : Int))) 2) = (m : Int) ∧ ((hi : Int) - (m : Int)).toNat < ((hi : Int) - (lo : Int)).toNat ∧ ((m : Int) - (lo : Int)).toNat < ((hi : Int) - (lo : Int)).toNat := by
  have l := J.lt
  have e := J.le
  refine ⟨(lo + hi) / 2, by omega, by omega, ?_, by omega, by omega⟩
  rw [w64 (x := (lo : Int) + (hi : Int)) (by omega) (by omega), tdiv_nn _ (by omega), w64 (by omega) (by omega)]
  omega
theorem gap_d {lo hi : Nat} (h : lo < hi) (e : (hi : Int) ≤ 1000000000000) : wrap64 ((hi : Int) - (lo : Int)) = (hi : Int) - lo := w64 (by omega) (by omega)
theorem jump_on {w : World} {cs : Array Value} {r : RR} (R : Rul w cs r) (h : Right r) {p : Int} (hp : -62135596800 ≤ p ∧ p ≤ 253402300799) (f : Int) : Calls Tryz.prog 63 #[.agg cs, .int .i64 p, .int .i64 f] w fun e w' => ∃ k : Nat, First r f p k ∧ e = .returned (.int .i64 (p + (k : Int) * r.iv)) ∧ Below w.heap.size w w' := by
  have hl := h.lens
  have M := On.nil w
  have EE : ∀ (k : Nat), (k : Int) ≤ 1000000000000 → ∀ V, Rul V cs r → Calls Tryz.prog 98 #[.agg cs, .int .i64 (wrap64 (p + wrap64 ((k : Int) * r.iv))), .int .i64 f] V (Rets V (.bool (endB r f (p + (k : Int) * r.iv)))) := fun k hk V hV => by
    rw [jump_w h hp hk]; exact ends98_on hV hl _ _
  refine en_ Tryz.func63 rfl rfl rfl fun a K => sr_ (bx_ K M rfl rfl rfl rfl rfl rfl fun a g3 W3 M K => run_ 1 K rfl fun a K => nil_ ?_)
  refine sr_ (run_ 2 K rfl fun a K => nil_ ?_)
  refine wp_seq (wp_block (wp_loop (fun a W => ∃ lo hi : Nat, JumpN r p f lo hi ∧ Kn 53 [(7, .int .i64 (lo : Int)), (8, .int .i64 (hi : Int)), (3, .pointer (some ⟨g3, 0, none⟩)), (1, .int .i64 p), (2, .int .i64 f)] a ∧ On [(g3, .cells cs 25 (0, 0))] w W) (fun a _ => leftZ 8 1000000000000 a) ⟨0, 1, ⟨by decide, by decide, Or.inl rfl⟩, fg_ K ⟨rfl, rfl, rfl, rfl, rfl, trivial⟩, M⟩ ?_))
  clear K M
  rintro a W ⟨lo, hi, J, K, M⟩
  have KL := leftZ_ (z := 1000000000000) (d := 8) K rfl
  refine wp_seq (sr_ (lda_ K M 0 rfl rfl rfl rfl rfl rfl rfl R.sz fun a K => run_ 3 K rfl fun a K => ld_ K M 0 rfl rfl rfl rfl rfl rfl R.c1 rfl fun a K => run_ 3 K rfl fun a K => cl_ K Tryz.func98 (by kernel_rfl) rfl rfl rfl rfl rfl rfl ((EE hi J.le _ (R.below M.bl)).mono ?_)))
  rintro _ w8 ⟨rfl, b8⟩
  replace M := M.call b8
  refine ⟨_, rfl, fun a K => nil_ ?_⟩
  cases eh : endB r f (p + (hi : Int) * r.iv) with
  | true =>
    obtain ⟨J2, e2, e3⟩ := jumpN_two h hp J eh
    refine ck_ K rfl eh (wp_block (rg_ (run_ 5 K rfl fun a K5 => nl_ ⟨⟨hi, 2 * hi, J2, fg_ (ks_ (i := 8) K5 rfl (congrArg (Value.int .i64) e2)) ⟨rfl, rfl, rfl, rfl, rfl, trivial⟩, M⟩, ?_⟩)))
    rw [leftZ_ (d := 8) K5 rfl, KL, e2]
    exact e3
  | false =>
  refine cf_ K rfl eh (ex_ (thn_ ?_))
  replace K := fg_ (E' := [(7, .int .i64 (lo : Int)), (8, .int .i64 (hi : Int)), (3, .pointer (some ⟨g3, 0, none⟩)), (1, .int .i64 p), (2, .int .i64 f)]) K ⟨rfl, rfl, rfl, rfl, rfl, trivial⟩
  refine wp_seq (sr_ (lda_ K M 0 rfl rfl rfl rfl rfl rfl rfl R.sz fun a K => run_ 2 K rfl fun a K => cl_ K Tryz.func98 (by kernel_rfl) rfl rfl rfl rfl rfl rfl ((ends98_on (R.below M.bl) hl p f).mono ?_)))
  rintro _ w3 ⟨rfl, b3⟩
  replace M := M.call b3
  refine ⟨_, rfl, fun a K => run_ 1 K rfl fun a K => nil_ ?_⟩
  cases e0 : endB r f p with
  | false =>
    refine ct_ K rfl (by rw [e0]; rfl) (sr_ (run_ 2 K rfl fun a K => nil_ (ret_ rfl K rfl ⟨0, ⟨by simp; exact e0, fun j hj => absurd hj (Nat.not_lt_zero j)⟩, by simp, M.bl⟩)))
  | true =>
  refine cs_ K rfl (by rw [e0]; rfl) ?_
  have el : endB r f (p + (lo : Int) * r.iv) = true := by
    rcases J.at0 with z | z
    · subst z; simp; exact e0
    · exact z
  refine wp_seq (wp_block (wp_loop (fun a W => ∃ lo hi : Nat, JumpN r p f lo hi ∧ endB r f (p + (lo : Int) * r.iv) = true ∧ endB r f (p + (hi : Int) * r.iv) = false ∧ Kn 53 [(7, .int .i64 (lo : Int)), (8, .int .i64 (hi : Int)), (3, .pointer (some ⟨g3, 0, none⟩)), (1, .int .i64 p), (2, .int .i64 f)] a ∧ On [(g3, .cells cs 25 (0, 0))] w W) (fun a _ => gapT a) ⟨lo, hi, J, el, eh, fg_ K ⟨rfl, rfl, rfl, rfl, rfl, trivial⟩, M⟩ ?_))
  clear K M J KL el eh
  rintro a W ⟨lo, hi, J, el, eh, K, M⟩
  have KL := gapT_ K rfl rfl
  have gd := gap_d J.lt J.le
  have hlt := J.lt
  have hle := J.le
  refine wp_seq (sr_ (run_ 4 K rfl fun a K2 => nil_ ?_))
  by_cases c : 1 < hi - lo
  case neg =>
    have FF := first_of h e0 el eh (by omega)
    refine cf_ K2 rfl (by rw [gd]; exact decide_eq_false (by omega)) (ex_ (thn_ (sr_ ?_)))
    have jw := jump_w h hp hle
    replace K := K2
    clear K2
    refine run_ 3 K rfl fun a K => ld_ K M 0 rfl rfl rfl rfl rfl rfl R.c1 rfl fun a K => run_ 3 K rfl fun a K => nil_ ?_
    exact ret_ rfl K rfl ⟨hi, FF, by rw [jw], M.bl⟩
  obtain ⟨m, m1, m2, m3, m4, m5⟩ := jumpN_mid J c
  refine ck_ K2 rfl (by rw [gd]; exact decide_eq_true (by omega)) (wp_block (sr_ (run_ 5 K2 rfl fun a K => nil_ ?_)))
  replace K := fg_ (E' := [(9, .int .i64 (m : Int)), (7, .int .i64 (lo : Int)), (8, .int .i64 (hi : Int)), (3, .pointer (some ⟨g3, 0, none⟩)), (1, .int .i64 p), (2, .int .i64 f)]) (ks_ (i := 9) K rfl (congrArg (Value.int .i64) m3)) ⟨rfl, rfl, rfl, rfl, rfl, rfl, trivial⟩
  clear K2
  have hm : (m : Int) ≤ 1000000000000 := by omega
  refine sr_ (lda_ K M 0 rfl rfl rfl rfl rfl rfl rfl R.sz fun a K => run_ 3 K rfl fun a K => ld_ K M 0 rfl rfl rfl rfl rfl rfl R.c1 rfl fun a K => run_ 3 K rfl fun a K => cl_ K Tryz.func98 (by kernel_rfl) rfl rfl rfl rfl rfl rfl ((EE m hm _ (R.below M.bl)).mono ?_))
  rintro _ w8 ⟨rfl, b8⟩
  replace M := M.call b8
  refine ⟨_, rfl, fun a K => nil_ ?_⟩
  cases em : endB r f (p + (m : Int) * r.iv) with
  | true =>
    refine ct_ K rfl em (rg_ (run_ 2 K rfl fun a K5 => nl_ ⟨⟨m, hi, ⟨m2, hle, Or.inr em⟩, em, eh, fg_ K5 ⟨rfl, rfl, rfl, rfl, rfl, trivial⟩, M⟩, ?_⟩))
    rw [gapT_ K5 rfl rfl, KL]
    exact m4
  | false =>
    refine cf_ K rfl em (rg_ (run_ 2 K rfl fun a K5 => nl_ ⟨⟨lo, m, ⟨m1, hm, Or.inr el⟩, el, em, fg_ K5 ⟨rfl, rfl, rfl, rfl, rfl, trivial⟩, M⟩, ?_⟩))
    rw [gapT_ K5 rfl rfl, KL]
    exact m5
/-! Picked -/
theorem picked_nil {w : World} {cs : Array Value} {r : RR} {v : Value} (R : Rul w cs r) (h : r.sp = []) : Calls Tryz.prog 27 #[.agg cs, v] w (Rets w v) := by
  obtain ⟨A14, k14, e14, q14, h14⟩ := R.c14
  have M := On.nil w
  refine en_ Tryz.func27 rfl rfl rfl fun a K => sr_ (bx_ K M rfl rfl rfl rfl rfl rfl fun a g2 W2 M K => run_ 1 K rfl fun a K => nil_ ?_)
  refine wp_seq (sr_ (run_ 1 K rfl fun a K => ld_ K M 0 rfl rfl rfl rfl rfl rfl e14 rfl fun a K => run_ 2 K rfl fun a K => nil_ ?_))
  exact ct_ K rfl ((nil_len _).trans (decide_eq_true ((nil_iff _).2 h))) (sr_ (run_ 2 K rfl fun a K => nil_ (ret_ rfl K rfl ⟨rfl, M.bl⟩)))
theorem picked_own {w : World} {cs : Array Value} {r : RR} {A : Option Addr} {c : Nat} {l : List Int} (R : Rul w cs r) (h : r.sp ≠ []) (hs : r.sp.length ≤ 1000000000) (hk : Kd.C (Kd.int .i64) w A l.length l) (hl : l.length ≤ 4000000000000) :
    Calls Tryz.prog 27 #[.agg cs, .slice A l.length c] w fun e W' => ∃ v', e = .returned v' ∧ Kd.R (Kd.int .i64) 3 W' w.heap.size (fun _ => True) v' (picksV r.sp l l.length) ∧ Below w.heap.size w W' := by
  obtain ⟨A14, k14, e14, q14, h14⟩ := R.c14
  have hl1 : l.length ≤ 4611686018427387904 := Nat.le_trans hl (by decide)
  have hl2 : l.length ≤ 17000000000000 := Nat.le_trans hl (by decide)
  refine en_ Tryz.func27 rfl rfl rfl fun a K => sr_ (bxG_ K (On.nil w) rfl rfl rfl rfl rfl rfl fun a g0 W G0 M K => run_ 1 K rfl fun a K => nil_ ?_)
  refine wp_seq (sr_ (run_ 1 K rfl fun a K => ld_ K M 0 rfl rfl rfl rfl rfl rfl e14 rfl fun a K => run_ 2 K rfl fun a K => nil_ ?_))
  refine cs_ K rfl ((nil_len _).trans (decide_eq_false fun q => h ((nil_iff _).1 q))) (sr_ (run_ 1 K rfl fun a K => nil_ (wp_seq (sr_ (run_ 1 K rfl fun a K => nil_ (wp_block (wp_loop (fun a W => ∃ (i : Nat) (v : Value), i ≤ l.length ∧ Kn 40 [(6, .int .i64 (i : Int)), (5, v), (2, .pointer (some ⟨g0, 0, none⟩)), (1, .slice A l.length c)] a ∧ On [(g0, .cells cs 25 (0, 0))] w W ∧ Kd.R (Kd.int .i64) 3 W w.heap.size (fun _ => True) v (picksV r.sp l i) ∧ some g0 ≠ v.ownBlock) (fun a _ => leftN 6 l.length a) ⟨0, .slice none 0 0, Nat.zero_le _, fg_ K ⟨rfl, rfl, rfl, rfl, trivial⟩, M, Kd.R_nil _ _ _ _ _, fun q => (nomatch (show some g0 = none from q))⟩ ?_)))))))
  clear K M
  rintro a W ⟨i, v, hi, K, M, Rv, F⟩
  have KL := leftN_ (n := l.length) (d := 6) K rfl
  refine wp_seq (sr_ (run_ 4 K rfl fun a2 K2 => nil_ ?_))
  by_cases hc : i < l.length
  case neg =>
    obtain rfl : i = l.length := by omega
    exact cf_ K2 rfl (kp_ge hc) (ex_ (thn_ (sr_ (run_ 2 K2 rfl fun a K => nil_ (ret_ rfl K rfl ⟨v, rfl, Rv, M.bl⟩)))))
  obtain ⟨ad, eA, hat⟩ := C_at hk (Nat.lt_of_le_of_lt (Nat.zero_le _) hc)
  subst eA
  have hx := List.getElem?_eq_getElem hc
  have e1 := pl_in (sp := r.sp) hc hl
  have e2 := kp_inc hc hl1
  have e3 := picks_succ r.sp l hc
  have e4 := picks_len r.sp l i
  have e5 : (picksV r.sp l i).length ≤ 17000000000000 := Nat.le_trans (Nat.le_trans e4 hi) hl2
  generalize l[i] = x at hx e3
  have C1 : ∀ V, Below w.heap.size w V → Calls Tryz.prog 58 #[.slice A14 r.sp.length k14, .int .i64 (wrap64 ((i : Int) + 1))] V (Rets V (.bool (decide ((i : Int) + 1 ∈ r.sp)))) := fun V hV => by
    rw [e1.1]; exact has_on _ (Kd.C_below h14 hV) hs
  have C2 : ∀ V, Below w.heap.size w V → Calls Tryz.prog 58 #[.slice A14 r.sp.length k14, .int .i64 (wrap64 ((i : Int) - (l.length : Int)))] V (Rets V (.bool (decide ((i : Int) - (l.length : Int) ∈ r.sp)))) := fun V hV => by
    rw [e1.2]; exact has_on _ (Kd.C_below h14 hV) hs
  clear e1
  obtain ⟨A0, c0, ev, _⟩ := Kd.R_reads Rv
  refine ck_ K2 rfl (kp_lt hc) (wp_seq (bjn_ (fun a' W' => ∃ v', Kn 40 [(6, .int .i64 (i : Int)), (5, v'), (2, .pointer (some ⟨g0, 0, none⟩)), (1, .slice (some ad) l.length c)] a' ∧ On [(g0, .cells cs 25 (0, 0))] w W' ∧ Kd.R (Kd.int .i64) 3 W' w.heap.size (fun _ => True) v' (picksV r.sp l (i + 1)) ∧ some g0 ≠ v'.ownBlock) (sr_ ?_) ?_))
  case refine_2 =>
    rintro a' W' ⟨v', K', M', R', F'⟩
    refine rg_ (run_ 3 K' rfl fun a5 K5 => nl_ ⟨⟨i + 1, v', hc, fg_ (ks_ (i := 6) K5 rfl (congrArg (Value.int .i64) e2)) ⟨rfl, rfl, rfl, rfl, trivial⟩, M', R', F'⟩, ?_⟩)
    rw [leftN_ (d := 6) K5 rfl, KL, e2]
    exact leftN_lt hc
  replace K := K2
  clear K2
  by_cases d1 : (i : Int) + 1 ∈ r.sp
  case' pos =>
    have u5 := decide_eq_true d1
    refine run_ 1 K rfl fun a K => ld_ K M 0 rfl rfl rfl rfl rfl rfl e14 rfl fun a K => run_ 2 K rfl fun a K => cl_ K Tryz.func58 (by kernel_rfl) rfl rfl rfl rfl rfl rfl ((C1 _ M.bl).mono ?_)
    rintro _ w4 ⟨rfl, b4⟩
    replace M := M.call b4
    refine ⟨_, rfl, fun a K => run_ 1 K rfl fun a K => run_ 8 (fx_ K u5) rfl fun a K => nil_ ?_⟩
    replace Rv := Kd.R_below Rv b4
    refine ct_ K rfl rfl ?_
  case' neg =>
    have u5 := decide_eq_false d1
    refine run_ 1 K rfl fun a K => ld_ K M 0 rfl rfl rfl rfl rfl rfl e14 rfl fun a K => run_ 2 K rfl fun a K => cl_ K Tryz.func58 (by kernel_rfl) rfl rfl rfl rfl rfl rfl ((C1 _ M.bl).mono ?_)
    rintro _ w4 ⟨rfl, b4⟩
    replace M := M.call b4
    refine ⟨_, rfl, fun a K => run_ 1 K rfl fun a K => run_ 1 (fx_ K u5) rfl fun a K => ld_ K M 0 rfl rfl rfl rfl rfl rfl e14 rfl fun a K => run_ 4 K rfl fun a K => cl_ K Tryz.func58 (by kernel_rfl) rfl rfl rfl rfl rfl rfl ((C2 _ M.bl).mono ?_)⟩
    rintro _ w12 ⟨rfl, b12⟩
    replace M := M.call b12
    refine ⟨_, rfl, fun a K => run_ 1 K rfl fun a K => nil_ ?_⟩
    replace Rv := Kd.R_below (Kd.R_below Rv b4) b12
    by_cases d2 : (i : Int) - (l.length : Int) ∈ r.sp
    case neg =>
      rw [if_neg (by simp [asked, d1, d2]), List.append_nil] at e3
      exact cf_ K rfl (decide_eq_false d2) (wp_skip ⟨v, fg_ K ⟨rfl, rfl, rfl, rfl, trivial⟩, M, by rw [e3]; exact Rv, F⟩)
    case' pos => refine ct_ K rfl (decide_eq_true d2) ?_
  all_goals
    rw [if_pos (by simp only [asked]; simp [*])] at e3
    subst ev
    refine rg_ (run_ 3 K rfl fun a K => val_ K rfl rfl rfl (run_ix22 (kk := i) hc hl1 rfl (K.of (x := .tmp 33) rfl) (K.of (x := .tmp 34) rfl)) fun a K => val_ K rfl rfl rfl (run_ld rfl rfl (K.of (x := .tmp 35) rfl) (cell_on M (hat i x hx))) fun a K => ap1_ K M rfl rfl rfl rfl rfl rfl rfl rfl rfl (fun _ => rfl) Rv (fun p hp => by obtain rfl : p = (g0, .cells cs 25 (0, 0)) := (by simpa using hp); exact F) e5 fun a v1 W4 u R4 M F4 K => run_ 1 K rfl fun a K => ?_)
    exact nl_ ⟨v1, fg_ K ⟨rfl, rfl, rfl, rfl, trivial⟩, M, by rw [e3]; exact R4, F4 _ (.head _)⟩
end Go.Proofs.YtjjaiahfkiojlaaGreat.Pure
