/- EncodeExact answers true. No condition but that the move is an int. -/
import Derived.Test.YtfinhaghgmnegaaE24o
import Derived.Test.YtfinhaghgmnegaaE24w
import Derived.Test.YtfinhaghgmnegaaOx0
namespace Go.Proofs.Ytfinhaghgmnegaa.Pure
open Go.RowKit Go.Proofs.Ytfinhaghgmnegaa.O Go.Proofs.YtfinhaghgmnegaaW.PrintWords Go.Proofs.YtfinhaghgmnegaaW.PrintLast
open Go.Proofs.Ytfinhaghgmnegaa.Civ
set_option linter.unusedVariables false
set_option linter.unusedSimpArgs false
set_option maxRecDepth 100000
set_option maxHeartbeats 4000000
theorem rul_opens {w : World} {cs : Array Value} {r : RR} (R : Rul w cs r) : ∃ (A6 : Option Addr) (k6 : Nat) (A7 : Option Addr) (k7 : Nat) (A8 : Option Addr) (k8 : Nat) (A9 : Option Addr) (k9 : Nat) (A10 : Option Addr) (k10 : Nat) (A11 : Option Addr) (k11 : Nat) (A12 : Option Addr) (k12 : Nat) (A13 : Option Addr) (k13 : Nat) (A14 : Option Addr) (k14 : Nat),
    cs = #[.int .i64 r.fr, .int .i64 r.iv, .int .i64 r.ct, .bool r.un, .int .i64 r.ua, .bool r.utc, .slice A6 r.sec.length k6, .slice A7 r.mi.length k7, .slice A8 r.ho.length k8, .slice A9 r.dy.length k9, .slice A10 r.md.length k10, .slice A11 r.yd.length k11, .slice A12 r.wn.length k12, .slice A13 r.mo.length k13, .slice A14 r.sp.length k14, .int .i64 r.wk] ∧
    (r.sec.length ≤ k6 ∧ Kd.C (Kd.int .i64) w A6 r.sec.length r.sec) ∧ (r.mi.length ≤ k7 ∧ Kd.C (Kd.int .i64) w A7 r.mi.length r.mi) ∧ (r.ho.length ≤ k8 ∧ Kd.C (Kd.int .i64) w A8 r.ho.length r.ho) ∧ (r.dy.length ≤ k9 ∧ Kd.C k54 w A9 r.dy.length r.dy) ∧ (r.md.length ≤ k10 ∧ Kd.C (Kd.int .i64) w A10 r.md.length r.md) ∧ (r.yd.length ≤ k11 ∧ Kd.C (Kd.int .i64) w A11 r.yd.length r.yd) ∧ (r.wn.length ≤ k12 ∧ Kd.C (Kd.int .i64) w A12 r.wn.length r.wn) ∧ (r.mo.length ≤ k13 ∧ Kd.C (Kd.int .i64) w A13 r.mo.length r.mo) ∧ (r.sp.length ≤ k14 ∧ Kd.C (Kd.int .i64) w A14 r.sp.length r.sp) := by
  obtain ⟨A6, k6, e6, h6⟩ := R.c6
  obtain ⟨A7, k7, e7, h7⟩ := R.c7
  obtain ⟨A8, k8, e8, h8⟩ := R.c8
  obtain ⟨A9, k9, e9, h9⟩ := R.c9
  obtain ⟨A10, k10, e10, h10⟩ := R.c10
  obtain ⟨A11, k11, e11, h11⟩ := R.c11
  obtain ⟨A12, k12, e12, h12⟩ := R.c12
  obtain ⟨A13, k13, e13, h13⟩ := R.c13
  obtain ⟨A14, k14, e14, h14⟩ := R.c14
  refine ⟨A6, k6, A7, k7, A8, k8, A9, k9, A10, k10, A11, k11, A12, k12, A13, k13, A14, k14, ?_, h6, h7, h8, h9, h10, h11, h12, h13, h14⟩
  have hs := R.sz
  have e0 := R.c0
  have e1 := R.c1
  have e2 := R.c2
  have e3 := R.c3
  have e4 := R.c4
  have e5 := R.c5
  have e15 := R.c15
  obtain ⟨l⟩ := cs
  replace hs : l.length = 16 := hs
  match l, hs with
  | [v0, v1, v2, v3, v4, v5, v6, v7, v8, v9, v10, v11, v12, v13, v14, v15], _ =>
    simp at e0 e1 e2 e3 e4 e5 e6 e7 e8 e9 e10 e11 e12 e13 e14 e15
    rw [e0, e1, e2, e3, e4, e5, e6, e7, e8, e9, e10, e11, e12, e13, e14, e15]
theorem rul_one {w : World} {cs : Array Value} {r : RR} (R : Rul w cs r) : cs.toList.all (·.oneCell') = true := by
  obtain ⟨A6, k6, A7, k7, A8, k8, A9, k9, A10, k10, A11, k11, A12, k12, A13, k13, A14, k14, rfl, _⟩ := rul_opens R
  rfl
/-- Lists that are short. -/
def Short (r : RR) : Prop := r.sec.length ≤ 1000000 ∧ r.mi.length ≤ 1000000 ∧ r.ho.length ≤ 1000000 ∧ r.dy.length ≤ 1000000 ∧ r.md.length ≤ 1000000 ∧ r.yd.length ≤ 1000000 ∧ r.wn.length ≤ 1000000 ∧ r.mo.length ≤ 1000000 ∧ r.sp.length ≤ 1000000
theorem short_z : Short zR := by unfold Short zR; simp
theorem short_on (m kd wk d mv : Int) : Short (onR m kd wk d mv) := by
  unfold onR sevR
  by_cases h2 : kd = 2
  · rw [if_pos h2]; unfold Short monR; simp
  · by_cases h1 : kd = 1
    · rw [if_neg h2, if_pos h1]; unfold Short monR; simp
    · by_cases h3 : fst24 kd d mv % 7 = 1
      · rw [if_neg h2, if_neg h1, if_pos h3]; unfold Short monR; simp
      · rw [if_neg h2, if_neg h1, if_neg h3]; unfold Short monR; simp [upTo_len]
/-- What the encoder answers. -/
def ansR (m kd wk d mv : Int) : RR := if onE m kd wk d mv = 0 then onR m kd wk d mv else zR
theorem short_ans (m kd wk d mv : Int) : Short (ansR m kd wk d mv) := by
  unfold ansR
  split
  · exact short_on m kd wk d mv
  · exact short_z
theorem alz_ {N : Nat} {E : Env} {a : Act} {ops : Array Oper} {rest : List Oper} {Q : Exit → Act → World → Prop} {w w0 : World} {o : Oper} {d : Nat} {L : List (Nat × Obj)} (K : Kn N E a) (M : On L w0 w) (hd : o.dst = some d) (hb : Nat.blt d N = true) (hw : wantE ops E o = some true) (hop : o.op = .alloc 29)
    (h : ∀ a' g W, w0.heap.size ≤ g → On ((g, .cells (c3 zR (.slice none 0 0) (.slice none 0 0) (.slice none 0 0)) 29 (0, 0)) :: L) w0 W → Kn N ((d, .pointer (some ⟨g, 0, none⟩)) :: E) a' → wpList Try.prog ops Q rest a' W) : wpList Try.prog ops Q (o :: rest) a w :=
  val_ K hd hb hw (run_al zz25 hop) (fun a' K' => h a' _ _ M.bl.size (M.new _) K')
theorem nwB_ {N : Nat} {E : Env} {a : Act} {ops : Array Oper} {rest : List Oper} {Q : Exit → Act → World → Prop} {w w0 : World} {o : Oper} {d : Nat} {L : List (Nat × Obj)} {o2 : Oper} (K : Kn N E a) (M : On L w0 w) {n t : Nat} {cs : Array Value} {y : Operand} (hd : o.dst = some d) (hb : Nat.blt d N = true) (hw : wantE ops E o = some true) (hop : o.op = .alloc t) (hd2 : o2.dst = none) (hg2 : o2.guard = none) (hop2 : o2.op = .store t (.tmp d) y)
    (hy : ∀ v, evo ((d, v) :: E) y = some (.agg cs)) (ht : szE t = some n) (hs : cs.size = n) (h1 : cs.toList.all (·.oneCell') = true)
    (h : ∀ a' g W, Below w.heap.size w W → On ((g, .cells cs t (0, 0)) :: L) w0 W → Kn N ((d, .pointer (some ⟨g, 0, none⟩)) :: E) a' → wpList Try.prog ops Q rest a' W) : wpList Try.prog ops Q (o :: o2 :: rest) a w := by
  obtain ⟨z, hz, hzs⟩ := szE_zero ht
  exact val_ K hd hb hw (run_al hz hop) (fun a' K' => skp_ hd2 (want_of K' (by unfold wantE; rw [hg2])) (run_sta ht hs h1 hop2 (K'.of (x := .tmp d) (by unfold evo O.look; simp)) (K'.of (hy _)) hzs) (h a' _ _ (below_alloc (Below.refl _ _) _) (M.new _) K'))
theorem bj_ {I : Act → World → Prop} {a : Act} {w : World} {id : Nat} {x : Code} {R : Act → World → Prop} {Q : Exit → Act → World → Prop} (h : x.wp Try.prog (Exit.inBlock id (Exit.then I Q)) a w) (k : ∀ a' w', I a' w' → R a' w') : (Code.block id x).wp Try.prog (Exit.then R Q) a w := by
  have go : ∀ e a' w', Exit.then I Q e a' w' → Exit.then R Q e a' w' := fun e a' w' hq => by
    cases e with
    | normal => exact k _ _ hq
    | _ => exact hq
  refine wp_block (wp_mono h (fun e a' w' hq => ?_))
  cases e with
  | exit i =>
    by_cases q : i = id
    · have hq' : Exit.then I Q .normal a' w' := by unfold Exit.inBlock at hq; simpa [q] using hq
      have := go _ _ _ hq'
      unfold Exit.inBlock
      simpa [q] using this
    · have hq' : Exit.then I Q (.exit i) a' w' := by unfold Exit.inBlock at hq; simpa [q] using hq
      have := go _ _ _ hq'
      unfold Exit.inBlock
      simpa [q] using this
  | normal => exact go .normal a' w' hq
  | _ => exact hq
theorem EncodeExact_on {w : World} (m kd wk d : Int) {mv : Int} (hv : -9223372036854775808 ≤ mv) (hv' : mv < 9223372036854775808) (s ak std sv now : Int) :
    Calls Try.prog 3 #[.int .i64 m, .agg #[.int .i64 kd, .int .i64 wk, .int .i64 d], .int .i64 mv, .agg #[.int .i64 s, .int .i64 ak], .int .i64 std, .int .i64 sv, .int .i64 now] w (Rets w (.bool true)) := by
  refine en_ Try.func3 rfl rfl rfl fun a K => sr_ (bx_ K (On.nil w) rfl rfl rfl rfl rfl rfl fun a g0 W M K => bx_ K M rfl rfl rfl rfl rfl rfl fun a g1 W M K => run_ 1 K rfl fun a K => nil_ (sr_ (run_ 1 K rfl fun a K => lda_ K M 1 rfl rfl rfl rfl rfl rfl rfl rfl fun a K => run_ 1 K rfl fun a K => cl_ K Try.func6 (by kernel_rfl) rfl rfl rfl rfl rfl rfl ((on_on m kd wk d hv hv').mono ?_))))
  rintro _ w1 ⟨cs, rfl, R, o1, b1⟩
  have B := (M.call b1).bl
  replace M := (M.call b1).here
  have z := (R _ (Keep.refl _)).sz
  have R1 : RulS w1 cs (ansR m kd wk d mv) := R
  clear R
  refine ⟨_, rfl, fun a K => run_ 3 K rfl fun a K => nw_ K M rfl rfl rfl rfl rfl rfl rfl (fun _ => rfl) rfl z o1 fun a g2 W M K => run_ 1 K rfl fun a K => nil_ (sr_ (lda_ K M 1 rfl rfl rfl rfl rfl rfl rfl rfl fun a K => run_ 3 K rfl fun a K => cl_ K Try.func7 (by kernel_rfl) rfl rfl rfl rfl rfl rfl ((move_on s ak std sv now).mono ?_)))⟩
  rintro _ w2 ⟨rfl, b2⟩
  replace M := M.call b2
  refine ⟨_, rfl, fun a K => run_ 7 K rfl fun a K => nil_ (sr_ (lda_ K M 1 rfl rfl rfl rfl rfl rfl rfl rfl fun a K => run_ 3 K rfl fun a K => cl_ K Try.func8 (by kernel_rfl) rfl rfl rfl rfl rfl rfl ((rmove_on s ak std sv now).mono ?_)))⟩
  rintro _ w3 ⟨rfl, b3⟩
  replace M := M.call b3
  refine ⟨_, rfl, fun a K => run_ 7 K rfl fun a K => nil_ (wp_seq (sr_ (run_ 3 K rfl fun a K => run_ 4 (fx_ (c := false) K (by simp)) rfl fun a K => run_ 5 (fx_ (c := false) K (by simp)) rfl fun a K => run_ 1 (fx_ (c := false) K (by simp)) rfl fun a K => nil_ (cs_ K rfl rfl (sr_ (run_ 1 K rfl fun a K => nil_ (sr_ (alz_ K M rfl rfl rfl rfl fun a g3 W G3 M K => nil_ (wp_seq ?_)))))))))⟩
  refine bj_ (I := fun a' W' => ∃ cs' L, Kn 96 [(24, .pointer (some ⟨g3, 0, none⟩)), (23, .int .i64 (onE m kd wk d mv)), (16, .int .i64 (onE m kd wk d mv)), (15, .pointer (some ⟨g2, 0, none⟩))] a' ∧ On ((g3, .cells cs' 29 (0, 0)) :: (g2, .cells cs 29 (0, 0)) :: L) w1 W' ∧ Rul W' cs' (ansR m kd wk d mv)) ?_ ?_
  · have fin : ∀ {W : World}, RulS W (c3 zR (.slice none 0 0) (.slice none 0 0) (.slice none 0 0)) zR := fun {W} => rulS_cs ⟨rfl, rfl, rfl, rfl, rfl, rfl⟩ (indS_nil _) (inlS_nil _) (inlS_nil _) rfl
    refine sr_ (lda_ K M 3 rfl rfl rfl rfl rfl rfl rfl rfl fun a K => cl_ K Try.func9 (by kernel_rfl) rfl rfl rfl rfl rfl rfl ((on01_on kd wk d).mono ?_))
    rintro _ w4 ⟨rfl, b4⟩
    replace M := M.call b4
    refine ⟨_, rfl, fun a K => ?_⟩
    by_cases ho : OnR kd wk d
    case neg =>
      have e : onE m kd wk d mv = 8 := by unfold onE; rw [if_neg ho]
      have er : ansR m kd wk d mv = zR := by unfold ansR; rw [if_neg (by rw [e]; decide)]
      rw [e, er]
      exact run_ 2 (fx_ K (decide_eq_false ho)) rfl fun a K => nil_ (ct_ K rfl rfl (rg_ (run_ 1 K rfl fun a K => nbj_ ⟨_, _, fg_ (ks_ (i := 16) K rfl (congrArg (Value.int .i64) e)) ⟨rfl, rfl, rfl, rfl, trivial⟩, M, fin _ (Keep.refl _)⟩)))
    refine run_ 2 (fx_ K (decide_eq_true ho)) rfl fun a K => nil_ (cf_ K rfl rfl (sr_ (run_ 2 K rfl fun a K => ?_)))
    by_cases h1 : m < 1
    · have e : onE m kd wk d mv = 4 := by unfold onE; rw [if_pos ho, if_pos (Or.inl h1)]
      have er : ansR m kd wk d mv = zR := by unfold ansR; rw [if_neg (by rw [e]; decide)]
      rw [e, er]
      exact run_ 5 (fx_ K (decide_eq_true h1)) rfl fun a K => nil_ (ct_ K rfl rfl (rg_ (run_ 1 K rfl fun a K => nbj_ ⟨_, _, fg_ (ks_ (i := 16) K rfl (congrArg (Value.int .i64) e)) ⟨rfl, rfl, rfl, rfl, trivial⟩, M, fin _ (Keep.refl _)⟩)))
    refine run_ 5 (fx_ K (decide_eq_false h1)) rfl fun a K => nil_ ?_
    by_cases h12 : 12 < m
    · have e : onE m kd wk d mv = 4 := by unfold onE; rw [if_pos ho, if_pos (Or.inr h12)]
      have er : ansR m kd wk d mv = zR := by unfold ansR; rw [if_neg (by rw [e]; decide)]
      rw [e, er]
      exact ct_ K rfl (decide_eq_true h12) (rg_ (run_ 1 K rfl fun a K => nbj_ ⟨_, _, fg_ (ks_ (i := 16) K rfl (congrArg (Value.int .i64) e)) ⟨rfl, rfl, rfl, rfl, trivial⟩, M, fin _ (Keep.refl _)⟩))
    refine cf_ K rfl (decide_eq_false h12) (sr_ (run_ 1 K rfl fun a K => lda_ K M 3 rfl rfl rfl rfl rfl rfl rfl rfl fun a K => run_ 1 K rfl fun a K => cl_ K Try.func10 (by kernel_rfl) rfl rfl rfl rfl rfl rfl ((ron_on ho (by omega) (by omega) hv hv').mono ?_)))
    rintro _ w5 ⟨cs', r', b, rfl, R', b5, f1, f2⟩
    replace M := M.call b5
    have z' := (R' _ (Keep.refl _)).sz
    refine ⟨_, rfl, fun a K => run_ 3 K rfl fun a K => nwB_ K M rfl rfl rfl rfl rfl rfl rfl (fun _ => rfl) rfl z' (rul_one (R' _ (Keep.refl _))) fun a g4 W4 b6 M4 K => run_ 1 K rfl fun a K => nil_ (sr_ (run_ 1 K rfl fun a K => nil_ ?_))⟩
    have hm : ¬ (m < 1 ∨ 12 < m) := not_or.2 ⟨h1, h12⟩
    by_cases he : encP m kd d mv
    · have e : onE m kd wk d mv = 0 := by unfold onE; rw [if_pos ho, if_neg hm, if_pos he]
      have er : ansR m kd wk d mv = onR m kd wk d mv := by unfold ansR; rw [if_pos e]
      obtain ⟨rfl, rfl⟩ := f1 he
      rw [e, er]
      refine ct_ K rfl rfl (rg_ (lda_ K M4 0 rfl rfl rfl rfl rfl rfl rfl z' fun a K => stw_ K M4 1 rfl G3 rfl rfl rfl rfl rfl rfl rfl z' (rul_one (R' _ (Keep.refl _))) fun W5 hW M5 => nbj_ ?_))
      subst hW
      exact ⟨cs', _, fg_ (ks_ (i := 16) K rfl (congrArg (Value.int .i64) e)) ⟨rfl, rfl, rfl, rfl, trivial⟩, on_era M5 0, R' _ ((keep_below b6).trans (keep_row (M4.me 1 _ _ rfl) _))⟩
    · have e : onE m kd wk d mv = 17 := by unfold onE; rw [if_pos ho, if_neg hm, if_neg he]
      have er : ansR m kd wk d mv = zR := by unfold ansR; rw [if_neg (by rw [e]; decide)]
      obtain rfl := f2 he
      rw [e, er]
      exact cf_ K rfl rfl (rg_ (run_ 1 K rfl fun a K => nbj_ ⟨_, _, fg_ (ks_ (i := 16) K rfl (congrArg (Value.int .i64) e)) ⟨rfl, rfl, rfl, rfl, trivial⟩, on_era M4 0, fin _ (Keep.refl _)⟩))
  rintro a W ⟨cs', L, K, M, R2⟩
  refine sr_ (run_ 3 K rfl fun a K => run_ 1 (fx_ (c := true) K (decide_eq_true rfl)) rfl fun a K => lda_ K M 1 rfl rfl rfl rfl rfl rfl rfl z fun a K => lda_ K M 0 rfl rfl rfl rfl rfl rfl rfl R2.sz fun a K => cl_ K Try.func11 (by kernel_rfl) rfl rfl rfl rfl rfl rfl ((keep_on (R1 W (keep_below M.bl)) R2 (short_ans m kd wk d mv)).mono ?_))
  rintro _ w4 ⟨rfl, b4⟩
  replace M := M.call b4
  refine ⟨_, rfl, fun a K => run_ 2 K rfl fun a K => cl_ K Try.func12 (by kernel_rfl) rfl rfl rfl rfl rfl rfl (wakes_on.mono ?_)⟩
  rintro _ w5 ⟨rfl, b5⟩
  replace M := M.call b5
  exact ⟨_, rfl, fun a K => run_ 2 K rfl fun a K => nil_ (ret_ rfl K rfl ⟨rfl, below_step B M.bl⟩)⟩
end Go.Proofs.Ytfinhaghgmnegaa.Pure
