/- A worker that goes through a period, as a contract. No condition beyond those each lemma names. -/
import Derived.Test.YtfinhaghgmnegaaGreatT23j
namespace Go.Proofs.YtfinhaghgmnegaaGreat.Pure
open Go.RowKit Go.Proofs.YtfinhaghgmnegaaGreat.O Go.Proofs.YtfinhaghgmnegaaGreatW.PrintWords Go.Proofs.YtfinhaghgmnegaaGreatW.PrintLast
open Go.Proofs.YtfinhaghgmnegaaGreat.Civ
set_option linter.unusedVariables false
set_option linter.unusedSimpArgs false
set_option maxRecDepth 100000
set_option maxHeartbeats 4000000
/-- What a worker's numbers keep to. -/
def Tame (F : Int) (S : St) : Prop := 0 ≤ S.sp ∧ S.sp ≤ F ∧ 0 ≤ S.ct ∧ S.ct ≤ S.sp + 1 ∧ (S.out.length : Int) ≤ S.ct
/-- An own row: nothing, or a block. -/
theorem row_block {W : World} {b : Nat} {v : Value} {l : List Int} (h : Kd.R (Kd.int .i64) 3 W b (fun _ => True) v l) (hp : 0 < l.length) : ∃ g cap cur, v = .slice (some ⟨g, 0, none⟩) l.length cap ∧ b ≤ g ∧ W.heap[g]? = some (.cells cur 3 (0, 0)) ∧ ∀ (j : Nat) (x : Int), l[j]? = some x → cur[j]? = some (.int .i64 x) := by
  obtain ⟨g, cap, rfl, hg, hlt, cells, hc⟩ := Kd.R_form h hp
  obtain ⟨A, c, e, _, C⟩ := Kd.R_reads h
  obtain ⟨ad, eA, hat⟩ := C_at C hp
  have ea : ad = ⟨g, 0, none⟩ := by
    have := e.symm.trans rfl
    injection e with e1
    rw [eA] at e1
    exact (Option.some.inj e1).symm
  subst ea
  refine ⟨g, cap, cells, rfl, hg, hc, fun j x hx => ?_⟩
  have := hat j x hx
  rw [← blk_cell hc j]
  by_cases q : j = 0
  · subst q; simpa [Addr.add] using this
  · simpa [Addr.add, q] using this
/-- The times of a period that are told are at hand, whatever the worker does. -/
def Hand (L : List (Nat × Obj)) (w0 : World) (gw gm : Nat) (A : Option Addr) (pl : List Int) : Prop := 0 < pl.length → ∃ ad, A = some ad ∧ ∀ (o1 o2 : Obj) (W : World), On ((gw, o1) :: (gm, o2) :: L) w0 W → ∀ (j : Nat) (x : Int), pl[j]? = some x → W.cell? (ad.add (j * 1)) = some (.int .i64 x)
theorem pass_len (r : RR) (st from_ to_ : Int) (S : St) (l : List Int) : (passV r st from_ to_ S l).sp = S.sp ∧ S.ct ≤ (passV r st from_ to_ S l).ct ∧ (passV r st from_ to_ S l).ct ≤ S.ct + l.length ∧ ((passV r st from_ to_ S l).out.length : Int) - S.out.length ≤ (passV r st from_ to_ S l).ct - S.ct := by
  induction l generalizing S with
  | nil => simp [passV]
  | cons t l ih =>
    have e : passV r st from_ to_ S (t :: l) = passV r st from_ to_ (if goesV r st S.ct t then tellV from_ to_ S t else S) l := rfl
    rw [e]
    have := ih (if goesV r st S.ct t then tellV from_ to_ S t else S)
    rw [List.length_cons]
    split
    · rename_i c
      rw [if_pos c] at this
      have e2 : (tellV from_ to_ S t).sp = S.sp ∧ (tellV from_ to_ S t).ct = S.ct + 1 ∧ ((tellV from_ to_ S t).out.length : Int) ≤ S.out.length + 1 := by
        unfold tellV
        refine ⟨rfl, rfl, ?_⟩
        dsimp only
        split
        · simp
        · omega
      rw [e2.1, e2.2.1] at this
      omega
    · rename_i c
      rw [if_neg c] at this
      omega
theorem places_len (r : RR) (l : List Int) : (placesV r l).length ≤ l.length := by
  unfold placesV
  split
  · exact Nat.le_refl _
  · exact picks_len _ _ _
theorem step_tame {r : RR} {st from_ to_ F A B : Int} {S S' : St} (h : Tame F S) (e : stepV r st from_ to_ F S A B = some S') : Tame F S' ∧ S.sp < S'.sp := by
  unfold stepV at e
  split at e
  · cases e
  split at e
  · cases e
  rename_i c1 c2
  obtain rfl := Option.some.inj e
  generalize (letsL r st A B).take (F.toNat + 1) = l at c2 ⊢
  have a := pass_len r st from_ to_ ⟨S.sp + 1 + (l.length : Nat), S.ct, S.out⟩ (placesV r l)
  have b := places_len r l
  obtain ⟨h1, h2, h3, h4, h5⟩ := h
  generalize passV r st from_ to_ ⟨S.sp + 1 + (l.length : Nat), S.ct, S.out⟩ (placesV r l) = P at a ⊢
  dsimp only at a
  unfold Tame
  omega
theorem tame_now {r : RR} {st from_ to_ F : Int} {S : St} (h : Tame F S) (n : Int) (l : List Int) (i : Nat) (hF : F ≤ 200000) (hl : l.length ≤ 200001) : 0 ≤ (passV r st from_ to_ ⟨n, S.ct, S.out⟩ (l.take i)).ct ∧ (passV r st from_ to_ ⟨n, S.ct, S.out⟩ (l.take i)).ct ≤ 4611686018427387904 ∧ (passV r st from_ to_ ⟨n, S.ct, S.out⟩ (l.take i)).out.length ≤ 17000000000000 := by
  have a := pass_len r st from_ to_ ⟨n, S.ct, S.out⟩ (l.take i)
  have b : (l.take i).length ≤ l.length := by rw [List.length_take]; exact Nat.min_le_right _ _
  obtain ⟨h1, h2, h3, h4, h5⟩ := h
  dsimp only at a
  omega
theorem take_F {l : List Int} {F : Int} (h : 0 ≤ F) (hF : F ≤ 200000) : (l.take (F.toNat + 1)).length ≤ 200001 := by
  have := List.length_take_le (F.toNat + 1) l
  omega
theorem nt_ {u : Bool} (h : u = false) : (!u) = true := by rw [h]; rfl
theorem nf_ {u : Bool} (h : ¬ u = false) : (!u) = false := by cases u <;> simp_all
theorem spend_le {a b F : Int} : decide (a + b ≤ F) = !decide (F < a + b) := by
  by_cases c : F < a + b
  · rw [decide_eq_true c, decide_eq_false (by omega)]; rfl
  · rw [decide_eq_false c, decide_eq_true (by omega)]; rfl
theorem pass_take (r : RR) (st from_ to_ : Int) (S : St) {pl : List Int} {i : Nat} (hi : i < pl.length) : passV r st from_ to_ S (pl.take (i + 1)) = if goesV r st (passV r st from_ to_ S (pl.take i)).ct pl[i] then tellV from_ to_ (passV r st from_ to_ S (pl.take i)) pl[i] else passV r st from_ to_ S (pl.take i) := by
  rw [List.take_add_one, List.getElem?_eq_getElem hi]
  exact pass_snoc _ _ _ _ _ _ _
theorem wperiod_on {L : List (Nat × Obj)} {w0 W : World} {gw gm : Nat} {r : RR} {s : Sl} {st from_ to_ F A B : Int} {S : St} (H : WS L w0 gw gm r s st from_ to_ F S W) (R : Rul w0 (rc r s) r) (h : Right r) (hw : Few r) (G : w0.heap.size ≤ gw) (Gm : w0.heap.size ≤ gm) (hst : InT st) (hA : InT A) (hB : InT B) (hF : 0 ≤ F) (hF' : F ≤ 200000) (hS : Tame F S) :
    Calls Tryz.prog 52 #[.pointer (some ⟨gw, 0, none⟩), .int .i64 A, .int .i64 B] W fun e W' => match stepV r st from_ to_ F S A B with
      | none => e = .returned (.bool false) ∧ Below w0.heap.size w0 W'
      | some S' => e = .returned (.bool true) ∧ WS L w0 gw gm r s st from_ to_ F S' W' := by
  have fl : Tryz.prog.follows .mixedOrders = true := by kernel_rfl
  obtain ⟨t1, t2, t3, t4, t5⟩ := hS
  have sp1 : 0 ≤ S.sp ∧ S.sp ≤ 4611686018427387904 := by omega
  have sp2 : 0 ≤ S.sp + 1 ∧ S.sp + 1 ≤ 4611686018427387904 := by omega
  have hlen := take_F (l := letsL r st A B) hF hF'
  have tame := tame_now (r := r) (st := st) (from_ := from_) (to_ := to_) (F := F) (S := S) ⟨t1, t2, t3, t4, t5⟩
  clear t1 t2 t3 t4 t5
  obtain ⟨v, M, Rv, Fv⟩ := H
  unfold stepV
  generalize hl : (letsL r st A B).take (F.toNat + 1) = l at hlen ⊢
  refine en_ Tryz.func52 rfl rfl rfl fun a K => sr_ (run_ 1 K rfl fun a K => nil_ (wp_seq (sr_ (run_ 3 K rfl fun a K => ld_ K M 0 rfl rfl rfl rfl rfl rfl rfl rfl fun a K => cl_ K Tryz.func65 (by kernel_rfl) rfl rfl rfl rfl rfl rfl ((spend_on M 1 rfl Gm sp1 (by decide : (0 : Int) ≤ 1 ∧ (1 : Int) ≤ 4611686018427387)).mono ?_)))))
  rintro _ W1 ⟨rfl, M1, k1⟩
  rw [spend_le]
  replace M1 : On ((gw, .cells (wc r s st from_ to_ gm S.ct v) 75 (0, 0)) :: (gm, .cells (mc (S.sp + 1) F) 73 (0, 0)) :: L) w0 W1 := M1
  replace Rv := keep_R k1 Rv
  refine ⟨_, rfl, fun a K => run_ 1 K rfl fun a K => nil_ ?_⟩
  by_cases c1 : F < S.sp + 1
  case pos =>
    rw [if_pos c1]
    exact ct_ K rfl (by rw [decide_eq_true c1]; rfl) (sr_ (run_ 1 K rfl fun a K => nil_ (ret_ rfl K rfl ⟨rfl, M1.bl⟩)))
  rw [if_neg c1]
  refine cs_ K rfl (by rw [decide_eq_false c1]; rfl) ?_
  refine dseq_ fl rfl rfl M1.drew (dp_ 8055 8 [0, 1, 2, 4, 5, 6, 8, 9, 10, 11, 12] K rfl rfl (by kernel_rfl) fun a K => dldr_ 8063 3 K M1.drew 0 rfl rfl rfl rfl rfl rfl rfl (by kernel_rfl) fun a K => dld_ 8191 7 K M1.drew 0 rfl rfl rfl rfl rfl rfl rfl rfl rfl (by kernel_rfl) fun a K => dld_ 16383 13 K M1.drew 0 rfl rfl rfl rfl rfl rfl rfl rfl rfl (by kernel_rfl) fun a K => dp_ 65535 3 [14, 15] K rfl rfl (by kernel_rfl) fun a K => dld_ 131071 16 K M1.drew 1 rfl rfl rfl rfl rfl rfl rfl rfl rfl (by kernel_rfl) fun a K => dc_ 262143 17 K Tryz.func66 (by kernel_rfl) rfl rfl rfl rfl rfl rfl rfl (by kernel_rfl) ((letss_on (R.below M1.drew.bl) h hw hst hA hB hF).mono ?_))
  rintro _ W2 ⟨v5, rfl, R5, b2⟩
  rw [hl] at R5
  replace Rv := Kd.R_drew Rv
  have far5 : ∀ k, v.ownBlock = some k → k < W1.drew.heap.size := Kd.R_lt Rv
  have lt5 : ∀ p ∈ ((gw, .cells (wc r s st from_ to_ gm S.ct v) 75 (0, 0)) :: (gm, .cells (mc (S.sp + 1) F) 73 (0, 0)) :: L : List (Nat × Obj)), p.1 < W1.drew.heap.size := fun p hp => M1.drew.lt hp
  have M2 := M1.drew.call b2
  replace Rv := Kd.R_below Rv b2
  obtain ⟨A5, c5, e5, hc5, C5⟩ := Kd.R_reads R5
  subst e5
  refine ⟨_, rfl, M2, fun a K => dp_ 524287 0 [18] K rfl rfl (by kernel_rfl) fun a K => dend_ (by kernel_rfl) ?_⟩
  have sp3 : 0 ≤ (l.length : Int) ∧ (l.length : Int) ≤ 4611686018427387 := ⟨Int.natCast_nonneg _, Int.le_trans (Int.ofNat_le.2 hlen) (by decide)⟩
  refine wp_seq (sr_ (run_ 3 K rfl fun a K => ld_ K M2 0 rfl rfl rfl rfl rfl rfl rfl rfl fun a K => run_ 2 K rfl fun a K => cl_ K Tryz.func65 (by kernel_rfl) rfl rfl rfl rfl rfl rfl ((spend_on M2 1 rfl Gm sp2 sp3).mono ?_)))
  rintro _ W3 ⟨rfl, M3, k3⟩
  rw [spend_le]
  replace M3 : On ((gw, .cells (wc r s st from_ to_ gm S.ct v) 75 (0, 0)) :: (gm, .cells (mc (S.sp + 1 + (l.length : Int)) F) 73 (0, 0)) :: L) w0 W3 := M3
  replace Rv := keep_R k3 Rv
  replace R5 := keep_R k3 R5
  replace C5 : Kd.C (Kd.int .i64) W3 A5 l.length l := by
    obtain ⟨A6, c6, e6, _, C6⟩ := Kd.R_reads R5
    injection e6 with q1 q2 q3
    subst q1
    exact C6
  refine ⟨_, rfl, fun a K => run_ 1 K rfl fun a K => nil_ ?_⟩
  by_cases c2 : F < S.sp + 1 + (l.length : Int)
  case pos =>
    rw [if_pos c2]
    exact ct_ K rfl (by rw [decide_eq_true c2]; rfl) (sr_ (run_ 1 K rfl fun a K => nil_ (ret_ rfl K rfl ⟨rfl, M3.bl⟩)))
  rw [if_neg c2]
  refine cs_ K rfl (by rw [decide_eq_false c2]; rfl) ?_
  have Pl : Calls Tryz.prog 67 #[.agg (rc r s), .slice A5 l.length c5] W3 fun e W' => ∃ v6 b, e = .returned v6 ∧ Kd.R (Kd.int .i64) 3 W' b (fun _ => True) v6 (placesV r l) ∧ (∀ k, v.ownBlock = some k → k < b) ∧ (∀ x, x = gw ∨ x = gm ∨ x ∈ L.map (·.1) → x < b) ∧ Below W3.heap.size W3 W' := by
    unfold placesV
    by_cases d : r.sp = []
    · rw [if_pos d]
      refine (places_nil (R.below M3.bl) d).mono ?_
      rintro _ W4 ⟨rfl, b4⟩
      refine ⟨_, _, rfl, Kd.R_below R5 b4, far5, fun x hx => ?_, b4⟩
      rcases hx with rfl | rfl | hx
      · exact lt5 _ (.head _)
      · exact lt5 _ (.tail _ (.head _))
      · obtain ⟨p, hp, rfl⟩ := List.mem_map.1 hx
        exact lt5 p (.tail _ (.tail _ hp))
    · rw [if_neg d]
      refine (places_own (R.below M3.bl) d h.lens.sp C5 (Nat.le_trans hlen (by decide))).mono ?_
      rintro _ W4 ⟨v6, rfl, R6, b4⟩
      refine ⟨_, _, rfl, R6, Kd.R_lt Rv, fun x hx => ?_, b4⟩
      rcases hx with rfl | rfl | hx
      · exact M3.lt (.head _)
      · exact M3.lt (.tail _ (.head _))
      · obtain ⟨p, hp, rfl⟩ := List.mem_map.1 hx
        exact M3.lt (p := p) (.tail _ (.tail _ hp))
  have plen := places_len r l
  refine wp_seq (sr_ (run_ 3 K rfl fun a K => ldr_ K M3 0 rfl rfl rfl rfl rfl rfl fun a K => run_ 1 K rfl fun a K => cl_ K Tryz.func67 (by kernel_rfl) rfl rfl rfl rfl rfl rfl (Pl.mono ?_)))
  rintro _ W4 ⟨v6, b, rfl, R6, far6, lt6, b4⟩
  have M4 := M3.call b4
  replace Rv := Kd.R_below Rv b4
  clear Pl C5 R5 far5 lt5 M M1 M2 M3 k1 k3 b2 b4
  generalize hpl : placesV r l = pl at R6 plen ⊢
  -- the row of times is one more known block
  obtain ⟨L', A6, c6, e6, hand, H6, back⟩ : ∃ L' A6 c6, v6 = .slice A6 pl.length c6 ∧ Hand L' w0 gw gm A6 pl ∧ WS L' w0 gw gm r s st from_ to_ F ⟨S.sp + 1 + (l.length : Int), S.ct, S.out⟩ W4 ∧ (∀ S' W', WS L' w0 gw gm r s st from_ to_ F S' W' → WS L w0 gw gm r s st from_ to_ F S' W') := by
    by_cases d : 0 < pl.length
    · obtain ⟨g6, cap, cur, rfl, hg, hh, hcur⟩ := row_block R6 d
      refine ⟨(g6, .cells cur 3 (0, 0)) :: L, _, cap, rfl, fun _ => ⟨_, rfl, fun o1 o2 V MV j x hx => ?_⟩, ⟨v, on_third M4 hh (fun x hx => ?_), Rv, fun g' hg' => ?_⟩, ?_⟩
      · have := (MV.cell (k := 2) rfl j).trans (hcur j x hx)
        by_cases q : j = 0
        · subst q; simpa [Addr.add] using this
        · simpa [Addr.add, q] using this
      · have : x.1 < b := by
          rcases List.mem_cons.1 hx with rfl | hx
          · exact lt6 _ (Or.inl rfl)
          rcases List.mem_cons.1 hx with rfl | hx
          · exact lt6 _ (Or.inr (Or.inl rfl))
          · exact lt6 _ (Or.inr (Or.inr (List.mem_map_of_mem hx)))
        omega
      · rcases hg' with q | q | q
        · exact Fv _ (Or.inl q)
        · exact Fv _ (Or.inr (Or.inl q))
        · rcases List.mem_cons.1 q with q | q
          · intro e
            have := far6 _ e.symm
            dsimp only at q
            omega
          · exact Fv _ (Or.inr (Or.inr q))
      · rintro S' W' ⟨v', M', R', F'⟩
        refine ⟨v', on_less M', R', fun g' hg' => F' g' ?_⟩
        rcases hg' with q | q | q
        · exact Or.inl q
        · exact Or.inr (Or.inl q)
        · exact Or.inr (Or.inr (List.mem_cons_of_mem _ q))
    · obtain ⟨A6, c6, e6, _, _⟩ := Kd.R_reads R6
      exact ⟨L, A6, c6, e6, fun q => absurd q d, ⟨v, M4, Rv, Fv⟩, fun _ _ q => q⟩
  clear R6 far6 lt6 M4 Rv Fv
  subst e6
  have hpl2 : pl.length ≤ 200001 := Nat.le_trans plen hlen
  have tm := fun i => tame (S.sp + 1 + (l.length : Int)) pl i hF' hpl2
  clear tame sp1 sp2 sp3 c1 c2 hlen plen hl hpl
  generalize (⟨S.sp + 1 + (l.length : Int), S.ct, S.out⟩ : St) = S1 at H6 tm ⊢
  refine ⟨_, rfl, fun a K => run_ 2 K rfl fun a K => nil_ (wp_block (wp_loop (fun a W => ∃ (i : Nat), i ≤ pl.length ∧ Kn 100 [(49, .int .i64 (i : Int)), (48, .int .i64 (pl.length : Int)), (47, .slice A6 pl.length c6), (0, .pointer (some ⟨gw, 0, none⟩))] a ∧ WS L' w0 gw gm r s st from_ to_ F (passV r st from_ to_ S1 (pl.take i)) W) (fun a _ => leftN 49 pl.length a) ⟨0, Nat.zero_le _, fg_ K ⟨rfl, rfl, rfl, rfl, trivial⟩, H6⟩ ?_))⟩
  clear K H6
  rintro a W ⟨i, hi, K, H⟩
  refine sr_ (run_ 1 K rfl fun a2 K2 => nil_ (wp_seq ?_))
  by_cases hc : i < pl.length
  case neg =>
    obtain rfl : i = pl.length := Nat.le_antisymm hi (Nat.le_of_not_lt hc)
    rw [List.take_length] at H
    exact cf_ K2 rfl (kp_ge hc) (ex_ (thn_ (sr_ (run_ 1 K2 rfl fun a K => nil_ (ret_ rfl K rfl ⟨rfl, back _ _ H⟩)))))
  have ei := kp_inc hc (Nat.le_trans hpl2 (by decide))
  have ek := pass_take r st from_ to_ S1 hc
  obtain ⟨ad, eA, hat⟩ := hand (Nat.lt_of_le_of_lt (Nat.zero_le _) hc)
  subst eA
  have hx := List.getElem?_eq_getElem hc
  obtain ⟨v, M, Rv, Fv⟩ := H
  have hcell := hat _ _ W M i _ hx
  obtain ⟨n1, n2, n3⟩ := tm i
  generalize pl[i] = x at hx ek hcell
  refine ck_ K2 rfl (kp_lt hc) (wp_seq (bjn_ (fun a' W' => Kn 100 [(49, .int .i64 (i : Int)), (48, .int .i64 (pl.length : Int)), (47, .slice (some ad) pl.length c6), (0, .pointer (some ⟨gw, 0, none⟩))] a' ∧ WS L' w0 gw gm r s st from_ to_ F (passV r st from_ to_ S1 (pl.take (i + 1))) W') (sr_ (ix_ K2 hc (Nat.le_trans hpl2 (by decide)) rfl rfl rfl rfl rfl rfl fun a K => el_ K hcell rfl rfl rfl rfl rfl fun a K => run_ 1 K rfl fun a K => nil_ ?_)) ?_))
  case refine_2 =>
    rintro a' W' ⟨K', H'⟩
    refine rg_ (run_ 2 K' rfl fun a5 K5 => nl_ ⟨⟨i + 1, hc, fg_ (ks_ (i := 49) K5 rfl (congrArg (Value.int .i64) ei)) ⟨rfl, rfl, rfl, rfl, trivial⟩, H'⟩, ?_⟩)
    rw [leftN_ (d := 49) K5 rfl, leftN_ (d := 49) K rfl, ei]
    exact leftN_lt hc
  refine sj_ (fun a' w' => w' = W.drew ∧ Kn 100 [(95, .bool (goesV r st (passV r st from_ to_ S1 (pl.take i)).ct x)), (9, .int .i64 x), (49, .int .i64 (i : Int)), (48, .int .i64 (pl.length : Int)), (47, .slice (some ad) pl.length c6), (0, .pointer (some ⟨gw, 0, none⟩))] a') (draw_ fl rfl rfl M.drew (dp_ 15 39 [0, 1, 2, 3] K rfl rfl (by kernel_rfl) fun a K => dld_ 31 4 K M.drew 0 rfl rfl rfl rfl rfl rfl rfl rfl rfl (by kernel_rfl) fun a K => dp_ 127 36 [5, 6] K rfl rfl (by kernel_rfl) fun a K => ?_)) ?_
  replace M := M.drew
  by_cases c1 : st < x
  case pos =>
    refine dp_ 2047 32 [7, 8, 9, 10] (fx_ K (decide_eq_true c1)) rfl rfl (by kernel_rfl) fun a K => dld_ 4095 11 K M 0 rfl rfl rfl rfl rfl rfl rfl rfl rfl (by kernel_rfl) fun a K => dp_ 16383 29 [12, 13] K rfl rfl (by kernel_rfl) fun a K => ?_
    by_cases hu : r.un = false
    case pos =>
      refine dp_ 268435455 15 [14, 15, 16, 17, 18, 19, 20, 21, 22, 23, 24, 25, 26, 27] (fx_ K (nt_ hu)) rfl rfl (by kernel_rfl) fun a K => dld_ 536870911 28 K M 0 rfl rfl rfl rfl rfl rfl rfl rfl rfl (by kernel_rfl) fun a K => dp_ 2147483647 12 [29, 30] K rfl rfl (by kernel_rfl) fun a K => ?_
      by_cases c3 : r.ct = 0
      case pos =>
        refine dp_ 8796093022207 0 [31, 32, 33, 34, 35, 36, 37, 38, 39, 40, 41, 42] (fx_ K (decide_eq_true c3)) rfl rfl (by kernel_rfl) fun a K => dend_ (by kernel_rfl) ?_
        exact ⟨rfl, fg_ (ks_ (i := 95) (u := .bool (goesV r st (passV r st from_ to_ S1 (pl.take i)).ct x)) K rfl (congrArg Value.bool (by simp [goesV, c1, hu, c3]))) ⟨rfl, rfl, rfl, rfl, rfl, rfl, trivial⟩⟩
      case neg =>
        refine dp_ 532575944703 5 [31, 32, 33, 35, 36, 37, 38] (fx_ K (decide_eq_false c3)) rfl rfl (by kernel_rfl) fun a K => dld_ 549755813887 34 K M 0 rfl rfl rfl rfl rfl rfl rfl rfl rfl (by kernel_rfl) fun a K => dld_ 1099511627775 39 K M 0 rfl rfl rfl rfl rfl rfl rfl rfl rfl (by kernel_rfl) fun a K => dp_ 8796093022207 0 [40, 41, 42] K rfl rfl (by kernel_rfl) fun a K => dend_ (by kernel_rfl) ?_
        exact ⟨rfl, fg_ (ks_ (i := 95) (u := .bool (goesV r st (passV r st from_ to_ S1 (pl.take i)).ct x)) K rfl (congrArg Value.bool (by simp [goesV, c1, hu, c3]))) ⟨rfl, rfl, rfl, rfl, rfl, rfl, trivial⟩⟩
    case neg =>
      refine dp_ 524287 24 [14, 15, 16, 17, 18] (fx_ K (nf_ hu)) rfl rfl (by kernel_rfl) fun a K => dld_ 1048575 19 K M 0 rfl rfl rfl rfl rfl rfl rfl rfl rfl (by kernel_rfl) fun a K => dp_ 16777215 19 [20, 21, 22, 23] K rfl rfl (by kernel_rfl) fun a K => ?_
      by_cases c2 : x ≤ r.ua
      case pos =>
        refine dp_ 268435455 15 [24, 25, 26, 27] (fx_ K (decide_eq_true c2)) rfl rfl (by kernel_rfl) fun a K => dld_ 536870911 28 K M 0 rfl rfl rfl rfl rfl rfl rfl rfl rfl (by kernel_rfl) fun a K => dp_ 2147483647 12 [29, 30] K rfl rfl (by kernel_rfl) fun a K => ?_
        by_cases c3 : r.ct = 0
        case pos =>
          refine dp_ 8796093022207 0 [31, 32, 33, 34, 35, 36, 37, 38, 39, 40, 41, 42] (fx_ K (decide_eq_true c3)) rfl rfl (by kernel_rfl) fun a K => dend_ (by kernel_rfl) ?_
          exact ⟨rfl, fg_ (ks_ (i := 95) (u := .bool (goesV r st (passV r st from_ to_ S1 (pl.take i)).ct x)) K rfl (congrArg Value.bool (by simp [goesV, c1, hu, c2, c3]))) ⟨rfl, rfl, rfl, rfl, rfl, rfl, trivial⟩⟩
        case neg =>
          refine dp_ 532575944703 5 [31, 32, 33, 35, 36, 37, 38] (fx_ K (decide_eq_false c3)) rfl rfl (by kernel_rfl) fun a K => dld_ 549755813887 34 K M 0 rfl rfl rfl rfl rfl rfl rfl rfl rfl (by kernel_rfl) fun a K => dld_ 1099511627775 39 K M 0 rfl rfl rfl rfl rfl rfl rfl rfl rfl (by kernel_rfl) fun a K => dp_ 8796093022207 0 [40, 41, 42] K rfl rfl (by kernel_rfl) fun a K => dend_ (by kernel_rfl) ?_
          exact ⟨rfl, fg_ (ks_ (i := 95) (u := .bool (goesV r st (passV r st from_ to_ S1 (pl.take i)).ct x)) K rfl (congrArg Value.bool (by simp [goesV, c1, hu, c2, c3]))) ⟨rfl, rfl, rfl, rfl, rfl, rfl, trivial⟩⟩
      case neg =>
        refine dp_ 8796093022207 0 [24, 25, 26, 27, 28, 29, 30, 31, 32, 33, 34, 35, 36, 37, 38, 39, 40, 41, 42] (fx_ K (decide_eq_false c2)) rfl rfl (by kernel_rfl) fun a K => dend_ (by kernel_rfl) ?_
        exact ⟨rfl, fg_ (ks_ (i := 95) (u := .bool (goesV r st (passV r st from_ to_ S1 (pl.take i)).ct x)) K rfl (congrArg Value.bool (by simp [goesV, c1, hu, c2]))) ⟨rfl, rfl, rfl, rfl, rfl, rfl, trivial⟩⟩
  case neg =>
    refine dp_ 8796093022207 0 [7, 8, 9, 10, 11, 12, 13, 14, 15, 16, 17, 18, 19, 20, 21, 22, 23, 24, 25, 26, 27, 28, 29, 30, 31, 32, 33, 34, 35, 36, 37, 38, 39, 40, 41, 42] (fx_ K (decide_eq_false c1)) rfl rfl (by kernel_rfl) fun a K => dend_ (by kernel_rfl) ?_
    exact ⟨rfl, fg_ (ks_ (i := 95) (u := .bool (goesV r st (passV r st from_ to_ S1 (pl.take i)).ct x)) K rfl (congrArg Value.bool (by simp [goesV, c1]))) ⟨rfl, rfl, rfl, rfl, rfl, rfl, trivial⟩⟩
  rintro a _ ⟨rfl, K⟩
  replace M := M.drew
  replace Rv := Kd.R_drew Rv
  cases hg : goesV r st (passV r st from_ to_ S1 (pl.take i)).ct x with
  | false =>
    rw [ek, hg]
    exact cf_ K rfl hg (wp_skip ⟨fg_ K ⟨rfl, rfl, rfl, rfl, trivial⟩, v, M, Rv, Fv⟩)
  | true =>
    rw [ek, hg]
    refine ct_ K rfl hg (rg_ (run_ 2 K rfl fun a K => cl_ K Tryz.func29 (by kernel_rfl) rfl rfl rfl rfl rfl rfl ((tells_on ⟨v, M, Rv, Fv⟩ G n1 n2 n3).mono ?_)))
    rintro _ W5 ⟨rfl, H5⟩
    exact ⟨_, rfl, fun a K => nl_ ⟨fg_ K ⟨rfl, rfl, rfl, rfl, trivial⟩, H5⟩⟩
end Go.Proofs.YtfinhaghgmnegaaGreat.Pure
