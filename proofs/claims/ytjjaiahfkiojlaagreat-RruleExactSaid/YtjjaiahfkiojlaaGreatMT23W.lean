/- A worker that goes through a period, as a contract. No condition beyond those each lemma names. -/
-- Recurrence rules that may be wrong, their lists and weekdays: a text of this claim's own.
import Derived.Test.YtjjaiahfkiojlaaGreatMT23j
import Derived.Test.YtjjaiahfkiojlaaGreatOx150
namespace Go.Proofs.YtjjaiahfkiojlaaGreat.Pure
open Go.RowKit Go.Proofs.YtjjaiahfkiojlaaGreat.O Go.Proofs.YtjjaiahfkiojlaaGreatW.PrintWords Go.Proofs.YtjjaiahfkiojlaaGreatW.PrintLast
open Go.Proofs.YtjjaiahfkiojlaaGreat.Civ
set_option linter.unusedVariables false
set_option linter.unusedSimpArgs false
set_option maxRecDepth 100000
set_option maxHeartbeats 4000000
/-- What a worker's numbers keep to. -/
def Tame (F : Int) (S : St) : Prop := 0 ≤ S.sp ∧ S.sp ≤ F ∧ 0 ≤ S.ct ∧ S.ct ≤ S.sp + 1 ∧ (S.out.length : Int) ≤ S.ct
/-- An own row: nothing, or a block. -/
theorem row_block {W : World} {b : Nat} {v : Value} {l : List Int} (h : Kd.R (Kd.int .i64) 3 W b (fun _ => True) v l) (hp : 0 < l.length) : ∃ g cap cur, v = .slice (some ⟨g, 0, none⟩) l.length cap ∧ b ≤ g ∧ W.heap[g]? = some (.cells cur 3 (0, 0)) ∧ ∀ (j : Nat) (x : Int), l[j]? = some x → cur[j]? = some (.int .i64 x) := by
  obtain ⟨g, cap, rfl, hg, hlt, cells, hc⟩ := Kd.R_form h hp
  obtain ⟨A, c, e, _, C⟩ := Kd.R_reads h
  obtain ⟨ad, eA, hat⟩ := C_at C hp
  have ea : ad = ⟨g, 0, none⟩ := by
    have := e.symm.trans rfl
    injection e with e1
    rw [eA] at e1
    exact (Option.some.inj e1).symm
  subst ea
  refine ⟨g, cap, cells, rfl, hg, hc, fun j x hx => ?_⟩
  have := hat j x hx
  rw [← blk_cell hc j]
  by_cases q : j = 0
  · subst q; simpa [Addr.add] using this
  · simpa [Addr.add, q] using this
/-- The times of a period that are told are at hand, whatever the worker does. -/
def Hand (L : List (Nat × Obj)) (w0 : World) (gw gm : Nat) (A : Option Addr) (pl : List Int) : Prop := 0 < pl.length → ∃ ad, A = some ad ∧ ∀ (o1 o2 : Obj) (W : World), On ((gw, o1) :: (gm, o2) :: L) w0 W → ∀ (j : Nat) (x : Int), pl[j]? = some x → W.cell? (ad.add (j * 1)) = some (.int .i64 x)
theorem pass_len (r : RR) (st from_ to_ : Int) (S : St) (l : List Int) : (passV r st from_ to_ S l).sp = S.sp ∧ S.ct ≤ (passV r st from_ to_ S l).ct ∧ (passV r st from_ to_ S l).ct ≤ S.ct + l.length ∧ ((passV r st from_ to_ S l).out.length : Int) - S.out.length ≤ (passV r st from_ to_ S l).ct - S.ct := by
  induction l generalizing S with
  | nil => simp [passV]
  | cons t l ih =>
    have e : passV r st from_ to_ S (t :: l) = passV r st from_ to_ (if goesV r st S.ct t then tellV from_ to_ S t else S) l := rfl
    rw [e]
    have := ih (if goesV r st S.ct t then tellV from_ to_ S t else S)
    rw [List.length_cons]
    split
    · rename_i c
      rw [if_pos c] at this
      have e2 : (tellV from_ to_ S t).sp = S.sp ∧ (tellV from_ to_ S t).ct = S.ct + 1 ∧ ((tellV from_ to_ S t).out.length : Int) ≤ S.out.length + 1 := by
        unfold tellV
        refine ⟨rfl, rfl, ?_⟩
        dsimp only
        split
        · simp
        · omega
      rw [e2.1, e2.2.1] at this
      omega
    · rename_i c
      rw [if_neg c] at this
      omega
theorem places_len (r : RR) (l : List Int) : (placesV r l).length ≤ l.length := by
  unfold placesV
  split
  · exact Nat.le_refl _
  · exact picks_len _ _ _
theorem step_tame {r : RR} {st from_ to_ F A B : Int} {S S' : St} (h : Tame F S) (e : stepV r st from_ to_ F S A B = some S') : Tame F S' ∧ S.sp < S'.sp := by
  unfold stepV at e
  split at e
  · cases e
  split at e
  · cases e
  rename_i c1 c2
  obtain rfl := Option.some.inj e
  generalize (letsL r st A B).take (F.toNat + 1) = l at c2 ⊢
  have a := pass_len r st from_ to_ ⟨S.sp + 1 + (l.length : Nat), S.ct, S.out⟩ (placesV r l)
  have b := places_len r l
  obtain ⟨h1, h2, h3, h4, h5⟩ := h
  generalize passV r st from_ to_ ⟨S.sp + 1 + (l.length : Nat), S.ct, S.out⟩ (placesV r l) = P at a ⊢
  dsimp only at a
  unfold Tame
  omega
theorem tame_now {r : RR} {st from_ to_ F : Int} {S : St} (h : Tame F S) (n : Int) (l : List Int) (i : Nat) (hF : F ≤ 200000) (hl : l.length ≤ 200001) : 0 ≤ (passV r st from_ to_ ⟨n, S.ct, S.out⟩ (l.take i)).ct ∧ (passV r st from_ to_ ⟨n, S.ct, S.out⟩ (l.take i)).ct ≤ 4611686018427387904 ∧ (passV r st from_ to_ ⟨n, S.ct, S.out⟩ (l.take i)).out.length ≤ 17000000000000 := by
  have a := pass_len r st from_ to_ ⟨n, S.ct, S.out⟩ (l.take i)
  have b : (l.take i).length ≤ l.length := by rw [List.length_take]; exact Nat.min_le_right _ _
  obtain ⟨h1, h2, h3, h4, h5⟩ := h
  dsimp only at a
  omega
theorem take_F {l : List Int} {F : Int} (h : 0 ≤ F) (hF : F ≤ 200000) : (l.take (F.toNat + 1)).length ≤ 200001 := by
  have := List.length_take_le (F.toNat + 1) l
  omega
theorem nt_ {u : Bool} (h : u = false) : (!u) = true := by rw [h]; rfl
theorem nf_ {u : Bool} (h : ¬ u = false) : (!u) = false := by cases u <;> simp_all
theorem spend_le {a b F : Int} : decide (a + b ≤ F) = !decide (F < a + b) := by
  by_cases c : F < a + b
  · rw [decide_eq_true c, decide_eq_false (by omega)]; rfl
  · rw [decide_eq_false c, decide_eq_true (by omega)]; rfl
theorem pass_take (r : RR) (st from_ to_ : Int) (S : St) {pl : List Int} {i : Nat} (hi : i < pl.length) : passV r st from_ to_ S (pl.take (i + 1)) = if goesV r st (passV r st from_ to_ S (pl.take i)).ct pl[i] then tellV from_ to_ (passV r st from_ to_ S (pl.take i)) pl[i] else passV r st from_ to_ S (pl.take i) := by
  rw [List.take_add_one, List.getElem?_eq_getElem hi]
  exact pass_snoc _ _ _ _ _ _ _
theorem wperiod_on {L : List (Nat × Obj)} {w0 W : World} {gw gm : Nat} {r : RR} {s : Sl} {st from_ to_ F A B : Int} {S : St} (H : WS L w0 gw gm r s st from_ to_ F S W) (R : Rul w0 (rc r s) r) (h : Right r) (hw : Few r) (G : w0.heap.size ≤ gw) (Gm : w0.heap.size ≤ gm) (hst : InT st) (hA : InT A) (hB : InT B) (hF : 0 ≤ F) (hF' : F ≤ 200000) (hS : Tame F S) :
    Calls Tryz.prog 82 #[.pointer (some ⟨gw, 0, none⟩), .int .i64 A, .int .i64 B] W fun e W' => match stepV r st from_ to_ F S A B with
      | none => e = .returned (.bool false) ∧ Below w0.heap.size w0 W'
      | some S' => e = .returned (.bool true) ∧ WS L w0 gw gm r s st from_ to_ F S' W' := by
  have fl : Tryz.prog.follows .mixedOrders = true := by kernel_rfl
  obtain ⟨t1, t2, t3, t4, t5⟩ := hS
  have sp1 : 0 ≤ S.sp ∧ S.sp ≤ 4611686018427387904 := by omega
  have sp2 : 0 ≤ S.sp + 1 ∧ S.sp + 1 ≤ 4611686018427387904 := by omega
  have hlen := take_F (l := letsL r st A B) hF hF'
  have tame := tame_now (r := r) (st := st) (from_ := from_) (to_ := to_) (F := F) (S := S) ⟨t1, t2, t3, t4, t5⟩
  clear t1 t2 t3 t4 t5
  obtain ⟨v, M, Rv, Fv⟩ := H
  unfold stepV
  generalize hl : (letsL r st A B).take (F.toNat + 1) = l at hlen ⊢
  refine en_ Tryz.func82 rfl rfl rfl fun a K => sr_ (run_ 1 K rfl fun a K => nil_ (wp_seq (sr_ (run_ 3 K rfl fun a K => ld_ K M 0 rfl rfl rfl rfl rfl rfl rfl rfl fun a K => cl_ K Tryz.func112 (by kernel_rfl) rfl rfl rfl rfl rfl rfl ((spend_on M 1 rfl Gm sp1 (by decide : (0 : Int) ≤ 1 ∧ (1 : Int) ≤ 4611686018427387)).mono ?_)))))
  rintro _ W1 ⟨rfl, M1, k1⟩
  rw [spend_le]
  replace M1 : On ((gw, .cells (wc r s st from_ to_ gm S.ct v) 86 (0, 0)) :: (gm, .cells (mc (S.sp + 1) F) 84 (0, 0)) :: L) w0 W1 := M1
  replace Rv := keep_R k1 Rv
  refine ⟨_, rfl, fun a K => run_ 1 K rfl fun a K => nil_ ?_⟩
  by_cases c1 : F < S.sp + 1
  case pos =>
    rw [if_pos c1]
    exact ct_ K rfl (by rw [decide_eq_true c1]; rfl) (sr_ (run_ 1 K rfl fun a K => nil_ (ret_ rfl K rfl ⟨rfl, M1.bl⟩)))
  rw [if_neg c1]
  refine cs_ K rfl (by rw [decide_eq_false c1]; rfl) ?_
  refine dseq_ fl rfl rfl M1.drew (dp_ 8055 8 [0, 1, 2, 4, 5, 6, 8, 9, 10, 11, 12] K rfl rfl (by kernel_rfl) fun a K => dldr_ 8063 3 K M1.drew 0 rfl rfl rfl rfl rfl rfl rfl (by kernel_rfl) fun a K => dld_ 8191 7 K M1.drew 0 rfl rfl rfl rfl rfl rfl rfl rfl rfl (by kernel_rfl) fun a K => dld_ 16383 13 K M1.drew 0 rfl rfl rfl rfl rfl rfl rfl rfl rfl (by kernel_rfl) fun a K => dp_ 65535 3 [14, 15] K rfl rfl (by kernel_rfl) fun a K => dld_ 131071 16 K M1.drew 1 rfl rfl rfl rfl rfl rfl rfl rfl rfl (by kernel_rfl) fun a K => dc_ 262143 17 K Tryz.func56 (by kernel_rfl) rfl rfl rfl rfl rfl rfl rfl (by kernel_rfl) ((letss_on (R.below M1.drew.bl) h hw hst hA hB hF).mono ?_))
  rintro _ W2 ⟨v5, rfl, R5, b2⟩
  rw [hl] at R5
  replace Rv := Kd.R_drew Rv
  have far5 : ∀ k, v.ownBlock = some k → k < W1.drew.heap.size := Kd.R_lt Rv
  have lt5 : ∀ p ∈ ((gw, .cells (wc r s st from_ to_ gm S.ct v) 86 (0, 0)) :: (gm, .cells (mc (S.sp + 1) F) 84 (0, 0)) :: L : List (Nat × Obj)), p.1 < W1.drew.heap.size := fun p hp => M1.drew.lt hp
  have M2 := M1.drew.call b2
  replace Rv := Kd.R_below Rv b2
  obtain ⟨A5, c5, e5, hc5, C5⟩ := Kd.R_reads R5
  subst e5
  refine ⟨_, rfl, M2, fun a K => dp_ 524287 0 [18] K rfl rfl (by kernel_rfl) fun a K => dend_ (by kernel_rfl) ?_⟩
  have sp3 : 0 ≤ (l.length : Int) ∧ (l.length : Int) ≤ 4611686018427387 := ⟨Int.natCast_nonneg _, Int.le_trans (Int.ofNat_le.2 hlen) (by decide)⟩
  refine wp_seq (sr_ (run_ 3 K rfl fun a K => ld_ K M2 0 rfl rfl rfl rfl rfl rfl rfl rfl fun a K => run_ 2 K rfl fun a K => cl_ K Tryz.func112 (by kernel_rfl) rfl rfl rfl rfl rfl rfl ((spend_on M2 1 rfl Gm sp2 sp3).mono ?_)))
  rintro _ W3 ⟨rfl, M3, k3⟩
  rw [spend_le]
  replace M3 : On ((gw, .cells (wc r s st from_ to_ gm S.ct v) 86 (0, 0)) :: (gm, .cells (mc (S.sp + 1 + (l.length : Int)) F) 84 (0, 0)) :: L) w0 W3 := M3
  replace Rv := keep_R k3 Rv
  replace R5 := keep_R k3 R5
  replace C5 : Kd.C (Kd.int .i64) W3 A5 l.length l := by
    obtain ⟨A6, c6, e6, _, C6⟩ := Kd.R_reads R5
    injection e6 with q1 q2 q3
    subst q1
    exact C6
  refine ⟨_, rfl, fun a K => run_ 1 K rfl fun a K => nil_ ?_⟩
  by_cases c2 : F < S.sp + 1 + (l.length : Int)
  case pos =>
    rw [if_pos c2]
    exact ct_ K rfl (by rw [decide_eq_true c2]; rfl) (sr_ (run_ 1 K rfl fun a K => nil_ (ret_ rfl K rfl ⟨rfl, M3.bl⟩)))
  rw [if_neg c2]
  refine cs_ K rfl (by rw [decide_eq_false c2]; rfl) ?_
  have Pl : Calls Tryz.prog 55 #[.agg (rc r s), .slice A5 l.length c5] W3 fun e W' => ∃ v6 b, e = .returned v6 ∧ Kd.R (Kd.int .i64) 3 W' b (fun _ => True) v6 (placesV r l) ∧ (∀ k, v.ownBlock = some k → k < b) ∧ (∀ x, x = gw ∨ x = gm ∨ x ∈ L.map (·.1) → x < b) ∧ Below W3.heap.size W3 W' := by
    unfold placesV
    by_cases d : r.sp = []
    · rw [if_pos d]
      refine (places_nil (R.below M3.bl) d).mono ?_
      rintro _ W4 ⟨rfl, b4⟩
      refine ⟨_, _, rfl, Kd.R_below R5 b4, far5, fun x hx => ?_, b4⟩
      rcases hx with rfl | rfl | hx
      · exact lt5 _ (.head _)
      · exact lt5 _ (.tail _ (.head _))
      · obtain ⟨p, hp, rfl⟩ := List.mem_map.1 hx
        exact lt5 p (.tail _ (.tail _ hp))
    · rw [if_neg d]
      refine (places_own (R.below M3.bl) d h.lens.sp C5 (Nat.le_trans hlen (by decide))).mono ?_
      rintro _ W4 ⟨v6, rfl, R6, b4⟩
      refine ⟨_, _, rfl, R6, Kd.R_lt Rv, fun x hx => ?_, b4⟩
      rcases hx with rfl | rfl | hx
      · exact M3.lt (.head _)
      · exact M3.lt (.tail _ (.head _))
      · obtain ⟨p, hp, rfl⟩ := List.mem_map.1 hx
        exact M3.lt (p := p) (.tail _ (.tail _ hp))
  have plen := places_len r l
  refine wp_seq (sr_ (run_ 3 K rfl fun a K => ldr_ K M3 0 rfl rfl rfl rfl rfl rfl fun a K => run_ 1 K rfl fun a K => cl_ K Tryz.func55 (by kernel_rfl) rfl rfl rfl rfl rfl rfl (Pl.mono ?_)))
  rintro _ W4 ⟨v6, b, rfl, R6, far6, lt6, b4⟩
  have M4 := M3.call b4
  replace Rv := Kd.R_below Rv b4
  clear Pl C5 R5 far5 lt5 M M1 M2 M3 k1 k3 b2 b4
  generalize hpl : placesV r l = pl at R6 plen ⊢
  -- the row of times is one more known block
  obtain ⟨L', A6, c6, e6, hand, H6, back⟩ : ∃ L' A6 c6, v6 = .slice A6 pl.length c6 ∧ Hand L' w0 gw gm A6 pl ∧ WS L' w0 gw gm r s st from_ to_ F ⟨S.sp + 1 + (l.length : Int), S.ct, S.out⟩ W4 ∧ (∀ S' W', WS L' w0 gw gm r s st from_ to_ F S' W' → WS L w0 gw gm r s st from_ to_ F S' W') := by
    by_cases d : 0 < pl.length
    · obtain ⟨g6, cap, cur, rfl, hg, hh, hcur⟩ := row_block R6 d
      refine ⟨(g6, .cells cur 3 (0, 0)) :: L, _, cap, rfl, fun _ => ⟨_, rfl, fun o1 o2 V MV j x hx => ?_⟩, ⟨v, on_third M4 hh (fun x hx => ?_), Rv, fun g' hg' => ?_⟩, ?_⟩
      · have := (MV.cell (k := 2) rfl j).trans (hcur j x hx)
        by_cases q : j = 0
        · subst q; simpa [Addr.add] using this
        · simpa [Addr.add, q] using this
      · have : x.1 < b := by
          rcases List.mem_cons.1 hx with rfl | hx
          · exact lt6 _ (Or.inl rfl)
          rcases List.mem_cons.1 hx with rfl | hx
          · exact lt6 _ (Or.inr (Or.inl rfl))
          · exact lt6 _ (Or.inr (Or.inr (List.mem_map_of_mem hx)))
        omega
      · rcases hg' with q | q | q
        · exact Fv _ (Or.inl q)
        · exact Fv _ (Or.inr (Or.inl q))
        · rcases List.mem_cons.1 q with q | q
          · intro e
            have := far6 _ e.symm
            dsimp only at q
            omega
          · exact Fv _ (Or.inr (Or.inr q))
      · rintro S' W' ⟨v', M', R', F'⟩
        refine ⟨v', on_less M', R', fun g' hg' => F' g' ?_⟩
        rcases hg' with q | q | q
        · exact Or.inl q
        · exact Or.inr (Or.inl q)
        · exact Or.inr (Or.inr (List.mem_cons_of_mem _ q))
    · obtain ⟨A6, c6, e6, _, _⟩ := Kd.R_reads R6
      exact ⟨L, A6, c6, e6, fun q => absurd q d, ⟨v, M4, Rv, Fv⟩, fun _ _ q => q⟩
  clear R6 far6 lt6 M4 Rv Fv
  subst e6
  have hpl2 : pl.length ≤ 200001 := Nat.le_trans plen hlen
  have tm := fun i => tame (S.sp + 1 + (l.length : Int)) pl i hF' hpl2
  clear tame sp1 sp2 sp3 c1 c2 hlen plen hl hpl
  generalize (⟨S.sp + 1 + (l.length : Int), S.ct, S.out⟩ : St) = S1 at H6 tm ⊢
  refine ⟨_, rfl, fun a K => run_ 2 K rfl fun a K => nil_ (wp_block (wp_loop (fun a W => ∃ (i : Nat), i ≤ pl.length ∧ Kn 100 [(49, .int .i64 (i : Int)), (48, .int .i64 (pl.length : Int)), (47, .slice A6 pl.length c6), (0, .pointer (some ⟨gw, 0, none⟩))] a ∧ WS L' w0 gw gm r s st from_ to_ F (passV r st from_ to_ S1 (pl.take i)) W) (fun a _ => leftN 49 pl.length a) ⟨0, Nat.zero_le _, fg_ K ⟨rfl, rfl, rfl, rfl, trivial⟩, H6⟩ ?_))⟩
  clear K H6
  rintro a W ⟨i, hi, K, H⟩
  refine sr_ (run_ 1 K rfl fun a2 K2 => nil_ (wp_seq ?_))
  by_cases hc : i < pl.length
  case neg =>
    obtain rfl : i = pl.length := Nat.le_antisymm hi (Nat.le_of_not_lt hc)
    rw [List.take_length] at H
    exact cf_ K2 rfl (kp_ge hc) (ex_ (thn_ (sr_ (run_ 1 K2 rfl fun a K => nil_ (ret_ rfl K rfl ⟨rfl, back _ _ H⟩)))))
  have ei := kp_inc hc (Nat.le_trans hpl2 (by decide))
  have ek := pass_take r st from_ to_ S1 hc
  obtain ⟨ad, eA, hat⟩ := hand (Nat.lt_of_le_of_lt (Nat.zero_le _) hc)
  subst eA
  have hx := List.getElem?_eq_getElem hc
  obtain ⟨v, M, Rv, Fv⟩ := H
  have hcell := hat _ _ W M i _ hx
  obtain ⟨n1, n2, n3⟩ := tm i
  generalize pl[i] = x at hx ek hcell
  refine ck_ K2 rfl (kp_lt hc) (wp_seq (bjn_ (fun a' W' => Kn 100 [(49, .int .i64 (i : Int)), (48, .int .i64 (pl.length : Int)), (47, .slice (some ad) pl.length c6), (0, .pointer (some ⟨gw, 0, none⟩))] a' ∧ WS L' w0 gw gm r s st from_ to_ F (passV r st from_ to_ S1 (pl.take (i + 1))) W') (sr_ (ix_ K2 hc (Nat.le_trans hpl2 (by decide)) rfl rfl rfl rfl rfl rfl fun a K => el_ K hcell rfl rfl rfl rfl rfl fun a K => run_ 1 K rfl fun a K => nil_ ?_)) ?_))
  case refine_2 =>
    rintro a' W' ⟨K', H'⟩
    refine rg_ (run_ 2 K' rfl fun a5 K5 => nl_ ⟨⟨i + 1, hc, fg_ (ks_ (i := 49) K5 rfl (congrArg (Value.int .i64) ei)) ⟨rfl, rfl, rfl, rfl, trivial⟩, H'⟩, ?_⟩)
    rw [leftN_ (d := 49) K5 rfl, leftN_ (d := 49) K rfl, ei]
    exact leftN_lt hc
  refine sj_ (fun a' w' => w' = W.drew ∧ Kn 100 [(95, .bool (goesV r st (passV r st from_ to_ S1 (pl.take i)).ct x)), (9, .int .i64 x), (49, .int .i64 (i : Int)), (48, .int .i64 (pl.length : Int)), (47, .slice (some ad) pl.length c6), (0, .pointer (some ⟨gw, 0, none⟩))] a') (draw_ fl rfl rfl M.drew (dp_ 15 39 [0, 1, 2, 3] K rfl rfl (by kernel_rfl) fun a K => dld_ 31 4 K M.drew 0 rfl rfl rfl rfl rfl rfl rfl rfl rfl (by kernel_rfl) fun a K => dp_ 127 36 [5, 6] K rfl rfl (by kernel_rfl) fun a K => ?_)) ?_
  replace M := M.drew
  by_cases c1 : st < x
  case pos =>
    refine dp_ 2047 32 [7, 8, 9, 10] (fx_ K (decide_eq_true c1)) rfl rfl (by kernel_rfl) fun a K => dld_ 4095 11 K M 0 rfl rfl rfl rfl rfl rfl rfl rfl rfl (by kernel_rfl) fun a K => dp_ 16383 29 [12, 13] K rfl rfl (by kernel_rfl) fun a K => ?_
    by_cases hu : r.un = false
    case pos =>
      refine dp_ 268435455 15 [14, 15, 16, 17, 18, 19, 20, 21, 22, 23, 24, 25, 26, 27] (fx_ K (nt_ hu)) rfl rfl (by kernel_rfl) fun a K => dld_ 536870911 28 K M 0 rfl rfl rfl rfl rfl rfl rfl rfl rfl (by kernel_rfl) fun a K => dp_ 2147483647 12 [29, 30] K rfl rfl (by kernel_rfl) fun a K => ?_
      by_cases c3 : r.ct = 0
      case pos =>
        refine dp_ 8796093022207 0 [31, 32, 33, 34, 35, 36, 37, 38, 39, 40, 41, 42] (fx_ K (decide_eq_true c3)) rfl rfl (by kernel_rfl) fun a K => dend_ (by kernel_rfl) ?_
        exact ⟨rfl, fg_ (ks_ (i := 95) (u := .bool (goesV r st (passV r st from_ to_ S1 (pl.take i)).ct x)) K rfl (congrArg Value.bool (by simp [goesV, c1, hu, c3]))) ⟨rfl, rfl, rfl, rfl, rfl, rfl, trivial⟩⟩
      case neg =>
        refine dp_ 532575944703 5 [31, 32, 33, 35, 36, 37, 38] (fx_ K (decide_eq_false c3)) rfl rfl (by kernel_rfl) fun a K => dld_ 549755813887 34 K M 0 rfl rfl rfl rfl rfl rfl rfl rfl rfl (by kernel_rfl) fun a K => dld_ 1099511627775 39 K M 0 rfl rfl rfl rfl rfl rfl rfl rfl rfl (by kernel_rfl) fun a K => dp_ 8796093022207 0 [40, 41, 42] K rfl rfl (by kernel_rfl) fun a K => dend_ (by kernel_rfl) ?_
        exact ⟨rfl, fg_ (ks_ (i := 95) (u := .bool (goesV r st (passV r st from_ to_ S1 (pl.take i)).ct x)) K rfl (congrArg Value.bool (by simp [goesV, c1, hu, c3]))) ⟨rfl, rfl, rfl, rfl, rfl, rfl, trivial⟩⟩
    case neg =>
      refine dp_ 524287 24 [14, 15, 16, 17, 18] (fx_ K (nf_ hu)) rfl rfl (by kernel_rfl) fun a K => dld_ 1048575 19 K M 0 rfl rfl rfl rfl rfl rfl rfl rfl rfl (by kernel_rfl) fun a K => dp_ 16777215 19 [20, 21, 22, 23] K rfl rfl (by kernel_rfl) fun a K => ?_
      by_cases c2 : x ≤ r.ua
      case pos =>
        refine dp_ 268435455 15 [24, 25, 26, 27] (fx_ K (decide_eq_true c2)) rfl rfl (by kernel_rfl) fun a K => dld_ 536870911 28 K M 0 rfl rfl rfl rfl rfl rfl rfl rfl rfl (by kernel_rfl) fun a K => dp_ 2147483647 12 [29, 30] K rfl rfl (by kernel_rfl) fun a K => ?_
        by_cases c3 : r.ct = 0
        case pos =>
          refine dp_ 8796093022207 0 [31, 32, 33, 34, 35, 36, 37, 38, 39, 40, 41, 42] (fx_ K (decide_eq_true c3)) rfl rfl (by kernel_rfl) fun a K => dend_ (by kernel_rfl) ?_
          exact ⟨rfl, fg_ (ks_ (i := 95) (u := .bool (goesV r st (passV r st from_ to_ S1 (pl.take i)).ct x)) K rfl (congrArg Value.bool (by simp [goesV, c1, hu, c2, c3]))) ⟨rfl, rfl, rfl, rfl, rfl, rfl, trivial⟩⟩
        case neg =>
          refine dp_ 532575944703 5 [31, 32, 33, 35, 36, 37, 38] (fx_ K (decide_eq_false c3)) rfl rfl (by kernel_rfl) fun a K => dld_ 549755813887 34 K M 0 rfl rfl rfl rfl rfl rfl rfl rfl rfl (by kernel_rfl) fun a K => dld_ 1099511627775 39 K M 0 rfl rfl rfl rfl rfl rfl rfl rfl rfl (by kernel_rfl) fun a K => dp_ 8796093022207 0 [40, 41, 42] K rfl rfl (by kernel_rfl) fun a K => dend_ (by kernel_rfl) ?_
          exact ⟨rfl, fg_ (ks_ (i := 95) (u := .bool (goesV r st (passV r st from_ to_ S1 (pl.take i)).ct x)) K rfl (congrArg Value.bool (by simp [goesV, c1, hu, c2, c3]))) ⟨rfl, rfl, rfl, rfl, rfl, rfl, trivial⟩⟩
      case neg =>
        refine dp_ 8796093022207 0 [24, 25, 26, 27, 28, 29, 30, 31, 32, 33, 34, 35, 36, 37, 38, 39, 40, 41, 42] (fx_ K (decide_eq_false c2)) rfl rfl (by kernel_rfl) fun a K => dend_ (by kernel_rfl) ?_
        exact ⟨rfl, fg_ (ks_ (i := 95) (u := .bool (goesV r st (passV r st from_ to_ S1 (pl.take i)).ct x)) K rfl (congrArg Value.bool (by simp [goesV, c1, hu, c2]))) ⟨rfl, rfl, rfl, rfl, rfl, rfl, trivial⟩⟩
  case neg =>
    refine dp_ 8796093022207 0 [7, 8, 9, 10, 11, 12, 13, 14, 15, 16, 17, 18, 19, 20, 21, 22, 23, 24, 25, 26, 27, 28, 29, 30, 31, 32, 33, 34, 35, 36, 37, 38, 39, 40, 41, 42] (fx_ K (decide_eq_false c1)) rfl rfl (by kernel_rfl) fun a K => dend_ (by kernel_rfl) ?_
    exact ⟨rfl, fg_ (ks_ (i := 95) (u := .bool (goesV r st (passV r st from_ to_ S1 (pl.take i)).ct x)) K rfl (congrArg Value.bool (by simp [goesV, c1]))) ⟨rfl, rfl, rfl, rfl, rfl, rfl, trivial⟩⟩
  rintro a _ ⟨rfl, K⟩
  replace M := M.drew
  replace Rv := Kd.R_drew Rv
  cases hg : goesV r st (passV r st from_ to_ S1 (pl.take i)).ct x with
  | false =>
    rw [ek, hg]
    exact cf_ K rfl hg (wp_skip ⟨fg_ K ⟨rfl, rfl, rfl, rfl, trivial⟩, v, M, Rv, Fv⟩)
  | true =>
    rw [ek, hg]
    refine ct_ K rfl hg (rg_ (run_ 2 K rfl fun a K => cl_ K Tryz.func48 (by kernel_rfl) rfl rfl rfl rfl rfl rfl ((tells_on ⟨v, M, Rv, Fv⟩ G n1 n2 n3).mono ?_)))
    rintro _ W5 ⟨rfl, H5⟩
    exact ⟨_, rfl, fun a K => nl_ ⟨fg_ K ⟨rfl, rfl, rfl, rfl, trivial⟩, H5⟩⟩
end Go.Proofs.YtjjaiahfkiojlaaGreat.Pure

namespace Go.Proofs.YtjjaiahfkiojlaaGreat.O
open Go.RowKit Go.Proofs.YtjjaiahfkiojlaaGreatW.PrintWords Go.Proofs.YtjjaiahfkiojlaaGreatW.PrintLast Go.Proofs.YtjjaiahfkiojlaaGreatW.PrintMore
open Go.Maps
set_option maxRecDepth 100000
set_option linter.unusedVariables false
set_option linter.unusedSimpArgs false
set_option maxHeartbeats 4000000 in
theorem right2_calls {H : Type} (s : ByteArray) (p : Addr) (least most : Int) (neg : Bool) (A : Option Addr) (c : Nat) (l : List Int) (w : World) (hl : 0 ≤ least) (hl' : least ≤ 1000) (hm : 0 ≤ most) (hm' : most ≤ 1000)
    (hp : w.cell? p = some (.slice A l.length c)) (hr : Kd.C (Kd.int .i64) w A l.length l) (hn : l.length ≤ 1000000000) (hw : (l.any fun x => wrongB x least most neg) = false → ∀ x ∈ l, (Lit.int .i64 x).wf = true) :
    Calls Tryz.prog 66 #[.agg #[.string s, .pointer (some p), .int .i64 least, .int .i64 most, .bool neg]] w fun e w' => e = .returned (.bool (rightB l least most neg)) ∧ Below w.heap.size w w' := by
  have HR := Aside0.mk hr
  have HN := Aside0.mk hn
  have HW := Aside0.mk hw
  have HP := Aside0.mk hp
  have HL := Aside0.mk (And.intro hl (And.intro hl' (And.intro hm hm')))
  have hpb : p.block < w.heap.size := World.block_lt_of_cell? w p hp
  have HPB := Aside0.mk hpb
  clear hr hn hw hl hl' hm hm' hpb
  go_enter Tryz.func66, Tryz.ntmps66
  go_upto_region 2 with (fail)
  refine wp_abs (fun W => W.heap[w.heap.size]? = some (.cells #[.string s, .pointer (some p), .int .i64 least, .int .i64 most, .bool neg] 95 (0, 0)) ∧ w.heap.size < W.heap.size ∧ Below w.heap.size w W) ⟨?_, ?_, ?_⟩ ?_
  · exact heap_alloc_new w _
  · simp
  · exact (Below.refl _ _).alloc (Nat.le_refl _) _
  rintro W ⟨b1, b2, b3⟩
  have hk : W.cell? p = some (.slice A l.length c) := (b3.cell HPB.out).trans HP.out
  have c1 : W.cell? ⟨w.heap.size, 1, none⟩ = some (.pointer (some p)) := (blk_cell b1 1).trans rfl
  have hcon := conf_int (fun x => wrongB x least most neg) 99 #[.pointer (some ⟨w.heap.size, 0, none⟩)] enters82 A c l W (Kd.C_below HR.out b3) HN.out
    (pred82 least most neg w.heap.size W HL.out.1 HL.out.2.1 HL.out.2.2.1 HL.out.2.2.2 b2 ((blk_cell b1 2).trans rfl) ((blk_cell b1 3).trans rfl) ((blk_cell b1 4).trans rfl))
  have B1 := Aside0.mk b1
  have B2 := Aside0.mk b2
  have B3 := Aside0.mk b3
  clear b1 b2 b3 hp
  generalize hq : (l.any fun x => wrongB x least most neg) = q at hcon
  have HQ := Aside0.mk hq
  clear hq
  cases q with
  | true =>
    go_wp2_with (go_at_call 100; refine hcon.mono ?_; rintro e w' ⟨rfl, hb'⟩; clear hcon)
    go_ret
    refine ⟨?_, B3.out.trans (hb'.mono B3.out.size)⟩
    have : rightB l least most neg = false := by unfold rightB; rw [HQ.out]; rfl
    rw [this]
    rfl
  | false =>
    generalize hd : dupI l = d
    have HD := Aside0.mk hd
    clear hd
    cases d with
    | true =>
      go_wp2_with (first | (go_at_call 100; refine hcon.mono ?_; rintro e w' ⟨rfl, hb'⟩; clear hcon; have hk2 : w'.cell? p = some (.slice A l.length c) := (hb'.cell (World.block_lt_of_cell? W p hk)).trans hk; have c2 : w'.cell? ⟨w.heap.size, 1, none⟩ = some (.pointer (some p)) := (hb'.cell (World.block_lt_of_cell? W _ c1)).trans c1; clear hk c1; have HB2 := Aside0.mk hb'; clear hb') | (go_at_call 101; refine (twice_int (H := H) A c l _ (Kd.C_below HR.out (B3.out.trans (HB2.out.mono B3.out.size))) HN.out (HW.out HQ.out)).mono ?_; rintro e w2 ⟨rfl, hb2⟩; rw [HD.out]))
      go_ret
      refine ⟨?_, (B3.out.trans (HB2.out.mono B3.out.size)).trans (hb2.mono (Nat.le_trans B3.out.size HB2.out.size))⟩
      have : rightB l least most neg = false := by unfold rightB; rw [HQ.out, HD.out]; rfl
      rw [this]
      rfl
    | false =>
      go_wp2_with (first | (go_at_call 100; refine hcon.mono ?_; rintro e w' ⟨rfl, hb'⟩; clear hcon; have hk2 : w'.cell? p = some (.slice A l.length c) := (hb'.cell (World.block_lt_of_cell? W p hk)).trans hk; have c2 : w'.cell? ⟨w.heap.size, 1, none⟩ = some (.pointer (some p)) := (hb'.cell (World.block_lt_of_cell? W _ c1)).trans c1; clear hk c1; have HB2 := Aside0.mk hb'; clear hb') | (go_at_call 101; refine (twice_int (H := H) A c l _ (Kd.C_below HR.out (B3.out.trans (HB2.out.mono B3.out.size))) HN.out (HW.out HQ.out)).mono ?_; rintro e w2 ⟨rfl, hb2⟩; rw [HD.out]))
      go_ret
      refine ⟨?_, (B3.out.trans (HB2.out.mono B3.out.size)).trans (hb2.mono (Nat.le_trans B3.out.size HB2.out.size))⟩
      have : rightB l least most neg = true := by unfold rightB; rw [HQ.out, HD.out]; rfl
      rw [this]
      rfl
set_option maxHeartbeats 4000000 in
theorem check2_calls {H : Type} (s : ByteArray) (p : Addr) (least most : Int) (neg : Bool) (A : Option Addr) (c : Nat) (l : List Int) (w : World) (hl : 0 ≤ least) (hl' : least ≤ 1000) (hm : 0 ≤ most) (hm' : most ≤ 1000)
    (hp : w.cell? p = some (.slice A l.length c)) (hr : Kd.C (Kd.int .i64) w A l.length l) (hn : l.length ≤ 1000000000) (hw : (l.any fun x => wrongB x least most neg) = false → ∀ x ∈ l, (Lit.int .i64 x).wf = true) :
    Calls Tryz.prog 65 #[.agg #[.string s, .pointer (some p), .int .i64 least, .int .i64 most, .bool neg]] w fun e w' => e = .returned (.bool (!rightB l least most neg)) ∧ Below w.heap.size w w' := by
  have hpb : p.block < w.heap.size := World.block_lt_of_cell? w p hp
  have HH := Aside0.mk (And.intro hl (And.intro hl' (And.intro hm (And.intro hm' (And.intro hp (And.intro hr (And.intro hn (And.intro hw hpb))))))))
  clear hl hl' hm hm' hp hr hn hw hpb
  go_enter Tryz.func65, Tryz.ntmps65
  go_upto_region 1 with (fail)
  refine wp_abs (fun W => W.heap[w.heap.size]? = some (.cells #[.string s, .pointer (some p), .int .i64 least, .int .i64 most, .bool neg] 95 (0, 0)) ∧ Below w.heap.size w W) ⟨?_, ?_⟩ ?_
  · exact heap_alloc_new w _
  · exact (Below.refl _ _).alloc (Nat.le_refl _) _
  rintro W ⟨b1, b3⟩
  obtain ⟨hl, hl', hm, hm', hp, hr, hn, hw, hpb⟩ := HH.out
  have c0 : W.cell? ⟨w.heap.size, 0, none⟩ = some (.string s) := (blk_cell b1 0).trans rfl
  have c1 : W.cell? ⟨w.heap.size, 1, none⟩ = some (.pointer (some p)) := (blk_cell b1 1).trans rfl
  have c2 : W.cell? ⟨w.heap.size, 2, none⟩ = some (.int .i64 least) := (blk_cell b1 2).trans rfl
  have c3 : W.cell? ⟨w.heap.size, 3, none⟩ = some (.int .i64 most) := (blk_cell b1 3).trans rfl
  have c4 : W.cell? ⟨w.heap.size, 4, none⟩ = some (.bool neg) := (blk_cell b1 4).trans rfl
  have hcon := right2_calls (H := H) s p least most neg A c l W hl hl' hm hm' ((b3.cell hpb).trans hp) (Kd.C_below hr b3) hn hw
  have B3 := Aside0.mk b3
  clear hl hl' hm hm' hp hr hn hw hpb b1 b3
  go_wp2_with (go_at_call 66; refine hcon.mono ?_; rintro e w' ⟨rfl, hb'⟩; clear hcon)
  go_ret
  exact ⟨rfl, below_then B3.out B3.out.size hb'⟩
set_option maxHeartbeats 4000000 in
theorem idxf_list2 (n : Nat) (g : Nat) (eg : ∀ args w, (callFunc g args).run Tryz.prog w = .ok (.enter g args) w) (ad : Addr) (c : Nat) (s : Nat → ByteArray) (p : Nat → Addr) (least most : Nat → Int) (neg : Nat → Bool) (bb : Nat → Bool) (w : World)
    (hr : ∀ i, i < n → LAt w ad i (s i) (p i) (least i) (most i) (neg i)) (hn : n ≤ 1000000000)
    (hp : ∀ W, Below w.heap.size w W → ∀ i, i < n → Calls Tryz.prog g #[.agg #[.string (s i), .pointer (some (p i)), .int .i64 (least i), .int .i64 (most i), .bool (neg i)]] W fun e w' => e = .returned (.bool (bb i)) ∧ Below W.heap.size W w') :
    Calls Tryz.prog 103 #[.slice (some ad) n c, .func (.func g) #[] #[]] w (IdxPost w ((List.range n).any bb)) := by
  have HR := Aside0.mk hr
  have HP := Aside0.mk hp
  have HN := Aside0.mk hn
  clear hr hp hn
  go_enter Tryz.func103, Tryz.ntmps103
  go_wp2
  go_loopg [5, 8] n (fun gg _ s8 wr => ∃ kk : Nat, kk ≤ n ∧ n - kk ≤ gg ∧ s8 = .int .i64 kk ∧ Aside0 (Below w.heap.size w wr) ∧ Aside0 (∀ j, j < kk → bb j = false))
  case atStart => exact ⟨0, Nat.zero_le _, by omega, rfl, ⟨Below.refl _ w⟩, ⟨fun j hj => absurd hj (Nat.not_lt_zero _)⟩⟩
  case round =>
    obtain ⟨kk, hkk, hg, rfl, BW, AL⟩ := hrel
    have hn := HN.out
    by_cases hlt : kk < n
    · have hltz : (kk : Int) < (n : Int) := by omega
      obtain ⟨h0, h1, h2, h3, h4⟩ := (HR.out kk hlt).below BW.out
      have hcall := HP.out wr BW.out kk hlt
      generalize s kk = s1 at h0 hcall
      generalize p kk = p1 at h1 hcall
      generalize least kk = le1 at h2 hcall
      generalize most kk = mo1 at h3 hcall
      generalize neg kk = ne1 at h4 hcall
      cases hq : bb kk with
      | true =>
        rw [hq] at hcall
        have HQ := Aside0.mk hq
        clear hq
        go_wp2_with (fail)
        refine hcall.mono ?_
        rintro e w' ⟨rfl, hb'⟩
        clear hcall eg
        go_wp2
        go_ret
        refine ⟨⟨kk, rfl, ?_⟩, below_then BW.out BW.out.size hb'⟩
        rw [decide_eq_true (by omega), eq_comm, List.any_eq_true]
        exact ⟨kk, List.mem_range.2 hlt, HQ.out⟩
      | false =>
        rw [hq] at hcall
        have HQ := Aside0.mk hq
        clear hq
        go_wp2_with (fail)
        refine hcall.mono ?_
        rintro e w' ⟨rfl, hb'⟩
        clear hcall eg
        go_wp2
        go_roundg (n - (kk + 1))
        case measure => omega
        case rel =>
          refine ⟨kk + 1, by omega, by omega, by go_num, ⟨below_then BW.out BW.out.size hb'⟩, ⟨fun j hj => ?_⟩⟩
          by_cases e : j = kk
          · subst e; exact HQ.out
          · exact AL.out j (by omega)
    · have hltz : ¬ (kk : Int) < (n : Int) := by omega
      go_wp2
      go_ret
      refine ⟨⟨-1, rfl, ?_⟩, BW.out⟩
      rw [decide_eq_false (by omega), eq_comm, List.any_eq_false]
      intro j hj
      rw [AL.out j (Nat.lt_of_lt_of_le (List.mem_range.1 hj) (by omega))]
      decide
set_option maxHeartbeats 4000000 in
theorem conf_list2 (n : Nat) (g : Nat) (eg : ∀ args w, (callFunc g args).run Tryz.prog w = .ok (.enter g args) w) (ad : Addr) (c : Nat) (s : Nat → ByteArray) (p : Nat → Addr) (least most : Nat → Int) (neg : Nat → Bool) (bb : Nat → Bool) (w : World)
    (hr : ∀ i, i < n → LAt w ad i (s i) (p i) (least i) (most i) (neg i)) (hn : n ≤ 1000000000)
    (hp : ∀ W, Below w.heap.size w W → ∀ i, i < n → Calls Tryz.prog g #[.agg #[.string (s i), .pointer (some (p i)), .int .i64 (least i), .int .i64 (most i), .bool (neg i)]] W fun e w' => e = .returned (.bool (bb i)) ∧ Below W.heap.size W w') :
    Calls Tryz.prog 68 #[.slice (some ad) n c, .func (.func g) #[] #[]] w fun e w' => e = .returned (.bool ((List.range n).any bb)) ∧ Below w.heap.size w w' := by
  go_enter Tryz.func68, Tryz.ntmps68
  go_wp2_with (go_at_call 103; refine (idxf_list2 n g eg ad c s p least most neg bb _ hr hn hp).mono ?_; rintro e w' ⟨⟨i, rfl, hi⟩, hb'⟩)
  go_ret
  exact ⟨by rw [← hi]; rfl, hb'⟩
theorem dis47_of : ∀ {l : List S67}, (l.Pairwise fun y x => eq67 y x = false) → dis67 l = true
  | [], _ => rfl
  | x :: xs, h => by
    obtain ⟨h1, h2⟩ := List.pairwise_cons.1 h
    simp only [dis67, Bool.and_eq_true, List.all_eq_true, Bool.not_eq_true']
    exact ⟨fun y hy => h1 y hy, dis47_of h2⟩
set_option maxHeartbeats 4000000 in
theorem twice2_by {H : Type} (A : Option Addr) (c : Nat) (l : List S67) (w : World) (hr : Kd.C k67 w A l.length l) (hn : l.length ≤ 1000000000) (hw : ∀ x ∈ l, (Lit.int .i64 x.f0).wf = true ∧ (Lit.int .i64 x.f1).wf = true) :
    Calls Tryz.prog 105 #[.slice A l.length c] w fun e w' => e = .returned (.bool (!dis67 l)) ∧ Below w.heap.size w w' := by
  have HR := Aside0.mk hr
  have HN := Aside0.mk hn
  have HW := Aside0.mk hw
  clear hr hn hw
  have hmm := @run_makeMap Tryz.prog
  go_enter Tryz.func105, Tryz.ntmps105
  go_wp2
  go_loopw [5, 9] (fun _ s9 wr => ∃ (kk : Nat) (D : DataW H), kk ≤ l.length ∧ s9 = .int .i64 kk ∧ Aside0 (wr.ownsMap Tryz.prog 67 (plainElem Tryz.prog 4) w.heap.size kk D) ∧ Aside0 (Holds47 D (l.take kk)) ∧ Aside0 ((l.take kk).Pairwise fun y x => eq67 y x = false) ∧ Aside0 (Below w.heap.size w wr))
    (fun _ s9 _ => l.length - (intOf s9).toNat)
  case atStart => exact ⟨0, .map [], Nat.zero_le _, rfl, ⟨World.ownsMap_made _ _ _ _⟩, ⟨by simpa using holds47_nil⟩, ⟨by simp⟩, ⟨(Below.refl _ _).alloc (Nat.le_refl _) _⟩⟩
  case round =>
    obtain ⟨kk, D, hkk, rfl, HO, HD, HU, BW⟩ := hrel
    have hn := HN.out
    by_cases hlt : kk < l.length
    · have hltz : (kk : Int) < (l.length : Int) := by omega
      obtain ⟨ad, e1, hx0, hx1⟩ := at_T67 (Kd.C_below HR.out BW.out) (kk : Int) (by omega) hltz
      cases e1
      have hy : rd_T67 l (kk : Int) = l[kk] := by unfold rd_T67; simp [List.getD, hlt]
      rw [hy, Int.toNat_natCast] at hx0 hx1
      clear hy
      have hwf := HW.out l[kk] (List.getElem_mem hlt)
      have HT := Aside0.mk (List.take_succ_eq_append_getElem hlt)
      obtain ⟨kl, hkey⟩ := key47 l[kk] hwf.1 hwf.2
      have hat := HD.out l[kk] kl hkey
      have ANY := Aside0.mk (show dis67 l = true → (l.take kk).any (fun y => eq67 y l[kk]) = false from fun q => by
        rw [List.any_eq_false]
        intro y hy
        have h2 := (dis47_pw q).sublist (List.take_sublist (kk + 1) l)
        rw [HT.out, List.pairwise_append] at h2
        rw [h2.2.2 y hy l[kk] (by simp)]
        decide)
      clear hwf
      generalize l[kk] = y at hx0 hx1 hkey hat HT ANY
      generalize hq : (l.take kk).any (fun x => eq67 x y) = q at hat ANY
      have HQ := Aside0.mk hq
      clear hq
      obtain ⟨a, b⟩ := y
      go_upto_region 5 with (fail)
      refine wp_abs (fun W => W.ownsMap Tryz.prog 67 (plainElem Tryz.prog 4) w.heap.size kk D ∧ W.heap[wr.heap.size]? = some (.cells #[.int .i64 a, .int .i64 b] 67 (0, 0)) ∧ Below w.heap.size w W) ⟨HO.out.alloc _, blk_new wr _, below_alloc BW.out _⟩ ?_
      rintro W ⟨b1, b2, b3⟩
      have c0 : W.cell? ⟨wr.heap.size, 0, none⟩ = some (.int .i64 a) := (blk_cell b2 0).trans rfl
      have c1 : W.cell? ⟨wr.heap.size, 1, none⟩ = some (.int .i64 b) := (blk_cell b2 1).trans rfl
      have hlook := lookup_bool b1 law47 Tryz.underlying131 Tryz.underlying4 (zero4 _) hkey hat
      unfold val47 at hlook
      dsimp only at hlook
      have B1 := Aside0.mk b1
      have B3 := Aside0.mk b3
      have HK := Aside0.mk hkey
      clear b1 b2 b3 hkey hat hx0 hx1
      cases q with
      | true =>
        go_wp2
        go_ret
        refine ⟨?_, B3.out⟩
        have h0 : dis67 l = false := by
          cases hd : dis67 l with
          | false => rfl
          | true => exact absurd (ANY.out hd) (by decide)
        rw [h0]
        rfl
      | false =>
        go_wp2_with (first | (at_mapUpdate; refine wpList_mapUpdate_own _ rfl _ _ _ 131 rfl 67 4 law47 Tryz.underlying131 _ w.heap.size kk _ rfl B1.out (by unfold maxLen; omega) _ _ _ rfl rfl HK.out _ [] (plainElem_bool Tryz.underlying4 true) ?_; intro w1 hown1 hgrow1))
        go_roundw
        case rel =>
          refine ⟨kk + 1, D.put kl (.lit (.bool true)), by omega, by go_num, ⟨hown1⟩, ⟨?_⟩, ⟨?_⟩, ⟨B3.out.grown hgrow1 B3.out.size (fun j hj => by cases hj; exact Nat.le_refl _)⟩⟩
          · rw [HT.out]; exact holds47_put HD.out HO.out.isMap _ _ HK.out
          · rw [HT.out, List.pairwise_append]
            refine ⟨HU.out, List.pairwise_singleton _ _, fun x hx z hz => ?_⟩
            obtain rfl := List.mem_singleton.1 hz
            have h1 := List.any_eq_false.1 HQ.out x hx
            simpa using h1
        case measure => simp [intOf]; omega
    · have hltz : ¬ (kk : Int) < (l.length : Int) := by omega
      go_wp2
      go_ret
      refine ⟨?_, BW.out⟩
      have hu := HU.out
      rw [show kk = l.length by omega, List.take_length] at hu
      rw [dis47_of hu]
      rfl
end Go.Proofs.YtjjaiahfkiojlaaGreat.O
