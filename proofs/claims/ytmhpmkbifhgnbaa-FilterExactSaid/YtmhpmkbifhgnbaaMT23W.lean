/- Blocks, joins, elements of lists, for walks over an environment. No condition beyond those each lemma names. -/
-- Recurrence rules that may be wrong, their lists and weekdays: a text of this claim's own.
import Derived.Test.YtmhpmkbifhgnbaaMHS6
import Derived.Test.YtmhpmkbifhgnbaaOx23
namespace Go.Proofs.Ytmhpmkbifhgnbaa.Pure
open Go.RowKit Go.Proofs.Ytmhpmkbifhgnbaa.O Go.Proofs.YtmhpmkbifhgnbaaW.PrintWords Go.Proofs.YtmhpmkbifhgnbaaW.PrintLast
open Go.Proofs.Ytmhpmkbifhgnbaa.Civ
set_option linter.unusedVariables false
set_option linter.unusedSimpArgs false
set_option maxRecDepth 100000
set_option maxHeartbeats 4000000
theorem sj_ (J : Act → World → Prop) {a : Act} {w : World} {x y : Code} {Q : Exit → Act → World → Prop} (h : x.wp Try.prog (Exit.then J Q) a w) (k : ∀ a' w', J a' w' → y.wp Try.prog Q a' w') : (Code.seq x y).wp Try.prog Q a w := by
  refine wp_seq (wp_mono h (fun e a' w' hq => ?_))
  cases e with
  | normal => exact k _ _ hq
  | _ => exact hq
theorem on_of {L : List (Nat × Obj)} {w0 W : World} (bl : Below w0.heap.size w0 W) (me : ∀ p ∈ L, W.heap[p.1]? = some p.2) (nd : (L.map (·.1)).Nodup) : On L w0 W := ⟨bl, fun k g o e => me (g, o) (List.mem_of_getElem? e), nd⟩
theorem nl_ {ops : Array Oper} {Q : Exit → Act → World → Prop} {a : Act} {w : World} (h : Q .normal a w) : wpList Try.prog ops Q [] a w := h
theorem bjn_ (J : Act → World → Prop) {a : Act} {w : World} {id : Nat} {x : Code} {R : Act → World → Prop} {Q : Exit → Act → World → Prop} (h : x.wp Try.prog (Exit.inBlock id (Exit.then J Q)) a w) (k : ∀ a' w', J a' w' → R a' w') : (Code.block id x).wp Try.prog (Exit.then R Q) a w := by
  have go : ∀ e a' w', Exit.then J Q e a' w' → Exit.then R Q e a' w' := fun e a' w' hq => by
    cases e with
    | normal =>
      exact k _ _ hq
    | _ => exact hq
  refine wp_block (wp_mono h (fun e a' w' hq => ?_))
  cases e with
  | exit i =>
    by_cases q : i = id
    · have hq' : Exit.then J Q .normal a' w' := by unfold Exit.inBlock at hq; simpa [q] using hq
      have := go _ _ _ hq'
      unfold Exit.inBlock
      simpa [q] using this
    · have hq' : Exit.then J Q (.exit i) a' w' := by unfold Exit.inBlock at hq; simpa [q] using hq
      have := go _ _ _ hq'
      unfold Exit.inBlock
      simpa [q] using this
  | normal => exact go .normal a' w' hq
  | _ => exact hq
section
variable {ρ : Operand → Value} {o : Oper} {w : World}
theorem run_ix22 {x y : Operand} {ad : Addr} {n c kk : Nat} (hk : kk < n) (hn : n ≤ 4611686018427387904) (ho : o.op = .indexAddr 22 x y) (hx : ρ x = .slice (some ad) n c) (hy : ρ y = .int .i64 kk) : (execOp ρ o).run Try.prog w = .ok (.value (.pointer (some (ad.add (kk * 1))))) w := by
  have hu22 := Try.underlying22
  have hu3 := Try.underlying3
  have h1 : ¬ (kk : Int) < 0 := by omega
  have h2 : (kk : Int) < n := by omega
  unfold execOp; rw [ho]; go_simp
end
theorem C_at {w : World} {A : Option Addr} {n : Nat} {l : List Int} (h : Kd.C (Kd.int .i64) w A n l) (hp : 0 < l.length) : ∃ ad, A = some ad ∧ ∀ (j : Nat) (x : Int), l[j]? = some x → w.cell? (ad.add (j * 1)) = some (.int .i64 x) := by
  obtain ⟨h1, _, h3⟩ := h
  obtain ⟨ad, e, hr⟩ := h3 (h1 ▸ hp)
  refine ⟨ad, e, fun j x hx => ?_⟩
  obtain ⟨cs, hcs, hK, hcell⟩ := hr j x hx
  obtain rfl : cs = [.int .i64 x] := hK
  exact hcell 0 (.int .i64 x) rfl
theorem cell_on {L : List (Nat × Obj)} {w W : World} {p : Addr} {v : Value} (M : On L w W) (h : w.cell? p = some v) : W.cell? p = some v := (M.bl.cell (World.block_lt_of_cell? w _ h)).trans h
theorem kp_lt {i n : Nat} (h : i < n) : decide ((i : Int) < (n : Int)) = true := decide_eq_true (by omega)
theorem kp_ge {i n : Nat} (h : ¬ i < n) : decide ((i : Int) < (n : Int)) = false := decide_eq_false (by omega)
theorem kp_inc {i n : Nat} (h : i < n) (hn : n ≤ 4611686018427387904) : wrap64 ((i : Int) + 1) = ((i + 1 : Nat) : Int) := by rw [w64 (by omega) (by omega)]; omega
def leftN (d n : Nat) (a : Act) : Nat := match a.eval (.tmp d) with | .int _ x => ((n : Int) - x).toNat | _ => 0
theorem leftN_ {d n N : Nat} {E : Env} {a : Act} {x : Int} (K : Kn N E a) (h : O.look E d = some (.int .i64 x)) : leftN d n a = ((n : Int) - x).toNat := by unfold leftN; rw [K.ev _ _ h]
theorem leftN_lt {i n : Nat} (h : i < n) : ((n : Int) - ((i + 1 : Nat) : Int)).toNat < ((n : Int) - (i : Int)).toNat := by omega
section
variable {N : Nat} {E : Env} {a : Act} {ops : Array Oper} {rest : List Oper} {Q : Exit → Act → World → Prop} {w : World} {o : Oper} {d : Nat}
theorem ix_ (K : Kn N E a) {x y : Operand} {ad : Addr} {n c i : Nat} (hi : i < n) (hn : n ≤ 4611686018427387904) (hd : o.dst = some d) (hb : Nat.blt d N = true) (hw : wantE ops E o = some true) (hop : o.op = .indexAddr 22 x y) (hx : evo E x = some (.slice (some ad) n c)) (hy : evo E y = some (.int .i64 i))
    (h : ∀ a', Kn N ((d, .pointer (some (ad.add (i * 1)))) :: E) a' → wpList Try.prog ops Q rest a' w) : wpList Try.prog ops Q (o :: rest) a w :=
  val_ K hd hb hw (run_ix22 hi hn hop (K.of hx) (K.of hy)) h
theorem el_ (K : Kn N E a) {x : Operand} {p : Addr} {m : Int} (hc : w.cell? p = some (.int .i64 m)) (hd : o.dst = some d) (hb : Nat.blt d N = true) (hw : wantE ops E o = some true) (hop : o.op = .load 3 x) (hx : evo E x = some (.pointer (some p)))
    (h : ∀ a', Kn N ((d, .int .i64 m) :: E) a' → wpList Try.prog ops Q rest a' w) : wpList Try.prog ops Q (o :: rest) a w :=
  val_ K hd hb hw (run_ld rfl hop (K.of hx) hc) h
end
end Go.Proofs.Ytmhpmkbifhgnbaa.Pure

namespace Go.Proofs.Ytmhpmkbifhgnbaa.O
open Go.RowKit Go.Proofs.YtmhpmkbifhgnbaaW.PrintWords Go.Proofs.YtmhpmkbifhgnbaaW.PrintLast Go.Proofs.YtmhpmkbifhgnbaaW.PrintMore
open Go.Maps
set_option maxRecDepth 100000
set_option linter.unusedVariables false
set_option linter.unusedSimpArgs false
set_option maxHeartbeats 4000000 in
theorem right2_calls {H : Type} (s : ByteArray) (p : Addr) (least most : Int) (neg : Bool) (A : Option Addr) (c : Nat) (l : List Int) (w : World) (hl : 0 ≤ least) (hl' : least ≤ 1000) (hm : 0 ≤ most) (hm' : most ≤ 1000)
    (hp : w.cell? p = some (.slice A l.length c)) (hr : Kd.C (Kd.int .i64) w A l.length l) (hn : l.length ≤ 1000000000) (hw : (l.any fun x => wrongB x least most neg) = false → ∀ x ∈ l, (Lit.int .i64 x).wf = true) :
    Calls Try.prog 61 #[.agg #[.string s, .pointer (some p), .int .i64 least, .int .i64 most, .bool neg]] w fun e w' => e = .returned (.bool (rightB l least most neg)) ∧ Below w.heap.size w w' := by
  have HR := Aside0.mk hr
  have HN := Aside0.mk hn
  have HW := Aside0.mk hw
  have HP := Aside0.mk hp
  have HL := Aside0.mk (And.intro hl (And.intro hl' (And.intro hm hm')))
  have hpb : p.block < w.heap.size := World.block_lt_of_cell? w p hp
  have HPB := Aside0.mk hpb
  clear hr hn hw hl hl' hm hm' hpb
  go_enter Try.func61, Try.ntmps61
  go_upto_region 2 with (fail)
  refine wp_abs (fun W => W.heap[w.heap.size]? = some (.cells #[.string s, .pointer (some p), .int .i64 least, .int .i64 most, .bool neg] 71 (0, 0)) ∧ w.heap.size < W.heap.size ∧ Below w.heap.size w W) ⟨?_, ?_, ?_⟩ ?_
  · exact heap_alloc_new w _
  · simp
  · exact (Below.refl _ _).alloc (Nat.le_refl _) _
  rintro W ⟨b1, b2, b3⟩
  have hk : W.cell? p = some (.slice A l.length c) := (b3.cell HPB.out).trans HP.out
  have c1 : W.cell? ⟨w.heap.size, 1, none⟩ = some (.pointer (some p)) := (blk_cell b1 1).trans rfl
  have hcon := conf_int (fun x => wrongB x least most neg) 82 #[.pointer (some ⟨w.heap.size, 0, none⟩)] enters82 A c l W (Kd.C_below HR.out b3) HN.out
    (pred82 least most neg w.heap.size W HL.out.1 HL.out.2.1 HL.out.2.2.1 HL.out.2.2.2 b2 ((blk_cell b1 2).trans rfl) ((blk_cell b1 3).trans rfl) ((blk_cell b1 4).trans rfl))
  have B1 := Aside0.mk b1
  have B2 := Aside0.mk b2
  have B3 := Aside0.mk b3
  clear b1 b2 b3 hp
  generalize hq : (l.any fun x => wrongB x least most neg) = q at hcon
  have HQ := Aside0.mk hq
  clear hq
  cases q with
  | true =>
    go_wp2_with (go_at_call 83; refine hcon.mono ?_; rintro e w' ⟨rfl, hb'⟩; clear hcon)
    go_ret
    refine ⟨?_, B3.out.trans (hb'.mono B3.out.size)⟩
    have : rightB l least most neg = false := by unfold rightB; rw [HQ.out]; rfl
    rw [this]
    rfl
  | false =>
    generalize hd : dupI l = d
    have HD := Aside0.mk hd
    clear hd
    cases d with
    | true =>
      go_wp2_with (first | (go_at_call 83; refine hcon.mono ?_; rintro e w' ⟨rfl, hb'⟩; clear hcon; have hk2 : w'.cell? p = some (.slice A l.length c) := (hb'.cell (World.block_lt_of_cell? W p hk)).trans hk; have c2 : w'.cell? ⟨w.heap.size, 1, none⟩ = some (.pointer (some p)) := (hb'.cell (World.block_lt_of_cell? W _ c1)).trans c1; clear hk c1; have HB2 := Aside0.mk hb'; clear hb') | (go_at_call 84; refine (twice_int (H := H) A c l _ (Kd.C_below HR.out (B3.out.trans (HB2.out.mono B3.out.size))) HN.out (HW.out HQ.out)).mono ?_; rintro e w2 ⟨rfl, hb2⟩; rw [HD.out]))
      go_ret
      refine ⟨?_, (B3.out.trans (HB2.out.mono B3.out.size)).trans (hb2.mono (Nat.le_trans B3.out.size HB2.out.size))⟩
      have : rightB l least most neg = false := by unfold rightB; rw [HQ.out, HD.out]; rfl
      rw [this]
      rfl
    | false =>
      go_wp2_with (first | (go_at_call 83; refine hcon.mono ?_; rintro e w' ⟨rfl, hb'⟩; clear hcon; have hk2 : w'.cell? p = some (.slice A l.length c) := (hb'.cell (World.block_lt_of_cell? W p hk)).trans hk; have c2 : w'.cell? ⟨w.heap.size, 1, none⟩ = some (.pointer (some p)) := (hb'.cell (World.block_lt_of_cell? W _ c1)).trans c1; clear hk c1; have HB2 := Aside0.mk hb'; clear hb') | (go_at_call 84; refine (twice_int (H := H) A c l _ (Kd.C_below HR.out (B3.out.trans (HB2.out.mono B3.out.size))) HN.out (HW.out HQ.out)).mono ?_; rintro e w2 ⟨rfl, hb2⟩; rw [HD.out]))
      go_ret
      refine ⟨?_, (B3.out.trans (HB2.out.mono B3.out.size)).trans (hb2.mono (Nat.le_trans B3.out.size HB2.out.size))⟩
      have : rightB l least most neg = true := by unfold rightB; rw [HQ.out, HD.out]; rfl
      rw [this]
      rfl
set_option maxHeartbeats 4000000 in
theorem check2_calls {H : Type} (s : ByteArray) (p : Addr) (least most : Int) (neg : Bool) (A : Option Addr) (c : Nat) (l : List Int) (w : World) (hl : 0 ≤ least) (hl' : least ≤ 1000) (hm : 0 ≤ most) (hm' : most ≤ 1000)
    (hp : w.cell? p = some (.slice A l.length c)) (hr : Kd.C (Kd.int .i64) w A l.length l) (hn : l.length ≤ 1000000000) (hw : (l.any fun x => wrongB x least most neg) = false → ∀ x ∈ l, (Lit.int .i64 x).wf = true) :
    Calls Try.prog 60 #[.agg #[.string s, .pointer (some p), .int .i64 least, .int .i64 most, .bool neg]] w fun e w' => e = .returned (.bool (!rightB l least most neg)) ∧ Below w.heap.size w w' := by
  have hpb : p.block < w.heap.size := World.block_lt_of_cell? w p hp
  have HH := Aside0.mk (And.intro hl (And.intro hl' (And.intro hm (And.intro hm' (And.intro hp (And.intro hr (And.intro hn (And.intro hw hpb))))))))
  clear hl hl' hm hm' hp hr hn hw hpb
  go_enter Try.func60, Try.ntmps60
  go_upto_region 1 with (fail)
  refine wp_abs (fun W => W.heap[w.heap.size]? = some (.cells #[.string s, .pointer (some p), .int .i64 least, .int .i64 most, .bool neg] 71 (0, 0)) ∧ Below w.heap.size w W) ⟨?_, ?_⟩ ?_
  · exact heap_alloc_new w _
  · exact (Below.refl _ _).alloc (Nat.le_refl _) _
  rintro W ⟨b1, b3⟩
  obtain ⟨hl, hl', hm, hm', hp, hr, hn, hw, hpb⟩ := HH.out
  have c0 : W.cell? ⟨w.heap.size, 0, none⟩ = some (.string s) := (blk_cell b1 0).trans rfl
  have c1 : W.cell? ⟨w.heap.size, 1, none⟩ = some (.pointer (some p)) := (blk_cell b1 1).trans rfl
  have c2 : W.cell? ⟨w.heap.size, 2, none⟩ = some (.int .i64 least) := (blk_cell b1 2).trans rfl
  have c3 : W.cell? ⟨w.heap.size, 3, none⟩ = some (.int .i64 most) := (blk_cell b1 3).trans rfl
  have c4 : W.cell? ⟨w.heap.size, 4, none⟩ = some (.bool neg) := (blk_cell b1 4).trans rfl
  have hcon := right2_calls (H := H) s p least most neg A c l W hl hl' hm hm' ((b3.cell hpb).trans hp) (Kd.C_below hr b3) hn hw
  have B3 := Aside0.mk b3
  clear hl hl' hm hm' hp hr hn hw hpb b1 b3
  go_wp2_with (go_at_call 61; refine hcon.mono ?_; rintro e w' ⟨rfl, hb'⟩; clear hcon)
  go_ret
  exact ⟨rfl, below_then B3.out B3.out.size hb'⟩
set_option maxHeartbeats 4000000 in
theorem idxf_list2 (n : Nat) (g : Nat) (eg : ∀ args w, (callFunc g args).run Try.prog w = .ok (.enter g args) w) (ad : Addr) (c : Nat) (s : Nat → ByteArray) (p : Nat → Addr) (least most : Nat → Int) (neg : Nat → Bool) (bb : Nat → Bool) (w : World)
    (hr : ∀ i, i < n → LAt w ad i (s i) (p i) (least i) (most i) (neg i)) (hn : n ≤ 1000000000)
    (hp : ∀ W, Below w.heap.size w W → ∀ i, i < n → Calls Try.prog g #[.agg #[.string (s i), .pointer (some (p i)), .int .i64 (least i), .int .i64 (most i), .bool (neg i)]] W fun e w' => e = .returned (.bool (bb i)) ∧ Below W.heap.size W w') :
    Calls Try.prog 86 #[.slice (some ad) n c, .func (.func g) #[] #[]] w (IdxPost w ((List.range n).any bb)) := by
  have HR := Aside0.mk hr
  have HP := Aside0.mk hp
  have HN := Aside0.mk hn
  clear hr hp hn
  go_enter Try.func86, Try.ntmps86
  go_wp2
  go_loopg [5, 8] n (fun gg _ s8 wr => ∃ kk : Nat, kk ≤ n ∧ n - kk ≤ gg ∧ s8 = .int .i64 kk ∧ Aside0 (Below w.heap.size w wr) ∧ Aside0 (∀ j, j < kk → bb j = false))
  case atStart => exact ⟨0, Nat.zero_le _, by omega, rfl, ⟨Below.refl _ w⟩, ⟨fun j hj => absurd hj (Nat.not_lt_zero _)⟩⟩
  case round =>
    obtain ⟨kk, hkk, hg, rfl, BW, AL⟩ := hrel
    have hn := HN.out
    by_cases hlt : kk < n
    · have hltz : (kk : Int) < (n : Int) := by omega
      obtain ⟨h0, h1, h2, h3, h4⟩ := (HR.out kk hlt).below BW.out
      have hcall := HP.out wr BW.out kk hlt
      generalize s kk = s1 at h0 hcall
      generalize p kk = p1 at h1 hcall
      generalize least kk = le1 at h2 hcall
      generalize most kk = mo1 at h3 hcall
      generalize neg kk = ne1 at h4 hcall
      cases hq : bb kk with
      | true =>
        rw [hq] at hcall
        have HQ := Aside0.mk hq
        clear hq
        go_wp2_with (fail)
        refine hcall.mono ?_
        rintro e w' ⟨rfl, hb'⟩
        clear hcall eg
        go_wp2
        go_ret
        refine ⟨⟨kk, rfl, ?_⟩, below_then BW.out BW.out.size hb'⟩
        rw [decide_eq_true (by omega), eq_comm, List.any_eq_true]
        exact ⟨kk, List.mem_range.2 hlt, HQ.out⟩
      | false =>
        rw [hq] at hcall
        have HQ := Aside0.mk hq
        clear hq
        go_wp2_with (fail)
        refine hcall.mono ?_
        rintro e w' ⟨rfl, hb'⟩
        clear hcall eg
        go_wp2
        go_roundg (n - (kk + 1))
        case measure => omega
        case rel =>
          refine ⟨kk + 1, by omega, by omega, by go_num, ⟨below_then BW.out BW.out.size hb'⟩, ⟨fun j hj => ?_⟩⟩
          by_cases e : j = kk
          · subst e; exact HQ.out
          · exact AL.out j (by omega)
    · have hltz : ¬ (kk : Int) < (n : Int) := by omega
      go_wp2
      go_ret
      refine ⟨⟨-1, rfl, ?_⟩, BW.out⟩
      rw [decide_eq_false (by omega), eq_comm, List.any_eq_false]
      intro j hj
      rw [AL.out j (Nat.lt_of_lt_of_le (List.mem_range.1 hj) (by omega))]
      decide
set_option maxHeartbeats 4000000 in
theorem conf_list2 (n : Nat) (g : Nat) (eg : ∀ args w, (callFunc g args).run Try.prog w = .ok (.enter g args) w) (ad : Addr) (c : Nat) (s : Nat → ByteArray) (p : Nat → Addr) (least most : Nat → Int) (neg : Nat → Bool) (bb : Nat → Bool) (w : World)
    (hr : ∀ i, i < n → LAt w ad i (s i) (p i) (least i) (most i) (neg i)) (hn : n ≤ 1000000000)
    (hp : ∀ W, Below w.heap.size w W → ∀ i, i < n → Calls Try.prog g #[.agg #[.string (s i), .pointer (some (p i)), .int .i64 (least i), .int .i64 (most i), .bool (neg i)]] W fun e w' => e = .returned (.bool (bb i)) ∧ Below W.heap.size W w') :
    Calls Try.prog 63 #[.slice (some ad) n c, .func (.func g) #[] #[]] w fun e w' => e = .returned (.bool ((List.range n).any bb)) ∧ Below w.heap.size w w' := by
  go_enter Try.func63, Try.ntmps63
  go_wp2_with (go_at_call 86; refine (idxf_list2 n g eg ad c s p least most neg bb _ hr hn hp).mono ?_; rintro e w' ⟨⟨i, rfl, hi⟩, hb'⟩)
  go_ret
  exact ⟨by rw [← hi]; rfl, hb'⟩
theorem dis47_of : ∀ {l : List S47}, (l.Pairwise fun y x => eq47 y x = false) → dis47 l = true
  | [], _ => rfl
  | x :: xs, h => by
    obtain ⟨h1, h2⟩ := List.pairwise_cons.1 h
    simp only [dis47, Bool.and_eq_true, List.all_eq_true, Bool.not_eq_true']
    exact ⟨fun y hy => h1 y hy, dis47_of h2⟩
set_option maxHeartbeats 4000000 in
theorem twice2_by {H : Type} (A : Option Addr) (c : Nat) (l : List S47) (w : World) (hr : Kd.C k47 w A l.length l) (hn : l.length ≤ 1000000000) (hw : ∀ x ∈ l, (Lit.int .i64 x.f0).wf = true ∧ (Lit.int .i64 x.f1).wf = true) :
    Calls Try.prog 88 #[.slice A l.length c] w fun e w' => e = .returned (.bool (!dis47 l)) ∧ Below w.heap.size w w' := by
  have HR := Aside0.mk hr
  have HN := Aside0.mk hn
  have HW := Aside0.mk hw
  clear hr hn hw
  have hmm := @run_makeMap Try.prog
  go_enter Try.func88, Try.ntmps88
  go_wp2
  go_loopw [5, 9] (fun _ s9 wr => ∃ (kk : Nat) (D : DataW H), kk ≤ l.length ∧ s9 = .int .i64 kk ∧ Aside0 (wr.ownsMap Try.prog 47 (plainElem Try.prog 4) w.heap.size kk D) ∧ Aside0 (Holds47 D (l.take kk)) ∧ Aside0 ((l.take kk).Pairwise fun y x => eq47 y x = false) ∧ Aside0 (Below w.heap.size w wr))
    (fun _ s9 _ => l.length - (intOf s9).toNat)
  case atStart => exact ⟨0, .map [], Nat.zero_le _, rfl, ⟨World.ownsMap_made _ _ _ _⟩, ⟨by simpa using holds47_nil⟩, ⟨by simp⟩, ⟨(Below.refl _ _).alloc (Nat.le_refl _) _⟩⟩
  case round =>
    obtain ⟨kk, D, hkk, rfl, HO, HD, HU, BW⟩ := hrel
    have hn := HN.out
    by_cases hlt : kk < l.length
    · have hltz : (kk : Int) < (l.length : Int) := by omega
      obtain ⟨ad, e1, hx0, hx1⟩ := at_T47 (Kd.C_below HR.out BW.out) (kk : Int) (by omega) hltz
      cases e1
      have hy : rd_T47 l (kk : Int) = l[kk] := by unfold rd_T47; simp [List.getD, hlt]
      rw [hy, Int.toNat_natCast] at hx0 hx1
      clear hy
      have hwf := HW.out l[kk] (List.getElem_mem hlt)
      have HT := Aside0.mk (List.take_succ_eq_append_getElem hlt)
      obtain ⟨kl, hkey⟩ := key47 l[kk] hwf.1 hwf.2
      have hat := HD.out l[kk] kl hkey
      have ANY := Aside0.mk (show dis47 l = true → (l.take kk).any (fun y => eq47 y l[kk]) = false from fun q => by
        rw [List.any_eq_false]
        intro y hy
        have h2 := (dis47_pw q).sublist (List.take_sublist (kk + 1) l)
        rw [HT.out, List.pairwise_append] at h2
        rw [h2.2.2 y hy l[kk] (by simp)]
        decide)
      clear hwf
      generalize l[kk] = y at hx0 hx1 hkey hat HT ANY
      generalize hq : (l.take kk).any (fun x => eq47 x y) = q at hat ANY
      have HQ := Aside0.mk hq
      clear hq
      obtain ⟨a, b⟩ := y
      go_upto_region 5 with (fail)
      refine wp_abs (fun W => W.ownsMap Try.prog 47 (plainElem Try.prog 4) w.heap.size kk D ∧ W.heap[wr.heap.size]? = some (.cells #[.int .i64 a, .int .i64 b] 47 (0, 0)) ∧ Below w.heap.size w W) ⟨HO.out.alloc _, blk_new wr _, below_alloc BW.out _⟩ ?_
      rintro W ⟨b1, b2, b3⟩
      have c0 : W.cell? ⟨wr.heap.size, 0, none⟩ = some (.int .i64 a) := (blk_cell b2 0).trans rfl
      have c1 : W.cell? ⟨wr.heap.size, 1, none⟩ = some (.int .i64 b) := (blk_cell b2 1).trans rfl
      have hlook := lookup_bool b1 law47 Try.underlying95 Try.underlying4 (zero4 _) hkey hat
      unfold val47 at hlook
      dsimp only at hlook
      have B1 := Aside0.mk b1
      have B3 := Aside0.mk b3
      have HK := Aside0.mk hkey
      clear b1 b2 b3 hkey hat hx0 hx1
      cases q with
      | true =>
        go_wp2
        go_ret
        refine ⟨?_, B3.out⟩
        have h0 : dis47 l = false := by
          cases hd : dis47 l with
          | false => rfl
          | true => exact absurd (ANY.out hd) (by decide)
        rw [h0]
        rfl
      | false =>
        go_wp2_with (first | (at_mapUpdate; refine wpList_mapUpdate_own _ rfl _ _ _ 95 rfl 47 4 law47 Try.underlying95 _ w.heap.size kk _ rfl B1.out (by unfold maxLen; omega) _ _ _ rfl rfl HK.out _ [] (plainElem_bool Try.underlying4 true) ?_; intro w1 hown1 hgrow1))
        go_roundw
        case rel =>
          refine ⟨kk + 1, D.put kl (.lit (.bool true)), by omega, by go_num, ⟨hown1⟩, ⟨?_⟩, ⟨?_⟩, ⟨B3.out.grown hgrow1 B3.out.size (fun j hj => by cases hj; exact Nat.le_refl _)⟩⟩
          · rw [HT.out]; exact holds47_put HD.out HO.out.isMap _ _ HK.out
          · rw [HT.out, List.pairwise_append]
            refine ⟨HU.out, List.pairwise_singleton _ _, fun x hx z hz => ?_⟩
            obtain rfl := List.mem_singleton.1 hz
            have h1 := List.any_eq_false.1 HQ.out x hx
            simpa using h1
        case measure => simp [intOf]; omega
    · have hltz : ¬ (kk : Int) < (l.length : Int) := by omega
      go_wp2
      go_ret
      refine ⟨?_, BW.out⟩
      have hu := HU.out
      rw [show kk = l.length by omega, List.take_length] at hu
      rw [dis47_of hu]
      rfl
end Go.Proofs.Ytmhpmkbifhgnbaa.O
