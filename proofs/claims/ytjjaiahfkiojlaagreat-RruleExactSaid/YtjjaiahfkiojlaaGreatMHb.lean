-- What before, behind, IndexFunc and ContainsFunc of a rule's lists, and Check's function value compute, where all is right: a text of this claim's own.
import Derived.Test.YtjjaiahfkiojlaaGreatProg
import Derived.Below
import Derived.Deep.Draws
import Derived.OwnWalk
import Derived.Laws.OwnMore
import Derived.Tactics
import Derived.WalkKit
import Derived.KernelRfl
import Derived.RowKit3
import Derived.Deep.LoopGhost
import Derived.Deep.QuietTactic
import Derived.BigQuiet
import Derived.Deep.DeepCutAuto
import Derived.Maps.OwnOps
import Derived.Test.YtjjaiahfkiojlaaGreatVWords
import Derived.Test.YtjjaiahfkiojlaaGreatVLast
import Derived.Test.YtjjaiahfkiojlaaGreatMOx0
import Derived.Maps.Views
import Derived.Maps.OwnSet
import Derived.Carry
import Derived.Shelf.Abstract
import Derived.StillTailTactics
import Derived.Maps.AppendAt
namespace Go.Proofs.YtjjaiahfkiojlaaGreat.O
open Go.RowKit Go.Proofs.YtjjaiahfkiojlaaGreatW.PrintWords Go.Proofs.YtjjaiahfkiojlaaGreatW.PrintLast Go.Proofs.YtjjaiahfkiojlaaGreatW.PrintMore
set_option maxRecDepth 100000
set_option linter.unusedVariables false
set_option linter.unusedSimpArgs false
/-- What is asked of a function value that tells of a number. -/
def PredI (g : Nat) (lb : Array Value) (p : Int → Bool) (w : World) : Prop :=
  ∀ (W : World) (x : Int), Below w.heap.size w W → Calls Tryz.prog g (#[.int .i64 x] ++ lb) W fun e w' => e = .returned (.bool (p x)) ∧ Below w.heap.size w w'
def IdxPost (w : World) (b : Bool) (e : Ending) (w' : World) : Prop := (∃ i : Int, e = .returned (.int .i64 i) ∧ decide (0 ≤ i) = b) ∧ Below w.heap.size w w'
theorem rd_at (l : List Int) (k : Nat) (h : k < l.length) : rd l (k : Int) = l[k] := by
  unfold rd
  simp [List.getD, h]
set_option maxHeartbeats 4000000 in
theorem idxf_int (p : Int → Bool) (g : Nat) (lb : Array Value) (eg : ∀ args w, (callFunc g args).run Tryz.prog w = .ok (.enter g args) w) (A : Option Addr) (c : Nat) (l : List Int) (w : World)
    (hr : Kd.C (Kd.int .i64) w A l.length l) (hn : l.length ≤ 1000000000) (hp : PredI g lb p w) :
    Calls Tryz.prog 118 #[.slice A l.length c, .func (.func g) #[] lb] w (IdxPost w (l.any p)) := by
  have HR := Aside0.mk hr
  have HP := Aside0.mk hp
  have HN := Aside0.mk hn
  clear hr hp hn
  go_enter Tryz.func118, Tryz.ntmps118
  go_wp2
  go_loopg [5, 8] l.length (fun gg _ s8 wr => ∃ kk : Nat, kk ≤ l.length ∧ l.length - kk ≤ gg ∧ s8 = .int .i64 kk ∧ Aside0 (Below w.heap.size w wr) ∧ Aside0 (∀ j (hj : j < l.length), j < kk → p l[j] = false))
  case atStart => exact ⟨0, Nat.zero_le _, by omega, rfl, ⟨Below.refl _ w⟩, ⟨fun j _ hj => absurd hj (Nat.not_lt_zero _)⟩⟩
  case round =>
    obtain ⟨kk, hkk, hg, rfl, BW, AL⟩ := hrel
    have hn := HN.out
    by_cases hlt : kk < l.length
    · have hltz : (kk : Int) < (l.length : Int) := by omega
      obtain ⟨ad, e1, hx⟩ := Kd.at_int (Kd.C_below HR.out BW.out) (kk : Int) (by omega) hltz
      cases e1
      rw [rd_at l kk hlt, Int.toNat_natCast] at hx
      have hcall := HP.out wr l[kk] BW.out
      generalize hy : l[kk] = y at hx hcall
      have B := Aside0.mk hy
      clear hy
      cases hq : p y with
      | true =>
        rw [hq] at hcall
        have HQ := Aside0.mk hq
        clear hq
        go_wp2_with (fail)
        refine hcall.mono ?_
        rintro e w' ⟨rfl, hb'⟩
        clear hcall eg
        go_wp2
        go_ret
        refine ⟨⟨kk, rfl, ?_⟩, hb'⟩
        rw [decide_eq_true (by omega), eq_comm, List.any_eq_true]
        exact ⟨l[kk], List.getElem_mem hlt, by rw [B.out]; exact HQ.out⟩
      | false =>
        rw [hq] at hcall
        have HQ := Aside0.mk hq
        clear hq
        go_wp2_with (fail)
        refine hcall.mono ?_
        rintro e w' ⟨rfl, hb'⟩
        clear hcall eg
        go_wp2
        go_roundg (l.length - (kk + 1))
        case measure => omega
        case rel =>
          refine ⟨kk + 1, by omega, by omega, by go_num, ⟨hb'⟩, ⟨fun j hj hjk => ?_⟩⟩
          by_cases e : j = kk
          · subst e
            rw [B.out]; exact HQ.out
          · exact AL.out j hj (by omega)
    · have hltz : ¬ (kk : Int) < (l.length : Int) := by omega
      go_wp2
      go_ret
      refine ⟨⟨-1, rfl, ?_⟩, BW.out⟩
      rw [decide_eq_false (by omega), eq_comm, List.any_eq_false]
      intro x hx
      obtain ⟨j, hj, rfl⟩ := List.getElem_of_mem hx
      rw [AL.out j hj (by omega)]
      decide
set_option maxHeartbeats 4000000 in
theorem conf_int (p : Int → Bool) (g : Nat) (lb : Array Value) (eg : ∀ args w, (callFunc g args).run Tryz.prog w = .ok (.enter g args) w) (A : Option Addr) (c : Nat) (l : List Int) (w : World)
    (hr : Kd.C (Kd.int .i64) w A l.length l) (hn : l.length ≤ 1000000000) (hp : PredI g lb p w) :
    Calls Tryz.prog 100 #[.slice A l.length c, .func (.func g) #[] lb] w fun e w' => e = .returned (.bool (l.any p)) ∧ Below w.heap.size w w' := by
  go_enter Tryz.func100, Tryz.ntmps100
  go_wp2_with (go_at_call 118; refine (idxf_int p g lb eg A c l _ hr hn hp).mono ?_; rintro e w' ⟨⟨i, rfl, hi⟩, hb'⟩)
  go_ret
  exact ⟨by rw [← hi]; rfl, hb'⟩
end Go.Proofs.YtjjaiahfkiojlaaGreat.O

namespace Go.Proofs.YtjjaiahfkiojlaaGreat.O
open Go.RowKit Go.Proofs.YtjjaiahfkiojlaaGreatW.PrintWords Go.Proofs.YtjjaiahfkiojlaaGreatW.PrintLast Go.Proofs.YtjjaiahfkiojlaaGreatW.PrintMore
set_option maxRecDepth 100000
set_option linter.unusedVariables false
set_option linter.unusedSimpArgs false
def wrongB (x least most : Int) (neg : Bool) : Bool := (decide (x < least) || decide (most < x)) && (!neg || decide (-least < x) || decide (x < -most))
set_option maxHeartbeats 4000000 in
theorem wrong_calls (x least most : Int) (neg : Bool) (g : Nat) (W : World) (hl : 0 ≤ least) (hl' : least ≤ 1000) (hm : 0 ≤ most) (hm' : most ≤ 1000)
    (h2 : W.cell? ⟨g, 2, none⟩ = some (.int .i64 least)) (h3 : W.cell? ⟨g, 3, none⟩ = some (.int .i64 most)) (h4 : W.cell? ⟨g, 4, none⟩ = some (.bool neg)) :
    Calls Tryz.prog 99 #[.int .i64 x, .pointer (some ⟨g, 0, none⟩)] W fun e w' => e = .returned (.bool (wrongB x least most neg)) ∧ W = w' := by
  have n1 : IntKind.i64.wrap (-least) = -least := by rw [i64_w]; unfold wrap64; omega
  have n2 : IntKind.i64.wrap (-most) = -most := by rw [i64_w]; unfold wrap64; omega
  by_cases c1 : x < least <;> by_cases c2 : most < x <;> cases neg <;> by_cases c3 : -least < x <;> by_cases c4 : x < -most
  all_goals first
    | (exfalso; omega)
    | (simp only [wrongB, c1, c2, c3, c4, decide_true, decide_false, Bool.true_or, Bool.false_or, Bool.or_true, Bool.or_false, Bool.true_and, Bool.false_and, Bool.and_true, Bool.and_false, Bool.not_true, Bool.not_false]
       go_enter Tryz.func99, Tryz.ntmps99
       go_wp2
       go_ret
       simp)
end Go.Proofs.YtjjaiahfkiojlaaGreat.O

namespace Go.Proofs.YtjjaiahfkiojlaaGreat.O
open Go.RowKit Go.Proofs.YtjjaiahfkiojlaaGreatW.PrintWords Go.Proofs.YtjjaiahfkiojlaaGreatW.PrintLast Go.Proofs.YtjjaiahfkiojlaaGreatW.PrintMore
open Go.Maps
set_option maxRecDepth 100000
set_option linter.unusedVariables false
set_option linter.unusedSimpArgs false
theorem plainElem_bool_inv {H : Type} {P : Program} {e : TypeId} (he : P.underlying e = some .bool) {v : Value} {b : Bool} {ps : List MemPlace} (h : plainElem (H := H) P e v = some (.lit (.bool b), ps)) : v = .bool b := by
  unfold plainElem at h
  rw [he] at h
  cases v <;> simp at h
  obtain ⟨rfl, _⟩ := h
  rfl
theorem lookup_bool {H : Type} {P : Program} {k : TypeId} {w : World} {b n : Nat} {D : DataW H} {t e : TypeId} (h : w.ownsMap P k (plainElem P e) b n D) (K : Keyed P k) (ht : P.underlying t = some (.map k e)) (he : P.underlying e = some .bool)
    (hz : (zeroValue e).run P w = .ok (.bool false) w) {key : Value} {kl : Lit} (hkey : keyOf P k key = some kl) {c : Bool} (hat : D.atKey kl (.lit (.bool false)) = .lit (.bool c)) : (Instr.lookup t (.map (some b)) key false).run P w = .ok (.bool c) w := by
  obtain ⟨v, ps, hrun, hv⟩ := h.lookup K ht hz (plainElem_bool he false) hkey
  rw [hat] at hv
  rw [plainElem_bool_inv he hv] at hrun
  exact hrun
/-- The map holds just the numbers of a list. -/
def Holds {H : Type} (D : DataW H) (l : List Int) : Prop := ∀ x : Int, D.atKey (.int .i64 x) (.lit (.bool false)) = .lit (.bool (decide (x ∈ l)))
theorem holds_nil {H : Type} : Holds (H := H) (.map []) [] := fun x => by
  rw [Go.WideAt.atKey_none _ (by simp)]; simp
theorem holds_put {H : Type} {D : DataW H} {l : List Int} (h : Holds D l) (hm : IsMap D) (y : Int) : Holds (D.put (.int .i64 y) (.lit (.bool true))) (l ++ [y]) := by
  intro x
  by_cases e : x = y
  · subst e
    rw [atKey_put_same hm (show Go.WideAt.IsKeyLit (.int .i64 x) from trivial)]; simp
  · rw [atKey_put_other (by intro h; injection h with _ h; exact e h), h x]
    simp [e]
theorem zero4 (w : World) : (zeroValue 4).run Tryz.prog w = .ok (.bool false) w := by kernel_rfl
theorem law3 : Keyed Tryz.prog 3 := int_keyed Tryz.underlying3
def dupI (l : List Int) : Bool := decide (¬ l.Nodup)
set_option maxHeartbeats 4000000 in
theorem twice_int {H : Type} (A : Option Addr) (c : Nat) (l : List Int) (w : World) (hr : Kd.C (Kd.int .i64) w A l.length l) (hn : l.length ≤ 1000000000) (hw : ∀ x ∈ l, (Lit.int .i64 x).wf = true) :
    Calls Tryz.prog 101 #[.slice A l.length c] w fun e w' => e = .returned (.bool (dupI l)) ∧ Below w.heap.size w w' := by
  have HR := Aside0.mk hr
  have HN := Aside0.mk hn
  have HW := Aside0.mk hw
  clear hr hn hw
  have hmm := @run_makeMap Tryz.prog
  go_enter Tryz.func101, Tryz.ntmps101
  go_wp2
  go_loopw [5, 9] (fun _ s9 wr => ∃ (kk : Nat) (D : DataW H), kk ≤ l.length ∧ s9 = .int .i64 kk ∧ Aside0 (wr.ownsMap Tryz.prog 3 (plainElem Tryz.prog 4) w.heap.size kk D) ∧ Aside0 (Holds D (l.take kk)) ∧ Aside0 ((l.take kk).Nodup) ∧ Aside0 (Below w.heap.size w wr))
    (fun _ s9 _ => l.length - (intOf s9).toNat)
  case atStart => exact ⟨0, .map [], Nat.zero_le _, rfl, ⟨World.ownsMap_made _ _ _ _⟩, ⟨by simpa using holds_nil⟩, ⟨by simp⟩, ⟨(Below.refl _ _).alloc (Nat.le_refl _) _⟩⟩
  case round =>
    obtain ⟨kk, D, hkk, rfl, HO, HD, HU, BW⟩ := hrel
    have hn := HN.out
    by_cases hlt : kk < l.length
    · have hltz : (kk : Int) < (l.length : Int) := by omega
      obtain ⟨ad, e1, hx⟩ := Kd.at_int (Kd.C_below HR.out BW.out) (kk : Int) (by omega) hltz
      cases e1
      rw [rd_at l kk hlt, Int.toNat_natCast] at hx
      have hwf := HW.out l[kk] (List.getElem_mem hlt)
      have HT := Aside0.mk (List.take_succ_eq_append_getElem hlt)
      have hat := HD.out l[kk]
      generalize hy : l[kk] = y at hx hwf hat HT
      have B := Aside0.mk hy
      clear hy
      have hkey : keyOf Tryz.prog 3 (.int .i64 y) = some (.int .i64 y) := keyOf_int_mk Tryz.underlying3 hwf
      have hlook := lookup_bool HO.out law3 Tryz.underlying130 Tryz.underlying4 (zero4 _) hkey hat
      cases hq : decide (y ∈ l.take kk) with
      | true =>
        rw [hq] at hlook
        have HQ := Aside0.mk (of_decide_eq_true hq)
        clear hq hat hkey hwf
        go_wp2
        go_ret
        refine ⟨?_, BW.out⟩
        have : dupI l = true := by
          unfold dupI
          rw [decide_eq_true_eq]
          intro hnd
          have h2 := hnd.sublist (List.take_sublist (kk + 1) l)
          rw [HT.out, List.nodup_append] at h2
          exact h2.2.2 y HQ.out y (by simp) rfl
        rw [this]
        rfl
      | false =>
        rw [hq] at hlook
        have HQ := Aside0.mk (of_decide_eq_false hq)
        have HK := Aside0.mk hkey
        clear hq hat hkey hwf
        go_wp2_with (first | (at_mapUpdate; refine wpList_mapUpdate_own _ rfl _ _ _ 130 rfl 3 4 law3 Tryz.underlying130 _ w.heap.size kk _ rfl HO.out (by unfold maxLen; omega) _ _ _ rfl rfl HK.out _ [] (plainElem_bool Tryz.underlying4 true) ?_; intro w1 hown1 hgrow1))
        go_roundw
        case rel =>
          refine ⟨kk + 1, D.put (.int .i64 y) (.lit (.bool true)), by omega, by go_num, ⟨hown1⟩, ⟨?_⟩, ⟨?_⟩, ⟨BW.out.grown hgrow1 BW.out.size (fun j hj => by cases hj; exact Nat.le_refl _)⟩⟩
          · rw [HT.out]; exact holds_put HD.out HO.out.isMap y
          · rw [HT.out, List.nodup_append]
            exact ⟨HU.out, by simp, fun a ha b hb => by simp at hb; subst hb; rintro rfl; exact HQ.out ha⟩
        case measure => simp [intOf]; omega
    · have hltz : ¬ (kk : Int) < (l.length : Int) := by omega
      have HE := Aside0.mk (show kk = l.length by omega)
      go_wp2
      go_ret
      refine ⟨?_, BW.out⟩
      have hu := HU.out
      rw [HE.out, List.take_length] at hu
      have : dupI l = false := by
        unfold dupI
        rw [decide_eq_false_iff_not]
        exact fun h => h hu
      rw [this]
      rfl
end Go.Proofs.YtjjaiahfkiojlaaGreat.O

namespace Go.Proofs.YtjjaiahfkiojlaaGreat.O
open Go.RowKit Go.Proofs.YtjjaiahfkiojlaaGreatW.PrintWords Go.Proofs.YtjjaiahfkiojlaaGreatW.PrintLast Go.Proofs.YtjjaiahfkiojlaaGreatW.PrintMore
open Go.Maps
set_option maxRecDepth 100000
set_option linter.unusedVariables false
set_option linter.unusedSimpArgs false
theorem wp_abs {P : Program} {c : Code} {Q : Exit → Act → World → Prop} {a : Act} {w : World} (F : World → Prop) (h : F w) (k : ∀ W, F W → Code.wp P c Q a W) : Code.wp P c Q a w := k w h
def rightB (l : List Int) (least most : Int) (neg : Bool) : Bool := !(l.any fun x => wrongB x least most neg) && !dupI l
theorem enters82 : ∀ args w, (callFunc 99 args).run Tryz.prog w = .ok (.enter 99 args) w := enters_of Tryz.func99 (by kernel_rfl) rfl
theorem pred82 (least most : Int) (neg : Bool) (g : Nat) (w : World) (hl : 0 ≤ least) (hl' : least ≤ 1000) (hm : 0 ≤ most) (hm' : most ≤ 1000) (hg : g < w.heap.size)
    (h2 : w.cell? ⟨g, 2, none⟩ = some (.int .i64 least)) (h3 : w.cell? ⟨g, 3, none⟩ = some (.int .i64 most)) (h4 : w.cell? ⟨g, 4, none⟩ = some (.bool neg)) :
    PredI 99 #[.pointer (some ⟨g, 0, none⟩)] (fun x => wrongB x least most neg) w := fun W x hb => by
  refine (wrong_calls x least most neg g W hl hl' hm hm' ((hb.cell (p := ⟨g, 2, none⟩) hg).trans h2) ((hb.cell (p := ⟨g, 3, none⟩) hg).trans h3) ((hb.cell (p := ⟨g, 4, none⟩) hg).trans h4)).mono ?_
  rintro e w' ⟨rfl, rfl⟩
  exact ⟨rfl, hb⟩
set_option maxHeartbeats 4000000 in
theorem right_calls {H : Type} (s : ByteArray) (p : Addr) (least most : Int) (neg : Bool) (A : Option Addr) (c : Nat) (l : List Int) (w : World) (hl : 0 ≤ least) (hl' : least ≤ 1000) (hm : 0 ≤ most) (hm' : most ≤ 1000)
    (hp : w.cell? p = some (.slice A l.length c)) (hr : Kd.C (Kd.int .i64) w A l.length l) (hn : l.length ≤ 1000000000) (hw : ∀ x ∈ l, (Lit.int .i64 x).wf = true) :
    Calls Tryz.prog 66 #[.agg #[.string s, .pointer (some p), .int .i64 least, .int .i64 most, .bool neg]] w fun e w' => e = .returned (.bool (rightB l least most neg)) ∧ Below w.heap.size w w' := by
  have HR := Aside0.mk hr
  have HN := Aside0.mk hn
  have HW := Aside0.mk hw
  have HP := Aside0.mk hp
  have HL := Aside0.mk (And.intro hl (And.intro hl' (And.intro hm hm')))
  have hpb : p.block < w.heap.size := World.block_lt_of_cell? w p hp
  have HPB := Aside0.mk hpb
  clear hr hn hw hl hl' hm hm' hpb
  go_enter Tryz.func66, Tryz.ntmps66
  go_upto_region 2 with (fail)
  refine wp_abs (fun W => W.heap[w.heap.size]? = some (.cells #[.string s, .pointer (some p), .int .i64 least, .int .i64 most, .bool neg] 95 (0, 0)) ∧ w.heap.size < W.heap.size ∧ Below w.heap.size w W) ⟨?_, ?_, ?_⟩ ?_
  · exact heap_alloc_new w _
  · simp
  · exact (Below.refl _ _).alloc (Nat.le_refl _) _
  rintro W ⟨b1, b2, b3⟩
  have hk : W.cell? p = some (.slice A l.length c) := (b3.cell HPB.out).trans HP.out
  have c1 : W.cell? ⟨w.heap.size, 1, none⟩ = some (.pointer (some p)) := (blk_cell b1 1).trans rfl
  have hcon := conf_int (fun x => wrongB x least most neg) 99 #[.pointer (some ⟨w.heap.size, 0, none⟩)] enters82 A c l W (Kd.C_below HR.out b3) HN.out
    (pred82 least most neg w.heap.size W HL.out.1 HL.out.2.1 HL.out.2.2.1 HL.out.2.2.2 b2 ((blk_cell b1 2).trans rfl) ((blk_cell b1 3).trans rfl) ((blk_cell b1 4).trans rfl))
  have B1 := Aside0.mk b1
  have B2 := Aside0.mk b2
  have B3 := Aside0.mk b3
  clear b1 b2 b3 hp
  generalize hq : (l.any fun x => wrongB x least most neg) = q at hcon
  have HQ := Aside0.mk hq
  clear hq
  cases q with
  | true =>
    go_wp2_with (go_at_call 100; refine hcon.mono ?_; rintro e w' ⟨rfl, hb'⟩; clear hcon)
    go_ret
    refine ⟨?_, B3.out.trans (hb'.mono B3.out.size)⟩
    have : rightB l least most neg = false := by unfold rightB; rw [HQ.out]; rfl
    rw [this]
    rfl
  | false =>
    generalize hd : dupI l = d
    have HD := Aside0.mk hd
    clear hd
    cases d with
    | true =>
      go_wp2_with (first | (go_at_call 100; refine hcon.mono ?_; rintro e w' ⟨rfl, hb'⟩; clear hcon; have hk2 : w'.cell? p = some (.slice A l.length c) := (hb'.cell (World.block_lt_of_cell? W p hk)).trans hk; have c2 : w'.cell? ⟨w.heap.size, 1, none⟩ = some (.pointer (some p)) := (hb'.cell (World.block_lt_of_cell? W _ c1)).trans c1; clear hk c1; have HB2 := Aside0.mk hb'; clear hb') | (go_at_call 101; refine (twice_int (H := H) A c l _ (Kd.C_below HR.out (B3.out.trans (HB2.out.mono B3.out.size))) HN.out HW.out).mono ?_; rintro e w2 ⟨rfl, hb2⟩; rw [HD.out]))
      go_ret
      refine ⟨?_, (B3.out.trans (HB2.out.mono B3.out.size)).trans (hb2.mono (Nat.le_trans B3.out.size HB2.out.size))⟩
      have : rightB l least most neg = false := by unfold rightB; rw [HQ.out, HD.out]; rfl
      rw [this]
      rfl
    | false =>
      go_wp2_with (first | (go_at_call 100; refine hcon.mono ?_; rintro e w' ⟨rfl, hb'⟩; clear hcon; have hk2 : w'.cell? p = some (.slice A l.length c) := (hb'.cell (World.block_lt_of_cell? W p hk)).trans hk; have c2 : w'.cell? ⟨w.heap.size, 1, none⟩ = some (.pointer (some p)) := (hb'.cell (World.block_lt_of_cell? W _ c1)).trans c1; clear hk c1; have HB2 := Aside0.mk hb'; clear hb') | (go_at_call 101; refine (twice_int (H := H) A c l _ (Kd.C_below HR.out (B3.out.trans (HB2.out.mono B3.out.size))) HN.out HW.out).mono ?_; rintro e w2 ⟨rfl, hb2⟩; rw [HD.out]))
      go_ret
      refine ⟨?_, (B3.out.trans (HB2.out.mono B3.out.size)).trans (hb2.mono (Nat.le_trans B3.out.size HB2.out.size))⟩
      have : rightB l least most neg = true := by unfold rightB; rw [HQ.out, HD.out]; rfl
      rw [this]
      rfl
end Go.Proofs.YtjjaiahfkiojlaaGreat.O

namespace Go.Proofs.YtjjaiahfkiojlaaGreat.O
open Go.RowKit Go.Proofs.YtjjaiahfkiojlaaGreatW.PrintWords Go.Proofs.YtjjaiahfkiojlaaGreatW.PrintLast Go.Proofs.YtjjaiahfkiojlaaGreatW.PrintMore
set_option maxRecDepth 100000
set_option linter.unusedVariables false
set_option linter.unusedSimpArgs false
/-- The five cells of one of a rule's lists. -/
def lcs (s : ByteArray) (p : Addr) (least most : Int) (neg : Bool) : List Value := [.string s, .pointer (some p), .int .i64 least, .int .i64 most, .bool neg]
def sA : ByteArray := ⟨#[66, 89, 77, 79, 78, 84, 72]⟩
def sB : ByteArray := ⟨#[66, 89, 87, 69, 69, 75, 78, 79]⟩
def sC : ByteArray := ⟨#[66, 89, 89, 69, 65, 82, 68, 65, 89]⟩
def sD : ByteArray := ⟨#[66, 89, 77, 79, 78, 84, 72, 68, 65, 89]⟩
def sE : ByteArray := ⟨#[66, 89, 72, 79, 85, 82]⟩
def sF : ByteArray := ⟨#[66, 89, 77, 73, 78, 85, 84, 69]⟩
def sG : ByteArray := ⟨#[66, 89, 83, 69, 67, 79, 78, 68]⟩
def sH : ByteArray := ⟨#[66, 89, 83, 69, 84, 80, 79, 83]⟩
def bef (g : Nat) : List Value := lcs sA ⟨g, 13, none⟩ 1 12 false ++ lcs sB ⟨g, 12, none⟩ 1 53 true ++ lcs sC ⟨g, 11, none⟩ 1 366 true ++ lcs sD ⟨g, 10, none⟩ 1 31 true
def beh (g : Nat) : List Value := lcs sE ⟨g, 8, none⟩ 0 23 false ++ lcs sF ⟨g, 7, none⟩ 0 59 false ++ lcs sG ⟨g, 6, none⟩ 0 59 false ++ lcs sH ⟨g, 14, none⟩ 1 366 true
set_option maxHeartbeats 4000000 in
set_option maxRecDepth 100000 in
theorem before_calls (g : Nat) (w : World) :
    Calls Tryz.prog 69 #[.pointer (some ⟨g, 0, none⟩)] w fun e w' => e = .returned (.slice (some ⟨w.heap.size, 0, none⟩) 4 4) ∧ Below w.heap.size w w' ∧ w'.heap[w.heap.size]? = some (.cells (bef g).toArray 95 (0, 0)) := by
  go_enter Tryz.func69, Tryz.ntmps69
  go_upto_region 1 with (fail)
  go_still_tail 16, (by kernel_rfl)
  go_wp2
  go_ret
  exact ⟨rfl, below_drew (below_alloc (Below.refl _ _) _), blk_new w _⟩
set_option maxHeartbeats 4000000 in
set_option maxRecDepth 100000 in
theorem behind_calls (g : Nat) (w : World) :
    Calls Tryz.prog 70 #[.pointer (some ⟨g, 0, none⟩)] w fun e w' => e = .returned (.slice (some ⟨w.heap.size, 0, none⟩) 4 4) ∧ Below w.heap.size w w' ∧ w'.heap[w.heap.size]? = some (.cells (beh g).toArray 95 (0, 0)) := by
  go_enter Tryz.func70, Tryz.ntmps70
  go_upto_region 1 with (fail)
  go_still_tail 16, (by kernel_rfl)
  go_wp2
  go_ret
  exact ⟨rfl, below_drew (below_alloc (Below.refl _ _) _), blk_new w _⟩
/-- The i-th of lists that lie in a row. -/
structure LAt (w : World) (ad : Addr) (i : Nat) (s : ByteArray) (p : Addr) (least most : Int) (neg : Bool) : Prop where
  c0 : w.cell? (ad.add (i * 5)) = some (.string s)
  c1 : w.cell? ⟨(ad.add (i * 5)).block, (ad.add (i * 5)).off + 1, none⟩ = some (.pointer (some p))
  c2 : w.cell? ⟨(ad.add (i * 5)).block, (ad.add (i * 5)).off + 2, none⟩ = some (.int .i64 least)
  c3 : w.cell? ⟨(ad.add (i * 5)).block, (ad.add (i * 5)).off + 3, none⟩ = some (.int .i64 most)
  c4 : w.cell? ⟨(ad.add (i * 5)).block, (ad.add (i * 5)).off + 4, none⟩ = some (.bool neg)
theorem LAt.below {w W : World} {ad : Addr} {i : Nat} {s : ByteArray} {p : Addr} {least most : Int} {neg : Bool} (h : LAt w ad i s p least most neg) (hb : Below w.heap.size w W) : LAt W ad i s p least most neg := by
  have f : ∀ {q : Addr} {v : Value}, w.cell? q = some v → W.cell? q = some v := fun {q v} hq => (hb.cell (World.block_lt_of_cell? w q hq)).trans hq
  exact ⟨f h.c0, f h.c1, f h.c2, f h.c3, f h.c4⟩
set_option maxHeartbeats 4000000 in
theorem idxf_list (n : Nat) (g : Nat) (eg : ∀ args w, (callFunc g args).run Tryz.prog w = .ok (.enter g args) w) (ad : Addr) (c : Nat) (s : Nat → ByteArray) (p : Nat → Addr) (least most : Nat → Int) (neg : Nat → Bool) (w : World)
    (hr : ∀ i, i < n → LAt w ad i (s i) (p i) (least i) (most i) (neg i)) (hn : n ≤ 1000000000)
    (hp : ∀ W, Below w.heap.size w W → ∀ i, i < n → Calls Tryz.prog g #[.agg #[.string (s i), .pointer (some (p i)), .int .i64 (least i), .int .i64 (most i), .bool (neg i)]] W fun e w' => e = .returned (.bool false) ∧ Below W.heap.size W w') :
    Calls Tryz.prog 103 #[.slice (some ad) n c, .func (.func g) #[] #[]] w fun e w' => e = .returned (.int .i64 (-1)) ∧ Below w.heap.size w w' := by
  have HR := Aside0.mk hr
  have HP := Aside0.mk hp
  have HN := Aside0.mk hn
  clear hr hp hn
  go_enter Tryz.func103, Tryz.ntmps103
  go_wp2
  go_loopg [5, 8] n (fun gg _ s8 wr => ∃ kk : Nat, kk ≤ n ∧ n - kk ≤ gg ∧ s8 = .int .i64 kk ∧ Aside0 (Below w.heap.size w wr))
  case atStart => exact ⟨0, Nat.zero_le _, by omega, rfl, ⟨Below.refl _ w⟩⟩
  case round =>
    obtain ⟨kk, hkk, hg, rfl, BW⟩ := hrel
    have hn := HN.out
    by_cases hlt : kk < n
    · have hltz : (kk : Int) < (n : Int) := by omega
      obtain ⟨h0, h1, h2, h3, h4⟩ := (HR.out kk hlt).below BW.out
      have hcall := HP.out wr BW.out kk hlt
      generalize s kk = s1 at h0 hcall
      generalize p kk = p1 at h1 hcall
      generalize least kk = le1 at h2 hcall
      generalize most kk = mo1 at h3 hcall
      generalize neg kk = ne1 at h4 hcall
      go_wp2_with (fail)
      refine hcall.mono ?_
      rintro e w' ⟨rfl, hb'⟩
      clear hcall eg
      go_wp2
      go_roundg (n - (kk + 1))
      case measure => omega
      case rel => exact ⟨kk + 1, by omega, by omega, by go_num, ⟨below_then BW.out BW.out.size hb'⟩⟩
    · have hltz : ¬ (kk : Int) < (n : Int) := by omega
      go_wp2
      go_ret
      exact ⟨rfl, BW.out⟩
set_option maxHeartbeats 4000000 in
theorem conf_list (n : Nat) (g : Nat) (eg : ∀ args w, (callFunc g args).run Tryz.prog w = .ok (.enter g args) w) (ad : Addr) (c : Nat) (s : Nat → ByteArray) (p : Nat → Addr) (least most : Nat → Int) (neg : Nat → Bool) (w : World)
    (hr : ∀ i, i < n → LAt w ad i (s i) (p i) (least i) (most i) (neg i)) (hn : n ≤ 1000000000)
    (hp : ∀ W, Below w.heap.size w W → ∀ i, i < n → Calls Tryz.prog g #[.agg #[.string (s i), .pointer (some (p i)), .int .i64 (least i), .int .i64 (most i), .bool (neg i)]] W fun e w' => e = .returned (.bool false) ∧ Below W.heap.size W w') :
    Calls Tryz.prog 68 #[.slice (some ad) n c, .func (.func g) #[] #[]] w fun e w' => e = .returned (.bool false) ∧ Below w.heap.size w w' := by
  go_enter Tryz.func68, Tryz.ntmps68
  go_wp2_with (go_at_call 103; refine (idxf_list n g eg ad c s p least most neg _ hr hn hp).mono ?_; rintro e w' ⟨rfl, hb'⟩)
  go_ret
  exact ⟨rfl, hb'⟩
set_option maxHeartbeats 4000000 in
theorem check1_calls {H : Type} (s : ByteArray) (p : Addr) (least most : Int) (neg : Bool) (A : Option Addr) (c : Nat) (l : List Int) (w : World) (hl : 0 ≤ least) (hl' : least ≤ 1000) (hm : 0 ≤ most) (hm' : most ≤ 1000)
    (hp : w.cell? p = some (.slice A l.length c)) (hr : Kd.C (Kd.int .i64) w A l.length l) (hn : l.length ≤ 1000000000) (hw : ∀ x ∈ l, (Lit.int .i64 x).wf = true) (hright : rightB l least most neg = true) :
    Calls Tryz.prog 65 #[.agg #[.string s, .pointer (some p), .int .i64 least, .int .i64 most, .bool neg]] w fun e w' => e = .returned (.bool false) ∧ Below w.heap.size w w' := by
  have hpb : p.block < w.heap.size := World.block_lt_of_cell? w p hp
  have HH := Aside0.mk (And.intro hl (And.intro hl' (And.intro hm (And.intro hm' (And.intro hp (And.intro hr (And.intro hn (And.intro hw (And.intro hright hpb)))))))))
  clear hl hl' hm hm' hp hr hn hw hright hpb
  go_enter Tryz.func65, Tryz.ntmps65
  go_upto_region 1 with (fail)
  refine wp_abs (fun W => W.heap[w.heap.size]? = some (.cells #[.string s, .pointer (some p), .int .i64 least, .int .i64 most, .bool neg] 95 (0, 0)) ∧ Below w.heap.size w W) ⟨?_, ?_⟩ ?_
  · exact heap_alloc_new w _
  · exact (Below.refl _ _).alloc (Nat.le_refl _) _
  rintro W ⟨b1, b3⟩
  obtain ⟨hl, hl', hm, hm', hp, hr, hn, hw, hright, hpb⟩ := HH.out
  have c0 : W.cell? ⟨w.heap.size, 0, none⟩ = some (.string s) := (blk_cell b1 0).trans rfl
  have c1 : W.cell? ⟨w.heap.size, 1, none⟩ = some (.pointer (some p)) := (blk_cell b1 1).trans rfl
  have c2 : W.cell? ⟨w.heap.size, 2, none⟩ = some (.int .i64 least) := (blk_cell b1 2).trans rfl
  have c3 : W.cell? ⟨w.heap.size, 3, none⟩ = some (.int .i64 most) := (blk_cell b1 3).trans rfl
  have c4 : W.cell? ⟨w.heap.size, 4, none⟩ = some (.bool neg) := (blk_cell b1 4).trans rfl
  have hcon := right_calls (H := H) s p least most neg A c l W hl hl' hm hm' ((b3.cell hpb).trans hp) (Kd.C_below hr b3) hn hw
  rw [hright] at hcon
  have B3 := Aside0.mk b3
  clear hl hl' hm hm' hp hr hn hw hright hpb b1 b3
  go_wp2_with (go_at_call 66; refine hcon.mono ?_; rintro e w' ⟨rfl, hb'⟩; clear hcon)
  go_ret
  exact ⟨rfl, below_then B3.out B3.out.size hb'⟩
end Go.Proofs.YtjjaiahfkiojlaaGreat.O
