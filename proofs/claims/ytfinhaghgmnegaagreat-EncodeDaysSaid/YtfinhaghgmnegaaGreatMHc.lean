-- What before, behind, IndexFunc and ContainsFunc of a rule's lists, and Check's function value compute, where all is right: a text of this claim's own.
-- What twice, days and the function values over a rule's weekdays compute, where all is right; IndexFunc and ContainsFunc over weekdays: a text of this claim's own.
import Derived.Test.YtfinhaghgmnegaaGreatMHa
import Derived.StillTailTactics
import Derived.Maps.AppendAt
import Derived.Test.YtfinhaghgmnegaaGreatMOx3
import Derived.DeepKeys4
namespace Go.Proofs.YtfinhaghgmnegaaGreat.O
open Go.RowKit Go.Proofs.YtfinhaghgmnegaaGreatW.PrintWords Go.Proofs.YtfinhaghgmnegaaGreatW.PrintLast Go.Proofs.YtfinhaghgmnegaaGreatW.PrintMore
set_option maxRecDepth 100000
set_option linter.unusedVariables false
set_option linter.unusedSimpArgs false
/-- The five cells of one of a rule's lists. -/
def lcs (s : ByteArray) (p : Addr) (least most : Int) (neg : Bool) : List Value := [.string s, .pointer (some p), .int .i64 least, .int .i64 most, .bool neg]
def sA : ByteArray := ⟨#[66, 89, 77, 79, 78, 84, 72]⟩
def sB : ByteArray := ⟨#[66, 89, 87, 69, 69, 75, 78, 79]⟩
def sC : ByteArray := ⟨#[66, 89, 89, 69, 65, 82, 68, 65, 89]⟩
def sD : ByteArray := ⟨#[66, 89, 77, 79, 78, 84, 72, 68, 65, 89]⟩
def sE : ByteArray := ⟨#[66, 89, 72, 79, 85, 82]⟩
def sF : ByteArray := ⟨#[66, 89, 77, 73, 78, 85, 84, 69]⟩
def sG : ByteArray := ⟨#[66, 89, 83, 69, 67, 79, 78, 68]⟩
def sH : ByteArray := ⟨#[66, 89, 83, 69, 84, 80, 79, 83]⟩
def bef (g : Nat) : List Value := lcs sA ⟨g, 13, none⟩ 1 12 false ++ lcs sB ⟨g, 12, none⟩ 1 53 true ++ lcs sC ⟨g, 11, none⟩ 1 366 true ++ lcs sD ⟨g, 10, none⟩ 1 31 true
def beh (g : Nat) : List Value := lcs sE ⟨g, 8, none⟩ 0 23 false ++ lcs sF ⟨g, 7, none⟩ 0 59 false ++ lcs sG ⟨g, 6, none⟩ 0 59 false ++ lcs sH ⟨g, 14, none⟩ 1 366 true
set_option maxHeartbeats 4000000 in
set_option maxRecDepth 100000 in
theorem before_calls (g : Nat) (w : World) :
    Calls Tryz.prog 23 #[.pointer (some ⟨g, 0, none⟩)] w fun e w' => e = .returned (.slice (some ⟨w.heap.size, 0, none⟩) 4 4) ∧ Below w.heap.size w w' ∧ w'.heap[w.heap.size]? = some (.cells (bef g).toArray 56 (0, 0)) := by
  go_enter Tryz.func23, Tryz.ntmps23
  go_upto_region 1 with (fail)
  go_still_tail 16, (by kernel_rfl)
  go_wp2
  go_ret
  exact ⟨rfl, below_drew (below_alloc (Below.refl _ _) _), blk_new w _⟩
set_option maxHeartbeats 4000000 in
set_option maxRecDepth 100000 in
theorem behind_calls (g : Nat) (w : World) :
    Calls Tryz.prog 24 #[.pointer (some ⟨g, 0, none⟩)] w fun e w' => e = .returned (.slice (some ⟨w.heap.size, 0, none⟩) 4 4) ∧ Below w.heap.size w w' ∧ w'.heap[w.heap.size]? = some (.cells (beh g).toArray 56 (0, 0)) := by
  go_enter Tryz.func24, Tryz.ntmps24
  go_upto_region 1 with (fail)
  go_still_tail 16, (by kernel_rfl)
  go_wp2
  go_ret
  exact ⟨rfl, below_drew (below_alloc (Below.refl _ _) _), blk_new w _⟩
/-- The i-th of lists that lie in a row. -/
structure LAt (w : World) (ad : Addr) (i : Nat) (s : ByteArray) (p : Addr) (least most : Int) (neg : Bool) : Prop where
  c0 : w.cell? (ad.add (i * 5)) = some (.string s)
  c1 : w.cell? ⟨(ad.add (i * 5)).block, (ad.add (i * 5)).off + 1, none⟩ = some (.pointer (some p))
  c2 : w.cell? ⟨(ad.add (i * 5)).block, (ad.add (i * 5)).off + 2, none⟩ = some (.int .i64 least)
  c3 : w.cell? ⟨(ad.add (i * 5)).block, (ad.add (i * 5)).off + 3, none⟩ = some (.int .i64 most)
  c4 : w.cell? ⟨(ad.add (i * 5)).block, (ad.add (i * 5)).off + 4, none⟩ = some (.bool neg)
theorem LAt.below {w W : World} {ad : Addr} {i : Nat} {s : ByteArray} {p : Addr} {least most : Int} {neg : Bool} (h : LAt w ad i s p least most neg) (hb : Below w.heap.size w W) : LAt W ad i s p least most neg := by
  have f : ∀ {q : Addr} {v : Value}, w.cell? q = some v → W.cell? q = some v := fun {q v} hq => (hb.cell (World.block_lt_of_cell? w q hq)).trans hq
  exact ⟨f h.c0, f h.c1, f h.c2, f h.c3, f h.c4⟩
set_option maxHeartbeats 4000000 in
theorem idxf_list (n : Nat) (g : Nat) (eg : ∀ args w, (callFunc g args).run Tryz.prog w = .ok (.enter g args) w) (ad : Addr) (c : Nat) (s : Nat → ByteArray) (p : Nat → Addr) (least most : Nat → Int) (neg : Nat → Bool) (w : World)
    (hr : ∀ i, i < n → LAt w ad i (s i) (p i) (least i) (most i) (neg i)) (hn : n ≤ 1000000000)
    (hp : ∀ W, Below w.heap.size w W → ∀ i, i < n → Calls Tryz.prog g #[.agg #[.string (s i), .pointer (some (p i)), .int .i64 (least i), .int .i64 (most i), .bool (neg i)]] W fun e w' => e = .returned (.bool false) ∧ Below W.heap.size W w') :
    Calls Tryz.prog 44 #[.slice (some ad) n c, .func (.func g) #[] #[]] w fun e w' => e = .returned (.int .i64 (-1)) ∧ Below w.heap.size w w' := by
  have HR := Aside0.mk hr
  have HP := Aside0.mk hp
  have HN := Aside0.mk hn
  clear hr hp hn
  go_enter Tryz.func44, Tryz.ntmps44
  go_wp2
  go_loopg [5, 8] n (fun gg _ s8 wr => ∃ kk : Nat, kk ≤ n ∧ n - kk ≤ gg ∧ s8 = .int .i64 kk ∧ Aside0 (Below w.heap.size w wr))
  case atStart => exact ⟨0, Nat.zero_le _, by omega, rfl, ⟨Below.refl _ w⟩⟩
  case round =>
    obtain ⟨kk, hkk, hg, rfl, BW⟩ := hrel
    have hn := HN.out
    by_cases hlt : kk < n
    · have hltz : (kk : Int) < (n : Int) := by omega
      obtain ⟨h0, h1, h2, h3, h4⟩ := (HR.out kk hlt).below BW.out
      have hcall := HP.out wr BW.out kk hlt
      generalize s kk = s1 at h0 hcall
      generalize p kk = p1 at h1 hcall
      generalize least kk = le1 at h2 hcall
      generalize most kk = mo1 at h3 hcall
      generalize neg kk = ne1 at h4 hcall
      go_wp2_with (fail)
      refine hcall.mono ?_
      rintro e w' ⟨rfl, hb'⟩
      clear hcall eg
      go_wp2
      go_roundg (n - (kk + 1))
      case measure => omega
      case rel => exact ⟨kk + 1, by omega, by omega, by go_num, ⟨below_then BW.out BW.out.size hb'⟩⟩
    · have hltz : ¬ (kk : Int) < (n : Int) := by omega
      go_wp2
      go_ret
      exact ⟨rfl, BW.out⟩
set_option maxHeartbeats 4000000 in
theorem conf_list (n : Nat) (g : Nat) (eg : ∀ args w, (callFunc g args).run Tryz.prog w = .ok (.enter g args) w) (ad : Addr) (c : Nat) (s : Nat → ByteArray) (p : Nat → Addr) (least most : Nat → Int) (neg : Nat → Bool) (w : World)
    (hr : ∀ i, i < n → LAt w ad i (s i) (p i) (least i) (most i) (neg i)) (hn : n ≤ 1000000000)
    (hp : ∀ W, Below w.heap.size w W → ∀ i, i < n → Calls Tryz.prog g #[.agg #[.string (s i), .pointer (some (p i)), .int .i64 (least i), .int .i64 (most i), .bool (neg i)]] W fun e w' => e = .returned (.bool false) ∧ Below W.heap.size W w') :
    Calls Tryz.prog 22 #[.slice (some ad) n c, .func (.func g) #[] #[]] w fun e w' => e = .returned (.bool false) ∧ Below w.heap.size w w' := by
  go_enter Tryz.func22, Tryz.ntmps22
  go_wp2_with (go_at_call 44; refine (idxf_list n g eg ad c s p least most neg _ hr hn hp).mono ?_; rintro e w' ⟨rfl, hb'⟩)
  go_ret
  exact ⟨rfl, hb'⟩
set_option maxHeartbeats 4000000 in
theorem check1_calls {H : Type} (s : ByteArray) (p : Addr) (least most : Int) (neg : Bool) (A : Option Addr) (c : Nat) (l : List Int) (w : World) (hl : 0 ≤ least) (hl' : least ≤ 1000) (hm : 0 ≤ most) (hm' : most ≤ 1000)
    (hp : w.cell? p = some (.slice A l.length c)) (hr : Kd.C (Kd.int .i64) w A l.length l) (hn : l.length ≤ 1000000000) (hw : ∀ x ∈ l, (Lit.int .i64 x).wf = true) (hright : rightB l least most neg = true) :
    Calls Tryz.prog 19 #[.agg #[.string s, .pointer (some p), .int .i64 least, .int .i64 most, .bool neg]] w fun e w' => e = .returned (.bool false) ∧ Below w.heap.size w w' := by
  have hpb : p.block < w.heap.size := World.block_lt_of_cell? w p hp
  have HH := Aside0.mk (And.intro hl (And.intro hl' (And.intro hm (And.intro hm' (And.intro hp (And.intro hr (And.intro hn (And.intro hw (And.intro hright hpb)))))))))
  clear hl hl' hm hm' hp hr hn hw hright hpb
  go_enter Tryz.func19, Tryz.ntmps19
  go_upto_region 1 with (fail)
  refine wp_abs (fun W => W.heap[w.heap.size]? = some (.cells #[.string s, .pointer (some p), .int .i64 least, .int .i64 most, .bool neg] 56 (0, 0)) ∧ Below w.heap.size w W) ⟨?_, ?_⟩ ?_
  · exact heap_alloc_new w _
  · exact (Below.refl _ _).alloc (Nat.le_refl _) _
  rintro W ⟨b1, b3⟩
  obtain ⟨hl, hl', hm, hm', hp, hr, hn, hw, hright, hpb⟩ := HH.out
  have c0 : W.cell? ⟨w.heap.size, 0, none⟩ = some (.string s) := (blk_cell b1 0).trans rfl
  have c1 : W.cell? ⟨w.heap.size, 1, none⟩ = some (.pointer (some p)) := (blk_cell b1 1).trans rfl
  have c2 : W.cell? ⟨w.heap.size, 2, none⟩ = some (.int .i64 least) := (blk_cell b1 2).trans rfl
  have c3 : W.cell? ⟨w.heap.size, 3, none⟩ = some (.int .i64 most) := (blk_cell b1 3).trans rfl
  have c4 : W.cell? ⟨w.heap.size, 4, none⟩ = some (.bool neg) := (blk_cell b1 4).trans rfl
  have hcon := right_calls (H := H) s p least most neg A c l W hl hl' hm hm' ((b3.cell hpb).trans hp) (Kd.C_below hr b3) hn hw
  rw [hright] at hcon
  have B3 := Aside0.mk b3
  clear hl hl' hm hm' hp hr hn hw hright hpb b1 b3
  go_wp2_with (go_at_call 20; refine hcon.mono ?_; rintro e w' ⟨rfl, hb'⟩; clear hcon)
  go_ret
  exact ⟨rfl, below_then B3.out B3.out.size hb'⟩
end Go.Proofs.YtfinhaghgmnegaaGreat.O

namespace Go.Proofs.YtfinhaghgmnegaaGreat.O
open Go.RowKit Go.Proofs.YtfinhaghgmnegaaGreatW.PrintWords Go.Proofs.YtfinhaghgmnegaaGreatW.PrintLast Go.Proofs.YtfinhaghgmnegaaGreatW.PrintMore
open Go.Maps
set_option maxRecDepth 100000
set_option linter.unusedVariables false
set_option linter.unusedSimpArgs false
theorem row47 : 44 < Tryz.prog.types.size := of_decide_eq_true (by kernel_rfl)
theorem law47 : Keyed Tryz.prog 44 := Keyed.of_law (deep_law_laid (by kernel_rfl) (m := 5) (by decide) row47 (by kernel_rfl) (by kernel_rfl))
def val47 (x : S44) : Value := .agg #[.int .i64 x.f0, .int .i64 x.f1]
theorem lits3 (d : Nat) (n : Int) (h : (Lit.int .i64 n).wf = true) : Tryz.prog.keyLits (d + 1) 3 [.int .i64 n] = some [.int .i64 n] := by
  unfold Program.keyLits
  rw [Tryz.underlying3]
  simp only [h, and_self, if_true]
theorem key47 (x : S44) (h0 : (Lit.int .i64 x.f0).wf = true) (h1 : (Lit.int .i64 x.f1).wf = true) : ∃ kl, keyOf Tryz.prog 44 (val47 x) = some kl := by
  have ht : Tryz.prog.keyType 44 = true := by kernel_rfl
  have hc : Tryz.prog.cellsOf 44 = 2 := by kernel_rfl
  have hc3 : Tryz.prog.cellsOf 3 = 1 := by kernel_rfl
  have hsz : Tryz.prog.types.size + 1 = Tryz.prog.types.size - 1 + 1 + 1 := by kernel_rfl
  refine ⟨.string (keyBytes [.int .i64 x.f0, .int .i64 x.f1]), ?_⟩
  unfold keyOf
  rw [Tryz.underlying44]
  dsimp only
  have hf : (val47 x).formed Tryz.prog 44 = true := by
    unfold val47 Value.formed
    rw [Tryz.underlying44]
    simp [hc]
  rw [ht, hf, if_pos (by rfl), hsz]
  have hk : Tryz.prog.keyLits (Tryz.prog.types.size - 1 + 1 + 1) 44 (val47 x).cells.toList = some [.int .i64 x.f0, .int .i64 x.f1] := by
    unfold Program.keyLits
    rw [Tryz.underlying44]
    simp only [val47, Value.cells, hc, hc3]
    have e1 : Tryz.prog.keyLits 164 3 [.int .i64 x.f0] = some [.int .i64 x.f0] := lits3 113 _ h0
    have e2 : Tryz.prog.keyLits 164 3 [.int .i64 x.f1] = some [.int .i64 x.f1] := lits3 113 _ h1
    simp
    rw [hc3]
    simp only [List.take_succ_cons, List.take_zero, e1, e2, Option.bind_some]
    rfl
  rw [hk]
  rfl
set_option maxHeartbeats 4000000 in
theorem idxf_by (p : S44 → Bool) (g : Nat) (lb : Array Value) (eg : ∀ args w, (callFunc g args).run Tryz.prog w = .ok (.enter g args) w) (A : Option Addr) (c : Nat) (l : List S44) (w : World)
    (hr : Kd.C k44 w A l.length l) (hn : l.length ≤ 1000000000)
    (hp : ∀ W, Below w.heap.size w W → ∀ x ∈ l, Calls Tryz.prog g (#[.agg #[.int .i64 x.f0, .int .i64 x.f1]] ++ lb) W fun e w' => e = .returned (.bool (p x)) ∧ Below W.heap.size W w') :
    Calls Tryz.prog 58 #[.slice A l.length c, .func (.func g) #[] lb] w (IdxPost w (l.any p)) := by
  have HR := Aside0.mk hr
  have HP := Aside0.mk hp
  have HN := Aside0.mk hn
  clear hr hp hn
  go_enter Tryz.func58, Tryz.ntmps58
  go_wp2
  go_loopg [5, 8] l.length (fun gg _ s8 wr => ∃ kk : Nat, kk ≤ l.length ∧ l.length - kk ≤ gg ∧ s8 = .int .i64 kk ∧ Aside0 (Below w.heap.size w wr) ∧ Aside0 (∀ j (hj : j < l.length), j < kk → p l[j] = false))
  case atStart => exact ⟨0, Nat.zero_le _, by omega, rfl, ⟨Below.refl _ w⟩, ⟨fun j _ hj => absurd hj (Nat.not_lt_zero _)⟩⟩
  case round =>
    obtain ⟨kk, hkk, hg, rfl, BW, AL⟩ := hrel
    have hn := HN.out
    by_cases hlt : kk < l.length
    · have hltz : (kk : Int) < (l.length : Int) := by omega
      obtain ⟨ad, e1, hx0, hx1⟩ := at_T44 (Kd.C_below HR.out BW.out) (kk : Int) (by omega) hltz
      cases e1
      have hy : rd_T44 l (kk : Int) = l[kk] := by unfold rd_T44; simp [List.getD, hlt]
      rw [hy, Int.toNat_natCast] at hx0 hx1
      have hcall := HP.out wr BW.out l[kk] (List.getElem_mem hlt)
      clear hy
      generalize hy : l[kk] = y at hx0 hx1 hcall
      have B := Aside0.mk hy
      clear hy
      cases hq : p y with
      | true =>
        rw [hq] at hcall
        have HQ := Aside0.mk hq
        clear hq
        go_wp2_with (fail)
        refine hcall.mono ?_
        rintro e w' ⟨rfl, hb'⟩
        clear hcall eg
        go_wp2
        go_ret
        refine ⟨⟨kk, rfl, ?_⟩, below_then BW.out BW.out.size hb'⟩
        rw [decide_eq_true (by omega), eq_comm, List.any_eq_true]
        exact ⟨l[kk], List.getElem_mem hlt, by rw [B.out]; exact HQ.out⟩
      | false =>
        rw [hq] at hcall
        have HQ := Aside0.mk hq
        clear hq
        go_wp2_with (fail)
        refine hcall.mono ?_
        rintro e w' ⟨rfl, hb'⟩
        clear hcall eg
        go_wp2
        go_roundg (l.length - (kk + 1))
        case measure => omega
        case rel =>
          refine ⟨kk + 1, by omega, by omega, by go_num, ⟨below_then BW.out BW.out.size hb'⟩, ⟨fun j hj hjk => ?_⟩⟩
          by_cases e : j = kk
          · subst e
            rw [B.out]; exact HQ.out
          · exact AL.out j hj (by omega)
    · have hltz : ¬ (kk : Int) < (l.length : Int) := by omega
      go_wp2
      go_ret
      refine ⟨⟨-1, rfl, ?_⟩, BW.out⟩
      rw [decide_eq_false (by omega), eq_comm, List.any_eq_false]
      intro x hx
      obtain ⟨j, hj, rfl⟩ := List.getElem_of_mem hx
      rw [AL.out j hj (by omega)]
      decide
set_option maxHeartbeats 4000000 in
theorem conf_by (p : S44 → Bool) (g : Nat) (lb : Array Value) (eg : ∀ args w, (callFunc g args).run Tryz.prog w = .ok (.enter g args) w) (A : Option Addr) (c : Nat) (l : List S44) (w : World)
    (hr : Kd.C k44 w A l.length l) (hn : l.length ≤ 1000000000)
    (hp : ∀ W, Below w.heap.size w W → ∀ x ∈ l, Calls Tryz.prog g (#[.agg #[.int .i64 x.f0, .int .i64 x.f1]] ++ lb) W fun e w' => e = .returned (.bool (p x)) ∧ Below W.heap.size W w') :
    Calls Tryz.prog 46 #[.slice A l.length c, .func (.func g) #[] lb] w fun e w' => e = .returned (.bool (l.any p)) ∧ Below w.heap.size w w' := by
  go_enter Tryz.func46, Tryz.ntmps46
  go_wp2_with (go_at_call 58; refine (idxf_by p g lb eg A c l _ hr hn hp).mono ?_; rintro e w' ⟨⟨i, rfl, hi⟩, hb'⟩)
  go_ret
  exact ⟨by rw [← hi]; rfl, hb'⟩
/-- A weekday that may be. -/
def okBy (numbered : Bool) (x : S44) : Bool := decide (0 ≤ x.f1) && decide (x.f1 ≤ 6) && decide (-53 ≤ x.f0) && decide (x.f0 ≤ 53) && (decide (x.f0 = 0) || numbered)
set_option maxHeartbeats 4000000 in
theorem days1_calls (numbered : Bool) (x : S44) (g : Nat) (W : World) (hg : W.cell? ⟨g, 0, none⟩ = some (.bool numbered)) (hx : okBy numbered x = true) :
    Calls Tryz.prog 45 #[.agg #[.int .i64 x.f0, .int .i64 x.f1], .pointer (some ⟨g, 0, none⟩)] W fun e w' => e = .returned (.bool false) ∧ Below W.heap.size W w' := by
  obtain ⟨a, b⟩ := x
  simp only [okBy, Bool.and_eq_true, Bool.or_eq_true, decide_eq_true_eq] at hx
  obtain ⟨⟨⟨⟨h1, h2⟩, h3⟩, h4⟩, h5⟩ := hx
  have hgl : g < W.heap.size := World.block_lt_of_cell? W _ hg
  have d1 : ¬ b < 0 := by omega
  have d2 : ¬ (6 : Int) < b := by omega
  have d3 : ¬ a < -53 := by omega
  have d4 : ¬ (53 : Int) < a := by omega
  clear h1 h2 h3 h4
  go_enter Tryz.func45, Tryz.ntmps45
  go_upto_region 1 with (fail)
  refine wp_abs (fun w => w.heap[W.heap.size]? = some (.cells #[.int .i64 a, .int .i64 b] 44 (0, 0)) ∧ Below W.heap.size W w) ⟨?_, ?_⟩ ?_
  · exact heap_alloc_new W _
  · exact (Below.refl _ _).alloc (Nat.le_refl _) _
  rintro w ⟨b1, b3⟩
  have c0 : w.cell? ⟨W.heap.size, 0, none⟩ = some (.int .i64 a) := (blk_cell b1 0).trans rfl
  have c1 : w.cell? ⟨W.heap.size, 1, none⟩ = some (.int .i64 b) := (blk_cell b1 1).trans rfl
  have cg : w.cell? ⟨g, 0, none⟩ = some (.bool numbered) := (b3.cell hgl).trans hg
  clear hg
  by_cases d5 : a = 0
  · go_wp2
    go_ret
    exact ⟨by simp, b3⟩
  · have h6 : numbered = true := by rcases h5 with h | h; exact absurd h d5; exact h
    subst h6
    go_wp2
    go_ret
    exact ⟨by simp, b3⟩
def eq44 (y x : S44) : Bool := decide (y.f0 = x.f0) && decide (y.f1 = x.f1)
/-- The map holds just the weekdays of a list. -/
def Holds47 {H : Type} (D : DataW H) (l : List S44) : Prop := ∀ (x : S44) (kl : Lit), keyOf Tryz.prog 44 (val47 x) = some kl → D.atKey kl (.lit (.bool false)) = .lit (.bool (l.any fun y => eq44 y x))
theorem holds47_nil {H : Type} : Holds47 (H := H) (.map []) [] := fun x kl _ => by
  rw [Go.WideAt.atKey_none _ (by simp)]; simp
theorem holds47_put {H : Type} {D : DataW H} {l : List S44} (h : Holds47 D l) (hm : IsMap D) (y : S44) (ky : Lit) (hy : keyOf Tryz.prog 44 (val47 y) = some ky) : Holds47 (D.put ky (.lit (.bool true))) (l ++ [y]) := by
  intro x kl hx
  by_cases e : kl = ky
  · subst e
    have hv := law47.inj hx hy
    simp only [val47, Value.agg.injEq, Array.mk.injEq, List.cons.injEq, Value.int.injEq, true_and, and_true] at hv
    rw [atKey_put_same hm (law47.key hy)]
    simp [eq44, hv.1, hv.2]
  · rw [atKey_put_other e, h x kl hx]
    have : eq44 y x = false := by
      cases hq : eq44 y x with
      | false => rfl
      | true =>
        simp only [eq44, Bool.and_eq_true, decide_eq_true_eq] at hq
        have : val47 x = val47 y := by unfold val47; rw [hq.1, hq.2]
        rw [this] at hx
        exact absurd (Option.some.inj (hx.symm.trans hy)) e
    simp [this]
set_option maxHeartbeats 4000000 in
theorem twice_by {H : Type} (A : Option Addr) (c : Nat) (l : List S44) (w : World) (hr : Kd.C k44 w A l.length l) (hn : l.length ≤ 1000000000) (hw : ∀ x ∈ l, (Lit.int .i64 x.f0).wf = true ∧ (Lit.int .i64 x.f1).wf = true) (hd : l.Pairwise fun y x => eq44 y x = false) :
    Calls Tryz.prog 47 #[.slice A l.length c] w fun e w' => e = .returned (.bool false) ∧ Below w.heap.size w w' := by
  have HR := Aside0.mk hr
  have HN := Aside0.mk hn
  have HW := Aside0.mk hw
  have HD0 := Aside0.mk hd
  clear hr hn hw hd
  have hmm := @run_makeMap Tryz.prog
  go_enter Tryz.func47, Tryz.ntmps47
  go_wp2
  go_loopw [5, 9] (fun _ s9 wr => ∃ (kk : Nat) (D : DataW H), kk ≤ l.length ∧ s9 = .int .i64 kk ∧ Aside0 (wr.ownsMap Tryz.prog 44 (plainElem Tryz.prog 4) w.heap.size kk D) ∧ Aside0 (Holds47 D (l.take kk)) ∧ Aside0 (Below w.heap.size w wr))
    (fun _ s9 _ => l.length - (intOf s9).toNat)
  case atStart => exact ⟨0, .map [], Nat.zero_le _, rfl, ⟨World.ownsMap_made _ _ _ _⟩, ⟨by simpa using holds47_nil⟩, ⟨(Below.refl _ _).alloc (Nat.le_refl _) _⟩⟩
  case round =>
    obtain ⟨kk, D, hkk, rfl, HO, HD, BW⟩ := hrel
    have hn := HN.out
    by_cases hlt : kk < l.length
    · have hltz : (kk : Int) < (l.length : Int) := by omega
      obtain ⟨ad, e1, hx0, hx1⟩ := at_T44 (Kd.C_below HR.out BW.out) (kk : Int) (by omega) hltz
      cases e1
      have hy : rd_T44 l (kk : Int) = l[kk] := by unfold rd_T44; simp [List.getD, hlt]
      rw [hy, Int.toNat_natCast] at hx0 hx1
      clear hy
      have hwf := HW.out l[kk] (List.getElem_mem hlt)
      have HT := Aside0.mk (List.take_succ_eq_append_getElem hlt)
      obtain ⟨kl, hkey⟩ := key47 l[kk] hwf.1 hwf.2
      have hat := HD.out l[kk] kl hkey
      have hno : (l.take kk).any (fun y => eq44 y l[kk]) = false := by
        rw [List.any_eq_false]
        intro y hy
        have h2 := HD0.out.sublist (List.take_sublist (kk + 1) l)
        rw [HT.out, List.pairwise_append] at h2
        rw [h2.2.2 y hy l[kk] (by simp)]
        decide
      rw [hno] at hat
      clear hno hwf
      generalize l[kk] = y at hx0 hx1 hkey hat HT
      obtain ⟨a, b⟩ := y
      go_upto_region 5 with (fail)
      refine wp_abs (fun W => W.ownsMap Tryz.prog 44 (plainElem Tryz.prog 4) w.heap.size kk D ∧ W.heap[wr.heap.size]? = some (.cells #[.int .i64 a, .int .i64 b] 44 (0, 0)) ∧ Below w.heap.size w W) ⟨HO.out.alloc _, blk_new wr _, below_alloc BW.out _⟩ ?_
      rintro W ⟨b1, b2, b3⟩
      have c0 : W.cell? ⟨wr.heap.size, 0, none⟩ = some (.int .i64 a) := (blk_cell b2 0).trans rfl
      have c1 : W.cell? ⟨wr.heap.size, 1, none⟩ = some (.int .i64 b) := (blk_cell b2 1).trans rfl
      have hlook := lookup_bool b1 law47 Tryz.underlying103 Tryz.underlying4 (zero4 _) hkey hat
      unfold val47 at hlook
      dsimp only at hlook
      have B1 := Aside0.mk b1
      have B3 := Aside0.mk b3
      have HK := Aside0.mk hkey
      clear b1 b2 b3 hkey hat hx0 hx1
      go_wp2_with (first | (at_mapUpdate; refine wpList_mapUpdate_own _ rfl _ _ _ 103 rfl 44 4 law47 Tryz.underlying103 _ w.heap.size kk _ rfl B1.out (by unfold maxLen; omega) _ _ _ rfl rfl HK.out _ [] (plainElem_bool Tryz.underlying4 true) ?_; intro w1 hown1 hgrow1))
      go_roundw
      case rel =>
        refine ⟨kk + 1, D.put kl (.lit (.bool true)), by omega, by go_num, ⟨hown1⟩, ⟨?_⟩, ⟨B3.out.grown hgrow1 B3.out.size (fun j hj => by cases hj; exact Nat.le_refl _)⟩⟩
        rw [HT.out]; exact holds47_put HD.out HO.out.isMap _ _ HK.out
      case measure => simp [intOf]; omega
    · have hltz : ¬ (kk : Int) < (l.length : Int) := by omega
      go_wp2
      go_ret
      exact ⟨rfl, BW.out⟩
theorem load25 {w : World} {g : Nat} {cs : Array Value} (h : w.heap[g]? = some (.cells cs 29 (0, 0))) (hs : cs.size = 16) :
    (Instr.loadAt 29 (.pointer (some ⟨g, 0, none⟩))).run Tryz.prog w = .ok (.agg cs) w := by
  have hl := run_loadVar_row (P := Tryz.prog) w g 29 29 cs (0, 0) _ h Tryz.underlying29 rfl (by rw [hs]; kernel_rfl)
  have ha : (Instr.sureAddr (.pointer (some ⟨g, 0, none⟩))).run Tryz.prog w = Result.ok (⟨g, 0, none⟩ : Addr) w := by simp [Instr.sureAddr, asAddr, go_sem]
  unfold Instr.loadAt
  rw [Sem.run_bind, ha]
  refine Eq.trans ?_ hl
  simp only [Result.andThen]
theorem exec25 {w : World} {g : Nat} {cs : Array Value} {ρ : Operand → Value} {o : Oper} {N : Nat} (h : w.heap[g]? = some (.cells cs 29 (0, 0))) (hs : cs.size = 16) (ho : o.op = .load 29 (.tmp N)) (hρ : ρ (.tmp N) = .pointer (some ⟨g, 0, none⟩)) :
    (execOp ρ o).run Tryz.prog w = .ok (.value (.agg cs)) w := by
  unfold execOp
  rw [ho]
  show ((do pure (Next.value (← Instr.loadAt 29 (ρ (.tmp N)))) : Sem Next)).run Tryz.prog w = _
  rw [hρ, Sem.run_bind, load25 h hs]
  rfl
theorem enters87 : ∀ args w, (callFunc 45 args).run Tryz.prog w = .ok (.enter 45 args) w := enters_of Tryz.func45 (by kernel_rfl) rfl
/-- Weekdays that may be. -/
def okDays (freq weekNo : Int) (l : List S44) : Prop := (∀ x ∈ l, okBy ((decide (freq = 6) || decide (freq = 7)) && decide (weekNo = 0)) x = true) ∧ l.Pairwise fun y x => eq44 y x = false
theorem okBy_wf {b : Bool} {x : S44} (h : okBy b x = true) : (Lit.int .i64 x.f0).wf = true ∧ (Lit.int .i64 x.f1).wf = true := by
  simp only [okBy, Bool.and_eq_true, Bool.or_eq_true, decide_eq_true_eq] at h
  obtain ⟨⟨⟨⟨h1, h2⟩, h3⟩, h4⟩, _⟩ := h
  have m1 : IntKind.i64.min = -9223372036854775808 := rfl
  have m2 : IntKind.i64.max = 9223372036854775807 := rfl
  constructor <;> (simp only [Lit.wf, m1, m2, Bool.and_eq_true, decide_eq_true_eq]; omega)
set_option maxHeartbeats 4000000 in
set_option maxRecDepth 100000 in
theorem days_calls {H : Type} (cs : Array Value) (freq : Int) (A9 A12 : Option Addr) (k9 k12 : Nat) (l9 : List S44) (n12 : Nat) (w : World) (hs : cs.size = 16)
    (h0 : cs[0]? = some (.int .i64 freq)) (h9 : cs[9]? = some (.slice A9 l9.length k9)) (h12 : cs[12]? = some (.slice A12 n12 k12)) (hr : Kd.C k44 w A9 l9.length l9) (hn : l9.length ≤ 1000000000) (hok : okDays freq n12 l9) :
    Calls Tryz.prog 25 #[.agg cs] w fun e w' => e = .returned (.bool true) ∧ Below w.heap.size w w' := by
  have HH := Aside0.mk (And.intro hs (And.intro h0 (And.intro h9 (And.intro h12 (And.intro hr (And.intro hn hok))))))
  clear hs h0 h9 h12 hr hn hok
  have hu25 := Tryz.underlying29
  go_enter Tryz.func25, Tryz.ntmps25
  go_upto_region 1 with (fail)
  refine wp_abs (fun W => W.heap[w.heap.size]? = some (.cells cs 29 (0, 0)) ∧ Below w.heap.size w W ∧ w.heap.size < W.heap.size) ⟨blk_new w _, below_alloc (Below.refl _ _) _, by simp⟩ ?_
  rintro W ⟨b1, b2, b3⟩
  have B1 := Aside0.mk b1
  have B2 := Aside0.mk b2
  have B3 := Aside0.mk b3
  have c0 : W.cell? ⟨w.heap.size, 0, none⟩ = some (.int .i64 freq) := (blk_cell b1 0).trans HH.out.2.1
  have c12 : W.cell? ⟨w.heap.size, 12, none⟩ = some (.slice A12 n12 k12) := (blk_cell b1 12).trans HH.out.2.2.2.1
  clear b1 b2 b3
  generalize hnum : ((decide (freq = 6) || decide (freq = 7)) && decide ((n12 : Int) = 0)) = num
  have HNUM := Aside0.mk hnum
  clear hnum
  by_cases d1 : freq = 6 <;> by_cases d2 : freq = 7 <;> by_cases d3 : (n12 : Int) = 0
  all_goals try (exfalso; omega)
  all_goals
    go_upto_region 2 with (fail)
    refine wp_abs (fun W2 => W2.heap[w.heap.size]? = some (.cells cs 29 (0, 0)) ∧ Below w.heap.size w W2 ∧ W2.cell? ⟨W.heap.size, 0, none⟩ = some (.bool num)) ⟨blk_alloc B1.out _, below_alloc B2.out _, by rw [← HNUM.out]; exact (blk_cell (blk_new W _) 0).trans (by simp [d1, d2, d3] <;> (rw [Bool.eq_iff_iff]; simp))⟩ ?_
    rintro W2 ⟨b1, b2, b3⟩
    obtain ⟨hs, h0, h9, h12, hr, hn, hok⟩ := HH.out
    have c9 : W2.cell? ⟨w.heap.size, 9, none⟩ = some (.slice A9 l9.length k9) := (blk_cell b1 9).trans h9
    have hcon := conf_by (fun _ => false) 45 #[.pointer (some ⟨W.heap.size, 0, none⟩)] enters87 A9 k9 l9 W2 (Kd.C_below hr b2) hn (fun W3 hb3 x hx => days1_calls num x W.heap.size W3 ((hb3.cell (World.block_lt_of_cell? W2 _ b3)).trans b3) (by rw [← HNUM.out]; exact hok.1 x hx))
    rw [show (l9.any fun _ => false) = false by simp] at hcon
    have B4 := Aside0.mk b1
    have B5 := Aside0.mk b2
    clear b1 b2 b3 hs h0 h9 h12 hr hn hok c0 c12 d1 d2 d3
    go_wp2_with (first | (go_at_call 46; refine hcon.mono ?_; rintro e w' ⟨rfl, hb'⟩; clear hcon; have c9' : w'.cell? ⟨w.heap.size, 9, none⟩ = some (.slice A9 l9.length k9) := (hb'.cell (World.block_lt_of_cell? W2 _ c9)).trans c9; clear c9; have HB2 := Aside0.mk (below_then B5.out B5.out.size hb'); clear hb') | (go_at_call 47; refine (twice_by (H := H) A9 k9 l9 _ (Kd.C_below HH.out.2.2.2.2.1 HB2.out) HH.out.2.2.2.2.2.1 (fun x hx => okBy_wf (HH.out.2.2.2.2.2.2.1 x hx)) HH.out.2.2.2.2.2.2.2).mono ?_; rintro e w2 ⟨rfl, hb2⟩))
    go_ret
    exact ⟨rfl, below_then HB2.out HB2.out.size hb2⟩
end Go.Proofs.YtfinhaghgmnegaaGreat.O
