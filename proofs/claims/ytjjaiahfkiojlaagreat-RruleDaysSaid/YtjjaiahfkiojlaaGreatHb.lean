-- What before, behind, IndexFunc and ContainsFunc of a rule's lists, and Check's function value compute, where all is right: a text of this claim's own.
import Derived.Test.YtjjaiahfkiojlaaGreatMHa
import Derived.StillTailTactics
import Derived.Maps.AppendAt
namespace Go.Proofs.YtjjaiahfkiojlaaGreat.O
open Go.RowKit Go.Proofs.YtjjaiahfkiojlaaGreatW.PrintWords Go.Proofs.YtjjaiahfkiojlaaGreatW.PrintLast Go.Proofs.YtjjaiahfkiojlaaGreatW.PrintMore
set_option maxRecDepth 100000
set_option linter.unusedVariables false
set_option linter.unusedSimpArgs false
/-- The five cells of one of a rule's lists. -/
def lcs (s : ByteArray) (p : Addr) (least most : Int) (neg : Bool) : List Value := [.string s, .pointer (some p), .int .i64 least, .int .i64 most, .bool neg]
def sA : ByteArray := ⟨#[66, 89, 77, 79, 78, 84, 72]⟩
def sB : ByteArray := ⟨#[66, 89, 87, 69, 69, 75, 78, 79]⟩
def sC : ByteArray := ⟨#[66, 89, 89, 69, 65, 82, 68, 65, 89]⟩
def sD : ByteArray := ⟨#[66, 89, 77, 79, 78, 84, 72, 68, 65, 89]⟩
def sE : ByteArray := ⟨#[66, 89, 72, 79, 85, 82]⟩
def sF : ByteArray := ⟨#[66, 89, 77, 73, 78, 85, 84, 69]⟩
def sG : ByteArray := ⟨#[66, 89, 83, 69, 67, 79, 78, 68]⟩
def sH : ByteArray := ⟨#[66, 89, 83, 69, 84, 80, 79, 83]⟩
def bef (g : Nat) : List Value := lcs sA ⟨g, 13, none⟩ 1 12 false ++ lcs sB ⟨g, 12, none⟩ 1 53 true ++ lcs sC ⟨g, 11, none⟩ 1 366 true ++ lcs sD ⟨g, 10, none⟩ 1 31 true
def beh (g : Nat) : List Value := lcs sE ⟨g, 8, none⟩ 0 23 false ++ lcs sF ⟨g, 7, none⟩ 0 59 false ++ lcs sG ⟨g, 6, none⟩ 0 59 false ++ lcs sH ⟨g, 14, none⟩ 1 366 true
set_option maxHeartbeats 4000000 in
set_option maxRecDepth 100000 in
theorem before_calls (g : Nat) (w : World) :
    Calls Tryz.prog 69 #[.pointer (some ⟨g, 0, none⟩)] w fun e w' => e = .returned (.slice (some ⟨w.heap.size, 0, none⟩) 4 4) ∧ Below w.heap.size w w' ∧ w'.heap[w.heap.size]? = some (.cells (bef g).toArray 95 (0, 0)) := by
  go_enter Tryz.func69, Tryz.ntmps69
  go_upto_region 1 with (fail)
  go_still_tail 16, (by kernel_rfl)
  go_wp2
  go_ret
  exact ⟨rfl, below_drew (below_alloc (Below.refl _ _) _), blk_new w _⟩
set_option maxHeartbeats 4000000 in
set_option maxRecDepth 100000 in
theorem behind_calls (g : Nat) (w : World) :
    Calls Tryz.prog 70 #[.pointer (some ⟨g, 0, none⟩)] w fun e w' => e = .returned (.slice (some ⟨w.heap.size, 0, none⟩) 4 4) ∧ Below w.heap.size w w' ∧ w'.heap[w.heap.size]? = some (.cells (beh g).toArray 95 (0, 0)) := by
  go_enter Tryz.func70, Tryz.ntmps70
  go_upto_region 1 with (fail)
  go_still_tail 16, (by kernel_rfl)
  go_wp2
  go_ret
  exact ⟨rfl, below_drew (below_alloc (Below.refl _ _) _), blk_new w _⟩
/-- The i-th of lists that lie in a row. -/
structure LAt (w : World) (ad : Addr) (i : Nat) (s : ByteArray) (p : Addr) (least most : Int) (neg : Bool) : Prop where
  c0 : w.cell? (ad.add (i * 5)) = some (.string s)
  c1 : w.cell? ⟨(ad.add (i * 5)).block, (ad.add (i * 5)).off + 1, none⟩ = some (.pointer (some p))
  c2 : w.cell? ⟨(ad.add (i * 5)).block, (ad.add (i * 5)).off + 2, none⟩ = some (.int .i64 least)
  c3 : w.cell? ⟨(ad.add (i * 5)).block, (ad.add (i * 5)).off + 3, none⟩ = some (.int .i64 most)
  c4 : w.cell? ⟨(ad.add (i * 5)).block, (ad.add (i * 5)).off + 4, none⟩ = some (.bool neg)
theorem LAt.below {w W : World} {ad : Addr} {i : Nat} {s : ByteArray} {p : Addr} {least most : Int} {neg : Bool} (h : LAt w ad i s p least most neg) (hb : Below w.heap.size w W) : LAt W ad i s p least most neg := by
  have f : ∀ {q : Addr} {v : Value}, w.cell? q = some v → W.cell? q = some v := fun {q v} hq => (hb.cell (World.block_lt_of_cell? w q hq)).trans hq
  exact ⟨f h.c0, f h.c1, f h.c2, f h.c3, f h.c4⟩
set_option maxHeartbeats 4000000 in
theorem idxf_list (n : Nat) (g : Nat) (eg : ∀ args w, (callFunc g args).run Tryz.prog w = .ok (.enter g args) w) (ad : Addr) (c : Nat) (s : Nat → ByteArray) (p : Nat → Addr) (least most : Nat → Int) (neg : Nat → Bool) (w : World)
    (hr : ∀ i, i < n → LAt w ad i (s i) (p i) (least i) (most i) (neg i)) (hn : n ≤ 1000000000)
    (hp : ∀ W, Below w.heap.size w W → ∀ i, i < n → Calls Tryz.prog g #[.agg #[.string (s i), .pointer (some (p i)), .int .i64 (least i), .int .i64 (most i), .bool (neg i)]] W fun e w' => e = .returned (.bool false) ∧ Below W.heap.size W w') :
    Calls Tryz.prog 103 #[.slice (some ad) n c, .func (.func g) #[] #[]] w fun e w' => e = .returned (.int .i64 (-1)) ∧ Below w.heap.size w w' := by
  have HR := Aside0.mk hr
  have HP := Aside0.mk hp
  have HN := Aside0.mk hn
  clear hr hp hn
  go_enter Tryz.func103, Tryz.ntmps103
  go_wp2
  go_loopg [5, 8] n (fun gg _ s8 wr => ∃ kk : Nat, kk ≤ n ∧ n - kk ≤ gg ∧ s8 = .int .i64 kk ∧ Aside0 (Below w.heap.size w wr))
  case atStart => exact ⟨0, Nat.zero_le _, by omega, rfl, ⟨Below.refl _ w⟩⟩
  case round =>
    obtain ⟨kk, hkk, hg, rfl, BW⟩ := hrel
    have hn := HN.out
    by_cases hlt : kk < n
    · have hltz : (kk : Int) < (n : Int) := by omega
      obtain ⟨h0, h1, h2, h3, h4⟩ := (HR.out kk hlt).below BW.out
      have hcall := HP.out wr BW.out kk hlt
      generalize s kk = s1 at h0 hcall
      generalize p kk = p1 at h1 hcall
      generalize least kk = le1 at h2 hcall
      generalize most kk = mo1 at h3 hcall
      generalize neg kk = ne1 at h4 hcall
      go_wp2_with (fail)
      refine hcall.mono ?_
      rintro e w' ⟨rfl, hb'⟩
      clear hcall eg
      go_wp2
      go_roundg (n - (kk + 1))
      case measure => omega
      case rel => exact ⟨kk + 1, by omega, by omega, by go_num, ⟨below_then BW.out BW.out.size hb'⟩⟩
    · have hltz : ¬ (kk : Int) < (n : Int) := by omega
      go_wp2
      go_ret
      exact ⟨rfl, BW.out⟩
set_option maxHeartbeats 4000000 in
theorem conf_list (n : Nat) (g : Nat) (eg : ∀ args w, (callFunc g args).run Tryz.prog w = .ok (.enter g args) w) (ad : Addr) (c : Nat) (s : Nat → ByteArray) (p : Nat → Addr) (least most : Nat → Int) (neg : Nat → Bool) (w : World)
    (hr : ∀ i, i < n → LAt w ad i (s i) (p i) (least i) (most i) (neg i)) (hn : n ≤ 1000000000)
    (hp : ∀ W, Below w.heap.size w W → ∀ i, i < n → Calls Tryz.prog g #[.agg #[.string (s i), .pointer (some (p i)), .int .i64 (least i), .int .i64 (most i), .bool (neg i)]] W fun e w' => e = .returned (.bool false) ∧ Below W.heap.size W w') :
    Calls Tryz.prog 68 #[.slice (some ad) n c, .func (.func g) #[] #[]] w fun e w' => e = .returned (.bool false) ∧ Below w.heap.size w w' := by
  go_enter Tryz.func68, Tryz.ntmps68
  go_wp2_with (go_at_call 103; refine (idxf_list n g eg ad c s p least most neg _ hr hn hp).mono ?_; rintro e w' ⟨rfl, hb'⟩)
  go_ret
  exact ⟨rfl, hb'⟩
set_option maxHeartbeats 4000000 in
theorem check1_calls {H : Type} (s : ByteArray) (p : Addr) (least most : Int) (neg : Bool) (A : Option Addr) (c : Nat) (l : List Int) (w : World) (hl : 0 ≤ least) (hl' : least ≤ 1000) (hm : 0 ≤ most) (hm' : most ≤ 1000)
    (hp : w.cell? p = some (.slice A l.length c)) (hr : Kd.C (Kd.int .i64) w A l.length l) (hn : l.length ≤ 1000000000) (hw : ∀ x ∈ l, (Lit.int .i64 x).wf = true) (hright : rightB l least most neg = true) :
    Calls Tryz.prog 65 #[.agg #[.string s, .pointer (some p), .int .i64 least, .int .i64 most, .bool neg]] w fun e w' => e = .returned (.bool false) ∧ Below w.heap.size w w' := by
  have hpb : p.block < w.heap.size := World.block_lt_of_cell? w p hp
  have HH := Aside0.mk (And.intro hl (And.intro hl' (And.intro hm (And.intro hm' (And.intro hp (And.intro hr (And.intro hn (And.intro hw (And.intro hright hpb)))))))))
  clear hl hl' hm hm' hp hr hn hw hright hpb
  go_enter Tryz.func65, Tryz.ntmps65
  go_upto_region 1 with (fail)
  refine wp_abs (fun W => W.heap[w.heap.size]? = some (.cells #[.string s, .pointer (some p), .int .i64 least, .int .i64 most, .bool neg] 95 (0, 0)) ∧ Below w.heap.size w W) ⟨?_, ?_⟩ ?_
  · exact heap_alloc_new w _
  · exact (Below.refl _ _).alloc (Nat.le_refl _) _
  rintro W ⟨b1, b3⟩
  obtain ⟨hl, hl', hm, hm', hp, hr, hn, hw, hright, hpb⟩ := HH.out
  have c0 : W.cell? ⟨w.heap.size, 0, none⟩ = some (.string s) := (blk_cell b1 0).trans rfl
  have c1 : W.cell? ⟨w.heap.size, 1, none⟩ = some (.pointer (some p)) := (blk_cell b1 1).trans rfl
  have c2 : W.cell? ⟨w.heap.size, 2, none⟩ = some (.int .i64 least) := (blk_cell b1 2).trans rfl
  have c3 : W.cell? ⟨w.heap.size, 3, none⟩ = some (.int .i64 most) := (blk_cell b1 3).trans rfl
  have c4 : W.cell? ⟨w.heap.size, 4, none⟩ = some (.bool neg) := (blk_cell b1 4).trans rfl
  have hcon := right_calls (H := H) s p least most neg A c l W hl hl' hm hm' ((b3.cell hpb).trans hp) (Kd.C_below hr b3) hn hw
  rw [hright] at hcon
  have B3 := Aside0.mk b3
  clear hl hl' hm hm' hp hr hn hw hright hpb b1 b3
  go_wp2_with (go_at_call 66; refine hcon.mono ?_; rintro e w' ⟨rfl, hb'⟩; clear hcon)
  go_ret
  exact ⟨rfl, below_then B3.out B3.out.size hb'⟩
end Go.Proofs.YtjjaiahfkiojlaaGreat.O
