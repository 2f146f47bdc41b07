-- A rule and its cells: a text of this claim's own.
-- What some functions of the program compute: a text of this claim's own (lines first written by the kit's tool, some proved anew).
import Derived.Test.YtfinhaghgmnegaaGreatHm
import Derived.Test.YtfinhaghgmnegaaGreatMOx3
import Derived.Test.YtfinhaghgmnegaaGreatProg
import Derived.Below
import Derived.Deep.Draws
import Derived.OwnWalk
import Derived.Laws.OwnMore
import Derived.Tactics
import Derived.WalkKit
import Derived.KernelRfl
import Derived.RowKit3
import Derived.Deep.LoopGhost
import Derived.Deep.QuietTactic
import Derived.BigQuiet
import Derived.Deep.DeepCutAuto
import Derived.Maps.OwnOps
import Derived.Test.YtfinhaghgmnegaaGreatVWords
import Derived.Test.YtfinhaghgmnegaaGreatVLast
import Derived.Maps.Views
import Derived.Maps.OwnSet
import Derived.Carry
import Derived.Shelf.Abstract
namespace Go.Proofs.YtfinhaghgmnegaaGreat.O
open Go.RowKit Go.Deep Go.Proofs.YtfinhaghgmnegaaGreatW.PrintWords Go.Proofs.YtfinhaghgmnegaaGreatW.PrintLast Go.Proofs.YtfinhaghgmnegaaGreatW.PrintMore
set_option linter.unusedVariables false
set_option linter.unusedSimpArgs false
/-- A rule. -/
structure RR where
  fr : Int
  iv : Int
  ct : Int
  un : Bool
  ua : Int
  utc : Bool
  sec : List Int
  mi : List Int
  ho : List Int
  dy : List S44
  md : List Int
  yd : List Int
  wn : List Int
  mo : List Int
  sp : List Int
  wk : Int
/-- The cells of a rule with these lists. -/
def c16 (r : RR) (s6 s7 s8 s9 s10 s11 s12 s13 s14 : Value) : Array Value := #[.int .i64 r.fr, .int .i64 r.iv, .int .i64 r.ct, .bool r.un, .int .i64 r.ua, .bool r.utc, s6, s7, s8, s9, s10, s11, s12, s13, s14, .int .i64 r.wk]
/-- A list in a cell. -/
def InL (w : World) (v : Option Value) (l : List Int) : Prop := ∃ A c, v = some (.slice A l.length c) ∧ l.length ≤ c ∧ Kd.C (Kd.int .i64) w A l.length l
def InD (w : World) (v : Option Value) (l : List S44) : Prop := ∃ A c, v = some (.slice A l.length c) ∧ l.length ≤ c ∧ Kd.C k44 w A l.length l
/-- The cells of a rule. -/
structure Rul (w : World) (cs : Array Value) (r : RR) : Prop where
  sz : cs.size = 16
  c0 : cs[0]? = some (.int .i64 r.fr)
  c1 : cs[1]? = some (.int .i64 r.iv)
  c2 : cs[2]? = some (.int .i64 r.ct)
  c3 : cs[3]? = some (.bool r.un)
  c4 : cs[4]? = some (.int .i64 r.ua)
  c5 : cs[5]? = some (.bool r.utc)
  c6 : InL w cs[6]? r.sec
  c7 : InL w cs[7]? r.mi
  c8 : InL w cs[8]? r.ho
  c9 : InD w cs[9]? r.dy
  c10 : InL w cs[10]? r.md
  c11 : InL w cs[11]? r.yd
  c12 : InL w cs[12]? r.wn
  c13 : InL w cs[13]? r.mo
  c14 : InL w cs[14]? r.sp
  c15 : cs[15]? = some (.int .i64 r.wk)
theorem InL.below {w W : World} {v : Option Value} {l : List Int} (h : InL w v l) (hb : Below w.heap.size w W) : InL W v l := by
  obtain ⟨A, c, e, hc, hk⟩ := h
  exact ⟨A, c, e, hc, Kd.C_below hk hb⟩
theorem InD.below {w W : World} {v : Option Value} {l : List S44} (h : InD w v l) (hb : Below w.heap.size w W) : InD W v l := by
  obtain ⟨A, c, e, hc, hk⟩ := h
  exact ⟨A, c, e, hc, Kd.C_below hk hb⟩
theorem Rul.below {w W : World} {cs : Array Value} {r : RR} (h : Rul w cs r) (hb : Below w.heap.size w W) : Rul W cs r :=
  ⟨h.sz, h.c0, h.c1, h.c2, h.c3, h.c4, h.c5, h.c6.below hb, h.c7.below hb, h.c8.below hb, h.c9.below hb, h.c10.below hb, h.c11.below hb, h.c12.below hb, h.c13.below hb, h.c14.below hb, h.c15⟩
end Go.Proofs.YtfinhaghgmnegaaGreat.O

namespace Go.Proofs.YtfinhaghgmnegaaGreat.O
open Go.RowKit Go.Proofs.YtfinhaghgmnegaaGreatW.PrintWords Go.Proofs.YtfinhaghgmnegaaGreatW.PrintLast Go.Proofs.YtfinhaghgmnegaaGreatW.PrintMore
attribute [local go_sem] max2_int min2_int max_two min_two max_three min_three max_four min_four   -- for this text's walks alone
set_option linter.unusedVariables false
set_option linter.unusedSimpArgs false

/-! ### clock_Split: function 36 -/
def clock_Split.f (a0 : Int) : Option (Int × Int) := if (Int.tmod a0 86400) < 0 then (some (wrap64 ((wrap64 (Int.tdiv a0 86400)) - 1), wrap64 ((Int.tmod a0 86400) + 86400))) else (some (wrap64 (Int.tdiv a0 86400), Int.tmod a0 86400))
set_option maxHeartbeats 8000000 in
set_option maxRecDepth 100000 in
theorem clock_Split.calls (a0 : Int) (r1 : Int) (r2 : Int) (w : World) (h : clock_Split.f a0 = some (r1, r2)) :
    Calls Tryz.prog 36 #[.int .i64 a0] w fun e w' => e = .returned (.tuple #[.int .i64 r1, .int .i64 r2]) ∧ Drawn0 w w' := by
  have H : (if (Int.tmod a0 86400) < 0 then (some (wrap64 ((wrap64 (Int.tdiv a0 86400)) - 1), wrap64 ((Int.tmod a0 86400) + 86400))) else (some (wrap64 (Int.tdiv a0 86400), Int.tmod a0 86400))) = some (r1, r2) := h
  clear h
  by_cases c2 : (Int.tmod a0 86400) < 0
  · rw [if_pos c2] at H
    have c2b0 : decide ((Int.tmod a0 86400) < 0) = true := decide_eq_true c2
    clear c2
    simp only [Option.some.injEq, Prod.mk.injEq] at H
    obtain ⟨rfl, rfl⟩ := H
    go_enter Tryz.func36, Tryz.ntmps36
    go_wp2
    go_ret2
    exact ⟨by first | rfl | (simp; done) | (simp [*]; done), by repeat (first | exact Drawn0.refl _ | apply Drawn0.step)⟩
  · rw [if_neg c2] at H
    have c2b0 : decide ((Int.tmod a0 86400) < 0) = false := decide_eq_false c2
    clear c2
    simp only [Option.some.injEq, Prod.mk.injEq] at H
    obtain ⟨rfl, rfl⟩ := H
    go_enter Tryz.func36, Tryz.ntmps36
    go_wp2
    go_ret2
    exact ⟨by first | rfl | (simp; done) | (simp [*]; done), by repeat (first | exact Drawn0.refl _ | apply Drawn0.step)⟩

end Go.Proofs.YtfinhaghgmnegaaGreat.O

namespace Go.Proofs.YtfinhaghgmnegaaGreat.O
open Go.RowKit Go.Proofs.YtfinhaghgmnegaaGreatW.PrintWords Go.Proofs.YtfinhaghgmnegaaGreatW.PrintLast Go.Proofs.YtfinhaghgmnegaaGreatW.PrintMore
set_option maxRecDepth 100000
set_option linter.unusedVariables false
set_option linter.unusedSimpArgs false
/-- What is asked of a function value that tells of a number. -/
def PredI (g : Nat) (lb : Array Value) (p : Int → Bool) (w : World) : Prop :=
  ∀ (W : World) (x : Int), Below w.heap.size w W → Calls Tryz.prog g (#[.int .i64 x] ++ lb) W fun e w' => e = .returned (.bool (p x)) ∧ Below w.heap.size w w'
def IdxPost (w : World) (b : Bool) (e : Ending) (w' : World) : Prop := (∃ i : Int, e = .returned (.int .i64 i) ∧ decide (0 ≤ i) = b) ∧ Below w.heap.size w w'
theorem rd_at (l : List Int) (k : Nat) (h : k < l.length) : rd l (k : Int) = l[k] := by
  unfold rd
  simp [List.getD, h]
set_option maxHeartbeats 4000000 in
theorem idxf_int (p : Int → Bool) (g : Nat) (lb : Array Value) (eg : ∀ args w, (callFunc g args).run Tryz.prog w = .ok (.enter g args) w) (A : Option Addr) (c : Nat) (l : List Int) (w : World)
    (hr : Kd.C (Kd.int .i64) w A l.length l) (hn : l.length ≤ 1000000000) (hp : PredI g lb p w) :
    Calls Tryz.prog 56 #[.slice A l.length c, .func (.func g) #[] lb] w (IdxPost w (l.any p)) := by
  have HR := Aside0.mk hr
  have HP := Aside0.mk hp
  have HN := Aside0.mk hn
  clear hr hp hn
  go_enter Tryz.func56, Tryz.ntmps56
  go_wp2
  go_loopg [5, 8] l.length (fun gg _ s8 wr => ∃ kk : Nat, kk ≤ l.length ∧ l.length - kk ≤ gg ∧ s8 = .int .i64 kk ∧ Aside0 (Below w.heap.size w wr) ∧ Aside0 (∀ j (hj : j < l.length), j < kk → p l[j] = false))
  case atStart => exact ⟨0, Nat.zero_le _, by omega, rfl, ⟨Below.refl _ w⟩, ⟨fun j _ hj => absurd hj (Nat.not_lt_zero _)⟩⟩
  case round =>
    obtain ⟨kk, hkk, hg, rfl, BW, AL⟩ := hrel
    have hn := HN.out
    by_cases hlt : kk < l.length
    · have hltz : (kk : Int) < (l.length : Int) := by omega
      obtain ⟨ad, e1, hx⟩ := Kd.at_int (Kd.C_below HR.out BW.out) (kk : Int) (by omega) hltz
      cases e1
      rw [rd_at l kk hlt, Int.toNat_natCast] at hx
      have hcall := HP.out wr l[kk] BW.out
      generalize hy : l[kk] = y at hx hcall
      have B := Aside0.mk hy
      clear hy
      cases hq : p y with
      | true =>
        rw [hq] at hcall
        have HQ := Aside0.mk hq
        clear hq
        go_wp2_with (fail)
        refine hcall.mono ?_
        rintro e w' ⟨rfl, hb'⟩
        clear hcall eg
        go_wp2
        go_ret
        refine ⟨⟨kk, rfl, ?_⟩, hb'⟩
        rw [decide_eq_true (by omega), eq_comm, List.any_eq_true]
        exact ⟨l[kk], List.getElem_mem hlt, by rw [B.out]; exact HQ.out⟩
      | false =>
        rw [hq] at hcall
        have HQ := Aside0.mk hq
        clear hq
        go_wp2_with (fail)
        refine hcall.mono ?_
        rintro e w' ⟨rfl, hb'⟩
        clear hcall eg
        go_wp2
        go_roundg (l.length - (kk + 1))
        case measure => omega
        case rel =>
          refine ⟨kk + 1, by omega, by omega, by go_num, ⟨hb'⟩, ⟨fun j hj hjk => ?_⟩⟩
          by_cases e : j = kk
          · subst e
            rw [B.out]; exact HQ.out
          · exact AL.out j hj (by omega)
    · have hltz : ¬ (kk : Int) < (l.length : Int) := by omega
      go_wp2
      go_ret
      refine ⟨⟨-1, rfl, ?_⟩, BW.out⟩
      rw [decide_eq_false (by omega), eq_comm, List.any_eq_false]
      intro x hx
      obtain ⟨j, hj, rfl⟩ := List.getElem_of_mem hx
      rw [AL.out j hj (by omega)]
      decide
set_option maxHeartbeats 4000000 in
theorem conf_int (p : Int → Bool) (g : Nat) (lb : Array Value) (eg : ∀ args w, (callFunc g args).run Tryz.prog w = .ok (.enter g args) w) (A : Option Addr) (c : Nat) (l : List Int) (w : World)
    (hr : Kd.C (Kd.int .i64) w A l.length l) (hn : l.length ≤ 1000000000) (hp : PredI g lb p w) :
    Calls Tryz.prog 41 #[.slice A l.length c, .func (.func g) #[] lb] w fun e w' => e = .returned (.bool (l.any p)) ∧ Below w.heap.size w w' := by
  go_enter Tryz.func41, Tryz.ntmps41
  go_wp2_with (go_at_call 56; refine (idxf_int p g lb eg A c l _ hr hn hp).mono ?_; rintro e w' ⟨⟨i, rfl, hi⟩, hb'⟩)
  go_ret
  exact ⟨by rw [← hi]; rfl, hb'⟩
end Go.Proofs.YtfinhaghgmnegaaGreat.O

namespace Go.Proofs.YtfinhaghgmnegaaGreat.O
open Go.RowKit Go.Proofs.YtfinhaghgmnegaaGreatW.PrintWords Go.Proofs.YtfinhaghgmnegaaGreatW.PrintLast Go.Proofs.YtfinhaghgmnegaaGreatW.PrintMore
set_option maxRecDepth 100000
set_option linter.unusedVariables false
set_option linter.unusedSimpArgs false
def wrongB (x least most : Int) (neg : Bool) : Bool := (decide (x < least) || decide (most < x)) && (!neg || decide (-least < x) || decide (x < -most))
set_option maxHeartbeats 4000000 in
theorem wrong_calls (x least most : Int) (neg : Bool) (g : Nat) (W : World) (hl : 0 ≤ least) (hl' : least ≤ 1000) (hm : 0 ≤ most) (hm' : most ≤ 1000)
    (h2 : W.cell? ⟨g, 2, none⟩ = some (.int .i64 least)) (h3 : W.cell? ⟨g, 3, none⟩ = some (.int .i64 most)) (h4 : W.cell? ⟨g, 4, none⟩ = some (.bool neg)) :
    Calls Tryz.prog 40 #[.int .i64 x, .pointer (some ⟨g, 0, none⟩)] W fun e w' => e = .returned (.bool (wrongB x least most neg)) ∧ W = w' := by
  have n1 : IntKind.i64.wrap (-least) = -least := by rw [i64_w]; unfold wrap64; omega
  have n2 : IntKind.i64.wrap (-most) = -most := by rw [i64_w]; unfold wrap64; omega
  by_cases c1 : x < least <;> by_cases c2 : most < x <;> cases neg <;> by_cases c3 : -least < x <;> by_cases c4 : x < -most
  all_goals first
    | (exfalso; omega)
    | (simp only [wrongB, c1, c2, c3, c4, decide_true, decide_false, Bool.true_or, Bool.false_or, Bool.or_true, Bool.or_false, Bool.true_and, Bool.false_and, Bool.and_true, Bool.and_false, Bool.not_true, Bool.not_false]
       go_enter Tryz.func40, Tryz.ntmps40
       go_wp2
       go_ret
       simp)
end Go.Proofs.YtfinhaghgmnegaaGreat.O

namespace Go.Proofs.YtfinhaghgmnegaaGreat.O
open Go.RowKit Go.Proofs.YtfinhaghgmnegaaGreatW.PrintWords Go.Proofs.YtfinhaghgmnegaaGreatW.PrintLast Go.Proofs.YtfinhaghgmnegaaGreatW.PrintMore
open Go.Maps
set_option maxRecDepth 100000
set_option linter.unusedVariables false
set_option linter.unusedSimpArgs false
theorem plainElem_bool_inv {H : Type} {P : Program} {e : TypeId} (he : P.underlying e = some .bool) {v : Value} {b : Bool} {ps : List MemPlace} (h : plainElem (H := H) P e v = some (.lit (.bool b), ps)) : v = .bool b := by
  unfold plainElem at h
  rw [he] at h
  cases v <;> simp at h
  obtain ⟨rfl, _⟩ := h
  rfl
theorem lookup_bool {H : Type} {P : Program} {k : TypeId} {w : World} {b n : Nat} {D : DataW H} {t e : TypeId} (h : w.ownsMap P k (plainElem P e) b n D) (K : Keyed P k) (ht : P.underlying t = some (.map k e)) (he : P.underlying e = some .bool)
    (hz : (zeroValue e).run P w = .ok (.bool false) w) {key : Value} {kl : Lit} (hkey : keyOf P k key = some kl) {c : Bool} (hat : D.atKey kl (.lit (.bool false)) = .lit (.bool c)) : (Instr.lookup t (.map (some b)) key false).run P w = .ok (.bool c) w := by
  obtain ⟨v, ps, hrun, hv⟩ := h.lookup K ht hz (plainElem_bool he false) hkey
  rw [hat] at hv
  rw [plainElem_bool_inv he hv] at hrun
  exact hrun
/-- The map holds just the numbers of a list. -/
def Holds {H : Type} (D : DataW H) (l : List Int) : Prop := ∀ x : Int, D.atKey (.int .i64 x) (.lit (.bool false)) = .lit (.bool (decide (x ∈ l)))
theorem holds_nil {H : Type} : Holds (H := H) (.map []) [] := fun x => by
  rw [Go.WideAt.atKey_none _ (by simp)]; simp
theorem holds_put {H : Type} {D : DataW H} {l : List Int} (h : Holds D l) (hm : IsMap D) (y : Int) : Holds (D.put (.int .i64 y) (.lit (.bool true))) (l ++ [y]) := by
  intro x
  by_cases e : x = y
  · subst e
    rw [atKey_put_same hm (show Go.WideAt.IsKeyLit (.int .i64 x) from trivial)]; simp
  · rw [atKey_put_other (by intro h; injection h with _ h; exact e h), h x]
    simp [e]
theorem zero4 (w : World) : (zeroValue 4).run Tryz.prog w = .ok (.bool false) w := by kernel_rfl
theorem law3 : Keyed Tryz.prog 3 := int_keyed Tryz.underlying3
def dupI (l : List Int) : Bool := decide (¬ l.Nodup)
set_option maxHeartbeats 4000000 in
theorem twice_int {H : Type} (A : Option Addr) (c : Nat) (l : List Int) (w : World) (hr : Kd.C (Kd.int .i64) w A l.length l) (hn : l.length ≤ 1000000000) (hw : ∀ x ∈ l, (Lit.int .i64 x).wf = true) :
    Calls Tryz.prog 42 #[.slice A l.length c] w fun e w' => e = .returned (.bool (dupI l)) ∧ Below w.heap.size w w' := by
  have HR := Aside0.mk hr
  have HN := Aside0.mk hn
  have HW := Aside0.mk hw
  clear hr hn hw
  have hmm := @run_makeMap Tryz.prog
  go_enter Tryz.func42, Tryz.ntmps42
  go_wp2
  go_loopw [5, 9] (fun _ s9 wr => ∃ (kk : Nat) (D : DataW H), kk ≤ l.length ∧ s9 = .int .i64 kk ∧ Aside0 (wr.ownsMap Tryz.prog 3 (plainElem Tryz.prog 4) w.heap.size kk D) ∧ Aside0 (Holds D (l.take kk)) ∧ Aside0 ((l.take kk).Nodup) ∧ Aside0 (Below w.heap.size w wr))
    (fun _ s9 _ => l.length - (intOf s9).toNat)
  case atStart => exact ⟨0, .map [], Nat.zero_le _, rfl, ⟨World.ownsMap_made _ _ _ _⟩, ⟨by simpa using holds_nil⟩, ⟨by simp⟩, ⟨(Below.refl _ _).alloc (Nat.le_refl _) _⟩⟩
  case round =>
    obtain ⟨kk, D, hkk, rfl, HO, HD, HU, BW⟩ := hrel
    have hn := HN.out
    by_cases hlt : kk < l.length
    · have hltz : (kk : Int) < (l.length : Int) := by omega
      obtain ⟨ad, e1, hx⟩ := Kd.at_int (Kd.C_below HR.out BW.out) (kk : Int) (by omega) hltz
      cases e1
      rw [rd_at l kk hlt, Int.toNat_natCast] at hx
      have hwf := HW.out l[kk] (List.getElem_mem hlt)
      have HT := Aside0.mk (List.take_succ_eq_append_getElem hlt)
      have hat := HD.out l[kk]
      generalize hy : l[kk] = y at hx hwf hat HT
      have B := Aside0.mk hy
      clear hy
      have hkey : keyOf Tryz.prog 3 (.int .i64 y) = some (.int .i64 y) := keyOf_int_mk Tryz.underlying3 hwf
      have hlook := lookup_bool HO.out law3 Tryz.underlying99 Tryz.underlying4 (zero4 _) hkey hat
      cases hq : decide (y ∈ l.take kk) with
      | true =>
        rw [hq] at hlook
        have HQ := Aside0.mk (of_decide_eq_true hq)
        clear hq hat hkey hwf
        go_wp2
        go_ret
        refine ⟨?_, BW.out⟩
        have : dupI l = true := by
          unfold dupI
          rw [decide_eq_true_eq]
          intro hnd
          have h2 := hnd.sublist (List.take_sublist (kk + 1) l)
          rw [HT.out, List.nodup_append] at h2
          exact h2.2.2 y HQ.out y (by simp) rfl
        rw [this]
        rfl
      | false =>
        rw [hq] at hlook
        have HQ := Aside0.mk (of_decide_eq_false hq)
        have HK := Aside0.mk hkey
        clear hq hat hkey hwf
        go_wp2_with (first | (at_mapUpdate; refine wpList_mapUpdate_own _ rfl _ _ _ 99 rfl 3 4 law3 Tryz.underlying99 _ w.heap.size kk _ rfl HO.out (by unfold maxLen; omega) _ _ _ rfl rfl HK.out _ [] (plainElem_bool Tryz.underlying4 true) ?_; intro w1 hown1 hgrow1))
        go_roundw
        case rel =>
          refine ⟨kk + 1, D.put (.int .i64 y) (.lit (.bool true)), by omega, by go_num, ⟨hown1⟩, ⟨?_⟩, ⟨?_⟩, ⟨BW.out.grown hgrow1 BW.out.size (fun j hj => by cases hj; exact Nat.le_refl _)⟩⟩
          · rw [HT.out]; exact holds_put HD.out HO.out.isMap y
          · rw [HT.out, List.nodup_append]
            exact ⟨HU.out, by simp, fun a ha b hb => by simp at hb; subst hb; rintro rfl; exact HQ.out ha⟩
        case measure => simp [intOf]; omega
    · have hltz : ¬ (kk : Int) < (l.length : Int) := by omega
      have HE := Aside0.mk (show kk = l.length by omega)
      go_wp2
      go_ret
      refine ⟨?_, BW.out⟩
      have hu := HU.out
      rw [HE.out, List.take_length] at hu
      have : dupI l = false := by
        unfold dupI
        rw [decide_eq_false_iff_not]
        exact fun h => h hu
      rw [this]
      rfl
end Go.Proofs.YtfinhaghgmnegaaGreat.O

namespace Go.Proofs.YtfinhaghgmnegaaGreat.O
open Go.RowKit Go.Proofs.YtfinhaghgmnegaaGreatW.PrintWords Go.Proofs.YtfinhaghgmnegaaGreatW.PrintLast Go.Proofs.YtfinhaghgmnegaaGreatW.PrintMore
open Go.Maps
set_option maxRecDepth 100000
set_option linter.unusedVariables false
set_option linter.unusedSimpArgs false
theorem wp_abs {P : Program} {c : Code} {Q : Exit → Act → World → Prop} {a : Act} {w : World} (F : World → Prop) (h : F w) (k : ∀ W, F W → Code.wp P c Q a W) : Code.wp P c Q a w := k w h
def rightB (l : List Int) (least most : Int) (neg : Bool) : Bool := !(l.any fun x => wrongB x least most neg) && !dupI l
theorem enters82 : ∀ args w, (callFunc 40 args).run Tryz.prog w = .ok (.enter 40 args) w := enters_of Tryz.func40 (by kernel_rfl) rfl
theorem pred82 (least most : Int) (neg : Bool) (g : Nat) (w : World) (hl : 0 ≤ least) (hl' : least ≤ 1000) (hm : 0 ≤ most) (hm' : most ≤ 1000) (hg : g < w.heap.size)
    (h2 : w.cell? ⟨g, 2, none⟩ = some (.int .i64 least)) (h3 : w.cell? ⟨g, 3, none⟩ = some (.int .i64 most)) (h4 : w.cell? ⟨g, 4, none⟩ = some (.bool neg)) :
    PredI 40 #[.pointer (some ⟨g, 0, none⟩)] (fun x => wrongB x least most neg) w := fun W x hb => by
  refine (wrong_calls x least most neg g W hl hl' hm hm' ((hb.cell (p := ⟨g, 2, none⟩) hg).trans h2) ((hb.cell (p := ⟨g, 3, none⟩) hg).trans h3) ((hb.cell (p := ⟨g, 4, none⟩) hg).trans h4)).mono ?_
  rintro e w' ⟨rfl, rfl⟩
  exact ⟨rfl, hb⟩
set_option maxHeartbeats 4000000 in
theorem right_calls {H : Type} (s : ByteArray) (p : Addr) (least most : Int) (neg : Bool) (A : Option Addr) (c : Nat) (l : List Int) (w : World) (hl : 0 ≤ least) (hl' : least ≤ 1000) (hm : 0 ≤ most) (hm' : most ≤ 1000)
    (hp : w.cell? p = some (.slice A l.length c)) (hr : Kd.C (Kd.int .i64) w A l.length l) (hn : l.length ≤ 1000000000) (hw : ∀ x ∈ l, (Lit.int .i64 x).wf = true) :
    Calls Tryz.prog 20 #[.agg #[.string s, .pointer (some p), .int .i64 least, .int .i64 most, .bool neg]] w fun e w' => e = .returned (.bool (rightB l least most neg)) ∧ Below w.heap.size w w' := by
  have HR := Aside0.mk hr
  have HN := Aside0.mk hn
  have HW := Aside0.mk hw
  have HP := Aside0.mk hp
  have HL := Aside0.mk (And.intro hl (And.intro hl' (And.intro hm hm')))
  have hpb : p.block < w.heap.size := World.block_lt_of_cell? w p hp
  have HPB := Aside0.mk hpb
  clear hr hn hw hl hl' hm hm' hpb
  go_enter Tryz.func20, Tryz.ntmps20
  go_upto_region 2 with (fail)
  refine wp_abs (fun W => W.heap[w.heap.size]? = some (.cells #[.string s, .pointer (some p), .int .i64 least, .int .i64 most, .bool neg] 56 (0, 0)) ∧ w.heap.size < W.heap.size ∧ Below w.heap.size w W) ⟨?_, ?_, ?_⟩ ?_
  · exact heap_alloc_new w _
  · simp
  · exact (Below.refl _ _).alloc (Nat.le_refl _) _
  rintro W ⟨b1, b2, b3⟩
  have hk : W.cell? p = some (.slice A l.length c) := (b3.cell HPB.out).trans HP.out
  have c1 : W.cell? ⟨w.heap.size, 1, none⟩ = some (.pointer (some p)) := (blk_cell b1 1).trans rfl
  have hcon := conf_int (fun x => wrongB x least most neg) 40 #[.pointer (some ⟨w.heap.size, 0, none⟩)] enters82 A c l W (Kd.C_below HR.out b3) HN.out
    (pred82 least most neg w.heap.size W HL.out.1 HL.out.2.1 HL.out.2.2.1 HL.out.2.2.2 b2 ((blk_cell b1 2).trans rfl) ((blk_cell b1 3).trans rfl) ((blk_cell b1 4).trans rfl))
  have B1 := Aside0.mk b1
  have B2 := Aside0.mk b2
  have B3 := Aside0.mk b3
  clear b1 b2 b3 hp
  generalize hq : (l.any fun x => wrongB x least most neg) = q at hcon
  have HQ := Aside0.mk hq
  clear hq
  cases q with
  | true =>
    go_wp2_with (go_at_call 41; refine hcon.mono ?_; rintro e w' ⟨rfl, hb'⟩; clear hcon)
    go_ret
    refine ⟨?_, B3.out.trans (hb'.mono B3.out.size)⟩
    have : rightB l least most neg = false := by unfold rightB; rw [HQ.out]; rfl
    rw [this]
    rfl
  | false =>
    generalize hd : dupI l = d
    have HD := Aside0.mk hd
    clear hd
    cases d with
    | true =>
      go_wp2_with (first | (go_at_call 41; refine hcon.mono ?_; rintro e w' ⟨rfl, hb'⟩; clear hcon; have hk2 : w'.cell? p = some (.slice A l.length c) := (hb'.cell (World.block_lt_of_cell? W p hk)).trans hk; have c2 : w'.cell? ⟨w.heap.size, 1, none⟩ = some (.pointer (some p)) := (hb'.cell (World.block_lt_of_cell? W _ c1)).trans c1; clear hk c1; have HB2 := Aside0.mk hb'; clear hb') | (go_at_call 42; refine (twice_int (H := H) A c l _ (Kd.C_below HR.out (B3.out.trans (HB2.out.mono B3.out.size))) HN.out HW.out).mono ?_; rintro e w2 ⟨rfl, hb2⟩; rw [HD.out]))
      go_ret
      refine ⟨?_, (B3.out.trans (HB2.out.mono B3.out.size)).trans (hb2.mono (Nat.le_trans B3.out.size HB2.out.size))⟩
      have : rightB l least most neg = false := by unfold rightB; rw [HQ.out, HD.out]; rfl
      rw [this]
      rfl
    | false =>
      go_wp2_with (first | (go_at_call 41; refine hcon.mono ?_; rintro e w' ⟨rfl, hb'⟩; clear hcon; have hk2 : w'.cell? p = some (.slice A l.length c) := (hb'.cell (World.block_lt_of_cell? W p hk)).trans hk; have c2 : w'.cell? ⟨w.heap.size, 1, none⟩ = some (.pointer (some p)) := (hb'.cell (World.block_lt_of_cell? W _ c1)).trans c1; clear hk c1; have HB2 := Aside0.mk hb'; clear hb') | (go_at_call 42; refine (twice_int (H := H) A c l _ (Kd.C_below HR.out (B3.out.trans (HB2.out.mono B3.out.size))) HN.out HW.out).mono ?_; rintro e w2 ⟨rfl, hb2⟩; rw [HD.out]))
      go_ret
      refine ⟨?_, (B3.out.trans (HB2.out.mono B3.out.size)).trans (hb2.mono (Nat.le_trans B3.out.size HB2.out.size))⟩
      have : rightB l least most neg = true := by unfold rightB; rw [HQ.out, HD.out]; rfl
      rw [this]
      rfl
end Go.Proofs.YtfinhaghgmnegaaGreat.O
