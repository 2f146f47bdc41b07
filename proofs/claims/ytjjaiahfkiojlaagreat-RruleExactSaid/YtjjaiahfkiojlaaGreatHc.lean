-- What twice, days and the function values over a rule's weekdays compute, where all is right; IndexFunc and ContainsFunc over weekdays: a text of this claim's own.
import Derived.Test.YtjjaiahfkiojlaaGreatMHb
import Derived.Test.YtjjaiahfkiojlaaGreatMOx0
import Derived.DeepKeys4
namespace Go.Proofs.YtjjaiahfkiojlaaGreat.O
open Go.RowKit Go.Proofs.YtjjaiahfkiojlaaGreatW.PrintWords Go.Proofs.YtjjaiahfkiojlaaGreatW.PrintLast Go.Proofs.YtjjaiahfkiojlaaGreatW.PrintMore
open Go.Maps
set_option maxRecDepth 100000
set_option linter.unusedVariables false
set_option linter.unusedSimpArgs false
theorem row47 : 67 < Tryz.prog.types.size := of_decide_eq_true (by kernel_rfl)
theorem law47 : Keyed Tryz.prog 67 := Keyed.of_law (deep_law_laid (by kernel_rfl) (m := 5) (by decide) row47 (by kernel_rfl) (by kernel_rfl))
def val47 (x : S67) : Value := .agg #[.int .i64 x.f0, .int .i64 x.f1]
theorem lits3 (d : Nat) (n : Int) (h : (Lit.int .i64 n).wf = true) : Tryz.prog.keyLits (d + 1) 3 [.int .i64 n] = some [.int .i64 n] := by
  unfold Program.keyLits
  rw [Tryz.underlying3]
  simp only [h, and_self, if_true]
theorem key47 (x : S67) (h0 : (Lit.int .i64 x.f0).wf = true) (h1 : (Lit.int .i64 x.f1).wf = true) : ∃ kl, keyOf Tryz.prog 67 (val47 x) = some kl := by
  have ht : Tryz.prog.keyType 67 = true := by kernel_rfl
  have hc : Tryz.prog.cellsOf 67 = 2 := by kernel_rfl
  have hc3 : Tryz.prog.cellsOf 3 = 1 := by kernel_rfl
  have hsz : Tryz.prog.types.size + 1 = Tryz.prog.types.size - 1 + 1 + 1 := by kernel_rfl
  refine ⟨.string (keyBytes [.int .i64 x.f0, .int .i64 x.f1]), ?_⟩
  unfold keyOf
  rw [Tryz.underlying67]
  dsimp only
  have hf : (val47 x).formed Tryz.prog 67 = true := by
    unfold val47 Value.formed
    rw [Tryz.underlying67]
    simp [hc]
  rw [ht, hf, if_pos (by rfl), hsz]
  have hk : Tryz.prog.keyLits (Tryz.prog.types.size - 1 + 1 + 1) 67 (val47 x).cells.toList = some [.int .i64 x.f0, .int .i64 x.f1] := by
    unfold Program.keyLits
    rw [Tryz.underlying67]
    simp only [val47, Value.cells, hc, hc3]
    have e1 : Tryz.prog.keyLits 171 3 [.int .i64 x.f0] = some [.int .i64 x.f0] := lits3 113 _ h0
    have e2 : Tryz.prog.keyLits 171 3 [.int .i64 x.f1] = some [.int .i64 x.f1] := lits3 113 _ h1
    simp
    rw [hc3]
    simp only [List.take_succ_cons, List.take_zero, e1, e2, Option.bind_some]
    rfl
  rw [hk]
  rfl
set_option maxHeartbeats 4000000 in
theorem idxf_by (p : S67 → Bool) (g : Nat) (lb : Array Value) (eg : ∀ args w, (callFunc g args).run Tryz.prog w = .ok (.enter g args) w) (A : Option Addr) (c : Nat) (l : List S67) (w : World)
    (hr : Kd.C k67 w A l.length l) (hn : l.length ≤ 1000000000)
    (hp : ∀ W, Below w.heap.size w W → ∀ x ∈ l, Calls Tryz.prog g (#[.agg #[.int .i64 x.f0, .int .i64 x.f1]] ++ lb) W fun e w' => e = .returned (.bool (p x)) ∧ Below W.heap.size W w') :
    Calls Tryz.prog 113 #[.slice A l.length c, .func (.func g) #[] lb] w (IdxPost w (l.any p)) := by
  have HR := Aside0.mk hr
  have HP := Aside0.mk hp
  have HN := Aside0.mk hn
  clear hr hp hn
  go_enter Tryz.func113, Tryz.ntmps113
  go_wp2
  go_loopg [5, 8] l.length (fun gg _ s8 wr => ∃ kk : Nat, kk ≤ l.length ∧ l.length - kk ≤ gg ∧ s8 = .int .i64 kk ∧ Aside0 (Below w.heap.size w wr) ∧ Aside0 (∀ j (hj : j < l.length), j < kk → p l[j] = false))
  case atStart => exact ⟨0, Nat.zero_le _, by omega, rfl, ⟨Below.refl _ w⟩, ⟨fun j _ hj => absurd hj (Nat.not_lt_zero _)⟩⟩
  case round =>
    obtain ⟨kk, hkk, hg, rfl, BW, AL⟩ := hrel
    have hn := HN.out
    by_cases hlt : kk < l.length
    · have hltz : (kk : Int) < (l.length : Int) := by omega
      obtain ⟨ad, e1, hx0, hx1⟩ := at_T67 (Kd.C_below HR.out BW.out) (kk : Int) (by omega) hltz
      cases e1
      have hy : rd_T67 l (kk : Int) = l[kk] := by unfold rd_T67; simp [List.getD, hlt]
      rw [hy, Int.toNat_natCast] at hx0 hx1
      have hcall := HP.out wr BW.out l[kk] (List.getElem_mem hlt)
      clear hy
      generalize hy : l[kk] = y at hx0 hx1 hcall
      have B := Aside0.mk hy
      clear hy
      cases hq : p y with
      | true =>
        rw [hq] at hcall
        have HQ := Aside0.mk hq
        clear hq
        go_wp2_with (fail)
        refine hcall.mono ?_
        rintro e w' ⟨rfl, hb'⟩
        clear hcall eg
        go_wp2
        go_ret
        refine ⟨⟨kk, rfl, ?_⟩, below_then BW.out BW.out.size hb'⟩
        rw [decide_eq_true (by omega), eq_comm, List.any_eq_true]
        exact ⟨l[kk], List.getElem_mem hlt, by rw [B.out]; exact HQ.out⟩
      | false =>
        rw [hq] at hcall
        have HQ := Aside0.mk hq
        clear hq
        go_wp2_with (fail)
        refine hcall.mono ?_
        rintro e w' ⟨rfl, hb'⟩
        clear hcall eg
        go_wp2
        go_roundg (l.length - (kk + 1))
        case measure => omega
        case rel =>
          refine ⟨kk + 1, by omega, by omega, by go_num, ⟨below_then BW.out BW.out.size hb'⟩, ⟨fun j hj hjk => ?_⟩⟩
          by_cases e : j = kk
          · subst e
            rw [B.out]; exact HQ.out
          · exact AL.out j hj (by omega)
    · have hltz : ¬ (kk : Int) < (l.length : Int) := by omega
      go_wp2
      go_ret
      refine ⟨⟨-1, rfl, ?_⟩, BW.out⟩
      rw [decide_eq_false (by omega), eq_comm, List.any_eq_false]
      intro x hx
      obtain ⟨j, hj, rfl⟩ := List.getElem_of_mem hx
      rw [AL.out j hj (by omega)]
      decide
set_option maxHeartbeats 4000000 in
theorem conf_by (p : S67 → Bool) (g : Nat) (lb : Array Value) (eg : ∀ args w, (callFunc g args).run Tryz.prog w = .ok (.enter g args) w) (A : Option Addr) (c : Nat) (l : List S67) (w : World)
    (hr : Kd.C k67 w A l.length l) (hn : l.length ≤ 1000000000)
    (hp : ∀ W, Below w.heap.size w W → ∀ x ∈ l, Calls Tryz.prog g (#[.agg #[.int .i64 x.f0, .int .i64 x.f1]] ++ lb) W fun e w' => e = .returned (.bool (p x)) ∧ Below W.heap.size W w') :
    Calls Tryz.prog 88 #[.slice A l.length c, .func (.func g) #[] lb] w fun e w' => e = .returned (.bool (l.any p)) ∧ Below w.heap.size w w' := by
  go_enter Tryz.func88, Tryz.ntmps88
  go_wp2_with (go_at_call 113; refine (idxf_by p g lb eg A c l _ hr hn hp).mono ?_; rintro e w' ⟨⟨i, rfl, hi⟩, hb'⟩)
  go_ret
  exact ⟨by rw [← hi]; rfl, hb'⟩
/-- A weekday that may be. -/
def okBy (numbered : Bool) (x : S67) : Bool := decide (0 ≤ x.f1) && decide (x.f1 ≤ 6) && decide (-53 ≤ x.f0) && decide (x.f0 ≤ 53) && (decide (x.f0 = 0) || numbered)
set_option maxHeartbeats 4000000 in
theorem days1_calls (numbered : Bool) (x : S67) (g : Nat) (W : World) (hg : W.cell? ⟨g, 0, none⟩ = some (.bool numbered)) (hx : okBy numbered x = true) :
    Calls Tryz.prog 104 #[.agg #[.int .i64 x.f0, .int .i64 x.f1], .pointer (some ⟨g, 0, none⟩)] W fun e w' => e = .returned (.bool false) ∧ Below W.heap.size W w' := by
  obtain ⟨a, b⟩ := x
  simp only [okBy, Bool.and_eq_true, Bool.or_eq_true, decide_eq_true_eq] at hx
  obtain ⟨⟨⟨⟨h1, h2⟩, h3⟩, h4⟩, h5⟩ := hx
  have hgl : g < W.heap.size := World.block_lt_of_cell? W _ hg
  have d1 : ¬ b < 0 := by omega
  have d2 : ¬ (6 : Int) < b := by omega
  have d3 : ¬ a < -53 := by omega
  have d4 : ¬ (53 : Int) < a := by omega
  clear h1 h2 h3 h4
  go_enter Tryz.func104, Tryz.ntmps104
  go_upto_region 1 with (fail)
  refine wp_abs (fun w => w.heap[W.heap.size]? = some (.cells #[.int .i64 a, .int .i64 b] 67 (0, 0)) ∧ Below W.heap.size W w) ⟨?_, ?_⟩ ?_
  · exact heap_alloc_new W _
  · exact (Below.refl _ _).alloc (Nat.le_refl _) _
  rintro w ⟨b1, b3⟩
  have c0 : w.cell? ⟨W.heap.size, 0, none⟩ = some (.int .i64 a) := (blk_cell b1 0).trans rfl
  have c1 : w.cell? ⟨W.heap.size, 1, none⟩ = some (.int .i64 b) := (blk_cell b1 1).trans rfl
  have cg : w.cell? ⟨g, 0, none⟩ = some (.bool numbered) := (b3.cell hgl).trans hg
  clear hg
  by_cases d5 : a = 0
  · go_wp2
    go_ret
    exact ⟨by simp, b3⟩
  · have h6 : numbered = true := by rcases h5 with h | h; exact absurd h d5; exact h
    subst h6
    go_wp2
    go_ret
    exact ⟨by simp, b3⟩
def eq67 (y x : S67) : Bool := decide (y.f0 = x.f0) && decide (y.f1 = x.f1)
/-- The map holds just the weekdays of a list. -/
def Holds47 {H : Type} (D : DataW H) (l : List S67) : Prop := ∀ (x : S67) (kl : Lit), keyOf Tryz.prog 67 (val47 x) = some kl → D.atKey kl (.lit (.bool false)) = .lit (.bool (l.any fun y => eq67 y x))
theorem holds47_nil {H : Type} : Holds47 (H := H) (.map []) [] := fun x kl _ => by
  rw [Go.WideAt.atKey_none _ (by simp)]; simp
theorem holds47_put {H : Type} {D : DataW H} {l : List S67} (h : Holds47 D l) (hm : IsMap D) (y : S67) (ky : Lit) (hy : keyOf Tryz.prog 67 (val47 y) = some ky) : Holds47 (D.put ky (.lit (.bool true))) (l ++ [y]) := by
  intro x kl hx
  by_cases e : kl = ky
  · subst e
    have hv := law47.inj hx hy
    simp only [val47, Value.agg.injEq, Array.mk.injEq, List.cons.injEq, Value.int.injEq, true_and, and_true] at hv
    rw [atKey_put_same hm (law47.key hy)]
    simp [eq67, hv.1, hv.2]
  · rw [atKey_put_other e, h x kl hx]
    have : eq67 y x = false := by
      cases hq : eq67 y x with
      | false => rfl
      | true =>
        simp only [eq67, Bool.and_eq_true, decide_eq_true_eq] at hq
        have : val47 x = val47 y := by unfold val47; rw [hq.1, hq.2]
        rw [this] at hx
        exact absurd (Option.some.inj (hx.symm.trans hy)) e
    simp [this]
set_option maxHeartbeats 4000000 in
theorem twice_by {H : Type} (A : Option Addr) (c : Nat) (l : List S67) (w : World) (hr : Kd.C k67 w A l.length l) (hn : l.length ≤ 1000000000) (hw : ∀ x ∈ l, (Lit.int .i64 x.f0).wf = true ∧ (Lit.int .i64 x.f1).wf = true) (hd : l.Pairwise fun y x => eq67 y x = false) :
    Calls Tryz.prog 105 #[.slice A l.length c] w fun e w' => e = .returned (.bool false) ∧ Below w.heap.size w w' := by
  have HR := Aside0.mk hr
  have HN := Aside0.mk hn
  have HW := Aside0.mk hw
  have HD0 := Aside0.mk hd
  clear hr hn hw hd
  have hmm := @run_makeMap Tryz.prog
  go_enter Tryz.func105, Tryz.ntmps105
  go_wp2
  go_loopw [5, 9] (fun _ s9 wr => ∃ (kk : Nat) (D : DataW H), kk ≤ l.length ∧ s9 = .int .i64 kk ∧ Aside0 (wr.ownsMap Tryz.prog 67 (plainElem Tryz.prog 4) w.heap.size kk D) ∧ Aside0 (Holds47 D (l.take kk)) ∧ Aside0 (Below w.heap.size w wr))
    (fun _ s9 _ => l.length - (intOf s9).toNat)
  case atStart => exact ⟨0, .map [], Nat.zero_le _, rfl, ⟨World.ownsMap_made _ _ _ _⟩, ⟨by simpa using holds47_nil⟩, ⟨(Below.refl _ _).alloc (Nat.le_refl _) _⟩⟩
  case round =>
    obtain ⟨kk, D, hkk, rfl, HO, HD, BW⟩ := hrel
    have hn := HN.out
    by_cases hlt : kk < l.length
    · have hltz : (kk : Int) < (l.length : Int) := by omega
      obtain ⟨ad, e1, hx0, hx1⟩ := at_T67 (Kd.C_below HR.out BW.out) (kk : Int) (by omega) hltz
      cases e1
      have hy : rd_T67 l (kk : Int) = l[kk] := by unfold rd_T67; simp [List.getD, hlt]
      rw [hy, Int.toNat_natCast] at hx0 hx1
      clear hy
      have hwf := HW.out l[kk] (List.getElem_mem hlt)
      have HT := Aside0.mk (List.take_succ_eq_append_getElem hlt)
      obtain ⟨kl, hkey⟩ := key47 l[kk] hwf.1 hwf.2
      have hat := HD.out l[kk] kl hkey
      have hno : (l.take kk).any (fun y => eq67 y l[kk]) = false := by
        rw [List.any_eq_false]
        intro y hy
        have h2 := HD0.out.sublist (List.take_sublist (kk + 1) l)
        rw [HT.out, List.pairwise_append] at h2
        rw [h2.2.2 y hy l[kk] (by simp)]
        decide
      rw [hno] at hat
      clear hno hwf
      generalize l[kk] = y at hx0 hx1 hkey hat HT
      obtain ⟨a, b⟩ := y
      go_upto_region 5 with (fail)
      refine wp_abs (fun W => W.ownsMap Tryz.prog 67 (plainElem Tryz.prog 4) w.heap.size kk D ∧ W.heap[wr.heap.size]? = some (.cells #[.int .i64 a, .int .i64 b] 67 (0, 0)) ∧ Below w.heap.size w W) ⟨HO.out.alloc _, blk_new wr _, below_alloc BW.out _⟩ ?_
      rintro W ⟨b1, b2, b3⟩
      have c0 : W.cell? ⟨wr.heap.size, 0, none⟩ = some (.int .i64 a) := (blk_cell b2 0).trans rfl
      have c1 : W.cell? ⟨wr.heap.size, 1, none⟩ = some (.int .i64 b) := (blk_cell b2 1).trans rfl
      have hlook := lookup_bool b1 law47 Tryz.underlying131 Tryz.underlying4 (zero4 _) hkey hat
      unfold val47 at hlook
      dsimp only at hlook
      have B1 := Aside0.mk b1
      have B3 := Aside0.mk b3
      have HK := Aside0.mk hkey
      clear b1 b2 b3 hkey hat hx0 hx1
      go_wp2_with (first | (at_mapUpdate; refine wpList_mapUpdate_own _ rfl _ _ _ 131 rfl 67 4 law47 Tryz.underlying131 _ w.heap.size kk _ rfl B1.out (by unfold maxLen; omega) _ _ _ rfl rfl HK.out _ [] (plainElem_bool Tryz.underlying4 true) ?_; intro w1 hown1 hgrow1))
      go_roundw
      case rel =>
        refine ⟨kk + 1, D.put kl (.lit (.bool true)), by omega, by go_num, ⟨hown1⟩, ⟨?_⟩, ⟨B3.out.grown hgrow1 B3.out.size (fun j hj => by cases hj; exact Nat.le_refl _)⟩⟩
        rw [HT.out]; exact holds47_put HD.out HO.out.isMap _ _ HK.out
      case measure => simp [intOf]; omega
    · have hltz : ¬ (kk : Int) < (l.length : Int) := by omega
      go_wp2
      go_ret
      exact ⟨rfl, BW.out⟩
theorem load25 {w : World} {g : Nat} {cs : Array Value} (h : w.heap[g]? = some (.cells cs 25 (0, 0))) (hs : cs.size = 16) :
    (Instr.loadAt 25 (.pointer (some ⟨g, 0, none⟩))).run Tryz.prog w = .ok (.agg cs) w := by
  have hl := run_loadVar_row (P := Tryz.prog) w g 25 25 cs (0, 0) _ h Tryz.underlying25 rfl (by rw [hs]; kernel_rfl)
  have ha : (Instr.sureAddr (.pointer (some ⟨g, 0, none⟩))).run Tryz.prog w = Result.ok (⟨g, 0, none⟩ : Addr) w := by simp [Instr.sureAddr, asAddr, go_sem]
  unfold Instr.loadAt
  rw [Sem.run_bind, ha]
  refine Eq.trans ?_ hl
  simp only [Result.andThen]
theorem exec25 {w : World} {g : Nat} {cs : Array Value} {ρ : Operand → Value} {o : Oper} {N : Nat} (h : w.heap[g]? = some (.cells cs 25 (0, 0))) (hs : cs.size = 16) (ho : o.op = .load 25 (.tmp N)) (hρ : ρ (.tmp N) = .pointer (some ⟨g, 0, none⟩)) :
    (execOp ρ o).run Tryz.prog w = .ok (.value (.agg cs)) w := by
  unfold execOp
  rw [ho]
  show ((do pure (Next.value (← Instr.loadAt 25 (ρ (.tmp N)))) : Sem Next)).run Tryz.prog w = _
  rw [hρ, Sem.run_bind, load25 h hs]
  rfl
theorem enters87 : ∀ args w, (callFunc 104 args).run Tryz.prog w = .ok (.enter 104 args) w := enters_of Tryz.func104 (by kernel_rfl) rfl
/-- Weekdays that may be. -/
def okDays (freq weekNo : Int) (l : List S67) : Prop := (∀ x ∈ l, okBy ((decide (freq = 6) || decide (freq = 7)) && decide (weekNo = 0)) x = true) ∧ l.Pairwise fun y x => eq67 y x = false
theorem okBy_wf {b : Bool} {x : S67} (h : okBy b x = true) : (Lit.int .i64 x.f0).wf = true ∧ (Lit.int .i64 x.f1).wf = true := by
  simp only [okBy, Bool.and_eq_true, Bool.or_eq_true, decide_eq_true_eq] at h
  obtain ⟨⟨⟨⟨h1, h2⟩, h3⟩, h4⟩, _⟩ := h
  have m1 : IntKind.i64.min = -9223372036854775808 := rfl
  have m2 : IntKind.i64.max = 9223372036854775807 := rfl
  constructor <;> (simp only [Lit.wf, m1, m2, Bool.and_eq_true, decide_eq_true_eq]; omega)
set_option maxHeartbeats 4000000 in
set_option maxRecDepth 100000 in
theorem days_calls {H : Type} (cs : Array Value) (freq : Int) (A9 A12 : Option Addr) (k9 k12 : Nat) (l9 : List S67) (n12 : Nat) (w : World) (hs : cs.size = 16)
    (h0 : cs[0]? = some (.int .i64 freq)) (h9 : cs[9]? = some (.slice A9 l9.length k9)) (h12 : cs[12]? = some (.slice A12 n12 k12)) (hr : Kd.C k67 w A9 l9.length l9) (hn : l9.length ≤ 1000000000) (hok : okDays freq n12 l9) :
    Calls Tryz.prog 71 #[.agg cs] w fun e w' => e = .returned (.bool true) ∧ Below w.heap.size w w' := by
  have HH := Aside0.mk (And.intro hs (And.intro h0 (And.intro h9 (And.intro h12 (And.intro hr (And.intro hn hok))))))
  clear hs h0 h9 h12 hr hn hok
  have hu25 := Tryz.underlying25
  go_enter Tryz.func71, Tryz.ntmps71
  go_upto_region 1 with (fail)
  refine wp_abs (fun W => W.heap[w.heap.size]? = some (.cells cs 25 (0, 0)) ∧ Below w.heap.size w W ∧ w.heap.size < W.heap.size) ⟨blk_new w _, below_alloc (Below.refl _ _) _, by simp⟩ ?_
  rintro W ⟨b1, b2, b3⟩
  have B1 := Aside0.mk b1
  have B2 := Aside0.mk b2
  have B3 := Aside0.mk b3
  have c0 : W.cell? ⟨w.heap.size, 0, none⟩ = some (.int .i64 freq) := (blk_cell b1 0).trans HH.out.2.1
  have c12 : W.cell? ⟨w.heap.size, 12, none⟩ = some (.slice A12 n12 k12) := (blk_cell b1 12).trans HH.out.2.2.2.1
  clear b1 b2 b3
  generalize hnum : ((decide (freq = 6) || decide (freq = 7)) && decide ((n12 : Int) = 0)) = num
  have HNUM := Aside0.mk hnum
  clear hnum
  by_cases d1 : freq = 6 <;> by_cases d2 : freq = 7 <;> by_cases d3 : (n12 : Int) = 0
  all_goals try (exfalso; omega)
  all_goals
    go_upto_region 2 with (fail)
    refine wp_abs (fun W2 => W2.heap[w.heap.size]? = some (.cells cs 25 (0, 0)) ∧ Below w.heap.size w W2 ∧ W2.cell? ⟨W.heap.size, 0, none⟩ = some (.bool num)) ⟨blk_alloc B1.out _, below_alloc B2.out _, by rw [← HNUM.out]; exact (blk_cell (blk_new W _) 0).trans (by simp [d1, d2, d3] <;> (rw [Bool.eq_iff_iff]; simp))⟩ ?_
    rintro W2 ⟨b1, b2, b3⟩
    obtain ⟨hs, h0, h9, h12, hr, hn, hok⟩ := HH.out
    have c9 : W2.cell? ⟨w.heap.size, 9, none⟩ = some (.slice A9 l9.length k9) := (blk_cell b1 9).trans h9
    have hcon := conf_by (fun _ => false) 104 #[.pointer (some ⟨W.heap.size, 0, none⟩)] enters87 A9 k9 l9 W2 (Kd.C_below hr b2) hn (fun W3 hb3 x hx => days1_calls num x W.heap.size W3 ((hb3.cell (World.block_lt_of_cell? W2 _ b3)).trans b3) (by rw [← HNUM.out]; exact hok.1 x hx))
    rw [show (l9.any fun _ => false) = false by simp] at hcon
    have B4 := Aside0.mk b1
    have B5 := Aside0.mk b2
    clear b1 b2 b3 hs h0 h9 h12 hr hn hok c0 c12 d1 d2 d3
    go_wp2_with (first | (go_at_call 88; refine hcon.mono ?_; rintro e w' ⟨rfl, hb'⟩; clear hcon; have c9' : w'.cell? ⟨w.heap.size, 9, none⟩ = some (.slice A9 l9.length k9) := (hb'.cell (World.block_lt_of_cell? W2 _ c9)).trans c9; clear c9; have HB2 := Aside0.mk (below_then B5.out B5.out.size hb'); clear hb') | (go_at_call 105; refine (twice_by (H := H) A9 k9 l9 _ (Kd.C_below HH.out.2.2.2.2.1 HB2.out) HH.out.2.2.2.2.2.1 (fun x hx => okBy_wf (HH.out.2.2.2.2.2.2.1 x hx)) HH.out.2.2.2.2.2.2.2).mono ?_; rintro e w2 ⟨rfl, hb2⟩))
    go_ret
    exact ⟨rfl, below_then HB2.out HB2.out.size hb2⟩
end Go.Proofs.YtjjaiahfkiojlaaGreat.O
