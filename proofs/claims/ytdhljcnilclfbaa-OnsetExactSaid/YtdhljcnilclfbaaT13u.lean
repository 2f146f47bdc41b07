/- OnsetExact: what the law computes is true at all arguments. No condition. -/
import Derived.Test.YtdhljcnilclfbaaT13t
import Derived.Test.YtdhljcnilclfbaaOx0
import Derived.Test.YtdhljcnilclfbaaOx31
import Derived.Test.YtdhljcnilclfbaaOx50
import Derived.Test.YtdhljcnilclfbaaOx55
import Derived.Test.YtdhljcnilclfbaaOx57
import Derived.Test.YtdhljcnilclfbaaOx59
import Derived.Test.YtdhljcnilclfbaaOx75
namespace Go.Proofs.Ytdhljcnilclfbaa.Pure
open Go.RowKit Go.Proofs.Ytdhljcnilclfbaa.O Go.Proofs.YtdhljcnilclfbaaW.PrintWords Go.Proofs.YtdhljcnilclfbaaW.PrintLast
open Go.Proofs.Ytdhljcnilclfbaa.Civ
set_option linter.unusedVariables false
set_option linter.unusedSimpArgs false
set_option maxHeartbeats 4000000
set_option maxRecDepth 100000
section
variable {ρ : Operand → Value} {o : Oper} {w : World}
theorem run_lens {c : Call} {x : Operand} {s : ByteArray} (ho : o.op = .call c) (hc : c = { callee := .builtin .len, args := #[x], argTypes := #[9] }) (hx : ρ x = .string s) : (execOp ρ o).run Try.prog w = .ok (.value (.int .i64 s.size)) w := by
  have hu9 := Try.underlying9
  subst hc
  unfold execOp; rw [ho]
  simp only [hx, List.map_toArray, List.map_cons, List.map_nil]
  go_simp
theorem run_ne37 {x y : Operand} {r : S37} (ho : o.op = .binOp .neq 37 x y 37) (hx : ρ x = .agg (cel37 r).toArray) (hy : ρ y = .agg (cel37 r).toArray) : (execOp ρ o).run Try.prog w = .ok (.value (.bool false)) w := by
  have hu37 := Try.underlying37
  unfold cel37 at hx hy
  unfold execOp; rw [ho]; go_simp
end
theorem heavy_on (l : List S43) : ∃ b, (∀ (w : World) (A : Option Addr) (c : Nat), Kd.C k43 w A l.length l → l.length ≤ c → Calls Try.prog 7 #[.slice A l.length c] w (Rets w (.bool b))) ∧ (b = false → l.length ≤ 300) := by
  obtain ⟨b, hb, hl⟩ := heavy l
  obtain ⟨k, hk⟩ := hb.rounds
  exact ⟨b, fun w A c h1 h2 => (solsticelaw13_Heavy.calls k A c l b w h1 h2 hk).mono fun _ _ => rets_drawn, hl⟩
theorem right_on (l : List S43) (hl : l.length ≤ 300) : ∃ b, (∀ (w : World) (A : Option Addr) (c : Nat), Kd.C k43 w A l.length l → l.length ≤ c → Calls Try.prog 12 #[.slice A l.length c] w (Rets w (.bool b))) ∧ (b = true ↔ ∀ j (hj : j < l.length), RuleOk l[j]) := by
  obtain ⟨b, hb, h⟩ := right l hl
  obtain ⟨k, hk⟩ := hb.rounds
  exact ⟨b, fun w A c h1 h2 => solsticelaw13_Right.calls k A c l b w h1 h2 hk, h⟩
theorem wakes_on {w : World} : Calls Try.prog 11 #[] w (Rets w (.bool true)) := by
  obtain ⟨k, hk⟩ := wakes13.rounds
  exact solsticelaw13_wakes.calls k true w rfl hk
theorem of_gen {name : ByteArray} {last e : Int} {l : List S43} {k : List S37} (h : Ev (fun q => onset_Of.f q l name last) (k, e)) {w : World} {A : Option Addr} {c : Nat} (hC : Kd.C k43 w A l.length l) (hc : l.length ≤ c) :
    Calls Try.prog 8 #[.slice A l.length c, .string name, .int .i64 last] w fun en w' => ∃ v : Value, en = .returned (.tuple #[v, .int .i64 e]) ∧ Kd.R k37 37 w' w.heap.size (fun _ => True) v k ∧ Below w.heap.size w w' := by
  obtain ⟨q, hq⟩ := h.rounds
  exact onset_Of.calls q A c l name last _ _ w hC hc hq
theorem letter_gen {name s : ByteArray} {e : Int} {l : List S43} (h : Ev (fun q => onset_Letter.f q l name) (s, e)) {w : World} {A : Option Addr} {c : Nat} (hC : Kd.C k43 w A l.length l) (hc : l.length ≤ c) :
    Calls Try.prog 9 #[.slice A l.length c, .string name] w (Rets w (.tuple #[.string s, .int .i64 e])) := by
  obtain ⟨q, hq⟩ := h.rounds
  exact onset_Letter.calls q A c l name _ _ w hC hc hq
theorem konsets_on {w : World} {A B : Option Addr} {c k : Nat} {l : List S37} (hl : l.length ≤ 4611686018427387904) (hC : Kd.C k37 w A l.length l) (hB : Kd.C k37 w B l.length l) : Calls Try.prog 14 #[.slice A l.length c, .slice B l.length k] w (Rets w (.bool true)) := by
  have fl : Try.prog.follows .mixedOrders = true := by kernel_rfl
  have M := On.nil w
  refine en_ Try.func14 rfl rfl rfl fun a K => sr_ (run_ 1 K rfl fun a K => nil_ (wp_seq (sr_ (run_ 5 K rfl fun a K => nil_ (cs_ K rfl (by rw [decide_eq_true rfl]; rfl) (wp_seq (sr_ (run_ 1 K rfl fun a K => nil_ ?_))))))))
  refine wp_block (wp_loop (fun a W => ∃ i : Nat, i ≤ l.length ∧ Kn 26 [(5, .int .i64 (i : Int)), (1, .slice B l.length k), (0, .slice A l.length c)] a ∧ On [] w W) (fun a _ => leftN 5 l.length a) ⟨0, Nat.zero_le _, fg_ K ⟨rfl, rfl, rfl, trivial⟩, M⟩ ?_)
  clear K M
  rintro a W ⟨i, hi, K, M⟩
  refine wp_seq (sr_ (run_ 4 K rfl fun a2 K2 => nil_ ?_))
  by_cases hc1 : i < l.length
  case neg => exact cf_ K2 rfl (kp_ge hc1) (ex_ (thn_ (sr_ (run_ 1 K2 rfl fun a K => nil_ (ret_ rfl K rfl ⟨rfl, M.bl⟩)))))
  clear hi
  have hi := hc1
  have hp1 : 0 < l.length := Nat.lt_of_le_of_lt (Nat.zero_le _) hi
  obtain ⟨g1, b1, eA, hal⟩ := at37 hC hp1
  subst eA
  obtain ⟨g2, b2, eB, hbl⟩ := at37 hB hp1
  subst eB
  have enx := kp_inc hi hl
  have ya : ∀ V, On [] w V → ∀ (j : Nat) (v : Value), (cel37 l[i])[j]? = some v → V.cell? ⟨g1, b1 + i * 3 + j, none⟩ = some v := fun V hV j v h => cell_on hV (hal i hi j v h)
  have yb : ∀ V, On [] w V → ∀ (j : Nat) (v : Value), (cel37 l[i])[j]? = some v → V.cell? ⟨g2, b2 + i * 3 + j, none⟩ = some v := fun V hV j v h => cell_on hV (hbl i hi j v h)
  clear hal hbl
  generalize l[i] = r at ya yb
  refine ck_ K2 rfl (kp_lt hi) (wp_seq (bjn_ (fun a' W' => Kn 26 [(5, .int .i64 (i : Int)), (1, .slice (some ⟨g2, b2, none⟩) l.length k), (0, .slice (some ⟨g1, b1, none⟩) l.length c)] a' ∧ On [] w W') ?_ ?_))
  case refine_2 =>
    rintro a' W' ⟨K', M'⟩
    refine rg_ (run_ 3 K' rfl fun a5 K5 => nl_ ⟨⟨i + 1, hi, fg_ (ks_ (i := 5) K5 rfl (congrArg (Value.int .i64) enx)) ⟨rfl, rfl, rfl, trivial⟩, M'⟩, ?_⟩)
    rw [leftN_ (d := 5) K5 rfl, leftN_ (d := 5) K rfl, enx]
    exact leftN_lt hi
  replace K := fg_ (E' := [(5, .int .i64 (i : Int)), (1, .slice (some ⟨g2, b2, none⟩) l.length k), (0, .slice (some ⟨g1, b1, none⟩) l.length c)]) K2 ⟨rfl, rfl, rfl, trivial⟩
  refine dseq_ fl rfl rfl M.drew ( dp_ 51 5 [0, 1, 4, 5] K rfl rfl (by kernel_rfl) fun a K => dt_ 55 2 K M.drew rfl rfl rfl rfl (by kernel_rfl) (fun W hW => run_ix24 (kk := i) hi hl rfl (K.of (x := .tmp 17) rfl) (K.of (x := .tmp 18) rfl)) fun a K => dt_ 63 3 K M.drew rfl rfl rfl rfl (by kernel_rfl) (fun W hW => run_ldp (cs := cel37 r) Try.underlying37 i37 rfl (K.of (x := .tmp 19) rfl) (fun jj v hv => ya W hW jj v hv)) fun a K => dt_ 127 6 K M.drew rfl rfl rfl rfl (by kernel_rfl) (fun W hW => run_ix24 (kk := i) hi hl rfl (K.of (x := .tmp 21) rfl) (K.of (x := .tmp 22) rfl)) fun a K => dt_ 255 7 K M.drew rfl rfl rfl rfl (by kernel_rfl) (fun W hW => run_ldp (cs := cel37 r) Try.underlying37 i37 rfl (K.of (x := .tmp 23) rfl) (fun jj v hv => yb W hW jj v hv)) fun a K => dt_ 511 8 K M.drew rfl rfl rfl rfl (by kernel_rfl) (fun W hW => run_ne37 rfl (K.of (x := .tmp 20) rfl) (K.of (x := .tmp 24) rfl)) fun a K => dend_ (by kernel_rfl) ?_)
  exact cf_ K rfl rfl (wp_skip (thb_ ⟨fg_ K ⟨rfl, rfl, rfl, trivial⟩, M.drew⟩))
/-- What the two calls tell. -/
theorem told13 {l : List S43} (name : ByteArray) (last : Int) (hl : l.length ≤ 300) {b : Bool} (hb : b = true ↔ ∀ j (hj : j < l.length), RuleOk l[j]) : ∃ (k : List S37) (eo : Int) (s : ByteArray) (el : Int),
    Ev (fun q => onset_Of.f q l name last) (k, eo) ∧ Ev (fun q => onset_Letter.f q l name) (s, el) ∧
    ((200 < l.length ∧ k = [] ∧ eo = 2 ∧ s = ⟨#[]⟩ ∧ el = 2) ∨ (l.length ≤ 200 ∧ b = false ∧ k = [] ∧ eo = 10 ∧ s = ⟨#[]⟩ ∧ el = 10) ∨
      (l.length ≤ 200 ∧ b = true ∧ (last < 1 ∨ 9999 < last) ∧ k = [] ∧ eo = 23 ∧ s = (letV name l (0, ⟨#[]⟩, false)).2.1 ∧ el = 0) ∨
      (l.length ≤ 200 ∧ b = true ∧ 1 ≤ last ∧ last ≤ 9999 ∧ k = srt37 (gen name last l 0) ∧ eo = 0 ∧ s = (letV name l (0, ⟨#[]⟩, false)).2.1 ∧ el = 0)) := by
  by_cases h : 200 < l.length
  · exact ⟨_, _, _, _, of_err name (by decide) (check_long l last h), letter_err name (by decide) (check_long l 9999 h), Or.inl ⟨h, rfl, rfl, rfl, rfl⟩⟩
  have h200 : l.length ≤ 200 := Nat.le_of_not_lt h
  cases b with
  | false =>
    have hw : ∃ (j : Nat) (hj : j < l.length), ¬ RuleOk l[j] := Classical.byContradiction fun q => by
      have := hb.2 (fun j hj => Classical.byContradiction fun q2 => q ⟨j, hj, q2⟩)
      cases this
    exact ⟨_, _, _, _, of_err name (by decide) (check_wrong l last h200 hw), letter_err name (by decide) (check_wrong l 9999 h200 hw), Or.inr (Or.inl ⟨h200, rfl, rfl, rfl, rfl, rfl⟩)⟩
  | true =>
    have hok := hb.1 rfl
    by_cases hy : last < 1 ∨ 9999 < last
    · exact ⟨_, _, _, _, of_err name (by decide) (check_year l h200 hy hok), letter_ev name l h200 hok, Or.inr (Or.inr (Or.inl ⟨h200, rfl, hy, rfl, rfl, rfl, rfl⟩))⟩
    · exact ⟨_, _, _, _, of_ev name l h200 (by omega) (by omega) hok, letter_ev name l h200 hok, Or.inr (Or.inr (Or.inr ⟨h200, rfl, by omega, by omega, rfl, rfl, rfl, rfl⟩))⟩
theorem OnsetExact_on {w : World} {A : Option Addr} {c : Nat} {l : List S43} {name : ByteArray} {last : Int} (hC : Kd.C k43 w A l.length l) (hc : l.length ≤ c) : Calls Try.prog 3 #[.slice A l.length c, .string name, .int .i64 last] w (Rets w (.bool true)) := by
  have fl : Try.prog.follows .mixedOrders = true := by kernel_rfl
  obtain ⟨hv, Hv, hvl⟩ := heavy_on l
  refine en_ Try.func3 rfl rfl rfl fun a K => sr_ (run_ 1 K rfl fun a K => nil_ (wp_seq (sr_ ?_)))
  refine run_ 1 K rfl fun a K => cl_ K Try.func7 (by kernel_rfl) rfl rfl rfl rfl rfl rfl ((Hv _ A c hC hc).mono ?_)
  rintro _ w1 ⟨rfl, b1⟩
  have M := (On.nil w).call b1
  refine ⟨_, rfl, fun a K => ?_⟩
  cases hv with
  | true => exact run_ 5 K rfl fun a K => nil_ (ct_ K rfl rfl (sr_ (run_ 1 K rfl fun a K => nil_ (ret_ rfl K rfl ⟨rfl, M.bl⟩))))
  | false =>
  have h300 := hvl rfl
  refine run_ 2 K rfl fun a K => val_ K rfl rfl rfl (run_lens rfl rfl (K.of (x := .tmp 15) rfl)) fun a K => run_ 2 K rfl fun a K => nil_ ?_
  by_cases hn : (200 : Int) < (name.size : Int)
  case pos => exact ct_ K rfl (decide_eq_true hn) (sr_ (run_ 1 K rfl fun a K => nil_ (ret_ rfl K rfl ⟨rfl, M.bl⟩)))
  obtain ⟨rt, Rt_, hrt⟩ := right_on l h300
  obtain ⟨k, eo, s, el, Eo, El, cs⟩ := told13 name last h300 hrt
  have C1 := Kd.C_below hC M.bl
  refine cs_ K rfl (decide_eq_false hn) (sr_ (run_ 1 K rfl fun a K => nil_ (sr_ (run_ 2 K rfl fun a K => ap_ (k := k43) (t := 22) (e := 43) (xs := []) (ys := l) (A := A) (m := l.length) (c := c) K M rfl rfl rfl rfl Try.underlying22 info43 rfl (by decide) (by decide) rfl rfl (Kd.R_nil _ _ _ _ _) C1 (fun x cs h => by rw [k43_open h]; exact k43_mkM _ _ _ x) (fun p hp => absurd hp List.not_mem_nil) (by simp only [List.length_nil]; omega) fun a v1 w2 g2 R2 M2 F2 K2 => ?_))))
  obtain ⟨A2, c2, ev, h2, C2⟩ := Kd.R_reads R2
  subst ev
  replace C2 : Kd.C k43 w2 A2 l.length l := C2
  replace h2 : l.length ≤ c2 := h2
  replace K2 : Kn 117 ((21, .slice A2 l.length c2) :: _) a := K2
  replace K := fg_ (E' := [(21, .slice A2 l.length c2), (2, .int .i64 last), (1, .string name), (0, .slice A l.length c)]) K2 ⟨rfl, rfl, rfl, rfl, trivial⟩
  clear K2 M R2 F2 g2 C1
  have M := M2
  clear M2
  refine run_ 1 K rfl fun a K => nil_ (sr_ (run_ 3 K rfl fun a K => cl_ K Try.func8 (by kernel_rfl) rfl rfl rfl rfl rfl rfl ((of_gen Eo C2 h2).mono ?_)))
  rintro _ w3 ⟨v3, rfl, R3, b3⟩
  obtain ⟨A3, c3, ev, h3, C3⟩ := Kd.R_reads R3
  subst ev
  replace C2 := Kd.C_below C2 b3
  replace M := M.call b3
  refine ⟨_, rfl, fun a K => run_ 5 K rfl fun a K => nil_ (sr_ (run_ 2 K rfl fun a K => cl_ K Try.func9 (by kernel_rfl) rfl rfl rfl rfl rfl rfl ((letter_gen El C2 h2).mono ?_)))⟩
  rintro _ w4 ⟨rfl, b4⟩
  replace C2 := Kd.C_below C2 b4
  replace C3 := Kd.C_below C3 b4
  replace M := M.call b4
  refine ⟨_, rfl, fun a K => run_ 5 K rfl fun a K => nil_ (wp_seq (sr_ (run_ 2 K rfl fun a K => cl_ K Try.func10 (by kernel_rfl) rfl rfl rfl rfl rfl rfl ((krules_on (by omega) C2 (Kd.C_below hC M.bl)).mono ?_))))⟩
  rintro _ w5 ⟨rfl, b5⟩
  replace C3 := Kd.C_below C3 b5
  replace M := M.call b5
  clear C2 Eo El
  refine ⟨_, rfl, fun a K => run_ 1 K rfl fun a K => nil_ (cs_ K rfl rfl (wp_seq (sr_ (run_ 3 K rfl fun a K => nil_ ?_))))⟩
  replace K := fg_ (E' := [(41, .bool (decide ((200 : Int) < (l.length : Int)))), (11, .int .i64 el), (10, .string s), (9, .int .i64 eo), (8, .slice A3 k.length c3), (2, .int .i64 last), (1, .string name), (0, .slice A l.length c)]) K ⟨rfl, rfl, rfl, rfl, rfl, rfl, rfl, rfl, trivial⟩
  rcases cs with ⟨hl, rfl, rfl, rfl, rfl⟩ | cs
  · refine ct_ K rfl (decide_eq_true (by omega)) (sr_ ?_)
    refine run_ 3 K rfl fun a K => run_ 4 (fx_ K (decide_eq_true rfl)) rfl fun a K => run_ 3 (fx_ K (decide_eq_true rfl)) rfl fun a K => val_ K rfl rfl rfl (run_lens rfl rfl (K.of (x := .tmp 51) rfl)) fun a K => run_ 4 K rfl fun a K => cl_ (fx_ (c := true) K (by decide +kernel)) Try.func11 (by kernel_rfl) rfl rfl rfl rfl rfl rfl (wakes_on.mono ?_)
    rintro _ w9 ⟨rfl, b9⟩
    exact ⟨_, rfl, fun a K => run_ 2 K rfl fun a K => nil_ (ret_ rfl K rfl ⟨rfl, (M.call b9).bl⟩)⟩
  have hl : l.length ≤ 200 := by rcases cs with h | h | h <;> exact h.1
  refine cs_ K rfl (decide_eq_false (by omega)) (wp_seq (sr_ (run_ 1 K rfl fun a K => cl_ K Try.func12 (by kernel_rfl) rfl rfl rfl rfl rfl rfl ((Rt_ _ A c (Kd.C_below hC M.bl) hc).mono ?_))))
  rintro _ w6 ⟨rfl, b6⟩
  replace C3 := Kd.C_below C3 b6
  replace M := M.call b6
  rcases cs with ⟨_, rfl, rfl, rfl, rfl, rfl⟩ | cs
  · refine ⟨_, rfl, fun a K => run_ 1 K rfl fun a K => nil_ (ct_ K rfl rfl (sr_ ?_))⟩
    refine run_ 3 K rfl fun a K => run_ 4 (fx_ K (decide_eq_true rfl)) rfl fun a K => run_ 3 (fx_ K (decide_eq_true rfl)) rfl fun a K => val_ K rfl rfl rfl (run_lens rfl rfl (K.of (x := .tmp 71) rfl)) fun a K => run_ 4 K rfl fun a K => cl_ (fx_ (c := true) K (by decide +kernel)) Try.func11 (by kernel_rfl) rfl rfl rfl rfl rfl rfl (wakes_on.mono ?_)
    rintro _ w9 ⟨rfl, b9⟩
    exact ⟨_, rfl, fun a K => run_ 2 K rfl fun a K => nil_ (ret_ rfl K rfl ⟨rfl, (M.call b9).bl⟩)⟩
  have hb : rt = true := by rcases cs with h | h <;> exact h.2.1
  subst hb
  have hok := hrt.1 rfl
  have es : s = (letV name l (0, ⟨#[]⟩, false)).2.1 ∧ el = 0 := by
    rcases cs with h | h
    · exact ⟨h.2.2.2.2.2.1, h.2.2.2.2.2.2⟩
    · exact ⟨h.2.2.2.2.2.2.1, h.2.2.2.2.2.2.2⟩
  obtain ⟨es, rfl⟩ := es
  subst es
  refine ⟨_, rfl, fun a K => run_ 1 K rfl fun a K => nil_ (cs_ K rfl rfl (wp_seq (sr_ (run_ 3 K rfl fun a K => run_ 3 (fx_ (c := false) K (by decide)) rfl fun a K => cl_ K Try.func13 (by kernel_rfl) rfl rfl rfl rfl rfl rfl ((first_on hl hok (Kd.C_below hC M.bl)).mono ?_)))))⟩
  rintro _ w7 ⟨rfl, b7⟩
  replace C3 := Kd.C_below C3 b7
  replace M := M.call b7
  refine ⟨_, rfl, fun a K => run_ 2 K rfl fun a K => nil_ (cs_ K rfl (bne_self_eq_false _) (wp_seq (sr_ (run_ 3 K rfl fun a K => ?_))))⟩
  rcases cs with ⟨_, _, hy, rfl, rfl, _, _⟩ | ⟨_, _, y1, y2, rfl, rfl, _, _⟩
  · refine Classical.byCases (p := last < 1) (fun h1 => ?_) (fun h1 => ?_)
    · refine run_ 3 (fx_ K (decide_eq_true h1)) rfl fun a K => nil_ (ct_ K rfl rfl (sr_ ?_))
      refine run_ 3 K rfl fun a K => run_ 5 (fx_ (c := true) K (by decide)) rfl fun a K => cl_ (fx_ (c := true) K (by decide)) Try.func11 (by kernel_rfl) rfl rfl rfl rfl rfl rfl (wakes_on.mono ?_)
      rintro _ w9 ⟨rfl, b9⟩
      exact ⟨_, rfl, fun a K => run_ 2 K rfl fun a K => nil_ (ret_ rfl K rfl ⟨rfl, (M.call b9).bl⟩)⟩
    · refine run_ 3 (fx_ K (decide_eq_false h1)) rfl fun a K => nil_ (ct_ K rfl (decide_eq_true (by omega)) (sr_ ?_))
      refine run_ 3 K rfl fun a K => run_ 5 (fx_ (c := true) K (by decide)) rfl fun a K => cl_ (fx_ (c := true) K (by decide)) Try.func11 (by kernel_rfl) rfl rfl rfl rfl rfl rfl (wakes_on.mono ?_)
      rintro _ w9 ⟨rfl, b9⟩
      exact ⟨_, rfl, fun a K => run_ 2 K rfl fun a K => nil_ (ret_ rfl K rfl ⟨rfl, (M.call b9).bl⟩)⟩
  · refine run_ 3 (fx_ K (decide_eq_false (by omega))) rfl fun a K => nil_ (cs_ K rfl (decide_eq_false (by omega)) (sr_ (run_ 3 K rfl fun a K => run_ 4 (fx_ (c := true) K (by decide)) rfl fun a K => cl_ K Try.func15 (by kernel_rfl) rfl rfl rfl rfl rfl rfl ((onsets_on hl hok (Kd.C_below hC M.bl) hc).mono ?_))))
    rintro _ w8 ⟨A8, c8, t, rfl, h8, C8, P8, S8, b8⟩
    replace C3 := Kd.C_below C3 b8
    replace M := M.call b8
    have hk := rise_unique (P8.trans (srt37_perm _).symm) S8 (onsets_rise name last l).1
    subst hk
    have hk : (srt37 (gen name last l 0)).length ≤ 4611686018427387904 := by
      rw [(srt37_perm _).length_eq, gen_cnt]
      have := cntL_le name last l (fun r hr => by obtain ⟨j, hj, rfl⟩ := List.getElem_of_mem hr; exact hok j hj)
      omega
    refine ⟨_, rfl, fun a K => cl_ K Try.func14 (by kernel_rfl) rfl rfl rfl rfl rfl rfl ((konsets_on hk C3 C8).mono ?_)⟩
    rintro _ w9 ⟨rfl, b9⟩
    replace M := M.call b9
    refine ⟨_, rfl, fun a K => run_ 2 K rfl fun a K => cl_ K Try.func11 (by kernel_rfl) rfl rfl rfl rfl rfl rfl (wakes_on.mono ?_)⟩
    rintro _ w10 ⟨rfl, b10⟩
    exact ⟨_, rfl, fun a K => run_ 2 K rfl fun a K => nil_ (ret_ rfl K rfl ⟨rfl, (M.call b10).bl⟩)⟩
end Go.Proofs.Ytdhljcnilclfbaa.Pure
