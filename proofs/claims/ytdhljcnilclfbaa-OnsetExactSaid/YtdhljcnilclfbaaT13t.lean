/- The reference's onsets and first letter, in memory; lists of rules that are one. No condition beyond those each lemma names. -/
import Derived.Test.YtdhljcnilclfbaaT13s
import Derived.Test.YtdhljcnilclfbaaOx0
import Derived.Test.YtdhljcnilclfbaaOx61
import Derived.Test.YtdhljcnilclfbaaOx78
import Derived.Test.YtdhljcnilclfbaaOx87
namespace Go.Proofs.Ytdhljcnilclfbaa.Pure
open Go.RowKit Go.Proofs.Ytdhljcnilclfbaa.O Go.Proofs.YtdhljcnilclfbaaW.PrintWords Go.Proofs.YtdhljcnilclfbaaW.PrintLast
open Go.Proofs.Ytdhljcnilclfbaa.Civ
set_option linter.unusedVariables false
set_option linter.unusedSimpArgs false
set_option maxHeartbeats 4000000
set_option maxRecDepth 100000
theorem wres_on {y m kd wk d x : Int} {w : World} (h : resV y m kd wk d = (x, 0)) : Calls Try.prog 16 #[.int .i64 y, .int .i64 m, .agg #[.int .i64 kd, .int .i64 wk, .int .i64 d]] w (Rets w (.tuple #[.int .i64 x, .int .i64 0])) := by
  have e := wres y m kd wk d
  rw [h] at e
  obtain ⟨k, hk⟩ := e.rounds
  exact week_Resolve.calls k y m kd wk d _ _ w hk
theorem rres_on {y m kd wk d : Int} {w : World} (ho : OnR kd wk d) (h1 : 1 ≤ y) (h2 : y ≤ 9999) : Calls Try.prog 17 #[.int .i64 y, .int .i64 m, .agg #[.int .i64 kd, .int .i64 wk, .int .i64 d]] w (Rets w (.tuple #[.int .i64 (rresV y m kd wk d).1, .bool (rresV y m kd wk d).2])) := by
  obtain ⟨k, hk⟩ := (rres (m := m) ho h1 h2).rounds
  exact solsticeref01_Resolve.calls k y m kd wk d _ _ w hk
theorem on39 (r : S43) : ∀ (j : Nat) (v : Value), ([.int .i64 r.f4.f0, .int .i64 r.f4.f1, .int .i64 r.f4.f2] : List Value)[j]? = some v → (enc43 r).toArray[4 + j]? = some v
  | 0, _, h => h
  | 1, _, h => h
  | 2, _, h => h
  | _ + 3, _, h => by simp at h
theorem on39b (r : S43) : ∀ (j : Nat) (v : Value), ([.int .i64 r.f4.f0, .int .i64 r.f4.f1, .int .i64 r.f4.f2] : List Value)[j]? = some v → (enc43 r)[4 + j]? = some v
  | 0, _, h => h
  | 1, _, h => h
  | 2, _, h => h
  | _ + 3, _, h => by simp at h
theorem on_no {L : List (Nat × Obj)} {w0 W : World} (h : On L w0 W) : On [] w0 W := ⟨h.bl, fun k g o e => by simp at e, List.nodup_nil⟩
theorem thb_ {id : Nat} {R' : Act → World → Prop} {Q : Exit → Act → World → Prop} {a : Act} {w : World} (h : R' a w) : Exit.inBlock id (Exit.then R' Q) .normal a w := h
instance (Q Q2 : Exit → Act → World → Prop) [h : ExTo Q 2 Q2] : ExTo (Exit.inBlock 3 Q) 2 Q2 := ⟨fun a w k => by unfold Exit.inBlock; simpa using h.go a w k⟩
section
variable {ρ : Operand → Value} {o : Oper} {w : World}
theorem b37_run (a b c : Int) (w : World) : (Instr.build 37 #[(0, .int .i64 a), (1, .int .i64 b), (2, .int .i64 c)]).run Try.prog w = .ok (.agg #[.int .i64 a, .int .i64 b, .int .i64 c]) w := by kernel_rfl
theorem run_b37 {x0 x1 x2 : Operand} {a b c : Int} (ho : o.op = .build 37 #[(0, x0), (1, x1), (2, x2)]) (h0 : ρ x0 = .int .i64 a) (h1 : ρ x1 = .int .i64 b) (h2 : ρ x2 = .int .i64 c) : (execOp ρ o).run Try.prog w = .ok (.value (.agg #[.int .i64 a, .int .i64 b, .int .i64 c])) w := by
  unfold execOp; rw [ho]
  simp only [h0, h1, h2, List.map_toArray, List.map_cons, List.map_nil]
  rw [Sem.run_bind, b37_run]
  rfl
theorem run_ne43 {x y : Operand} {r : S43} (ho : o.op = .binOp .neq 43 x y 43) (hx : ρ x = .agg (enc43 r).toArray) (hy : ρ y = .agg (enc43 r).toArray) : (execOp ρ o).run Try.prog w = .ok (.value (.bool false)) w := by
  have hu43 := Try.underlying43
  have hu39 := Try.underlying39
  have hu41 := Try.underlying41
  unfold enc43 at hx hy
  unfold execOp; rw [ho]; go_simp
end
theorem onsets_on {w : World} {A : Option Addr} {c : Nat} {l : List S43} {name : ByteArray} {last : Int} (hl : l.length ≤ 200) (hok : ∀ j (hj : j < l.length), RuleOk l[j]) (hC : Kd.C k43 w A l.length l) (hc : l.length ≤ c) : Calls Try.prog 15 #[.slice A l.length c, .string name, .int .i64 last] w (SortedAs w (gen name last l 0)) := by
  have fl : Try.prog.follows .mixedOrders = true := by kernel_rfl
  have hl43 : l.length ≤ 4611686018427387904 := by omega
  have hmem : ∀ r ∈ l, RuleOk r := fun r hr => by
    obtain ⟨j, hj, rfl⟩ := List.getElem_of_mem hr
    exact hok j hj
  refine en_ Try.func15 rfl rfl rfl fun a K => sr_ (run_ 1 K rfl fun a K => nil_ (sr_ (run_ 1 K rfl fun a K => nil_ (wp_seq (sr_ (run_ 1 K rfl fun a K => nil_ ?_))))))
  have M := On.nil w
  refine wp_block (wp_loop (fun a W => ∃ (i : Nat) (v : Value), i ≤ l.length ∧ Kn 75 [(8, .int .i64 (i : Int)), (7, v), (2, .int .i64 last), (1, .string name), (0, .slice A l.length c)] a ∧ On [] w W ∧ Kd.R k37 37 W w.heap.size (fun _ => True) v (gen name last (l.take i) 0)) (fun a _ => leftN 8 l.length a) ⟨0, .slice none 0 0, Nat.zero_le _, fg_ K ⟨rfl, rfl, rfl, rfl, rfl, trivial⟩, M, Kd.R_nil _ _ _ _ _⟩ ?_)
  clear K M
  rintro a W ⟨i, v, hi, K, M, R⟩
  refine wp_seq (sr_ (run_ 4 K rfl fun a2 K2 => nil_ ?_))
  by_cases hc1 : i < l.length
  case neg =>
    obtain rfl : i = l.length := Nat.le_antisymm hi (Nat.le_of_not_lt hc1)
    rw [List.take_length] at R
    obtain ⟨A5, c5, ev, h5, C5⟩ := Kd.R_reads R
    subst ev
    have hgl : (gen name last l 0).length ≤ 1000000000 := by
      rw [gen_cnt]
      have := cntL_le name last l hmem
      omega
    have S := sorted_on (gen name last l 0) hgl (gen_spec name last l 0).1 (w := W) C5 h5
    refine cf_ K2 rfl (kp_ge hc1) (ex_ (thn_ (sr_ (run_ 1 K2 rfl fun a K => cl_ K Try.func25 (by kernel_rfl) rfl rfl rfl rfl rfl rfl (S.mono ?_)))))
    rintro _ w9 ⟨A6, c6, s, rfl, h6, C6, P6, R6, b9⟩
    exact ⟨_, rfl, fun a K => run_ 1 K rfl fun a K => nil_ (ret_ rfl K rfl ⟨A6, c6, s, rfl, h6, C6, P6, R6, (M.call b9).bl⟩)⟩
  clear hi
  have hi := hc1
  have hp1 : 0 < l.length := Nat.lt_of_le_of_lt (Nat.zero_le _) hi
  obtain ⟨g1, b1', eA1, hal⟩ := at43 hC hp1
  subst eA1
  have enx := kp_inc hi hl43
  have et := gen_take name last l hi
  have hN : (gen name last (l.take i) 0).length ≤ 2000000 := by
    rw [gen_cnt]
    have h1 := cntL_le name last (l.take i) (fun x hx => hmem x (List.mem_of_mem_take hx))
    rw [List.length_take] at h1
    omega
  have rr := hok i hi
  have yi : ∀ V, On [] w V → ∀ (j : Nat) (v : Value), (enc43 l[i])[j]? = some v → V.cell? ⟨g1, b1' + i * 11 + j, none⟩ = some v := fun V hV j v h => cell_on hV (hal i hi j v h)
  refine ck_ K2 rfl (kp_lt hi) (wp_seq (bjn_ (fun a' W' => ∃ v' : Value, Kn 75 [(8, .int .i64 (i : Int)), (7, v'), (2, .int .i64 last), (1, .string name), (0, .slice (some ⟨g1, b1', none⟩) l.length c)] a' ∧ On [] w W' ∧ Kd.R k37 37 W' w.heap.size (fun _ => True) v' (gen name last (l.take (i + 1)) 0)) (wp_seq (sr_ ?_)) ?_))
  case refine_2 =>
    rintro a' W' ⟨v', K', M', R'⟩
    refine rg_ (run_ 3 K' rfl fun a5 K5 => nl_ ⟨⟨i + 1, v', hi, fg_ (ks_ (i := 8) K5 rfl (congrArg (Value.int .i64) enx)) ⟨rfl, rfl, rfl, rfl, rfl, trivial⟩, M', R'⟩, ?_⟩)
    rw [leftN_ (d := 8) K5 rfl, leftN_ (d := 8) K rfl, enx]
    exact leftN_lt hi
  generalize gen name last (l.take (i + 1)) 0 = G1 at et ⊢
  generalize gen name last (l.take i) 0 = G0 at et hN R
  clear hal hC hok hmem
  generalize l[i] = r at et rr yi
  have yi0 := fun V hV => yi V hV 0 _ rfl
  have yi1 := fun V hV => yi V hV 1 _ rfl
  have yi2 := fun V hV => yi V hV 2 _ rfl
  have yi3 := fun V hV => yi V hV 3 _ rfl
  have yi7 := fun V hV => yi V hV 7 _ rfl
  have yi39 : ∀ V, On [] w V → ∀ (jj : Nat) (v : Value), ([.int .i64 r.f4.f0, .int .i64 r.f4.f1, .int .i64 r.f4.f2] : List Value)[jj]? = some v → V.cell? ⟨g1, b1' + i * 11 + 4 + jj, none⟩ = some v := fun V hV jj v hv => by rw [Nat.add_assoc _ 4 jj]; exact yi V hV (4 + jj) v (on39b r jj v hv)
  clear yi
  have K := K2
  clear K2
  unfold genR at et
  refine run_ 2 K rfl fun a K => val_ K rfl rfl rfl (run_ix22 (kk := i) hi hl43 rfl (K.of (x := .tmp 18) rfl) (K.of (x := .tmp 19) rfl)) fun a K => run_ 1 K rfl fun a K => val_ K rfl rfl rfl (run_ld rfl rfl (K.of (x := .tmp 21) rfl) (yi0 _ M)) fun a K => run_ 2 K rfl fun a K => nil_ ?_
  cases e11 : (r.f0.toList != name.toList) with
  | true =>
    have hm : mR name last r = 0 := if_neg (fun q => by rw [q, bne_self_eq_false] at e11; cases e11)
    rw [hm] at et
    unfold yrs at et
    rw [List.append_nil] at et
    subst et
    exact ct_ K rfl e11 (ex_ (thn_ ⟨v, fg_ K ⟨rfl, rfl, rfl, rfl, rfl, trivial⟩, M, R⟩))
  | false =>
  have en : r.f0.toList = name.toList := bne_eq_false_iff_eq.1 e11
  have hm : mR name last r = (min r.f2 last - r.f1 + 1).toNat := if_pos en
  have fr := rr.fr
  have too := rr.too
  refine cs_ K rfl e11 (sr_ (run_ 2 K rfl fun a K => val_ K rfl rfl rfl (run_ix22 (kk := i) hi hl43 rfl (K.of (x := .tmp 25) rfl) (K.of (x := .tmp 26) rfl)) fun a K => run_ 1 K rfl fun a K => val_ K rfl rfl rfl (run_ld rfl rfl (K.of (x := .tmp 28) rfl) (yi1 _ M)) fun a K => run_ 1 K rfl fun a K => nil_ ?_))
  refine wp_block (wp_loop (fun a W => ∃ (t : Nat) (v : Value), t ≤ mR name last r ∧ Kn 75 [(9, .int .i64 (r.f1 + (t : Int))), (8, .int .i64 (i : Int)), (7, v), (2, .int .i64 last), (1, .string name), (0, .slice (some ⟨g1, b1', none⟩) l.length c)] a ∧ On [] w W ∧ Kd.R k37 37 W w.heap.size (fun _ => True) v (G0 ++ yrs r i t r.f1)) (fun a _ => leftN 9 (min r.f2 last + 1).toNat a) ⟨0, v, Nat.zero_le _, fg_ (ks_ (i := 9) (u := .int .i64 (r.f1 + ((0 : Nat) : Int))) K rfl (congrArg (Value.int .i64) (Int.add_zero _).symm)) ⟨rfl, rfl, rfl, rfl, rfl, rfl, trivial⟩, M, by unfold yrs; rw [List.append_nil]; exact R⟩ ?_)
  clear K M a R
  rintro a W ⟨t, v, ht, K, M, R⟩
  have KL := leftN_ (d := 9) (n := (min r.f2 last + 1).toNat) K rfl
  refine wp_seq (sr_ (run_ 3 K rfl fun a K => val_ K rfl rfl rfl (run_ix22 (kk := i) hi hl43 rfl (K.of (x := .tmp 31) rfl) (K.of (x := .tmp 32) rfl)) fun a K => run_ 1 K rfl fun a K => val_ K rfl rfl rfl (run_ld rfl rfl (K.of (x := .tmp 34) rfl) (yi2 _ M)) fun a K => run_ 1 K rfl fun a K => val_ K rfl rfl rfl (run_min rfl (K.of (x := .tmp 35) rfl) (K.of (x := .tmp 36) rfl)) fun a K => run_ 1 K rfl fun a K => nil_ ?_))
  by_cases ht2 : t < mR name last r
  case neg =>
    obtain rfl : t = mR name last r := Nat.le_antisymm ht (Nat.le_of_not_lt ht2)
    have hle : ¬ (r.f1 + ((mR name last r : Nat) : Int) ≤ min r.f2 last) := by rw [hm]; omega
    exact cf_ K rfl (decide_eq_false hle) (ex_ (thb_ ⟨v, fg_ K ⟨rfl, rfl, rfl, rfl, rfl, trivial⟩, M, by rw [et]; exact R⟩))
  have hle : r.f1 + (t : Int) ≤ min r.f2 last := by omega
  have y1 : 1 ≤ r.f1 + (t : Int) := by omega
  have y2 : r.f1 + (t : Int) ≤ 9999 := by omega
  have ey : wrap64 (r.f1 + (t : Int) + 1) = r.f1 + ((t + 1 : Nat) : Int) := by rw [w64 (by omega) (by omega)]; omega
  have ml : (((min r.f2 last + 1).toNat : Nat) - (r.f1 + ((t + 1 : Nat) : Int))).toNat < (((min r.f2 last + 1).toNat : Nat) - (r.f1 + (t : Int))).toNat := by omega
  have ec := yrs_succ r i t r.f1
  have er := res_iff (m := r.f3) rr.onr y1 y2
  have hlen := yrs_len r i t r.f1
  have ht9 : t ≤ 9999 := by omega
  have RS := fun V => rres_on (w := V) (m := r.f3) rr.onr y1 y2
  have hfit : (G0 ++ yrs r i t r.f1).length ≤ 1000000000000 := by rw [List.length_append]; omega
  refine ck_ K rfl (decide_eq_true hle) (wp_seq (bjn_ (fun a' W' => ∃ v' : Value, Kn 75 [(9, .int .i64 (r.f1 + (t : Int))), (8, .int .i64 (i : Int)), (7, v'), (2, .int .i64 last), (1, .string name), (0, .slice (some ⟨g1, b1', none⟩) l.length c)] a' ∧ On [] w W' ∧ Kd.R k37 37 W' w.heap.size (fun _ => True) v' (G0 ++ yrs r i (t + 1) r.f1)) ?_ ?_))
  case refine_2 =>
    rintro a' W' ⟨v', K', M', R'⟩
    refine rg_ (run_ 3 K' rfl fun a5 K5 => nl_ ⟨⟨t + 1, v', ht2, fg_ (ks_ (i := 9) K5 rfl (congrArg (Value.int .i64) ey)) ⟨rfl, rfl, rfl, rfl, rfl, rfl, trivial⟩, M', R'⟩, ?_⟩)
    rw [leftN_ (d := 9) K5 rfl, KL, ey]
    exact ml
  replace K := fg_ (E' := [(9, .int .i64 (r.f1 + (t : Int))), (8, .int .i64 (i : Int)), (7, v), (2, .int .i64 last), (1, .string name), (0, .slice (some ⟨g1, b1', none⟩) l.length c)]) K ⟨rfl, rfl, rfl, rfl, rfl, rfl, trivial⟩
  clear KL ml et
  refine dseq_ fl rfl rfl M.drew ( dp_ 199 12 [0, 1, 2, 6, 7] K rfl rfl (by kernel_rfl) fun a K => dt_ 207 3 K M.drew rfl rfl rfl rfl (by kernel_rfl) (fun W hW => run_ix22 (kk := i) hi hl43 rfl (K.of (x := .tmp 43) rfl) (K.of (x := .tmp 44) rfl)) fun a K => dp_ 223 10 [4] K rfl rfl (by kernel_rfl) fun a K => dt_ 255 5 K M.drew rfl rfl rfl rfl (by kernel_rfl) (fun W hW => run_ld rfl rfl (K.of (x := .tmp 46) rfl) (yi3 W hW)) fun a K => dt_ 511 8 K M.drew rfl rfl rfl rfl (by kernel_rfl) (fun W hW => run_ix22 (kk := i) hi hl43 rfl (K.of (x := .tmp 48) rfl) (K.of (x := .tmp 49) rfl)) fun a K => dp_ 1023 7 [9] K rfl rfl (by kernel_rfl) fun a K => dt_ 2047 10 K M.drew rfl rfl rfl rfl (by kernel_rfl) (fun W hW => run_ldp (cs := [.int .i64 r.f4.f0, .int .i64 r.f4.f1, .int .i64 r.f4.f2]) Try.underlying39 i39 rfl (K.of (x := .tmp 51) rfl) (fun jj v hv => yi39 W hW jj v hv)) fun a K => dc_ 4095 11 K Try.func17 (by kernel_rfl) rfl rfl rfl rfl rfl rfl rfl (by kernel_rfl) ((RS _).mono ?_))
  rintro _ w11 ⟨rfl, b11⟩
  replace M := M.drew.call b11
  replace R := Kd.R_below (Kd.R_drew R) b11
  refine ⟨_, rfl, M, fun a K => dp_ 131071 0 [12, 13, 15, 14, 16] K rfl rfl (by kernel_rfl) fun a K => dend_ (by kernel_rfl) ?_⟩
  refine wp_seq (sr_ (run_ 2 K rfl fun a K => nil_ ?_))
  cases hb : (rresV (r.f1 + (t : Int)) r.f3 r.f4.f0 r.f4.f1 r.f4.f2).2 with
  | false =>
    rw [if_neg (of_decide_eq_false (er.symm.trans hb)), List.append_nil] at ec
    exact ct_ K rfl (by rw [hb]; rfl) (ex_ (thn_ ⟨v, fg_ K ⟨rfl, rfl, rfl, rfl, rfl, rfl, trivial⟩, M, by rw [ec]; exact R⟩))
  | true =>
  have h0 := of_decide_eq_true (er.symm.trans hb)
  have el : wrap64 (wrap64 ((rresV (r.f1 + (t : Int)) r.f3 r.f4.f0 r.f4.f1 r.f4.f2).1 * 86400) + r.f5.f0) = locV r (r.f1 + (t : Int)) := by rw [res_fst rr.onr y1 y2 h0]; rfl
  rw [if_pos h0] at ec
  refine cs_ K rfl (by rw [hb]; rfl) (rg_ (run_ 7 K rfl fun a K => val_ K rfl rfl rfl (run_ix22 (kk := i) hi hl43 rfl (K.of (x := .tmp 63) rfl) (K.of (x := .tmp 64) rfl)) fun a K => run_ 2 K rfl fun a K => val_ K rfl rfl rfl (run_ld rfl rfl (K.of (x := .tmp 67) rfl) (yi7 _ M)) fun a K => run_ 1 K rfl fun a K => val_ K rfl rfl rfl (run_b37 rfl (K.of (x := .tmp 59) rfl) (K.of (x := .tmp 60) rfl) (K.of (x := .tmp 69) rfl)) fun a K =>  ap37_ K M rfl rfl rfl rfl rfl rfl rfl rfl rfl (fun _ => rfl) R (fun p hp => absurd hp List.not_mem_nil) hfit fun a v1 W1 u R1 M1 F1 K1 => run_ 1 K1 rfl fun a K => nl_ (thb_ ⟨v1, fg_ K ⟨rfl, rfl, rfl, rfl, rfl, rfl, trivial⟩, M1, ?_⟩)))
  rw [el] at R1
  rw [ec, ← List.append_assoc]
  exact R1
theorem krules_on {w : World} {A B : Option Addr} {c k : Nat} {l : List S43} (hl43 : l.length ≤ 4611686018427387904) (hC : Kd.C k43 w A l.length l) (hB : Kd.C k43 w B l.length l) : Calls Try.prog 10 #[.slice A l.length c, .slice B l.length k] w (Rets w (.bool true)) := by
  have fl : Try.prog.follows .mixedOrders = true := by kernel_rfl
  have M := On.nil w
  refine en_ Try.func10 rfl rfl rfl fun a K => sr_ (run_ 1 K rfl fun a K => nil_ (wp_seq (sr_ (run_ 5 K rfl fun a K => nil_ (cs_ K rfl (by rw [decide_eq_true rfl]; rfl) (wp_seq (sr_ (run_ 1 K rfl fun a K => nil_ ?_))))))))
  refine wp_block (wp_loop (fun a W => ∃ i : Nat, i ≤ l.length ∧ Kn 26 [(5, .int .i64 (i : Int)), (1, .slice B l.length k), (0, .slice A l.length c)] a ∧ On [] w W) (fun a _ => leftN 5 l.length a) ⟨0, Nat.zero_le _, fg_ K ⟨rfl, rfl, rfl, trivial⟩, M⟩ ?_)
  clear K M
  rintro a W ⟨i, hi, K, M⟩
  refine wp_seq (sr_ (run_ 4 K rfl fun a2 K2 => nil_ ?_))
  by_cases hc1 : i < l.length
  case neg => exact cf_ K2 rfl (kp_ge hc1) (ex_ (thn_ (sr_ (run_ 1 K2 rfl fun a K => nil_ (ret_ rfl K rfl ⟨rfl, M.bl⟩)))))
  clear hi
  have hi := hc1
  have hp1 : 0 < l.length := Nat.lt_of_le_of_lt (Nat.zero_le _) hi
  obtain ⟨g1, b1, eA, hal⟩ := at43 hC hp1
  subst eA
  obtain ⟨g2, b2, eB, hbl⟩ := at43 hB hp1
  subst eB
  have enx := kp_inc hi hl43
  have ya : ∀ V, On [] w V → ∀ (j : Nat) (v : Value), (enc43 l[i])[j]? = some v → V.cell? ⟨g1, b1 + i * 11 + j, none⟩ = some v := fun V hV j v h => cell_on hV (hal i hi j v h)
  have yb : ∀ V, On [] w V → ∀ (j : Nat) (v : Value), (enc43 l[i])[j]? = some v → V.cell? ⟨g2, b2 + i * 11 + j, none⟩ = some v := fun V hV j v h => cell_on hV (hbl i hi j v h)
  clear hal hbl
  generalize l[i] = r at ya yb
  refine ck_ K2 rfl (kp_lt hi) (wp_seq (bjn_ (fun a' W' => Kn 26 [(5, .int .i64 (i : Int)), (1, .slice (some ⟨g2, b2, none⟩) l.length k), (0, .slice (some ⟨g1, b1, none⟩) l.length c)] a' ∧ On [] w W') ?_ ?_))
  case refine_2 =>
    rintro a' W' ⟨K', M'⟩
    refine rg_ (run_ 3 K' rfl fun a5 K5 => nl_ ⟨⟨i + 1, hi, fg_ (ks_ (i := 5) K5 rfl (congrArg (Value.int .i64) enx)) ⟨rfl, rfl, rfl, trivial⟩, M'⟩, ?_⟩)
    rw [leftN_ (d := 5) K5 rfl, leftN_ (d := 5) K rfl, enx]
    exact leftN_lt hi
  replace K := fg_ (E' := [(5, .int .i64 (i : Int)), (1, .slice (some ⟨g2, b2, none⟩) l.length k), (0, .slice (some ⟨g1, b1, none⟩) l.length c)]) K2 ⟨rfl, rfl, rfl, trivial⟩
  refine dseq_ fl rfl rfl M.drew ( dp_ 51 5 [0, 1, 4, 5] K rfl rfl (by kernel_rfl) fun a K => dt_ 55 2 K M.drew rfl rfl rfl rfl (by kernel_rfl) (fun W hW => run_ix22 (kk := i) hi hl43 rfl (K.of (x := .tmp 17) rfl) (K.of (x := .tmp 18) rfl)) fun a K => dt_ 63 3 K M.drew rfl rfl rfl rfl (by kernel_rfl) (fun W hW => run_ldp (cs := enc43 r) Try.underlying43 i43 rfl (K.of (x := .tmp 19) rfl) (fun jj v hv => ya W hW jj v hv)) fun a K => dt_ 127 6 K M.drew rfl rfl rfl rfl (by kernel_rfl) (fun W hW => run_ix22 (kk := i) hi hl43 rfl (K.of (x := .tmp 21) rfl) (K.of (x := .tmp 22) rfl)) fun a K => dt_ 255 7 K M.drew rfl rfl rfl rfl (by kernel_rfl) (fun W hW => run_ldp (cs := enc43 r) Try.underlying43 i43 rfl (K.of (x := .tmp 23) rfl) (fun jj v hv => yb W hW jj v hv)) fun a K => dt_ 511 8 K M.drew rfl rfl rfl rfl (by kernel_rfl) (fun W hW => run_ne43 rfl (K.of (x := .tmp 20) rfl) (K.of (x := .tmp 24) rfl)) fun a K => dend_ (by kernel_rfl) ?_)
  exact cf_ K rfl rfl (wp_skip (thb_ ⟨fg_ K ⟨rfl, rfl, rfl, trivial⟩, M.drew⟩))
theorem first_on {w : World} {A : Option Addr} {c : Nat} {l : List S43} {name : ByteArray} (hl : l.length ≤ 200) (hok : ∀ j (hj : j < l.length), RuleOk l[j]) (hC : Kd.C k43 w A l.length l) : Calls Try.prog 13 #[.slice A l.length c, .string name] w (Rets w (.string (letV name l (0, ⟨#[]⟩, false)).2.1)) := by
  have fl : Try.prog.follows .mixedOrders = true := by kernel_rfl
  have hl43 : l.length ≤ 4611686018427387904 := by omega
  have M := On.nil w
  refine en_ Try.func13 rfl rfl rfl fun a K => sr_ (run_ 1 K rfl fun a K => nil_ (sr_ (run_ 3 K rfl fun a K => nil_ (wp_seq (sr_ (run_ 1 K rfl fun a K => nil_ ?_))))))
  refine wp_block (wp_loop (fun a W => ∃ (i : Nat) (s : Int × ByteArray × Bool), i ≤ l.length ∧ s = letV name (l.take i) (0, ⟨#[]⟩, false) ∧ Kn 69 [(8, .int .i64 (i : Int)), (7, .bool s.2.2), (6, .string s.2.1), (5, .int .i64 s.1), (1, .string name), (0, .slice A l.length c)] a ∧ On [] w W) (fun a _ => leftN 8 l.length a) ⟨0, (0, ⟨#[]⟩, false), Nat.zero_le _, rfl, fg_ K ⟨rfl, rfl, rfl, rfl, rfl, rfl, trivial⟩, M⟩ ?_)
  clear K M
  rintro a W ⟨i, s, hi, es, K, M⟩
  refine wp_seq (sr_ (run_ 4 K rfl fun a2 K2 => nil_ ?_))
  by_cases hc1 : i < l.length
  case neg =>
    obtain rfl : i = l.length := Nat.le_antisymm hi (Nat.le_of_not_lt hc1)
    rw [List.take_length] at es
    subst es
    exact cf_ K2 rfl (kp_ge hc1) (ex_ (thn_ (sr_ (run_ 2 K2 rfl fun a K => nil_ (ret_ rfl K rfl ⟨rfl, M.bl⟩)))))
  clear hi
  have hi := hc1
  have hp1 : 0 < l.length := Nat.lt_of_le_of_lt (Nat.zero_le _) hi
  obtain ⟨g1, b1', eA1, hal⟩ := at43 hC hp1
  subst eA1
  have enx := kp_inc hi hl43
  have et := letV_take name l (0, ⟨#[]⟩, false) hi
  rw [← es] at et
  have rr := hok i hi
  have h43 := hal i hi
  refine ck_ K2 rfl (kp_lt hi) (wp_seq (bjn_ (fun a' W' => ∃ s', s' = letV name (l.take (i + 1)) (0, ⟨#[]⟩, false) ∧ Kn 69 [(8, .int .i64 (i : Int)), (7, .bool s'.2.2), (6, .string s'.2.1), (5, .int .i64 s'.1), (1, .string name), (0, .slice (some ⟨g1, b1', none⟩) l.length c)] a' ∧ On [] w W') ?_ ?_))
  case refine_2 =>
    rintro a' W' ⟨s', es', K', M'⟩
    refine rg_ (run_ 3 K' rfl fun a5 K5 => nl_ ⟨⟨i + 1, s', hi, es', fg_ (ks_ (i := 8) K5 rfl (congrArg (Value.int .i64) enx)) ⟨rfl, rfl, rfl, rfl, rfl, rfl, trivial⟩, M'⟩, ?_⟩)
    rw [leftN_ (d := 8) K5 rfl, leftN_ (d := 8) K rfl, enx]
    exact leftN_lt hi
  generalize letV name (l.take (i + 1)) (0, ⟨#[]⟩, false) = s1 at et ⊢
  clear hal hC hok es
  generalize l[i] = r at et rr h43
  refine sr_ (run_ 2 K2 rfl fun a K => val_ K rfl rfl rfl (run_ix22 (kk := i) hi hl43 rfl (K.of (x := .tmp 20) rfl) (K.of (x := .tmp 21) rfl)) fun a K => val_ K rfl rfl rfl (run_ldp (cs := enc43 r) Try.underlying43 i43 rfl (K.of (x := .tmp 22) rfl) (fun jj v hv => cell_on M (h43 jj v hv))) fun a K => nw_ K M rfl rfl rfl rfl rfl rfl rfl (fun _ => rfl) rfl rfl rfl fun a g3 W3 M K => nil_ (wp_seq (sr_ ?_)))
  replace K := fg_ (E' := [(9, .pointer (some ⟨g3, 0, none⟩)), (8, .int .i64 (i : Int)), (7, .bool s.2.2), (6, .string s.2.1), (5, .int .i64 s.1), (1, .string name), (0, .slice (some ⟨g1, b1', none⟩) l.length c)]) K ⟨rfl, rfl, rfl, rfl, rfl, rfl, rfl, trivial⟩
  clear K2 h43
  cases e7 : (r.f0.toList != name.toList) with
  | true =>
    have e : s1 = s := et.trans (if_neg (fun q => by rw [q, bne_self_eq_false] at e7; cases e7))
    refine run_ 1 K rfl fun a K => ld_ K M 0 rfl rfl rfl rfl rfl rfl rfl rfl fun a K => run_ 3 K rfl fun a K => run_ 4 (fx_ K e7) rfl fun a K => nil_ ?_
    exact ct_ K rfl rfl (ex_ (thn_ ⟨s, e.symm, fg_ K ⟨rfl, rfl, rfl, rfl, rfl, rfl, trivial⟩, on_no M⟩))
  | false =>
  have en : r.f0.toList = name.toList := bne_eq_false_iff_eq.1 e7
  refine run_ 1 K rfl fun a K => ld_ K M 0 rfl rfl rfl rfl rfl rfl rfl rfl fun a K => run_ 3 K rfl fun a K => run_ 1 (fx_ K e7) rfl fun a K => ld_ K M 0 rfl rfl rfl rfl rfl rfl rfl rfl fun a K => run_ 2 K rfl fun a K => nil_ ?_
  by_cases h6 : r.f6 = 0
  case neg =>
    have e : s1 = s := et.trans (by unfold letS; rw [if_pos en, if_neg h6])
    exact ct_ K rfl (by rw [decide_eq_false h6]; rfl) (ex_ (thn_ ⟨s, e.symm, fg_ K ⟨rfl, rfl, rfl, rfl, rfl, rfl, trivial⟩, on_no M⟩))
  have es : s1 = (match fstY r (r.f2 - r.f1 + 1).toNat r.f1 with
      | none => s
      | some p => if s.2.2 = true then (if p.2 < s.1 then (p.2, r.f7, true) else s) else (p.2, r.f7, true)) := et.trans (by unfold letS; rw [if_pos en, if_pos h6]; cases fstY r (r.f2 - r.f1 + 1).toNat r.f1 <;> rfl)
  have fr := rr.fr
  have too := rr.too
  obtain ⟨m, hm⟩ : ∃ m, m = (r.f2 - r.f1 + 1).toNat := ⟨_, rfl⟩
  rw [← hm] at es
  clear et
  refine cs_ K rfl (by rw [decide_eq_true h6]; rfl) (sr_ (run_ 1 K rfl fun a K => ld_ K M 0 rfl rfl rfl rfl rfl rfl rfl rfl fun a K => run_ 1 K rfl fun a K => nil_ ?_))
  refine wp_block (wp_loop (fun a W => ∃ t : Nat, t ≤ m ∧ fstY r m r.f1 = fstY r (m - t) (r.f1 + (t : Int)) ∧ Kn 69 [(10, .int .i64 (r.f1 + (t : Int))), (9, .pointer (some ⟨g3, 0, none⟩)), (8, .int .i64 (i : Int)), (7, .bool s.2.2), (6, .string s.2.1), (5, .int .i64 s.1), (1, .string name), (0, .slice (some ⟨g1, b1', none⟩) l.length c)] a ∧ On [(g3, .cells (enc43 r).toArray 43 (0, 0))] w W) (fun a _ => leftN 10 (r.f2 + 1).toNat a) ⟨0, Nat.zero_le _, by rw [Nat.sub_zero, Int.natCast_zero, Int.add_zero], fg_ (ks_ (i := 10) (u := .int .i64 (r.f1 + ((0 : Nat) : Int))) K rfl (congrArg (Value.int .i64) (Int.add_zero _).symm)) ⟨rfl, rfl, rfl, rfl, rfl, rfl, rfl, rfl, trivial⟩, M⟩ ?_)
  clear K M a
  rintro a W ⟨t, ht, ef, K, M⟩
  have KL := leftN_ (d := 10) (n := (r.f2 + 1).toNat) K rfl
  refine wp_seq (sr_ (run_ 2 K rfl fun a K => ld_ K M 0 rfl rfl rfl rfl rfl rfl rfl rfl fun a K => run_ 1 K rfl fun a K => nil_ ?_))
  by_cases ht2 : t < m
  case neg =>
    obtain rfl : t = m := Nat.le_antisymm ht (Nat.le_of_not_lt ht2)
    have hle : ¬ (r.f1 + (t : Int) ≤ r.f2) := by omega
    rw [Nat.sub_self] at ef
    rw [ef] at es
    exact cf_ K rfl (decide_eq_false hle) (ex_ (thb_ ⟨s, es.symm, fg_ K ⟨rfl, rfl, rfl, rfl, rfl, rfl, trivial⟩, on_no M⟩))
  have hle : r.f1 + (t : Int) ≤ r.f2 := by omega
  have y1 : 1 ≤ r.f1 + (t : Int) := by omega
  have y2 : r.f1 + (t : Int) ≤ 9999 := by omega
  have ey : wrap64 (r.f1 + (t : Int) + 1) = r.f1 + ((t + 1 : Nat) : Int) := by rw [w64 (by omega) (by omega)]; omega
  have ml : (((r.f2 + 1).toNat : Nat) - (r.f1 + ((t + 1 : Nat) : Int))).toNat < (((r.f2 + 1).toNat : Nat) - (r.f1 + (t : Int))).toNat := by omega
  have er := res_iff (m := r.f3) rr.onr y1 y2
  have RS := fun V => rres_on (w := V) (m := r.f3) rr.onr y1 y2
  have ef2 : fstY r (m - t) (r.f1 + (t : Int)) = if (resV (r.f1 + (t : Int)) r.f3 r.f4.f0 r.f4.f1 r.f4.f2).2 = 0 then some (r.f1 + (t : Int), locV r (r.f1 + (t : Int))) else fstY r (m - (t + 1)) (r.f1 + ((t + 1 : Nat) : Int)) := by
    have e1 : m - t = (m - (t + 1)) + 1 := by omega
    have e2 : r.f1 + ((t + 1 : Nat) : Int) = r.f1 + (t : Int) + 1 := by omega
    rw [e1, e2]
    rfl
  rw [ef2] at ef
  clear ef2
  replace K := fg_ (E' := [(38, .bool (decide (r.f1 + (t : Int) ≤ r.f2))), (10, .int .i64 (r.f1 + (t : Int))), (9, .pointer (some ⟨g3, 0, none⟩)), (8, .int .i64 (i : Int)), (7, .bool s.2.2), (6, .string s.2.1), (5, .int .i64 s.1), (1, .string name), (0, .slice (some ⟨g1, b1', none⟩) l.length c)]) K ⟨rfl, rfl, rfl, rfl, rfl, rfl, rfl, rfl, rfl, trivial⟩
  refine ck_ K rfl (decide_eq_true hle) (wp_seq (bjn_ (fun a' W' => fstY r m r.f1 = fstY r (m - (t + 1)) (r.f1 + ((t + 1 : Nat) : Int)) ∧ Kn 69 [(10, .int .i64 (r.f1 + (t : Int))), (9, .pointer (some ⟨g3, 0, none⟩)), (8, .int .i64 (i : Int)), (7, .bool s.2.2), (6, .string s.2.1), (5, .int .i64 s.1), (1, .string name), (0, .slice (some ⟨g1, b1', none⟩) l.length c)] a' ∧ On [(g3, .cells (enc43 r).toArray 43 (0, 0))] w W') ?_ ?_))
  case refine_2 =>
    rintro a' W' ⟨ef', K', M'⟩
    refine rg_ (run_ 3 K' rfl fun a5 K5 => nl_ ⟨⟨t + 1, ht2, ef', fg_ (ks_ (i := 10) K5 rfl (congrArg (Value.int .i64) ey)) ⟨rfl, rfl, rfl, rfl, rfl, rfl, rfl, rfl, trivial⟩, M'⟩, ?_⟩)
    rw [leftN_ (d := 10) K5 rfl, KL, ey]
    exact ml
  clear KL ml
  refine sr_ (run_ 2 K rfl fun a K => ld_ K M 0 rfl rfl rfl rfl rfl rfl rfl rfl fun a K => run_ 1 K rfl fun a K => val_ K rfl rfl rfl (run_ldp (cs := [.int .i64 r.f4.f0, .int .i64 r.f4.f1, .int .i64 r.f4.f2]) Try.underlying39 i39 rfl (K.of (x := .tmp 45) rfl) (fun jj v hv => (M.cell (k := 0) rfl (4 + jj)).trans (on39 r jj v hv))) fun a K => cl_ K Try.func17 (by kernel_rfl) rfl rfl rfl rfl rfl rfl ((RS _).mono ?_))
  rintro _ w5 ⟨rfl, b5⟩
  replace M := M.call b5
  refine ⟨_, rfl, fun a K => run_ 5 K rfl fun a K => nil_ ?_⟩
  refine wp_seq (sr_ (run_ 2 K rfl fun a K => nil_ ?_))
  cases hb : (rresV (r.f1 + (t : Int)) r.f3 r.f4.f0 r.f4.f1 r.f4.f2).2 with
  | false =>
    rw [if_neg (of_decide_eq_false (er.symm.trans hb))] at ef
    exact ct_ K rfl (by rw [hb]; rfl) (ex_ (thn_ ⟨ef, fg_ K ⟨rfl, rfl, rfl, rfl, rfl, rfl, rfl, rfl, trivial⟩, M⟩))
  | true =>
  have h0 := of_decide_eq_true (er.symm.trans hb)
  have el : wrap64 (wrap64 ((rresV (r.f1 + (t : Int)) r.f3 r.f4.f0 r.f4.f1 r.f4.f2).1 * 86400) + r.f5.f0) = locV r (r.f1 + (t : Int)) := by rw [res_fst rr.onr y1 y2 h0]; rfl
  rw [if_pos h0] at ef
  rw [ef] at es
  refine cs_ K rfl (by rw [hb]; rfl) (wp_seq (sr_ (run_ 4 K rfl fun a K => ld_ K M 0 rfl rfl rfl rfl rfl rfl rfl rfl fun a K => run_ 2 K rfl fun a K => nil_ ?_)))
  replace K := fg_ (E' := [(13, .int .i64 (locV r (r.f1 + (t : Int)))), (9, .pointer (some ⟨g3, 0, none⟩)), (8, .int .i64 (i : Int)), (7, .bool s.2.2), (6, .string s.2.1), (5, .int .i64 s.1), (1, .string name), (0, .slice (some ⟨g1, b1', none⟩) l.length c)]) (ks_ (i := 13) K rfl (congrArg (Value.int .i64) el)) ⟨rfl, rfl, rfl, rfl, rfl, rfl, rfl, rfl, trivial⟩
  generalize locV r (r.f1 + (t : Int)) = p at K es
  have es : s1 = if s.2.2 = true then (if p < s.1 then (p, r.f7, true) else s) else (p, r.f7, true) := es
  refine sr_ ?_
  cases e9' : s.2.2 with
  | false =>
    rw [e9', if_neg (by decide)] at es
    have e9 : (!s.2.2) = true := by rw [e9']; rfl
    refine run_ 3 K rfl fun a K => run_ 4 (fx_ K e9) rfl fun a K => nil_ ?_
    refine ct_ K rfl rfl (draw_ fl rfl rfl M.drew ( dp_ 11 3 [0, 3, 1] K rfl rfl (by kernel_rfl) fun a K => dld_ 15 2 K M.drew 0 rfl rfl rfl rfl rfl rfl rfl rfl rfl (by kernel_rfl) fun a K => dp_ 63 0 [4, 5] K rfl rfl (by kernel_rfl) fun a K => dend_ (by kernel_rfl) ?_))
    exact ex_ (thb_ ⟨(p, r.f7, true), es.symm, fg_ K ⟨rfl, rfl, rfl, rfl, rfl, rfl, trivial⟩, on_no M.drew⟩)
  | true =>
    rw [e9', if_pos rfl] at es
    have e9 : (!s.2.2) = false := by rw [e9']; rfl
    refine run_ 3 K rfl fun a K => run_ 4 (fx_ K e9) rfl fun a K => nil_ ?_
    by_cases hp : p < s.1
    case pos =>
      rw [if_pos hp] at es
      refine ct_ K rfl (decide_eq_true hp) (draw_ fl rfl rfl M.drew ( dp_ 11 3 [0, 3, 1] K rfl rfl (by kernel_rfl) fun a K => dld_ 15 2 K M.drew 0 rfl rfl rfl rfl rfl rfl rfl rfl rfl (by kernel_rfl) fun a K => dp_ 63 0 [4, 5] K rfl rfl (by kernel_rfl) fun a K => dend_ (by kernel_rfl) ?_))
      exact ex_ (thb_ ⟨(p, r.f7, true), es.symm, fg_ K ⟨rfl, rfl, rfl, rfl, rfl, rfl, trivial⟩, on_no M.drew⟩)
    case neg =>
      rw [if_neg hp] at es
      exact cs_ K rfl (decide_eq_false hp) (ex_ (thb_ ⟨s, es.symm, fg_ K ⟨rfl, rfl, rfl, rfl, rfl, rfl, trivial⟩, on_no M⟩))
end Go.Proofs.Ytdhljcnilclfbaa.Pure
