/- The reference's sorted lists, in memory. No condition beyond those each lemma names. -/
import Derived.Test.YtdhljcnilclfbaaG413x
import Derived.Test.YtdhljcnilclfbaaHj
import Derived.Test.YtdhljcnilclfbaaHw
import Derived.Test.YtdhljcnilclfbaaOx0
import Derived.Test.YtdhljcnilclfbaaOx50
namespace Go.Proofs.Ytdhljcnilclfbaa.Pure
open Go.RowKit Go.Proofs.Ytdhljcnilclfbaa.O Go.Proofs.YtdhljcnilclfbaaW.PrintWords Go.Proofs.YtdhljcnilclfbaaW.PrintLast
open Go.Proofs.Ytdhljcnilclfbaa.Civ
set_option linter.unusedVariables false
set_option linter.unusedSimpArgs false
set_option maxHeartbeats 4000000
set_option maxRecDepth 100000
section
variable {ρ : Operand → Value} {o : Oper} {w : World}
theorem run_bs24 {x : Operand} {a b c : Int} (ho : o.op = .buildSlice 24 1 #[(0, x)]) (hx : ρ x = .agg #[.int .i64 a, .int .i64 b, .int .i64 c]) : (execOp ρ o).run Try.prog w = .ok (.value (.slice (some ⟨w.heap.size, 0, none⟩) 1 1)) (w.alloc (.cells #[.int .i64 a, .int .i64 b, .int .i64 c] 37 (0, 0))) := by
  have hu24 := Try.underlying24
  unfold execOp; rw [ho]
  first | (go_simp; done) | (simp only [hx, List.map_toArray, List.map_cons, List.map_nil]; go_simp; done) | (simp only [hx, List.map_toArray, List.map_cons, List.map_nil]; go_simp; rfl)
theorem add0_ (A : Option Addr) : A.map (fun p => p.add (0 * 3)) = A := by
  cases A with
  | none => rfl
  | some p => simp [Addr.add]
theorem run_slh24 {x y : Operand} {A : Option Addr} {n c m : Nat} (hm : m ≤ c) (ho : o.op = .slice 24 x none (some y) none) (hx : ρ x = .slice A n c) (hy : ρ y = .int .i64 (m : Int)) : (execOp ρ o).run Try.prog w = .ok (.value (.slice A m c)) w := by
  have hu24 := Try.underlying24
  have hu37 := Try.underlying37
  have hu3 := Try.underlying3
  have h1 : (0 : Int) ≤ (m : Int) ∧ (m : Int) ≤ (c : Int) := ⟨by omega, by omega⟩
  have a0 := add0_ A
  unfold execOp; rw [ho]
  go_simp
theorem run_sll24 {x y : Operand} {g b n c m : Nat} (hm : m < n) (hn : n ≤ c) (ho : o.op = .slice 24 x (some y) none none) (hx : ρ x = .slice (some ⟨g, b, none⟩) n c) (hy : ρ y = .int .i64 (m : Int)) : (execOp ρ o).run Try.prog w = .ok (.value (.slice (some ⟨g, b + m * 3, none⟩) (n - m) (c - m))) w := by
  have hu24 := Try.underlying24
  have hu37 := Try.underlying37
  have hu3 := Try.underlying3
  have h1 : (0 : Int) ≤ (m : Int) ∧ (m : Int) ≤ (n : Int) := ⟨by omega, by omega⟩
  have h2 : (n : Int) ≤ (c : Int) := by omega
  have a0 := add_nn g b (m * 3)
  have h3 : ¬ c = m := by omega
  unfold execOp; rw [ho]
  go_simp
end
theorem c_one37 {W : World} {g : Nat} {a b c : Int} (h : W.heap[g]? = some (.cells #[.int .i64 a, .int .i64 b, .int .i64 c] 37 (0, 0))) : Kd.C k37 W (some ⟨g, 0, none⟩) 1 [⟨a, b, c⟩] := by
  refine ⟨rfl, by simp, fun _ => ⟨_, rfl, fun j p hp => ?_⟩⟩
  have hj := (List.getElem?_eq_some_iff.1 hp).1
  obtain rfl : j = 0 := by simpa using hj
  obtain rfl : (⟨a, b, c⟩ : S37) = p := by simpa using hp
  refine ⟨_, rfl, k37_mk W ⟨a, b, c⟩, fun i u hu => ?_⟩
  match i, hu with
  | 0, hu => exact ((blk_cell h 0).trans rfl).trans hu
  | 1, hu => exact ((blk_cell h 1).trans rfl).trans hu
  | 2, hu => exact ((blk_cell h 2).trans rfl).trans hu
theorem C_take37 {w : World} {A : Option Addr} {n m : Nat} {l : List S37} (h : Kd.C k37 w A n l) (hm : m ≤ n) : Kd.C k37 w A m (l.take m) := by
  obtain ⟨h1, h2, h3⟩ := h
  refine ⟨by rw [List.length_take, h1]; omega, by omega, fun hp => ?_⟩
  obtain ⟨ad, e, hh⟩ := h3 (by omega)
  refine ⟨ad, e, fun j p hj => hh j p ?_⟩
  rw [List.getElem?_take] at hj
  split at hj
  · exact hj
  · cases hj
theorem C_drop37 {w : World} {g b n m : Nat} {l : List S37} (h : Kd.C k37 w (some ⟨g, b, none⟩) n l) (hm : m ≤ n) : Kd.C k37 w (some ⟨g, b + m * 3, none⟩) (n - m) (l.drop m) := by
  obtain ⟨h1, h2, h3⟩ := h
  refine ⟨by rw [List.length_drop, h1], by omega, fun hp => ?_⟩
  obtain ⟨ad, e, hh⟩ := h3 (by omega)
  obtain rfl : (⟨g, b, none⟩ : Addr) = ad := Option.some.inj e
  refine ⟨_, rfl, fun j p hj => ?_⟩
  rw [List.getElem?_drop] at hj
  obtain ⟨cs, hcs, hK, hcell⟩ := hh (m + j) p hj
  refine ⟨cs, hcs, hK, fun i u hu => ?_⟩
  have := hcell i u hu
  rw [add_nn] at this ⊢
  have e3 : k37.sz = 3 := rfl
  rw [e3] at this ⊢
  rw [show b + m * 3 + (j * 3 + i) = b + ((m + j) * 3 + i) by omega]
  exact this
/-- An append of one onset to an own row. -/
theorem ap37_ {N : Nat} {E : Env} {a : Act} {ops : Array Oper} {rest : List Oper} {Q : Exit → Act → World → Prop} {w w0 : World} {o o2 : Oper} {d e : Nat} {L : List (Nat × Obj)} {x y : Operand} {f0 f1 f2 : Int} {v : Value} {l : List S37} (K : Kn N E a) (M : On L w0 w)
    (hd : o.dst = some d) (hb : Nat.blt d N = true) (hw : wantE ops E o = some true) (hop : o.op = .buildSlice 24 1 #[(0, x)]) (hx : evo E x = some (.agg #[.int .i64 f0, .int .i64 f1, .int .i64 f2]))
    (hd2 : o2.dst = some e) (hb2 : Nat.blt e N = true) (hg2 : o2.guard = none) (hop2 : o2.op = .call { callee := .builtin .append, args := #[y, .tmp d], argTypes := #[24, 24] }) (hy : ∀ u, evo ((d, u) :: E) y = some v)
    (R : Kd.R k37 37 w w0.heap.size (fun _ => True) v l) (F : ∀ p ∈ L, some p.1 ≠ v.ownBlock) (hl : l.length ≤ 1000000000000)
    (h : ∀ a' v1 w1 u, Kd.R k37 37 w1 w0.heap.size (fun _ => True) v1 (l ++ [⟨f0, f1, f2⟩]) → On L w0 w1 → (∀ p ∈ L, some p.1 ≠ v1.ownBlock) → Kn N ((e, v1) :: (d, u) :: E) a' → wpList Try.prog ops Q rest a' w1) : wpList Try.prog ops Q (o :: o2 :: rest) a w := by
  refine val_ K hd hb hw (run_bs24 hop (K.of hx)) fun a K => ?_
  have hn := c_one37 (blk_new w (.cells #[.int .i64 f0, .int .i64 f1, .int .i64 f2] 37 (0, 0)))
  refine ap_ (k := k37) (t := 24) (e := 37) K (M.alloc _) hd2 hb2 hg2 hop2 Try.underlying24 info37 rfl (by decide) (by decide) (hy _) (A := some ⟨w.heap.size, 0, none⟩) (m := 1) (c := 1) (by unfold evo O.look; simp) (Kd.R_alloc R _) hn (fun x cs h => by rw [k37_open h]; exact k37_mkM _ _ _ x) F (by omega) fun a4 v1 W4 g4 R4 M4 F4 K4 => ?_
  exact h a4 v1 W4 _ R4 M4 F4 K4
theorem half_ (n : Nat) (hn : n ≤ 4611686018427387904) : wrap64 (Int.tdiv (n : Int) 2) = ((n / 2 : Nat) : Int) := by
  rw [Int.tdiv_eq_ediv_of_nonneg (by omega), w64 (by omega) (by omega)]
  omega
/-- What a list sorted by the reference is. -/
def SortedAs (w : World) (l : List S37) : Ending → World → Prop := fun e w' => ∃ (A : Option Addr) (c : Nat) (s : List S37), e = .returned (.slice A s.length c) ∧ s.length ≤ c ∧ Kd.C k37 w' A s.length s ∧ s.Perm l ∧ s.Pairwise rise37 ∧ Below w.heap.size w w'
theorem short_rise {l : List S37} (h : (l.length : Int) < 2) : l.Pairwise rise37 := by
  match l, h with
  | [], _ => exact .nil
  | [x], _ => exact List.pairwise_singleton _ _
  | _ :: _ :: _, h => exact absurd h (by simp only [List.length_cons]; omega)
theorem sorted_on (l : List S37) (hl : l.length ≤ 1000000000) (hp : l.Pairwise before37) {w : World} {A : Option Addr} {c : Nat} (hC : Kd.C k37 w A l.length l) (hc : l.length ≤ c) : Calls Try.prog 25 #[.slice A l.length c] w (SortedAs w l) := by
  have fl : Try.prog.follows .mixedOrders = true := by kernel_rfl
  have IH : ∀ m : List S37, m.length < l.length → m.Pairwise before37 → ∀ {w : World} {A : Option Addr} {c : Nat}, Kd.C k37 w A m.length m → m.length ≤ c → Calls Try.prog 25 #[.slice A m.length c] w (SortedAs w m) := fun m hm hp' _ _ _ h1 h2 => sorted_on m (by omega) hp' h1 h2
  refine en_ Try.func25 rfl rfl rfl fun a K => sr_ (run_ 1 K rfl fun a K => nil_ (wp_seq (sr_ (run_ 3 K rfl fun a K => nil_ ?_))))
  by_cases h2 : (l.length : Int) < 2
  case pos => exact ct_ K rfl (decide_eq_true h2) (sr_ (run_ 2 K rfl fun a K => nil_ (ret_ rfl K rfl ⟨A, c, l, rfl, hc, hC, .refl _, short_rise h2, Below.refl _ _⟩)))
  refine cs_ K rfl (decide_eq_false h2) ?_
  have hp0 : 0 < l.length := by omega
  obtain ⟨g, b, eA, _⟩ := at37 hC hp0
  subst eA
  have eh := half_ l.length (by omega)
  have ht : (l.take (l.length / 2)).length = l.length / 2 := by rw [List.length_take]; omega
  have hd : (l.drop (l.length / 2)).length = l.length - l.length / 2 := List.length_drop
  have IH1 : ∀ V, On [] w V → Calls Try.prog 25 #[.slice (some ⟨g, b, none⟩) (l.length / 2) c] V (SortedAs V (l.take (l.length / 2))) := fun V hV => by
    have := IH (l.take (l.length / 2)) (by omega) (hp.sublist (List.take_sublist _ _)) (w := V) (A := some ⟨g, b, none⟩) (c := c) (by rw [ht]; exact Kd.C_below (C_take37 hC (by omega)) hV.bl) (by omega)
    rwa [ht] at this
  have IH2 : ∀ V, On [] w V → Calls Try.prog 25 #[.slice (some ⟨g, b + l.length / 2 * 3, none⟩) (l.length - l.length / 2) (c - l.length / 2)] V (SortedAs V (l.drop (l.length / 2))) := fun V hV => by
    have := IH (l.drop (l.length / 2)) (by omega) (hp.sublist (List.drop_sublist _ _)) (w := V) (A := some ⟨g, b + l.length / 2 * 3, none⟩) (c := c - l.length / 2) (by rw [hd]; exact Kd.C_below (C_drop37 hC (by omega)) hV.bl) (by omega)
    rwa [hd] at this
  have hab : ∀ x ∈ l.take (l.length / 2), ∀ y ∈ l.drop (l.length / 2), before37 x y := fun x hx y hy => by
    have h := hp
    rw [← List.take_append_drop (l.length / 2) l] at h
    exact (List.pairwise_append.1 h).2.2 x hx y hy
  have hlp : (l.take (l.length / 2) ++ l.drop (l.length / 2)) = l := List.take_append_drop _ _
  have M := On.nil w
  refine dseq_ fl rfl rfl M.drew ( dp_ 975 6 [0, 1, 2, 3, 6, 7, 8, 9] K rfl rfl (by kernel_rfl) fun a K => dt_ 991 4 K M.drew rfl rfl rfl rfl (by kernel_rfl) (fun W hW => run_slh24 (by omega) rfl (K.of (x := .tmp 12) rfl) ((K.of (x := .tmp 15) rfl).trans (congrArg (Value.int .i64) eh))) fun a K => dt_ 2015 10 K M.drew rfl rfl rfl rfl (by kernel_rfl) (fun W hW => run_sll24 (by omega) hc rfl (K.of (x := .tmp 18) rfl) ((K.of (x := .tmp 21) rfl).trans (congrArg (Value.int .i64) eh))) fun a K => dc_ 2047 5 K Try.func25 (by kernel_rfl) rfl rfl rfl rfl rfl rfl rfl (by kernel_rfl) ((IH1 _ M.drew).mono ?_))
  rintro _ w5 ⟨A3, c3, s3, rfl, hc3, C3, P3, S3, b5⟩
  replace M := M.drew.call b5
  refine ⟨_, rfl, M, fun a K => dc_ 4095 11 K Try.func25 (by kernel_rfl) rfl rfl rfl rfl rfl rfl rfl (by kernel_rfl) ((IH2 _ M).mono ?_)⟩
  rintro _ w11 ⟨A4, c4, s4, rfl, hc4, C4, P4, S4, b11⟩
  replace C3 := Kd.C_below C3 b11
  replace M := M.call b11
  refine ⟨_, rfl, M, fun a K => dp_ 16383 0 [12, 13] K rfl rfl (by kernel_rfl) fun a K => dend_ (by kernel_rfl) ?_⟩
  have hn3 : s3.length ≤ 4611686018427387904 := by rw [P3.length_eq]; omega
  have hn4 : s4.length ≤ 4611686018427387904 := by rw [P4.length_eq]; omega
  have h34 : s3.length + s4.length ≤ 1000000000 := by rw [P3.length_eq, P4.length_eq]; omega
  have rise := merge_rise s3 s4 S3 S4 (fun x hx y hy => hab x (P3.mem_iff.1 hx) y (P4.mem_iff.1 hy))
  have perm : (List.merge s3 s4 le2).Perm l := by
    have h1 := List.merge_perm_append (le := le2) (xs := s3) (ys := s4)
    have h2 := h1.trans (P3.append P4)
    rwa [hlp] at h2
  clear IH IH1 IH2 hab hlp ht hd P3 P4 S3 S4
  have B0 := M.bl
  have fin : ∀ {V : World}, Below w11.heap.size w11 V → Below w.heap.size w V := fun q => below_step B0 q
  clear M
  have M := On.nil w11
  have ml : (List.merge s3 s4 le2).length = s3.length + s4.length := List.length_merge le2 s3 s4
  generalize hmg : List.merge s3 s4 le2 = mg at rise perm ml
  refine sr_ (run_ 1 K rfl fun a K => nil_ (sr_ (run_ 2 K rfl fun a K => nil_ (bk_ ?_))))
  refine wp_loop (fun a W => ∃ (i k : Nat) (out : List S37) (v : Value), i ≤ s3.length ∧ k ≤ s4.length ∧ out ++ List.merge (s3.drop i) (s4.drop k) le2 = mg ∧ Kn 76 [(7, .int .i64 (k : Int)), (6, .int .i64 (i : Int)), (5, v), (4, .slice A4 s4.length c4), (3, .slice A3 s3.length c3)] a ∧ On [] w11 W ∧ Kd.R k37 37 W w11.heap.size (fun _ => True) v out) (fun a _ => leftN 6 s3.length a + leftN 7 s4.length a) ⟨0, 0, [], .slice none 0 0, Nat.zero_le _, Nat.zero_le _, hmg, fg_ K ⟨rfl, rfl, rfl, rfl, rfl, trivial⟩, M, Kd.R_nil _ _ _ _ _⟩ ?_
  clear K M hmg
  rintro a W ⟨i, k, out, v, hi, hk, he, K, M, R⟩
  have KL := leftN_ (d := 6) (n := s3.length) K rfl
  have KR := leftN_ (d := 7) (n := s4.length) K rfl
  have hol : out.length ≤ 1000000000 := by
    have := congrArg List.length he
    rw [List.length_append] at this
    omega
  refine wp_seq (sr_ ?_)
  refine run_ 5 K rfl fun a K => ?_
  by_cases hc1 : i < s3.length
  case neg =>
    obtain rfl : i = s3.length := by omega
    refine run_ 5 (fx_ K (kp_ge hc1)) rfl fun a K => nil_ ?_
    by_cases hc2 : k < s4.length
    case neg =>
      obtain rfl : k = s4.length := by omega
      rw [List.drop_length, List.drop_length, List.nil_merge, List.append_nil] at he
      subst he
      obtain ⟨A5, c5, ev, h5, C5⟩ := Kd.R_reads R
      subst ev
      exact cf_ K rfl (kp_ge hc2) (ex_ (thn_ (sr_ (run_ 2 K rfl fun a K => nil_ (ret_ rfl K rfl ⟨A5, c5, out, rfl, h5, C5, perm, rise, fin M.bl⟩)))))
    refine ck_ K rfl (kp_lt hc2) (wp_block (sj_ (fun a' W' => Kn 76 [(56, .bool false), (7, .int .i64 (k : Int)), (6, .int .i64 ((s3.length : Nat) : Int)), (5, v), (4, .slice A4 s4.length c4), (3, .slice A3 s3.length c3)] a' ∧ On [] w11 W' ∧ Kd.R k37 37 W' w11.heap.size (fun _ => True) v out) ?_ ?_))
    · have e4 : decide ((k : Int) = (s4.length : Int)) = false := decide_eq_false (by omega)
      have e9 : decide (((s3.length : Nat) : Int) < (s3.length : Int)) = false := decide_eq_false (Int.lt_irrefl _)
      refine draw_ fl rfl rfl M.drew (  dp_ 31 18 [0, 1, 2, 3, 4] K rfl rfl (by kernel_rfl) fun a K => dp_ 1023 13 [5, 6, 7, 8, 9] (fx_ K e4) rfl rfl (by kernel_rfl) fun a K => dp_ 8388607 0 [10, 11, 12, 13, 14, 15, 16, 17, 18, 19, 20, 21, 22] (fx_ K e9) rfl rfl (by kernel_rfl) fun a K => dend_ (by kernel_rfl) ?_)
      exact ⟨fg_ K ⟨rfl, rfl, rfl, rfl, rfl, rfl, trivial⟩, M.drew, Kd.R_drew R⟩
    clear K M R
    rintro a W ⟨K, M, R⟩
    as_aux_lemma =>
      have hq := mrg_b (a := s3) (i := s3.length) hc2 (Or.inl (Nat.le_refl _))
      obtain ⟨g4, b4, eA4, hat4⟩ := at37 C4 (by omega)
      subst eA4
      have xl : ∀ V, On [] w11 V → ∀ j v, (cel37 s4[k])[j]? = some v → V.cell? ⟨g4, b4 + k * 3 + j, none⟩ = some v := fun V hV j v hv => cell_on hV (hat4 k hc2 j v hv)
      generalize s4[k] = q at xl hq
      have enx := kp_inc hc2 hn4
      rw [hq] at he
      refine cf_ K rfl rfl (sr_ (run_ 3 K rfl fun a K => val_ K rfl rfl rfl (run_ix24 (kk := k) hc2 hn4 rfl (K.of (x := .tmp 67) rfl) (K.of (x := .tmp 68) rfl)) fun a K => val_ K rfl rfl rfl (run_ldp (cs := cel37 q) Try.underlying37 i37 rfl (K.of (x := .tmp 69) rfl) (fun j v hv => xl _ M j v hv)) fun a K => ap37_ K M rfl rfl rfl rfl rfl rfl rfl rfl rfl (fun _ => rfl) R (fun p hp => absurd hp List.not_mem_nil) (by omega) fun a v1 W1 u R1 M1 F1 K1 => run_ 1 K1 rfl fun a K => nil_ ?_))
      refine rg_ (run_ 3 K rfl fun a5 K5 => nl_ ⟨⟨s3.length, k + 1, out ++ [q], v1, Nat.le_refl _, hc2, by rw [List.append_assoc]; exact he, fg_ (ks_ (i := 7) K5 rfl (congrArg (Value.int .i64) enx)) ⟨rfl, rfl, rfl, rfl, rfl, trivial⟩, M1, R1⟩, ?_⟩)
      rw [leftN_ (d := 6) K5 rfl, leftN_ (d := 7) K5 rfl, KL, KR, enx]
      exact Nat.add_lt_add_left (leftN_lt hc2) _
  have hi := hc1
  refine run_ 5 (fx_ K (kp_lt hc1)) rfl fun a K => nil_ (ck_ K rfl rfl ?_)
  obtain ⟨g3, b3, eA3, hat3⟩ := at37 C3 (by omega)
  subst eA3
  by_cases hc2 : k < s4.length
  case neg =>
    obtain rfl : k = s4.length := by omega
    refine wp_block (sj_ (fun a' W' => Kn 76 [(56, .bool true), (7, .int .i64 ((s4.length : Nat) : Int)), (6, .int .i64 (i : Int)), (5, v), (4, .slice A4 s4.length c4), (3, .slice (some ⟨g3, b3, none⟩) s3.length c3)] a' ∧ On [] w11 W' ∧ Kd.R k37 37 W' w11.heap.size (fun _ => True) v out) ?_ ?_)
    · have e4 : decide (((s4.length : Nat) : Int) = (s4.length : Int)) = true := decide_eq_true rfl
      refine draw_ fl rfl rfl M.drew (  dp_ 31 18 [0, 1, 2, 3, 4] K rfl rfl (by kernel_rfl) fun a K => dp_ 8388607 0 [5, 6, 7, 8, 9, 10, 11, 12, 13, 14, 15, 16, 17, 18, 19, 20, 21, 22] (fx_ K e4) rfl rfl (by kernel_rfl) fun a K => dend_ (by kernel_rfl) ?_)
      exact ⟨fg_ K ⟨rfl, rfl, rfl, rfl, rfl, rfl, trivial⟩, M.drew, Kd.R_drew R⟩
    clear K M R
    rintro a W ⟨K, M, R⟩
    as_aux_lemma =>
      have hq := mrg_a (b := s4) (k := s4.length) hc1 (Or.inl (Nat.le_refl _))
      have xl : ∀ V, On [] w11 V → ∀ j v, (cel37 s3[i])[j]? = some v → V.cell? ⟨g3, b3 + i * 3 + j, none⟩ = some v := fun V hV j v hv => cell_on hV (hat3 i hi j v hv)
      generalize s3[i] = q at xl hq
      have enx := kp_inc hi hn3
      rw [hq] at he
      refine ct_ K rfl rfl (sr_ (run_ 3 K rfl fun a K => val_ K rfl rfl rfl (run_ix24 (kk := i) hi hn3 rfl (K.of (x := .tmp 58) rfl) (K.of (x := .tmp 59) rfl)) fun a K => val_ K rfl rfl rfl (run_ldp (cs := cel37 q) Try.underlying37 i37 rfl (K.of (x := .tmp 60) rfl) (fun j v hv => xl _ M j v hv)) fun a K => ap37_ K M rfl rfl rfl rfl rfl rfl rfl rfl rfl (fun _ => rfl) R (fun p hp => absurd hp List.not_mem_nil) (by omega) fun a v1 W1 u R1 M1 F1 K1 => run_ 1 K1 rfl fun a K => nil_ ?_))
      refine rg_ (run_ 3 K rfl fun a5 K5 => nl_ ⟨⟨i + 1, s4.length, out ++ [q], v1, hi, Nat.le_refl _, by rw [List.append_assoc]; exact he, fg_ (ks_ (i := 6) K5 rfl (congrArg (Value.int .i64) enx)) ⟨rfl, rfl, rfl, rfl, rfl, trivial⟩, M1, R1⟩, ?_⟩)
      rw [leftN_ (d := 6) K5 rfl, leftN_ (d := 7) K5 rfl, KL, KR, enx]
      exact Nat.add_lt_add_right (leftN_lt hi) _
  have hk := hc2
  obtain ⟨g4, b4, eA4, hat4⟩ := at37 C4 (by omega)
  subst eA4
  refine wp_block (sj_ (fun a' W' => Kn 76 [(56, .bool (decide (s3[i].f2 ≤ s4[k].f2))), (7, .int .i64 (k : Int)), (6, .int .i64 (i : Int)), (5, v), (4, .slice (some ⟨g4, b4, none⟩) s4.length c4), (3, .slice (some ⟨g3, b3, none⟩) s3.length c3)] a' ∧ On [] w11 W' ∧ Kd.R k37 37 W' w11.heap.size (fun _ => True) v out) ?_ ?_)
  · as_aux_lemma =>
      have e4 : decide ((k : Int) = (s4.length : Int)) = false := decide_eq_false (by omega)
      have e9 : decide ((i : Int) < (s3.length : Int)) = true := kp_lt hc1
      have xi2 : ∀ V, On [] w11 V → V.cell? ⟨g3, b3 + i * 3 + 2, none⟩ = some (.int .i64 s3[i].f2) := fun V hV => cell_on hV (hat3 i hi 2 _ rfl)
      have xk2 : ∀ V, On [] w11 V → V.cell? ⟨g4, b4 + k * 3 + 2, none⟩ = some (.int .i64 s4[k].f2) := fun V hV => cell_on hV (hat4 k hk 2 _ rfl)
      refine draw_ fl rfl rfl M.drew (  dp_ 31 18 [0, 1, 2, 3, 4] K rfl rfl (by kernel_rfl) fun a K => dp_ 1023 13 [5, 6, 7, 8, 9] (fx_ K e4) rfl rfl (by kernel_rfl) fun a K => dp_ 102399 9 [10, 11, 15, 16] (fx_ K e9) rfl rfl (by kernel_rfl) fun a K => dt_ 106495 12 K M.drew rfl rfl rfl rfl (by kernel_rfl) (fun W hW => run_ix24 (kk := i) hi hn3 rfl (K.of (x := .tmp 44) rfl) (K.of (x := .tmp 45) rfl)) fun a K => dp_ 114687 7 [13] K rfl rfl (by kernel_rfl) fun a K => dt_ 131071 14 K M.drew rfl rfl rfl rfl (by kernel_rfl) (fun W hW => run_ld rfl rfl (K.of (x := .tmp 47) rfl) (xi2 W hW)) fun a K => dt_ 262143 17 K M.drew rfl rfl rfl rfl (by kernel_rfl) (fun W hW => run_ix24 (kk := k) hk hn4 rfl (K.of (x := .tmp 49) rfl) (K.of (x := .tmp 50) rfl)) fun a K => dp_ 524287 4 [18] K rfl rfl (by kernel_rfl) fun a K => dt_ 1048575 19 K M.drew rfl rfl rfl rfl (by kernel_rfl) (fun W hW => run_ld rfl rfl (K.of (x := .tmp 52) rfl) (xk2 W hW)) fun a K => dp_ 8388607 0 [20, 21, 22] K rfl rfl (by kernel_rfl) fun a K => dend_ (by kernel_rfl) ?_)
      exact ⟨fg_ K ⟨rfl, rfl, rfl, rfl, rfl, rfl, trivial⟩, M.drew, Kd.R_drew R⟩
  clear K M R
  rintro a W ⟨K, M, R⟩
  by_cases hle : s3[i].f2 ≤ s4[k].f2
  case pos =>
    replace K := fx_ K (decide_eq_true hle)
    as_aux_lemma =>
      have hq := mrg_a hc1 (Or.inr ⟨hc2, hle⟩)
      have xl : ∀ V, On [] w11 V → ∀ j v, (cel37 s3[i])[j]? = some v → V.cell? ⟨g3, b3 + i * 3 + j, none⟩ = some v := fun V hV j v hv => cell_on hV (hat3 i hi j v hv)
      generalize s3[i] = q at xl hq
      have enx := kp_inc hi hn3
      rw [hq] at he
      refine ct_ K rfl rfl (sr_ (run_ 3 K rfl fun a K => val_ K rfl rfl rfl (run_ix24 (kk := i) hi hn3 rfl (K.of (x := .tmp 58) rfl) (K.of (x := .tmp 59) rfl)) fun a K => val_ K rfl rfl rfl (run_ldp (cs := cel37 q) Try.underlying37 i37 rfl (K.of (x := .tmp 60) rfl) (fun j v hv => xl _ M j v hv)) fun a K => ap37_ K M rfl rfl rfl rfl rfl rfl rfl rfl rfl (fun _ => rfl) R (fun p hp => absurd hp List.not_mem_nil) (by omega) fun a v1 W1 u R1 M1 F1 K1 => run_ 1 K1 rfl fun a K => nil_ ?_))
      refine rg_ (run_ 3 K rfl fun a5 K5 => nl_ ⟨⟨i + 1, k, out ++ [q], v1, hi, Nat.le_of_lt hc2, by rw [List.append_assoc]; exact he, fg_ (ks_ (i := 6) K5 rfl (congrArg (Value.int .i64) enx)) ⟨rfl, rfl, rfl, rfl, rfl, trivial⟩, M1, R1⟩, ?_⟩)
      rw [leftN_ (d := 6) K5 rfl, leftN_ (d := 7) K5 rfl, KL, KR, enx]
      exact Nat.add_lt_add_right (leftN_lt hi) _
  case neg =>
    replace K := fx_ K (decide_eq_false hle)
    as_aux_lemma =>
      have hq := mrg_b hc2 (Or.inr ⟨hc1, by omega⟩)
      have xl : ∀ V, On [] w11 V → ∀ j v, (cel37 s4[k])[j]? = some v → V.cell? ⟨g4, b4 + k * 3 + j, none⟩ = some v := fun V hV j v hv => cell_on hV (hat4 k hc2 j v hv)
      generalize s4[k] = q at xl hq
      have enx := kp_inc hc2 hn4
      rw [hq] at he
      refine cf_ K rfl rfl (sr_ (run_ 3 K rfl fun a K => val_ K rfl rfl rfl (run_ix24 (kk := k) hc2 hn4 rfl (K.of (x := .tmp 67) rfl) (K.of (x := .tmp 68) rfl)) fun a K => val_ K rfl rfl rfl (run_ldp (cs := cel37 q) Try.underlying37 i37 rfl (K.of (x := .tmp 69) rfl) (fun j v hv => xl _ M j v hv)) fun a K => ap37_ K M rfl rfl rfl rfl rfl rfl rfl rfl rfl (fun _ => rfl) R (fun p hp => absurd hp List.not_mem_nil) (by omega) fun a v1 W1 u R1 M1 F1 K1 => run_ 1 K1 rfl fun a K => nil_ ?_))
      refine rg_ (run_ 3 K rfl fun a5 K5 => nl_ ⟨⟨i, k + 1, out ++ [q], v1, Nat.le_of_lt hc1, hc2, by rw [List.append_assoc]; exact he, fg_ (ks_ (i := 7) K5 rfl (congrArg (Value.int .i64) enx)) ⟨rfl, rfl, rfl, rfl, rfl, trivial⟩, M1, R1⟩, ?_⟩)
      rw [leftN_ (d := 6) K5 rfl, leftN_ (d := 7) K5 rfl, KL, KR, enx]
      exact Nat.add_lt_add_left (leftN_lt hc2) _
termination_by l.length
decreasing_by exact hm
end Go.Proofs.Ytdhljcnilclfbaa.Pure
