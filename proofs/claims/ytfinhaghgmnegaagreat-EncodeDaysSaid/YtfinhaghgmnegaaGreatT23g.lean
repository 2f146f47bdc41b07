/- A rule's times of day, as a contract. No condition beyond those each lemma names. -/
import Derived.Test.YtfinhaghgmnegaaGreatMT23f
import Derived.Test.YtfinhaghgmnegaaGreatOx150
namespace Go.Proofs.YtfinhaghgmnegaaGreat.Pure
open Go.RowKit Go.Proofs.YtfinhaghgmnegaaGreat.O Go.Proofs.YtfinhaghgmnegaaGreatW.PrintWords Go.Proofs.YtfinhaghgmnegaaGreatW.PrintLast
open Go.Proofs.YtfinhaghgmnegaaGreat.Civ
set_option linter.unusedVariables false
set_option linter.unusedSimpArgs false
set_option maxRecDepth 100000
set_option maxHeartbeats 4000000
theorem nbx_ {id : Nat} {R : Act → World → Prop} {Q : Exit → Act → World → Prop} {a : Act} {w : World} (h : R a w) : Exit.inBlock id (Exit.then R Q) .normal a w := h
theorem clk_nums {s f : Int} (hs : 0 ≤ s) (hs' : s < 86400) (hf : 0 ≤ f) (hf' : f < 86400) :
    (wrap64 (Int.tdiv s 3600) = s / 3600 ∧ wrap64 (Int.tdiv f 3600) = f / 3600) ∧ (wrap64 (Int.tdiv (Int.tmod s 3600) 60) = s % 3600 / 60 ∧ wrap64 (Int.tdiv (Int.tmod f 3600) 60) = f % 3600 / 60) ∧ (Int.tmod s 60 = s % 60 ∧ Int.tmod f 60 = f % 60) := by
  refine ⟨⟨?_, ?_⟩, ⟨?_, ?_⟩, tmod_nn 60 hs, tmod_nn 60 hf⟩
  · rw [tdiv_nn 3600 hs, w64 (by omega) (by omega)]
  · rw [tdiv_nn 3600 hf, w64 (by omega) (by omega)]
  · rw [tmod_nn 3600 hs, tdiv_nn 60 (by omega), w64 (by omega) (by omega)]
  · rw [tmod_nn 3600 hf, tdiv_nn 60 (by omega), w64 (by omega) (by omega)]
/-- No list has more than is played. -/
structure Few (r : RR) : Prop where
  sec : r.sec.length ≤ 100
  mi : r.mi.length ≤ 100
  ho : r.ho.length ≤ 100
theorem hms_w {h m x : Int} (hh : -1000000 ≤ h ∧ h ≤ 1000000) (hm : -1000000 ≤ m ∧ m ≤ 1000000) (hx : -1000000 ≤ x ∧ x ≤ 1000000) : wrap64 (wrap64 (wrap64 (h * 3600) + wrap64 (m * 60)) + x) = h * 3600 + m * 60 + x := by
  rw [w64 (x := h * 3600) (by omega) (by omega), w64 (x := m * 60) (by omega) (by omega), w64 (x := h * 3600 + m * 60) (by omega) (by omega), w64 (by omega) (by omega)]
/-- The three loops over a clock's numbers. -/
theorem clk_len3 {hs ms ss : List Int} (h1 : hs.length ≤ 101) (h2 : ms.length ≤ 101) (h3 : ss.length ≤ 101) : (clk3 hs ms ss).length ≤ 1030301 := by
  rw [clk3_len]
  calc hs.length * (ms.length * ss.length) ≤ 101 * (101 * 101) := Nat.mul_le_mul h1 (Nat.mul_le_mul h2 h3)
    _ = 1030301 := rfl
theorem clk_part {hs ms ss : List Int} {i j k : Nat} (hi : i < hs.length) (hj : j < ms.length) : (clk3 (hs.take i) ms ss ++ (clk2 hs[i] (ms.take j) ss ++ clk1 hs[i] ms[j] (ss.take k))).length ≤ (clk3 hs ms ss).length := by
  rw [List.length_append, List.length_append, clk3_len, clk2_len, clk1_len, clk3_len, List.length_take, List.length_take, List.length_take]
  have e1 : min i hs.length = i := by omega
  have e2 : min j ms.length = j := by omega
  rw [e1, e2]
  have a1 : j * ss.length + min k ss.length ≤ ms.length * ss.length := by
    have : (j + 1) * ss.length ≤ ms.length * ss.length := Nat.mul_le_mul_right _ hj
    rw [Nat.succ_mul] at this
    omega
  have a2 : (i + 1) * (ms.length * ss.length) ≤ hs.length * (ms.length * ss.length) := Nat.mul_le_mul_right _ hi
  rw [Nat.succ_mul] at a2
  omega
theorem small_list {l : List Int} {b m : Int} (h : okList l b m false = true) (hb : 0 ≤ b) (hm : m ≤ 100) : ∀ x ∈ l, b ≤ x ∧ x ≤ m := fun x hx => by
  simp only [okList, Bool.and_eq_true, decide_eq_true_eq] at h
  have h1 := h.1
  simp only [rightB, Bool.and_eq_true, Bool.not_eq_true', List.any_eq_false] at h1
  have h2 := h1.1 x hx
  simp only [wrongB, Bool.not_eq_true, Bool.and_eq_false_iff, Bool.or_eq_false_iff, decide_eq_false_iff_not, Bool.not_true, Bool.not_false, Bool.true_eq_false, Bool.false_eq_true, false_or, or_false, true_or, false_and, Bool.true_or, Bool.false_or] at h2
  omega
theorem Right.lists {r : RR} (h : Right r) : (∀ x ∈ r.sec, 0 ≤ x ∧ x ≤ 59) ∧ (∀ x ∈ r.mi, 0 ≤ x ∧ x ≤ 59) ∧ (∀ x ∈ r.ho, 0 ≤ x ∧ x ≤ 23) := by
  have hh := h.ok
  simp only [okRecur, Bool.and_eq_true, decide_eq_true_eq] at hh
  obtain ⟨⟨⟨⟨⟨⟨q1, q2⟩, q3, q4⟩, q5, q6⟩, ⟨⟨⟨⟨⟨⟨⟨p6, p7⟩, p8⟩, p10⟩, p11⟩, p12⟩, p13⟩, p14⟩⟩, ⟨p91, p92⟩, p93⟩, pb⟩ := hh
  exact ⟨small_list p6 (by omega) (by omega), small_list p7 (by omega) (by omega), small_list p8 (by omega) (by omega)⟩
theorem choice_in {l : List Int} {n a b : Int} (hl : ∀ x ∈ l, a ≤ x ∧ x ≤ b) (hn : a ≤ n ∧ n ≤ b) : ∀ x ∈ choiceV l n, a ≤ x ∧ x ≤ b := fun x hx => by
  unfold choiceV at hx
  split at hx
  · obtain rfl : x = n := by simpa using hx
    exact hn
  · exact hl x ((srt_mem l x).1 hx)
theorem clk_in {r : RR} (h : Right r) {s f : Int} (hs : 0 ≤ s) (hs' : s < 86400) (hf : 0 ≤ f) (hf' : f < 86400) : (∀ x ∈ hoursV r s f, 0 ≤ x ∧ x ≤ 23) ∧ (∀ x ∈ minsV r s f, 0 ≤ x ∧ x ≤ 59) ∧ (∀ x ∈ secsV r s f, 0 ≤ x ∧ x ≤ 59) := by
  obtain ⟨h1, h2, h3⟩ := h.lists
  refine ⟨choice_in h3 ?_, choice_in h2 ?_, choice_in h1 ?_⟩
  all_goals (split <;> omega)
theorem clocks_on {w : World} {cs : Array Value} {r : RR} (R : Rul w cs r) (h : Right r) (hw : Few r) {s f : Int} (hs : 0 ≤ s) (hs' : s < 86400) (hf : 0 ≤ f) (hf' : f < 86400) :
    Calls Tryz.prog 73 #[.agg cs, .int .i64 s, .int .i64 f] w fun e W' => ∃ v', e = .returned v' ∧ Kd.R (Kd.int .i64) 3 W' w.heap.size (fun _ => True) v' (clocksV r s f) ∧ Below w.heap.size w W' := by
  have fl : Tryz.prog.follows .mixedOrders = true := by kernel_rfl
  obtain ⟨A6, k6, e6, q6, h6⟩ := R.c6
  obtain ⟨A7, k7, e7, q7, h7⟩ := R.c7
  obtain ⟨A8, k8, e8, q8, h8⟩ := R.c8
  obtain ⟨in1, in2, in3⟩ := clk_in h hs hs' hf hf'
  obtain ⟨⟨n1, n2⟩, ⟨n3, n4⟩, ⟨n5, n6⟩⟩ := clk_nums hs hs' hf hf'
  have f1 : ∀ V, Calls Tryz.prog 79 #[.bool (decide (3 < r.fr)), .int .i64 (wrap64 (Int.tdiv s 3600)), .int .i64 (wrap64 (Int.tdiv f 3600))] V (Rets V (.int .i64 (if 3 < r.fr then s / 3600 else f / 3600))) := fun V => by rw [n1, n2]; simpa using free_on (w := V) (decide (3 < r.fr)) (s / 3600) (f / 3600)
  have f2 : ∀ V, Calls Tryz.prog 79 #[.bool (decide (2 < r.fr)), .int .i64 (wrap64 (Int.tdiv (Int.tmod s 3600) 60)), .int .i64 (wrap64 (Int.tdiv (Int.tmod f 3600) 60))] V (Rets V (.int .i64 (if 2 < r.fr then s % 3600 / 60 else f % 3600 / 60))) := fun V => by rw [n3, n4]; simpa using free_on (w := V) (decide (2 < r.fr)) (s % 3600 / 60) (f % 3600 / 60)
  have f3 : ∀ V, Calls Tryz.prog 79 #[.bool (decide (1 < r.fr)), .int .i64 (Int.tmod s 60), .int .i64 (Int.tmod f 60)] V (Rets V (.int .i64 (if 1 < r.fr then s % 60 else f % 60))) := fun V => by rw [n5, n6]; simpa using free_on (w := V) (decide (1 < r.fr)) (s % 60) (f % 60)
  have L1 : (hoursV r s f).length ≤ 101 := Nat.le_trans (choice_len _ _) (by have := hw.ho; omega)
  have L2 : (minsV r s f).length ≤ 101 := Nat.le_trans (choice_len _ _) (by have := hw.mi; omega)
  have L3 : (secsV r s f).length ≤ 101 := Nat.le_trans (choice_len _ _) (by have := hw.sec; omega)
  have T1 : r.ho.length ≤ 1000000000 := by have := hw.ho; omega
  have T2 : r.mi.length ≤ 1000000000 := by have := hw.mi; omega
  have T3 : r.sec.length ≤ 1000000000 := by have := hw.sec; omega
  clear n1 n2 n3 n4 n5 n6
  refine en_ Tryz.func73 rfl rfl rfl fun a K => sr_ (bxG_ K (On.nil w) rfl rfl rfl rfl rfl rfl fun a g0 W G0 M K => run_ 1 K rfl fun a K => nil_ ?_)
  refine dseq_ fl rfl rfl M.drew (dp_ 485 6 [0, 2, 5, 6, 7, 8] K rfl rfl (by kernel_rfl) fun a K => dld_ 487 1 K M.drew 0 rfl rfl rfl rfl rfl rfl rfl e8 rfl (by kernel_rfl) fun a K => dld_ 495 3 K M.drew 0 rfl rfl rfl rfl rfl rfl rfl R.c0 rfl (by kernel_rfl) fun a K => dp_ 511 3 [4] K rfl rfl (by kernel_rfl) fun a K => dc_ 1023 9 K Tryz.func79 (by kernel_rfl) rfl rfl rfl rfl rfl rfl rfl (by kernel_rfl) ((f1 _).mono ?_))
  rintro _ w1 ⟨rfl, b1⟩
  replace M := M.drew.call b1
  refine ⟨_, rfl, M, fun a K => dc_ 2047 10 K Tryz.func78 (by kernel_rfl) rfl rfl rfl rfl rfl rfl rfl (by kernel_rfl) ((choice_on _ (Kd.C_below h8 M.bl) T1).mono ?_)⟩
  rintro _ w2 ⟨v1, rfl, R1, b2⟩
  replace R1 : Kd.R (Kd.int .i64) 3 w2 w1.heap.size (fun _ => True) v1 (hoursV r s f) := R1
  replace M := M.call b2
  refine ⟨_, rfl, M, fun a K => dp_ 4095 0 [11] K rfl rfl (by kernel_rfl) fun a K => dend_ (by kernel_rfl) ?_⟩
  refine dseq_ fl rfl rfl M.drew (dp_ 2021 6 [0, 2, 5, 6, 7, 8, 9, 10] K rfl rfl (by kernel_rfl) fun a K => dld_ 2023 1 K M.drew 0 rfl rfl rfl rfl rfl rfl rfl e7 rfl (by kernel_rfl) fun a K => dld_ 2031 3 K M.drew 0 rfl rfl rfl rfl rfl rfl rfl R.c0 rfl (by kernel_rfl) fun a K => dp_ 2047 3 [4] K rfl rfl (by kernel_rfl) fun a K => dc_ 4095 11 K Tryz.func79 (by kernel_rfl) rfl rfl rfl rfl rfl rfl rfl (by kernel_rfl) ((f2 _).mono ?_))
  rintro _ w3 ⟨rfl, b3⟩
  replace M := M.drew.call b3
  replace R1 := Kd.R_below (Kd.R_drew R1) b3
  refine ⟨_, rfl, M, fun a K => dc_ 8191 12 K Tryz.func78 (by kernel_rfl) rfl rfl rfl rfl rfl rfl rfl (by kernel_rfl) ((choice_on _ (Kd.C_below h7 M.bl) T2).mono ?_)⟩
  rintro _ w4 ⟨v2, rfl, R2, b4⟩
  replace R2 : Kd.R (Kd.int .i64) 3 w4 w3.heap.size (fun _ => True) v2 (minsV r s f) := R2
  replace M := M.call b4
  replace R1 := Kd.R_below R1 b4
  refine ⟨_, rfl, M, fun a K => dp_ 16383 0 [13] K rfl rfl (by kernel_rfl) fun a K => dend_ (by kernel_rfl) ?_⟩
  refine dseq_ fl rfl rfl M.drew (dp_ 485 6 [0, 2, 5, 6, 7, 8] K rfl rfl (by kernel_rfl) fun a K => dld_ 487 1 K M.drew 0 rfl rfl rfl rfl rfl rfl rfl e6 rfl (by kernel_rfl) fun a K => dld_ 495 3 K M.drew 0 rfl rfl rfl rfl rfl rfl rfl R.c0 rfl (by kernel_rfl) fun a K => dp_ 511 3 [4] K rfl rfl (by kernel_rfl) fun a K => dc_ 1023 9 K Tryz.func79 (by kernel_rfl) rfl rfl rfl rfl rfl rfl rfl (by kernel_rfl) ((f3 _).mono ?_))
  rintro _ w5 ⟨rfl, b5⟩
  replace M := M.drew.call b5
  replace R1 := Kd.R_below (Kd.R_drew R1) b5
  replace R2 := Kd.R_below (Kd.R_drew R2) b5
  refine ⟨_, rfl, M, fun a K => dc_ 2047 10 K Tryz.func78 (by kernel_rfl) rfl rfl rfl rfl rfl rfl rfl (by kernel_rfl) ((choice_on _ (Kd.C_below h6 M.bl) T3).mono ?_)⟩
  rintro _ w6 ⟨v3, rfl, R3, b6⟩
  replace R3 : Kd.R (Kd.int .i64) 3 w6 w5.heap.size (fun _ => True) v3 (secsV r s f) := R3
  replace M := M.call b6
  replace R1 := Kd.R_below R1 b6
  replace R2 := Kd.R_below R2 b6
  refine ⟨_, rfl, M, fun a K => dp_ 4095 0 [11] K rfl rfl (by kernel_rfl) fun a K => dend_ (by kernel_rfl) ?_⟩
  have B6 := M.bl
  clear M b1 b2 b3 b4 b5 b6 f1 f2 f3 h6 h7 h8 T1 T2 T3
  unfold clocksV
  generalize hoursV r s f = hs1 at R1 in1 L1 ⊢
  generalize minsV r s f = ms at R2 in2 L2 ⊢
  generalize secsV r s f = ss at R3 in3 L3 ⊢
  have len3 := clk_len3 L1 L2 L3
  obtain ⟨A1, c1, e1, _, C1⟩ := Kd.R_reads R1
  obtain ⟨A2, c2, e2, _, C2⟩ := Kd.R_reads R2
  obtain ⟨A3, c3, e3, _, C3⟩ := Kd.R_reads R3
  subst e1 e2 e3
  clear R1 R2 R3
  -- from here on all is above w6
  have fin : ∀ (W : World) (v : Value), Below w6.heap.size w6 W → Kd.R (Kd.int .i64) 3 W w6.heap.size (fun _ => True) v (clk3 hs1 ms ss) → ∃ v', Ending.returned v = .returned v' ∧ Kd.R (Kd.int .i64) 3 W w.heap.size (fun _ => True) v' (clk3 hs1 ms ss) ∧ Below w.heap.size w W := fun W v hb hR => ⟨v, rfl, Kd.R_lower hR B6.size, below_step B6 hb⟩
  clear B6
  refine sr_ (run_ 1 K rfl fun a K => nil_ (wp_seq (sr_ (run_ 3 K rfl fun a K => nil_ (wp_block (wp_loop (fun a W => ∃ (i : Nat) (v : Value), i ≤ hs1.length ∧ Kn 84 [(54, .int .i64 (i : Int)), (53, .int .i64 (hs1.length : Int)), (52, .slice A1 hs1.length c1), (10, v), (9, .slice A3 ss.length c3), (8, .slice A2 ms.length c2)] a ∧ On [] w6 W ∧ Kd.R (Kd.int .i64) 3 W w6.heap.size (fun _ => True) v (clk3 (hs1.take i) ms ss)) (fun a _ => leftN 54 hs1.length a) ⟨0, .slice none 0 0, Nat.zero_le _, fg_ K ⟨rfl, rfl, rfl, rfl, rfl, rfl, trivial⟩, On.nil _, Kd.R_nil _ _ _ _ _⟩ ?_))))))
  clear K
  rintro a W ⟨i, v, hi, K, M, Rv⟩
  refine sr_ (run_ 1 K rfl fun a2 K2 => nil_ (wp_seq ?_))
  by_cases hc : i < hs1.length
  case neg =>
    obtain rfl : i = hs1.length := Nat.le_antisymm hi (Nat.le_of_not_lt hc)
    rw [List.take_length] at Rv
    exact cf_ K2 rfl (kp_ge hc) (ex_ (thn_ (sr_ (run_ 2 K2 rfl fun a K => nil_ (ret_ rfl K rfl (fin W v M.bl Rv))))))
  have ei := kp_inc hc (Nat.le_trans L1 (by decide))
  have hh := in1 _ (List.getElem_mem hc)
  have ek := clk3_succ hs1 ms ss hc
  have epart := fun j k (hj : j < ms.length) => clk_part (ss := ss) (k := k) hc hj
  obtain ⟨ad1, eA, hat⟩ := C_at C1 (Nat.lt_of_le_of_lt (Nat.zero_le _) hc)
  subst eA
  have hx := List.getElem?_eq_getElem hc
  have hcell := cell_on M (hat i _ hx)
  generalize hs1[i] = hv at hx ek hh epart hcell
  refine ck_ K2 rfl (kp_lt hc) (wp_seq (bjn_ (fun a' W' => ∃ v', Kn 84 [(54, .int .i64 (i : Int)), (53, .int .i64 (hs1.length : Int)), (52, .slice (some ad1) hs1.length c1), (10, v'), (9, .slice A3 ss.length c3), (8, .slice A2 ms.length c2)] a' ∧ On [] w6 W' ∧ Kd.R (Kd.int .i64) 3 W' w6.heap.size (fun _ => True) v' (clk3 (hs1.take (i + 1)) ms ss)) (sr_ (ix_ K2 hc (Nat.le_trans L1 (by decide)) rfl rfl rfl rfl rfl rfl fun a K => el_ K hcell rfl rfl rfl rfl rfl fun a K => run_ 1 K rfl fun a K => nil_ ?_)) ?_))
  case refine_2 =>
    rintro a' W' ⟨v', K', M', R'⟩
    refine rg_ (run_ 2 K' rfl fun a5 K5 => nl_ ⟨⟨i + 1, v', hc, fg_ (ks_ (i := 54) K5 rfl (congrArg (Value.int .i64) ei)) ⟨rfl, rfl, rfl, rfl, rfl, rfl, trivial⟩, M', R'⟩, ?_⟩)
    rw [leftN_ (d := 54) K5 rfl, leftN_ (d := 54) K rfl, ei]
    exact leftN_lt hc
  rw [ek]
  clear hcell hx ek
  refine sr_ (run_ 3 K rfl fun a K => nil_ (wp_block (wp_loop (fun a W => ∃ (j : Nat) (v : Value), j ≤ ms.length ∧ Kn 84 [(60, .int .i64 (j : Int)), (59, .int .i64 (ms.length : Int)), (58, .slice A2 ms.length c2), (12, .int .i64 hv), (54, .int .i64 (i : Int)), (53, .int .i64 (hs1.length : Int)), (52, .slice (some ad1) hs1.length c1), (10, v), (9, .slice A3 ss.length c3), (8, .slice A2 ms.length c2)] a ∧ On [] w6 W ∧ Kd.R (Kd.int .i64) 3 W w6.heap.size (fun _ => True) v (clk3 (hs1.take i) ms ss ++ clk2 hv (ms.take j) ss)) (fun a _ => leftN 60 ms.length a) ⟨0, v, Nat.zero_le _, fg_ K ⟨rfl, rfl, rfl, rfl, rfl, rfl, rfl, rfl, rfl, rfl, trivial⟩, M, by rw [show clk2 hv (ms.take 0) ss = [] from rfl, List.append_nil]; exact Rv⟩ ?_)))
  clear K K2 M Rv
  rintro a W ⟨j, v, hj, K, M, Rv⟩
  refine sr_ (run_ 1 K rfl fun a2 K2 => nil_ (wp_seq ?_))
  by_cases hd : j < ms.length
  case neg =>
    obtain rfl : j = ms.length := Nat.le_antisymm hj (Nat.le_of_not_lt hd)
    rw [List.take_length] at Rv
    exact cf_ K2 rfl (kp_ge hd) (ex_ (nbx_ ⟨v, fg_ K2 ⟨rfl, rfl, rfl, rfl, rfl, rfl, trivial⟩, M, Rv⟩))
  have ej := kp_inc hd (Nat.le_trans L2 (by decide))
  have hm := in2 _ (List.getElem_mem hd)
  have ek := clk2_succ hv ms ss hd
  have epart2 := fun k => epart j k hd
  obtain ⟨ad2, eA, hat2⟩ := C_at C2 (Nat.lt_of_le_of_lt (Nat.zero_le _) hd)
  subst eA
  have hx := List.getElem?_eq_getElem hd
  have hcell := cell_on M (hat2 j _ hx)
  generalize ms[j] = mv at hx ek hm epart2 hcell
  refine ck_ K2 rfl (kp_lt hd) (wp_seq (bjn_ (fun a' W' => ∃ v', Kn 84 [(60, .int .i64 (j : Int)), (59, .int .i64 (ms.length : Int)), (58, .slice (some ad2) ms.length c2), (12, .int .i64 hv), (54, .int .i64 (i : Int)), (53, .int .i64 (hs1.length : Int)), (52, .slice (some ad1) hs1.length c1), (10, v'), (9, .slice A3 ss.length c3), (8, .slice (some ad2) ms.length c2)] a' ∧ On [] w6 W' ∧ Kd.R (Kd.int .i64) 3 W' w6.heap.size (fun _ => True) v' (clk3 (hs1.take i) ms ss ++ clk2 hv (ms.take (j + 1)) ss)) (sr_ (ix_ K2 hd (Nat.le_trans L2 (by decide)) rfl rfl rfl rfl rfl rfl fun a K => el_ K hcell rfl rfl rfl rfl rfl fun a K => run_ 1 K rfl fun a K => nil_ ?_)) ?_))
  case refine_2 =>
    rintro a' W' ⟨v', K', M', R'⟩
    refine rg_ (run_ 2 K' rfl fun a5 K5 => nl_ ⟨⟨j + 1, v', hd, fg_ (ks_ (i := 60) K5 rfl (congrArg (Value.int .i64) ej)) ⟨rfl, rfl, rfl, rfl, rfl, rfl, rfl, rfl, rfl, rfl, trivial⟩, M', R'⟩, ?_⟩)
    rw [leftN_ (d := 60) K5 rfl, leftN_ (d := 60) K rfl, ej]
    exact leftN_lt hd
  rw [ek, ← List.append_assoc]
  clear hcell hx ek
  refine sr_ (run_ 3 K rfl fun a K => nil_ (wp_block (wp_loop (fun a W => ∃ (k : Nat) (v : Value), k ≤ ss.length ∧ Kn 84 [(66, .int .i64 (k : Int)), (65, .int .i64 (ss.length : Int)), (64, .slice A3 ss.length c3), (14, .int .i64 mv), (60, .int .i64 (j : Int)), (59, .int .i64 (ms.length : Int)), (58, .slice (some ad2) ms.length c2), (12, .int .i64 hv), (54, .int .i64 (i : Int)), (53, .int .i64 (hs1.length : Int)), (52, .slice (some ad1) hs1.length c1), (10, v), (9, .slice A3 ss.length c3), (8, .slice (some ad2) ms.length c2)] a ∧ On [] w6 W ∧ Kd.R (Kd.int .i64) 3 W w6.heap.size (fun _ => True) v (clk3 (hs1.take i) ms ss ++ clk2 hv (ms.take j) ss ++ clk1 hv mv (ss.take k))) (fun a _ => leftN 66 ss.length a) ⟨0, v, Nat.zero_le _, fg_ K ⟨rfl, rfl, rfl, rfl, rfl, rfl, rfl, rfl, rfl, rfl, rfl, rfl, rfl, rfl, trivial⟩, M, by rw [show clk1 hv mv (ss.take 0) = [] from rfl, List.append_nil]; exact Rv⟩ ?_)))
  clear K K2 M Rv
  rintro a W ⟨k, v, hk, K, M, Rv⟩
  refine sr_ (run_ 1 K rfl fun a2 K2 => nil_ (wp_seq ?_))
  by_cases hg : k < ss.length
  case neg =>
    obtain rfl : k = ss.length := Nat.le_antisymm hk (Nat.le_of_not_lt hg)
    rw [List.take_length] at Rv
    exact cf_ K2 rfl (kp_ge hg) (ex_ (nbx_ ⟨v, fg_ K2 ⟨rfl, rfl, rfl, rfl, rfl, rfl, rfl, rfl, rfl, rfl, trivial⟩, M, Rv⟩))
  have eg := kp_inc hg (Nat.le_trans L3 (by decide))
  have hn := in3 _ (List.getElem_mem hg)
  have ek := clk1_succ hv mv ss hg
  have hlen := epart2 k
  obtain ⟨ad3, eA, hat3⟩ := C_at C3 (Nat.lt_of_le_of_lt (Nat.zero_le _) hg)
  subst eA
  have hx := List.getElem?_eq_getElem hg
  have hcell := cell_on M (hat3 k _ hx)
  generalize ss[k] = sv at hx ek hn hcell
  have ew := hms_w (h := hv) (m := mv) (x := sv) ⟨Int.le_trans (by decide) hh.1, Int.le_trans hh.2 (by decide)⟩ ⟨Int.le_trans (by decide) hm.1, Int.le_trans hm.2 (by decide)⟩ ⟨Int.le_trans (by decide) hn.1, Int.le_trans hn.2 (by decide)⟩
  obtain ⟨A0, c0, ev, _⟩ := Kd.R_reads Rv
  have hl0 : (clk3 (hs1.take i) ms ss ++ clk2 hv (ms.take j) ss ++ clk1 hv mv (ss.take k)).length ≤ 17000000000000 := by
    rw [List.append_assoc]
    exact Nat.le_trans hlen (Nat.le_trans len3 (by decide))
  refine ck_ K2 rfl (kp_lt hg) (wp_seq (bjn_ (fun a' W' => ∃ v', Kn 84 [(66, .int .i64 (k : Int)), (65, .int .i64 (ss.length : Int)), (64, .slice (some ad3) ss.length c3), (14, .int .i64 mv), (60, .int .i64 (j : Int)), (59, .int .i64 (ms.length : Int)), (58, .slice (some ad2) ms.length c2), (12, .int .i64 hv), (54, .int .i64 (i : Int)), (53, .int .i64 (hs1.length : Int)), (52, .slice (some ad1) hs1.length c1), (10, v'), (9, .slice (some ad3) ss.length c3), (8, .slice (some ad2) ms.length c2)] a' ∧ On [] w6 W' ∧ Kd.R (Kd.int .i64) 3 W' w6.heap.size (fun _ => True) v' (clk3 (hs1.take i) ms ss ++ clk2 hv (ms.take j) ss ++ clk1 hv mv (ss.take (k + 1)))) (sr_ (ix_ K2 hg (Nat.le_trans L3 (by decide)) rfl rfl rfl rfl rfl rfl fun a K => el_ K hcell rfl rfl rfl rfl rfl fun a K => run_ 1 K rfl fun a K => nil_ ?_)) ?_))
  case refine_2 =>
    rintro a' W' ⟨v', K', M', R'⟩
    refine rg_ (run_ 2 K' rfl fun a5 K5 => nl_ ⟨⟨k + 1, v', hg, fg_ (ks_ (i := 66) K5 rfl (congrArg (Value.int .i64) eg)) ⟨rfl, rfl, rfl, rfl, rfl, rfl, rfl, rfl, rfl, rfl, rfl, rfl, rfl, rfl, trivial⟩, M', R'⟩, ?_⟩)
    rw [leftN_ (d := 66) K5 rfl, leftN_ (d := 66) K rfl, eg]
    exact leftN_lt hg
  rw [ek, ← List.append_assoc]
  subst ev
  refine rg_ (run_ 8 K rfl fun a K => ap1_ K M rfl rfl rfl rfl rfl rfl rfl rfl rfl (fun _ => rfl) Rv (fun p hp => absurd hp List.not_mem_nil) hl0 fun a v1 W4 u R4 M4 F4 K4 => run_ 1 K4 rfl fun a K => nl_ ⟨v1, fg_ K ⟨rfl, rfl, rfl, rfl, rfl, rfl, rfl, rfl, rfl, rfl, rfl, rfl, rfl, rfl, trivial⟩, M4, by rw [← ew]; exact R4⟩)
end Go.Proofs.YtfinhaghgmnegaaGreat.Pure
