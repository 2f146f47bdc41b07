/- OnsetRises: what the law computes is true at all arguments. No condition. -/
import Derived.Test.YtdhljcnilclfbaaG413q
import Derived.Test.YtdhljcnilclfbaaHj
import Derived.Test.YtdhljcnilclfbaaOx0
import Derived.Test.YtdhljcnilclfbaaOx31
import Derived.Test.YtdhljcnilclfbaaOx50
import Derived.Test.YtdhljcnilclfbaaOx55
import Derived.Test.YtdhljcnilclfbaaOx59
import Derived.Test.YtdhljcnilclfbaaOx61
import Derived.Test.YtdhljcnilclfbaaOx75
import Derived.Test.YtdhljcnilclfbaaOx78
import Derived.Test.YtdhljcnilclfbaaOx87
namespace Go.Proofs.Ytdhljcnilclfbaa.Pure
open Go.RowKit Go.Proofs.Ytdhljcnilclfbaa.O Go.Proofs.YtdhljcnilclfbaaW.PrintWords Go.Proofs.YtdhljcnilclfbaaW.PrintLast
open Go.Proofs.Ytdhljcnilclfbaa.Civ
set_option linter.unusedVariables false
set_option linter.unusedSimpArgs false
theorem wakes13 : Ev (fun k => solsticelaw13_wakes.f k) true := Ev.of solsticelaw13_wakes.mono (k := 60) (by decide +kernel)
set_option maxHeartbeats 4000000
set_option maxRecDepth 100000
theorem heavy_on (l : List S43) : ∃ b, (∀ (w : World) (A : Option Addr) (c : Nat), Kd.C k43 w A l.length l → l.length ≤ c → Calls Try.prog 7 #[.slice A l.length c] w (Rets w (.bool b))) ∧ (b = false → l.length ≤ 300) := by
  obtain ⟨b, hb, hl⟩ := heavy l
  obtain ⟨k, hk⟩ := hb.rounds
  exact ⟨b, fun w A c h1 h2 => (solsticelaw13_Heavy.calls k A c l b w h1 h2 hk).mono fun _ _ => rets_drawn, hl⟩
theorem right_on (l : List S43) (hl : l.length ≤ 300) : ∃ b, (∀ (w : World) (A : Option Addr) (c : Nat), Kd.C k43 w A l.length l → l.length ≤ c → Calls Try.prog 12 #[.slice A l.length c] w (Rets w (.bool b))) ∧ (b = true → ∀ j (hj : j < l.length), RuleOk l[j]) := by
  obtain ⟨b, hb, h⟩ := right l hl
  obtain ⟨k, hk⟩ := hb.rounds
  exact ⟨b, fun w A c h1 h2 => solsticelaw13_Right.calls k A c l b w h1 h2 hk, h⟩
theorem of_on (name : ByteArray) {last : Int} (l : List S43) (hl : l.length ≤ 200) (h1 : 1 ≤ last) (h2 : last ≤ 9999) (hok : ∀ j (hj : j < l.length), RuleOk l[j]) {w : World} {A : Option Addr} {c : Nat} (hC : Kd.C k43 w A l.length l) (hc : l.length ≤ c) :
    Calls Try.prog 8 #[.slice A l.length c, .string name, .int .i64 last] w fun e w' => ∃ v : Value, e = .returned (.tuple #[v, .int .i64 0]) ∧ Kd.R k37 37 w' w.heap.size (fun _ => True) v (srt37 (gen name last l 0)) ∧ Below w.heap.size w w' := by
  obtain ⟨k, hk⟩ := (of_ev name l hl h1 h2 hok).rounds
  exact onset_Of.calls k A c l name last _ _ w hC hc hk
theorem wres_on {y m kd wk d x : Int} {w : World} (h : resV y m kd wk d = (x, 0)) : Calls Try.prog 16 #[.int .i64 y, .int .i64 m, .agg #[.int .i64 kd, .int .i64 wk, .int .i64 d]] w (Rets w (.tuple #[.int .i64 x, .int .i64 0])) := by
  have e := wres y m kd wk d
  rw [h] at e
  obtain ⟨k, hk⟩ := e.rounds
  exact week_Resolve.calls k y m kd wk d _ _ w hk
theorem rres_on {y m kd wk d : Int} {w : World} (ho : OnR kd wk d) (h1 : 1 ≤ y) (h2 : y ≤ 9999) : Calls Try.prog 17 #[.int .i64 y, .int .i64 m, .agg #[.int .i64 kd, .int .i64 wk, .int .i64 d]] w (Rets w (.tuple #[.int .i64 (rresV y m kd wk d).1, .bool (rresV y m kd wk d).2])) := by
  obtain ⟨k, hk⟩ := (rres (m := m) ho h1 h2).rounds
  exact solsticeref01_Resolve.calls k y m kd wk d _ _ w hk
theorem wakes_on {w : World} : Calls Try.prog 11 #[] w (Rets w (.bool true)) := by
  obtain ⟨k, hk⟩ := wakes13.rounds
  exact solsticelaw13_wakes.calls k true w rfl hk
theorem on39 (r : S43) : ∀ (j : Nat) (v : Value), ([.int .i64 r.f4.f0, .int .i64 r.f4.f1, .int .i64 r.f4.f2] : List Value)[j]? = some v → (enc43 r).toArray[4 + j]? = some v
  | 0, _, h => h
  | 1, _, h => h
  | 2, _, h => h
  | _ + 3, _, h => by simp at h
theorem on39b (r : S43) : ∀ (j : Nat) (v : Value), ([.int .i64 r.f4.f0, .int .i64 r.f4.f1, .int .i64 r.f4.f2] : List Value)[j]? = some v → (enc43 r)[4 + j]? = some v
  | 0, _, h => h
  | 1, _, h => h
  | 2, _, h => h
  | _ + 3, _, h => by simp at h
theorem on_no {L : List (Nat × Obj)} {w0 W : World} (h : On L w0 W) : On [] w0 W := ⟨h.bl, fun k g o e => by simp at e, List.nodup_nil⟩
theorem thb_ {id : Nat} {R' : Act → World → Prop} {Q : Exit → Act → World → Prop} {a : Act} {w : World} (h : R' a w) : Exit.inBlock id (Exit.then R' Q) .normal a w := h
/-- What the law asks of one onset and the one ahead of it. -/
theorem rise_at {k : List S37} (h : k.Pairwise rise37) {i : Nat} (hi : i < k.length) (h0 : 0 < i) : rise37 (k[i - 1]'(by omega)) k[i] := (List.pairwise_iff_getElem.1 h) (i - 1) i (by omega) hi (by omega)
theorem pre_i {i n : Nat} (hi : i < n) (h : 0 < i) (hn : n ≤ 4611686018427387904) : wrap64 ((i : Int) - 1) = ((i - 1 : Nat) : Int) := by rw [w64 (by omega) (by omega)]; omega
def r9.T : Bool × List (List Nat × List Nat) := (true, [([], []), ([0], [0]), ([1], [1]), ([2], [2]), ([2], [2]), ([3, 4, 2], [2, 3, 4]), ([5, 2], [2, 5]), ([6, 2], [2, 6]), ([2], [2]), ([2], [2]), ([9, 2], [2, 9]), ([8, 10, 2], [2, 8, 10]), ([11, 2], [2, 11]), ([12, 2], [2, 12]), ([7, 13, 2], [2, 7, 13]), ([14, 2, 2], [2, 14]), ([15], [15]), ([15], [15]), ([16, 17, 15], [15, 16, 17]), ([18, 15], [15, 18]), ([19, 15], [15, 19]), ([15], [15]), ([15], [15]), ([22, 15], [15, 22]), ([21, 23, 15], [15, 21, 23]), ([24, 15], [15, 24]), ([25, 15], [15, 25]), ([20, 26, 15], [15, 20, 26]), ([27, 15, 15], [15, 27]), ([28], [28]), ([28], [28]), ([29, 30, 28], [28, 29, 30]), ([31, 28], [28, 31]), ([32, 28], [28, 32]), ([28], [28]), ([28], [28]), ([35, 28], [28, 35]), ([34, 36, 28], [28, 34, 36]), ([37, 28], [28, 37]), ([38, 28], [28, 38]), ([33, 39, 28], [28, 33, 39]), ([40, 28, 28], [28, 40]), ([41], [41]), ([41], [41]), ([42, 43, 41], [41, 42, 43]), ([44, 41], [41, 44]), ([45, 41], [41, 45]), ([41], [41]), ([41], [41]), ([48, 41], [41, 48]), ([47, 49, 41], [41, 47, 49]), ([50, 41], [41, 50]), ([51, 41], [41, 51]), ([46, 52, 41], [41, 46, 52]), ([53, 41, 41], [41, 53]), ([54], [54]), ([54], [54]), ([55, 56, 54], [54, 55, 56]), ([57, 54], [54, 57]), ([58, 54], [54, 58]), ([54], [54]), ([54], [54]), ([61, 54], [54, 61]), ([60, 62, 54], [54, 60, 62]), ([63, 54], [54, 63]), ([64, 54], [54, 64]), ([59, 65, 54], [54, 59, 65]), ([54, 66, 41], [41, 54, 66]), ([41, 67, 28], [28, 41, 67]), ([28, 68, 15], [15, 28, 68]), ([15, 69, 2], [2, 15, 69]), ([2, 70], [2, 70])])
def r9.B : List Nat := [0, 1, 3, 7, 7, 31, 63, 127, 7, 7, 519, 1799, 3847, 7943, 16383, 32767, 65535, 65535, 262143, 524287, 1048575, 65535, 65535, 4259839, 14745599, 31522815, 65077247, 134217727, 268435455, 536870911, 536870911, 2147483647, 4294967295, 8589934591, 536870911, 536870911, 34896609279, 120795955199, 258234908671, 533112815615, 1099511627775, 2199023255551, 4398046511103, 4398046511103, 17592186044415, 35184372088831, 70368744177663, 4398046511103, 4398046511103, 285873023221759, 989560464998399, 2115460371841023, 4367260185526271, 9007199254740991, 18014398509481983, 36028797018963967, 36028797018963967, 144115188075855871, 288230376151711743, 576460752303423487, 36028797018963967, 36028797018963967, 2341871806232657919, 8106479329266892799, 17329851366121668607, 35776595439831220223, 73786976294838206463, 147573952589676412927, 295147905179352825855, 590295810358705651711, 1180591620717411303423, 2361183241434822606847]
theorem r9.tab : rtab .any (opsOf Try.f4 9) = r9.T := by kernel_rfl
theorem r9.bits : waitsOk r9.T.2 r9.B = true := by kernel_rfl
def r15.T : Bool × List (List Nat × List Nat) := (true, [([], []), ([0], [0]), ([], []), ([1, 2], [1, 2]), ([3], [3]), ([4], [4]), ([4], [4]), ([5, 6, 4], [4, 5, 6]), ([7, 4], [4, 7]), ([8, 4], [4, 8]), ([4], [4]), ([10, 4], [4, 10]), ([9, 11, 4], [4, 9, 11]), ([4, 12], [4, 12]), ([13, 4], [13]), ([14], [14]), ([14], [14]), ([15, 16, 14], [14, 15, 16]), ([17, 14], [14, 17]), ([18, 14], [14, 18]), ([14], [14]), ([20, 14], [14, 20]), ([14], [14]), ([21, 22, 14], [14, 21, 22]), ([19, 23, 14], [14, 19, 23]), ([14, 24], [14, 24]), ([25, 14], [25]), ([26], [26]), ([27, 26], [26, 27]), ([26, 28], [26, 28]), ([29, 26], [29]), ([30], [30]), ([30], [30]), ([31, 32, 30], [30, 31, 32]), ([33, 30], [30, 33]), ([34, 30], [30, 34]), ([30], [30]), ([36, 30], [30, 36]), ([30], [30]), ([38, 30], [30, 38]), ([39, 30], [30, 39]), ([37, 40, 30], [30, 37, 40]), ([35, 41, 30], [30, 35, 41]), ([30, 42], [30, 42])])
def r15.B : List Nat := [0, 1, 0, 7, 15, 31, 31, 127, 255, 511, 31, 1055, 4095, 8191, 16383, 32767, 32767, 131071, 262143, 524287, 32767, 1081343, 32767, 7372799, 16777215, 33554431, 67108863, 134217727, 268435455, 536870911, 1073741823, 2147483647, 2147483647, 8589934591, 17179869183, 34359738367, 2147483647, 70866960383, 2147483647, 277025390591, 826781204479, 2132451262463, 4398046511103, 8796093022207]
theorem r15.tab : rtab .any (opsOf Try.f4 15) = r15.T := by kernel_rfl
theorem r15.bits : waitsOk r15.T.2 r15.B = true := by kernel_rfl
theorem OnsetRises_on {w : World} {A : Option Addr} {c : Nat} {l : List S43} {name : ByteArray} {last : Int} (hC : Kd.C k43 w A l.length l) (hc : l.length ≤ c) : Calls Try.prog 4 #[.slice A l.length c, .string name, .int .i64 last] w (Rets w (.bool true)) := by
  have fl : Try.prog.follows .mixedOrders = true := by kernel_rfl
  obtain ⟨hv, Hv, hvl⟩ := heavy_on l
  refine en_ Try.func4 rfl rfl rfl fun a K => sr_ (run_ 1 K rfl fun a K => nil_ (wp_seq (sr_ ?_)))
  refine run_ 1 K rfl fun a K => cl_ K Try.func7 (by kernel_rfl) rfl rfl rfl rfl rfl rfl ((Hv _ A c hC hc).mono ?_)
  rintro _ w1 ⟨rfl, b1⟩
  have M := (On.nil w).call b1
  refine ⟨_, rfl, fun a K => ?_⟩
  cases hv with
  | true => exact run_ 18 K rfl fun a K => nil_ (ct_ K rfl rfl (sr_ (run_ 1 K rfl fun a K => nil_ (ret_ rfl K rfl ⟨rfl, M.bl⟩))))
  | false =>
  have h300 := hvl rfl
  obtain ⟨rt, Rt_, rok⟩ := right_on l h300
  refine run_ 2 K rfl fun a K => cl_ K Try.func12 (by kernel_rfl) rfl rfl rfl rfl rfl rfl ((Rt_ _ A c (Kd.C_below hC M.bl) hc).mono ?_)
  rintro _ w2 ⟨rfl, b2⟩
  replace M := M.call b2
  refine ⟨_, rfl, fun a K => ?_⟩
  cases rt with
  | false => exact run_ 15 K rfl fun a K => nil_ (ct_ K rfl rfl (sr_ (run_ 1 K rfl fun a K => nil_ (ret_ rfl K rfl ⟨rfl, M.bl⟩))))
  | true =>
  have hok := rok rfl
  refine run_ 8 K rfl fun a K => ?_
  by_cases h200 : (200 : Int) < (l.length : Int)
  case pos => exact run_ 7 (fx_ K (decide_eq_true h200)) rfl fun a K => nil_ (ct_ K rfl rfl (sr_ (run_ 1 K rfl fun a K => nil_ (ret_ rfl K rfl ⟨rfl, M.bl⟩))))
  refine run_ 4 (fx_ K (decide_eq_false h200)) rfl fun a K => ?_
  by_cases hl1 : last < 1
  case pos => exact run_ 3 (fx_ K (decide_eq_true hl1)) rfl fun a K => nil_ (ct_ K rfl rfl (sr_ (run_ 1 K rfl fun a K => nil_ (ret_ rfl K rfl ⟨rfl, M.bl⟩))))
  refine run_ 3 (fx_ K (decide_eq_false hl1)) rfl fun a K => nil_ ?_
  by_cases hl2 : 9999 < last
  case pos => exact ct_ K rfl (decide_eq_true hl2) (sr_ (run_ 1 K rfl fun a K => nil_ (ret_ rfl K rfl ⟨rfl, M.bl⟩)))
  have hl43 : l.length ≤ 4611686018427387904 := by omega
  refine cs_ K rfl (decide_eq_false hl2) (sr_ (run_ 3 K rfl fun a K => cl_ K Try.func8 (by kernel_rfl) rfl rfl rfl rfl rfl rfl ((of_on name l (by omega) (by omega) (by omega) hok (Kd.C_below hC M.bl) hc).mono ?_)))
  rintro _ w3 ⟨v, rfl, R, b3⟩
  replace M := M.call b3
  obtain ⟨A2, c2, ev, hk2, C2⟩ := Kd.R_reads R
  subst ev
  have hmem : ∀ r ∈ l, RuleOk r := fun r hr => by
    obtain ⟨j, hj, rfl⟩ := List.getElem_of_mem hr
    exact hok j hj
  obtain ⟨rise, mem⟩ := onsets_rise name last l
  have hlen : (srt37 (gen name last l 0)).length = cntL name last l := ((srt37_perm _).length_eq).trans (gen_cnt name last l 0)
  have hcl := cntL_le name last l hmem
  generalize srt37 (gen name last l 0) = k at rise mem hlen C2 hk2 ⊢
  have hn : k.length ≤ 4611686018427387904 := by omega
  have C1 := Kd.C_below hC M.bl
  have B0 := M.bl
  have fin : ∀ {V : World}, Below w3.heap.size w3 V → Below w.heap.size w V := fun q => below_step B0 q
  clear M
  have M := On.nil w3
  refine ⟨_, rfl, fun a K => run_ 5 K rfl fun a K => nil_ (wp_seq (sr_ (run_ 2 K rfl fun a K => nil_ (cs_ K rfl rfl (wp_seq (sr_ (run_ 1 K rfl fun a K => nil_ ?_)))))))⟩
  refine wp_block (wp_loop (fun a W => ∃ i : Nat, i ≤ k.length ∧ Kn 262 [(9, .int .i64 (i : Int)), (7, .slice A2 k.length c2), (2, .int .i64 last), (1, .string name), (0, .slice A l.length c)] a ∧ On [] w3 W) (fun a _ => leftN 9 k.length a) ⟨0, Nat.zero_le _, fg_ K ⟨rfl, rfl, rfl, rfl, rfl, trivial⟩, M⟩ ?_)
  clear K M a
  rintro a W ⟨i, hi, K, M⟩
  refine wp_seq (sr_ (run_ 4 K rfl fun a2 K2 => nil_ ?_))
  by_cases hc1 : i < k.length
  case pos =>
    clear hi
    have hi := hc1
    have hp0 : 0 < k.length := Nat.lt_of_le_of_lt (Nat.zero_le _) hc1
    obtain ⟨g2, b2, eA2, hat⟩ := at37 C2 hp0
    subst eA2
    have enx := kp_inc hi hn
    refine ck_ K2 rfl (kp_lt hi) (wp_seq (bjn_ (fun a' W' => Kn 262 [(9, .int .i64 (i : Int)), (7, .slice (some ⟨g2, b2, none⟩) k.length c2), (2, .int .i64 last), (1, .string name), (0, .slice A l.length c)] a' ∧ On [] w3 W') (wp_seq ?_) ?_))
    case refine_2 =>
      rintro a' W' ⟨K', M'⟩
      refine rg_ (run_ 3 K' rfl fun a5 K5 => nl_ ⟨⟨i + 1, hi, fg_ (ks_ (i := 9) K5 rfl (congrArg (Value.int .i64) enx)) ⟨rfl, rfl, rfl, rfl, rfl, trivial⟩, M'⟩, ?_⟩)
      rw [leftN_ (d := 9) K5 rfl, leftN_ (d := 9) K rfl, enx]
      exact leftN_lt hi
    replace K := fg_ (E' := [(9, .int .i64 (i : Int)), (7, .slice (some ⟨g2, b2, none⟩) k.length c2), (2, .int .i64 last), (1, .string name), (0, .slice A l.length c)]) K2 ⟨rfl, rfl, rfl, rfl, rfl, trivial⟩
    clear K2
    have xi : ∀ V, On [] w3 V → ∀ (j : Nat) (v : Value), (cel37 k[i])[j]? = some v → V.cell? ⟨g2, b2 + i * 3 + j, none⟩ = some v := fun V hV j v h => cell_on hV (hat i hi j v h)
    obtain ⟨j, hjl, q0, qn, qf, qt, qr, qs⟩ := mem _ (List.getElem_mem hi)
    have rs : 0 < i → rise37 (k[i - 1]'(Nat.lt_of_le_of_lt (Nat.sub_le _ _) hi)) k[i] := rise_at rise hi
    refine sj_ (fun a' W' => Kn 262 [(124, .bool false), (9, .int .i64 (i : Int)), (7, .slice (some ⟨g2, b2, none⟩) k.length c2), (2, .int .i64 last), (1, .string name), (0, .slice A l.length c)] a' ∧ On [] w3 W') ?_ ?_
    · by_cases i0 : 0 < i
      case neg =>
        as_aux_lemma =>
          have e0 : decide (0 < (i : Int)) = false := decide_eq_false (by omega)
          refine draw_ fl rfl rfl M.drew ( with_tabW r9.tab r9.bits fun HT HW => dp_ 7 69 [0, 1, 2] K rfl rfl (anyS_of HT.out _ _ _ (by kernel_rfl)) fun a K => dp_ 4722366482869645213695 0 [3, 4, 5, 6, 7, 8, 9, 10, 11, 12, 13, 14, 15, 16, 17, 18, 19, 20, 21, 22, 23, 24, 25, 26, 27, 28, 29, 30, 31, 32, 33, 34, 35, 36, 37, 38, 39, 40, 41, 42, 43, 44, 45, 46, 47, 48, 49, 50, 51, 52, 53, 54, 55, 56, 57, 58, 59, 60, 61, 62, 63, 64, 65, 66, 67, 68, 69, 70, 71] (fx_ K e0) rfl rfl (anyS_of HT.out _ _ _ (by kernel_rfl)) fun a K => dend_ (done_of HT.out (by kernel_rfl)) ?_)
          exact ⟨fg_ K ⟨rfl, rfl, rfl, rfl, rfl, rfl, trivial⟩, M.drew⟩
      case pos =>
        have e0 : decide (0 < (i : Int)) = true := decide_eq_true (Int.ofNat_lt.2 i0)
        have hj : i - 1 < k.length := Nat.lt_of_le_of_lt (Nat.sub_le _ _) hi
        have xj : ∀ V, On [] w3 V → ∀ (j : Nat) (v : Value), (cel37 k[i - 1])[j]? = some v → V.cell? ⟨g2, b2 + (i - 1) * 3 + j, none⟩ = some v := fun V hV j v h => cell_on hV (hat (i - 1) hj j v h)
        have ei := pre_i hi i0 hn
        have rs := rs i0
        clear mem rise
        generalize k[i] = q at xi rs
        generalize k[i - 1] = p at xj rs
        have xi0 := fun V hV => xi V hV 0 _ rfl
        have xi1 := fun V hV => xi V hV 1 _ rfl
        have xi2 := fun V hV => xi V hV 2 _ rfl
        have xj0 := fun V hV => xj V hV 0 _ rfl
        have xj1 := fun V hV => xj V hV 1 _ rfl
        have xj2 := fun V hV => xj V hV 2 _ rfl
        clear xi xj hat
        rcases rs with r1 | ⟨r1, r2 | ⟨r2, r3⟩⟩
        · have e1 : decide (q.f2 < p.f2) = false := decide_eq_false (by omega)
          as_aux_lemma =>
            have e2 : decide (q.f2 = p.f2) = false := decide_eq_false (by omega)
            refine draw_ fl rfl rfl M.drew ( with_tabW r9.tab r9.bits fun HT HW => dp_ 7 69 [0, 1, 2] K rfl rfl (anyS_of HT.out _ _ _ (by kernel_rfl)) fun a K => dp_ 1823 64 [3, 4, 8, 9, 10] (fx_ K e0) rfl rfl (anyS_of HT.out _ _ _ (by kernel_rfl)) fun a K => dt_ 1855 5 K M.drew rfl rfl rfl rfl (take_ofW HT.out HW.out (by kernel_rfl)) (fun W hW => run_ix24 (kk := i) hi hn rfl (K.of (x := .tmp 56) rfl) (K.of (x := .tmp 57) rfl)) fun a K => dp_ 1919 62 [6] K rfl rfl (anyS_of HT.out _ _ _ (by kernel_rfl)) fun a K => dt_ 2047 7 K M.drew rfl rfl rfl rfl (take_ofW HT.out HW.out (by kernel_rfl)) (fun W hW => run_ld rfl rfl (K.of (x := .tmp 59) rfl) (xi2 W hW)) fun a K => dt_ 4095 11 K M.drew rfl rfl rfl rfl (take_ofW HT.out HW.out (by kernel_rfl)) (fun W hW => run_ix24 (kk := i - 1) hj hn rfl (K.of (x := .tmp 61) rfl) ((K.of (x := .tmp 63) rfl).trans (congrArg (Value.int .i64) ei))) fun a K => dp_ 8191 59 [12] K rfl rfl (anyS_of HT.out _ _ _ (by kernel_rfl)) fun a K => dt_ 16383 13 K M.drew rfl rfl rfl rfl (take_ofW HT.out HW.out (by kernel_rfl)) (fun W hW => run_ld rfl rfl (K.of (x := .tmp 65) rfl) (xj2 W hW)) fun a K => dp_ 65535 56 [14, 15] K rfl rfl (anyS_of HT.out _ _ _ (by kernel_rfl)) fun a K => dp_ 14942207 51 [16, 17, 21, 22, 23] (fx_ K e1) rfl rfl (anyS_of HT.out _ _ _ (by kernel_rfl)) fun a K => dt_ 15204351 18 K M.drew rfl rfl rfl rfl (take_ofW HT.out HW.out (by kernel_rfl)) (fun W hW => run_ix24 (kk := i) hi hn rfl (K.of (x := .tmp 69) rfl) (K.of (x := .tmp 70) rfl)) fun a K => dp_ 15728639 49 [19] K rfl rfl (anyS_of HT.out _ _ _ (by kernel_rfl)) fun a K => dt_ 16777215 20 K M.drew rfl rfl rfl rfl (take_ofW HT.out HW.out (by kernel_rfl)) (fun W hW => run_ld rfl rfl (K.of (x := .tmp 72) rfl) (xi2 W hW)) fun a K => dt_ 33554431 24 K M.drew rfl rfl rfl rfl (take_ofW HT.out HW.out (by kernel_rfl)) (fun W hW => run_ix24 (kk := i - 1) hj hn rfl (K.of (x := .tmp 74) rfl) ((K.of (x := .tmp 76) rfl).trans (congrArg (Value.int .i64) ei))) fun a K => dp_ 67108863 46 [25] K rfl rfl (anyS_of HT.out _ _ _ (by kernel_rfl)) fun a K => dt_ 134217727 26 K M.drew rfl rfl rfl rfl (take_ofW HT.out HW.out (by kernel_rfl)) (fun W hW => run_ld rfl rfl (K.of (x := .tmp 78) rfl) (xj2 W hW)) fun a K => dp_ 536870911 43 [27, 28] K rfl rfl (anyS_of HT.out _ _ _ (by kernel_rfl)) fun a K => dp_ 4722366482869645213695 0 [29, 30, 31, 32, 33, 34, 35, 36, 37, 38, 39, 40, 41, 42, 43, 44, 45, 46, 47, 48, 49, 50, 51, 52, 53, 54, 55, 56, 57, 58, 59, 60, 61, 62, 63, 64, 65, 66, 67, 68, 69, 70, 71] (fx_ K e2) rfl rfl (anyS_of HT.out _ _ _ (by kernel_rfl)) fun a K => dend_ (done_of HT.out (by kernel_rfl)) ?_)
            exact ⟨fg_ K ⟨rfl, rfl, rfl, rfl, rfl, rfl, trivial⟩, M.drew⟩
        · have e1 : decide (q.f2 < p.f2) = false := decide_eq_false (by omega)
          as_aux_lemma =>
            have e2 : decide (q.f2 = p.f2) = true := decide_eq_true r1.symm
            have e3 : decide (q.f0 < p.f0) = false := decide_eq_false (by omega)
            have e4 : decide (q.f0 = p.f0) = false := decide_eq_false (by omega)
            refine draw_ fl rfl rfl M.drew ( with_tabW r9.tab r9.bits fun HT HW => dp_ 7 69 [0, 1, 2] K rfl rfl (anyS_of HT.out _ _ _ (by kernel_rfl)) fun a K => dp_ 1823 64 [3, 4, 8, 9, 10] (fx_ K e0) rfl rfl (anyS_of HT.out _ _ _ (by kernel_rfl)) fun a K => dt_ 1855 5 K M.drew rfl rfl rfl rfl (take_ofW HT.out HW.out (by kernel_rfl)) (fun W hW => run_ix24 (kk := i) hi hn rfl (K.of (x := .tmp 56) rfl) (K.of (x := .tmp 57) rfl)) fun a K => dp_ 1919 62 [6] K rfl rfl (anyS_of HT.out _ _ _ (by kernel_rfl)) fun a K => dt_ 2047 7 K M.drew rfl rfl rfl rfl (take_ofW HT.out HW.out (by kernel_rfl)) (fun W hW => run_ld rfl rfl (K.of (x := .tmp 59) rfl) (xi2 W hW)) fun a K => dt_ 4095 11 K M.drew rfl rfl rfl rfl (take_ofW HT.out HW.out (by kernel_rfl)) (fun W hW => run_ix24 (kk := i - 1) hj hn rfl (K.of (x := .tmp 61) rfl) ((K.of (x := .tmp 63) rfl).trans (congrArg (Value.int .i64) ei))) fun a K => dp_ 8191 59 [12] K rfl rfl (anyS_of HT.out _ _ _ (by kernel_rfl)) fun a K => dt_ 16383 13 K M.drew rfl rfl rfl rfl (take_ofW HT.out HW.out (by kernel_rfl)) (fun W hW => run_ld rfl rfl (K.of (x := .tmp 65) rfl) (xj2 W hW)) fun a K => dp_ 65535 56 [14, 15] K rfl rfl (anyS_of HT.out _ _ _ (by kernel_rfl)) fun a K => dp_ 14942207 51 [16, 17, 21, 22, 23] (fx_ K e1) rfl rfl (anyS_of HT.out _ _ _ (by kernel_rfl)) fun a K => dt_ 15204351 18 K M.drew rfl rfl rfl rfl (take_ofW HT.out HW.out (by kernel_rfl)) (fun W hW => run_ix24 (kk := i) hi hn rfl (K.of (x := .tmp 69) rfl) (K.of (x := .tmp 70) rfl)) fun a K => dp_ 15728639 49 [19] K rfl rfl (anyS_of HT.out _ _ _ (by kernel_rfl)) fun a K => dt_ 16777215 20 K M.drew rfl rfl rfl rfl (take_ofW HT.out HW.out (by kernel_rfl)) (fun W hW => run_ld rfl rfl (K.of (x := .tmp 72) rfl) (xi2 W hW)) fun a K => dt_ 33554431 24 K M.drew rfl rfl rfl rfl (take_ofW HT.out HW.out (by kernel_rfl)) (fun W hW => run_ix24 (kk := i - 1) hj hn rfl (K.of (x := .tmp 74) rfl) ((K.of (x := .tmp 76) rfl).trans (congrArg (Value.int .i64) ei))) fun a K => dp_ 67108863 46 [25] K rfl rfl (anyS_of HT.out _ _ _ (by kernel_rfl)) fun a K => dt_ 134217727 26 K M.drew rfl rfl rfl rfl (take_ofW HT.out HW.out (by kernel_rfl)) (fun W hW => run_ld rfl rfl (K.of (x := .tmp 78) rfl) (xj2 W hW)) fun a K => dp_ 536870911 43 [27, 28] K rfl rfl (anyS_of HT.out _ _ _ (by kernel_rfl)) fun a K => dp_ 122406567935 38 [29, 30, 34, 35, 36] (fx_ K e2) rfl rfl (anyS_of HT.out _ _ _ (by kernel_rfl)) fun a K => dt_ 124554051583 31 K M.drew rfl rfl rfl rfl (take_ofW HT.out HW.out (by kernel_rfl)) (fun W hW => run_ix24 (kk := i) hi hn rfl (K.of (x := .tmp 82) rfl) (K.of (x := .tmp 83) rfl)) fun a K => dp_ 128849018879 36 [32] K rfl rfl (anyS_of HT.out _ _ _ (by kernel_rfl)) fun a K => dt_ 137438953471 33 K M.drew rfl rfl rfl rfl (take_ofW HT.out HW.out (by kernel_rfl)) (fun W hW => run_ld rfl rfl (K.of (x := .tmp 85) rfl) (xi0 W hW)) fun a K => dt_ 274877906943 37 K M.drew rfl rfl rfl rfl (take_ofW HT.out HW.out (by kernel_rfl)) (fun W hW => run_ix24 (kk := i - 1) hj hn rfl (K.of (x := .tmp 87) rfl) ((K.of (x := .tmp 89) rfl).trans (congrArg (Value.int .i64) ei))) fun a K => dp_ 549755813887 33 [38] K rfl rfl (anyS_of HT.out _ _ _ (by kernel_rfl)) fun a K => dt_ 1099511627775 39 K M.drew rfl rfl rfl rfl (take_ofW HT.out HW.out (by kernel_rfl)) (fun W hW => run_ld rfl rfl (K.of (x := .tmp 91) rfl) (xj0 W hW)) fun a K => dp_ 4398046511103 30 [40, 41] K rfl rfl (anyS_of HT.out _ _ _ (by kernel_rfl)) fun a K => dp_ 1002754604531711 25 [42, 43, 47, 48, 49] (fx_ K e3) rfl rfl (anyS_of HT.out _ _ _ (by kernel_rfl)) fun a K => dt_ 1020346790576127 44 K M.drew rfl rfl rfl rfl (take_ofW HT.out HW.out (by kernel_rfl)) (fun W hW => run_ix24 (kk := i) hi hn rfl (K.of (x := .tmp 95) rfl) (K.of (x := .tmp 96) rfl)) fun a K => dp_ 1055531162664959 23 [45] K rfl rfl (anyS_of HT.out _ _ _ (by kernel_rfl)) fun a K => dt_ 1125899906842623 46 K M.drew rfl rfl rfl rfl (take_ofW HT.out HW.out (by kernel_rfl)) (fun W hW => run_ld rfl rfl (K.of (x := .tmp 98) rfl) (xi0 W hW)) fun a K => dt_ 2251799813685247 50 K M.drew rfl rfl rfl rfl (take_ofW HT.out HW.out (by kernel_rfl)) (fun W hW => run_ix24 (kk := i - 1) hj hn rfl (K.of (x := .tmp 100) rfl) ((K.of (x := .tmp 102) rfl).trans (congrArg (Value.int .i64) ei))) fun a K => dp_ 4503599627370495 20 [51] K rfl rfl (anyS_of HT.out _ _ _ (by kernel_rfl)) fun a K => dt_ 9007199254740991 52 K M.drew rfl rfl rfl rfl (take_ofW HT.out HW.out (by kernel_rfl)) (fun W hW => run_ld rfl rfl (K.of (x := .tmp 104) rfl) (xj0 W hW)) fun a K => dp_ 36028797018963967 17 [53, 54] K rfl rfl (anyS_of HT.out _ _ _ (by kernel_rfl)) fun a K => dp_ 4722366482869645213695 0 [55, 56, 57, 58, 59, 60, 61, 62, 63, 64, 65, 66, 67, 68, 69, 70, 71] (fx_ K e4) rfl rfl (anyS_of HT.out _ _ _ (by kernel_rfl)) fun a K => dend_ (done_of HT.out (by kernel_rfl)) ?_)
            exact ⟨fg_ K ⟨rfl, rfl, rfl, rfl, rfl, rfl, trivial⟩, M.drew⟩
        · have e1 : decide (q.f2 < p.f2) = false := decide_eq_false (by omega)
          as_aux_lemma =>
            have e2 : decide (q.f2 = p.f2) = true := decide_eq_true r1.symm
            have e3 : decide (q.f0 < p.f0) = false := decide_eq_false (by omega)
            have e4 : decide (q.f0 = p.f0) = true := decide_eq_true r2.symm
            have e5 : decide (q.f1 ≤ p.f1) = false := decide_eq_false (by omega)
            refine draw_ fl rfl rfl M.drew ( with_tabW r9.tab r9.bits fun HT HW => dp_ 7 69 [0, 1, 2] K rfl rfl (anyS_of HT.out _ _ _ (by kernel_rfl)) fun a K => dp_ 1823 64 [3, 4, 8, 9, 10] (fx_ K e0) rfl rfl (anyS_of HT.out _ _ _ (by kernel_rfl)) fun a K => dt_ 1855 5 K M.drew rfl rfl rfl rfl (take_ofW HT.out HW.out (by kernel_rfl)) (fun W hW => run_ix24 (kk := i) hi hn rfl (K.of (x := .tmp 56) rfl) (K.of (x := .tmp 57) rfl)) fun a K => dp_ 1919 62 [6] K rfl rfl (anyS_of HT.out _ _ _ (by kernel_rfl)) fun a K => dt_ 2047 7 K M.drew rfl rfl rfl rfl (take_ofW HT.out HW.out (by kernel_rfl)) (fun W hW => run_ld rfl rfl (K.of (x := .tmp 59) rfl) (xi2 W hW)) fun a K => dt_ 4095 11 K M.drew rfl rfl rfl rfl (take_ofW HT.out HW.out (by kernel_rfl)) (fun W hW => run_ix24 (kk := i - 1) hj hn rfl (K.of (x := .tmp 61) rfl) ((K.of (x := .tmp 63) rfl).trans (congrArg (Value.int .i64) ei))) fun a K => dp_ 8191 59 [12] K rfl rfl (anyS_of HT.out _ _ _ (by kernel_rfl)) fun a K => dt_ 16383 13 K M.drew rfl rfl rfl rfl (take_ofW HT.out HW.out (by kernel_rfl)) (fun W hW => run_ld rfl rfl (K.of (x := .tmp 65) rfl) (xj2 W hW)) fun a K => dp_ 65535 56 [14, 15] K rfl rfl (anyS_of HT.out _ _ _ (by kernel_rfl)) fun a K => dp_ 14942207 51 [16, 17, 21, 22, 23] (fx_ K e1) rfl rfl (anyS_of HT.out _ _ _ (by kernel_rfl)) fun a K => dt_ 15204351 18 K M.drew rfl rfl rfl rfl (take_ofW HT.out HW.out (by kernel_rfl)) (fun W hW => run_ix24 (kk := i) hi hn rfl (K.of (x := .tmp 69) rfl) (K.of (x := .tmp 70) rfl)) fun a K => dp_ 15728639 49 [19] K rfl rfl (anyS_of HT.out _ _ _ (by kernel_rfl)) fun a K => dt_ 16777215 20 K M.drew rfl rfl rfl rfl (take_ofW HT.out HW.out (by kernel_rfl)) (fun W hW => run_ld rfl rfl (K.of (x := .tmp 72) rfl) (xi2 W hW)) fun a K => dt_ 33554431 24 K M.drew rfl rfl rfl rfl (take_ofW HT.out HW.out (by kernel_rfl)) (fun W hW => run_ix24 (kk := i - 1) hj hn rfl (K.of (x := .tmp 74) rfl) ((K.of (x := .tmp 76) rfl).trans (congrArg (Value.int .i64) ei))) fun a K => dp_ 67108863 46 [25] K rfl rfl (anyS_of HT.out _ _ _ (by kernel_rfl)) fun a K => dt_ 134217727 26 K M.drew rfl rfl rfl rfl (take_ofW HT.out HW.out (by kernel_rfl)) (fun W hW => run_ld rfl rfl (K.of (x := .tmp 78) rfl) (xj2 W hW)) fun a K => dp_ 536870911 43 [27, 28] K rfl rfl (anyS_of HT.out _ _ _ (by kernel_rfl)) fun a K => dp_ 122406567935 38 [29, 30, 34, 35, 36] (fx_ K e2) rfl rfl (anyS_of HT.out _ _ _ (by kernel_rfl)) fun a K => dt_ 124554051583 31 K M.drew rfl rfl rfl rfl (take_ofW HT.out HW.out (by kernel_rfl)) (fun W hW => run_ix24 (kk := i) hi hn rfl (K.of (x := .tmp 82) rfl) (K.of (x := .tmp 83) rfl)) fun a K => dp_ 128849018879 36 [32] K rfl rfl (anyS_of HT.out _ _ _ (by kernel_rfl)) fun a K => dt_ 137438953471 33 K M.drew rfl rfl rfl rfl (take_ofW HT.out HW.out (by kernel_rfl)) (fun W hW => run_ld rfl rfl (K.of (x := .tmp 85) rfl) (xi0 W hW)) fun a K => dt_ 274877906943 37 K M.drew rfl rfl rfl rfl (take_ofW HT.out HW.out (by kernel_rfl)) (fun W hW => run_ix24 (kk := i - 1) hj hn rfl (K.of (x := .tmp 87) rfl) ((K.of (x := .tmp 89) rfl).trans (congrArg (Value.int .i64) ei))) fun a K => dp_ 549755813887 33 [38] K rfl rfl (anyS_of HT.out _ _ _ (by kernel_rfl)) fun a K => dt_ 1099511627775 39 K M.drew rfl rfl rfl rfl (take_ofW HT.out HW.out (by kernel_rfl)) (fun W hW => run_ld rfl rfl (K.of (x := .tmp 91) rfl) (xj0 W hW)) fun a K => dp_ 4398046511103 30 [40, 41] K rfl rfl (anyS_of HT.out _ _ _ (by kernel_rfl)) fun a K => dp_ 1002754604531711 25 [42, 43, 47, 48, 49] (fx_ K e3) rfl rfl (anyS_of HT.out _ _ _ (by kernel_rfl)) fun a K => dt_ 1020346790576127 44 K M.drew rfl rfl rfl rfl (take_ofW HT.out HW.out (by kernel_rfl)) (fun W hW => run_ix24 (kk := i) hi hn rfl (K.of (x := .tmp 95) rfl) (K.of (x := .tmp 96) rfl)) fun a K => dp_ 1055531162664959 23 [45] K rfl rfl (anyS_of HT.out _ _ _ (by kernel_rfl)) fun a K => dt_ 1125899906842623 46 K M.drew rfl rfl rfl rfl (take_ofW HT.out HW.out (by kernel_rfl)) (fun W hW => run_ld rfl rfl (K.of (x := .tmp 98) rfl) (xi0 W hW)) fun a K => dt_ 2251799813685247 50 K M.drew rfl rfl rfl rfl (take_ofW HT.out HW.out (by kernel_rfl)) (fun W hW => run_ix24 (kk := i - 1) hj hn rfl (K.of (x := .tmp 100) rfl) ((K.of (x := .tmp 102) rfl).trans (congrArg (Value.int .i64) ei))) fun a K => dp_ 4503599627370495 20 [51] K rfl rfl (anyS_of HT.out _ _ _ (by kernel_rfl)) fun a K => dt_ 9007199254740991 52 K M.drew rfl rfl rfl rfl (take_ofW HT.out HW.out (by kernel_rfl)) (fun W hW => run_ld rfl rfl (K.of (x := .tmp 104) rfl) (xj0 W hW)) fun a K => dp_ 36028797018963967 17 [53, 54] K rfl rfl (anyS_of HT.out _ _ _ (by kernel_rfl)) fun a K => dp_ 8214565720323784703 12 [55, 56, 60, 61, 62] (fx_ K e4) rfl rfl (anyS_of HT.out _ _ _ (by kernel_rfl)) fun a K => dt_ 8358680908399640575 57 K M.drew rfl rfl rfl rfl (take_ofW HT.out HW.out (by kernel_rfl)) (fun W hW => run_ix24 (kk := i) hi hn rfl (K.of (x := .tmp 108) rfl) (K.of (x := .tmp 109) rfl)) fun a K => dp_ 8646911284551352319 10 [58] K rfl rfl (anyS_of HT.out _ _ _ (by kernel_rfl)) fun a K => dt_ 9223372036854775807 59 K M.drew rfl rfl rfl rfl (take_ofW HT.out HW.out (by kernel_rfl)) (fun W hW => run_ld rfl rfl (K.of (x := .tmp 111) rfl) (xi1 W hW)) fun a K => dt_ 18446744073709551615 63 K M.drew rfl rfl rfl rfl (take_ofW HT.out HW.out (by kernel_rfl)) (fun W hW => run_ix24 (kk := i - 1) hj hn rfl (K.of (x := .tmp 113) rfl) ((K.of (x := .tmp 115) rfl).trans (congrArg (Value.int .i64) ei))) fun a K => dp_ 36893488147419103231 7 [64] K rfl rfl (anyS_of HT.out _ _ _ (by kernel_rfl)) fun a K => dt_ 73786976294838206463 65 K M.drew rfl rfl rfl rfl (take_ofW HT.out HW.out (by kernel_rfl)) (fun W hW => run_ld rfl rfl (K.of (x := .tmp 117) rfl) (xj1 W hW)) fun a K => dp_ 4722366482869645213695 0 [66, 67, 68, 69, 70, 71] K rfl rfl (anyS_of HT.out _ _ _ (by kernel_rfl)) fun a K => dend_ (done_of HT.out (by kernel_rfl)) ?_)
            exact ⟨fg_ (ks_ (i := 124) (u := .bool false) K rfl (congrArg Value.bool e5)) ⟨rfl, rfl, rfl, rfl, rfl, rfl, trivial⟩, M.drew⟩
    clear K M
    rintro a W ⟨K, M⟩
    as_aux_lemma =>
      refine cs_ K rfl rfl ?_
      have hp1 : 0 < l.length := Nat.lt_of_le_of_lt (Nat.zero_le _) hjl
      obtain ⟨g1, b1', eA1, hal⟩ := at43 C1 hp1
      subst eA1
      have rr := hok j hjl
      have h43 := hal j hjl
      generalize er : l[j] = r at rr h43 qn qf qt qr qs
      clear er mem rise rs hal
      generalize k[i] = q at xi q0 qf qt qr qs
      have xi0 := fun V hV => xi V hV 0 _ rfl
      have xi1 := fun V hV => xi V hV 1 _ rfl
      have xi2 := fun V hV => xi V hV 2 _ rfl
      have ej : q.f0 = (j : Int) := by omega
      have e6 : decide (q.f0 < 0) = false := decide_eq_false (by omega)
      have e6b : decide ((l.length : Int) ≤ q.f0) = false := decide_eq_false (by omega)
      refine wp_seq (sr_ (run_ 2 K rfl fun a K => val_ K rfl rfl rfl (run_ix24 (kk := i) hi hn rfl (K.of (x := .tmp 125) rfl) (K.of (x := .tmp 126) rfl)) fun a K => run_ 1 K rfl fun a K => val_ K rfl rfl rfl (run_ld rfl rfl (K.of (x := .tmp 128) rfl) (xi0 _ M)) fun a K => run_ 2 K rfl fun a K => run_ 2 (fx_ K e6) rfl fun a K => val_ K rfl rfl rfl (run_ix24 (kk := i) hi hn rfl (K.of (x := .tmp 132) rfl) (K.of (x := .tmp 133) rfl)) fun a K => run_ 1 K rfl fun a K => val_ K rfl rfl rfl (run_ld rfl rfl (K.of (x := .tmp 135) rfl) (xi0 _ M)) fun a K => run_ 4 K rfl fun a K => nil_ ?_))
      refine cs_ K rfl e6b ?_
      refine sr_ (run_ 3 K rfl fun a K => val_ K rfl rfl rfl (run_ix24 (kk := i) hi hn rfl (K.of (x := .tmp 142) rfl) (K.of (x := .tmp 143) rfl)) fun a K => run_ 1 K rfl fun a K => val_ K rfl rfl rfl (run_ld rfl rfl (K.of (x := .tmp 145) rfl) (xi0 _ M)) fun a K => val_ K rfl rfl rfl (run_ix22 (kk := j) hjl hl43 rfl (K.of (x := .tmp 141) rfl) ((K.of (x := .tmp 146) rfl).trans (congrArg (Value.int .i64) ej))) fun a K =>  val_ K rfl rfl rfl (run_ldp (cs := enc43 r) Try.underlying43 i43 rfl (K.of (x := .tmp 147) rfl) (fun jj v hv => cell_on M (h43 jj v hv))) fun a K => nw_ K M rfl rfl rfl rfl rfl rfl rfl (fun _ => rfl) rfl rfl rfl fun a g3 W3 M K => nil_ ?_)
      replace K := fg_ (E' := [(10, .pointer (some ⟨g3, 0, none⟩)), (9, .int .i64 (i : Int)), (7, .slice (some ⟨g2, b2, none⟩) k.length c2), (2, .int .i64 last), (1, .string name), (0, .slice (some ⟨g1, b1', none⟩) l.length c)]) K ⟨rfl, rfl, rfl, rfl, rfl, rfl, trivial⟩
      replace xi0 : ∀ V, On [(g3, .cells (enc43 r).toArray 43 (0, 0))] w3 V → _ := fun V hV => xi0 V (on_no hV)
      replace xi1 : ∀ V, On [(g3, .cells (enc43 r).toArray 43 (0, 0))] w3 V → _ := fun V hV => xi1 V (on_no hV)
      replace xi2 : ∀ V, On [(g3, .cells (enc43 r).toArray 43 (0, 0))] w3 V → _ := fun V hV => xi2 V (on_no hV)
      obtain ⟨x, hx⟩ : ∃ x, resV q.f1 r.f3 r.f4.f0 r.f4.f1 r.f4.f2 = (x, 0) := ⟨_, Prod.ext rfl qr⟩
      rw [hx] at qs
      have RS := fun V => wres_on (w := V) hx
      refine dseq_ fl rfl rfl M.drew ( dp_ 163 11 [0, 1, 5, 7] K rfl rfl (by kernel_rfl) fun a K => dld_ 227 6 K M.drew 0 rfl rfl rfl rfl rfl rfl rfl rfl rfl (by kernel_rfl) fun a K => dt_ 483 8 K M.drew rfl rfl rfl rfl (by kernel_rfl) (fun W hW => run_ldp (cs := [.int .i64 r.f4.f0, .int .i64 r.f4.f1, .int .i64 r.f4.f2]) Try.underlying39 i39 rfl (K.of (x := .tmp 157) rfl) (fun jj v hv => (hW.cell (k := 0) rfl (4 + jj)).trans (on39 r jj v hv))) fun a K => dt_ 487 2 K M.drew rfl rfl rfl rfl (by kernel_rfl) (fun W hW => run_ix24 (kk := i) hi hn rfl (K.of (x := .tmp 150) rfl) (K.of (x := .tmp 151) rfl)) fun a K => dp_ 495 7 [3] K rfl rfl (by kernel_rfl) fun a K => dt_ 511 4 K M.drew rfl rfl rfl rfl (by kernel_rfl) (fun W hW => run_ld rfl rfl (K.of (x := .tmp 153) rfl) (xi1 W hW)) fun a K => dc_ 1023 9 K Try.func16 (by kernel_rfl) rfl rfl rfl rfl rfl rfl rfl (by kernel_rfl) (((RS _)).mono ?_))
      rintro _ w9 ⟨rfl, b9⟩
      replace M := M.drew.call b9
      refine ⟨_, rfl, M, fun a K => dp_ 32767 0 [10, 11, 13, 12, 14] K rfl rfl (by kernel_rfl) fun a K => dend_ (by kernel_rfl) ?_⟩
      replace K := fg_ (E' := [(12, .int .i64 0), (11, .int .i64 x), (10, .pointer (some ⟨g3, 0, none⟩)), (9, .int .i64 (i : Int)), (7, .slice (some ⟨g2, b2, none⟩) k.length c2), (2, .int .i64 last), (1, .string name), (0, .slice (some ⟨g1, b1', none⟩) l.length c)]) K ⟨rfl, rfl, rfl, rfl, rfl, rfl, rfl, rfl, trivial⟩
      have e7 : (r.f0.toList != name.toList) = false := by rw [qn]; exact bne_self_eq_false _
      have e8 : decide (q.f1 < r.f1) = false := decide_eq_false (by omega)
      have e9 : decide (min r.f2 last < q.f1) = false := decide_eq_false (by omega)
      have e10 : (!decide ((0 : Int) = 0)) = false := rfl
      have e12 : (!decide (q.f2 = wrap64 (wrap64 (x * 86400) + r.f5.f0))) = false := by rw [decide_eq_true qs]; rfl
      refine dseq_ fl rfl rfl M.drew (with_tabW r15.tab r15.bits fun HT HW => dp_ 5 42 [0, 2] K rfl rfl (anyS_of HT.out _ _ _ (by kernel_rfl)) fun a K => dld_ 7 1 K M.drew 0 rfl rfl rfl rfl rfl rfl rfl rfl rfl (take_ofW HT.out HW.out (by kernel_rfl)) fun a K => dp_ 31 39 [3, 4] K rfl rfl (anyS_of HT.out _ _ _ (by kernel_rfl)) fun a K => dp_ 1151 36 [5, 6, 10] (fx_ K e7) rfl rfl (anyS_of HT.out _ _ _ (by kernel_rfl)) fun a K => dld_ 3199 11 K M.drew 0 rfl rfl rfl rfl rfl rfl rfl rfl rfl (take_ofW HT.out HW.out (by kernel_rfl)) fun a K => dt_ 3327 7 K M.drew rfl rfl rfl rfl (take_ofW HT.out HW.out (by kernel_rfl)) (fun W hW => run_ix24 (kk := i) hi hn rfl (K.of (x := .tmp 167) rfl) (K.of (x := .tmp 168) rfl)) fun a K => dp_ 3583 33 [8] K rfl rfl (anyS_of HT.out _ _ _ (by kernel_rfl)) fun a K => dt_ 4095 9 K M.drew rfl rfl rfl rfl (take_ofW HT.out HW.out (by kernel_rfl)) (fun W hW => run_ld rfl rfl (K.of (x := .tmp 170) rfl) (xi1 W hW)) fun a K => dp_ 32767 29 [12, 13, 14] K rfl rfl (anyS_of HT.out _ _ _ (by kernel_rfl)) fun a K => dp_ 5373951 25 [15, 16, 20, 22] (fx_ K e8) rfl rfl (anyS_of HT.out _ _ _ (by kernel_rfl)) fun a K => dld_ 7471103 21 K M.drew 0 rfl rfl rfl rfl rfl rfl rfl rfl rfl (take_ofW HT.out HW.out (by kernel_rfl)) fun a K => dt_ 7602175 17 K M.drew rfl rfl rfl rfl (take_ofW HT.out HW.out (by kernel_rfl)) (fun W hW => run_ix24 (kk := i) hi hn rfl (K.of (x := .tmp 177) rfl) (K.of (x := .tmp 178) rfl)) fun a K => dp_ 7864319 22 [18] K rfl rfl (anyS_of HT.out _ _ _ (by kernel_rfl)) fun a K => dt_ 8388607 19 K M.drew rfl rfl rfl rfl (take_ofW HT.out HW.out (by kernel_rfl)) (fun W hW => run_ld rfl rfl (K.of (x := .tmp 180) rfl) (xi1 W hW)) fun a K => dt_ 16777215 23 K M.drew rfl rfl rfl rfl (take_ofW HT.out HW.out (by kernel_rfl)) (fun W hW => run_min rfl (K.of (x := .tmp 183) rfl) (K.of (x := .tmp 184) rfl)) fun a K => dp_ 134217727 17 [24, 25, 26] K rfl rfl (anyS_of HT.out _ _ _ (by kernel_rfl)) fun a K => dp_ 2147483647 13 [27, 28, 29, 30] (fx_ K e9) rfl rfl (anyS_of HT.out _ _ _ (by kernel_rfl)) fun a K => dp_ 1039382085631 7 [31, 32, 36, 37, 38, 39] (fx_ K e10) rfl rfl (anyS_of HT.out _ _ _ (by kernel_rfl)) fun a K => dld_ 2138893713407 40 K M.drew 0 rfl rfl rfl rfl rfl rfl rfl rfl rfl (take_ofW HT.out HW.out (by kernel_rfl)) fun a K => dp_ 4337916968959 5 [41] K rfl rfl (anyS_of HT.out _ _ _ (by kernel_rfl)) fun a K => dt_ 4346506903551 33 K M.drew rfl rfl rfl rfl (take_ofW HT.out HW.out (by kernel_rfl)) (fun W hW => run_ix24 (kk := i) hi hn rfl (K.of (x := .tmp 193) rfl) (K.of (x := .tmp 194) rfl)) fun a K => dp_ 4363686772735 3 [34] K rfl rfl (anyS_of HT.out _ _ _ (by kernel_rfl)) fun a K => dt_ 4398046511103 35 K M.drew rfl rfl rfl rfl (take_ofW HT.out HW.out (by kernel_rfl)) (fun W hW => run_ld rfl rfl (K.of (x := .tmp 196) rfl) (xi2 W hW)) fun a K => dp_ 17592186044415 0 [42, 43] K rfl rfl (anyS_of HT.out _ _ _ (by kernel_rfl)) fun a K => dend_ (done_of HT.out (by kernel_rfl)) ?_)
      exact cf_ K rfl e12 (wp_skip (thb_ ⟨fg_ K ⟨rfl, rfl, rfl, rfl, rfl, trivial⟩, on_no M.drew⟩))
  case neg =>
    clear mem rise C2
    as_aux_lemma =>
      refine cf_ K2 rfl (kp_ge hc1) (ex_ (thn_ (sr_ (run_ 1 K2 rfl fun a K => nil_ (wp_seq (sr_ (run_ 1 K rfl fun a K => nil_ ?_)))))))
      refine wp_block (wp_loop (fun a W => ∃ i : Nat, i ≤ l.length ∧ Kn 262 [(14, .int .i64 (i : Int)), (13, .int .i64 ((cntL name last (l.take i) : Nat) : Int)), (7, .slice A2 k.length c2), (2, .int .i64 last), (1, .string name), (0, .slice A l.length c)] a ∧ On [] w3 W) (fun a _ => leftN 14 l.length a) ⟨0, Nat.zero_le _, fg_ K ⟨rfl, rfl, rfl, rfl, rfl, rfl, trivial⟩, M⟩ ?_)
      clear K K2 M
      rintro a W ⟨i, hi, K, M⟩
      refine wp_seq (sr_ (run_ 4 K rfl fun a2 K2 => nil_ ?_))
      by_cases hc2 : i < l.length
      case neg =>
        obtain rfl : i = l.length := Nat.le_antisymm hi (Nat.le_of_not_lt hc2)
        rw [List.take_length, ← hlen] at K2
        refine cf_ K2 rfl (kp_ge hc2) (ex_ (thn_ (sr_ (run_ 5 K2 rfl fun a K => cl_ (fx_ K (decide_eq_true rfl)) Try.func11 (by kernel_rfl) rfl rfl rfl rfl rfl rfl (wakes_on.mono ?_)))))
        rintro _ w9 ⟨rfl, b9⟩
        exact ⟨_, rfl, fun a K => run_ 2 K rfl fun a K => nil_ (ret_ rfl K rfl ⟨rfl, fin (M.call b9).bl⟩)⟩
      clear hi
      have hi := hc2
      have hp1 : 0 < l.length := Nat.lt_of_le_of_lt (Nat.zero_le _) hi
      obtain ⟨g1, b1', eA1, hal⟩ := at43 C1 hp1
      subst eA1
      have enx := kp_inc hi hl43
      have et := cntL_take name last l hi
      have hN : cntL name last (l.take i) ≤ 2000000 := by
        have h1 := cntL_le name last (l.take i) (fun x hx => hmem x (List.mem_of_mem_take hx))
        rw [List.length_take] at h1
        omega
      have rr := hok i hi
      have yi : ∀ V, On [] w3 V → ∀ (j : Nat) (v : Value), (enc43 l[i])[j]? = some v → V.cell? ⟨g1, b1' + i * 11 + j, none⟩ = some v := fun V hV j v h => cell_on hV (hal i hi j v h)
      refine ck_ K2 rfl (kp_lt hi) (wp_seq (bjn_ (fun a' W' => Kn 262 [(14, .int .i64 (i : Int)), (13, .int .i64 ((cntL name last (l.take (i + 1)) : Nat) : Int)), (7, .slice A2 k.length c2), (2, .int .i64 last), (1, .string name), (0, .slice (some ⟨g1, b1', none⟩) l.length c)] a' ∧ On [] w3 W') ?_ ?_))
      case refine_2 =>
        rintro a' W' ⟨K', M'⟩
        refine rg_ (run_ 3 K' rfl fun a5 K5 => nl_ ⟨⟨i + 1, hi, fg_ (ks_ (i := 14) K5 rfl (congrArg (Value.int .i64) enx)) ⟨rfl, rfl, rfl, rfl, rfl, rfl, trivial⟩, M'⟩, ?_⟩)
        rw [leftN_ (d := 14) K5 rfl, leftN_ (d := 14) K rfl, enx]
        exact leftN_lt hi
      rw [cnt_m] at et
      generalize cntL name last (l.take (i + 1)) = N1 at et ⊢
      generalize cntL name last (l.take i) = N0 at et hN K2 K
      clear hal hlen hcl C1
      generalize l[i] = r at et rr yi
      have yi0 := fun V hV => yi V hV 0 _ rfl
      have yi1 := fun V hV => yi V hV 1 _ rfl
      have yi2 := fun V hV => yi V hV 2 _ rfl
      have yi3 := fun V hV => yi V hV 3 _ rfl
      have yi39 : ∀ V, On [] w3 V → ∀ (jj : Nat) (v : Value), ([.int .i64 r.f4.f0, .int .i64 r.f4.f1, .int .i64 r.f4.f2] : List Value)[jj]? = some v → V.cell? ⟨g1, b1' + i * 11 + 4 + jj, none⟩ = some v := fun V hV jj v hv => by rw [Nat.add_assoc _ 4 jj]; exact yi V hV (4 + jj) v (on39b r jj v hv)
      clear yi
      have K := K2
      refine sr_ (run_ 2 K rfl fun a K => val_ K rfl rfl rfl (run_ix22 (kk := i) hi hl43 rfl (K.of (x := .tmp 212) rfl) (K.of (x := .tmp 213) rfl)) fun a K => run_ 1 K rfl fun a K => val_ K rfl rfl rfl (run_ld rfl rfl (K.of (x := .tmp 215) rfl) (yi1 _ M)) fun a K => run_ 1 K rfl fun a K => nil_ ?_)
      refine wp_block (wp_loop (fun a W => ∃ t : Nat, t ≤ mR name last r ∧ Kn 262 [(15, .int .i64 (r.f1 + (t : Int))), (14, .int .i64 (i : Int)), (13, .int .i64 ((N0 + cntY r t r.f1 : Nat) : Int)), (7, .slice A2 k.length c2), (2, .int .i64 last), (1, .string name), (0, .slice (some ⟨g1, b1', none⟩) l.length c)] a ∧ On [] w3 W) (fun a _ => leftN 15 (min r.f2 last + 1).toNat a) ⟨0, Nat.zero_le _, fg_ (ks_ (i := 15) (u := .int .i64 (r.f1 + ((0 : Nat) : Int))) K rfl (congrArg (Value.int .i64) (Int.add_zero _).symm)) ⟨rfl, rfl, rfl, rfl, rfl, rfl, rfl, trivial⟩, M⟩ ?_)
      clear K K2 M a
      rintro a W ⟨t, ht, K, M⟩
      have KL := leftN_ (d := 15) (n := (min r.f2 last + 1).toNat) K rfl
      refine wp_seq (sr_ ?_)
      cases e11 : (r.f0.toList == name.toList) with
      | false =>
        have hm : mR name last r = 0 := if_neg (fun q => by rw [q, beq_self_eq_true] at e11; cases e11)
        rw [hm] at ht et
        obtain rfl : t = 0 := Nat.le_zero.1 ht
        refine run_ 2 K rfl fun a K => val_ K rfl rfl rfl (run_ix22 (kk := i) hi hl43 rfl (K.of (x := .tmp 217) rfl) (K.of (x := .tmp 218) rfl)) fun a K => run_ 1 K rfl fun a K => val_ K rfl rfl rfl (run_ld rfl rfl (K.of (x := .tmp 220) rfl) (yi0 _ M)) fun a K => run_ 3 K rfl fun a K => run_ 10 (fx_ K e11) rfl fun a K => nil_ ?_
        exact cf_ K rfl rfl (ex_ (thb_ ⟨by rw [et]; exact fg_ K ⟨rfl, rfl, rfl, rfl, rfl, rfl, trivial⟩, M⟩))
      | true =>
        have hm : mR name last r = (min r.f2 last - r.f1 + 1).toNat := if_pos (beq_iff_eq.1 e11)
        have fr := rr.fr
        have too := rr.too
        refine run_ 2 K rfl fun a K => val_ K rfl rfl rfl (run_ix22 (kk := i) hi hl43 rfl (K.of (x := .tmp 217) rfl) (K.of (x := .tmp 218) rfl)) fun a K => run_ 1 K rfl fun a K => val_ K rfl rfl rfl (run_ld rfl rfl (K.of (x := .tmp 220) rfl) (yi0 _ M)) fun a K => run_ 3 K rfl fun a K => run_ 3 (fx_ K e11) rfl fun a K => val_ K rfl rfl rfl (run_ix22 (kk := i) hi hl43 rfl (K.of (x := .tmp 226) rfl) (K.of (x := .tmp 227) rfl)) fun a K => run_ 1 K rfl fun a K => val_ K rfl rfl rfl (run_ld rfl rfl (K.of (x := .tmp 229) rfl) (yi2 _ M)) fun a K => run_ 1 K rfl fun a K => val_ K rfl rfl rfl (run_min rfl (K.of (x := .tmp 230) rfl) (K.of (x := .tmp 231) rfl)) fun a K => run_ 2 K rfl fun a K => nil_ ?_
        by_cases ht2 : t < mR name last r
        case neg =>
          obtain rfl : t = mR name last r := Nat.le_antisymm ht (Nat.le_of_not_lt ht2)
          have hle : ¬ (r.f1 + ((mR name last r : Nat) : Int) ≤ min r.f2 last) := by rw [hm]; omega
          exact cf_ K rfl (decide_eq_false hle) (ex_ (thb_ ⟨by rw [et]; exact fg_ K ⟨rfl, rfl, rfl, rfl, rfl, rfl, trivial⟩, M⟩))
        have hle : r.f1 + (t : Int) ≤ min r.f2 last := by omega
        have y1 : 1 ≤ r.f1 + (t : Int) := by omega
        have y2 : r.f1 + (t : Int) ≤ 9999 := by omega
        have ey : wrap64 (r.f1 + (t : Int) + 1) = r.f1 + ((t + 1 : Nat) : Int) := by rw [w64 (by omega) (by omega)]; omega
        have ml : (((min r.f2 last + 1).toNat : Nat) - (r.f1 + ((t + 1 : Nat) : Int))).toNat < (((min r.f2 last + 1).toNat : Nat) - (r.f1 + (t : Int))).toNat := by omega
        have ec := cntY_succ r t r.f1
        have er := res_iff (m := r.f3) rr.onr y1 y2
        have hc9 := cntY_le r t r.f1
        have ht9 : t ≤ 9999 := by omega
        have RS := fun V => rres_on (w := V) (m := r.f3) rr.onr y1 y2
        replace K := fg_ (E' := [(234, .bool (decide (r.f1 + (t : Int) ≤ min r.f2 last))), (15, .int .i64 (r.f1 + (t : Int))), (14, .int .i64 (i : Int)), (13, .int .i64 ((N0 + cntY r t r.f1 : Nat) : Int)), (7, .slice A2 k.length c2), (2, .int .i64 last), (1, .string name), (0, .slice (some ⟨g1, b1', none⟩) l.length c)]) K ⟨rfl, rfl, rfl, rfl, rfl, rfl, rfl, rfl, trivial⟩
        refine ck_ K rfl (decide_eq_true hle) (wp_seq (bjn_ (fun a' W' => Kn 262 [(15, .int .i64 (r.f1 + (t : Int))), (14, .int .i64 (i : Int)), (13, .int .i64 ((N0 + cntY r (t + 1) r.f1 : Nat) : Int)), (7, .slice A2 k.length c2), (2, .int .i64 last), (1, .string name), (0, .slice (some ⟨g1, b1', none⟩) l.length c)] a' ∧ On [] w3 W') ?_ ?_))
        case refine_2 =>
          rintro a' W' ⟨K', M'⟩
          refine rg_ (run_ 3 K' rfl fun a5 K5 => nl_ ⟨⟨t + 1, ht2, fg_ (ks_ (i := 15) K5 rfl (congrArg (Value.int .i64) ey)) ⟨rfl, rfl, rfl, rfl, rfl, rfl, rfl, trivial⟩, M'⟩, ?_⟩)
          rw [leftN_ (d := 15) K5 rfl, KL, ey]
          exact ml
        refine dseq_ fl rfl rfl M.drew ( dp_ 199 12 [0, 1, 2, 6, 7] K rfl rfl (by kernel_rfl) fun a K => dt_ 207 3 K M.drew rfl rfl rfl rfl (by kernel_rfl) (fun W hW => run_ix22 (kk := i) hi hl43 rfl (K.of (x := .tmp 239) rfl) (K.of (x := .tmp 240) rfl)) fun a K => dp_ 223 10 [4] K rfl rfl (by kernel_rfl) fun a K => dt_ 255 5 K M.drew rfl rfl rfl rfl (by kernel_rfl) (fun W hW => run_ld rfl rfl (K.of (x := .tmp 242) rfl) (yi3 W hW)) fun a K => dt_ 511 8 K M.drew rfl rfl rfl rfl (by kernel_rfl) (fun W hW => run_ix22 (kk := i) hi hl43 rfl (K.of (x := .tmp 244) rfl) (K.of (x := .tmp 245) rfl)) fun a K => dp_ 1023 7 [9] K rfl rfl (by kernel_rfl) fun a K => dt_ 2047 10 K M.drew rfl rfl rfl rfl (by kernel_rfl) (fun W hW => run_ldp (cs := [.int .i64 r.f4.f0, .int .i64 r.f4.f1, .int .i64 r.f4.f2]) Try.underlying39 i39 rfl (K.of (x := .tmp 247) rfl) (fun jj v hv => yi39 W hW jj v hv)) fun a K => dc_ 4095 11 K Try.func17 (by kernel_rfl) rfl rfl rfl rfl rfl rfl rfl (by kernel_rfl) (((RS _)).mono ?_))
        rintro _ w11 ⟨rfl, b11⟩
        replace M := M.drew.call b11
        refine ⟨_, rfl, M, fun a K => dp_ 131071 0 [12, 13, 15, 14, 16] K rfl rfl (by kernel_rfl) fun a K => dend_ (by kernel_rfl) ?_⟩
        have eN : wrap64 (((N0 + cntY r t r.f1 : Nat) : Int) + 1) = ((N0 + (cntY r t r.f1 + 1) : Nat) : Int) := by rw [w64 (by omega) (by omega)]; omega
        refine sr_ (run_ 1 K rfl fun a K => nil_ ?_)
        cases hb : (rresV (r.f1 + (t : Int)) r.f3 r.f4.f0 r.f4.f1 r.f4.f2).2 with
        | true =>
          rw [if_pos (of_decide_eq_true (er.symm.trans hb))] at ec
          exact ct_ K rfl hb (rg_ (run_ 3 K rfl fun a K => nl_ (thb_ ⟨by rw [ec]; exact fg_ (ks_ (i := 13) K rfl (congrArg (Value.int .i64) eN)) ⟨rfl, rfl, rfl, rfl, rfl, rfl, rfl, trivial⟩, M⟩)))
        | false =>
          rw [if_neg (of_decide_eq_false (er.symm.trans hb)), Nat.add_zero] at ec
          exact cf_ K rfl hb (wp_skip (thb_ ⟨by rw [ec]; exact fg_ K ⟨rfl, rfl, rfl, rfl, rfl, rfl, rfl, trivial⟩, M⟩))
end Go.Proofs.Ytdhljcnilclfbaa.Pure
