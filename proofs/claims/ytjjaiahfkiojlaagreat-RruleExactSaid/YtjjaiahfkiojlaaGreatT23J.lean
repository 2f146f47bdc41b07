/- The reference's Of, as a contract. No condition beyond those each lemma names. -/
import Derived.Test.YtjjaiahfkiojlaaGreatT23I
namespace Go.Proofs.YtjjaiahfkiojlaaGreat.Pure
open Go.RowKit Go.Proofs.YtjjaiahfkiojlaaGreat.O Go.Proofs.YtjjaiahfkiojlaaGreatW.PrintWords Go.Proofs.YtjjaiahfkiojlaaGreatW.PrintLast
open Go.Proofs.YtjjaiahfkiojlaaGreat.Civ
set_option linter.unusedVariables false
set_option linter.unusedSimpArgs false
set_option maxHeartbeats 4000000
set_option maxRecDepth 100000
theorem Of3_on {w : World} {cs : Array Value} {r : RR} (R : Rul w cs r) (hR : Right r) {st fa fb : Int} (hs : InT st) (ha : InT fa) (hb : InT fb) {most : Nat} (hmo : most ≤ 1000000) {LL : List Int} (CUT : ∀ {i h m x : Nat}, i < dN fa fb → h < 24 → m < 60 → x < 60 → (U r st fa fb i h m (x + 1)).length = most + 1 → U r st fa fb i h m (x + 1) = LL) (END : (U r st fa fb (dN fa fb) 0 0 0).length ≤ most → U r st fa fb (dN fa fb) 0 0 0 = LL) :
    Calls Tryz.prog 28 #[.agg cs, .int .i64 st, .int .i64 fa, .int .i64 fb, .int .i64 (most : Int)] w fun e W' => ∃ v', e = .returned v' ∧ Kd.R (Kd.int .i64) 3 W' w.heap.size (fun _ => True) v' LL ∧ Below w.heap.size w W' := by
  obtain ⟨A6, k6, e6, h6, C6⟩ := R.c6
  obtain ⟨A7, k7, e7, h7, C7⟩ := R.c7
  obtain ⟨A8, k8, e8, h8, C8⟩ := R.c8
  have hl := hR.lens
  have xs := clk_w3 (x := st % 86400) (by omega) (by omega)
  have FH : ∀ (x : Int) V, Below w.heap.size w V → Calls Tryz.prog 60 #[.slice A8 r.ho.length k8, .int .i64 x, .int .i64 (wrap64 (Int.tdiv (st % 86400) 3600)), .bool (decide (3 < r.fr))] V (Rets V (.bool (oneV r.ho x (st % 86400 / 3600) (decide (3 < r.fr))))) := fun x V hV => by
    rw [xs.1]; exact fits_on _ _ _ (Kd.C_below C8 hV) hl.ho
  have FM : ∀ (x : Int) V, Below w.heap.size w V → Calls Tryz.prog 60 #[.slice A7 r.mi.length k7, .int .i64 x, .int .i64 (Int.tmod (wrap64 (Int.tdiv (st % 86400) 60)) 60), .bool (decide (2 < r.fr))] V (Rets V (.bool (oneV r.mi x (st % 86400 % 3600 / 60) (decide (2 < r.fr))))) := fun x V hV => by
    rw [xs.2.1]; exact fits_on _ _ _ (Kd.C_below C7 hV) hl.mi
  have FS : ∀ (x : Int) V, Below w.heap.size w V → Calls Tryz.prog 60 #[.slice A6 r.sec.length k6, .int .i64 x, .int .i64 (Int.tmod (st % 86400) 60), .bool (decide (1 < r.fr))] V (Rets V (.bool (oneV r.sec x (st % 86400 % 60) (decide (1 < r.fr))))) := fun x V hV => by
    rw [xs.2.2]; exact fits_on _ _ _ (Kd.C_below C6 hV) hl.sec
  have DY : ∀ {i : Nat}, i < dN fa fb → ∀ V, Rul V cs r → Calls Tryz.prog 59 #[.agg cs, .int .i64 st, .int .i64 (fa / 86400 + (i : Int))] V (Rets V (.bool (dayV r (st / 86400) (fa / 86400 + (i : Int))))) := fun hi V hV => Day2_on hV hl hs (dn_in ha hb hi).1 (dn_in ha hb hi).2
  have OW : ∀ {i h m x : Nat}, i < dN fa fb → h < 24 → m < 60 → x < 60 → _ := fun {i h m x} hi hh hm hx => of_w (d := fa / 86400 + (i : Int)) (Int.le_trans (by decide) (dn_in ha hb hi).1) (Int.le_trans (dn_in ha hb hi).2 (by decide)) hh hm hx
  have INC := fun {i : Nat} (hi : i < dN fa fb) => dn_inc ha hb hi
  have sb : -9223372036854775808 ≤ st ∧ st < 9223372036854775808 := by unfold InT at hs; omega
  have ab : -9223372036854775808 ≤ fa ∧ fa < 9223372036854775808 := by unfold InT at ha; omega
  have bb : -9223372036854775808 ≤ fb ∧ fb < 9223372036854775808 := by unfold InT at hb; omega
  clear xs hs ha hb
  refine en_ Tryz.func28 rfl rfl rfl fun a K => sr_ (bxG_ K (On.nil w) rfl rfl rfl rfl rfl rfl fun a g0 W G0 M K => run_ 1 K rfl fun a K => nil_ (sr_ (run_ 1 K rfl fun a K => nil_ ?_)))
  refine sr_ (run_ 1 K rfl fun a K => cl_ K Tryz.func35 (by kernel_rfl) rfl rfl rfl rfl rfl rfl ((rdiv_on (a := fa) (by decide) (by decide) ab.1 ab.2).mono ?_))
  rintro _ w1 ⟨rfl, b1⟩
  replace M := M.call b1
  refine ⟨_, rfl, fun a K => run_ 5 K rfl fun a K => nil_ ?_⟩
  refine sr_ (run_ 1 K rfl fun a K => cl_ K Tryz.func35 (by kernel_rfl) rfl rfl rfl rfl rfl rfl ((rdiv_on (a := fb) (by decide) (by decide) bb.1 bb.2).mono ?_))
  rintro _ w1 ⟨rfl, b1⟩
  replace M := M.call b1
  refine ⟨_, rfl, fun a K => run_ 5 K rfl fun a K => nil_ ?_⟩
  refine sr_ (run_ 1 K rfl fun a K => cl_ K Tryz.func35 (by kernel_rfl) rfl rfl rfl rfl rfl rfl ((rdiv_on (a := st) (by decide) (by decide) sb.1 sb.2).mono ?_))
  rintro _ w1 ⟨rfl, b1⟩
  replace M := M.call b1
  refine ⟨_, rfl, fun a K => run_ 5 K rfl fun a K => nil_ ?_⟩
  refine wp_seq (sr_ (run_ 2 K rfl fun a K => nil_ (wp_block (wp_loop (fun a W => ∃ (i : Nat) (v : Value), i ≤ dN fa fb ∧ Kn 166 [(18, .int .i64 (fa / 86400 + (i : Int))), (11, v), (14, .int .i64 (fb / 86400)), (17, .int .i64 (st % 86400)), (5, .pointer (some ⟨g0, 0, none⟩)), (1, .int .i64 st), (2, .int .i64 fa), (3, .int .i64 fb), (4, .int .i64 (most : Int))] a ∧ Kd.R (Kd.int .i64) 3 W w.heap.size (fun _ => True) v (U r st fa fb i 0 0 0) ∧ some g0 ≠ v.ownBlock ∧ (U r st fa fb i 0 0 0).length ≤ most ∧ On [(g0, .cells cs 25 (0, 0))] w W) (fun a _ => leftZ 18 (fb / 86400 + 1) a) ⟨0, .slice none 0 0, Nat.zero_le _, fg_ (ks_ (i := 18) K rfl (congrArg (Value.int .i64) (Int.add_zero _).symm)) ⟨rfl, rfl, rfl, rfl, rfl, rfl, rfl, rfl, rfl, trivial⟩, Kd.R_nil _ _ _ _ _, (fun q => (nomatch (show some g0 = none from q))), Nat.zero_le _, M⟩ ?_))))
  clear K M
  rintro a W ⟨i, v, hi, K, Rv, F, hlen, M⟩
  have KL := leftZ_ (z := fb / 86400 + 1) (d := 18) K rfl
  refine wp_seq (sr_ (run_ 3 K rfl fun a2 K2 => nil_ ?_))
  by_cases hc : i < dN fa fb
  case neg =>
    obtain rfl := nat_eq hi hc
    exact cf_ K2 rfl (dn_gt hc) (ex_ (thn_ (sr_ (run_ 2 K2 rfl fun a K => nil_ (ret_ rfl K rfl ⟨v, rfl, by rw [← END hlen]; exact Rv, M.bl⟩)))))
  refine ck_ K2 rfl (dn_le hc) (wp_seq (bjn_ (fun a' W' => ∃ v', Kn 166 [(18, .int .i64 (fa / 86400 + (i : Int))), (11, v'), (14, .int .i64 (fb / 86400)), (17, .int .i64 (st % 86400)), (5, .pointer (some ⟨g0, 0, none⟩)), (1, .int .i64 st), (2, .int .i64 fa), (3, .int .i64 fb), (4, .int .i64 (most : Int))] a' ∧ Kd.R (Kd.int .i64) 3 W' w.heap.size (fun _ => True) v' (U r st fa fb (i + 1) 0 0 0) ∧ some g0 ≠ v'.ownBlock ∧ (U r st fa fb (i + 1) 0 0 0).length ≤ most ∧ On [(g0, .cells cs 25 (0, 0))] w W') (wp_seq (sr_ ?_)) ?_))
  case refine_2 =>
    rintro a' W' ⟨v', K', R', F', l', M'⟩
    have ic := INC hc
    refine rg_ (run_ 3 K' rfl fun a5 K5 => nl_ ⟨⟨i + 1, v', hc, fg_ (ks_ (i := 18) K5 rfl (congrArg (Value.int .i64) ic.1)) ⟨rfl, rfl, rfl, rfl, rfl, rfl, rfl, rfl, rfl, trivial⟩, R', F', l', M'⟩, ?_⟩)
    rw [leftZ_ (d := 18) K5 rfl, KL, ic.1]
    exact ic.2
  replace K := K2
  clear K2 KL
  refine lda_ K M 0 rfl rfl rfl rfl rfl rfl rfl R.sz fun a K => run_ 2 K rfl fun a K => cl_ K Tryz.func59 (by kernel_rfl) rfl rfl rfl rfl rfl rfl ((DY hc _ (R.below M.bl)).mono ?_)
  rintro _ w3 ⟨rfl, b3⟩
  replace M := M.call b3
  refine ⟨_, rfl, fun a K => run_ 1 K rfl fun a K => nil_ ?_⟩
  replace Rv := Kd.R_below Rv b3
  cases ed : dayV r (st / 86400) (fa / 86400 + (i : Int)) with
  | false => exact ct_ K rfl (by rw [ed]; rfl) (ex_ (thn_ ⟨v, fg_ K ⟨rfl, rfl, rfl, rfl, rfl, rfl, rfl, rfl, rfl, trivial⟩, by rw [day_skip ed]; exact ⟨Rv, F, hlen, M⟩⟩))
  | true =>
  refine cs_ K rfl (by rw [ed]; rfl) (sr_ (run_ 1 K rfl fun a K => nil_ (wp_block (wp_loop (fun a W => ∃ (h : Nat) (v : Value), h ≤ 24 ∧ Kn 166 [(19, .int .i64 (h : Int)), (18, .int .i64 (fa / 86400 + (i : Int))), (11, v), (14, .int .i64 (fb / 86400)), (17, .int .i64 (st % 86400)), (5, .pointer (some ⟨g0, 0, none⟩)), (1, .int .i64 st), (2, .int .i64 fa), (3, .int .i64 fb), (4, .int .i64 (most : Int))] a ∧ Kd.R (Kd.int .i64) 3 W w.heap.size (fun _ => True) v (U r st fa fb i h 0 0) ∧ some g0 ≠ v.ownBlock ∧ (U r st fa fb i h 0 0).length ≤ most ∧ On [(g0, .cells cs 25 (0, 0))] w W) (fun a _ => leftN 19 24 a) ⟨0, v, Nat.zero_le _, fg_ K ⟨rfl, rfl, rfl, rfl, rfl, rfl, rfl, rfl, rfl, rfl, trivial⟩, Rv, F, hlen, M⟩ ?_))))
  clear K M Rv F hlen
  rintro a W ⟨h, v, hi2, K, Rv, F, hlen, M⟩
  have KL := leftN_ (n := 24) (d := 19) K rfl
  refine wp_seq (sr_ (run_ 2 K rfl fun a2 K2 => nil_ ?_))
  by_cases hh : h < 24
  case neg =>
    obtain rfl := nat_eq hi2 hh
    rw [U_day] at Rv hlen
    exact cf_ K2 rfl (ge24 hh) (ex_ ⟨v, fg_ K2 ⟨rfl, rfl, rfl, rfl, rfl, rfl, rfl, rfl, rfl, trivial⟩, Rv, F, hlen, M⟩)
  refine ck_ K2 rfl (lt24 hh) (wp_seq (bjn_ (fun a' W' => ∃ v', Kn 166 [(19, .int .i64 (h : Int)), (18, .int .i64 (fa / 86400 + (i : Int))), (11, v'), (14, .int .i64 (fb / 86400)), (17, .int .i64 (st % 86400)), (5, .pointer (some ⟨g0, 0, none⟩)), (1, .int .i64 st), (2, .int .i64 fa), (3, .int .i64 fb), (4, .int .i64 (most : Int))] a' ∧ Kd.R (Kd.int .i64) 3 W' w.heap.size (fun _ => True) v' (U r st fa fb i (h + 1) 0 0) ∧ some g0 ≠ v'.ownBlock ∧ (U r st fa fb i (h + 1) 0 0).length ≤ most ∧ On [(g0, .cells cs 25 (0, 0))] w W') (wp_seq (sr_ ?_)) ?_))
  case refine_2 =>
    rintro a' W' ⟨v', K', R', F', l', M'⟩
    have ic := up_inc hh (by decide)
    refine rg_ (run_ 3 K' rfl fun a5 K5 => nl_ ⟨⟨h + 1, v', hh, fg_ (ks_ (i := 19) K5 rfl (congrArg (Value.int .i64) ic)) ⟨rfl, rfl, rfl, rfl, rfl, rfl, rfl, rfl, rfl, rfl, trivial⟩, R', F', l', M'⟩, ?_⟩)
    rw [leftN_ (d := 19) K5 rfl, KL, ic]
    exact leftN_lt hh
  replace K := K2
  clear K2 KL
  have ow := OW (m := 0) (x := 0) hc hh (by decide) (by decide)
  cases eh : oneV r.ho (h : Int) (st % 86400 / 3600) (decide (3 < r.fr)) with
  | false =>
    have u10 : (!oneV r.ho (h : Int) (st % 86400 / 3600) (decide (3 < r.fr))) = true := by rw [eh]; rfl
    refine run_ 1 K rfl fun a K => ld_ K M 0 rfl rfl rfl rfl rfl rfl e8 rfl fun a K => run_ 4 K rfl fun a K => ld_ K M 0 rfl rfl rfl rfl rfl rfl R.c0 rfl fun a K => run_ 1 K rfl fun a K => cl_ K Tryz.func60 (by kernel_rfl) rfl rfl rfl rfl rfl rfl ((FH _ _ M.bl).mono ?_)
    rintro _ w8 ⟨rfl, b8⟩
    replace M := M.call b8
    refine ⟨_, rfl, fun a K => run_ 2 K rfl fun a K => run_ 18 (fx_ K u10) rfl fun a K => nil_ ?_⟩
    exact ct_ K rfl rfl (ex_ (thn_ ⟨v, fg_ K ⟨rfl, rfl, rfl, rfl, rfl, rfl, rfl, rfl, rfl, rfl, trivial⟩, by rw [hour_skip hh (Or.inl eh)]; exact ⟨Kd.R_below Rv b8, F, hlen, M⟩⟩))
  | true =>
  have u10 : (!oneV r.ho (h : Int) (st % 86400 / 3600) (decide (3 < r.fr))) = false := by rw [eh]; rfl
  by_cases c1 : fb < (fa / 86400 + (i : Int)) * 86400 + 3600 * (h : Int)
  case pos =>
    have u19 : decide (fb < wrap64 (wrap64 ((fa / 86400 + (i : Int)) * 86400) + wrap64 (3600 * (h : Int)))) = true := by rw [ow.1]; exact decide_eq_true c1
    refine run_ 1 K rfl fun a K => ld_ K M 0 rfl rfl rfl rfl rfl rfl e8 rfl fun a K => run_ 4 K rfl fun a K => ld_ K M 0 rfl rfl rfl rfl rfl rfl R.c0 rfl fun a K => run_ 1 K rfl fun a K => cl_ K Tryz.func60 (by kernel_rfl) rfl rfl rfl rfl rfl rfl ((FH _ _ M.bl).mono ?_)
    rintro _ w8 ⟨rfl, b8⟩
    replace M := M.call b8
    refine ⟨_, rfl, fun a K => run_ 2 K rfl fun a K => run_ 7 (fx_ K u10) rfl fun a K => run_ 11 (fx_ K u19) rfl fun a K => nil_ ?_⟩
    exact ct_ K rfl rfl (ex_ (thn_ ⟨v, fg_ K ⟨rfl, rfl, rfl, rfl, rfl, rfl, rfl, rfl, rfl, rfl, trivial⟩, by rw [hour_skip hh (Or.inr (Or.inl c1))]; exact ⟨Kd.R_below Rv b8, F, hlen, M⟩⟩))
  have u19 : decide (fb < wrap64 (wrap64 ((fa / 86400 + (i : Int)) * 86400) + wrap64 (3600 * (h : Int)))) = false := by rw [ow.1]; exact decide_eq_false c1
  refine run_ 1 K rfl fun a K => ld_ K M 0 rfl rfl rfl rfl rfl rfl e8 rfl fun a K => run_ 4 K rfl fun a K => ld_ K M 0 rfl rfl rfl rfl rfl rfl R.c0 rfl fun a K => run_ 1 K rfl fun a K => cl_ K Tryz.func60 (by kernel_rfl) rfl rfl rfl rfl rfl rfl ((FH _ _ M.bl).mono ?_)
  rintro _ w8 ⟨rfl, b8⟩
  replace M := M.call b8
  refine ⟨_, rfl, fun a K => run_ 2 K rfl fun a K => run_ 7 (fx_ K u10) rfl fun a K => run_ 11 (fx_ K u19) rfl fun a K => nil_ ?_⟩
  replace Rv := Kd.R_below Rv b8
  by_cases c2 : (fa / 86400 + (i : Int)) * 86400 + 3600 * (h : Int) + 3599 < fa
  case pos => exact ct_ K rfl (by rw [ow.1, ow.2.1]; exact decide_eq_true c2) (ex_ (thn_ ⟨v, fg_ K ⟨rfl, rfl, rfl, rfl, rfl, rfl, rfl, rfl, rfl, rfl, trivial⟩, by rw [hour_skip hh (Or.inr (Or.inr c2))]; exact ⟨Rv, F, hlen, M⟩⟩))
  refine cs_ K rfl (by rw [ow.1, ow.2.1]; exact decide_eq_false c2) (sr_ (run_ 1 K rfl fun a K => nil_ (wp_block (wp_loop (fun a W => ∃ (m : Nat) (v : Value), m ≤ 60 ∧ Kn 166 [(20, .int .i64 (m : Int)), (19, .int .i64 (h : Int)), (18, .int .i64 (fa / 86400 + (i : Int))), (11, v), (14, .int .i64 (fb / 86400)), (17, .int .i64 (st % 86400)), (5, .pointer (some ⟨g0, 0, none⟩)), (1, .int .i64 st), (2, .int .i64 fa), (3, .int .i64 fb), (4, .int .i64 (most : Int))] a ∧ Kd.R (Kd.int .i64) 3 W w.heap.size (fun _ => True) v (U r st fa fb i h m 0) ∧ some g0 ≠ v.ownBlock ∧ (U r st fa fb i h m 0).length ≤ most ∧ On [(g0, .cells cs 25 (0, 0))] w W) (fun a _ => leftN 20 60 a) ⟨0, v, Nat.zero_le _, fg_ K ⟨rfl, rfl, rfl, rfl, rfl, rfl, rfl, rfl, rfl, rfl, rfl, trivial⟩, Rv, F, hlen, M⟩ ?_))))
  clear K M Rv F hlen c1 c2 u10 u19 ow
  rintro a W ⟨m, v, hi3, K, Rv, F, hlen, M⟩
  have KL := leftN_ (n := 60) (d := 20) K rfl
  refine wp_seq (sr_ (run_ 2 K rfl fun a2 K2 => nil_ ?_))
  by_cases hm : m < 60
  case neg =>
    obtain rfl := nat_eq hi3 hm
    rw [U_hour] at Rv hlen
    exact cf_ K2 rfl (ge60 hm) (ex_ ⟨v, fg_ K2 ⟨rfl, rfl, rfl, rfl, rfl, rfl, rfl, rfl, rfl, rfl, trivial⟩, Rv, F, hlen, M⟩)
  refine ck_ K2 rfl (lt60 hm) (wp_seq (bjn_ (fun a' W' => ∃ v', Kn 166 [(20, .int .i64 (m : Int)), (19, .int .i64 (h : Int)), (18, .int .i64 (fa / 86400 + (i : Int))), (11, v'), (14, .int .i64 (fb / 86400)), (17, .int .i64 (st % 86400)), (5, .pointer (some ⟨g0, 0, none⟩)), (1, .int .i64 st), (2, .int .i64 fa), (3, .int .i64 fb), (4, .int .i64 (most : Int))] a' ∧ Kd.R (Kd.int .i64) 3 W' w.heap.size (fun _ => True) v' (U r st fa fb i h (m + 1) 0) ∧ some g0 ≠ v'.ownBlock ∧ (U r st fa fb i h (m + 1) 0).length ≤ most ∧ On [(g0, .cells cs 25 (0, 0))] w W') (wp_seq (sr_ ?_)) ?_))
  case refine_2 =>
    rintro a' W' ⟨v', K', R', F', l', M'⟩
    have ic := up_inc hm (by decide)
    refine rg_ (run_ 3 K' rfl fun a5 K5 => nl_ ⟨⟨m + 1, v', hm, fg_ (ks_ (i := 20) K5 rfl (congrArg (Value.int .i64) ic)) ⟨rfl, rfl, rfl, rfl, rfl, rfl, rfl, rfl, rfl, rfl, rfl, trivial⟩, R', F', l', M'⟩, ?_⟩)
    rw [leftN_ (d := 20) K5 rfl, KL, ic]
    exact leftN_lt hm
  replace K := K2
  clear K2 KL
  have ow := OW (x := 0) hc hh hm (by decide)
  cases em : oneV r.mi (m : Int) (st % 86400 % 3600 / 60) (decide (2 < r.fr)) with
  | false =>
    have u11 : (!oneV r.mi (m : Int) (st % 86400 % 3600 / 60) (decide (2 < r.fr))) = true := by rw [em]; rfl
    refine run_ 1 K rfl fun a K => ld_ K M 0 rfl rfl rfl rfl rfl rfl e7 rfl fun a K => run_ 5 K rfl fun a K => ld_ K M 0 rfl rfl rfl rfl rfl rfl R.c0 rfl fun a K => run_ 1 K rfl fun a K => cl_ K Tryz.func60 (by kernel_rfl) rfl rfl rfl rfl rfl rfl ((FM _ _ M.bl).mono ?_)
    rintro _ w9 ⟨rfl, b9⟩
    replace M := M.call b9
    refine ⟨_, rfl, fun a K => run_ 2 K rfl fun a K => run_ 24 (fx_ K u11) rfl fun a K => nil_ ?_⟩
    exact ct_ K rfl rfl (ex_ (thn_ ⟨v, fg_ K ⟨rfl, rfl, rfl, rfl, rfl, rfl, rfl, rfl, rfl, rfl, rfl, trivial⟩, by rw [min_skip hh hm (Or.inl em)]; exact ⟨Kd.R_below Rv b9, F, hlen, M⟩⟩))
  | true =>
  have u11 : (!oneV r.mi (m : Int) (st % 86400 % 3600 / 60) (decide (2 < r.fr))) = false := by rw [em]; rfl
  by_cases c1 : fb < (fa / 86400 + (i : Int)) * 86400 + 3600 * (h : Int) + 60 * (m : Int)
  case pos =>
    have u23 : decide (fb < wrap64 (wrap64 (wrap64 ((fa / 86400 + (i : Int)) * 86400) + wrap64 (3600 * (h : Int))) + wrap64 (60 * (m : Int)))) = true := by rw [ow.1, ow.2.2.1]; exact decide_eq_true c1
    refine run_ 1 K rfl fun a K => ld_ K M 0 rfl rfl rfl rfl rfl rfl e7 rfl fun a K => run_ 5 K rfl fun a K => ld_ K M 0 rfl rfl rfl rfl rfl rfl R.c0 rfl fun a K => run_ 1 K rfl fun a K => cl_ K Tryz.func60 (by kernel_rfl) rfl rfl rfl rfl rfl rfl ((FM _ _ M.bl).mono ?_)
    rintro _ w9 ⟨rfl, b9⟩
    replace M := M.call b9
    refine ⟨_, rfl, fun a K => run_ 2 K rfl fun a K => run_ 10 (fx_ K u11) rfl fun a K => run_ 14 (fx_ K u23) rfl fun a K => nil_ ?_⟩
    exact ct_ K rfl rfl (ex_ (thn_ ⟨v, fg_ K ⟨rfl, rfl, rfl, rfl, rfl, rfl, rfl, rfl, rfl, rfl, rfl, trivial⟩, by rw [min_skip hh hm (Or.inr (Or.inl c1))]; exact ⟨Kd.R_below Rv b9, F, hlen, M⟩⟩))
  have u23 : decide (fb < wrap64 (wrap64 (wrap64 ((fa / 86400 + (i : Int)) * 86400) + wrap64 (3600 * (h : Int))) + wrap64 (60 * (m : Int)))) = false := by rw [ow.1, ow.2.2.1]; exact decide_eq_false c1
  refine run_ 1 K rfl fun a K => ld_ K M 0 rfl rfl rfl rfl rfl rfl e7 rfl fun a K => run_ 5 K rfl fun a K => ld_ K M 0 rfl rfl rfl rfl rfl rfl R.c0 rfl fun a K => run_ 1 K rfl fun a K => cl_ K Tryz.func60 (by kernel_rfl) rfl rfl rfl rfl rfl rfl ((FM _ _ M.bl).mono ?_)
  rintro _ w9 ⟨rfl, b9⟩
  replace M := M.call b9
  refine ⟨_, rfl, fun a K => run_ 2 K rfl fun a K => run_ 10 (fx_ K u11) rfl fun a K => run_ 14 (fx_ K u23) rfl fun a K => nil_ ?_⟩
  replace Rv := Kd.R_below Rv b9
  by_cases c2 : (fa / 86400 + (i : Int)) * 86400 + 3600 * (h : Int) + 60 * (m : Int) + 59 < fa
  case pos => exact ct_ K rfl (by rw [ow.1, ow.2.2.1, ow.2.2.2.1]; exact decide_eq_true c2) (ex_ (thn_ ⟨v, fg_ K ⟨rfl, rfl, rfl, rfl, rfl, rfl, rfl, rfl, rfl, rfl, rfl, trivial⟩, by rw [min_skip hh hm (Or.inr (Or.inr c2))]; exact ⟨Rv, F, hlen, M⟩⟩))
  refine cs_ K rfl (by rw [ow.1, ow.2.2.1, ow.2.2.2.1]; exact decide_eq_false c2) (sr_ (run_ 1 K rfl fun a K => nil_ (wp_block (wp_loop (fun a W => ∃ (x : Nat) (v : Value), x ≤ 60 ∧ Kn 166 [(21, .int .i64 (x : Int)), (20, .int .i64 (m : Int)), (19, .int .i64 (h : Int)), (18, .int .i64 (fa / 86400 + (i : Int))), (11, v), (14, .int .i64 (fb / 86400)), (17, .int .i64 (st % 86400)), (5, .pointer (some ⟨g0, 0, none⟩)), (1, .int .i64 st), (2, .int .i64 fa), (3, .int .i64 fb), (4, .int .i64 (most : Int))] a ∧ Kd.R (Kd.int .i64) 3 W w.heap.size (fun _ => True) v (U r st fa fb i h m x) ∧ some g0 ≠ v.ownBlock ∧ (U r st fa fb i h m x).length ≤ most ∧ On [(g0, .cells cs 25 (0, 0))] w W) (fun a _ => leftN 21 60 a) ⟨0, v, Nat.zero_le _, fg_ K ⟨rfl, rfl, rfl, rfl, rfl, rfl, rfl, rfl, rfl, rfl, rfl, rfl, trivial⟩, Rv, F, hlen, M⟩ ?_))))
  clear K M Rv F hlen c1 c2 u11 u23 ow
  rintro a W ⟨x, v, hi4, K, Rv, F, hlen, M⟩
  have KL := leftN_ (n := 60) (d := 21) K rfl
  refine wp_seq (sr_ (run_ 2 K rfl fun a2 K2 => nil_ ?_))
  by_cases hx : x < 60
  case neg =>
    obtain rfl := nat_eq hi4 hx
    rw [U_min] at Rv hlen
    exact cf_ K2 rfl (ge60 hx) (ex_ ⟨v, fg_ K2 ⟨rfl, rfl, rfl, rfl, rfl, rfl, rfl, rfl, rfl, rfl, rfl, trivial⟩, Rv, F, hlen, M⟩)
  have ow := OW hc hh hm hx
  have et : wrap64 (wrap64 (wrap64 (wrap64 ((fa / 86400 + (i : Int)) * 86400) + wrap64 (3600 * (h : Int))) + wrap64 (60 * (m : Int))) + (x : Int)) = tX fa i h m x := by rw [ow.1, ow.2.2.1, ow.2.2.2.2]; rfl
  have sa := sec_at (r := r) (st := st) (a := fa) (b := fb) hh hm hx ed eh em
  refine ck_ K2 rfl (lt60 hx) (wp_seq (bjn_ (fun a' W' => ∃ v', Kn 166 [(21, .int .i64 (x : Int)), (20, .int .i64 (m : Int)), (19, .int .i64 (h : Int)), (18, .int .i64 (fa / 86400 + (i : Int))), (11, v'), (14, .int .i64 (fb / 86400)), (17, .int .i64 (st % 86400)), (5, .pointer (some ⟨g0, 0, none⟩)), (1, .int .i64 st), (2, .int .i64 fa), (3, .int .i64 fb), (4, .int .i64 (most : Int))] a' ∧ Kd.R (Kd.int .i64) 3 W' w.heap.size (fun _ => True) v' (U r st fa fb i h m (x + 1)) ∧ some g0 ≠ v'.ownBlock ∧ (U r st fa fb i h m (x + 1)).length ≤ most ∧ On [(g0, .cells cs 25 (0, 0))] w W') (sr_ (run_ 11 K2 rfl fun a K => nil_ ?_)) ?_))
  case refine_2 =>
    rintro a' W' ⟨v', K', R', F', l', M'⟩
    have ic := up_inc hx (by decide)
    refine rg_ (run_ 3 K' rfl fun a5 K5 => nl_ ⟨⟨x + 1, v', hx, fg_ (ks_ (i := 21) K5 rfl (congrArg (Value.int .i64) ic)) ⟨rfl, rfl, rfl, rfl, rfl, rfl, rfl, rfl, rfl, rfl, rfl, rfl, trivial⟩, R', F', l', M'⟩, ?_⟩)
    rw [leftN_ (d := 21) K5 rfl, KL, ic]
    exact leftN_lt hx
  replace K := fg_ (E' := [(22, .int .i64 (tX fa i h m x)), (21, .int .i64 (x : Int)), (20, .int .i64 (m : Int)), (19, .int .i64 (h : Int)), (18, .int .i64 (fa / 86400 + (i : Int))), (11, v), (14, .int .i64 (fb / 86400)), (17, .int .i64 (st % 86400)), (5, .pointer (some ⟨g0, 0, none⟩)), (1, .int .i64 st), (2, .int .i64 fa), (3, .int .i64 fb), (4, .int .i64 (most : Int))]) (ks_ (i := 22) K rfl (congrArg (Value.int .i64) et)) ⟨rfl, rfl, rfl, rfl, rfl, rfl, rfl, rfl, rfl, rfl, rfl, rfl, rfl, trivial⟩
  clear K2 KL ow et
  refine wp_seq (sr_ ?_)
  by_cases c1 : tX fa i h m x < fa
  case pos =>
    have u2 := decide_eq_true c1
    have no : ofP r st fa fb (tX fa i h m x) = false := by rw [sa, decide_eq_false (fun q => absurd c1 (Int.not_lt.2 q.1)), Bool.false_and]
    refine run_ 3 K rfl fun a K => run_ 17 (fx_ K u2) rfl fun a K => nil_ ?_
    exact ct_ K rfl rfl (ex_ (thn_ ⟨v, fg_ K ⟨rfl, rfl, rfl, rfl, rfl, rfl, rfl, rfl, rfl, rfl, rfl, rfl, trivial⟩, by rw [sec_no no]; exact ⟨Rv, F, hlen, M⟩⟩))
  have u2 := decide_eq_false c1
  by_cases c2 : fb < tX fa i h m x
  case pos =>
    have u6 := decide_eq_true c2
    have no : ofP r st fa fb (tX fa i h m x) = false := by rw [sa, decide_eq_false (fun q => absurd c2 (Int.not_lt.2 q.2)), Bool.false_and]
    refine run_ 3 K rfl fun a K => run_ 4 (fx_ K u2) rfl fun a K => run_ 13 (fx_ K u6) rfl fun a K => nil_ ?_
    exact ct_ K rfl rfl (ex_ (thn_ ⟨v, fg_ K ⟨rfl, rfl, rfl, rfl, rfl, rfl, rfl, rfl, rfl, rfl, rfl, rfl, trivial⟩, by rw [sec_no no]; exact ⟨Rv, F, hlen, M⟩⟩))
  have u6 := decide_eq_false c2
  rw [decide_eq_true (show fa ≤ tX fa i h m x ∧ tX fa i h m x ≤ fb from ⟨Int.not_lt.1 c1, Int.not_lt.1 c2⟩), Bool.true_and] at sa
  refine run_ 3 K rfl fun a K => run_ 4 (fx_ K u2) rfl fun a K => run_ 3 (fx_ K u6) rfl fun a K => ld_ K M 0 rfl rfl rfl rfl rfl rfl e6 rfl fun a K => run_ 4 K rfl fun a K => ld_ K M 0 rfl rfl rfl rfl rfl rfl R.c0 rfl fun a K => run_ 1 K rfl fun a K => cl_ K Tryz.func60 (by kernel_rfl) rfl rfl rfl rfl rfl rfl ((FS _ _ M.bl).mono ?_)
  rintro _ w17 ⟨rfl, b17⟩
  replace M := M.call b17
  refine ⟨_, rfl, fun a K => run_ 2 K rfl fun a K => nil_ ?_⟩
  replace Rv := Kd.R_below Rv b17
  cases es : oneV r.sec (x : Int) (st % 86400 % 60) (decide (1 < r.fr)) with
  | false =>
    rw [es] at sa
    exact ct_ K rfl (by rw [es]; rfl) (ex_ (thn_ ⟨v, fg_ K ⟨rfl, rfl, rfl, rfl, rfl, rfl, rfl, rfl, rfl, rfl, rfl, rfl, trivial⟩, by rw [sec_no sa]; exact ⟨Rv, F, hlen, M⟩⟩))
  | true =>
  rw [es] at sa
  have sy := sec_yes sa
  obtain ⟨A0, c0, ev, _⟩ := Kd.R_reads Rv
  subst ev
  refine cs_ K rfl (by rw [es]; rfl) (sr_ (run_ 2 K rfl fun a K => ap1_ K M rfl rfl rfl rfl rfl rfl rfl rfl rfl (fun _ => rfl) Rv (fun p hp => by obtain rfl : p = (g0, .cells cs 25 (0, 0)) := (by simpa using hp); exact F) (len_17 hlen hmo) fun a v1 W4 u R4 M F4 K => run_ 1 K rfl fun a K => nil_ ?_))
  obtain ⟨A1, cc1, ev, _⟩ := Kd.R_reads R4
  subst ev
  refine sr_ (run_ 4 K rfl fun a K => nil_ ?_)
  by_cases c3 : (U r st fa fb i h m x ++ [tX fa i h m x]).length ≤ most
  case neg =>
    have l1 := len_1 hlen c3
    rw [← sy] at l1
    have cc := CUT hc hh hm hx l1
    exact ct_ K rfl (len_gt c3) (sr_ (run_ 2 K rfl fun a K => nil_ (ret_ rfl K rfl ⟨_, rfl, by rw [← cc, sy]; exact R4, M.bl⟩)))
  exact cf_ K rfl (len_le c3) (wp_skip ⟨_, fg_ K ⟨rfl, rfl, rfl, rfl, rfl, rfl, rfl, rfl, rfl, rfl, rfl, rfl, trivial⟩, by rw [sy]; exact ⟨R4, F4 _ (.head _), c3, M⟩⟩)
theorem Of2_on {w : World} {cs : Array Value} {r : RR} (R : Rul w cs r) (hR : Right r) {st p : Int} (hs : InT st) (ha : InT (spanW r p).1) (hb : InT (spanW r p).2) {most : Nat} (hmo : most ≤ 1000000) :
    Calls Tryz.prog 28 #[.agg cs, .int .i64 st, .int .i64 (spanW r p).1, .int .i64 (spanW r p).2, .int .i64 (most : Int)] w fun e W' => ∃ v', e = .returned v' ∧ Kd.R (Kd.int .i64) 3 W' w.heap.size (fun _ => True) v' ((letsL r st (spanW r p).1 (spanW r p).2).take (most + 1)) ∧ Below w.heap.size w W' :=
  Of3_on R hR hs ha hb hmo (fun hi hh hm hx q => of_cut hR hi hh hm hx q) (fun q => of_end hR q)
end Go.Proofs.YtjjaiahfkiojlaaGreat.Pure
