/- EncodeMoves answers true. No condition. -/
import Derived.Test.YtfinhaghgmnegaaE24w
import Derived.Test.YtfinhaghgmnegaaOx10
namespace Go.Proofs.Ytfinhaghgmnegaa.Pure
open Go.RowKit Go.Proofs.Ytfinhaghgmnegaa.O Go.Proofs.YtfinhaghgmnegaaW.PrintWords Go.Proofs.YtfinhaghgmnegaaW.PrintLast
open Go.Proofs.Ytfinhaghgmnegaa.Civ
set_option linter.unusedVariables false
set_option linter.unusedSimpArgs false
set_option maxRecDepth 100000
set_option maxHeartbeats 4000000
/-- The numbers of a move. -/
theorem mv_ok {s kd std sv : Int} (hs : -345600 ≤ s ∧ s ≤ 345600) (ht : -86399 ≤ std ∧ std ≤ 86399) (hv : -86399 ≤ sv ∧ sv ≤ 86399) (k0 : 1 ≤ kd) (k1 : kd ≤ 3) : ∃ q r u, moveV s kd std sv (wrap64 (std + sv)) = (q, r, true) ∧ moveV s kd std sv 172801 = (0, 0, false) ∧ utcP s kd std sv ∧ utcV s kd std sv = u ∧ ¬ r < 0 ∧ ¬ 86400 ≤ r ∧ wrap64 (wrap64 (q * 86400) + r) = wrap64 (wrap64 (u + std) + sv) ∧ (kd = 1 → wrap64 (wrap64 (q * 86400) + r) = s) := by
  have hb := utcV_bd (kd := kd) (s := s) hs.1 hs.2 (std := std) (by omega) (by omega) (sv := sv) (by omega) (by omega)
  have hm : moveV s kd std sv (std + sv) = ((utcV s kd std sv + (std + sv)) / 86400, (utcV s kd std sv + (std + sv)) % 86400, true) := by
    unfold moveV; rw [if_pos]; unfold moveP; omega
  have hn : moveV s kd std sv 172801 = (0, 0, false) := by
    unfold moveV; rw [if_neg]; unfold moveP; omega
  have hu : utcP s kd std sv := by unfold utcP; omega
  have h1 : kd = 1 → utcV s kd std sv = s - std - sv := fun c => by unfold utcV; rw [if_pos c]
  rw [w64 (x := std + sv) (by omega) (by omega)]
  refine ⟨_, _, _, hm, hn, hu, rfl, ?_⟩
  generalize utcV s kd std sv = u at *
  rw [w64 (x := (u + (std + sv)) / 86400 * 86400) (by omega) (by omega), w64 (x := (u + (std + sv)) / 86400 * 86400 + (u + (std + sv)) % 86400) (by omega) (by omega), w64 (x := u + std) (by omega) (by omega), w64 (x := u + std + sv) (by omega) (by omega)]
  refine ⟨by omega, by omega, by omega, fun c => ?_⟩
  have := h1 c
  omega
theorem utc_on {w : World} (s kd std sv : Int) : Calls Try.prog 13 #[.int .i64 s, .int .i64 kd, .int .i64 std, .int .i64 sv] w (Rets w (.tuple #[.int .i64 (if utcP s kd std sv then (utcV s kd std sv, true) else (0, false)).1, .bool (if utcP s kd std sv then (utcV s kd std sv, true) else (0, false)).2])) := by
  obtain ⟨k, h⟩ := (autc s kd std sv).rounds
  exact (atform_Utc.calls k s kd std sv _ _ w h).mono fun _ _ => rets_drawn
theorem EncodeMoves_on {w : World} (a0 a1 a2 a3 : Int) : Calls Try.prog 4 #[.int .i64 a0, .int .i64 a1, .int .i64 a2, .int .i64 a3] w (Rets w (.bool true)) := by
  obtain ⟨kd, k0, k1, ek⟩ := um1 a1 (n := 3) (by decide) (by decide)
  have hs : -345600 ≤ Int.tmod a0 345601 ∧ Int.tmod a0 345601 ≤ 345600 := by rw [tmod_if]; split <;> omega
  have ht : -86399 ≤ Int.tmod a2 86400 ∧ Int.tmod a2 86400 ≤ 86399 := by rw [tmod_if]; split <;> omega
  have hv : -86399 ≤ Int.tmod a3 86400 ∧ Int.tmod a3 86400 ≤ 86399 := by rw [tmod_if]; split <;> omega
  obtain ⟨q, r, u, em, en, eu, eU, r0, r1, e1, e2⟩ := mv_ok hs ht hv k0 k1
  refine en_ Try.func4 rfl rfl rfl fun a K => sr_ (run_ 1 K rfl fun a K => nil_ (sr_ (run_ 7 K rfl fun a K => ?_)))
  generalize Int.tmod a0 345601 = s at *
  generalize hstd : Int.tmod a2 86400 = std at *
  generalize hsv : Int.tmod a3 86400 = sv at *
  have C7 : ∀ W, Calls Try.prog 7 #[.agg #[.int .i64 s, .int .i64 kd], .int .i64 std, .int .i64 sv, .int .i64 (wrap64 (std + sv))] W (Rets W (.tuple #[.int .i64 q, .int .i64 r, .bool true])) := fun W => by
    have := move_on (w := W) s kd std sv (wrap64 (std + sv))
    rw [em] at this
    exact this
  have C7n : ∀ W, Calls Try.prog 7 #[.agg #[.int .i64 s, .int .i64 kd], .int .i64 std, .int .i64 sv, .int .i64 172801] W (Rets W (.tuple #[.int .i64 0, .int .i64 0, .bool false])) := fun W => by
    have := move_on (w := W) s kd std sv 172801
    rw [en] at this
    exact this
  have C13 : ∀ W, Calls Try.prog 13 #[.int .i64 s, .int .i64 kd, .int .i64 std, .int .i64 sv] W (Rets W (.tuple #[.int .i64 u, .bool true])) := fun W => by
    have := utc_on (w := W) s kd std sv
    rw [if_pos eu, eU] at this
    exact this
  replace K := fg_ (E' := [(19, .int .i64 s), (24, .int .i64 kd), (2, .int .i64 a2), (3, .int .i64 a3)]) (ks_ (i := 24) (u := .int .i64 kd) K rfl (congrArg (Value.int .i64) ek)) ⟨rfl, rfl, rfl, rfl, trivial⟩
  clear em en eu eU hs ht hv k0 k1 ek
  have n1 : (!true) = false := rfl
  have n2 := decide_eq_false r0
  have n3 := decide_eq_false r1
  have n4 := decide_eq_true e1
  have n5 : (!false) = true := rfl
  refine val_ K rfl rfl rfl (run_b25 rfl (K.of (x := .tmp 19) rfl) (K.of (x := .tmp 24) rfl)) fun a K => nw_ K (On.nil w) rfl rfl rfl rfl rfl rfl rfl (fun _ => rfl) rfl rfl rfl fun a g9 W M K => nil_ (sr_ (run_ 6 K rfl fun a K => nil_ ?_))
  replace K := fg_ (E' := [(2, .int .i64 std), (3, .int .i64 sv), (9, .pointer (some ⟨g9, 0, none⟩))]) (ks_ (i := 2) (u := .int .i64 std) (ks_ (i := 3) (u := .int .i64 sv) K rfl (congrArg (Value.int .i64) hsv)) rfl (congrArg (Value.int .i64) hstd)) ⟨rfl, rfl, rfl, trivial⟩
  refine sr_ (lda_ K M 0 rfl rfl rfl rfl rfl rfl rfl rfl fun a K => run_ 5 K rfl fun a K => cl_ K Try.func7 (by kernel_rfl) rfl rfl rfl rfl rfl rfl ((C7 _).mono ?_))
  rintro _ w2 ⟨rfl, b2⟩
  replace M := M.call b2
  refine ⟨_, rfl, fun a K => run_ 7 K rfl fun a K => nil_ (sr_ ?_)⟩
  refine run_ 1 K rfl fun a K => ld_ K M 0 rfl rfl rfl rfl rfl rfl rfl rfl fun a K => run_ 1 K rfl fun a K => ld_ K M 0 rfl rfl rfl rfl rfl rfl rfl rfl fun a K => run_ 2 K rfl fun a K => cl_ K Try.func13 (by kernel_rfl) rfl rfl rfl rfl rfl rfl ((C13 _).mono ?_)
  rintro _ w6 ⟨rfl, b6⟩
  replace M := M.call b6
  refine ⟨_, rfl, fun a K => run_ 5 K rfl fun a K => nil_ ?_⟩
  refine wp_seq (sr_ ?_)
  refine run_ 3 K rfl fun a K => run_ 4 (fx_ K n1) rfl fun a K => run_ 4 (fx_ K n1) rfl fun a K => run_ 4 (fx_ K n2) rfl fun a K => run_ 11 (fx_ K n3) rfl fun a K => nil_ ?_
  refine cs_ K rfl (by rw [n4]; rfl) (sr_ (lda_ K M 0 rfl rfl rfl rfl rfl rfl rfl rfl fun a K => run_ 2 K rfl fun a K => cl_ K Try.func7 (by kernel_rfl) rfl rfl rfl rfl rfl rfl ((C7n _).mono ?_)))
  rintro _ w3 ⟨rfl, b3⟩
  replace M := M.call b3
  refine ⟨_, rfl, fun a K => run_ 7 K rfl fun a K => nil_ (sr_ ?_)⟩
  by_cases c1 : kd = 1
  · have m1 : (!decide (kd = 1)) = false := by rw [decide_eq_true c1]; rfl
    have m2 := decide_eq_true (e2 c1)
    refine run_ 1 K rfl fun a K => ld_ K M 0 rfl rfl rfl rfl rfl rfl rfl rfl fun a K => run_ 2 K rfl fun a K => run_ 5 (fx_ K m1) rfl fun a K => ld_ K M 0 rfl rfl rfl rfl rfl rfl rfl rfl fun a K => run_ 3 K rfl fun a K => run_ 4 (fx_ K m2) rfl fun a K => cl_ (fx_ K n5) Try.func12 (by kernel_rfl) rfl rfl rfl rfl rfl rfl ((wakes_on).mono ?_)
    rintro _ w17 ⟨rfl, b17⟩
    replace M := M.call b17
    refine ⟨_, rfl, fun a K => run_ 2 K rfl fun a K => nil_ ?_⟩
    exact ret_ rfl K rfl ⟨rfl, M.bl⟩
  · have m1 : (!decide (kd = 1)) = true := by rw [decide_eq_false c1]; rfl
    refine run_ 1 K rfl fun a K => ld_ K M 0 rfl rfl rfl rfl rfl rfl rfl rfl fun a K => run_ 2 K rfl fun a K => run_ 13 (fx_ K m1) rfl fun a K => cl_ (fx_ K n5) Try.func12 (by kernel_rfl) rfl rfl rfl rfl rfl rfl ((wakes_on).mono ?_)
    rintro _ w17 ⟨rfl, b17⟩
    replace M := M.call b17
    refine ⟨_, rfl, fun a K => run_ 2 K rfl fun a K => nil_ ?_⟩
    exact ret_ rfl K rfl ⟨rfl, M.bl⟩
end Go.Proofs.Ytfinhaghgmnegaa.Pure
