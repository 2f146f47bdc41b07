/- wakes of the statements of layer 24 answers true. No condition. -/
import Derived.Test.YtfinhaghgmnegaaE24n
import Derived.Test.YtfinhaghgmnegaaME24k
import Derived.Test.YtfinhaghgmnegaaOx0
namespace Go.Proofs.Ytfinhaghgmnegaa.Pure
open Go.RowKit Go.Proofs.Ytfinhaghgmnegaa.O Go.Proofs.YtfinhaghgmnegaaW.PrintWords Go.Proofs.YtfinhaghgmnegaaW.PrintLast
open Go.Proofs.Ytfinhaghgmnegaa.Civ
set_option linter.unusedVariables false
set_option linter.unusedSimpArgs false
set_option maxRecDepth 100000
set_option maxHeartbeats 4000000
theorem ln3 : ln 2001 3 = 31 := by decide
theorem wk_e0 : onE 3 3 0 8 0 = 0 := by
  unfold onE
  rw [if_pos (show OnR 3 0 8 by unfold OnR; omega), if_neg (by omega), if_pos]
  unfold encP fst24 many24
  rw [ln3]
  decide
theorem wk_e1 : onE 3 3 0 26 0 = 17 := by
  unfold onE
  rw [if_pos (show OnR 3 0 26 by unfold OnR; omega), if_neg (by omega), if_neg]
  unfold encP fst24 many24
  rw [ln3]
  decide
theorem wk_r : onR 3 3 0 8 0 = { monR 3 with dy := [⟨2, 0⟩] } := by
  have e : fst24 3 8 0 = 8 := by decide
  unfold onR
  rw [if_neg (by decide), if_neg (by decide), e]
  unfold sevR
  rw [if_pos (by decide)]
  rfl
theorem wk_m : moveV 3600 3 3600 0 3600 = (0, 7200, true) := by
  unfold moveV
  rw [if_pos (by unfold moveP; omega)]
  unfold utcV
  rw [if_neg (by decide), if_neg (by decide)]
  rfl
section
variable {ρ : Operand → Value} {o : Oper} {w : World}
theorem run_f54 {x : Operand} {p : Addr} {i : Nat} (hi : i < 2) (ho : o.op = .fieldAddr 54 x i) (hx : ρ x = .pointer (some p)) : (execOp ρ o).run Try.prog w = .ok (.value (.pointer (some (p.add i)))) w := by
  have hu54 := Try.underlying54
  unfold execOp; rw [ho]
  match i, hi with
  | 0, _ => go_simp
  | 1, _ => go_simp
  | n + 2, h => exact absurd h (by omega)
end
theorem wakes_on {w : World} : Calls Try.prog 12 #[] w (Rets w (.bool true)) := by
  have c1 := fun w => on_on (w := w) 3 3 0 8 (mv := 0) (by decide) (by decide)
  rw [wk_e0, wk_r, if_pos rfl] at c1
  have c2 := fun w => on_on (w := w) 3 3 0 26 (mv := 0) (by decide) (by decide)
  rw [wk_e1, if_neg (by decide)] at c2
  have c3 := fun w => move_on (w := w) 3600 3 3600 0 3600
  rw [wk_m] at c3
  refine en_ Try.func12 rfl rfl rfl fun a K => sr_ (run_ 1 K rfl fun a K => nil_ (sr_ (val_ K rfl rfl rfl (run_b23 rfl rfl rfl) fun a K => cl_ K Try.func6 (by kernel_rfl) rfl rfl rfl rfl rfl rfl ((c1 _).mono ?_))))
  rintro _ w1 ⟨cs, rfl, R, o1, b1⟩
  have M := ((On.nil w).call b1).here
  have z := (R _ (Keep.refl _)).sz
  refine ⟨_, rfl, fun a K => run_ 3 K rfl fun a K => nw_ K M rfl rfl rfl rfl rfl rfl rfl (fun _ => rfl) rfl z o1 fun a g0 W M K => run_ 1 K rfl fun a K => nil_ (sr_ (val_ K rfl rfl rfl (run_b25 rfl rfl rfl) fun a K => cl_ K Try.func7 (by kernel_rfl) rfl rfl rfl rfl rfl rfl ((c3 _).mono ?_)))⟩
  rintro _ w2 ⟨rfl, b2⟩
  replace M := M.call b2
  refine ⟨_, rfl, fun a K => run_ 7 K rfl fun a K => nil_ (sr_ (val_ K rfl rfl rfl (run_b23 rfl rfl rfl) fun a K => cl_ K Try.func6 (by kernel_rfl) rfl rfl rfl rfl rfl rfl ((c2 _).mono ?_)))⟩
  rintro _ w3 ⟨cs2, rfl, R2, o2, b3⟩
  replace M := M.call b3
  have z2 := (R2 _ (Keep.refl _)).sz
  refine ⟨_, rfl, fun a K => run_ 3 K rfl fun a K => nw_ K M rfl rfl rfl rfl rfl rfl rfl (fun _ => rfl) rfl z2 o2 fun a g1 W M K => run_ 1 K rfl fun a K => nil_ (sr_ ?_)⟩
  obtain ⟨A, c, e9, q9, h9⟩ := (R W (keep_below M.bl)).c9
  obtain ⟨ad, ea, x0, x1⟩ := at_T54 h9 0 (by decide) (by decide)
  subst ea
  refine run_ 2 K rfl fun a K => run_ 2 (fx_ (c := true) K (by decide)) rfl fun a K => ld_ K M 1 rfl rfl rfl rfl rfl rfl e9 rfl fun a K => run_ 2 K rfl fun a K => run_ 3 (fx_ (c := true) K (by decide)) rfl fun a K => ld_ K M 1 rfl rfl rfl rfl rfl rfl e9 rfl fun a K => val_ K rfl rfl rfl (run_ix27 (kk := 0) (by decide) (by decide) rfl (K.of (x := .tmp 34) rfl) rfl) fun a K => val_ K rfl rfl rfl (run_f54 (by decide) rfl (K.of (x := .tmp 35) rfl)) fun a K => val_ K rfl rfl rfl (run_ld (v := .int .i64 2) rfl rfl (K.of (x := .tmp 36) rfl) x0) fun a K => ?_
  refine run_ 1 K rfl fun a K => run_ 3 (fx_ (c := true) K (by decide)) rfl fun a K => ld_ K M 1 rfl rfl rfl rfl rfl rfl e9 rfl fun a K => val_ K rfl rfl rfl (run_ix27 (kk := 0) (by decide) (by decide) rfl (K.of (x := .tmp 42) rfl) rfl) fun a K => val_ K rfl rfl rfl (run_f54 (by decide) rfl (K.of (x := .tmp 43) rfl)) fun a K => val_ K rfl rfl rfl (run_ld (v := .int .i64 0) rfl rfl (K.of (x := .tmp 44) rfl) x1) fun a K => ?_
  refine run_ 1 K rfl fun a K => run_ 7 (fx_ (c := true) K (by decide)) rfl fun a K => run_ 4 (fx_ (c := true) K (by decide)) rfl fun a K => run_ 4 (fx_ (c := true) K (by decide)) rfl fun a K => run_ 2 (fx_ (c := true) K (by decide)) rfl fun a K => nil_ (ret_ rfl K rfl ⟨rfl, below_step b1 M.bl⟩)
end Go.Proofs.Ytfinhaghgmnegaa.Pure
