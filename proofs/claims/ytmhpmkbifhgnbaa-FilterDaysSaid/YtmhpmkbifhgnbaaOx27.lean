-- What some functions of the program compute: a text of this claim's own (lines first written by the kit's tool, some proved anew).
import Derived.Test.YtmhpmkbifhgnbaaOx0
import Derived.Test.YtmhpmkbifhgnbaaOx26
namespace Go.Proofs.Ytmhpmkbifhgnbaa.O
open Go.RowKit Go.Proofs.YtmhpmkbifhgnbaaW.PrintWords Go.Proofs.YtmhpmkbifhgnbaaW.PrintLast Go.Proofs.YtmhpmkbifhgnbaaW.PrintMore
attribute [local go_sem] max2_int min2_int max_two min_two max_three min_three max_four min_four   -- for this text's walks alone
set_option linter.unusedVariables false
set_option linter.unusedSimpArgs false

/-! ### filter_least: function 39 -/
def filter_least.f (k : Nat)  : Option (Int) := (filter_number.f k 1 1 1).bind fun t178 => (some (wrap64 (t178 * 86400)))
theorem filter_least.mono : ∀ k, LeO (filter_least.f k ) (filter_least.f (k + 1) ) := by
  intro  k
  unfold filter_least.f
  repeat' first
      | (with_reducible exact filter_number.mono _ _ _ _)
      | (with_reducible exact LeO.refl _)
      | (with_reducible exact LeO.none _)
      | (with_reducible refine LeO.ite ?_ ?_)
      | (with_reducible refine LeO.bind ?_ (fun _ => ?_))
      | exact filter_number.mono _ _ _ _
      | exact LeO.none _
      | refine LeO.ite ?_ ?_
      | refine LeO.bind ?_ (fun _ => ?_)
set_option maxHeartbeats 8000000 in
set_option maxRecDepth 100000 in
theorem filter_least.calls (k : Nat)  (r : Int) (w : World) (h : filter_least.f k  = some r) :
    Calls Try.prog 39 #[] w fun e w' => e = .returned (.int .i64 r) ∧ Below w.heap.size w w' := by
  have HB := Aside0.mk (Below.refl w.heap.size w)
  have H : ((filter_number.f k 1 1 1).bind fun t178 => (some (wrap64 (t178 * 86400)))) = some r := h
  clear h
  replace H := Option.bind_eq_some_iff.mp H
  obtain ⟨t178, A10, H⟩ := H
  replace H : (some (wrap64 (t178 * 86400))) = some r := H
  have A1 := Aside0.mk A10
  clear A10
  obtain rfl := Option.some.inj H
  go_enter Try.func39, Try.ntmps39
  go_wp2_with (first | ((with_reducible refine gate_callee (f := 70) rfl ?_); refine goesL_ (some 1) rfl rfl Try.func70 (by kernel_rfl) rfl #[.int .i64 1, .int .i64 1, .int .i64 1] rfl (by (try simp only [List.map_toArray, List.map_cons, List.map_nil]); first | done | rfl | (simp only [List.length_drop, List.length_take]; rfl)) ?_; (with_reducible refine (filter_number.calls k 1 1 1 t178 _ A1.out).mono ?_); rintro e w2 ⟨rfl, hb⟩; refine ⟨_, rfl, ?_⟩; have n0_ := Aside0.mk (below_step (by repeat (first | (with_reducible first | exact HB.out | apply below_alloc | apply pw_below_drewN | apply below_drew1) | exact HB.out)) hb); clear HB; have HB := n0_; clear n0_; (try clear hb); (try clear hb2); (try clear hk); (try clear hi)))
  go_ret
  exact ⟨by first | rfl | (simp [errW_none, errW_some] <;> rfl) | (simp [*, errW_none, errW_some] <;> rfl), by repeat (first | (with_reducible first | exact HB.out | apply below_alloc | apply pw_below_drewN | apply below_drew1) | exact HB.out)⟩

end Go.Proofs.Ytmhpmkbifhgnbaa.O
