/- What wakes of layer 3 computes, and small words for its statements. -/
import Derived.Test.YtlefnaoflajnmaaG303
import Derived.Test.YtlefnaoflajnmaaOx11
import Derived.Test.YtlefnaoflajnmaaOx15
import Derived.Test.YtlefnaoflajnmaaOx16
import Derived.Test.YtlefnaoflajnmaaOx27
namespace Go.Proofs.Ytlefnaoflajnmaa.Pure
open Go.RowKit Go.Proofs.Ytlefnaoflajnmaa.O Go.Proofs.YtlefnaoflajnmaaW.PrintWords Go.Proofs.YtlefnaoflajnmaaW.PrintLast
open Go.Proofs.Ytlefnaoflajnmaa.Civ
theorem wakes_ev : Ev (fun k => solsticelaw03_wakes.f k) true := Ev.of solsticelaw03_wakes.mono (k := 12000) (by decide +kernel)
theorem um (a : Int) {n : Int} (hn : 0 < n) (hn' : n ≤ 1000000) : ∃ r, 0 ≤ r ∧ r < n ∧ wrap64 (Int.tmod (IntKind.u64.wrap a) n) = r := by
  have h0 : 0 ≤ IntKind.u64.wrap a := by rw [u64w]; omega
  have h1 := Int.emod_nonneg (IntKind.u64.wrap a) (Int.ne_of_gt hn)
  have h2 := Int.emod_lt_of_pos (IntKind.u64.wrap a) hn
  exact ⟨IntKind.u64.wrap a % n, h1, h2, by rw [tmod_nn n h0, w64 (by omega) (by omega)]⟩
theorem um1 (a : Int) {n : Int} (hn : 0 < n) (hn' : n ≤ 1000000) : ∃ r, 1 ≤ r ∧ r ≤ n ∧ wrap64 (1 + wrap64 (Int.tmod (IntKind.u64.wrap a) n)) = r := by
  obtain ⟨r, h0, h1, e⟩ := um a hn hn'
  exact ⟨1 + r, by omega, by omega, by rw [e, w64 (by omega) (by omega)]⟩
theorem u64s {x : Int} (h : 0 ≤ x) (h' : x ≤ 1000000) : IntKind.u64.wrap x = x := by rw [u64w]; omega
theorem wres_ok {y m kd w d : Int} (ho : OnR kd w d) (hy : 1 ≤ y) (hy' : y ≤ 9999) (hr : Rt y m (fday y m kd d)) : Ev (fun k => week_Resolve.f k y m kd w d) (fres y m kd w d, 0) := by
  have := wres y m kd w d
  unfold resV at this
  rwa [if_pos ho, if_neg (by omega), if_pos hr] at this
theorem wno_ok {n k : Int} (hk : 0 ≤ k) (hk' : k ≤ 6) (h : -719162 ≤ n) (h' : n ≤ 2932896) : Ev (fun q => week_No.f q n k) (yr (mid n k), (n - fw (yr (mid n k)) k) / 7 + 1, 0) := by
  have := wno n k
  have r := (yr_range (n := n) (by omega) (by omega)).2 ⟨h, h'⟩
  unfold noV at this
  rwa [if_pos ⟨hk, hk'⟩, if_pos ⟨by omega, by omega, r.1, r.2⟩] at this
theorem wweeks_ok {y k : Int} (hk : 0 ≤ k) (hk' : k ≤ 6) (h : 1 ≤ y) (h' : y ≤ 9999) : Ev (fun q => week_Weeks.f q y k) ((fw (y + 1) k - fw y k) / 7, 0) := by
  have := wweeks y k
  unfold weeksV at this
  rwa [if_pos ⟨hk, hk'⟩, if_pos ⟨h, h'⟩] at this
end Go.Proofs.Ytlefnaoflajnmaa.Pure
