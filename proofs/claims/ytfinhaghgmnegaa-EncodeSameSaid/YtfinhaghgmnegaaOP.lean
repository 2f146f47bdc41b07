/- A struct stored cell by cell into its block: the block behind it. -/
import Derived.Test.YtfinhaghgmnegaaOx0
namespace Go.Proofs.Ytfinhaghgmnegaa.O
open Go.RowKit Go.Proofs.YtfinhaghgmnegaaW.PrintWords
theorem puts3 {w : World} {g : Nat} {t : TypeId} {cs : Array Value} {v0 v1 v2 : Value} (h : w.heap[g]? = some (.cells cs t (0, 0))) (hs : cs.size = 3) :
    (((w.setCell ⟨g, 0, none⟩ v0).setCell ⟨g, 1, none⟩ v1).setCell ⟨g, 2, none⟩ v2).heap[g]? = some (.cells #[v0, v1, v2] t (0, 0)) := by
  obtain ⟨l⟩ := cs
  have hs0 : l.length = 3 := hs
  obtain ⟨c0, l0, rfl⟩ := List.exists_cons_of_length_eq_add_one hs0
  have hs1 : l0.length = 2 := by simpa using hs0
  obtain ⟨c1, l1, rfl⟩ := List.exists_cons_of_length_eq_add_one hs1
  have hs2 : l1.length = 1 := by simpa using hs1
  obtain ⟨c2, l2, rfl⟩ := List.exists_cons_of_length_eq_add_one hs2
  have hs3 : l2.length = 0 := by simpa using hs2
  obtain rfl := List.length_eq_zero_iff.1 hs3
  have := (blk_set (blk_set (blk_set h 0 v0) 1 v1) 2 v2)
  simpa only [List.setIfInBounds_toArray, List.set_cons_zero, List.set_cons_succ] using this
end Go.Proofs.Ytfinhaghgmnegaa.O
