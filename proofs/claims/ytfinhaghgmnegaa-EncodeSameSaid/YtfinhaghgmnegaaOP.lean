/- A struct stored cell by cell into its block: the block behind it. -/
import Derived.Test.YtfinhaghgmnegaaOx0
namespace Go.Proofs.Ytfinhaghgmnegaa.O
open Go.RowKit Go.Proofs.YtfinhaghgmnegaaW.PrintWords
theorem puts2 {w : World} {g : Nat} {t : TypeId} {cs : Array Value} {v0 v1 : Value} (h : w.heap[g]? = some (.cells cs t (0, 0))) (hs : cs.size = 2) :
    ((w.setCell ⟨g, 0, none⟩ v0).setCell ⟨g, 1, none⟩ v1).heap[g]? = some (.cells #[v0, v1] t (0, 0)) := by
  obtain ⟨l⟩ := cs
  have hs0 : l.length = 2 := hs
  obtain ⟨c0, l0, rfl⟩ := List.exists_cons_of_length_eq_add_one hs0
  have hs1 : l0.length = 1 := by simpa using hs0
  obtain ⟨c1, l1, rfl⟩ := List.exists_cons_of_length_eq_add_one hs1
  have hs2 : l1.length = 0 := by simpa using hs1
  obtain rfl := List.length_eq_zero_iff.1 hs2
  have := (blk_set (blk_set h 0 v0) 1 v1)
  simpa only [List.setIfInBounds_toArray, List.set_cons_zero, List.set_cons_succ] using this
theorem puts3 {w : World} {g : Nat} {t : TypeId} {cs : Array Value} {v0 v1 v2 : Value} (h : w.heap[g]? = some (.cells cs t (0, 0))) (hs : cs.size = 3) :
    (((w.setCell ⟨g, 0, none⟩ v0).setCell ⟨g, 1, none⟩ v1).setCell ⟨g, 2, none⟩ v2).heap[g]? = some (.cells #[v0, v1, v2] t (0, 0)) := by
  obtain ⟨l⟩ := cs
  have hs0 : l.length = 3 := hs
  obtain ⟨c0, l0, rfl⟩ := List.exists_cons_of_length_eq_add_one hs0
  have hs1 : l0.length = 2 := by simpa using hs0
  obtain ⟨c1, l1, rfl⟩ := List.exists_cons_of_length_eq_add_one hs1
  have hs2 : l1.length = 1 := by simpa using hs1
  obtain ⟨c2, l2, rfl⟩ := List.exists_cons_of_length_eq_add_one hs2
  have hs3 : l2.length = 0 := by simpa using hs2
  obtain rfl := List.length_eq_zero_iff.1 hs3
  have := (blk_set (blk_set (blk_set h 0 v0) 1 v1) 2 v2)
  simpa only [List.setIfInBounds_toArray, List.set_cons_zero, List.set_cons_succ] using this
theorem puts16 {w : World} {g : Nat} {t : TypeId} {cs : Array Value} {v0 v1 v2 v3 v4 v5 v6 v7 v8 v9 v10 v11 v12 v13 v14 v15 : Value} (h : w.heap[g]? = some (.cells cs t (0, 0))) (hs : cs.size = 16) :
    ((((((((((((((((w.setCell ⟨g, 0, none⟩ v0).setCell ⟨g, 1, none⟩ v1).setCell ⟨g, 2, none⟩ v2).setCell ⟨g, 3, none⟩ v3).setCell ⟨g, 4, none⟩ v4).setCell ⟨g, 5, none⟩ v5).setCell ⟨g, 6, none⟩ v6).setCell ⟨g, 7, none⟩ v7).setCell ⟨g, 8, none⟩ v8).setCell ⟨g, 9, none⟩ v9).setCell ⟨g, 10, none⟩ v10).setCell ⟨g, 11, none⟩ v11).setCell ⟨g, 12, none⟩ v12).setCell ⟨g, 13, none⟩ v13).setCell ⟨g, 14, none⟩ v14).setCell ⟨g, 15, none⟩ v15).heap[g]? = some (.cells #[v0, v1, v2, v3, v4, v5, v6, v7, v8, v9, v10, v11, v12, v13, v14, v15] t (0, 0)) := by
  obtain ⟨l⟩ := cs
  have hs0 : l.length = 16 := hs
  obtain ⟨c0, l0, rfl⟩ := List.exists_cons_of_length_eq_add_one hs0
  have hs1 : l0.length = 15 := by simpa using hs0
  obtain ⟨c1, l1, rfl⟩ := List.exists_cons_of_length_eq_add_one hs1
  have hs2 : l1.length = 14 := by simpa using hs1
  obtain ⟨c2, l2, rfl⟩ := List.exists_cons_of_length_eq_add_one hs2
  have hs3 : l2.length = 13 := by simpa using hs2
  obtain ⟨c3, l3, rfl⟩ := List.exists_cons_of_length_eq_add_one hs3
  have hs4 : l3.length = 12 := by simpa using hs3
  obtain ⟨c4, l4, rfl⟩ := List.exists_cons_of_length_eq_add_one hs4
  have hs5 : l4.length = 11 := by simpa using hs4
  obtain ⟨c5, l5, rfl⟩ := List.exists_cons_of_length_eq_add_one hs5
  have hs6 : l5.length = 10 := by simpa using hs5
  obtain ⟨c6, l6, rfl⟩ := List.exists_cons_of_length_eq_add_one hs6
  have hs7 : l6.length = 9 := by simpa using hs6
  obtain ⟨c7, l7, rfl⟩ := List.exists_cons_of_length_eq_add_one hs7
  have hs8 : l7.length = 8 := by simpa using hs7
  obtain ⟨c8, l8, rfl⟩ := List.exists_cons_of_length_eq_add_one hs8
  have hs9 : l8.length = 7 := by simpa using hs8
  obtain ⟨c9, l9, rfl⟩ := List.exists_cons_of_length_eq_add_one hs9
  have hs10 : l9.length = 6 := by simpa using hs9
  obtain ⟨c10, l10, rfl⟩ := List.exists_cons_of_length_eq_add_one hs10
  have hs11 : l10.length = 5 := by simpa using hs10
  obtain ⟨c11, l11, rfl⟩ := List.exists_cons_of_length_eq_add_one hs11
  have hs12 : l11.length = 4 := by simpa using hs11
  obtain ⟨c12, l12, rfl⟩ := List.exists_cons_of_length_eq_add_one hs12
  have hs13 : l12.length = 3 := by simpa using hs12
  obtain ⟨c13, l13, rfl⟩ := List.exists_cons_of_length_eq_add_one hs13
  have hs14 : l13.length = 2 := by simpa using hs13
  obtain ⟨c14, l14, rfl⟩ := List.exists_cons_of_length_eq_add_one hs14
  have hs15 : l14.length = 1 := by simpa using hs14
  obtain ⟨c15, l15, rfl⟩ := List.exists_cons_of_length_eq_add_one hs15
  have hs16 : l15.length = 0 := by simpa using hs15
  obtain rfl := List.length_eq_zero_iff.1 hs16
  have := (blk_set (blk_set (blk_set (blk_set (blk_set (blk_set (blk_set (blk_set (blk_set (blk_set (blk_set (blk_set (blk_set (blk_set (blk_set (blk_set h 0 v0) 1 v1) 2 v2) 3 v3) 4 v4) 5 v5) 6 v6) 7 v7) 8 v8) 9 v9) 10 v10) 11 v11) 12 v12) 13 v13) 14 v14) 15 v15)
  simpa only [List.setIfInBounds_toArray, List.set_cons_zero, List.set_cons_succ] using this
theorem held16 {w : World} {g : Nat} {t : TypeId} {v0 v1 v2 v3 v4 v5 v6 v7 v8 v9 v10 v11 v12 v13 v14 v15 : Value} (h : w.heap[g]? = some (.cells #[v0, v1, v2, v3, v4, v5, v6, v7, v8, v9, v10, v11, v12, v13, v14, v15] t (0, 0))) :
    w.cell? ⟨g, 0, none⟩ = some v0 ∧ w.cell? ⟨g, 1, none⟩ = some v1 ∧ w.cell? ⟨g, 2, none⟩ = some v2 ∧ w.cell? ⟨g, 3, none⟩ = some v3 ∧ w.cell? ⟨g, 4, none⟩ = some v4 ∧ w.cell? ⟨g, 5, none⟩ = some v5 ∧ w.cell? ⟨g, 6, none⟩ = some v6 ∧ w.cell? ⟨g, 7, none⟩ = some v7 ∧ w.cell? ⟨g, 8, none⟩ = some v8 ∧ w.cell? ⟨g, 9, none⟩ = some v9 ∧ w.cell? ⟨g, 10, none⟩ = some v10 ∧ w.cell? ⟨g, 11, none⟩ = some v11 ∧ w.cell? ⟨g, 12, none⟩ = some v12 ∧ w.cell? ⟨g, 13, none⟩ = some v13 ∧ w.cell? ⟨g, 14, none⟩ = some v14 ∧ w.cell? ⟨g, 15, none⟩ = some v15 ∧
    w.frozen? ⟨g, 0, none⟩ = false ∧ w.frozen? ⟨g, 1, none⟩ = false ∧ w.frozen? ⟨g, 2, none⟩ = false ∧ w.frozen? ⟨g, 3, none⟩ = false ∧ w.frozen? ⟨g, 4, none⟩ = false ∧ w.frozen? ⟨g, 5, none⟩ = false ∧ w.frozen? ⟨g, 6, none⟩ = false ∧ w.frozen? ⟨g, 7, none⟩ = false ∧ w.frozen? ⟨g, 8, none⟩ = false ∧ w.frozen? ⟨g, 9, none⟩ = false ∧ w.frozen? ⟨g, 10, none⟩ = false ∧ w.frozen? ⟨g, 11, none⟩ = false ∧ w.frozen? ⟨g, 12, none⟩ = false ∧ w.frozen? ⟨g, 13, none⟩ = false ∧ w.frozen? ⟨g, 14, none⟩ = false ∧ w.frozen? ⟨g, 15, none⟩ = false :=
  ⟨(blk_cell h 0).trans rfl, (blk_cell h 1).trans rfl, (blk_cell h 2).trans rfl, (blk_cell h 3).trans rfl, (blk_cell h 4).trans rfl, (blk_cell h 5).trans rfl, (blk_cell h 6).trans rfl, (blk_cell h 7).trans rfl, (blk_cell h 8).trans rfl, (blk_cell h 9).trans rfl, (blk_cell h 10).trans rfl, (blk_cell h 11).trans rfl, (blk_cell h 12).trans rfl, (blk_cell h 13).trans rfl, (blk_cell h 14).trans rfl, (blk_cell h 15).trans rfl, blk_frozen h 0, blk_frozen h 1, blk_frozen h 2, blk_frozen h 3, blk_frozen h 4, blk_frozen h 5, blk_frozen h 6, blk_frozen h 7, blk_frozen h 8, blk_frozen h 9, blk_frozen h 10, blk_frozen h 11, blk_frozen h 12, blk_frozen h 13, blk_frozen h 14, blk_frozen h 15⟩
theorem puts16' {w : World} {g : Nat} {t : TypeId} {c0 c1 c2 c3 c4 c5 c6 c7 c8 c9 c10 c11 c12 c13 c14 c15 v0 v1 v2 v3 v4 v5 v6 v7 v8 v9 v10 v11 v12 v13 v14 v15 : Value} (h : w.heap[g]? = some (.cells #[c0, c1, c2, c3, c4, c5, c6, c7, c8, c9, c10, c11, c12, c13, c14, c15] t (0, 0))) :
    (((((((((((((((((w.setCell ⟨g, 0, none⟩ v0).setCell ⟨g, 1, none⟩ v1).setCell ⟨g, 2, none⟩ v2).setCell ⟨g, 3, none⟩ v3).setCell ⟨g, 4, none⟩ v4).setCell ⟨g, 5, none⟩ v5).setCell ⟨g, 6, none⟩ v6).setCell ⟨g, 7, none⟩ v7).setCell ⟨g, 8, none⟩ v8).setCell ⟨g, 9, none⟩ v9).setCell ⟨g, 10, none⟩ v10).setCell ⟨g, 11, none⟩ v11).setCell ⟨g, 12, none⟩ v12).setCell ⟨g, 13, none⟩ v13).setCell ⟨g, 14, none⟩ v14).setCell ⟨g, 15, none⟩ v15)).heap[g]? = some (.cells #[v0, v1, v2, v3, v4, v5, v6, v7, v8, v9, v10, v11, v12, v13, v14, v15] t (0, 0)) := puts16 h rfl
end Go.Proofs.Ytfinhaghgmnegaa.O
