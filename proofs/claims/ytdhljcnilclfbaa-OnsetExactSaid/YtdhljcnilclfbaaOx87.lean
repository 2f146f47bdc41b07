/- How an argument that is a list of rules opens to its cells. No condition. -/
import Derived.Test.YtdhljcnilclfbaaOx0
import Derived.Deep.Slices
import Derived.Deep.Fields
import Derived.ChangeSame
namespace Go.Proofs.Ytdhljcnilclfbaa.O
open Go.RowKit Go.ChangeShapes Go.WideShapes Go.Deep Go.Proofs.YtdhljcnilclfbaaW.PrintWords
def enc43 (x : S43) : List Value := [.string x.f0, .int .i64 x.f1, .int .i64 x.f2, .int .i64 x.f3, .int .i64 x.f4.f0, .int .i64 x.f4.f1, .int .i64 x.f4.f2, .int .i64 x.f5.f0, .int .i64 x.f5.f1, .int .i64 x.f6, .string x.f7]
theorem cl3 : Try.prog.cellsOf 3 = 1 := by kernel_rfl
theorem cl9 : Try.prog.cellsOf 9 = 1 := by kernel_rfl
theorem cl39 : Try.prog.cellsOf 39 = 3 := by kernel_rfl
theorem cl41 : Try.prog.cellsOf 41 = 2 := by kernel_rfl
theorem cl43 : Try.prog.cellsOf 43 = 11 := by kernel_rfl
section
variable {H : Type} {enc : TypeId × Value → H} {W : World} {sp : Nat → Bool} {held : Bool}
theorem int1 {n : Nat} {v : Value} {x : DataW H × List MemPlace} (h : DataW.trod enc Try.prog W 0 sp held n 3 [v] = some x) : ∃ a, v = .int .i64 a := by
  obtain ⟨a, e, _, _⟩ := DataW.trod_int Try.underlying3 h
  exact ⟨a, by simpa using e⟩
theorem str1 {n : Nat} {v : Value} {x : DataW H × List MemPlace} (h : DataW.trod enc Try.prog W 0 sp held n 9 [v] = some x) : ∃ a, v = .string a := by
  obtain ⟨a, e, _, _⟩ := DataW.trod_string Try.underlying9 h
  exact ⟨a, by simpa using e⟩
theorem at_of {α : Type} {l : List α} {j : Nat} (h : j < l.length) : ∃ y, l[j]? = some y := ⟨_, List.getElem?_eq_getElem h⟩
theorem on3 {n : Nat} {v0 v1 v2 : Value} {x : DataW H × List MemPlace} (h : DataW.trod enc Try.prog W 0 sp held n 39 [v0, v1, v2] = some x) : ∃ a b c, v0 = .int .i64 a ∧ v1 = .int .i64 b ∧ v2 = .int .i64 c := by
  obtain ⟨xs, n1, _, _, _, hxl, hf⟩ := DataW.trod_struct Try.underlying39 h
  have hx : xs.length = 3 := hxl
  obtain ⟨y0, e0⟩ := at_of (l := xs) (j := 0) (by omega)
  obtain ⟨y1, e1⟩ := at_of (l := xs) (j := 1) (by omega)
  obtain ⟨y2, e2⟩ := at_of (l := xs) (j := 2) (by omega)
  have h0 : DataW.trod enc Try.prog W 0 sp held n1 3 (([v0, v1, v2].drop 0).take (Try.prog.cellsOf 3)) = some y0 := (hf 0 _ rfl).trans e0
  rw [cl3] at h0
  have h0 : DataW.trod enc Try.prog W 0 sp held n1 3 [v0] = some y0 := h0
  have h1 : DataW.trod enc Try.prog W 0 sp held n1 3 (([v0, v1, v2].drop 1).take (Try.prog.cellsOf 3)) = some y1 := (hf 1 _ rfl).trans e1
  rw [cl3] at h1
  have h1 : DataW.trod enc Try.prog W 0 sp held n1 3 [v1] = some y1 := h1
  have h2 : DataW.trod enc Try.prog W 0 sp held n1 3 (([v0, v1, v2].drop 2).take (Try.prog.cellsOf 3)) = some y2 := (hf 2 _ rfl).trans e2
  rw [cl3] at h2
  have h2 : DataW.trod enc Try.prog W 0 sp held n1 3 [v2] = some y2 := h2
  obtain ⟨a, ha⟩ := int1 h0
  obtain ⟨b, hb⟩ := int1 h1
  obtain ⟨c, hc⟩ := int1 h2
  exact ⟨a, b, c, ha, hb, hc⟩
theorem at2 {n : Nat} {v0 v1 : Value} {x : DataW H × List MemPlace} (h : DataW.trod enc Try.prog W 0 sp held n 41 [v0, v1] = some x) : ∃ a b, v0 = .int .i64 a ∧ v1 = .int .i64 b := by
  obtain ⟨xs, n1, _, _, _, hxl, hf⟩ := DataW.trod_struct Try.underlying41 h
  have hx : xs.length = 2 := hxl
  obtain ⟨y0, e0⟩ := at_of (l := xs) (j := 0) (by omega)
  obtain ⟨y1, e1⟩ := at_of (l := xs) (j := 1) (by omega)
  have h0 : DataW.trod enc Try.prog W 0 sp held n1 3 (([v0, v1].drop 0).take (Try.prog.cellsOf 3)) = some y0 := (hf 0 _ rfl).trans e0
  rw [cl3] at h0
  have h0 : DataW.trod enc Try.prog W 0 sp held n1 3 [v0] = some y0 := h0
  have h1 : DataW.trod enc Try.prog W 0 sp held n1 3 (([v0, v1].drop 1).take (Try.prog.cellsOf 3)) = some y1 := (hf 1 _ rfl).trans e1
  rw [cl3] at h1
  have h1 : DataW.trod enc Try.prog W 0 sp held n1 3 [v1] = some y1 := h1
  obtain ⟨a, ha⟩ := int1 h0
  obtain ⟨b, hb⟩ := int1 h1
  exact ⟨a, b, ha, hb⟩
set_option maxRecDepth 100000 in
theorem elem43 {n : Nat} {cs : List Value} {x : DataW H × List MemPlace} (h : DataW.trod enc Try.prog W 0 sp held n 43 cs = some x) : ∃ r : S43, cs = enc43 r := by
  obtain ⟨xs, n1, _, _, hlen, hxl, hf⟩ := DataW.trod_struct Try.underlying43 h
  rw [cl43] at hlen
  have hx : xs.length = 8 := hxl
  match cs, hlen with
  | [v0, v1, v2, v3, v4, v5, v6, v7, v8, v9, v10], _ =>
    obtain ⟨y0, e0⟩ := at_of (l := xs) (j := 0) (by omega)
    obtain ⟨y1, e1⟩ := at_of (l := xs) (j := 1) (by omega)
    obtain ⟨y2, e2⟩ := at_of (l := xs) (j := 2) (by omega)
    obtain ⟨y3, e3⟩ := at_of (l := xs) (j := 3) (by omega)
    obtain ⟨y4, e4⟩ := at_of (l := xs) (j := 4) (by omega)
    obtain ⟨y5, e5⟩ := at_of (l := xs) (j := 5) (by omega)
    obtain ⟨y6, e6⟩ := at_of (l := xs) (j := 6) (by omega)
    obtain ⟨y7, e7⟩ := at_of (l := xs) (j := 7) (by omega)
    have h0 : DataW.trod enc Try.prog W 0 sp held n1 9 (([v0, v1, v2, v3, v4, v5, v6, v7, v8, v9, v10].drop 0).take (Try.prog.cellsOf 9)) = some y0 := (hf 0 _ rfl).trans e0
    rw [cl9] at h0
    have h0 : DataW.trod enc Try.prog W 0 sp held n1 9 [v0] = some y0 := h0
    have h1 : DataW.trod enc Try.prog W 0 sp held n1 3 (([v0, v1, v2, v3, v4, v5, v6, v7, v8, v9, v10].drop 1).take (Try.prog.cellsOf 3)) = some y1 := (hf 1 _ rfl).trans e1
    rw [cl3] at h1
    have h1 : DataW.trod enc Try.prog W 0 sp held n1 3 [v1] = some y1 := h1
    have h2 : DataW.trod enc Try.prog W 0 sp held n1 3 (([v0, v1, v2, v3, v4, v5, v6, v7, v8, v9, v10].drop 2).take (Try.prog.cellsOf 3)) = some y2 := (hf 2 _ rfl).trans e2
    rw [cl3] at h2
    have h2 : DataW.trod enc Try.prog W 0 sp held n1 3 [v2] = some y2 := h2
    have h3 : DataW.trod enc Try.prog W 0 sp held n1 3 (([v0, v1, v2, v3, v4, v5, v6, v7, v8, v9, v10].drop 3).take (Try.prog.cellsOf 3)) = some y3 := (hf 3 _ rfl).trans e3
    rw [cl3] at h3
    have h3 : DataW.trod enc Try.prog W 0 sp held n1 3 [v3] = some y3 := h3
    have h4 : DataW.trod enc Try.prog W 0 sp held n1 39 (([v0, v1, v2, v3, v4, v5, v6, v7, v8, v9, v10].drop 4).take (Try.prog.cellsOf 39)) = some y4 := (hf 4 _ rfl).trans e4
    rw [cl39] at h4
    have h4 : DataW.trod enc Try.prog W 0 sp held n1 39 [v4, v5, v6] = some y4 := h4
    have h5 : DataW.trod enc Try.prog W 0 sp held n1 41 (([v0, v1, v2, v3, v4, v5, v6, v7, v8, v9, v10].drop 7).take (Try.prog.cellsOf 41)) = some y5 := (hf 5 _ rfl).trans e5
    rw [cl41] at h5
    have h5 : DataW.trod enc Try.prog W 0 sp held n1 41 [v7, v8] = some y5 := h5
    have h6 : DataW.trod enc Try.prog W 0 sp held n1 3 (([v0, v1, v2, v3, v4, v5, v6, v7, v8, v9, v10].drop 9).take (Try.prog.cellsOf 3)) = some y6 := (hf 6 _ rfl).trans e6
    rw [cl3] at h6
    have h6 : DataW.trod enc Try.prog W 0 sp held n1 3 [v9] = some y6 := h6
    have h7 : DataW.trod enc Try.prog W 0 sp held n1 9 (([v0, v1, v2, v3, v4, v5, v6, v7, v8, v9, v10].drop 10).take (Try.prog.cellsOf 9)) = some y7 := (hf 7 _ rfl).trans e7
    rw [cl9] at h7
    have h7 : DataW.trod enc Try.prog W 0 sp held n1 9 [v10] = some y7 := h7
    obtain ⟨a0, rfl⟩ := str1 h0
    obtain ⟨a1, rfl⟩ := int1 h1
    obtain ⟨a2, rfl⟩ := int1 h2
    obtain ⟨a3, rfl⟩ := int1 h3
    obtain ⟨a4, a5, a6, rfl, rfl, rfl⟩ := on3 h4
    obtain ⟨a7, a8, rfl, rfl⟩ := at2 h5
    obtain ⟨a9, rfl⟩ := int1 h6
    obtain ⟨a10, rfl⟩ := str1 h7
    exact ⟨⟨a0, a1, a2, a3, ⟨a4, a5, a6⟩, ⟨a7, a8⟩, a9, a10⟩, rfl⟩
theorem open_rules {a : Option Addr} {len cap : Nat} {d : DataW H} {ps : List MemPlace} (h : DataW.Trod enc Try.prog W 0 (fun _ => true) held 22 (.slice a len cap) d ps) :
    ∃ l : List S43, l.length = len ∧ len ≤ cap ∧ Kd.C k43 W a l.length l := by
  obtain ⟨fuel, hf⟩ := h
  rcases open_slice Try.underlying22 hf with ⟨hcs, _⟩ | ⟨x, l, c, m, n, D, Pl, hcs, _, hl, hm, hmm, _, hi⟩
  · simp [Value.cells] at hcs
    obtain ⟨rfl, rfl, rfl⟩ := hcs
    exact ⟨[], rfl, Nat.le_refl _, rfl, by simp, fun h => absurd h (by simp)⟩
  · simp [Value.cells] at hcs
    obtain ⟨rfl, rfl, rfl⟩ := hcs
    have hm' : m = cap := by simpa using hmm
    have hall : ∀ i : Fin len, ∃ r : S43, ∀ j u, (enc43 r)[j]? = some u → W.cell? (x.add (i.1 * 11 + j)) = some u := by
      intro i
      obtain ⟨cs', hc, ht⟩ := hi i.1 (by have := i.2; omega)
      obtain ⟨r, rfl⟩ := elem43 ht
      refine ⟨r, fun j u hj => ?_⟩
      obtain ⟨_, hcl, hat⟩ := World.cells?_some hc
      have hjl : j < (enc43 r).length := (List.getElem?_eq_some_iff.1 hj).1
      have h1 := hat j (by rw [cl43]; exact hjl)
      rw [cl43] at h1
      rw [← Go.Deep.add_add, h1]
      exact hj
    obtain ⟨f, hf2⟩ := Classical.axiomOfChoice hall
    refine ⟨List.ofFn f, by simp, hl, rfl, by simp [maxLen] at hm ⊢; omega, fun _ => ⟨x, rfl, fun j p hp => ?_⟩⟩
    obtain ⟨hj, e⟩ := List.getElem?_eq_some_iff.1 hp
    have hj' : j < len := by simpa using hj
    have e2 : p = f ⟨j, hj'⟩ := by rw [← e]; simp
    subst e2
    exact ⟨enc43 (f ⟨j, hj'⟩), rfl, k43_mk W _, fun i u hu => hf2 ⟨j, hj'⟩ i u hu⟩
end
end Go.Proofs.Ytdhljcnilclfbaa.O
