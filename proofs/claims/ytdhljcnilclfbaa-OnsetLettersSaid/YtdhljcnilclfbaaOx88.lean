/- How an argument that is a list of whole numbers, or of bools, opens to its cells. No condition. -/
import Derived.Test.YtdhljcnilclfbaaOx0
import Derived.Deep.Slices
import Derived.Deep.Fields
import Derived.ChangeSame
namespace Go.Proofs.Ytdhljcnilclfbaa.O
open Go.RowKit Go.ChangeShapes Go.WideShapes Go.Deep Go.Proofs.YtdhljcnilclfbaaW.PrintWords
section
variable {H : Type} {enc : TypeId × Value → H} {W : World} {held : Bool}
theorem open_elems {α : Type} {t e : TypeId} (ht : Try.prog.underlying t = some (.slice e)) (hc1 : Try.prog.cellsOf e = 1) (ev : α → Value)
    (he : ∀ (n : Nat) (cs : List Value) (x : DataW H × List MemPlace), DataW.trod enc Try.prog W 0 (fun _ => true) held n e cs = some x → ∃ r : α, cs = [ev r])
    {a : Option Addr} {len cap : Nat} {d : DataW H} {ps : List MemPlace} (h : DataW.Trod enc Try.prog W 0 (fun _ => true) held t (.slice a len cap) d ps) :
    ∃ l : List α, l.length = len ∧ len ≤ cap ∧ len ≤ 9223372036854775807 ∧ (0 < len → ∃ ad, a = some ad ∧ ∀ (j : Nat) (p : α), l[j]? = some p → ∀ (i : Nat) (u : Value), [ev p][i]? = some u → W.cell? (ad.add (j * 1 + i)) = some u) := by
  obtain ⟨fuel, hf⟩ := h
  rcases open_slice ht hf with ⟨hcs, _⟩ | ⟨x, l, c, m, n, D, Pl, hcs, _, hl, hm, hmm, _, hi⟩
  · simp [Value.cells] at hcs
    obtain ⟨rfl, rfl, rfl⟩ := hcs
    exact ⟨[], rfl, Nat.le_refl _, by simp, fun h => absurd h (by simp)⟩
  · simp [Value.cells] at hcs
    obtain ⟨rfl, rfl, rfl⟩ := hcs
    have hm' : m = cap := by simpa using hmm
    have hall : ∀ i : Fin len, ∃ r : α, ∀ (j : Nat) (u : Value), [ev r][j]? = some u → W.cell? (x.add (i.1 * 1 + j)) = some u := by
      intro i
      obtain ⟨cs', hc, ht'⟩ := hi i.1 (by have := i.2; omega)
      obtain ⟨r, rfl⟩ := he _ _ _ ht'
      refine ⟨r, fun j u hj => ?_⟩
      obtain ⟨_, hcl, hat⟩ := World.cells?_some hc
      have hjl : j < [ev r].length := (List.getElem?_eq_some_iff.1 hj).1
      have h1 := hat j (by rw [hc1]; simpa using hjl)
      rw [hc1] at h1
      rw [← Go.Deep.add_add, h1]
      exact hj
    obtain ⟨f, hf2⟩ := Classical.axiomOfChoice hall
    refine ⟨List.ofFn f, by simp, hl, by simp [maxLen] at hm ⊢; omega, fun _ => ⟨x, rfl, fun j p hp i u hu => ?_⟩⟩
    obtain ⟨hj, e⟩ := List.getElem?_eq_some_iff.1 hp
    have hj' : j < len := by simpa using hj
    have e2 : p = f ⟨j, hj'⟩ := by rw [← e]; simp
    subst e2
    exact hf2 ⟨j, hj'⟩ i u hu
theorem open_nums {a : Option Addr} {len cap : Nat} {d : DataW H} {ps : List MemPlace} (h : DataW.Trod enc Try.prog W 0 (fun _ => true) held 50 (.slice a len cap) d ps) :
    ∃ l : List Int, l.length = len ∧ len ≤ cap ∧ Kd.C (Kd.int .i64) W a l.length l := by
  obtain ⟨l, rfl, h1, h2, h3⟩ := open_elems Try.underlying50 (by kernel_rfl) (fun n : Int => Value.int .i64 n) (fun n cs x hx => by
    obtain ⟨a, e, _, _⟩ := DataW.trod_int Try.underlying3 hx
    exact ⟨a, e⟩) h
  refine ⟨l, rfl, h1, rfl, h2, fun h0 => ?_⟩
  obtain ⟨ad, e, hc⟩ := h3 h0
  exact ⟨ad, e, fun j p hp => ⟨[.int .i64 p], rfl, rfl, hc j p hp⟩⟩
theorem open_flags {a : Option Addr} {len cap : Nat} {d : DataW H} {ps : List MemPlace} (h : DataW.Trod enc Try.prog W 0 (fun _ => true) held 51 (.slice a len cap) d ps) :
    ∃ l : List Bool, l.length = len ∧ len ≤ cap ∧ Kd.C Kd.bool W a l.length l := by
  obtain ⟨l, rfl, h1, h2, h3⟩ := open_elems Try.underlying51 (by kernel_rfl) (fun n : Bool => Value.bool n) (fun n cs x hx => by
    obtain ⟨a, e, _⟩ := DataW.trod_bool Try.underlying4 hx
    exact ⟨a, e⟩) h
  refine ⟨l, rfl, h1, rfl, h2, fun h0 => ?_⟩
  obtain ⟨ad, e, hc⟩ := h3 h0
  exact ⟨ad, e, fun j p hp => ⟨[.bool p], rfl, rfl, hc j p hp⟩⟩
end
end Go.Proofs.Ytdhljcnilclfbaa.O
