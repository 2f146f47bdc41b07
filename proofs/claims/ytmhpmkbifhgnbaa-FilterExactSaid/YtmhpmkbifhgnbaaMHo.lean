-- A rule and its cells: a text of this claim's own.
/- How an argument that is a rule opens to its parts. No condition. -/
import Derived.Test.YtmhpmkbifhgnbaaHm
import Derived.Test.YtmhpmkbifhgnbaaMMOx0
import Derived.Deep.Slices
import Derived.Deep.Fields
import Derived.ChangeSame
namespace Go.Proofs.Ytmhpmkbifhgnbaa.O
open Go.RowKit Go.Deep Go.Proofs.YtmhpmkbifhgnbaaW.PrintWords Go.Proofs.YtmhpmkbifhgnbaaW.PrintLast Go.Proofs.YtmhpmkbifhgnbaaW.PrintMore
set_option linter.unusedVariables false
set_option linter.unusedSimpArgs false
/-- A rule. -/
structure RR where
  fr : Int
  iv : Int
  ct : Int
  un : Bool
  ua : Int
  utc : Bool
  sec : List Int
  mi : List Int
  ho : List Int
  dy : List S47
  md : List Int
  yd : List Int
  wn : List Int
  mo : List Int
  sp : List Int
  wk : Int
/-- The cells of a rule with these lists. -/
def c16 (r : RR) (s6 s7 s8 s9 s10 s11 s12 s13 s14 : Value) : Array Value := #[.int .i64 r.fr, .int .i64 r.iv, .int .i64 r.ct, .bool r.un, .int .i64 r.ua, .bool r.utc, s6, s7, s8, s9, s10, s11, s12, s13, s14, .int .i64 r.wk]
/-- A list in a cell. -/
def InL (w : World) (v : Option Value) (l : List Int) : Prop := ∃ A c, v = some (.slice A l.length c) ∧ l.length ≤ c ∧ Kd.C (Kd.int .i64) w A l.length l
def InD (w : World) (v : Option Value) (l : List S47) : Prop := ∃ A c, v = some (.slice A l.length c) ∧ l.length ≤ c ∧ Kd.C k47 w A l.length l
/-- The cells of a rule. -/
structure Rul (w : World) (cs : Array Value) (r : RR) : Prop where
  sz : cs.size = 16
  c0 : cs[0]? = some (.int .i64 r.fr)
  c1 : cs[1]? = some (.int .i64 r.iv)
  c2 : cs[2]? = some (.int .i64 r.ct)
  c3 : cs[3]? = some (.bool r.un)
  c4 : cs[4]? = some (.int .i64 r.ua)
  c5 : cs[5]? = some (.bool r.utc)
  c6 : InL w cs[6]? r.sec
  c7 : InL w cs[7]? r.mi
  c8 : InL w cs[8]? r.ho
  c9 : InD w cs[9]? r.dy
  c10 : InL w cs[10]? r.md
  c11 : InL w cs[11]? r.yd
  c12 : InL w cs[12]? r.wn
  c13 : InL w cs[13]? r.mo
  c14 : InL w cs[14]? r.sp
  c15 : cs[15]? = some (.int .i64 r.wk)
theorem InL.below {w W : World} {v : Option Value} {l : List Int} (h : InL w v l) (hb : Below w.heap.size w W) : InL W v l := by
  obtain ⟨A, c, e, hc, hk⟩ := h
  exact ⟨A, c, e, hc, Kd.C_below hk hb⟩
theorem InD.below {w W : World} {v : Option Value} {l : List S47} (h : InD w v l) (hb : Below w.heap.size w W) : InD W v l := by
  obtain ⟨A, c, e, hc, hk⟩ := h
  exact ⟨A, c, e, hc, Kd.C_below hk hb⟩
theorem Rul.below {w W : World} {cs : Array Value} {r : RR} (h : Rul w cs r) (hb : Below w.heap.size w W) : Rul W cs r :=
  ⟨h.sz, h.c0, h.c1, h.c2, h.c3, h.c4, h.c5, h.c6.below hb, h.c7.below hb, h.c8.below hb, h.c9.below hb, h.c10.below hb, h.c11.below hb, h.c12.below hb, h.c13.below hb, h.c14.below hb, h.c15⟩
end Go.Proofs.Ytmhpmkbifhgnbaa.O

namespace Go.Proofs.Ytmhpmkbifhgnbaa.O
open Go.RowKit Go.ChangeShapes Go.WideShapes Go.Deep Go.Proofs.YtmhpmkbifhgnbaaW.PrintWords
set_option linter.unusedVariables false
theorem cl3 : Try.prog.cellsOf 3 = 1 := by kernel_rfl
theorem cl4 : Try.prog.cellsOf 4 = 1 := by kernel_rfl
theorem cl22 : Try.prog.cellsOf 22 = 1 := by kernel_rfl
theorem cl23 : Try.prog.cellsOf 23 = 1 := by kernel_rfl
theorem cl25 : Try.prog.cellsOf 25 = 16 := by kernel_rfl
theorem cl47 : Try.prog.cellsOf 47 = 2 := by kernel_rfl
section
variable {H : Type} {enc : TypeId × Value → H} {W : World} {held : Bool}
theorem int1 {n : Nat} {v : Value} {x : DataW H × List MemPlace} (h : DataW.trod enc Try.prog W 0 (fun _ => true) held n 3 [v] = some x) : ∃ a, v = .int .i64 a ∧ (Lit.int .i64 a).wf = true := by
  obtain ⟨a, e, _, w⟩ := DataW.trod_int Try.underlying3 h
  exact ⟨a, by simpa using e, w⟩
theorem bool1 {n : Nat} {v : Value} {x : DataW H × List MemPlace} (h : DataW.trod enc Try.prog W 0 (fun _ => true) held n 4 [v] = some x) : ∃ a, v = .bool a := by
  obtain ⟨a, e, _⟩ := DataW.trod_bool Try.underlying4 h
  exact ⟨a, by simpa using e⟩
theorem at_of {α : Type} {l : List α} {j : Nat} (h : j < l.length) : ∃ y, l[j]? = some y := ⟨_, List.getElem?_eq_getElem h⟩
theorem by1 {n : Nat} {cs : List Value} {x : DataW H × List MemPlace} (h : DataW.trod enc Try.prog W 0 (fun _ => true) held n 47 cs = some x) : ∃ r : S47, cs = [.int .i64 r.f0, .int .i64 r.f1] := by
  obtain ⟨xs, n1, _, _, hlen, hxl, hf⟩ := DataW.trod_struct Try.underlying47 h
  rw [cl47] at hlen
  have hx : xs.length = 2 := hxl
  match cs, hlen with
  | [v0, v1], _ =>
    obtain ⟨y0, e0⟩ := at_of (l := xs) (j := 0) (by omega)
    obtain ⟨y1, e1⟩ := at_of (l := xs) (j := 1) (by omega)
    have h0 : DataW.trod enc Try.prog W 0 (fun _ => true) held n1 3 (([v0, v1].drop 0).take (Try.prog.cellsOf 3)) = some y0 := (hf 0 _ rfl).trans e0
    rw [cl3] at h0
    have h1 : DataW.trod enc Try.prog W 0 (fun _ => true) held n1 3 (([v0, v1].drop 1).take (Try.prog.cellsOf 3)) = some y1 := (hf 1 _ rfl).trans e1
    rw [cl3] at h1
    obtain ⟨a, ha, _⟩ := int1 (v := v0) h0
    obtain ⟨b, hb, _⟩ := int1 (v := v1) h1
    exact ⟨⟨a, b⟩, by rw [ha, hb]⟩
theorem elems {α : Type} {t e : TypeId} {m0 : Nat} (ht : Try.prog.underlying t = some (.slice e)) (hc1 : Try.prog.cellsOf e = m0) (ev : α → List Value) (hev : ∀ r, (ev r).length = m0)
    (he : ∀ (n : Nat) (cs : List Value) (x : DataW H × List MemPlace), DataW.trod enc Try.prog W 0 (fun _ => true) held n e cs = some x → ∃ r : α, cs = ev r)
    {fuel : Nat} {v : Value} {y : DataW H × List MemPlace} (hf : DataW.trod enc Try.prog W 0 (fun _ => true) held fuel t [v] = some y) :
    ∃ (a : Option Addr) (c : Nat) (l : List α), v = .slice a l.length c ∧ l.length ≤ c ∧ l.length ≤ 9223372036854775807 ∧ (0 < l.length → ∃ ad, a = some ad ∧ ∀ (j : Nat) (p : α), l[j]? = some p → ∀ (i : Nat) (u : Value), (ev p)[i]? = some u → W.cell? (ad.add (j * m0 + i)) = some u) := by
  rcases open_slice ht hf with ⟨hcs, _⟩ | ⟨x, len, cap, m, n, D, Pl, hcs, _, hl, hm, hmm, _, hi⟩
  · obtain rfl : v = .slice none 0 0 := by simpa using hcs
    exact ⟨none, 0, [], rfl, Nat.le_refl _, by simp, fun h => absurd h (by simp)⟩
  · obtain rfl : v = .slice (some x) len cap := by simpa using hcs
    have hm' : m = cap := by simpa using hmm
    have hall : ∀ i : Fin len, ∃ r : α, ∀ (j : Nat) (u : Value), (ev r)[j]? = some u → W.cell? (x.add (i.1 * m0 + j)) = some u := by
      intro i
      obtain ⟨cs', hc, ht'⟩ := hi i.1 (by have := i.2; omega)
      obtain ⟨r, rfl⟩ := he _ _ _ ht'
      refine ⟨r, fun j u hj => ?_⟩
      obtain ⟨_, hcl, hat⟩ := World.cells?_some hc
      have hjl : j < (ev r).length := (List.getElem?_eq_some_iff.1 hj).1
      have h1 := hat j (by rw [hc1, ← hev r]; exact hjl)
      rw [hc1] at h1
      rw [← Go.Deep.add_add, h1]
      exact hj
    obtain ⟨f, hf2⟩ := Classical.axiomOfChoice hall
    refine ⟨some x, cap, List.ofFn f, by simp, by simpa using hl, by simp [maxLen] at hm ⊢; omega, fun _ => ⟨x, rfl, fun j p hp i u hu => ?_⟩⟩
    obtain ⟨hj, e⟩ := List.getElem?_eq_some_iff.1 hp
    have hj' : j < len := by simpa using hj
    have e2 : p = f ⟨j, hj'⟩ := by rw [← e]; simp
    subst e2
    exact hf2 ⟨j, hj'⟩ i u hu
theorem ints1 {n : Nat} {v : Value} {y : DataW H × List MemPlace} (h : DataW.trod enc Try.prog W 0 (fun _ => true) held n 22 [v] = some y) : ∃ (a : Option Addr) (c : Nat) (l : List Int), v = .slice a l.length c ∧ l.length ≤ c ∧ Kd.C (Kd.int .i64) W a l.length l := by
  obtain ⟨a, c, l, e, h1, h2, h3⟩ := elems Try.underlying22 cl3 (fun n : Int => [Value.int .i64 n]) (fun _ => rfl) (fun n cs x hx => by
    obtain ⟨a, e, _, _⟩ := DataW.trod_int Try.underlying3 hx
    exact ⟨a, e⟩) h
  refine ⟨a, c, l, e, h1, rfl, h2, fun h0 => ?_⟩
  obtain ⟨ad, e, hc⟩ := h3 h0
  exact ⟨ad, e, fun j p hp => ⟨[.int .i64 p], rfl, rfl, hc j p hp⟩⟩
theorem days1 {n : Nat} {v : Value} {y : DataW H × List MemPlace} (h : DataW.trod enc Try.prog W 0 (fun _ => true) held n 23 [v] = some y) : ∃ (a : Option Addr) (c : Nat) (l : List S47), v = .slice a l.length c ∧ l.length ≤ c ∧ Kd.C k47 W a l.length l := by
  obtain ⟨a, c, l, e, h1, h2, h3⟩ := elems Try.underlying23 cl47 (fun r : S47 => [Value.int .i64 r.f0, Value.int .i64 r.f1]) (fun _ => rfl) (fun n cs x hx => by1 hx) h
  refine ⟨a, c, l, e, h1, rfl, h2, fun h0 => ?_⟩
  obtain ⟨ad, e, hc⟩ := h3 h0
  exact ⟨ad, e, fun j p hp => ⟨_, rfl, k47_mk W p, hc j p hp⟩⟩
/-- The parts of a rule that is handed in. -/
structure Opn (W : World) where
  a0 : Int
  a1 : Int
  a2 : Int
  a3 : Bool
  a4 : Int
  a5 : Bool
  A6 : Option Addr
  c6 : Nat
  l6 : List Int
  q6 : l6.length ≤ c6
  r6 : Kd.C (Kd.int .i64) W A6 l6.length l6
  A7 : Option Addr
  c7 : Nat
  l7 : List Int
  q7 : l7.length ≤ c7
  r7 : Kd.C (Kd.int .i64) W A7 l7.length l7
  A8 : Option Addr
  c8 : Nat
  l8 : List Int
  q8 : l8.length ≤ c8
  r8 : Kd.C (Kd.int .i64) W A8 l8.length l8
  A9 : Option Addr
  c9 : Nat
  l9 : List S47
  q9 : l9.length ≤ c9
  r9 : Kd.C k47 W A9 l9.length l9
  A10 : Option Addr
  c10 : Nat
  l10 : List Int
  q10 : l10.length ≤ c10
  r10 : Kd.C (Kd.int .i64) W A10 l10.length l10
  A11 : Option Addr
  c11 : Nat
  l11 : List Int
  q11 : l11.length ≤ c11
  r11 : Kd.C (Kd.int .i64) W A11 l11.length l11
  A12 : Option Addr
  c12 : Nat
  l12 : List Int
  q12 : l12.length ≤ c12
  r12 : Kd.C (Kd.int .i64) W A12 l12.length l12
  A13 : Option Addr
  c13 : Nat
  l13 : List Int
  q13 : l13.length ≤ c13
  r13 : Kd.C (Kd.int .i64) W A13 l13.length l13
  A14 : Option Addr
  c14 : Nat
  l14 : List Int
  q14 : l14.length ≤ c14
  r14 : Kd.C (Kd.int .i64) W A14 l14.length l14
  a15 : Int
  w4 : (Lit.int .i64 a4).wf = true
def Opn.v {W : World} (o : Opn W) : Value := .agg #[.int .i64 o.a0, .int .i64 o.a1, .int .i64 o.a2, .bool o.a3, .int .i64 o.a4, .bool o.a5, .slice o.A6 o.l6.length o.c6, .slice o.A7 o.l7.length o.c7, .slice o.A8 o.l8.length o.c8, .slice o.A9 o.l9.length o.c9, .slice o.A10 o.l10.length o.c10, .slice o.A11 o.l11.length o.c11, .slice o.A12 o.l12.length o.c12, .slice o.A13 o.l13.length o.c13, .slice o.A14 o.l14.length o.c14, .int .i64 o.a15]
set_option maxRecDepth 100000 in
theorem open_rule {v : Value} {b0 : Nat} {d : DataW H} {ps : List MemPlace} (hv : Value.okWide Try.prog W .any b0 25 v) (h : DataW.Trod enc Try.prog W 0 (fun _ => true) held 25 v d ps) : ∃ o : Opn W, v = o.v := by
  obtain ⟨cs, rfl, hcs⟩ := okWide_struct Try.underlying25 hv
  rw [cl25] at hcs
  obtain ⟨fuel, hfu⟩ := h
  replace hfu : DataW.trod enc Try.prog W 0 (fun _ => true) held fuel 25 cs.toList = some (d, ps) := hfu
  obtain ⟨xs, n1, _, _, _, hxl, hf⟩ := DataW.trod_struct Try.underlying25 hfu
  have hx : xs.length = 16 := hxl
  obtain ⟨l⟩ := cs
  replace hcs : l.length = 16 := hcs
  replace hf : ∀ i f, _ → DataW.trod enc Try.prog W 0 (fun _ => true) held n1 _ ((l.drop _).take _) = xs[i]? := hf
  match l, hcs with
  | [v0, v1, v2, v3, v4, v5, v6, v7, v8, v9, v10, v11, v12, v13, v14, v15], _ =>
    obtain ⟨y0, e0⟩ := at_of (l := xs) (j := 0) (by omega)
    have h0 : DataW.trod enc Try.prog W 0 (fun _ => true) held n1 3 (([v0, v1, v2, v3, v4, v5, v6, v7, v8, v9, v10, v11, v12, v13, v14, v15].drop 0).take (Try.prog.cellsOf 3)) = some y0 := (hf 0 _ rfl).trans e0
    rw [cl3] at h0
    obtain ⟨a0, t0, w0⟩ := int1 (v := v0) h0
    obtain ⟨y1, e1⟩ := at_of (l := xs) (j := 1) (by omega)
    have h1 : DataW.trod enc Try.prog W 0 (fun _ => true) held n1 3 (([v0, v1, v2, v3, v4, v5, v6, v7, v8, v9, v10, v11, v12, v13, v14, v15].drop 1).take (Try.prog.cellsOf 3)) = some y1 := (hf 1 _ rfl).trans e1
    rw [cl3] at h1
    obtain ⟨a1, t1, w1⟩ := int1 (v := v1) h1
    obtain ⟨y2, e2⟩ := at_of (l := xs) (j := 2) (by omega)
    have h2 : DataW.trod enc Try.prog W 0 (fun _ => true) held n1 3 (([v0, v1, v2, v3, v4, v5, v6, v7, v8, v9, v10, v11, v12, v13, v14, v15].drop 2).take (Try.prog.cellsOf 3)) = some y2 := (hf 2 _ rfl).trans e2
    rw [cl3] at h2
    obtain ⟨a2, t2, w2⟩ := int1 (v := v2) h2
    obtain ⟨y3, e3⟩ := at_of (l := xs) (j := 3) (by omega)
    have h3 : DataW.trod enc Try.prog W 0 (fun _ => true) held n1 4 (([v0, v1, v2, v3, v4, v5, v6, v7, v8, v9, v10, v11, v12, v13, v14, v15].drop 3).take (Try.prog.cellsOf 4)) = some y3 := (hf 3 _ rfl).trans e3
    rw [cl4] at h3
    obtain ⟨a3, t3⟩ := bool1 (v := v3) h3
    obtain ⟨y4, e4⟩ := at_of (l := xs) (j := 4) (by omega)
    have h4 : DataW.trod enc Try.prog W 0 (fun _ => true) held n1 3 (([v0, v1, v2, v3, v4, v5, v6, v7, v8, v9, v10, v11, v12, v13, v14, v15].drop 4).take (Try.prog.cellsOf 3)) = some y4 := (hf 4 _ rfl).trans e4
    rw [cl3] at h4
    obtain ⟨a4, t4, w4⟩ := int1 (v := v4) h4
    obtain ⟨y5, e5⟩ := at_of (l := xs) (j := 5) (by omega)
    have h5 : DataW.trod enc Try.prog W 0 (fun _ => true) held n1 4 (([v0, v1, v2, v3, v4, v5, v6, v7, v8, v9, v10, v11, v12, v13, v14, v15].drop 5).take (Try.prog.cellsOf 4)) = some y5 := (hf 5 _ rfl).trans e5
    rw [cl4] at h5
    obtain ⟨a5, t5⟩ := bool1 (v := v5) h5
    obtain ⟨y6, e6⟩ := at_of (l := xs) (j := 6) (by omega)
    have h6 : DataW.trod enc Try.prog W 0 (fun _ => true) held n1 22 (([v0, v1, v2, v3, v4, v5, v6, v7, v8, v9, v10, v11, v12, v13, v14, v15].drop 6).take (Try.prog.cellsOf 22)) = some y6 := (hf 6 _ rfl).trans e6
    rw [cl22] at h6
    obtain ⟨A6, c6, l6, t6, q6, r6⟩ := ints1 (v := v6) h6
    obtain ⟨y7, e7⟩ := at_of (l := xs) (j := 7) (by omega)
    have h7 : DataW.trod enc Try.prog W 0 (fun _ => true) held n1 22 (([v0, v1, v2, v3, v4, v5, v6, v7, v8, v9, v10, v11, v12, v13, v14, v15].drop 7).take (Try.prog.cellsOf 22)) = some y7 := (hf 7 _ rfl).trans e7
    rw [cl22] at h7
    obtain ⟨A7, c7, l7, t7, q7, r7⟩ := ints1 (v := v7) h7
    obtain ⟨y8, e8⟩ := at_of (l := xs) (j := 8) (by omega)
    have h8 : DataW.trod enc Try.prog W 0 (fun _ => true) held n1 22 (([v0, v1, v2, v3, v4, v5, v6, v7, v8, v9, v10, v11, v12, v13, v14, v15].drop 8).take (Try.prog.cellsOf 22)) = some y8 := (hf 8 _ rfl).trans e8
    rw [cl22] at h8
    obtain ⟨A8, c8, l8, t8, q8, r8⟩ := ints1 (v := v8) h8
    obtain ⟨y9, e9⟩ := at_of (l := xs) (j := 9) (by omega)
    have h9 : DataW.trod enc Try.prog W 0 (fun _ => true) held n1 23 (([v0, v1, v2, v3, v4, v5, v6, v7, v8, v9, v10, v11, v12, v13, v14, v15].drop 9).take (Try.prog.cellsOf 23)) = some y9 := (hf 9 _ rfl).trans e9
    rw [cl23] at h9
    obtain ⟨A9, c9, l9, t9, q9, r9⟩ := days1 (v := v9) h9
    obtain ⟨y10, e10⟩ := at_of (l := xs) (j := 10) (by omega)
    have h10 : DataW.trod enc Try.prog W 0 (fun _ => true) held n1 22 (([v0, v1, v2, v3, v4, v5, v6, v7, v8, v9, v10, v11, v12, v13, v14, v15].drop 10).take (Try.prog.cellsOf 22)) = some y10 := (hf 10 _ rfl).trans e10
    rw [cl22] at h10
    obtain ⟨A10, c10, l10, t10, q10, r10⟩ := ints1 (v := v10) h10
    obtain ⟨y11, e11⟩ := at_of (l := xs) (j := 11) (by omega)
    have h11 : DataW.trod enc Try.prog W 0 (fun _ => true) held n1 22 (([v0, v1, v2, v3, v4, v5, v6, v7, v8, v9, v10, v11, v12, v13, v14, v15].drop 11).take (Try.prog.cellsOf 22)) = some y11 := (hf 11 _ rfl).trans e11
    rw [cl22] at h11
    obtain ⟨A11, c11, l11, t11, q11, r11⟩ := ints1 (v := v11) h11
    obtain ⟨y12, e12⟩ := at_of (l := xs) (j := 12) (by omega)
    have h12 : DataW.trod enc Try.prog W 0 (fun _ => true) held n1 22 (([v0, v1, v2, v3, v4, v5, v6, v7, v8, v9, v10, v11, v12, v13, v14, v15].drop 12).take (Try.prog.cellsOf 22)) = some y12 := (hf 12 _ rfl).trans e12
    rw [cl22] at h12
    obtain ⟨A12, c12, l12, t12, q12, r12⟩ := ints1 (v := v12) h12
    obtain ⟨y13, e13⟩ := at_of (l := xs) (j := 13) (by omega)
    have h13 : DataW.trod enc Try.prog W 0 (fun _ => true) held n1 22 (([v0, v1, v2, v3, v4, v5, v6, v7, v8, v9, v10, v11, v12, v13, v14, v15].drop 13).take (Try.prog.cellsOf 22)) = some y13 := (hf 13 _ rfl).trans e13
    rw [cl22] at h13
    obtain ⟨A13, c13, l13, t13, q13, r13⟩ := ints1 (v := v13) h13
    obtain ⟨y14, e14⟩ := at_of (l := xs) (j := 14) (by omega)
    have h14 : DataW.trod enc Try.prog W 0 (fun _ => true) held n1 22 (([v0, v1, v2, v3, v4, v5, v6, v7, v8, v9, v10, v11, v12, v13, v14, v15].drop 14).take (Try.prog.cellsOf 22)) = some y14 := (hf 14 _ rfl).trans e14
    rw [cl22] at h14
    obtain ⟨A14, c14, l14, t14, q14, r14⟩ := ints1 (v := v14) h14
    obtain ⟨y15, e15⟩ := at_of (l := xs) (j := 15) (by omega)
    have h15 : DataW.trod enc Try.prog W 0 (fun _ => true) held n1 3 (([v0, v1, v2, v3, v4, v5, v6, v7, v8, v9, v10, v11, v12, v13, v14, v15].drop 15).take (Try.prog.cellsOf 3)) = some y15 := (hf 15 _ rfl).trans e15
    rw [cl3] at h15
    obtain ⟨a15, t15, w15⟩ := int1 (v := v15) h15
    exact ⟨⟨a0, a1, a2, a3, a4, a5, A6, c6, l6, q6, r6, A7, c7, l7, q7, r7, A8, c8, l8, q8, r8, A9, c9, l9, q9, r9, A10, c10, l10, q10, r10, A11, c11, l11, q11, r11, A12, c12, l12, q12, r12, A13, c13, l13, q13, r13, A14, c14, l14, q14, r14, a15, w4⟩, by unfold Opn.v; rw [t0, t1, t2, t3, t4, t5, t6, t7, t8, t9, t10, t11, t12, t13, t14, t15]⟩
end
end Go.Proofs.Ytmhpmkbifhgnbaa.O
