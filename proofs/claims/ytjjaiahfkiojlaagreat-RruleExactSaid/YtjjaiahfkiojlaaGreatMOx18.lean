-- A rule and its cells: a text of this claim's own.
/- How an argument that is a rule opens to its parts. No condition. -/
/- Dates and their numbers, in plain numbers: no program in sight. -/
/- An argument that is a rule, opened. No condition. -/
/- Weekdays, forms of a day and weeks, in plain numbers: no program in sight. -/
-- What some functions of the program compute: a text of this claim's own (lines first written by the kit's tool, some proved anew).
import Derived.Test.YtjjaiahfkiojlaaGreatHm
import Derived.Test.YtjjaiahfkiojlaaGreatMOx0
import Derived.Deep.Slices
import Derived.Deep.Fields
import Derived.ChangeSame
import Derived.RowKit
namespace Go.Proofs.YtjjaiahfkiojlaaGreat.O
open Go.RowKit Go.Deep Go.Proofs.YtjjaiahfkiojlaaGreatW.PrintWords Go.Proofs.YtjjaiahfkiojlaaGreatW.PrintLast Go.Proofs.YtjjaiahfkiojlaaGreatW.PrintMore
set_option linter.unusedVariables false
set_option linter.unusedSimpArgs false
/-- A rule. -/
structure RR where
  fr : Int
  iv : Int
  ct : Int
  un : Bool
  ua : Int
  utc : Bool
  sec : List Int
  mi : List Int
  ho : List Int
  dy : List S67
  md : List Int
  yd : List Int
  wn : List Int
  mo : List Int
  sp : List Int
  wk : Int
/-- The cells of a rule with these lists. -/
def c16 (r : RR) (s6 s7 s8 s9 s10 s11 s12 s13 s14 : Value) : Array Value := #[.int .i64 r.fr, .int .i64 r.iv, .int .i64 r.ct, .bool r.un, .int .i64 r.ua, .bool r.utc, s6, s7, s8, s9, s10, s11, s12, s13, s14, .int .i64 r.wk]
/-- A list in a cell. -/
def InL (w : World) (v : Option Value) (l : List Int) : Prop := ∃ A c, v = some (.slice A l.length c) ∧ l.length ≤ c ∧ Kd.C (Kd.int .i64) w A l.length l
def InD (w : World) (v : Option Value) (l : List S67) : Prop := ∃ A c, v = some (.slice A l.length c) ∧ l.length ≤ c ∧ Kd.C k67 w A l.length l
/-- The cells of a rule. -/
structure Rul (w : World) (cs : Array Value) (r : RR) : Prop where
  sz : cs.size = 16
  c0 : cs[0]? = some (.int .i64 r.fr)
  c1 : cs[1]? = some (.int .i64 r.iv)
  c2 : cs[2]? = some (.int .i64 r.ct)
  c3 : cs[3]? = some (.bool r.un)
  c4 : cs[4]? = some (.int .i64 r.ua)
  c5 : cs[5]? = some (.bool r.utc)
  c6 : InL w cs[6]? r.sec
  c7 : InL w cs[7]? r.mi
  c8 : InL w cs[8]? r.ho
  c9 : InD w cs[9]? r.dy
  c10 : InL w cs[10]? r.md
  c11 : InL w cs[11]? r.yd
  c12 : InL w cs[12]? r.wn
  c13 : InL w cs[13]? r.mo
  c14 : InL w cs[14]? r.sp
  c15 : cs[15]? = some (.int .i64 r.wk)
theorem InL.below {w W : World} {v : Option Value} {l : List Int} (h : InL w v l) (hb : Below w.heap.size w W) : InL W v l := by
  obtain ⟨A, c, e, hc, hk⟩ := h
  exact ⟨A, c, e, hc, Kd.C_below hk hb⟩
theorem InD.below {w W : World} {v : Option Value} {l : List S67} (h : InD w v l) (hb : Below w.heap.size w W) : InD W v l := by
  obtain ⟨A, c, e, hc, hk⟩ := h
  exact ⟨A, c, e, hc, Kd.C_below hk hb⟩
theorem Rul.below {w W : World} {cs : Array Value} {r : RR} (h : Rul w cs r) (hb : Below w.heap.size w W) : Rul W cs r :=
  ⟨h.sz, h.c0, h.c1, h.c2, h.c3, h.c4, h.c5, h.c6.below hb, h.c7.below hb, h.c8.below hb, h.c9.below hb, h.c10.below hb, h.c11.below hb, h.c12.below hb, h.c13.below hb, h.c14.below hb, h.c15⟩
end Go.Proofs.YtjjaiahfkiojlaaGreat.O

namespace Go.Proofs.YtjjaiahfkiojlaaGreat.O
open Go.RowKit Go.ChangeShapes Go.WideShapes Go.Deep Go.Proofs.YtjjaiahfkiojlaaGreatW.PrintWords
set_option maxRecDepth 100000
set_option linter.unusedVariables false
theorem cl3 : Tryz.prog.cellsOf 3 = 1 := by kernel_rfl
theorem cl4 : Tryz.prog.cellsOf 4 = 1 := by kernel_rfl
theorem cl22 : Tryz.prog.cellsOf 22 = 1 := by kernel_rfl
theorem cl23 : Tryz.prog.cellsOf 23 = 1 := by kernel_rfl
theorem cl25 : Tryz.prog.cellsOf 25 = 16 := by kernel_rfl
theorem cl47 : Tryz.prog.cellsOf 67 = 2 := by kernel_rfl
section
variable {H : Type} {enc : TypeId × Value → H} {W : World} {held : Bool}
theorem int1 {n : Nat} {v : Value} {x : DataW H × List MemPlace} (h : DataW.trod enc Tryz.prog W 0 (fun _ => true) held n 3 [v] = some x) : ∃ a, v = .int .i64 a ∧ (Lit.int .i64 a).wf = true := by
  obtain ⟨a, e, _, w⟩ := DataW.trod_int Tryz.underlying3 h
  exact ⟨a, by simpa using e, w⟩
theorem bool1 {n : Nat} {v : Value} {x : DataW H × List MemPlace} (h : DataW.trod enc Tryz.prog W 0 (fun _ => true) held n 4 [v] = some x) : ∃ a, v = .bool a := by
  obtain ⟨a, e, _⟩ := DataW.trod_bool Tryz.underlying4 h
  exact ⟨a, by simpa using e⟩
theorem at_of {α : Type} {l : List α} {j : Nat} (h : j < l.length) : ∃ y, l[j]? = some y := ⟨_, List.getElem?_eq_getElem h⟩
theorem by1 {n : Nat} {cs : List Value} {x : DataW H × List MemPlace} (h : DataW.trod enc Tryz.prog W 0 (fun _ => true) held n 67 cs = some x) : ∃ r : S67, cs = [.int .i64 r.f0, .int .i64 r.f1] := by
  obtain ⟨xs, n1, _, _, hlen, hxl, hf⟩ := DataW.trod_struct Tryz.underlying67 h
  rw [cl47] at hlen
  have hx : xs.length = 2 := hxl
  match cs, hlen with
  | [v0, v1], _ =>
    obtain ⟨y0, e0⟩ := at_of (l := xs) (j := 0) (by omega)
    obtain ⟨y1, e1⟩ := at_of (l := xs) (j := 1) (by omega)
    have h0 : DataW.trod enc Tryz.prog W 0 (fun _ => true) held n1 3 (([v0, v1].drop 0).take (Tryz.prog.cellsOf 3)) = some y0 := (hf 0 _ rfl).trans e0
    rw [cl3] at h0
    have h1 : DataW.trod enc Tryz.prog W 0 (fun _ => true) held n1 3 (([v0, v1].drop 1).take (Tryz.prog.cellsOf 3)) = some y1 := (hf 1 _ rfl).trans e1
    rw [cl3] at h1
    obtain ⟨a, ha, _⟩ := int1 (v := v0) h0
    obtain ⟨b, hb, _⟩ := int1 (v := v1) h1
    exact ⟨⟨a, b⟩, by rw [ha, hb]⟩
theorem elems {α : Type} {t e : TypeId} {m0 : Nat} (ht : Tryz.prog.underlying t = some (.slice e)) (hc1 : Tryz.prog.cellsOf e = m0) (ev : α → List Value) (hev : ∀ r, (ev r).length = m0)
    (he : ∀ (n : Nat) (cs : List Value) (x : DataW H × List MemPlace), DataW.trod enc Tryz.prog W 0 (fun _ => true) held n e cs = some x → ∃ r : α, cs = ev r)
    {fuel : Nat} {v : Value} {y : DataW H × List MemPlace} (hf : DataW.trod enc Tryz.prog W 0 (fun _ => true) held fuel t [v] = some y) :
    ∃ (a : Option Addr) (c : Nat) (l : List α), v = .slice a l.length c ∧ l.length ≤ c ∧ l.length ≤ 9223372036854775807 ∧ (0 < l.length → ∃ ad, a = some ad ∧ ∀ (j : Nat) (p : α), l[j]? = some p → ∀ (i : Nat) (u : Value), (ev p)[i]? = some u → W.cell? (ad.add (j * m0 + i)) = some u) := by
  rcases open_slice ht hf with ⟨hcs, _⟩ | ⟨x, len, cap, m, n, D, Pl, hcs, _, hl, hm, hmm, _, hi⟩
  · obtain rfl : v = .slice none 0 0 := by simpa using hcs
    exact ⟨none, 0, [], rfl, Nat.le_refl _, by simp, fun h => absurd h (by simp)⟩
  · obtain rfl : v = .slice (some x) len cap := by simpa using hcs
    have hm' : m = cap := by simpa using hmm
    have hall : ∀ i : Fin len, ∃ r : α, ∀ (j : Nat) (u : Value), (ev r)[j]? = some u → W.cell? (x.add (i.1 * m0 + j)) = some u := by
      intro i
      obtain ⟨cs', hc, ht'⟩ := hi i.1 (by have := i.2; omega)
      obtain ⟨r, rfl⟩ := he _ _ _ ht'
      refine ⟨r, fun j u hj => ?_⟩
      obtain ⟨_, hcl, hat⟩ := World.cells?_some hc
      have hjl : j < (ev r).length := (List.getElem?_eq_some_iff.1 hj).1
      have h1 := hat j (by rw [hc1, ← hev r]; exact hjl)
      rw [hc1] at h1
      rw [← Go.Deep.add_add, h1]
      exact hj
    obtain ⟨f, hf2⟩ := Classical.axiomOfChoice hall
    refine ⟨some x, cap, List.ofFn f, by simp, by simpa using hl, by simp [maxLen] at hm ⊢; omega, fun _ => ⟨x, rfl, fun j p hp i u hu => ?_⟩⟩
    obtain ⟨hj, e⟩ := List.getElem?_eq_some_iff.1 hp
    have hj' : j < len := by simpa using hj
    have e2 : p = f ⟨j, hj'⟩ := by rw [← e]; simp
    subst e2
    exact hf2 ⟨j, hj'⟩ i u hu
theorem ints1 {n : Nat} {v : Value} {y : DataW H × List MemPlace} (h : DataW.trod enc Tryz.prog W 0 (fun _ => true) held n 22 [v] = some y) : ∃ (a : Option Addr) (c : Nat) (l : List Int), v = .slice a l.length c ∧ l.length ≤ c ∧ Kd.C (Kd.int .i64) W a l.length l := by
  obtain ⟨a, c, l, e, h1, h2, h3⟩ := elems Tryz.underlying22 cl3 (fun n : Int => [Value.int .i64 n]) (fun _ => rfl) (fun n cs x hx => by
    obtain ⟨a, e, _, _⟩ := DataW.trod_int Tryz.underlying3 hx
    exact ⟨a, e⟩) h
  refine ⟨a, c, l, e, h1, rfl, h2, fun h0 => ?_⟩
  obtain ⟨ad, e, hc⟩ := h3 h0
  exact ⟨ad, e, fun j p hp => ⟨[.int .i64 p], rfl, rfl, hc j p hp⟩⟩
theorem days1 {n : Nat} {v : Value} {y : DataW H × List MemPlace} (h : DataW.trod enc Tryz.prog W 0 (fun _ => true) held n 23 [v] = some y) : ∃ (a : Option Addr) (c : Nat) (l : List S67), v = .slice a l.length c ∧ l.length ≤ c ∧ Kd.C k67 W a l.length l := by
  obtain ⟨a, c, l, e, h1, h2, h3⟩ := elems Tryz.underlying23 cl47 (fun r : S67 => [Value.int .i64 r.f0, Value.int .i64 r.f1]) (fun _ => rfl) (fun n cs x hx => by1 hx) h
  refine ⟨a, c, l, e, h1, rfl, h2, fun h0 => ?_⟩
  obtain ⟨ad, e, hc⟩ := h3 h0
  exact ⟨ad, e, fun j p hp => ⟨_, rfl, k67_mk W p, hc j p hp⟩⟩
/-- The parts of a rule that is handed in. -/
structure Opn (W : World) where
  a0 : Int
  a1 : Int
  a2 : Int
  a3 : Bool
  a4 : Int
  a5 : Bool
  A6 : Option Addr
  c6 : Nat
  l6 : List Int
  q6 : l6.length ≤ c6
  r6 : Kd.C (Kd.int .i64) W A6 l6.length l6
  A7 : Option Addr
  c7 : Nat
  l7 : List Int
  q7 : l7.length ≤ c7
  r7 : Kd.C (Kd.int .i64) W A7 l7.length l7
  A8 : Option Addr
  c8 : Nat
  l8 : List Int
  q8 : l8.length ≤ c8
  r8 : Kd.C (Kd.int .i64) W A8 l8.length l8
  A9 : Option Addr
  c9 : Nat
  l9 : List S67
  q9 : l9.length ≤ c9
  r9 : Kd.C k67 W A9 l9.length l9
  A10 : Option Addr
  c10 : Nat
  l10 : List Int
  q10 : l10.length ≤ c10
  r10 : Kd.C (Kd.int .i64) W A10 l10.length l10
  A11 : Option Addr
  c11 : Nat
  l11 : List Int
  q11 : l11.length ≤ c11
  r11 : Kd.C (Kd.int .i64) W A11 l11.length l11
  A12 : Option Addr
  c12 : Nat
  l12 : List Int
  q12 : l12.length ≤ c12
  r12 : Kd.C (Kd.int .i64) W A12 l12.length l12
  A13 : Option Addr
  c13 : Nat
  l13 : List Int
  q13 : l13.length ≤ c13
  r13 : Kd.C (Kd.int .i64) W A13 l13.length l13
  A14 : Option Addr
  c14 : Nat
  l14 : List Int
  q14 : l14.length ≤ c14
  r14 : Kd.C (Kd.int .i64) W A14 l14.length l14
  a15 : Int
  w4 : (Lit.int .i64 a4).wf = true
def Opn.v {W : World} (o : Opn W) : Value := .agg #[.int .i64 o.a0, .int .i64 o.a1, .int .i64 o.a2, .bool o.a3, .int .i64 o.a4, .bool o.a5, .slice o.A6 o.l6.length o.c6, .slice o.A7 o.l7.length o.c7, .slice o.A8 o.l8.length o.c8, .slice o.A9 o.l9.length o.c9, .slice o.A10 o.l10.length o.c10, .slice o.A11 o.l11.length o.c11, .slice o.A12 o.l12.length o.c12, .slice o.A13 o.l13.length o.c13, .slice o.A14 o.l14.length o.c14, .int .i64 o.a15]
set_option maxRecDepth 100000 in
theorem open_rule {v : Value} {b0 : Nat} {d : DataW H} {ps : List MemPlace} (hv : Value.okWide Tryz.prog W .any b0 25 v) (h : DataW.Trod enc Tryz.prog W 0 (fun _ => true) held 25 v d ps) : ∃ o : Opn W, v = o.v := by
  obtain ⟨cs, rfl, hcs⟩ := okWide_struct Tryz.underlying25 hv
  rw [cl25] at hcs
  obtain ⟨fuel, hfu⟩ := h
  replace hfu : DataW.trod enc Tryz.prog W 0 (fun _ => true) held fuel 25 cs.toList = some (d, ps) := hfu
  obtain ⟨xs, n1, _, _, _, hxl, hf⟩ := DataW.trod_struct Tryz.underlying25 hfu
  have hx : xs.length = 16 := hxl
  obtain ⟨l⟩ := cs
  replace hcs : l.length = 16 := hcs
  replace hf : ∀ i f, _ → DataW.trod enc Tryz.prog W 0 (fun _ => true) held n1 _ ((l.drop _).take _) = xs[i]? := hf
  match l, hcs with
  | [v0, v1, v2, v3, v4, v5, v6, v7, v8, v9, v10, v11, v12, v13, v14, v15], _ =>
    obtain ⟨y0, e0⟩ := at_of (l := xs) (j := 0) (by omega)
    have h0 : DataW.trod enc Tryz.prog W 0 (fun _ => true) held n1 3 (([v0, v1, v2, v3, v4, v5, v6, v7, v8, v9, v10, v11, v12, v13, v14, v15].drop 0).take (Tryz.prog.cellsOf 3)) = some y0 := (hf 0 _ rfl).trans e0
    rw [cl3] at h0
    obtain ⟨a0, t0, w0⟩ := int1 (v := v0) h0
    obtain ⟨y1, e1⟩ := at_of (l := xs) (j := 1) (by omega)
    have h1 : DataW.trod enc Tryz.prog W 0 (fun _ => true) held n1 3 (([v0, v1, v2, v3, v4, v5, v6, v7, v8, v9, v10, v11, v12, v13, v14, v15].drop 1).take (Tryz.prog.cellsOf 3)) = some y1 := (hf 1 _ rfl).trans e1
    rw [cl3] at h1
    obtain ⟨a1, t1, w1⟩ := int1 (v := v1) h1
    obtain ⟨y2, e2⟩ := at_of (l := xs) (j := 2) (by omega)
    have h2 : DataW.trod enc Tryz.prog W 0 (fun _ => true) held n1 3 (([v0, v1, v2, v3, v4, v5, v6, v7, v8, v9, v10, v11, v12, v13, v14, v15].drop 2).take (Tryz.prog.cellsOf 3)) = some y2 := (hf 2 _ rfl).trans e2
    rw [cl3] at h2
    obtain ⟨a2, t2, w2⟩ := int1 (v := v2) h2
    obtain ⟨y3, e3⟩ := at_of (l := xs) (j := 3) (by omega)
    have h3 : DataW.trod enc Tryz.prog W 0 (fun _ => true) held n1 4 (([v0, v1, v2, v3, v4, v5, v6, v7, v8, v9, v10, v11, v12, v13, v14, v15].drop 3).take (Tryz.prog.cellsOf 4)) = some y3 := (hf 3 _ rfl).trans e3
    rw [cl4] at h3
    obtain ⟨a3, t3⟩ := bool1 (v := v3) h3
    obtain ⟨y4, e4⟩ := at_of (l := xs) (j := 4) (by omega)
    have h4 : DataW.trod enc Tryz.prog W 0 (fun _ => true) held n1 3 (([v0, v1, v2, v3, v4, v5, v6, v7, v8, v9, v10, v11, v12, v13, v14, v15].drop 4).take (Tryz.prog.cellsOf 3)) = some y4 := (hf 4 _ rfl).trans e4
    rw [cl3] at h4
    obtain ⟨a4, t4, w4⟩ := int1 (v := v4) h4
    obtain ⟨y5, e5⟩ := at_of (l := xs) (j := 5) (by omega)
    have h5 : DataW.trod enc Tryz.prog W 0 (fun _ => true) held n1 4 (([v0, v1, v2, v3, v4, v5, v6, v7, v8, v9, v10, v11, v12, v13, v14, v15].drop 5).take (Tryz.prog.cellsOf 4)) = some y5 := (hf 5 _ rfl).trans e5
    rw [cl4] at h5
    obtain ⟨a5, t5⟩ := bool1 (v := v5) h5
    obtain ⟨y6, e6⟩ := at_of (l := xs) (j := 6) (by omega)
    have h6 : DataW.trod enc Tryz.prog W 0 (fun _ => true) held n1 22 (([v0, v1, v2, v3, v4, v5, v6, v7, v8, v9, v10, v11, v12, v13, v14, v15].drop 6).take (Tryz.prog.cellsOf 22)) = some y6 := (hf 6 _ rfl).trans e6
    rw [cl22] at h6
    obtain ⟨A6, c6, l6, t6, q6, r6⟩ := ints1 (v := v6) h6
    obtain ⟨y7, e7⟩ := at_of (l := xs) (j := 7) (by omega)
    have h7 : DataW.trod enc Tryz.prog W 0 (fun _ => true) held n1 22 (([v0, v1, v2, v3, v4, v5, v6, v7, v8, v9, v10, v11, v12, v13, v14, v15].drop 7).take (Tryz.prog.cellsOf 22)) = some y7 := (hf 7 _ rfl).trans e7
    rw [cl22] at h7
    obtain ⟨A7, c7, l7, t7, q7, r7⟩ := ints1 (v := v7) h7
    obtain ⟨y8, e8⟩ := at_of (l := xs) (j := 8) (by omega)
    have h8 : DataW.trod enc Tryz.prog W 0 (fun _ => true) held n1 22 (([v0, v1, v2, v3, v4, v5, v6, v7, v8, v9, v10, v11, v12, v13, v14, v15].drop 8).take (Tryz.prog.cellsOf 22)) = some y8 := (hf 8 _ rfl).trans e8
    rw [cl22] at h8
    obtain ⟨A8, c8, l8, t8, q8, r8⟩ := ints1 (v := v8) h8
    obtain ⟨y9, e9⟩ := at_of (l := xs) (j := 9) (by omega)
    have h9 : DataW.trod enc Tryz.prog W 0 (fun _ => true) held n1 23 (([v0, v1, v2, v3, v4, v5, v6, v7, v8, v9, v10, v11, v12, v13, v14, v15].drop 9).take (Tryz.prog.cellsOf 23)) = some y9 := (hf 9 _ rfl).trans e9
    rw [cl23] at h9
    obtain ⟨A9, c9, l9, t9, q9, r9⟩ := days1 (v := v9) h9
    obtain ⟨y10, e10⟩ := at_of (l := xs) (j := 10) (by omega)
    have h10 : DataW.trod enc Tryz.prog W 0 (fun _ => true) held n1 22 (([v0, v1, v2, v3, v4, v5, v6, v7, v8, v9, v10, v11, v12, v13, v14, v15].drop 10).take (Tryz.prog.cellsOf 22)) = some y10 := (hf 10 _ rfl).trans e10
    rw [cl22] at h10
    obtain ⟨A10, c10, l10, t10, q10, r10⟩ := ints1 (v := v10) h10
    obtain ⟨y11, e11⟩ := at_of (l := xs) (j := 11) (by omega)
    have h11 : DataW.trod enc Tryz.prog W 0 (fun _ => true) held n1 22 (([v0, v1, v2, v3, v4, v5, v6, v7, v8, v9, v10, v11, v12, v13, v14, v15].drop 11).take (Tryz.prog.cellsOf 22)) = some y11 := (hf 11 _ rfl).trans e11
    rw [cl22] at h11
    obtain ⟨A11, c11, l11, t11, q11, r11⟩ := ints1 (v := v11) h11
    obtain ⟨y12, e12⟩ := at_of (l := xs) (j := 12) (by omega)
    have h12 : DataW.trod enc Tryz.prog W 0 (fun _ => true) held n1 22 (([v0, v1, v2, v3, v4, v5, v6, v7, v8, v9, v10, v11, v12, v13, v14, v15].drop 12).take (Tryz.prog.cellsOf 22)) = some y12 := (hf 12 _ rfl).trans e12
    rw [cl22] at h12
    obtain ⟨A12, c12, l12, t12, q12, r12⟩ := ints1 (v := v12) h12
    obtain ⟨y13, e13⟩ := at_of (l := xs) (j := 13) (by omega)
    have h13 : DataW.trod enc Tryz.prog W 0 (fun _ => true) held n1 22 (([v0, v1, v2, v3, v4, v5, v6, v7, v8, v9, v10, v11, v12, v13, v14, v15].drop 13).take (Tryz.prog.cellsOf 22)) = some y13 := (hf 13 _ rfl).trans e13
    rw [cl22] at h13
    obtain ⟨A13, c13, l13, t13, q13, r13⟩ := ints1 (v := v13) h13
    obtain ⟨y14, e14⟩ := at_of (l := xs) (j := 14) (by omega)
    have h14 : DataW.trod enc Tryz.prog W 0 (fun _ => true) held n1 22 (([v0, v1, v2, v3, v4, v5, v6, v7, v8, v9, v10, v11, v12, v13, v14, v15].drop 14).take (Tryz.prog.cellsOf 22)) = some y14 := (hf 14 _ rfl).trans e14
    rw [cl22] at h14
    obtain ⟨A14, c14, l14, t14, q14, r14⟩ := ints1 (v := v14) h14
    obtain ⟨y15, e15⟩ := at_of (l := xs) (j := 15) (by omega)
    have h15 : DataW.trod enc Tryz.prog W 0 (fun _ => true) held n1 3 (([v0, v1, v2, v3, v4, v5, v6, v7, v8, v9, v10, v11, v12, v13, v14, v15].drop 15).take (Tryz.prog.cellsOf 3)) = some y15 := (hf 15 _ rfl).trans e15
    rw [cl3] at h15
    obtain ⟨a15, t15, w15⟩ := int1 (v := v15) h15
    exact ⟨⟨a0, a1, a2, a3, a4, a5, A6, c6, l6, q6, r6, A7, c7, l7, q7, r7, A8, c8, l8, q8, r8, A9, c9, l9, q9, r9, A10, c10, l10, q10, r10, A11, c11, l11, q11, r11, A12, c12, l12, q12, r12, A13, c13, l13, q13, r13, A14, c14, l14, q14, r14, a15, w4⟩, by unfold Opn.v; rw [t0, t1, t2, t3, t4, t5, t6, t7, t8, t9, t10, t11, t12, t13, t14, t15]⟩
end
end Go.Proofs.YtjjaiahfkiojlaaGreat.O

namespace Go.Proofs.YtjjaiahfkiojlaaGreat.Civ
open Go.RowKit

theorem w64 {x : Int} (h : -9223372036854775808 ≤ x) (h' : x < 9223372036854775808) : wrap64 x = x := by unfold wrap64; omega
theorem tmod_if (a b : Int) : Int.tmod a b = if 0 ≤ a then a % b else -((-a) % b) := by
  split
  · rename_i h; exact Int.tmod_eq_emod_of_nonneg h
  · rename_i h
    have : Int.tmod (-(-a)) b = -((-a) % b) := by rw [Int.neg_tmod, Int.tmod_eq_emod_of_nonneg (by omega)]
    rwa [Int.neg_neg] at this
theorem tdiv_if (a b : Int) : Int.tdiv a b = if 0 ≤ a then a / b else -((-a) / b) := by
  split
  · rename_i h; exact Int.tdiv_eq_ediv_of_nonneg h
  · rename_i h
    have : Int.tdiv (-(-a)) b = -((-a) / b) := by rw [Int.neg_tdiv, Int.tdiv_eq_ediv_of_nonneg (by omega)]
    rwa [Int.neg_neg] at this
theorem tmod_nn {a : Int} (b : Int) (h : 0 ≤ a) : Int.tmod a b = a % b := Int.tmod_eq_emod_of_nonneg h
theorem tdiv_nn {a : Int} (b : Int) (h : 0 ≤ a) : Int.tdiv a b = a / b := Int.tdiv_eq_ediv_of_nonneg h

def lp (y : Int) : Bool := decide (y % 4 = 0 ∧ (y % 100 ≠ 0 ∨ y % 400 = 0))
def lpi (y : Int) : Int := if lp y = true then 1 else 0
def ln (y m : Int) : Int := if m < 1 ∨ 12 < m then 0 else if m = 2 then 28 + lpi y else if m = 4 ∨ m = 6 ∨ m = 9 ∨ m = 11 then 30 else 31
def ah (y : Int) : Int := y * 365 + (y - 1) / 4 - (y - 1) / 100 + (y - 1) / 400 + 1
def cum (y m : Int) : Int :=
  if m ≤ 1 then 0 else if m = 2 then 31 else (if m = 3 then 59 else if m = 4 then 90 else if m = 5 then 120 else if m = 6 then 151 else if m = 7 then 181 else if m = 8 then 212 else if m = 9 then 243 else if m = 10 then 273 else if m = 11 then 304 else if m = 12 then 334 else 365) + lpi y
def num (y m d : Int) : Int := ah y - 719528 + cum y m + d - 1
def wd (n : Int) : Int := (n + 4) % 7
/-- A right date. -/
def Rt (y m d : Int) : Prop := 0 ≤ y ∧ y ≤ 10000 ∧ 1 ≤ m ∧ m ≤ 12 ∧ 1 ≤ d ∧ d ≤ ln y m

theorem lp_iff (y : Int) : lp y = true ↔ (y % 4 = 0 ∧ (y % 100 ≠ 0 ∨ y % 400 = 0)) := by simp [lp]
theorem lpi_01 (y : Int) : 0 ≤ lpi y ∧ lpi y ≤ 1 := by unfold lpi; split <;> omega
theorem lpi_iff (y : Int) : (lpi y = 1 ∧ y % 4 = 0 ∧ (y % 100 ≠ 0 ∨ y % 400 = 0)) ∨ (lpi y = 0 ∧ ¬(y % 4 = 0 ∧ (y % 100 ≠ 0 ∨ y % 400 = 0))) := by
  unfold lpi
  by_cases h : lp y = true
  · rw [if_pos h]; exact Or.inl ⟨rfl, (lp_iff y).1 h⟩
  · rw [if_neg h]; exact Or.inr ⟨rfl, fun k => h ((lp_iff y).2 k)⟩
theorem ah_succ (y : Int) : ah (y + 1) = ah y + 365 + lpi y := by
  have := lpi_iff y
  unfold ah
  omega
theorem ah_0 : ah 0 = 0 := by decide
theorem ah_10001 : ah 10001 = 3652791 := by decide
theorem ah_step (y : Int) (n : Nat) : ah y + 365 * n ≤ ah (y + n) ∧ ah (y + n) ≤ ah y + 366 * n := by
  induction n with
  | zero => simp
  | succ n ih =>
    have h := ah_succ (y + n)
    have := lpi_01 (y + n)
    rw [show y + ((n + 1 : Nat) : Int) = y + n + 1 by omega, h]
    omega
theorem ah_le {a b : Int} (h : a ≤ b) : ah a + 365 * (b - a) ≤ ah b ∧ ah b ≤ ah a + 366 * (b - a) := by
  have := ah_step a (b - a).toNat
  rw [show a + ((b - a).toNat : Int) = b by omega] at this
  omega
theorem ah_bd {y : Int} (h : 0 ≤ y) (h' : y ≤ 10001) : 0 ≤ ah y ∧ ah y ≤ 3652791 := by
  have h1 := ah_le h
  have h2 := ah_le h'
  rw [ah_0] at h1
  rw [ah_10001] at h2
  omega
theorem ln_bd (y m : Int) (h : 1 ≤ m) (h' : m ≤ 12) : 28 ≤ ln y m ∧ ln y m ≤ 31 := by
  have := lpi_01 y
  unfold ln
  repeat' split
  all_goals omega
theorem ln_0 (y m : Int) (h : m < 1 ∨ 12 < m) : ln y m = 0 := by unfold ln; rw [if_pos h]
theorem mcases {m : Int} (h : 1 ≤ m) (h' : m ≤ 12) : m = 1 ∨ m = 2 ∨ m = 3 ∨ m = 4 ∨ m = 5 ∨ m = 6 ∨ m = 7 ∨ m = 8 ∨ m = 9 ∨ m = 10 ∨ m = 11 ∨ m = 12 := by omega
theorem cum_succ (y m : Int) (h : 1 ≤ m) (h' : m ≤ 12) : cum y (m + 1) = cum y m + ln y m := by
  rcases mcases h h' with rfl | rfl | rfl | rfl | rfl | rfl | rfl | rfl | rfl | rfl | rfl | rfl <;> simp [cum, ln] <;> omega
theorem cum_1 (y : Int) : cum y 1 = 0 := by simp [cum]
theorem cum_13 (y : Int) : cum y 13 = 365 + lpi y := by simp [cum]
theorem cum_step (y m : Int) (n : Nat) (h : 1 ≤ m) (h' : m + n ≤ 13) : cum y m + 28 * n ≤ cum y (m + n) ∧ cum y (m + n) ≤ cum y m + 31 * n := by
  induction n with
  | zero => simp
  | succ n ih =>
    have hb := ln_bd y (m + n) (by omega) (by omega)
    have hs := cum_succ y (m + n) (by omega) (by omega)
    have := ih (by omega)
    rw [show m + ((n + 1 : Nat) : Int) = m + n + 1 by omega, hs]
    omega
theorem cum_le (y : Int) {a b : Int} (h : 1 ≤ a) (h' : a ≤ b) (hb : b ≤ 13) : cum y a + 28 * (b - a) ≤ cum y b ∧ cum y b ≤ cum y a + 31 * (b - a) := by
  have := cum_step y a (b - a).toNat h (by omega)
  rw [show a + ((b - a).toNat : Int) = b by omega] at this
  omega
theorem cum_bd (y m : Int) (h : 1 ≤ m) (h' : m ≤ 13) : 0 ≤ cum y m ∧ cum y m ≤ 365 + lpi y := by
  have h1 := cum_le y (Int.le_refl 1) h h'
  have h2 := cum_le y h h' (Int.le_refl 13)
  rw [cum_1] at h1
  rw [cum_13] at h2
  omega
theorem cum_next (y : Int) {a b : Int} (h : 1 ≤ a) (h' : a < b) (hb : b ≤ 13) : cum y a + ln y a ≤ cum y b := by
  have h1 := cum_le y (a := a + 1) (b := b) (by omega) (by omega) hb
  rw [cum_succ y a h (by omega)] at h1
  omega
/-- A right date lies in its year. -/
theorem num_in {y m d : Int} (h : Rt y m d) : ah y - 719528 ≤ num y m d ∧ num y m d < ah (y + 1) - 719528 := by
  obtain ⟨h1, h2, h3, h4, h5, h6⟩ := h
  have a := cum_bd y m h3 (by omega)
  have b := cum_le y (a := m + 1) (b := 13) (by omega) (by omega) (by omega)
  rw [cum_succ y m h3 h4, cum_13] at b
  rw [ah_succ]
  unfold num
  omega
theorem num_bd {y m d : Int} (h : Rt y m d) : -719528 ≤ num y m d ∧ num y m d ≤ 2933262 := by
  have a := num_in h
  have b := ah_bd h.1 (by have := h.2.1; omega)
  have c := ah_bd (y := y + 1) (by have := h.1; omega) (by have := h.2.1; omega)
  omega
/-- Later dates have greater numbers. -/
theorem num_lt {y m d y' m' d' : Int} (h : Rt y m d) (h' : Rt y' m' d') (l : y < y' ∨ y = y' ∧ (m < m' ∨ m = m' ∧ d < d')) : num y m d < num y' m' d' := by
  rcases l with l | ⟨rfl, l⟩
  · have a := num_in h
    have b := num_in h'
    have c := ah_le (a := y + 1) (b := y') (by omega)
    omega
  · obtain ⟨h1, h2, h3, h4, h5, h6⟩ := h
    obtain ⟨_, _, k3, k4, k5, k6⟩ := h'
    rcases l with l | ⟨rfl, l⟩
    · have := cum_next y h3 l (by omega)
      unfold num
      omega
    · unfold num
      omega
theorem num_inj {y m d y' m' d' : Int} (h : Rt y m d) (h' : Rt y' m' d') (e : num y m d = num y' m' d') : y = y' ∧ m = m' ∧ d = d' := by
  have a := num_lt h h'
  have b := num_lt h' h
  refine ⟨?_, ?_, ?_⟩ <;> omega
/-- Each number is of a year. -/
theorem year_of (n : Int) (h : 0 ≤ n) (h' : n < 3652791) : ∃ y, 0 ≤ y ∧ y ≤ 10000 ∧ ah y ≤ n ∧ n < ah (y + 1) := by
  have key : ∀ k : Nat, k ≤ 10001 → n < ah k → ∃ y, 0 ≤ y ∧ y ≤ 10000 ∧ ah y ≤ n ∧ n < ah (y + 1) := by
    intro k
    induction k with
    | zero => intro _ hl; rw [show ((0 : Nat) : Int) = 0 from rfl, ah_0] at hl; omega
    | succ k ih =>
      intro hk hl
      by_cases hc : n < ah k
      · exact ih (by omega) hc
      · exact ⟨k, by omega, by omega, by omega, by simpa using hl⟩
  exact key 10001 (Nat.le_refl _) (by rw [show ((10001 : Nat) : Int) = 10001 from rfl, ah_10001]; exact h')
theorem month_of (y n : Int) (h : 0 ≤ n) (h' : n < 365 + lpi y) : ∃ m, 1 ≤ m ∧ m ≤ 12 ∧ cum y m ≤ n ∧ n < cum y m + ln y m := by
  have key : ∀ k : Nat, k ≤ 12 → n < cum y (k + 1) → ∃ m, 1 ≤ m ∧ m ≤ 12 ∧ cum y m ≤ n ∧ n < cum y m + ln y m := by
    intro k
    induction k with
    | zero => intro _ hl; rw [show ((0 : Nat) : Int) + 1 = 1 from rfl, cum_1] at hl; omega
    | succ k ih =>
      intro hk hl
      by_cases hc : n < cum y (k + 1)
      · exact ih (by omega) hc
      · exact ⟨k + 1, by omega, by omega, by omega, by rw [← cum_succ y (k + 1) (by omega) (by omega)]; simpa using hl⟩
  exact key 12 (Nat.le_refl _) (by rw [show ((12 : Nat) : Int) + 1 = 13 from rfl, cum_13]; exact h')
theorem date_of (n : Int) (h : -719528 ≤ n) (h' : n ≤ 2933262) : ∃ y m d, Rt y m d ∧ num y m d = n := by
  obtain ⟨y, a, b, c, e⟩ := year_of (n + 719528) (by omega) (by omega)
  rw [ah_succ] at e
  obtain ⟨m, f, g, i, j⟩ := month_of y (n + 719528 - ah y) (by omega) (by omega)
  exact ⟨y, m, n + 719528 - ah y - cum y m + 1, ⟨a, b, f, g, by omega, by omega⟩, by unfold num; omega⟩
/-- The date of a number, chosen. -/
noncomputable def dt (n : Int) : Int × Int × Int := if h : -719528 ≤ n ∧ n ≤ 2933262 then ⟨(date_of n h.1 h.2).choose, (date_of n h.1 h.2).choose_spec.choose, (date_of n h.1 h.2).choose_spec.choose_spec.choose⟩ else (0, 0, 0)
theorem dt_spec {n : Int} (h : -719528 ≤ n) (h' : n ≤ 2933262) : Rt (dt n).1 (dt n).2.1 (dt n).2.2 ∧ num (dt n).1 (dt n).2.1 (dt n).2.2 = n := by
  have hh : -719528 ≤ n ∧ n ≤ 2933262 := ⟨h, h'⟩
  have := (date_of n hh.1 hh.2).choose_spec.choose_spec.choose_spec
  unfold dt
  rw [dif_pos hh]
  exact this
theorem dt_num {y m d : Int} (h : Rt y m d) : dt (num y m d) = (y, m, d) := by
  have b := num_bd h
  have s := dt_spec b.1 b.2
  obtain ⟨e1, e2, e3⟩ := num_inj s.1 h s.2
  exact Prod.ext e1 (Prod.ext e2 e3)
theorem wd_bd (n : Int) : 0 ≤ wd n ∧ wd n ≤ 6 := by unfold wd; omega
end Go.Proofs.YtjjaiahfkiojlaaGreat.Civ

namespace Go.Proofs.YtjjaiahfkiojlaaGreat.Pure
open Go.RowKit Go.Proofs.YtjjaiahfkiojlaaGreat.O Go.Proofs.YtjjaiahfkiojlaaGreatW.PrintWords Go.Proofs.YtjjaiahfkiojlaaGreatW.PrintLast
open Go.Proofs.YtjjaiahfkiojlaaGreat.Civ
set_option linter.unusedVariables false
set_option linter.unusedSimpArgs false
/-- The rule that is handed in. -/
def Opn.rr {W : World} (o : O.Opn W) : RR := ⟨o.a0, o.a1, o.a2, o.a3, o.a4, o.a5, o.l6, o.l7, o.l8, o.l9, o.l10, o.l11, o.l12, o.l13, o.l14, o.a15⟩
theorem opn_rul {W : World} (o : O.Opn W) : Rul W #[.int .i64 o.a0, .int .i64 o.a1, .int .i64 o.a2, .bool o.a3, .int .i64 o.a4, .bool o.a5, .slice o.A6 o.l6.length o.c6, .slice o.A7 o.l7.length o.c7, .slice o.A8 o.l8.length o.c8, .slice o.A9 o.l9.length o.c9, .slice o.A10 o.l10.length o.c10, .slice o.A11 o.l11.length o.c11, .slice o.A12 o.l12.length o.c12, .slice o.A13 o.l13.length o.c13, .slice o.A14 o.l14.length o.c14, .int .i64 o.a15] (Opn.rr o) :=
  ⟨rfl, rfl, rfl, rfl, rfl, rfl, rfl, ⟨_, _, rfl, o.q6, o.r6⟩, ⟨_, _, rfl, o.q7, o.r7⟩, ⟨_, _, rfl, o.q8, o.r8⟩, ⟨_, _, rfl, o.q9, o.r9⟩, ⟨_, _, rfl, o.q10, o.r10⟩, ⟨_, _, rfl, o.q11, o.r11⟩, ⟨_, _, rfl, o.q12, o.r12⟩, ⟨_, _, rfl, o.q13, o.r13⟩, ⟨_, _, rfl, o.q14, o.r14⟩, rfl⟩
theorem opn_ua {W : World} (o : O.Opn W) : -9223372036854775808 ≤ (Opn.rr o).ua ∧ (Opn.rr o).ua < 9223372036854775808 := by
  have h := o.w4
  simp [Lit.wf, IntKind.min, IntKind.max, IntKind.signed, IntKind.bits] at h
  show _ ≤ o.a4 ∧ o.a4 < _
  omega
end Go.Proofs.YtjjaiahfkiojlaaGreat.Pure

namespace Go.Proofs.YtjjaiahfkiojlaaGreat.Civ
open Go.RowKit
instance (y m d : Int) : Decidable (Rt y m d) := by unfold Rt; infer_instance
def upw (n w : Int) : Int := (w - wd n) % 7
def dnw (n w : Int) : Int := (wd n - w) % 7
theorem upw_bd (n w : Int) : 0 ≤ upw n w ∧ upw n w ≤ 6 := by unfold upw; omega
theorem dnw_bd (n w : Int) : 0 ≤ dnw n w ∧ dnw n w ≤ 6 := by unfold dnw; omega
/-- A right form. -/
def OnR (kd w d : Int) : Prop := kd = 1 ∧ 1 ≤ d ∧ d ≤ 31 ∧ w = 0 ∨ kd = 2 ∧ 0 ≤ w ∧ w ≤ 6 ∧ d = 0 ∨ (kd = 3 ∨ kd = 4) ∧ 0 ≤ w ∧ w ≤ 6 ∧ 1 ≤ d ∧ d ≤ 31
instance (kd w d : Int) : Decidable (OnR kd w d) := by unfold OnR; infer_instance
/-- The num-th day of a weekday. -/
def nthA (f k w : Int) : Int := f + upw f w + 7 * (k - 1)
def nthB (t k w : Int) : Int := t - dnw t w - 7 * (-k - 1)
def nthP (f t k w : Int) : Prop := f ≤ t ∧ k ≠ 0 ∧ -1000 ≤ k ∧ k ≤ 1000 ∧ 0 ≤ w ∧ w ≤ 6 ∧ (0 < k ∧ nthA f k w ≤ t ∨ k < 0 ∧ f ≤ nthB t k w)
instance (f t k w : Int) : Decidable (nthP f t k w) := by unfold nthP; infer_instance
def nthV (f t k w : Int) : Int × Bool := if nthP f t k w then (if 0 < k then nthA f k w else nthB t k w, true) else (0, false)
/-- The year of a number, and which day of it. -/
noncomputable def yr (n : Int) : Int := (dt n).1
noncomputable def yd (n : Int) : Int := n + 719528 - ah (yr n) + 1
theorem yr_bd {n : Int} (h : -719528 ≤ n) (h' : n ≤ 2933262) : 0 ≤ yr n ∧ yr n ≤ 10000 ∧ ah (yr n) ≤ n + 719528 ∧ n + 719528 < ah (yr n + 1) := by
  have s := dt_spec h h'
  have b := num_in s.1
  rw [s.2] at b
  exact ⟨s.1.1, s.1.2.1, by unfold yr; omega, by unfold yr; omega⟩
theorem ah_mono {a b : Int} (h : ah a < ah b) : a < b := by
  by_cases hc : b ≤ a
  · have := ah_le hc; omega
  · omega
theorem yr_eq {n y : Int} (h : -719528 ≤ n) (h' : n ≤ 2933262) (a : ah y ≤ n + 719528) (b : n + 719528 < ah (y + 1)) : yr n = y := by
  have s := yr_bd h h'
  have h1 := ah_mono (a := y) (b := yr n + 1) (by omega)
  have h2 := ah_mono (a := yr n) (b := y + 1) (by omega)
  omega
theorem yd_num {y m d : Int} (h : Rt y m d) : yd (num y m d) = cum y m + d := by
  have e : yr (num y m d) = y := by unfold yr; rw [dt_num h]
  unfold yd
  rw [e]
  unfold num
  omega
theorem cum_dt {n : Int} (h : -719528 ≤ n) (h' : n ≤ 2933262) : cum (dt n).1 (dt n).2.1 + (dt n).2.2 = yd n := by
  have s := dt_spec h h'
  have := yd_num s.1
  rw [s.2] at this
  exact this.symm
/-- The day on which a year's first week begins. -/
def fw (y k : Int) : Int := num y 1 4 - dnw (num y 1 4) k
/-- The day of a day's week that tells its year. -/
def mid (n k : Int) : Int := n - dnw n k + 3
theorem num_1 (y d : Int) : num y 1 d = ah y - 719528 + d - 1 := by unfold num; rw [cum_1]; omega
theorem mid_year (n k y : Int) : (ah y ≤ mid n k + 719528 ↔ fw y k ≤ n) := by
  unfold mid fw dnw wd
  rw [num_1]
  omega
theorem mid_yr {n k y : Int} (h : -719528 ≤ mid n k) (h' : mid n k ≤ 2933262) (a : fw y k ≤ n) (b : n < fw (y + 1) k) : yr (mid n k) = y := by
  have h1 := (mid_year n k y).2 a
  have h2 := mt (mid_year n k (y + 1)).1 (by omega)
  exact yr_eq h h' h1 (by omega)
theorem mid_fw {n k : Int} (h : -719528 ≤ mid n k) (h' : mid n k ≤ 2933262) : fw (yr (mid n k)) k ≤ n ∧ n < fw (yr (mid n k) + 1) k := by
  have s := yr_bd h h'
  have h1 := mid_year n k (yr (mid n k))
  have h2 := mid_year n k (yr (mid n k) + 1)
  omega
theorem mid_no (n k : Int) (h : -719528 ≤ mid n k) (h' : mid n k ≤ 2933262) : (yd (mid n k) - 1) / 7 + 1 = (n - fw (yr (mid n k)) k) / 7 + 1 := by
  have s := mid_fw h h'
  unfold yd
  have e : fw (yr (mid n k)) k = ah (yr (mid n k)) - 719528 + 3 - dnw (ah (yr (mid n k)) - 719528 + 3) k := by unfold fw; rw [num_1]; rw [show ah (yr (mid n k)) - 719528 + 4 - 1 = ah (yr (mid n k)) - 719528 + 3 by omega]
  rw [e] at s ⊢
  generalize ah (yr (mid n k)) = a at *
  unfold mid dnw wd at *
  omega
theorem fw_7 (y z k : Int) : (fw z k - fw y k) % 7 = 0 := by
  unfold fw dnw wd
  omega
theorem fw_bd (y k : Int) : ah y - 719528 - 3 ≤ fw y k ∧ fw y k ≤ ah y - 719528 + 3 := by
  unfold fw
  rw [num_1]
  have := dnw_bd (ah y - 719528 + 4 - 1) k
  omega
end Go.Proofs.YtjjaiahfkiojlaaGreat.Civ

namespace Go.Proofs.YtjjaiahfkiojlaaGreat.O
open Go.RowKit Go.Proofs.YtjjaiahfkiojlaaGreatW.PrintWords Go.Proofs.YtjjaiahfkiojlaaGreatW.PrintLast Go.Proofs.YtjjaiahfkiojlaaGreatW.PrintMore
attribute [local go_sem] max2_int min2_int max_two min_two max_three min_three max_four min_four   -- for this text's walks alone
set_option linter.unusedVariables false
set_option linter.unusedSimpArgs false

/-! ### civil_Long: function 110 -/
def civil_Long.f (a0 : Int) : Option (Bool) := if (Int.tmod a0 4) = 0 then (if (Int.tmod a0 100) = 0 then (some ((Int.tmod a0 400) == 0)) else (some true)) else (some false)
set_option maxHeartbeats 8000000 in
set_option maxRecDepth 100000 in
theorem civil_Long.calls (a0 : Int) (r : Bool) (w : World) (h : civil_Long.f a0 = some r) :
    Calls Tryz.prog 110 #[.int .i64 a0] w fun e w' => e = .returned (.bool r) ∧ Drawn0 w w' := by
  have H : (if (Int.tmod a0 4) = 0 then (if (Int.tmod a0 100) = 0 then (some ((Int.tmod a0 400) == 0)) else (some true)) else (some false)) = some r := h
  clear h
  by_cases c2 : (Int.tmod a0 4) = 0
  · rw [if_pos c2] at H
    have c2b0 : ((Int.tmod a0 4) == 0) = true := beq_iff_eq.mpr c2
    have c2b1 : ((Int.tmod a0 4) != 0) = false := bne_eq_false_iff_eq.mpr c2
    clear c2
    by_cases c3 : (Int.tmod a0 100) = 0
    · rw [if_pos c3] at H
      have c3b0 : ((Int.tmod a0 100) == 0) = true := beq_iff_eq.mpr c3
      have c3b1 : ((Int.tmod a0 100) != 0) = false := bne_eq_false_iff_eq.mpr c3
      clear c3
      obtain rfl := Option.some.inj H
      go_enter Tryz.func110, Tryz.ntmps110
      go_wp2
      go_ret
      exact ⟨by first | rfl | (simp; done) | (simp [*]; done), by repeat (first | exact Drawn0.refl _ | apply Drawn0.step)⟩
    · rw [if_neg c3] at H
      have c3b0 : ((Int.tmod a0 100) == 0) = false := beq_eq_false_iff_ne.mpr c3
      have c3b1 : ((Int.tmod a0 100) != 0) = true := bne_iff_ne.mpr c3
      obtain rfl := Option.some.inj H
      go_enter Tryz.func110, Tryz.ntmps110
      go_wp2
      go_ret
      exact ⟨by first | rfl | (simp; done) | (simp [*]; done), by repeat (first | exact Drawn0.refl _ | apply Drawn0.step)⟩
  · rw [if_neg c2] at H
    have c2b0 : ((Int.tmod a0 4) == 0) = false := beq_eq_false_iff_ne.mpr c2
    have c2b1 : ((Int.tmod a0 4) != 0) = true := bne_iff_ne.mpr c2
    obtain rfl := Option.some.inj H
    go_enter Tryz.func110, Tryz.ntmps110
    go_wp2
    go_ret
    exact ⟨by first | rfl | (simp; done) | (simp [*]; done), by repeat (first | exact Drawn0.refl _ | apply Drawn0.step)⟩

end Go.Proofs.YtjjaiahfkiojlaaGreat.O
