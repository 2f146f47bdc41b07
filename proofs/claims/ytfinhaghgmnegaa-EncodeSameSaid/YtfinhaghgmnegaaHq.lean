-- A rule and its cells: a text of this claim's own.
import Derived.Test.YtfinhaghgmnegaaHm
namespace Go.Proofs.Ytfinhaghgmnegaa.O
open Go.RowKit Go.Deep Go.Proofs.YtfinhaghgmnegaaW.PrintWords Go.Proofs.YtfinhaghgmnegaaW.PrintLast Go.Proofs.YtfinhaghgmnegaaW.PrintMore
set_option linter.unusedVariables false
set_option linter.unusedSimpArgs false
/-- A rule. -/
structure RR where
  fr : Int
  iv : Int
  ct : Int
  un : Bool
  ua : Int
  utc : Bool
  sec : List Int
  mi : List Int
  ho : List Int
  dy : List S54
  md : List Int
  yd : List Int
  wn : List Int
  mo : List Int
  sp : List Int
  wk : Int
/-- The cells of a rule with these lists. -/
def c16 (r : RR) (s6 s7 s8 s9 s10 s11 s12 s13 s14 : Value) : Array Value := #[.int .i64 r.fr, .int .i64 r.iv, .int .i64 r.ct, .bool r.un, .int .i64 r.ua, .bool r.utc, s6, s7, s8, s9, s10, s11, s12, s13, s14, .int .i64 r.wk]
/-- A list in a cell. -/
def InL (w : World) (v : Option Value) (l : List Int) : Prop := ∃ A c, v = some (.slice A l.length c) ∧ l.length ≤ c ∧ Kd.C (Kd.int .i64) w A l.length l
def InD (w : World) (v : Option Value) (l : List S54) : Prop := ∃ A c, v = some (.slice A l.length c) ∧ l.length ≤ c ∧ Kd.C k54 w A l.length l
/-- The cells of a rule. -/
structure Rul (w : World) (cs : Array Value) (r : RR) : Prop where
  sz : cs.size = 16
  c0 : cs[0]? = some (.int .i64 r.fr)
  c1 : cs[1]? = some (.int .i64 r.iv)
  c2 : cs[2]? = some (.int .i64 r.ct)
  c3 : cs[3]? = some (.bool r.un)
  c4 : cs[4]? = some (.int .i64 r.ua)
  c5 : cs[5]? = some (.bool r.utc)
  c6 : InL w cs[6]? r.sec
  c7 : InL w cs[7]? r.mi
  c8 : InL w cs[8]? r.ho
  c9 : InD w cs[9]? r.dy
  c10 : InL w cs[10]? r.md
  c11 : InL w cs[11]? r.yd
  c12 : InL w cs[12]? r.wn
  c13 : InL w cs[13]? r.mo
  c14 : InL w cs[14]? r.sp
  c15 : cs[15]? = some (.int .i64 r.wk)
theorem InL.below {w W : World} {v : Option Value} {l : List Int} (h : InL w v l) (hb : Below w.heap.size w W) : InL W v l := by
  obtain ⟨A, c, e, hc, hk⟩ := h
  exact ⟨A, c, e, hc, Kd.C_below hk hb⟩
theorem InD.below {w W : World} {v : Option Value} {l : List S54} (h : InD w v l) (hb : Below w.heap.size w W) : InD W v l := by
  obtain ⟨A, c, e, hc, hk⟩ := h
  exact ⟨A, c, e, hc, Kd.C_below hk hb⟩
theorem Rul.below {w W : World} {cs : Array Value} {r : RR} (h : Rul w cs r) (hb : Below w.heap.size w W) : Rul W cs r :=
  ⟨h.sz, h.c0, h.c1, h.c2, h.c3, h.c4, h.c5, h.c6.below hb, h.c7.below hb, h.c8.below hb, h.c9.below hb, h.c10.below hb, h.c11.below hb, h.c12.below hb, h.c13.below hb, h.c14.below hb, h.c15⟩
end Go.Proofs.Ytfinhaghgmnegaa.O
