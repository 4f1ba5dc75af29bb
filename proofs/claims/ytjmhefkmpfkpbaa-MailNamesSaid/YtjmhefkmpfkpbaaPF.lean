/- Mail: mails by value -/
import Derived.Test.YtjmhefkmpfkpbaaPBE
import Derived.Test.YtjmhefkmpfkpbaaMDG
namespace Go.Proofs.Ytjmhefkmpfkpbaa
open Go.ChangeShapes Go.WideShapes Go.ChangeAt Go.RowKit
set_option linter.unusedSimpArgs false
set_option linter.unusedVariables false
/-- A mail. -/
structure Ml where
  kd : Int
  fr : Int
  tt : Int
  ep : Int
  nu : Int
  ab : Int
  give : Ms
  wa : Bool
  ds : List Tm
  eh : Bool
  e1 : Int
  e2 : Int
  ls : List Nat
deriving DecidableEq
/-- A mail, and where its rows lie. -/
structure MO where
  x : Ml
  X0 : Option Addr
  c0 : Nat
  X1 : Option Addr
  c1 : Nat
  X2 : Option Addr
  c2 : Nat
  X3 : Option Addr
  c3 : Nat
  D : Option Addr
  dc : Nat
  L : Option Addr
  lc : Nat
def aggL (o : MO) : Value := .agg #[.int .u8 o.x.kd, .int .i64 o.x.fr, .int .i64 o.x.tt, .int .i64 o.x.ep, .int .i64 o.x.nu, .int .i64 o.x.ab, .bool o.x.give.s.neg, .slice o.X0 o.x.give.s.ls.length o.c0, .int .i64 o.x.give.s.ex, .bool o.x.give.w.neg, .slice o.X1 o.x.give.w.ls.length o.c1, .int .i64 o.x.give.w.ex, .bool o.x.give.c.neg, .slice o.X2 o.x.give.c.ls.length o.c2, .int .i64 o.x.give.c.ex, .bool o.x.give.a.neg, .slice o.X3 o.x.give.a.ls.length o.c3, .int .i64 o.x.give.a.ex, .bool o.x.wa, .slice o.D o.x.ds.length o.dc, .bool o.x.eh, .int .i64 o.x.e1, .int .i64 o.x.e2, .slice o.L o.x.ls.length o.lc]
def rdL (w : World) (B : Nat) (o : MO) : Prop := RdM w B o.x.give.s.neg o.X0 o.x.give.s.ls.length o.c0 o.x.give.s.ex o.x.give.w.neg o.X1 o.x.give.w.ls.length o.c1 o.x.give.w.ex o.x.give.c.neg o.X2 o.x.give.c.ls.length o.c2 o.x.give.c.ex o.x.give.a.neg o.X3 o.x.give.a.ls.length o.c3 o.x.give.a.ex o.x.give ∧ Tms w B o.D o.x.ds.length o.x.ds ∧ Reads w B 1 o.L o.x.ls.length (ints .u32 o.x.ls)
theorem rdL.below {w w' : World} {B B' : Nat} {o : MO} (h : rdL w B o) (hb : Below B w w') (hB : B ≤ B') : rdL w' B' o := ⟨h.1.below hb hB, (h.2.1.below hb).more hB, (h.2.2.below hb).more hB⟩
/-- Rows of bounded length. -/
def smL (m : Ml) : Prop := smM m.give ∧ m.ds.length ≤ 5000 ∧ m.ls.length ≤ 100000
end Go.Proofs.Ytjmhefkmpfkpbaa
