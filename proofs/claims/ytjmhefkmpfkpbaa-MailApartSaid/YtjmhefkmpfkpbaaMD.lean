/- Mass: masses: what they read as; the iterator as a contract -/
import Derived.Test.YtjmhefkmpfkpbaaMC
import Derived.Shelf.Abstract
namespace Go.Proofs.Ytjmhefkmpfkpbaa
open Go.Shelf Go.ChangeShapes Go.WideShapes Go.ChangeAt Go.RowKit
set_option linter.unusedSimpArgs false
set_option linter.unusedVariables false
structure Ms where
  s : Dy
  w : Dy
  c : Dy
  a : Dy
deriving DecidableEq
/-- A dyad by value, as it reads. -/
def RdD (w : World) (B : Nat) (g : Bool) (X : Option Addr) (n c : Nat) (e : Int) (d : Dy) : Prop := d.neg = g ∧ d.ex = e ∧ d.ls.length = n ∧ n ≤ c ∧ Reads w B 1 X n (ints .u32 d.ls)
theorem RdD.below {w w' : World} {B B' : Nat} {g : Bool} {X : Option Addr} {n c : Nat} {e : Int} {d : Dy} (h : RdD w B g X n c e d) (hb : Below B w w') (hB : B ≤ B') : RdD w' B' g X n c e d := ⟨h.1, h.2.1, h.2.2.1, h.2.2.2.1, (h.2.2.2.2.below hb).more hB⟩
/-- Limbs of bounded number. -/
def smM (m : Ms) : Prop := m.s.ls.length ≤ 100000 ∧ m.w.ls.length ≤ 100000 ∧ m.c.ls.length ≤ 100000 ∧ m.a.ls.length ≤ 100000
def RdM (w : World) (B : Nat) (ag0 : Bool) (aX0 : Option Addr) (an0 ac0 : Nat) (ae0 : Int) (ag1 : Bool) (aX1 : Option Addr) (an1 ac1 : Nat) (ae1 : Int) (ag2 : Bool) (aX2 : Option Addr) (an2 ac2 : Nat) (ae2 : Int) (ag3 : Bool) (aX3 : Option Addr) (an3 ac3 : Nat) (ae3 : Int) (m : Ms) : Prop :=
  RdD w B ag0 aX0 an0 ac0 ae0 m.s ∧ RdD w B ag1 aX1 an1 ac1 ae1 m.w ∧ RdD w B ag2 aX2 an2 ac2 ae2 m.c ∧ RdD w B ag3 aX3 an3 ac3 ae3 m.a
theorem RdM.below {w w' : World} {B B' : Nat} {ag0 : Bool} {aX0 : Option Addr} {an0 ac0 : Nat} {ae0 : Int} {ag1 : Bool} {aX1 : Option Addr} {an1 ac1 : Nat} {ae1 : Int} {ag2 : Bool} {aX2 : Option Addr} {an2 ac2 : Nat} {ae2 : Int} {ag3 : Bool} {aX3 : Option Addr} {an3 ac3 : Nat} {ae3 : Int} {m : Ms} (h : RdM w B ag0 aX0 an0 ac0 ae0 ag1 aX1 an1 ac1 ae1 ag2 aX2 an2 ac2 ae2 ag3 aX3 an3 ac3 ae3 m) (hb : Below B w w') (hB : B ≤ B') : RdM w' B' ag0 aX0 an0 ac0 ae0 ag1 aX1 an1 ac1 ae1 ag2 aX2 an2 ac2 ae2 ag3 aX3 an3 ac3 ae3 m := ⟨h.1.below hb hB, h.2.1.below hb hB, h.2.2.1.below hb hB, h.2.2.2.below hb hB⟩
theorem parts_seq (n g1 g2 ga gb : Nat) (hn : 1 ≤ n) (w0 : World) (h1 : w0.cell? ⟨g1, 0, none⟩ = some (.pointer (some ⟨ga, 0, none⟩))) (h2 : w0.cell? ⟨g2, 0, none⟩ = some (.pointer (some ⟨gb, 0, none⟩))) :
    SeqStopsK Fence.wide n Try.prog 84 #[.pointer (some ⟨g1, 0, none⟩), .pointer (some ⟨g2, 0, none⟩)] (encM ga gb) (KpM g1 g2) (fun ys => ys = [p0, p1, p2, p3]) (fun _ => True) 4 w0 := by
  intro l J Jx W hB hJ hJx hY h0
  have l1 := World.block_lt_of_cell? w0 _ h1
  have l2 := World.block_lt_of_cell? w0 _ h2
  exact parts_in n l g1 g2 ga gb hn J Jx W hY ⟨(hB.cell (p := ⟨g1, 0, none⟩) l1).trans h1, (hB.cell (p := ⟨g2, 0, none⟩) l2).trans h2⟩ (fun s A h => hJ s A _ none h ⟨rfl, rfl, rfl, Nat.le_refl _, fun _ _ _ => rfl⟩ (fun r e => by cases e)) h0
theorem parts_any (a b : Addr) (w : World) : Calls Try.prog 56 #[.pointer (some a), .pointer (some b)] w fun en w' => en = .returned (.func (.func 84) #[] #[.pointer (some ⟨w.heap.size, 0, none⟩), .pointer (some ⟨w.heap.size + 1, 0, none⟩)]) ∧ w' = (w.alloc (.cells #[.pointer (some a)] 99)).alloc (.cells #[.pointer (some b)] 99) := by
  go_enter Try.func56, Try.ntmps56
  go_wp2
  go_ret
  exact ⟨rfl, rfl⟩
theorem kpM_b {g1 g2 : Nat} {w : World} (h1 : g1 < w.heap.size) (h2 : g2 < w.heap.size) (W : World) (l : Nat) (o o' : Obj) (hl : w.heap.size ≤ l) (ho : W.heap[l]? = some o) (hc : o.isCells = false) (hw : o.isWalk = false) : KpM g1 g2 W (W.putObj l o') :=
  ⟨World.cell?_of_block ((grownBy_putObj' W l o').block g1 (by have := (Array.getElem?_eq_some_iff.1 ho).1; omega) (fun e => by injection e; omega)), World.cell?_of_block ((grownBy_putObj' W l o').block g2 (by have := (Array.getElem?_eq_some_iff.1 ho).1; omega) (fun e => by injection e; omega))⟩
theorem blk_own {β : Type} (g : Nat) (t : TypeId) (cs : β → Array Value) : Own (fun (s : β) W => Blk W g t (cs s)) := fun s A B row hs hg hr => by
  refine Blk.grown hs hg (fun e => ?_)
  obtain ⟨o, ho, hc⟩ := hr g e.symm
  unfold Blk at hs
  rw [hs] at ho
  injection ho with ho
  subst ho
  cases hc
end Go.Proofs.Ytjmhefkmpfkpbaa
