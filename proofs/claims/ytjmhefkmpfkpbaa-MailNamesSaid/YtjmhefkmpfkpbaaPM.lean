/- Mail: what a mail's content says -/
import Derived.Test.YtjmhefkmpfkpbaaPL
import Derived.Test.YtjmhefkmpfkpbaaPIJ
namespace Go.Proofs.Ytjmhefkmpfkpbaa
open Go.ChangeShapes Go.WideShapes Go.ChangeAt Go.RowKit
set_option linter.unusedSimpArgs false
set_option linter.unusedVariables false
theorem tnumI (g : Nat) (ps : List (Nat × Nat)) (s : Nat) (i j : Int) (h1 : 1 ≤ s) (h8 : s ≤ 4) (h0 : 0 ≤ i) (hi : i < ((256 ^ s : Nat) : Int)) (hj : j = (s : Int)) (hm : total ps + s ≤ 3900) (w : World) (h : Txt w g ps) : Calls Try.prog 53 #[.pointer (some ⟨g, 0, none⟩), .int .i64 i, .int .i64 j] w fun en w' => en = .returned (.tuple #[]) ∧ Txt w' g (ps ++ [(i.toNat, s)]) ∧ Only g w w' := by
  obtain ⟨x, rfl⟩ : ∃ x : Nat, i = x := ⟨i.toNat, by omega⟩
  subst hj
  have hs : s = 1 ∨ s = 2 ∨ s = 3 ∨ s = 4 := by omega
  have hx : x < 256 ^ s := by omega
  have hx2 : x < 9223372036854775808 := by rcases hs with rfl | rfl | rfl | rfl <;> omega
  exact tnum g ps x s ⟨h1, by omega, hx⟩ hx2 hm w h
def hdP (m : Ml) : List (Nat × Nat) := [(m.fr.toNat, 1), (m.tt.toNat, 1), (m.ep.toNat, 2), (m.nu.toNat, 3)]
def dsP (l : List Tm) : List (Nat × Nat) := l.flatMap fun d => [(d.1.toNat, 1), (d.2.toNat, 4)]
def lsP (l : List Nat) : List (Nat × Nat) := l.map fun x => (x, 4)
def bP (b : Bool) : Nat := if b then 1 else 0
/-- What is written of a mail. -/
def conP (m : Ml) : List (Nat × Nat) :=
  if m.kd = 1 then hdP m ++ (ptD m.give.s ++ ptD m.give.w)
  else if m.kd = 2 then hdP m ++ (ptD m.give.c ++ ptD m.give.a)
  else if m.kd = 3 then hdP m ++ ((m.ab.toNat, 3) :: (ptD m.give.c ++ ptD m.give.a))
  else if m.kd = 4 then hdP m ++ [(m.ab.toNat, 3)]
  else if m.kd = 5 then hdP m ++ ((bP m.wa, 1) :: (m.ds.length, 1) :: dsP m.ds)
  else hdP m ++ ((bP m.eh, 1) :: ((m.e1 + 2147483648).toNat, 4) :: ((m.e2 + 2147483648).toNat, 4) :: (m.ls.length, 1) :: lsP m.ls)
end Go.Proofs.Ytjmhefkmpfkpbaa
