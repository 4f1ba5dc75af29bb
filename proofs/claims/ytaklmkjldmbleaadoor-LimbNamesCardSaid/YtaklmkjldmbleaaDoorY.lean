/- Limb: the reference's Mul and Div. -/
import Derived.Test.YtaklmkjldmbleaaDoorX
namespace Go.Proofs.YtaklmkjldmbleaaDoor
open Go.ChangeShapes Go.WideShapes Go.ChangeAt Go.RowKit
set_option linter.unusedSimpArgs false
set_option linter.unusedVariables false
section
variable (A A2 : Option Addr) (n n2 c c2 : Nat) (a b : List Nat) (hn : a.length = n) (hn2 : b.length = n2) (ha : ∀ x ∈ a, x < 4294967296) (hb : ∀ x ∈ b, x < 4294967296) (w : World) (hR : Reads w w.heap.size 1 A n (ints .u32 a)) (hR2 : Reads w w.heap.size 1 A2 n2 (ints .u32 b))
end
def BPost2 (w : World) (m N : Nat) (en : Ending) (w' : World) : Prop :=
  ∃ A c, en = .returned (.slice A m c) ∧ m ≤ c ∧ Reads w' w'.heap.size 1 A m (ints .u8 (dig 2 N)) ∧ Below w.heap.size w w' ∧ (∀ ad, A = some ad → w.heap.size ≤ ad.block)
theorem reads_far {w : World} {B n : Nat} {A : Option Addr} {xs : List Value} (h : Reads w B 1 A n xs) {p : Addr} (hp : ∀ ad, A = some ad → ad.block ≠ p.block) (u : Value) : Reads (w.setCell p u) B 1 A n xs := by
  refine ⟨h.1, fun h0 => ?_⟩
  obtain ⟨ad, e, hb, hc⟩ := h.2 h0
  refine ⟨ad, e, hb, fun j v hv => ?_⟩
  rw [World.cell?_setCell_other w p (ad.add j) u ?_]
  · exact hc j v hv
  · intro e2
    have := hp ad e
    apply this
    rw [e2, block_of_add]
theorem ints_put8 (l : List Nat) (i v : Nat) : (ints .u8 l).toArray.setIfInBounds i (.int .u8 (v : Int)) = (ints .u8 (l.set i v)).toArray := by
  apply Array.ext'
  rw [Array.toList_setIfInBounds]
  simp [ints, List.map_set]
theorem into_step {x r v T q : Nat} (h : T = q * v + r) : x + 2 * T = 2 * q * v + (x + 2 * r) := by
  rw [h, Nat.mul_add, Nat.mul_assoc]
  omega
theorem drop_cons_set {l : List Nat} {k v : Nat} (h : k < l.length) : (l.set k v).drop k = v :: l.drop (k + 1) := by
  rw [List.drop_eq_getElem_cons (by rw [List.length_set]; exact h)]
  rw [List.getElem_set_self]
  congr 1
  apply List.ext_getElem
  · simp
  · intro i h1 h2
    simp only [List.getElem_drop]
    rw [List.getElem_set_ne (by omega)]
theorem drop_cons {l : List Nat} {k : Nat} (h : k < l.length) : l.drop k = l.getD k 0 :: l.drop (k + 1) := by
  rw [List.drop_eq_getElem_cons h, List.getD_eq_getElem?_getD, List.getElem?_eq_getElem h]
  rfl
def IPost (w : World) (m1 m2 Q R : Nat) (en : Ending) (w' : World) : Prop :=
  ∃ A1 c1 A2 c2, en = .returned (.tuple #[.slice A1 m1 c1, .slice A2 m2 c2]) ∧ m1 ≤ c1 ∧ m2 ≤ c2 ∧ Reads w' w'.heap.size 1 A1 m1 (ints .u8 (dig 2 Q)) ∧ Reads w' w'.heap.size 1 A2 m2 (ints .u8 (dig 2 R)) ∧ Below w.heap.size w w'
/-- What a division answers: quotient, rest, error. -/
def divS (a b : List Nat) : List Nat × List Nat × Int := if both a b = true then (if b.length = 0 then ([], [], 2) else (dig 4294967296 (val 4294967296 a / val 4294967296 b), dig 4294967296 (val 4294967296 a % val 4294967296 b), 0)) else ([], [], 8)
def DivRead (w : World) (R : List Nat × List Nat × Int) (en : Ending) (w' : World) : Prop :=
  ∃ A c A2 c2, en = .returned (.tuple #[.slice A R.1.length c, .slice A2 R.2.1.length c2, .int .i64 R.2.2]) ∧ Reads w' w'.heap.size 1 A R.1.length (ints .u32 R.1) ∧ Reads w' w'.heap.size 1 A2 R.2.1.length (ints .u32 R.2.1) ∧ Below w.heap.size w w'
theorem dnil {w w' : World} (hb : Below w.heap.size w w') (e : Int) : DivRead w ([], [], e) (.returned (.tuple #[.slice none 0 0, .slice none 0 0, .int .i64 e])) w' := ⟨none, 0, none, 0, rfl, Reads.none_, Reads.none_, hb⟩
section
variable (A A2 : Option Addr) (n n2 c c2 : Nat) (a b : List Nat) (hn : a.length = n) (hn2 : b.length = n2) (ha : ∀ x ∈ a, x < 4294967296) (hb : ∀ x ∈ b, x < 4294967296) (w : World) (hR : Reads w w.heap.size 1 A n (ints .u32 a)) (hR2 : Reads w w.heap.size 1 A2 n2 (ints .u32 b))
end
end Go.Proofs.YtaklmkjldmbleaaDoor
