/- Rows of whole numbers from 0 on, read and owned; what stays behind calls and stores. -/
import Derived.Test.YtdmjdpaehnhdoaaKit6
import Derived.Test.YtdmjdpaehnhdoaaNum
import Derived.Deep.QuietTactic
import Derived.BigQuiet
import Derived.WalkMore
import Derived.IntWalk
import Derived.Lib.Hide
import Derived.Deep.RegionHeld3
import Derived.Deep.DeepCutAuto
import Derived.OneCell
namespace Go.Proofs.Ytdmjdpaehnhdoaa
open Go.ChangeShapes Go.WideShapes Go.ChangeAt Go.RowKit
set_option linter.unusedSimpArgs false
set_option linter.unusedVariables false
theorem own_below {w w' : World} {base size n : Nat} {e : TypeId} {v : Value} {xs : List Value} (h : w.ownsRow base e size v n xs) (hb : Below w.heap.size w w') : w'.ownsRow base e size v n xs :=
  ⟨h.1, h.2.imp id fun ⟨g, c, cur, e1, h1, h2, r⟩ => ⟨g, c, cur, e1, h1, Blk.below (show Blk w g e cur from h2) hb (Blk.lt (show Blk w g e cur from h2)), r⟩⟩
theorem own_set {w : World} {base size n : Nat} {e : TypeId} {v : Value} {xs : List Value} (h : w.ownsRow base e size v n xs) {p : Addr} (hp : p.block < base) (u : Value) : (w.setCell p u).ownsRow base e size v n xs :=
  ⟨h.1, h.2.imp id fun ⟨g, c, cur, e1, h1, h2, r⟩ => ⟨g, c, cur, e1, h1, Blk.far (show Blk w g e cur from h2) (by omega) u, r⟩⟩
theorem own_far {w : World} {base size n : Nat} {e : TypeId} {v : Value} {xs : List Value} (h : w.ownsRow base e size v n xs) {p : Addr} (hp : v.ownBlock ≠ some p.block) (u : Value) : (w.setCell p u).ownsRow base e size v n xs := by
  refine ⟨h.1, h.2.imp id ?_⟩
  rintro ⟨g, c, cur, e1, h1, h2, r⟩
  refine ⟨g, c, cur, e1, h1, Blk.far (show Blk w g e cur from h2) ?_ u, r⟩
  intro e2
  apply hp
  rw [e1, ← e2]
  rfl
theorem bcell {W w1 : World} (hb : Below W.heap.size W w1) : (∀ b o, b < W.heap.size → w1.cell? ⟨b, o, none⟩ = W.cell? ⟨b, o, none⟩) ∧ (∀ b o, b < W.heap.size → w1.frozen? ⟨b, o, none⟩ = W.frozen? ⟨b, o, none⟩) :=
  ⟨fun b o h => hb.cell (p := ⟨b, o, none⟩) h, fun b o h => hb.frozen (p := ⟨b, o, none⟩) h⟩
abbrev ints (k : IntKind) (l : List Nat) : List Value := l.map (fun x : Nat => Value.int k (x : Int))
theorem ints_one (k : IntKind) (l : List Nat) : ∀ u ∈ ints k l, u.oneCell' = true := by
  intro u hu
  simp only [List.mem_map] at hu
  obtain ⟨x, _, rfl⟩ := hu
  rfl
theorem ints_snoc (k : IntKind) (l : List Nat) (x : Nat) : ints k l ++ [.int k (x : Int)] = ints k (l ++ [x]) := by simp [ints]
theorem ints_app (k : IntKind) (a b : List Nat) : ints k a ++ ints k b = ints k (a ++ b) := by simp [ints]
theorem ints_at (k : IntKind) {l : List Nat} {j : Nat} (h : j < l.length) : (ints k l)[j]? = some (.int k ((l.getD j 0 : Nat) : Int)) := by
  rw [List.getElem?_map, List.getElem?_eq_getElem h, List.getD_eq_getElem?_getD, List.getElem?_eq_getElem h]
  rfl
theorem ints_of {k : IntKind} {zs : List Int} (h : ∀ z ∈ zs, 0 ≤ z) : zs.map (Value.int k) = ints k (zs.map Int.toNat) := by
  rw [ints, List.map_map]
  apply List.map_congr_left
  intro z hz
  simp [Int.toNat_of_nonneg (h z hz)]
theorem at_ints {w : World} {B n k : Nat} {A : Option Addr} {l : List Nat} {K : IntKind} (hn : l.length = n) (hR : Reads w B 1 A n (ints K l)) (hk : k < n) : ∃ ad, A = some ad ∧ ad.block < B ∧ w.cell? (ad.add k) = some (.int K ((l.getD k 0 : Nat) : Int)) := by
  obtain ⟨ad, u, hA, hb, hu, hc⟩ := hR.at_ hk
  refine ⟨ad, hA, hb, ?_⟩
  rw [hc, ← hu, ints_at K (by omega)]
theorem reads_take {w : World} {B n k : Nat} {A : Option Addr} {l : List Nat} {K : IntKind} (hn : l.length = n) (h : Reads w B 1 A n (ints K l)) (hk : k ≤ n) : Reads w B 1 A k (ints K (l.take k)) := by
  refine ⟨by simp; omega, fun h0 => ?_⟩
  obtain ⟨ad, e, hb, hc⟩ := h.2 (by omega)
  refine ⟨ad, e, hb, fun j u hu => hc j u ?_⟩
  rw [List.getElem?_map, List.getElem?_take] at hu
  split at hu
  · rw [List.getElem?_map]; exact hu
  · simp at hu
/-- A row of the call's own: it lies at the head of a block that is its own, which may be longer. -/
def OwnR (w : World) (base : Nat) (e : TypeId) (A : Option Addr) (n : Nat) (xs : List Value) : Prop :=
  xs.length = n ∧ (0 < n → ∃ g cur, A = some ⟨g, 0, none⟩ ∧ base ≤ g ∧ Blk w g e cur ∧ cur.toList.take n = xs)
section
variable {w w' : World} {base n c : Nat} {e : TypeId} {A : Option Addr} {xs : List Value}
theorem OwnR.none_ : OwnR w base e A 0 [] := ⟨rfl, fun h => absurd h (by omega)⟩
theorem OwnR.of_row (h : w.ownsRow base e 1 (.slice A n c) n xs) : OwnR w base e A n xs := by
  refine ⟨by simpa using h.1, fun h0 => ?_⟩
  rcases h.2 with ⟨_, h1⟩ | ⟨g, cap, cur, hv, hb, hh, _, _, _, ht⟩
  · omega
  · injection hv with hA
    exact ⟨g, cur, hA, hb, hh, by simpa using ht⟩
theorem OwnR.reads (h : OwnR w base e A n xs) : Reads w w.heap.size 1 A n xs := by
  refine ⟨by simpa using h.1, fun h0 => ?_⟩
  obtain ⟨g, cur, hA, hb, hh, ht⟩ := h.2 h0
  refine ⟨_, hA, hh.lt, fun j u hu => ?_⟩
  have e : (⟨g, 0, none⟩ : Addr).add j = ⟨g, j, none⟩ := by unfold Addr.add; split <;> simp_all
  rw [e, hh.cell]
  rw [← ht, List.getElem?_take] at hu
  split at hu
  · simpa using hu
  · simp at hu
theorem OwnR.cut (h : OwnR w base e A n xs) {k : Nat} (hk : k ≤ n) : OwnR w base e A k (xs.take k) := by
  refine ⟨by rw [List.length_take, h.1]; omega, fun h0 => ?_⟩
  obtain ⟨g, cur, hA, hb, hh, ht⟩ := h.2 (by omega)
  exact ⟨g, cur, hA, hb, hh, by rw [← ht, List.take_take, Nat.min_eq_left hk]⟩
theorem OwnR.below (h : OwnR w base e A n xs) (hb : Below w.heap.size w w') : OwnR w' base e A n xs :=
  ⟨h.1, fun h0 => by obtain ⟨g, cur, hA, hg, hh, ht⟩ := h.2 h0; exact ⟨g, cur, hA, hg, hh.below hb hh.lt, ht⟩⟩
theorem OwnR.base_le (h : OwnR w base e A n xs) {b : Nat} (hb : b ≤ base) : OwnR w b e A n xs :=
  ⟨h.1, fun h0 => by obtain ⟨g, cur, hA, hg, hh, ht⟩ := h.2 h0; exact ⟨g, cur, hA, by omega, hh, ht⟩⟩
/-- A cell of one's own, written. -/
theorem OwnR.at_ (h : OwnR w base e A n xs) {k : Nat} (hk : k < n) : ∃ g, A = some ⟨g, 0, none⟩ ∧ base ≤ g ∧ g < w.heap.size ∧ w.cell? ⟨g, k, none⟩ = xs[k]? ∧ w.frozen? ⟨g, k, none⟩ = false ∧ (∀ u, OwnR (w.setCell ⟨g, k, none⟩ u) base e A n (xs.set k u)) := by
  obtain ⟨g, cur, hA, hb, hh, ht⟩ := h.2 (by omega)
  refine ⟨g, hA, hb, hh.lt, ?_, hh.frozen k, fun u => ⟨by rw [List.length_set]; exact h.1, fun _ => ⟨g, _, hA, hb, hh.set_ k u, ?_⟩⟩⟩
  · rw [hh.cell, ← ht, List.getElem?_take, if_pos hk]; simp
  · rw [← ht, Array.toList_setIfInBounds, List.take_set]
end
/-- What is written over stays one's own. -/
theorem own_of_make {w : World} {base : Nat} {e : TypeId} {g : Nat} {cs : Array Value} (h : Blk w g e cs) (hb : base ≤ g) : OwnR w base e (some ⟨g, 0, none⟩) cs.size cs.toList :=
  ⟨by simp, fun _ => ⟨g, cs, rfl, hb, h, by rw [List.take_of_length_le (by simp)]⟩⟩
end Go.Proofs.Ytdmjdpaehnhdoaa
