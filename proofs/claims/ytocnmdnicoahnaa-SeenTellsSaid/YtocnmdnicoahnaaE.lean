/- Seen: the library's slices.Clone and slices.Insert at []int, laid at this program; a clone; a number put into a row. -/
import Derived.Ground.Names2Prog
import Derived.Shelf.Slices.Clone
import Derived.Shelf.Spec.SlicesInsert
import Derived.Shelf.Spec.SlicesInsertGrow
import Derived.Test.YtocnmdnicoahnaaD
import Derived.Test.YtocnmdnicoahnaaKit4
namespace Go.Proofs.Ytocnmdnicoahnaa
open Go.Shelf Go.ChangeShapes Go.WideShapes Go.ChangeAt Go.RowKit
set_option linter.unusedSimpArgs false
set_option linter.unusedVariables false
def laysClone_ren : Go.Shelf.Ren := ⟨fun | 15 => 24 | n => n, fun | 22 => 22 | 3 => 3 | 4 => 4 | n => n, fun | n => n⟩
theorem laysClone : Go.Proofs.Lays2.n15 Try.prog laysClone_ren := {
  mixed := by kernel_rfl
  f15 := Try.func24.trans (congrArg some (by kernel_rfl))
  t3 := Try.underlying3
  a3 := Try.isAgg3
  z3 := Try.sizeOf3
  v3 := Try.zeroValue3
  t4 := Try.underlying4
  a4 := Try.isAgg4
  z4 := Try.sizeOf4
  v4 := Try.zeroValue4
  t22 := Try.underlying22
  a22 := Try.isAgg22
  z22 := Try.sizeOf22
  v22 := Try.zeroValue22
  i3 := by kernel_rfl }
def laysInsert_ren : Go.Shelf.Ren := ⟨fun | 21 => 23 | 27 => 30 | 28 => 31 | 35 => 32 | 39 => 33 | n => n, fun | 22 => 22 | 3 => 3 | 4 => 4 | 0 => 0 | n => n, fun | n => n⟩
theorem laysInsert : Go.Proofs.Lays2.n21 Try.prog laysInsert_ren := {
  mixed := by kernel_rfl
  f21 := Try.func23.trans (congrArg some (by kernel_rfl))
  f27 := Try.func30.trans (congrArg some (by kernel_rfl))
  f28 := Try.func31.trans (congrArg some (by kernel_rfl))
  f35 := Try.func32.trans (congrArg some (by kernel_rfl))
  f39 := Try.func33.trans (congrArg some (by kernel_rfl))
  t0 := Try.underlying0
  a0 := Try.isAgg0
  z0 := Try.sizeOf0
  v0 := Try.zeroValue0
  t3 := Try.underlying3
  a3 := Try.isAgg3
  z3 := Try.sizeOf3
  v3 := Try.zeroValue3
  t4 := Try.underlying4
  a4 := Try.isAgg4
  z4 := Try.sizeOf4
  v4 := Try.zeroValue4
  t22 := Try.underlying22
  a22 := Try.isAgg22
  z22 := Try.sizeOf22
  v22 := Try.zeroValue22
  i3 := by kernel_rfl }

theorem clone_any (A : Option Addr) (n c : Nat) (l : List Int) (hn : l.length = n) (hm : n ≤ 10000) (w : World) (hR : Reads w w.heap.size 1 A n (ints l)) :
    Calls Try.prog 24 #[.slice A n c] w fun e w' => ∃ v, e = .returned v ∧ w'.ownsRow w.heap.size 3 1 v n (ints l) ∧ Below w.heap.size w w' := by
  rcases Nat.eq_zero_or_pos n with h0 | h0
  · subst h0
    obtain rfl := List.eq_nil_of_length_eq_zero hn
    rcases A with _ | ad
    · refine (Any.slices_Clone_int_nil laysClone 0 c w).mono ?_
      rintro e w' ⟨rfl, rfl⟩
      exact ⟨_, rfl, World.ownsRow_nil _ _ _ _, Below.refl _ _⟩
    · refine (Any.slices_Clone_int_zero laysClone ad c w).mono ?_
      rintro e w' ⟨v, rfl, ho, _, hb⟩
      exact ⟨v, rfl, ho, hb⟩
  · obtain ⟨ad, rfl, hb, hc⟩ := hR.2 h0
    have hs : ad.spot = none := by
      have := hc 0 _ (by rw [List.getElem?_map, List.getElem?_eq_getElem (by omega)]; rfl)
      rw [Addr.add_zero'] at this
      unfold World.cell? at this
      split at this
      · split at this
        · cases this
        · rename_i h; simpa using h
      · cases this
    obtain ⟨b, off, sp⟩ := ad
    subst hs
    refine (Any.slices_Clone_int laysClone b off n c l w (by omega) (by omega) (fun j hj => ?_)).mono ?_
    · have := hc j (.int .i64 (l.getD j 0)) (by rw [List.getElem?_map, List.getElem?_eq_getElem hj]; simp [List.getD_eq_getElem?_getD, List.getElem?_eq_getElem hj])
      rwa [Addr.add_lit] at this
    · rintro e w' ⟨v, rfl, ho, _, hb⟩
      rw [List.take_of_length_le (by omega)] at ho
      exact ⟨v, rfl, ho, hb⟩
/-- A number put in at a place. -/
def ins (l : List Int) (i : Nat) (x : Int) : List Int := l.take i ++ x :: l.drop i
theorem ins_len {l : List Int} {i : Nat} {x : Int} (hi : i ≤ l.length) : (ins l i x).length = l.length + 1 := by simp [ins]; omega
theorem reads_ins {w : World} {B g n i : Nat} {l : List Int} {x : Int} (hn : l.length = n) (hi : i ≤ n) (hg : g < B)
    (h1 : ∀ j, j < i → w.cell? ⟨g, j, none⟩ = some (.int .i64 (l.getD j 0))) (h2 : w.cell? ⟨g, i, none⟩ = some (.int .i64 x)) (h3 : ∀ j, i ≤ j → j < n → w.cell? ⟨g, j + 1, none⟩ = some (.int .i64 (l.getD j 0))) :
    Reads w B 1 (some ⟨g, 0, none⟩) (n + 1) (ints (ins l i x)) := by
  refine ⟨by rw [List.length_map, ins_len (by omega)]; omega, fun _ => ⟨_, rfl, hg, fun j u hu => ?_⟩⟩
  rw [Addr.add_lit, Nat.zero_add]
  rw [List.getElem?_map] at hu
  unfold ins at hu
  have hlt : (l.take i).length = i := by simp; omega
  rcases Nat.lt_trichotomy j i with h | h | h
  · rw [List.getElem?_append_left (by omega), List.getElem?_take_of_lt h, List.getElem?_eq_getElem (by omega)] at hu
    simp only [Option.map_some, Option.some.injEq] at hu
    rw [h1 j h, ← hu]
    simp [List.getD_eq_getElem?_getD, List.getElem?_eq_getElem (show j < l.length by omega)]
  · subst h
    rw [List.getElem?_append_right (by omega), hlt, Nat.sub_self] at hu
    simp only [List.getElem?_cons_zero, Option.map_some, Option.some.injEq] at hu
    rw [h2, ← hu]
  · rw [List.getElem?_append_right (by omega), hlt, show j - i = (j - i - 1) + 1 by omega, List.getElem?_cons_succ, List.getElem?_drop] at hu
    have e : i + (j - i - 1) = j - 1 := by omega
    rw [e] at hu
    rcases Nat.lt_or_ge (j - 1) l.length with hj | hj
    · rw [List.getElem?_eq_getElem hj] at hu
      simp only [Option.map_some, Option.some.injEq] at hu
      have := h3 (j - 1) (by omega) (by omega)
      rw [show j - 1 + 1 = j by omega] at this
      rw [this, ← hu]
      simp [List.getD_eq_getElem?_getD, List.getElem?_eq_getElem hj]
    · rw [List.getElem?_eq_none hj] at hu
      cases hu
end Go.Proofs.Ytocnmdnicoahnaa
