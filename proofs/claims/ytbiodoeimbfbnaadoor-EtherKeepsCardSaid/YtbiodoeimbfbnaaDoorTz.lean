/- The library's table, and the lowest bit by it. -/
import Derived.Test.YtbiodoeimbfbnaaDoorProg
import Derived.Test.YtbiodoeimbfbnaaDoorKit7
import Derived.Lib.TrailingZeros
import Derived.Shelf.Spec.TrailingZeros
namespace Go.Proofs.YtbiodoeimbfbnaaDoor
open Go.ChangeShapes Go.WideShapes Go.ChangeAt Go.RowKit
set_option linter.unusedSimpArgs false
set_option linter.unusedVariables false
/-- The library's table as its text lays it. -/
def Tab (w : World) : Prop := TabAt 0 Lib.deBruijn32tab w ∧ 0 < w.heap.size
theorem Tab.below {w w' : World} {B : Nat} (h : Tab w) (hb : Below B w w') (hB : 0 < B) : Tab w' := by
  refine ⟨fun j hj => (hb.cell (p := ⟨0, j, none⟩) hB).trans (h.1 j hj), Nat.lt_of_lt_of_le h.2 hb.size⟩
set_option maxHeartbeats 4000000 in
theorem tz_any (x : Nat) (hx : x < 4294967296) (hx0 : x ≠ 0) (w : World) (hT : Tab w) :
    Calls Tryd.prog 36 #[.int .u32 (x : Int)] w fun e w' => e = .returned (.int .i64 ((Lib.ctz 32 x : Nat) : Int)) ∧ w = w' := by
  obtain ⟨hlow, hk⟩ := Lib.lowest_bit 32 x hx0 hx
  obtain ⟨hi, htab⟩ := Lib.deBruijn32_at _ hk
  have hcell := hT.1 _ hi
  rw [htab] at hcell
  have key := tz32_key x _ hx hx0 hlow
  obtain ⟨k, hkk⟩ : ∃ k, Lib.ctz 32 x = k := ⟨_, rfl⟩
  rw [hkk] at hcell key hk ⊢
  obtain ⟨i, hii⟩ : ∃ i, 2 ^ k * 125613361 % 4294967296 / 134217728 = i := ⟨_, rfl⟩
  rw [hii] at hcell key
  have hi2 : i < 32 := by omega
  have t1 : ((x : Int) == 0) = false := by (simp <;> omega)
  have i1 : (0 : Int) ≤ i := by omega
  have i2 : (i : Int) < 32 := by omega
  clear hlow hi htab hii hkk hT hx0
  go_enter Tryd.func36, Tryd.ntmps36
  go_wp2_with (simp only [key])
  go_ret
  exact ⟨rfl, rfl⟩
end Go.Proofs.YtbiodoeimbfbnaaDoor
