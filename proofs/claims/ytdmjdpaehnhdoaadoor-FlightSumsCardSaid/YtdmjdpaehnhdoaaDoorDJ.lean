/- Door: sums of dyads (plain); dyad.Check of a dyad -/
import Derived.Test.YtdmjdpaehnhdoaaDoorDPH
import Derived.Test.YtdmjdpaehnhdoaaDoorLKM
namespace Go.Proofs.YtdmjdpaehnhdoaaDoor
open Go.ChangeShapes Go.WideShapes Go.ChangeAt Go.RowKit
set_option linter.unusedSimpArgs false
set_option linter.unusedVariables false
theorem sgn_like (s : Bool) (x y : Nat) : sgn s x + sgn s y = sgn s (x + y) := by unfold sgn; cases s <;> simp <;> omega
theorem sgn_ge (s : Bool) {x y : Nat} (h : y ≤ x) : sgn s x + sgn (!s) y = sgn s (x - y) := by unfold sgn; cases s <;> simp <;> omega
theorem sgn_lt (s : Bool) {x y : Nat} (h : x < y) : sgn s x + sgn (!s) y = sgn (!s) (y - x) := by unfold sgn; cases s <;> simp <;> omega
/-- A dyad's number at an exponent that is not less. -/
def upD (d : Dy) (e : Nat) : Nat := val LB d.ls * 2 ^ (e - d.ex.toNat)
theorem worth_up {d : Dy} {e : Nat} (h : d.ex.toNat ≤ e) (he : e ≤ 1024) : worth d = sgn d.neg (upD d e * 2 ^ (1024 - e)) := by
  unfold worth upD
  rw [Nat.mul_assoc, ← Nat.pow_add, show e - d.ex.toNat + (1024 - e) = 1024 - d.ex.toNat by omega]
section
variable {a b : Dy} {e : Nat} (ha : a.ex.toNat ≤ e) (hb : b.ex.toNat ≤ e) (he : e ≤ 1024)
include ha hb he
theorem add_like (h : a.neg = b.neg) : formE a.neg (upD a e + upD b e) e = addD a b := by
  unfold addD
  rw [formE_up he, worth_up ha he, worth_up hb he, ← h, sgn_like, Nat.add_mul]
theorem add_ge (h : b.neg = !a.neg) (hv : ¬ upD a e < upD b e) : formE a.neg (upD a e - upD b e) e = addD a b := by
  unfold addD
  rw [formE_up he, worth_up ha he, worth_up hb he, h, sgn_ge _ (Nat.mul_le_mul_right _ (Nat.le_of_not_lt hv)), Nat.sub_mul]
theorem add_lt (h : b.neg = !a.neg) (hv : upD a e < upD b e) : formE (!a.neg) (upD b e - upD a e) e = addD a b := by
  unfold addD
  rw [formE_up he, worth_up ha he, worth_up hb he, h, sgn_lt _ (Nat.mul_lt_mul_of_pos_right hv (Nat.pow_pos (by decide))), Nat.sub_mul]
end
theorem upD_lt {d : Dy} {e : Nat} (hm : d.ls.length ≤ 40) (hl : ∀ x ∈ d.ls, x < LB) (he : e ≤ 1024) : upD d e < LB ^ 72 := by
  have h1 := val_lt hl
  have h2 : val LB d.ls < LB ^ 40 := Nat.lt_of_lt_of_le h1 (Nat.pow_le_pow_right (by decide) hm)
  have h3 : ∀ K, K = 1024 → LB ^ 32 = 2 ^ K → 2 ^ (e - d.ex.toNat) ≤ LB ^ 32 := fun K hK h => by rw [h]; exact Nat.pow_le_pow_right (by decide) (by omega)
  replace h3 := h3 (32 * 32) rfl (pow32 32)
  unfold upD
  calc val LB d.ls * 2 ^ (e - d.ex.toNat) < LB ^ 40 * 2 ^ (e - d.ex.toNat) := Nat.mul_lt_mul_of_pos_right h2 (Nat.pow_pos (by decide))
    _ ≤ LB ^ 40 * LB ^ 32 := Nat.mul_le_mul_left _ h3
    _ = LB ^ 72 := by rw [← Nat.pow_add]
theorem up_sum {a b : Dy} {e : Nat} (hm : a.ls.length ≤ 40) (hl : ∀ x ∈ a.ls, x < LB) (hm2 : b.ls.length ≤ 40) (hl2 : ∀ x ∈ b.ls, x < LB) (he : e ≤ 1024) : upD a e + upD b e < LB ^ 74 := by
  have h1 := upD_lt hm hl he
  have h2 := upD_lt hm2 hl2 he
  have h3 : LB ^ 74 = LB ^ 72 * (LB * LB) := by rw [show 74 = 72 + 1 + 1 from rfl, Nat.pow_succ, Nat.pow_succ, Nat.mul_assoc]
  have h4 : LB ^ 72 * 2 ≤ LB ^ 72 * (LB * LB) := Nat.mul_le_mul_left _ (by decide)
  omega
theorem dchk_any (d : Dy) (X : Option Addr) (c : Nat) (Q : Bool) (hQ : mayd d = Q) (w : World) (h : RdD w w.heap.size d.neg X d.ls.length c d.ex d) :
    Calls Tryd.prog 76 #[.agg #[.bool d.neg, .slice X d.ls.length c, .int .i64 d.ex]] w fun en w' => en = .returned (.int .i64 (if Q = true then 0 else 8)) ∧ Below w.heap.size w w' := by
  obtain ⟨_, _, _, _, h5⟩ := h
  have := dcheck_any d.neg X d.ls.length c (d.ls.map Int.ofNat) (by simp) (fun x hx => by obtain ⟨y, _, rfl⟩ := List.mem_map.1 hx; simp) d.ex w (by rw [← ints_u32s]; exact h5)
  unfold mayd at hQ
  rw [hQ] at this
  refine this.mono fun en w' ⟨h1, h2⟩ => ⟨?_, h2⟩
  rw [h1]
  cases Q <;> rfl
end Go.Proofs.YtdmjdpaehnhdoaaDoor
