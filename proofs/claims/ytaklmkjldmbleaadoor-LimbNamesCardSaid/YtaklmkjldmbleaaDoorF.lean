/- Limb's Door: the program's bits, lowest bits and shifts. -/
import Derived.Test.YtaklmkjldmbleaaDoorE
import Derived.Lib.TrailingZeros
import Derived.Shelf.Spec.TrailingZeros
namespace Go.Proofs.YtaklmkjldmbleaaDoor
open Go.ChangeShapes Go.WideShapes Go.ChangeAt Go.RowKit
set_option linter.unusedSimpArgs false
set_option linter.unusedVariables false
theorem ask1E (a : List Nat) : askE [!mayB a] = if mayB a = true then 0 else 8 := by
  unfold askE anyB
  cases mayB a <;> rfl
/-- One is asked. -/
theorem ask1 (A : Option Addr) (n c : Nat) (a : List Nat) (hn : a.length = n) (W : World) (hR : Reads W W.heap.size 1 A n (ints .u32 a)) (E : Int) (hE : (if mayB a = true then 0 else 8) = E) :
    Calls Tryd.prog 29 #[.slice (some ⟨W.heap.size, 0, none⟩) 1 1] (W.alloc (.cells #[.slice A n c] 22)) fun en w' => en = .returned (.int .i64 E) ∧ W.alloc (.cells #[.slice A n c] 22) = w' := by
  rw [← hE, ← ask1E]
  refine asked_any (some ⟨W.heap.size, 0, none⟩) 1 1 (W.heap.size + 1) [.slice A n c] [!mayB a] rfl (by omega) _ (reads_new W [.slice A n c] 22 1 rfl) ?_
  intro k v b' hv hb
  rcases k with _ | k
  · injection hv with hv
    injection hb with hb
    subst hv hb
    exact asked1 A n c W.heap.size a hn _ (hR.alloc (Nat.le_refl _) _)
  · simp at hv
def bitsS (a : List Nat) : Int × Int := if mayB a = true then (((bl (val 4294967296 a) : Nat) : Int), 0) else (0, 8)
section
variable (A : Option Addr) (n c : Nat) (a : List Nat) (hn : a.length = n) (ha : ∀ x ∈ a, x < 4294967296) (w : World) (hR : Reads w w.heap.size 1 A n (ints .u32 a))
include hn ha hR in
set_option maxHeartbeats 4000000 in
theorem bits_any : Calls Tryd.prog 13 #[.slice A n c] w (CPost w (bitsS a)) := by
  have hB := (Below.refl w.heap.size w).alloc (Nat.le_refl _) (.cells #[.slice A n c] 22)
  cases hbo : mayB a
  · have hq := ask1 A n c a hn w hR 8 (by rw [hbo]; rfl)
    rw [show bitsS a = (0, 8) by unfold bitsS; rw [hbo]; rfl]
    clear ha hn hR hbo
    go_enter Tryd.func13, Tryd.ntmps13
    go_wp2_with (go_at_call 29; (with_reducible refine hq.mono ?_); rintro e w1 ⟨rfl, rfl⟩)
    go_ret2
    exact ⟨rfl, hB⟩
  have hq := ask1 A n c a hn w hR 0 (by rw [hbo]; rfl)
  have ho := length_any A n c w.heap.size a hn (by have := mayB_len hbo; omega) ha (mayB_canon hbo) _ (hR.alloc (Nat.le_refl _) (.cells #[.slice A n c] 22))
  rw [show bitsS a = (((bl (val 4294967296 a) : Nat) : Int), 0) by unfold bitsS; rw [hbo]; rfl]
  clear ha hn hR hbo
  go_enter Tryd.func13, Tryd.ntmps13
  go_wp2_with (first | (go_at_call 29; (with_reducible refine hq.mono ?_); rintro e w1 ⟨rfl, rfl⟩) | (go_at_call 40; (with_reducible refine ho.mono ?_); rintro e w1 ⟨rfl, rfl⟩))
  go_ret2
  exact ⟨rfl, hB⟩
end
/-- How many of a number's lowest bits are 0. -/
def lowN (v : Nat) : Nat := if v = 0 then 0 else Lib.ctzFrom v v
theorem lowN_spec {v : Nat} (h : 0 < v) : ∃ m, v = 2 ^ lowN v * (2 * m + 1) := by
  unfold lowN
  rw [if_neg (by omega)]
  obtain ⟨m, hm, _⟩ := Lib.ctzFrom_spec v v h Nat.lt_two_pow_self
  exact ⟨m, hm⟩
theorem low_uniq : ∀ {i j m k : Nat}, 2 ^ i * (2 * m + 1) = 2 ^ j * (2 * k + 1) → i = j
  | 0, 0, _, _, _ => rfl
  | 0, j + 1, m, k, h => by rw [Nat.pow_zero, Nat.one_mul, Nat.pow_succ, Nat.mul_comm (2 ^ j) 2, Nat.mul_assoc] at h; omega
  | i + 1, 0, m, k, h => by rw [Nat.pow_zero, Nat.one_mul, Nat.pow_succ, Nat.mul_comm (2 ^ i) 2, Nat.mul_assoc] at h; omega
  | i + 1, j + 1, m, k, h => by
    rw [Nat.pow_succ, Nat.pow_succ, Nat.mul_comm (2 ^ i) 2, Nat.mul_comm (2 ^ j) 2, Nat.mul_assoc, Nat.mul_assoc] at h
    rw [low_uniq (Nat.eq_of_mul_eq_mul_left (by omega) h)]
theorem lowN_eq {v t m : Nat} (h : v = 2 ^ t * (2 * m + 1)) : lowN v = t := by
  have h0 : 0 < v := by rw [h]; exact Nat.mul_pos (Nat.pow_pos (by omega)) (by omega)
  obtain ⟨k, hk⟩ := lowN_spec h0
  exact low_uniq (hk.symm.trans h)
theorem low_at {a : List Nat} {k x : Nat} (h0 : ∀ j, j < k → a.getD j 0 = 0) (hk : k < a.length) (hx : a.getD k 0 = x) (hx0 : x ≠ 0) (hxl : x < 4294967296) : lowN (val 4294967296 a) = 32 * k + Lib.ctz 32 x := by
  obtain ⟨m, hm, hc⟩ := Lib.ctzFrom_spec 32 x (by omega) hxl
  rw [show Lib.ctz 32 x = Lib.ctzFrom 32 x by simp [Lib.ctz, hx0]]
  have e1 : val 4294967296 a = 4294967296 ^ k * (x + 4294967296 * val 4294967296 (a.drop (k + 1))) := by
    have hd : a.drop k = x :: a.drop (k + 1) := by
      rw [List.drop_eq_getElem_cons hk]
      congr 1
      rw [← hx, List.getD_eq_getElem?_getD, List.getElem?_eq_getElem hk]; rfl
    rw [val_drop_split 4294967296 a k, hd, val_cons, Nat.min_eq_left (by omega), val_zero, Nat.zero_add]
    intro z hz
    obtain ⟨i, hi, rfl⟩ := List.mem_iff_getElem.1 hz
    have hi' : i < k := by rw [List.length_take] at hi; omega
    have := h0 i hi'
    rw [List.getD_eq_getElem?_getD, List.getElem?_eq_getElem (by omega)] at this
    rw [List.getElem_take]
    exact this
  obtain ⟨t, ht⟩ : ∃ t, Lib.ctzFrom 32 x = t := ⟨_, rfl⟩
  rw [ht] at hm hc ⊢
  obtain ⟨r, hr⟩ : ∃ r, val 4294967296 (a.drop (k + 1)) = r := ⟨_, rfl⟩
  rw [hr] at e1
  refine lowN_eq (m := m + 2 ^ (31 - t) * r) ?_
  have e2 : (4294967296 : Nat) = 2 ^ t * (2 * 2 ^ (31 - t)) := by
    rw [← Nat.pow_succ', ← Nat.pow_add, show t + (31 - t + 1) = 32 by omega]
  have e3 : x + 4294967296 * r = 2 ^ t * (2 * (m + 2 ^ (31 - t) * r) + 1) := by
    rw [hm]
    conv => lhs; rw [e2]
    rw [Nat.mul_add, Nat.mul_add, Nat.mul_add, Nat.mul_add, Nat.mul_assoc, Nat.mul_assoc]
    omega
  rw [e1, e3, pow32, ← Nat.mul_assoc, ← Nat.pow_add]
theorem low_none {a : List Nat} (h0 : ∀ j, j < a.length → a.getD j 0 = 0) : lowN (val 4294967296 a) = 0 := by
  rw [val_zero]
  · rfl
  · intro z hz
    obtain ⟨i, hi, rfl⟩ := List.mem_iff_getElem.1 hz
    have := h0 i hi
    rw [List.getD_eq_getElem?_getD, List.getElem?_eq_getElem hi] at this
    exact this
/-- The library's table as its text lays it. -/
def Tab (w : World) : Prop := TabAt 0 Lib.deBruijn32tab w ∧ 0 < w.heap.size
theorem Tab.below {w w' : World} {B : Nat} (h : Tab w) (hb : Below B w w') (hB : 0 < B) : Tab w' := by
  refine ⟨fun j hj => (hb.cell (p := ⟨0, j, none⟩) hB).trans (h.1 j hj), Nat.lt_of_lt_of_le h.2 hb.size⟩
set_option maxHeartbeats 4000000 in
theorem tz_any (x : Nat) (hx : x < 4294967296) (hx0 : x ≠ 0) (w : World) (hT : Tab w) :
    Calls Tryd.prog 41 #[.int .u32 (x : Int)] w fun e w' => e = .returned (.int .i64 ((Lib.ctz 32 x : Nat) : Int)) ∧ w = w' := by
  obtain ⟨hlow, hk⟩ := Lib.lowest_bit 32 x hx0 hx
  obtain ⟨hi, htab⟩ := Lib.deBruijn32_at _ hk
  have hcell := hT.1 _ hi
  rw [htab] at hcell
  have key := tz32_key x _ hx hx0 hlow
  obtain ⟨k, hkk⟩ : ∃ k, Lib.ctz 32 x = k := ⟨_, rfl⟩
  rw [hkk] at hcell key hk ⊢
  obtain ⟨i, hii⟩ : ∃ i, 2 ^ k * 125613361 % 4294967296 / 134217728 = i := ⟨_, rfl⟩
  rw [hii] at hcell key
  have hi2 : i < 32 := by omega
  have t1 : ((x : Int) == 0) = false := by (simp <;> omega)
  have i1 : (0 : Int) ≤ i := by omega
  have i2 : (i : Int) < 32 := by omega
  clear hlow hi htab hii hkk hT hx0
  go_enter Tryd.func41, Tryd.ntmps41
  go_wp2_with (simp only [key])
  go_ret
  exact ⟨rfl, rfl⟩
end Go.Proofs.YtaklmkjldmbleaaDoor
