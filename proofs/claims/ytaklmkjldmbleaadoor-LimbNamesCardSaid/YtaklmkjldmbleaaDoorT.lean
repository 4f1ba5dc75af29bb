/- Limb: the reference's answers: errors, a number's limbs, how two stand, sums and differences. -/
import Derived.Test.YtaklmkjldmbleaaDoorS
namespace Go.Proofs.YtaklmkjldmbleaaDoor
open Go.ChangeShapes Go.WideShapes Go.ChangeAt Go.RowKit
set_option linter.unusedSimpArgs false
set_option linter.unusedVariables false
/-- Limbs of a number, if they are not too many. -/
def overS (N : Nat) : List Nat × Int := if (dig 4294967296 N).length ≤ 40 then (dig 4294967296 N, 0) else ([], 10)
def TRead (w : World) (R : List Nat × Int) (en : Ending) (w' : World) : Prop :=
  ∃ A c, en = .returned (.tuple #[.slice A R.1.length c, .int .i64 R.2]) ∧ R.1.length ≤ c ∧ Reads w' w'.heap.size 1 A R.1.length (ints .u32 R.1) ∧ Below w.heap.size w w'
theorem tnil {w w' : World} (hb : Below w.heap.size w w') (e : Int) : TRead w ([], e) (.returned (.tuple #[.slice none 0 0, .int .i64 e])) w' := ⟨none, 0, rfl, Nat.le_refl _, Reads.none_, hb⟩
set_option maxHeartbeats 2000000 in
theorem rtold_any (A : Option Addr) (n c N : Nat) (a : List Nat) (hn : a.length = n) (hm : n ≤ 20000) (hnc : n ≤ c) (ha : ∀ x ∈ a, x < 2) (hv : val 2 a = N) (w : World) (hR : Reads w w.heap.size 1 A n (ints .u8 a)) :
    Calls Tryd.prog 33 #[.slice A n c] w (TRead w (overS N)) := by
  obtain ⟨m, hL⟩ : ∃ m, (dig 4294967296 N).length = m := ⟨_, rfl⟩
  have h := limbs_any A n c a hn hm hnc ha m (by rw [hv]; exact hL) w hR
  rw [hv] at h
  by_cases h40 : m ≤ 40
  · rw [show overS N = (dig 4294967296 N, 0) by unfold overS; rw [if_pos (by omega)]]
    have t1 : decide ((40 : Int) < m) = false := decide_eq_false (by omega)
    have t2 : decide (40 < m) = false := decide_eq_false (by omega)
    have gL := Lib.hid hL
    clear hn hnc ha hv hR hL
    go_enter Tryd.func33, Tryd.ntmps33
    go_wp2_with (go_at_call 38; refine h.mono ?_; rintro e w' ⟨A1, c1, rfl, hc1, hr1, hb1⟩)
    go_ret2
    exact ⟨A1, c1, by simp only [gL.out]; rfl, by simp only [gL.out]; exact hc1, by simp only [gL.out]; exact hr1, hb1⟩
  · rw [show overS N = ([], 10) by unfold overS; rw [if_neg (by omega)]]
    have t1 : decide ((40 : Int) < m) = true := decide_eq_true (by omega)
    have t2 : decide (40 < m) = true := decide_eq_true (by omega)
    clear hn hnc ha hv hR hL
    go_enter Tryd.func33, Tryd.ntmps33
    go_wp2_with (go_at_call 38; refine h.mono ?_; rintro e w' ⟨A1, c1, rfl, hc1, hr1, hb1⟩)
    go_ret2
    exact tnil hb1 10
theorem mayB_len {l : List Nat} (h : mayB l = true) : l.length ≤ 40 := by unfold mayB at h; simp only [decide_eq_true_eq] at h; exact h.1
theorem mayB_canon {l : List Nat} (h : mayB l = true) : Canon l := by unfold mayB at h; simp only [decide_eq_true_eq] at h; exact h.2
/-- Both limbs' numbers, or the error. -/
def both (a b : List Nat) : Bool := mayB a && mayB b
def cmpS (a b : List Nat) : Int × Int := if both a b = true then (cmpI (val 4294967296 a) (val 4294967296 b), 0) else (0, 8)
def addS (a b : List Nat) : List Nat × Int := if both a b = true then overS (val 4294967296 a + val 4294967296 b) else ([], 8)
def mulS (a b : List Nat) : List Nat × Int := if both a b = true then overS (val 4294967296 a * val 4294967296 b) else ([], 8)
def subS (a b : List Nat) : List Nat × Int := if both a b = true then (if val 4294967296 a < val 4294967296 b then ([], 11) else (dig 4294967296 (val 4294967296 a - val 4294967296 b), 0)) else ([], 8)
def CPost (w : World) (R : Int × Int) (en : Ending) (w' : World) : Prop := en = .returned (.tuple #[.int .i64 R.1, .int .i64 R.2]) ∧ Below w.heap.size w w'
theorem dig2_len {n : Nat} {a : List Nat} (hn : a.length ≤ n) (ha : ∀ x ∈ a, x < 4294967296) : (dig 2 (val 4294967296 a)).length ≤ 32 * n := by
  refine dig_len_le (by omega) ?_
  rw [← pow32]
  exact Nat.lt_of_lt_of_le (val_lt ha) (Nat.pow_le_pow_right (by omega) hn)
section
variable (A A2 : Option Addr) (n n2 c c2 : Nat) (a b : List Nat) (hn : a.length = n) (hn2 : b.length = n2) (ha : ∀ x ∈ a, x < 4294967296) (hb : ∀ x ∈ b, x < 4294967296) (w : World) (hR : Reads w w.heap.size 1 A n (ints .u32 a)) (hR2 : Reads w w.heap.size 1 A2 n2 (ints .u32 b))
end
end Go.Proofs.YtaklmkjldmbleaaDoor
