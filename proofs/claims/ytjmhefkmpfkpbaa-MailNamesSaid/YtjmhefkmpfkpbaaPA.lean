/- Mail: rows of descriptors; whether a descriptor, an edge may be -/
import Derived.Test.YtjmhefkmpfkpbaaProg
import Derived.Test.YtjmhefkmpfkpbaaKA
import Derived.WalkMore
import Derived.IntWalk
import Derived.Lib.Hide
namespace Go.Proofs.Ytjmhefkmpfkpbaa
open Go.ChangeShapes Go.WideShapes Go.ChangeAt Go.RowKit
set_option linter.unusedSimpArgs false
set_option linter.unusedVariables false
abbrev Tm := Int × Int
def tz (l : List Tm) (i : Nat) : Tm := l.getD i (0, 0)
theorem tz_lt {l : List Tm} {i : Nat} (h : i < l.length) : l[i]? = some (tz l i) := by
  unfold tz
  rw [List.getD_eq_getElem?_getD, List.getElem?_eq_getElem h]; rfl
def vT (t : Tm) : List Value := [.int .i64 t.1, .int .i64 t.2]
def T2 (l : List Tm) : List Value := l.flatMap vT
theorem T2_len (l : List Tm) : (T2 l).length = l.length * 2 := by
  induction l with
  | nil => rfl
  | cons x r ih => rw [T2, List.flatMap_cons, List.length_append, show (r.flatMap vT).length = r.length * 2 from ih, List.length_cons]; simp [vT]; omega
theorem T2_app (a b : List Tm) : T2 (a ++ b) = T2 a ++ T2 b := List.flatMap_append ..
theorem T2_at : ∀ (l : List Tm) (i : Nat) (t : Tm), l[i]? = some t → (T2 l)[i * 2]? = some (.int .i64 t.1) ∧ (T2 l)[i * 2 + 1]? = some (.int .i64 t.2)
  | [], i, t, h => by simp at h
  | x :: r, 0, t, h => by
    injection h with h
    subst h
    exact ⟨rfl, rfl⟩
  | x :: r, i + 1, t, h => by
    have := T2_at r i t (by simpa using h)
    rw [show (i + 1) * 2 = i * 2 + 2 by omega]
    exact ⟨this.1, this.2⟩
/-- A row of timers. -/
def Tms (w : World) (B : Nat) (A : Option Addr) (n : Nat) (l : List Tm) : Prop := l.length = n ∧ Reads w B 2 A n (T2 l)
section
variable {w w' : World} {B B' n : Nat} {A : Option Addr} {l : List Tm}
theorem Tms.below (h : Tms w B A n l) (hb : Below B w w') : Tms w' B A n l := ⟨h.1, h.2.below hb⟩
theorem Tms.more (h : Tms w B A n l) (hB : B ≤ B') : Tms w B' A n l := ⟨h.1, h.2.more hB⟩
theorem Tms.none_ : Tms w B A 0 [] := ⟨rfl, Reads.none_⟩
theorem Tms.go (h : Tms w B A n l) (hb : Below B w w') (hB : B ≤ w'.heap.size) : Tms w' w'.heap.size A n l := (h.below hb).more hB
theorem add_lit (a : Addr) {j : Nat} (h : 0 < j) : a.add j = ⟨a.block, a.off + j, none⟩ := by
  unfold Addr.add
  rw [if_neg (by omega)]
theorem Tms.at_ {i : Nat} (h : Tms w B A n l) (hi : i < n) : ∃ ad, A = some ad ∧ ad.block < B ∧ ∀ w', Below B w w' → w'.cell? (ad.add (i * 2)) = some (.int .i64 (tz l i).1) ∧ w'.cell? ⟨(ad.add (i * 2)).block, (ad.add (i * 2)).off + 1, none⟩ = some (.int .i64 (tz l i).2) := by
  obtain ⟨ad, e, hb, hc⟩ := h.2.2 (by omega)
  have ht := T2_at l i (tz l i) (tz_lt (by rw [h.1]; exact hi))
  have h0 := hc _ _ ht.1
  have h1 := hc _ _ ht.2
  rw [← add_of_add, add_lit _ (by omega)] at h1
  exact ⟨ad, e, hb, fun w' hw => ⟨(hw.cell (by rw [block_of_add]; exact hb)).trans h0, (hw.cell (by show (ad.add (i * 2)).block < B; rw [block_of_add]; exact hb)).trans h1⟩⟩
theorem Tms.of_own {base : Nat} {e : TypeId} {c : Nat} (h : w.ownsRow base e 2 (.slice A n c) n (T2 l)) (hl : l.length = n) : Tms w w.heap.size A n l := ⟨hl, Reads.of_own h⟩
end
/-- May a descriptor be? -/
def mayT (t : Tm) : Bool := decide (0 ≤ t.1) && decide (t.1 < 8) && decide (0 ≤ t.2) && decide (t.2 ≤ 2147483647)
set_option maxHeartbeats 4000000 in
theorem dmay (a b : Int) (w : World) (R : Bool) (hR : mayT (a, b) = R) : Calls Try.prog 78 #[.agg #[.int .i64 a, .int .i64 b]] w fun en w' => en = .returned (.bool R) ∧ Below w.heap.size w w' := by
  obtain ⟨q0, hq0⟩ : ∃ q, decide (0 ≤ a) = q := ⟨_, rfl⟩
  obtain ⟨q1, hq1⟩ : ∃ q, decide (a < 8) = q := ⟨_, rfl⟩
  obtain ⟨q2, hq2⟩ : ∃ q, decide (0 ≤ b) = q := ⟨_, rfl⟩
  obtain ⟨q3, hq3⟩ : ∃ q, decide (b ≤ 2147483647) = q := ⟨_, rfl⟩
  have hB := (Below.refl w.heap.size w).alloc (Nat.le_refl _) (.cells #[.int .i64 a, .int .i64 b] 73)
  unfold mayT at hR
  simp only [hq0, hq1, hq2, hq3] at hR
  subst hR
  cases q0 <;> cases q1 <;> cases q2 <;> cases q3
  all_goals
    go_enter Try.func78, Try.ntmps78
    go_wp2
    go_ret
    exact ⟨rfl, hB⟩
/-- May an edge be? -/
def mayE (h : Bool) (x y : Int) : Bool := if h then decide (-2147483647 ≤ x) && decide (x ≤ y) && decide (y ≤ 2147483647) else (x == 0 && y == 0)
set_option maxHeartbeats 4000000 in
theorem edge_any (h : Bool) (x y : Int) (w : World) (R : Bool) (hR : mayE h x y = R) : Calls Try.prog 43 #[.agg #[.bool h, .int .i64 x, .int .i64 y]] w fun en w' => en = .returned (.bool R) ∧ Below w.heap.size w w' := by
  obtain ⟨q0, hq0⟩ : ∃ q, decide (-2147483647 ≤ x) = q := ⟨_, rfl⟩
  obtain ⟨q1, hq1⟩ : ∃ q, decide (x ≤ y) = q := ⟨_, rfl⟩
  obtain ⟨q2, hq2⟩ : ∃ q, decide (y ≤ 2147483647) = q := ⟨_, rfl⟩
  obtain ⟨q3, hq3⟩ : ∃ q, (x == 0) = q := ⟨_, rfl⟩
  obtain ⟨q4, hq4⟩ : ∃ q, (y == 0) = q := ⟨_, rfl⟩
  have hB := (Below.refl w.heap.size w).alloc (Nat.le_refl _) (.cells #[.bool h, .int .i64 x, .int .i64 y] 29)
  unfold mayE at hR
  simp only [hq0, hq1, hq2, hq3, hq4] at hR
  subst hR
  cases h
  · clear hq0 hq1 hq2
    cases q3 <;> cases q4
    all_goals
      go_enter Try.func43, Try.ntmps43
      go_wp2
      go_ret
      exact ⟨rfl, hB⟩
  · clear hq3 hq4
    cases q0 <;> cases q1 <;> cases q2
    all_goals
      go_enter Try.func43, Try.ntmps43
      go_wp2
      go_ret
      exact ⟨rfl, hB⟩
end Go.Proofs.Ytjmhefkmpfkpbaa
