/- Limb's Door: the program's functions once more, answers that read; 'alive' and 'is'. -/
import Derived.Test.YtaklmkjldmbleaaDoorP
import Derived.Test.YtaklmkjldmbleaaDoorI
namespace Go.Proofs.YtaklmkjldmbleaaDoor
open Go.ChangeShapes Go.WideShapes Go.ChangeAt Go.RowKit
set_option linter.unusedSimpArgs false
set_option linter.unusedVariables false
/-- Limbs and an error that are answered. -/
def RPost (w : World) (L : List Nat) (m : Nat) (E : Int) (en : Ending) (w' : World) : Prop :=
  ∃ A c, en = .returned (.tuple #[.slice A m c, .int .i64 E]) ∧ m ≤ c ∧ Reads w' w'.heap.size 1 A m (ints .u32 L) ∧ Below w.heap.size w w'
theorem rpost {w w' : World} {R : List Nat × Int} {L : List Nat} {m : Nat} {E : Int} {en : Ending} (hR : R = (L, E)) (hm : L.length = m) (h : TOwn w R en w') : RPost w L m E en w' := by
  subst hR hm
  obtain ⟨A, c, e, h1, h2, h3⟩ := h
  exact ⟨A, c, e, h1, h2.reads, h3⟩
section
variable {a b L : List Nat} {E : Int} {m : Nat} (hm : L.length = m) (A A2 : Option Addr) {n n2 : Nat} (c c2 : Nat) (hn : a.length = n) (hn2 : b.length = n2) (ha : ∀ x ∈ a, x < 4294967296) (hb : ∀ x ∈ b, x < 4294967296) (w : World) (hR : Reads w w.heap.size 1 A n (ints .u32 a)) (hR2 : Reads w w.heap.size 1 A2 n2 (ints .u32 b))
include hm hn hn2 ha hb hR hR2 in
theorem addR (h : addS a b = (L, E)) : Calls Tryd.prog 20 #[.slice A n c, .slice A2 n2 c2] w (RPost w L m E) :=
  (add_any A A2 n n2 c c2 a b hn hn2 ha hb w hR hR2).mono fun _ _ h1 => rpost h hm h1
include hm hn hn2 ha hb hR hR2 in
theorem mulR (h : mulS a b = (L, E)) : Calls Tryd.prog 21 #[.slice A n c, .slice A2 n2 c2] w (RPost w L m E) :=
  (mul_any A A2 n n2 c c2 a b hn hn2 ha hb w hR hR2).mono fun _ _ h1 => rpost h hm h1
include hm hn hn2 ha hb hR hR2 in
theorem subR (h : subS a b = (L, E)) : Calls Tryd.prog 23 #[.slice A n c, .slice A2 n2 c2] w (RPost w L m E) :=
  (sub_any A A2 n n2 c c2 a b hn hn2 ha hb w hR hR2).mono fun _ _ h1 => rpost h hm h1
include hm hn ha hR in
theorem leftR {k : Int} (h : leftS a k = (L, E)) : Calls Tryd.prog 9 #[.slice A n c, .int .i64 k] w (RPost w L m E) :=
  (Left_any A n c a k hn ha w hR).mono fun _ _ h1 => rpost h hm h1
include hm hn ha hR in
theorem rightR {k : Int} (hk64 : k < 9223372036854775808) (hnc : n ≤ c) (h : rightS a k = (L, E)) : Calls Tryd.prog 11 #[.slice A n c, .int .i64 k] w (RPost w L m E) :=
  (Right_any A n c a k hk64 hn hnc ha w hR).mono fun _ _ h1 => rpost h hm h1
include hn hn2 ha hb hR hR2 in
theorem cmpR {C E : Int} (h : cmpS a b = (C, E)) : Calls Tryd.prog 24 #[.slice A n c, .slice A2 n2 c2] w fun en w' => en = .returned (.tuple #[.int .i64 C, .int .i64 E]) ∧ Below w.heap.size w w' :=
  (cmp_any A A2 n n2 c c2 a b hn hn2 ha hb w hR hR2).mono fun _ _ h1 => by unfold CPost at h1; rw [h] at h1; exact h1
include hn ha hR in
theorem bitsR {C E : Int} (h : bitsS a = (C, E)) : Calls Tryd.prog 13 #[.slice A n c] w fun en w' => en = .returned (.tuple #[.int .i64 C, .int .i64 E]) ∧ Below w.heap.size w w' :=
  (bits_any A n c a hn ha w hR).mono fun _ _ h1 => by unfold CPost at h1; rw [h] at h1; exact h1
include hn ha hR in
theorem lowR {C E : Int} (hT : Tab w) (h : lowS a = (C, E)) : Calls Tryd.prog 15 #[.slice A n c] w fun en w' => en = .returned (.tuple #[.int .i64 C, .int .i64 E]) ∧ Below w.heap.size w w' :=
  (low_any A n c a hn ha w hR hT).mono fun _ _ h1 => by unfold CPost at h1; rw [h] at h1; exact h1
include hn hn2 ha hb hR hR2 in
theorem divR {q r : List Nat} {mq mr : Nat} (hq : q.length = mq) (hr : r.length = mr) (h : divS a b = (q, r, E)) : Calls Tryd.prog 25 #[.slice A n c, .slice A2 n2 c2] w fun en w' => ∃ Ao co Ar cr, en = .returned (.tuple #[.slice Ao mq co, .slice Ar mr cr, .int .i64 E]) ∧ Reads w' w'.heap.size 1 Ao mq (ints .u32 q) ∧ Reads w' w'.heap.size 1 Ar mr (ints .u32 r) ∧ Below w.heap.size w w' :=
  (div_any A A2 n n2 c c2 a b hn hn2 ha hb w hR hR2).mono fun _ _ h1 => by
    unfold DOwn at h1
    rw [h] at h1
    subst hq hr
    obtain ⟨Ao, co, Ar, cr, e, h1, h2, h4, h3⟩ := h1
    exact ⟨Ao, co, Ar, cr, e, h1.reads, h2.reads, h3⟩
include hn hn2 hR hR2 in
theorem sameR {Q : Bool} (hm : n ≤ 100) (hm2 : n2 ≤ 100) (hQ : decide (a = b) = Q) : Calls Tryd.prog 22 #[.slice A n c, .slice A2 n2 c2] w fun en w' => en = .returned (.bool Q) ∧ Below w.heap.size w w' :=
  (same_any A A2 n n2 c c2 w.heap.size w.heap.size a b hn hn2 (by omega) (by omega) w hR hR2).mono fun _ w' h1 => by
    rw [hQ] at h1
    obtain ⟨e, q, hq⟩ := h1
    exact ⟨e, by rw [hq]; exact below_drewN (Below.refl _ _) q⟩
include hn hn2 hR hR2 in
theorem isR {Q : Bool} (hm : n ≤ 100) (hm2 : n2 ≤ 100) (hQ : decide (a = b) = Q) : Calls Tryd.prog 28 #[.slice A n c, .int .i64 0, .slice A2 n2 c2] w fun en w' => en = .returned (.bool Q) ∧ Below w.heap.size w w' := by
  have h := sameR A A2 c c2 hn hn2 w hR hR2 hm hm2 hQ
  clear hR hR2 hn hn2 hQ
  go_enter Tryd.func28, Tryd.ntmps28
  go_wp2_with (go_at_call 22; (with_reducible refine h.mono ?_); rintro e w1 ⟨rfl, hb⟩)
  go_ret
  exact ⟨rfl, hb⟩
end
theorem ofR {x m : Nat} {L : List Nat} (hx : x < 18446744073709551616) (h : dig 4294967296 x = L) (hm : L.length = m) (w : World) : Calls Tryd.prog 26 #[.int .u64 (x : Int)] w fun en w' => ∃ Ao, en = .returned (.slice Ao m m) ∧ Reads w' w'.heap.size 1 Ao m (ints .u32 L) ∧ Below w.heap.size w w' :=
  (of_any x hx m (by rw [h]; exact hm) w).mono fun _ _ h1 => by
    rw [h] at h1
    obtain ⟨Ao, e, h1, h2⟩ := h1
    exact ⟨Ao, e, h1.reads, h2⟩
theorem dig_is {l : List Nat} {v : Nat} (h1 : (l.all fun x => decide (x < 4294967296)) = true) (h2 : Canon l) (h3 : val 4294967296 l = v) : dig 4294967296 v = l := by
  rw [← h3]
  refine (canon_eq (by omega) (fun x hx => ?_) h2).symm
  have := List.all_eq_true.1 h1 x hx
  simpa using this
theorem e32 : dig 4294967296 4294967296 = [0, 1] := dig_is (by decide) (by decide) rfl
theorem e1 : dig 4294967296 1 = [1] := dig_is (by decide) (by decide) rfl
theorem e2 : dig 4294967296 2 = [2] := dig_is (by decide) (by decide) rfl
theorem e10 : dig 4294967296 10 = [10] := dig_is (by decide) (by decide) rfl
theorem e3 : dig 4294967296 3 = [3] := dig_is (by decide) (by decide) rfl
theorem e12 : dig 4294967296 12 = [12] := dig_is (by decide) (by decide) rfl
theorem eM : dig 4294967296 4294967295 = [4294967295] := dig_is (by decide) (by decide) rfl
theorem sub_ex : subS [0, 1] [1] = ([4294967295], 0) := by
  unfold subS
  rw [if_pos (by decide), show val 4294967296 [0, 1] = 4294967296 from rfl, show val 4294967296 [1] = 1 from rfl, if_neg (by omega), show 4294967296 - 1 = 4294967295 from rfl, eM]
theorem div_ex : divS [10] [3] = ([3], [1], 0) := by
  unfold divS
  rw [if_pos (by decide), if_neg (by decide), show val 4294967296 [10] / val 4294967296 [3] = 3 from rfl, show val 4294967296 [10] % val 4294967296 [3] = 1 from rfl, e3, e1]
theorem low_ex : lowS [12] = (2, 0) := by
  unfold lowS
  rw [if_pos (by decide), show val 4294967296 [12] = 12 from rfl, lowN_eq (t := 2) (m := 1) (by decide)]
  rfl
theorem bits_ex : bitsS [12] = (4, 0) := by
  unfold bitsS
  rw [if_pos (by decide), show val 4294967296 [12] = 12 from rfl]
  rw [bl_eq (N := 12) (k := 3) (by decide) (by decide)]
  rfl
theorem lit_lt {l : List Nat} (h : (l.all fun x => decide (x < 4294967296)) = true) : ∀ x ∈ l, x < 4294967296 := fun x hx => by
  have := List.all_eq_true.1 h x hx
  simpa using this
end Go.Proofs.YtaklmkjldmbleaaDoor
