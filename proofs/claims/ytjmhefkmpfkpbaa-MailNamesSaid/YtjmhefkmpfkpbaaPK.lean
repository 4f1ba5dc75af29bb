/- Mail: a text that is written -/
import Derived.Test.YtjmhefkmpfkpbaaKA
import Derived.Test.YtjmhefkmpfkpbaaC
import Derived.Test.YtjmhefkmpfkpbaaPA
namespace Go.Proofs.Ytjmhefkmpfkpbaa
open Go.ChangeShapes Go.WideShapes Go.ChangeAt Go.RowKit
set_option linter.unusedSimpArgs false
set_option linter.unusedVariables false
/-- All blocks but one stay. -/
def Only (g : Nat) (w w' : World) : Prop := Below 0 w w' ∧ ∀ b, b < w.heap.size → b ≠ g → w'.heap[b]? = w.heap[b]?
section
variable {w w' w'' : World} {g : Nat}
theorem Only.of_below (h : Below w.heap.size w w') : Only g w w' := ⟨h.mono (Nat.zero_le _), fun b hb _ => h.block b hb⟩
theorem Only.refl (g : Nat) (w : World) : Only g w w := ⟨Below.refl _ _, fun _ _ _ => rfl⟩
theorem Only.trans (h : Only g w w') (h2 : Only g w' w'') : Only g w w'' := ⟨h.1.trans h2.1, fun b hb h3 => (h2.2 b (Nat.lt_of_lt_of_le hb h.1.size) h3).trans (h.2 b hb h3)⟩
theorem Only.below (h : Only g w w') {B : Nat} (hB : B ≤ w.heap.size) (h1 : B ≤ g) : Below B w w' := ⟨h.1.os, h.1.tape, h.1.output, h.1.size, fun b hb => h.2 b (by omega) (by omega)⟩
theorem Only.blk (h : Only g w w') {k : Nat} {t : TypeId} {cs : Array Value} (hk : Blk w k t cs) (h1 : k ≠ g) : Blk w' k t cs := (h.2 k hk.lt h1).trans hk
theorem Only.set_ (w : World) (g i : Nat) (u : Value) : Only g w (w.setCell ⟨g, i, none⟩ u) :=
  ⟨(Below.refl 0 w).setCell (Nat.zero_le _) u, fun b _ h1 => Below.heap_setCell w ⟨g, i, none⟩ u b h1⟩
theorem Only.size (h : Only g w w') : w.heap.size ≤ w'.heap.size := h.1.size
end
/-- A text under way: its box, and its bytes. -/
def Txt (w : World) (g : Nat) (ps : List (Nat × Nat)) : Prop := ∃ A c, Blk w g 92 #[.slice A (total ps) c] ∧ w.ownsRow (g + 1) 5 1 (.slice A (total ps) c) (total ps) (u8s (flat ps))
theorem Txt.lt {w : World} {g : Nat} {ps : List (Nat × Nat)} (h : Txt w g ps) : g < w.heap.size := by
  obtain ⟨A, c, h1, _⟩ := h
  exact h1.lt
theorem Txt.below {w w' : World} {g : Nat} {ps : List (Nat × Nat)} (h : Txt w g ps) (hb : Below w.heap.size w w') : Txt w' g ps := by
  obtain ⟨A, c, h1, h2⟩ := h
  exact ⟨A, c, h1.below hb h1.lt, own_below h2 hb⟩
theorem Txt.new_ (w : World) : Txt (w.alloc (.cells #[.slice none 0 0] 92)) w.heap.size [] := ⟨none, 0, Blk.new w _ _, rfl, .inl ⟨rfl, rfl⟩⟩
theorem own_setT {w : World} {base size n : Nat} {e : TypeId} {v : Value} {xs : List Value} (h : w.ownsRow base e size v n xs) {p : Addr} (hp : p.block < base) (u : Value) : (w.setCell p u).ownsRow base e size v n xs := by
  refine ⟨h.1, ?_⟩
  rcases h.2 with hn | ⟨k, c, cur, rfl, hb, hh, r⟩
  · exact .inl hn
  · exact .inr ⟨k, c, cur, rfl, hb, (show Blk w k e cur from hh).far (by omega) u, r⟩
set_option maxHeartbeats 4000000 in
theorem tnum (g : Nat) (ps : List (Nat × Nat)) (x s : Nat) (hs : okN x s) (hx : x < 9223372036854775808) (hm : total ps + s ≤ 3900) (w : World) (h : Txt w g ps) : Calls Try.prog 53 #[.pointer (some ⟨g, 0, none⟩), .int .i64 (x : Int), .int .i64 (s : Int)] w fun en w' => en = .returned (.tuple #[]) ∧ Txt w' g (ps ++ [(x, s)]) ∧ Only g w w' := by
  have hg := h.lt
  obtain ⟨A, c, h1, h2⟩ := h
  have z0 : w.cell? ⟨g, 0, none⟩ = some (.slice A (total ps) c) := by rw [h1.cell]; rfl
  have hc := putn_any A (total ps) c (flat ps) (flat_len ps) (by omega) x s hs w (Reads.of_own h2)
  have hw : IntKind.u64.wrap (x : Int) = x := by simp [IntKind.wrap, IntKind.bits, IntKind.signed]; omega
  have gm := Lib.hid hm
  clear hm h2
  go_enter Try.func53, Try.ntmps53
  go_wp2_with fail
  (try rw [hw])
  refine hc.mono ?_
  rintro en w2 ⟨hb, ⟨hp, rfl⟩ | ⟨hp, A2, c2, rfl, ho⟩⟩
  · have := gm.out
    simp only [total] at hp
    omega
  have k2 := h1.below hb h1.lt
  have z1 := k2.cell 0
  simp only [List.getElem?_toArray, List.getElem?_cons_zero] at z1
  have f1 := k2.frozen 0
  have gho := Lib.hid ho
  have gb := Lib.hid hb
  have gk := Lib.hid k2
  clear hc z0 hp ho hb k2 h1
  go_wp2
  go_end0
  have k3 := gk.out.set_ 0 (.slice A2 (total ps + total [(x, s)]) c2)
  simp at k3
  exact ⟨rfl, ⟨A2, c2, by rw [total_app]; exact k3, by rw [total_app, flat_app]; exact own_setT (own_mono gho.out (by omega)) (p := ⟨g, 0, none⟩) (by show g < g + 1; omega) _⟩, (Only.of_below gb.out).trans (Only.set_ _ _ _ _)⟩
theorem tflag (g : Nat) (ps : List (Nat × Nat)) (b : Bool) (hm : total ps + 1 ≤ 3900) (w : World) (h : Txt w g ps) : Calls Try.prog 55 #[.pointer (some ⟨g, 0, none⟩), .bool b] w fun en w' => en = .returned (.tuple #[]) ∧ Txt w' g (ps ++ [((if b then 1 else 0), 1)]) ∧ Only g w w' := by
  have hc := tnum g ps (if b then 1 else 0) 1 ⟨by omega, by omega, by cases b <;> decide⟩ (by cases b <;> decide) hm w h
  clear h
  cases b
  all_goals
    go_enter Try.func55, Try.ntmps55
    go_wp2_with fail
    refine hc.mono ?_
    rintro en w2 ⟨rfl, h1, h2⟩
    have g1 := Lib.hid h1
    have g2 := Lib.hid h2
    clear hc h1 h2
    go_wp2
    go_end0
    exact ⟨rfl, g1.out, g2.out⟩
end Go.Proofs.Ytjmhefkmpfkpbaa
