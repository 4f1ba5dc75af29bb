/- Mail: mail's reader: a number taken -/
import Derived.Test.YtjmhefkmpfkpbaaE
import Derived.Test.YtjmhefkmpfkpbaaPK
namespace Go.Proofs.Ytjmhefkmpfkpbaa
open Go.ChangeShapes Go.WideShapes Go.ChangeAt Go.RowKit
set_option linter.unusedSimpArgs false
set_option linter.unusedVariables false
theorem part_range {l : List Int} (hb : ∀ b ∈ l, 0 ≤ b ∧ b < 256) (k s : Nat) : 0 ≤ numI ((l.drop k).take s) ∧ numI ((l.drop k).take s) < ((256 ^ s : Nat) : Int) := by
  have hb2 : ∀ x ∈ l.drop k, 0 ≤ x ∧ x < 256 := fun x hx => hb x (List.mem_of_mem_drop hx)
  rcases Nat.le_or_ge s (l.drop k).length with h | h
  · exact numI_lt hb2 s h
  · rw [List.take_of_length_le h]
    have := numI_lt hb2 (l.drop k).length (Nat.le_refl _)
    rw [List.take_of_length_le (Nat.le_refl _)] at this
    have h2 : 256 ^ (l.drop k).length ≤ 256 ^ s := Nat.pow_le_pow_right (by omega) h
    omega
/-- A reader at a place; none: something was wrong. -/
def Rdb (w : World) (g : Nat) (A : Option Addr) (n c : Nat) : Option Nat → Prop
  | none => Blk w g 69 #[.slice none 0 0, .int .i64 0, .bool true]
  | some p => Blk w g 69 #[.slice A n c, .int .i64 (p : Int), .bool false]
section
variable {w w' : World} {g n c : Nat} {A : Option Addr} {st : Option Nat}
theorem Rdb.lt (h : Rdb w g A n c st) : g < w.heap.size := by
  cases st with
  | none => exact Blk.lt h
  | some p => exact Blk.lt h
theorem Rdb.below (h : Rdb w g A n c st) (hb : Below w.heap.size w w') : Rdb w' g A n c st := by
  cases st with
  | none => exact Blk.below h hb (Blk.lt h)
  | some p => exact Blk.below h hb (Blk.lt h)
theorem Rdb.far (h : Rdb w g A n c st) {q : Addr} (hq : g ≠ q.block) (u : Value) : Rdb (w.setCell q u) g A n c st := by
  cases st with
  | none => exact Blk.far h hq u
  | some p => exact Blk.far h hq u
theorem Rdb.keep (h : Rdb w g A n c st) (hk : w'.heap[g]? = w.heap[g]?) : Rdb w' g A n c st := by
  cases st with
  | none => exact hk.trans h
  | some p => exact hk.trans h
theorem Rdb.wrong (h : Rdb w g A n c st) : w.cell? ⟨g, 2, none⟩ = some (.bool st.isNone) := by
  cases st with
  | none => rw [Blk.cell (cs := #[.slice none 0 0, .int .i64 0, .bool true]) h]; rfl
  | some p => rw [Blk.cell (cs := #[.slice A n c, .int .i64 (p : Int), .bool false]) h]; rfl
end
/-- The next number, and what is left. -/
def rN (l : List Int) (st : Option Nat) (s : Nat) : Option Nat × Int :=
  match st with
  | none => (none, 0)
  | some p => if p + s ≤ l.length then (some (p + s), numI ((l.drop p).take s)) else (none, 0)
theorem rN_le {l : List Int} {st : Option Nat} {s : Nat} : ∀ p, (rN l st s).1 = some p → p ≤ l.length := fun p h => by
  unfold rN at h
  cases st with
  | none => simp at h
  | some q =>
    simp only at h
    split at h
    · simp at h; omega
    · simp at h
theorem rN_range {l : List Int} (hb : ∀ b ∈ l, 0 ≤ b ∧ b < 256) (st : Option Nat) (s : Nat) : 0 ≤ (rN l st s).2 ∧ (rN l st s).2 < ((256 ^ s : Nat) : Int) := by
  have hp : 0 < 256 ^ s := Nat.pow_pos (by omega)
  unfold rN
  cases st with
  | none => exact ⟨Int.le_refl _, by simp only; omega⟩
  | some q =>
    simp only
    split
    · exact part_range hb q s
    · exact ⟨Int.le_refl _, by simp only; omega⟩
set_option maxRecDepth 100000 in
set_option maxHeartbeats 8000000 in
theorem rnum_some (g : Nat) (A : Option Addr) (n c p : Nat) (N E : Int) (R : Value) (A2 : Option Addr) (n2 c2 : Nat) (p2 : Int) (hR : R = .agg #[.slice A2 n2 c2, .int .i64 p2]) (W2 : Bool) (hW2 : (E != 0) = W2) (s : Int) (hN : IntKind.i64.wrap N = N) (w : World) (hk : Blk w g 69 #[.slice A n c, .int .i64 (p : Int), .bool false])
    (hc : Calls Try.prog 67 #[.agg #[.slice A n c, .int .i64 (p : Int)], .int .i64 s] w fun en w' => en = .returned (.tuple #[R, .int .u64 N, .int .i64 E]) ∧ Below w.heap.size w w') :
    Calls Try.prog 33 #[.pointer (some ⟨g, 0, none⟩), .int .i64 s] w fun en w' => en = .returned (.int .i64 N) ∧ Blk w' g 69 #[.slice A2 n2 c2, .int .i64 p2, .bool W2] ∧ Only g w w' := by
  subst hR
  have a0 := hk.cell 0
  have a1 := hk.cell 1
  have a2 := hk.cell 2
  simp only [List.getElem?_toArray, List.getElem?_cons_zero, List.getElem?_cons_succ] at a0 a1 a2
  have hlt := hk.lt
  go_enter Try.func33, Try.ntmps33
  go_wp2_with fail
  refine hc.mono ?_
  rintro en w1 ⟨rfl, hb1⟩
  obtain ⟨U, hU⟩ : ∃ U, U = w1.alloc (.cells #[.slice A2 n2 c2, .int .i64 p2] 67) := ⟨_, rfl⟩
  have hbU : Below w1.heap.size w1 U := by rw [hU]; exact (Below.refl _ _).alloc (Nat.le_refl _) _
  have ku : Blk U w1.heap.size 67 #[.slice A2 n2 c2, .int .i64 p2] := by rw [hU]; exact Blk.new _ _ _
  have k1 := (hk.below hb1 hk.lt).below hbU (Nat.lt_of_lt_of_le hk.lt hb1.size)
  have s1 := hb1.size
  go_upto_region 4 with (fail)
  rw [← hU]
  have b0 := k1.cell 0
  have b1 := k1.cell 1
  have b2 := k1.cell 2
  have bf0 := k1.frozen 0
  have bf1 := k1.frozen 1
  have bf2 := k1.frozen 2
  have u0 := ku.cell 0
  have u1 := ku.cell 1
  simp only [List.getElem?_toArray, List.getElem?_cons_zero, List.getElem?_cons_succ] at b0 b1 b2 u0 u1
  have gO := Lib.hid ((Only.of_below (g := g) hb1).trans (Only.of_below hbU))
  have gk := Lib.hid k1
  clear hU hbU ku k1 hc hb1 a0 a1 a2 hk
  go_wp2
  go_ret
  have k3 := ((gk.out.set_ 0 (.slice A2 n2 c2)).set_ 1 (.int .i64 p2)).set_ 2 (.bool W2)
  simp at k3
  exact ⟨rfl, k3, ((gO.out.trans (Only.set_ _ _ _ _)).trans (Only.set_ _ _ _ _)).trans (Only.set_ _ _ _ _)⟩
set_option maxHeartbeats 4000000 in
theorem rnum_none (g : Nat) (s : Int) (w : World) (hk : Blk w g 69 #[.slice none 0 0, .int .i64 0, .bool true]) :
    Calls Try.prog 33 #[.pointer (some ⟨g, 0, none⟩), .int .i64 s] w fun en w' => en = .returned (.int .i64 0) ∧ w' = w := by
  have a2 := hk.cell 2
  simp only [List.getElem?_toArray, List.getElem?_cons_zero, List.getElem?_cons_succ] at a2
  go_enter Try.func33, Try.ntmps33
  go_wp2
  go_ret
  exact ⟨rfl, rfl⟩
theorem rnum_any (g : Nat) (A : Option Addr) (n c : Nat) (l : List Int) (hn : l.length = n) (hb : ∀ b ∈ l, 0 ≤ b ∧ b < 256) (hm : n ≤ 100000) (hnc : n ≤ c) (s : Nat) (j : Int) (hj : j = (s : Int)) (h1 : 1 ≤ s) (h4 : s ≤ 4) (st : Option Nat) (hst : ∀ p, st = some p → p ≤ n) (w : World) (hk : Rdb w g A n c st) (hR : Reads w w.heap.size 1 A n (u8s l)) :
    Calls Try.prog 33 #[.pointer (some ⟨g, 0, none⟩), .int .i64 j] w fun en w' => en = .returned (.int .i64 (rN l st s).2) ∧ Rdb w' g A n c (rN l st s).1 ∧ Only g w w' := by
  subst hj
  cases st with
  | none =>
    refine (rnum_none g s w hk).mono ?_
    rintro en w' ⟨rfl, rfl⟩
    exact ⟨rfl, hk, Only.refl _ _⟩
  | some p =>
    have hp := hst p rfl
    by_cases hs : p + s ≤ n
    · have e : rN l (some p) s = (some (p + s), numI ((l.drop p).take s)) := by unfold rN; rw [hn]; exact if_pos hs
      rw [e]
      have hr := part_range hb p s
      have h8 : (256 ^ s : Nat) ≤ 256 ^ 4 := Nat.pow_le_pow_right (by omega) h4
      exact rnum_some g A n c p _ 0 _ A n c ((p + s : Nat) : Int) rfl false rfl s (IntWalk.i64_in _ (by omega)) w hk (num_ok A n c l hn hb hm hnc p s h1 (by omega) hs w hR)
    · have e : rN l (some p) s = (none, 0) := by unfold rN; rw [hn]; exact if_neg hs
      rw [e]
      exact rnum_some g A n c p 0 40 _ none 0 0 0 rfl true rfl s rfl w hk (num_short A n c hm p s h1 (by omega) hp (by omega) w)
end Go.Proofs.Ytjmhefkmpfkpbaa
