/- Limb: the reference's products and quotients. -/
import Derived.Test.YtaklmkjldmbleaaDoorT
namespace Go.Proofs.YtaklmkjldmbleaaDoor
open Go.ChangeShapes Go.WideShapes Go.ChangeAt Go.RowKit
set_option linter.unusedSimpArgs false
set_option linter.unusedVariables false
def Z8 (n : Nat) : Obj := .cells (ints .u8 (List.replicate n 0)).toArray 5
theorem made8 (n : Nat) : (Obj.cells (madeCells (Value.int .u8 0).cells n) 5) = Z8 n := by
  unfold Z8 madeCells
  congr 1
  apply Array.ext
  · simp
  · intro i h1 h2
    simp [Value.cells, Nat.mod_one]
theorem run_z8 (n : Nat) (hn : n ≤ 100000) (w : World) : (Instr.makeSlice 51 (.int .i64 (n : Int)) (.int .i64 (n : Int))).run Tryd.prog w = .ok (.slice (some ⟨w.heap.size, 0, none⟩) n n) (w.alloc (Z8 n)) := by
  obtain ⟨i0, hi0, hz0, hz1, hz2⟩ := info_parts infoU8
  have := run_make (P := Tryd.prog) w 51 5 i0 _ Tryd.underlying51 hi0 hz0 .i64 .i64 n n (by omega) (Int.le_refl _) (by rw [hz2]; omega) (by omega)
  rw [this, hz1, ← made8]
  simp
def t2 (a : List Nat) (k : Nat) : List Nat := if a.length = 0 then [] else List.replicate k 0 ++ a
theorem t2_val (a : List Nat) (k : Nat) : val 2 (t2 a k) = val 2 a * 2 ^ k := by
  unfold t2
  split
  · rename_i h
    rw [List.eq_nil_of_length_eq_zero h, val_nil, Nat.zero_mul]
  · rw [val_app, val_zero (l := List.replicate k 0) (fun x hx => (List.mem_replicate.1 hx).2), List.length_replicate, Nat.zero_add, Nat.mul_comm]
theorem t2_lt {a : List Nat} (ha : ∀ x ∈ a, x < 2) (k : Nat) : ∀ x ∈ t2 a k, x < 2 := by
  unfold t2
  split
  · intro x hx; cases hx
  · intro x hx
    rcases List.mem_append.1 hx with h | h
    · rw [(List.mem_replicate.1 h).2]; omega
    · exact ha x h
theorem t2_len (a : List Nat) (k : Nat) : (t2 a k).length ≤ k + a.length := by unfold t2; split <;> simp
set_option maxHeartbeats 4000000 in
theorem times2_any (A : Option Addr) (n c k : Nat) (a : List Nat) (hn : a.length = n) (hm : n ≤ 10000) (hk : k ≤ 10000) (m : Nat) (hL : (t2 a k).length = m) (w : World) (hR : Reads w w.heap.size 1 A n (ints .u8 a)) :
    Calls Tryd.prog 34 #[.slice A n c, .int .i64 (k : Int)] w fun en w' => ∃ Ao co, en = .returned (.slice Ao m co) ∧ m ≤ co ∧ Reads w' w'.heap.size 1 Ao m (ints .u8 (t2 a k)) ∧ Below w.heap.size w w' := by
  rcases Nat.eq_zero_or_pos n with h0 | h0
  · have e : t2 a k = [] := by unfold t2; rw [if_pos (by omega)]
    rw [e] at hL ⊢
    have hm0 : 0 = m := hL
    subst hm0 h0
    clear hR hL hn e
    go_enter Tryd.func34, Tryd.ntmps34
    go_wp2
    go_ret
    exact ⟨none, 0, rfl, Nat.le_refl _, Reads.none_, Below.refl _ _⟩
  · obtain ⟨i0, hi0, hz0, hz1, hz2⟩ := info_parts infoU8
    have e : t2 a k = List.replicate k 0 ++ a := by unfold t2; rw [if_neg (by omega)]
    have hm2 : k + n = m := by rw [← hL, e, List.length_append, List.length_replicate, hn]
    rw [e]
    subst hm2
    have hmk := run_z8 k (by omega)
    have hB0 := (Below.refl w.heap.size w).alloc (Nat.le_refl _) (Z8 k)
    have hO := owns_new w w.heap.size (Nat.le_refl _) (ints .u8 (List.replicate k 0)) 5 k (by simp) (by unfold maxLen; omega)
    obtain ⟨Z, hZ⟩ : ∃ Z, Z8 k = Z := ⟨_, rfl⟩
    have hZc : Obj.cells (ints .u8 (List.replicate k 0)).toArray 5 = Z := hZ
    rw [hZ] at hB0
    rw [hZc] at hO
    simp only [hZ] at hmk
    have hR1 := hR.alloc (Nat.le_refl _) Z
    have t1 : ((n : Int) == 0) = false := by (simp <;> omega)
    have t3 : (n == 0) = false := by (simp <;> omega)
    have hsz : w.heap.size ≤ (w.alloc Z).heap.size := by rw [World.size_alloc]; omega
    clear hn hL e hZ hZc hR
    go_enter Tryd.func34, Tryd.ntmps34
    go_wp2_with (at_builtin; refine wpList_append_any _ rfl (.tmp 9) (.tmp 10) 51 rfl w.heap.size 5 i0 _ 1 1 Tryd.underlying51 hi0 hz0 hz1 hz2 rfl (by omega) (.slice (some ⟨w.heap.size, 0, none⟩) k k) k (ints .u8 (List.replicate k 0)) rfl hO w.heap.size A n c (ints .u8 a) rfl hR1 (ints_one _ _) (by unfold maxLen; omega) (by omega) hsz ?_; intro v4 w4 ho4 hg4 _; obtain ⟨A4, c4, rfl, hc4, hr4⟩ := own_slice ho4)
    go_ret
    rw [ints_app] at hr4
    refine ⟨A4, c4, rfl, hc4, hr4, Below.grown hB0 hg4 hsz ?_⟩
    intro q hq
    exact own_base hO hq
theorem prod_len {x y n m : Nat} (hx : x < 2 ^ n) (hy : y < 2 ^ m) : (dig 2 (x * y)).length ≤ n + m := by
  refine dig_len_le (by omega) ?_
  rw [Nat.pow_add]
  rcases Nat.eq_zero_or_pos y with h | h
  · rw [h, Nat.mul_zero]
    exact Nat.mul_pos (Nat.pow_pos (by omega)) (Nat.pow_pos (by omega))
  · exact Nat.lt_of_lt_of_le ((Nat.mul_lt_mul_right h).2 hx) (Nat.mul_le_mul_left _ (by omega))
end Go.Proofs.YtaklmkjldmbleaaDoor
